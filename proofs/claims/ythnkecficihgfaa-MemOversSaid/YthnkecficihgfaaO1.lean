/- Overlay: walks. -/
import Derived.Test.YthnkecficihgfaaK0
import Derived.Lib.Hide
namespace Go.Proofs.Ythnkecficihgfaa.O
open Go.RowKit Go.Proofs.YthnkecficihgfaaW.PrintWords Go.Proofs.YthnkecficihgfaaW.PrintLast Go.Proofs.YthnkecficihgfaaW.PrintMore
set_option linter.unusedVariables false
set_option linter.unusedSimpArgs false

structure Ov where
  has : List Bool
  val : List Int
def Ov.many (o : Ov) : Int := ((o.has.filter id).length : Int)
theorem Ov.many_range (o : Ov) : 0 ≤ o.many ∧ o.many ≤ o.has.length := by
  unfold Ov.many
  have := List.length_filter_le id o.has
  omega
def Ov.cells (o : Ov) : Array Value := (o.has.map Value.bool ++ (o.val.map (Value.int .i64) ++ [Value.int .i64 o.many])).toArray
def Ov.ok (o : Ov) : Prop := o.has.length = 64 ∧ o.val.length = 64
def Holds (w : World) (b : Nat) (o : Ov) : Prop := w.heap[b]? = some (.cells o.cells 42 (0, 0)) ∧ o.ok

theorem Holds.hasCell {w : World} {b : Nat} {o : Ov} (h : Holds w b o) (i : Nat) (hi : i < 64) : w.cell? ⟨b, i, none⟩ = some (.bool (o.has.getD i false)) := by
  obtain ⟨h1, h2, h3⟩ := h
  refine (blk_cell h1 i).trans ?_
  simp [Ov.cells, List.getElem?_append_left, h2, hi, List.getD_eq_getElem?_getD]
theorem Holds.valCell {w : World} {b : Nat} {o : Ov} (h : Holds w b o) (i : Nat) (hi : i < 64) : w.cell? ⟨b, 64 + i, none⟩ = some (.int .i64 (o.val.getD i 0)) := by
  obtain ⟨h1, h2, h3⟩ := h
  refine (blk_cell h1 (64 + i)).trans ?_
  simp [Ov.cells, List.getElem?_append_right, List.getElem?_append_left, h2, h3, hi, List.getD_eq_getElem?_getD]
theorem Holds.manyCell {w : World} {b : Nat} {o : Ov} (h : Holds w b o) : w.cell? ⟨b, 128, none⟩ = some (.int .i64 o.many) := by
  obtain ⟨h1, h2, h3⟩ := h
  refine (blk_cell h1 128).trans ?_
  simp [Ov.cells, List.getElem?_append_right, h2, h3]
theorem Holds.frozen {w : World} {b : Nat} {o : Ov} (h : Holds w b o) (i : Nat) : w.frozen? ⟨b, i, none⟩ = false := blk_frozen h.1 i

set_option maxHeartbeats 400000 in
theorem len_calls (b : Nat) (o : Ov) (w : World) (h : Holds w b o) :
    Calls Try.prog 24 #[.pointer (some ⟨b, 0, none⟩)] w fun e w' => e = .returned (.int .i64 o.many) ∧ w = w' := by
  have hm := h.manyCell
  go_enter Try.func24, Try.ntmps24
  go_wp2
  go_ret
  exact ⟨rfl, rfl⟩

set_option maxHeartbeats 400000 in
theorem get_far (b : Nat) (o : Ov) (a : Int) (w : World) (h : Holds w b o) (ha : a < 0 ∨ 64 ≤ a) :
    Calls Try.prog 20 #[.pointer (some ⟨b, 0, none⟩), .int .i64 a] w fun e w' => e = .returned (.tuple #[.int .i64 0, .bool false]) ∧ w = w' := by
  rcases ha with ha | ha
  · go_enter Try.func20, Try.ntmps20
    go_wp2
    go_ret2
    exact ⟨rfl, rfl⟩
  · have ha' : ¬ a < 0 := by omega
    go_enter Try.func20, Try.ntmps20
    go_wp2
    go_ret2
    exact ⟨rfl, rfl⟩

set_option maxHeartbeats 400000 in
theorem get_in (b : Nat) (o : Ov) (a : Nat) (w : World) (h : Holds w b o) (ha : a < 64) :
    Calls Try.prog 20 #[.pointer (some ⟨b, 0, none⟩), .int .i64 a] w fun e w' => e = .returned (.tuple #[.int .i64 (if o.has.getD a false = true then o.val.getD a 0 else 0), .bool (o.has.getD a false)]) ∧ w = w' := by
  have h1 := h.hasCell a ha
  have h2 := h.valCell a ha
  generalize o.val.getD a 0 = v at *
  cases hb : o.has.getD a false with
  | false =>
    rw [hb] at h1
    clear hb
    have ha' : (a : Int) < 64 := by omega
    have ha2 : ¬ (a : Int) < 0 := by omega
    have ha3 : 0 ≤ (a : Int) := by omega
    go_enter Try.func20, Try.ntmps20
    go_wp2
    go_ret2
    exact ⟨rfl, rfl⟩
  | true =>
    rw [hb] at h1
    clear hb
    have ha' : (a : Int) < 64 := by omega
    have ha2 : ¬ (a : Int) < 0 := by omega
    have ha3 : 0 ≤ (a : Int) := by omega
    go_enter Try.func20, Try.ntmps20
    go_wp2
    go_ret2
    exact ⟨rfl, rfl⟩

/-- A word laid over place a. -/
def Ov.put (o : Ov) (a : Nat) (v : Int) : Ov := ⟨o.has.set a true, o.val.set a v⟩

theorem grown_set (w : World) (g i : Nat) (u : Value) : w.grownBy (w.setCell ⟨g, i, none⟩ u) (some g) :=
  ⟨rfl, rfl, rfl, by simp, fun k _ hk => Below.heap_setCell w ⟨g, i, none⟩ u k (fun e => hk (by rw [e]))⟩

def SetPost (b : Nat) (o : Ov) (a : Nat) (v : Int) (w : World) (e : Ending) (w' : World) : Prop :=
  e = .returned (.bool true) ∧ Holds w' b (o.put a v) ∧ w.grownBy w' (some b)

theorem filter_set_true (l : List Bool) : ∀ a, a < l.length → ((l.set a true).filter id).length = (l.filter id).length + (if l.getD a false = true then 0 else 1) := by
  induction l with
  | nil => intro a h; simp at h
  | cons x l ih =>
    intro a h
    cases a with
    | zero => cases x <;> simp
    | succ a =>
      have := ih a (by simpa using h)
      cases x <;> simp_all <;> omega

theorem many_put (o : Ov) (a : Nat) (v : Int) (h : a < o.has.length) : (o.put a v).many = o.many + if o.has.getD a false = true then 0 else 1 := by
  have := filter_set_true o.has a h
  unfold Ov.many Ov.put
  simp only
  rw [this]
  split <;> rfl

theorem put_cells (o : Ov) (a : Nat) (v : Int) (h1 : o.has.length = 64) (h2 : o.val.length = 64) (ha : a < 64) :
    (o.put a v).cells = (((o.cells.setIfInBounds 128 (.int .i64 (o.put a v).many)).setIfInBounds a (.bool true)).setIfInBounds (64 + a) (.int .i64 v)) := by
  have e1 : ((o.has.map Value.bool ++ (o.val.map (Value.int .i64) ++ [Value.int .i64 o.many])).set 128 (.int .i64 (o.put a v).many)) = o.has.map Value.bool ++ (o.val.map (Value.int .i64) ++ [Value.int .i64 (o.put a v).many]) := by
    rw [List.set_append_right _ _ (by simp [h1]), List.set_append_right _ _ (by simp [h1, h2])]
    simp [h1, h2]
  have e2 : ((o.has.map Value.bool ++ (o.val.map (Value.int .i64) ++ [Value.int .i64 (o.put a v).many])).set a (.bool true)) = (o.put a v).has.map Value.bool ++ (o.val.map (Value.int .i64) ++ [Value.int .i64 (o.put a v).many]) := by
    rw [List.set_append_left _ _ (by simp [h1, ha])]
    simp [Ov.put, List.map_set]
  have e3 : (((o.put a v).has.map Value.bool ++ (o.val.map (Value.int .i64) ++ [Value.int .i64 (o.put a v).many])).set (64 + a) (.int .i64 v)) = (o.put a v).has.map Value.bool ++ ((o.put a v).val.map (Value.int .i64) ++ [Value.int .i64 (o.put a v).many]) := by
    have hl : ((o.put a v).has.map Value.bool).length = 64 := by simp [Ov.put, h1]
    rw [List.set_append_right _ _ (by omega), List.set_append_left _ _ (by simp [hl, h2, ha]), hl, show 64 + a - 64 = a from by omega]
    simp [Ov.put, List.map_set]
  apply Array.ext'
  simp only [Ov.cells, Array.toList_setIfInBounds]
  rw [e1, e2, e3]

theorem put_ok (o : Ov) (a : Nat) (v : Int) (h : o.ok) : (o.put a v).ok := by
  unfold Ov.ok Ov.put at *
  simpa using h

theorem same_many (o : Ov) (h1 : o.has.length = 64) (h2 : o.val.length = 64) : o.cells.setIfInBounds 128 (.int .i64 o.many) = o.cells := by
  apply Array.ext'
  simp only [Ov.cells, Array.toList_setIfInBounds]
  rw [List.set_append_right _ _ (by simp [h1]), List.set_append_right _ _ (by simp [h1, h2])]
  simp [h1, h2]

theorem grown_drew {w w' : World} {row : Option Nat} (h : w.grownBy w' row) : w.grownBy w'.drew row := ⟨h.os, h.tape, h.output, h.size, h.block⟩

/-- What a Set leaves, where nothing was laid over the place. -/
theorem set_close_new {w : World} {b : Nat} {o : Ov} (h : Holds w b o) (a : Nat) (v : Int) (ha : a < 64) (hn : o.has.getD a false = false) :
    SetPost b o a v w (.returned (.bool true)) (((w.setCell ⟨b, 128, none⟩ (.int .i64 (o.many + 1))).setCell ⟨b, a, none⟩ (.bool true)).setCell ⟨b, 64 + a, none⟩ (.int .i64 v)).drew := by
  obtain ⟨h1, h2, h3⟩ := h
  have hm := many_put o a v (by omega)
  rw [hn] at hm
  simp only [Bool.false_eq_true, if_false] at hm
  refine ⟨rfl, ⟨?_, put_ok o a v ⟨h2, h3⟩⟩, grown_drew (((grown_set w b _ _).trans (grown_set _ b _ _)).trans (grown_set _ b _ _))⟩
  refine blk_drew ?_
  rw [put_cells o a v h2 h3 ha, hm]
  exact blk_set (blk_set (blk_set h1 128 _) a _) (64 + a) _

/-- What a Set leaves, where something was laid over the place. -/
theorem set_close_old {w : World} {b : Nat} {o : Ov} (h : Holds w b o) (a : Nat) (v : Int) (ha : a < 64) (hn : o.has.getD a false = true) :
    SetPost b o a v w (.returned (.bool true)) ((w.setCell ⟨b, a, none⟩ (.bool true)).setCell ⟨b, 64 + a, none⟩ (.int .i64 v)).drew := by
  obtain ⟨h1, h2, h3⟩ := h
  have hm := many_put o a v (by omega)
  rw [hn] at hm
  simp only [if_true, Int.add_zero] at hm
  refine ⟨rfl, ⟨?_, put_ok o a v ⟨h2, h3⟩⟩, grown_drew ((grown_set w b _ _).trans (grown_set _ b _ _))⟩
  refine blk_drew ?_
  rw [put_cells o a v h2 h3 ha, hm, same_many o h2 h3]
  exact blk_set (blk_set h1 a _) (64 + a) _

set_option maxHeartbeats 400000 in
theorem set_new (b : Nat) (o : Ov) (a : Nat) (v : Int) (w : World) (h : Holds w b o) (ha : a < 64) (hn : o.has.getD a false = false) :
    Calls Try.prog 19 #[.pointer (some ⟨b, 0, none⟩), .int .i64 a, .int .i64 v] w (SetPost b o a v w) := by
  have hc := Lib.hid (set_close_new h a v ha hn)
  have h1 := h.hasCell a ha
  have h2 := h.valCell a ha
  have h3 := h.manyCell
  have f1 := h.frozen a
  have f2 := h.frozen (64 + a)
  have f3 := h.frozen 128
  rw [hn] at h1
  have hm := o.many_range
  have hk := h.2.1
  clear hn
  generalize o.val.getD a 0 = v0 at *
  have hm1 : 0 ≤ o.many := hm.1
  have hm2 : o.many ≤ 64 := by omega
  clear hm hk
  have ha' : (a : Int) < 64 := by omega
  have ha2 : ¬ (a : Int) < 0 := by omega
  have ha3 : 0 ≤ (a : Int) := by omega
  go_enter Try.func19, Try.ntmps19
  go_wp2
  go_region
  all_goals
    go_wp2
    go_ret
    exact hc.out

set_option maxHeartbeats 400000 in
theorem set_old (b : Nat) (o : Ov) (a : Nat) (v : Int) (w : World) (h : Holds w b o) (ha : a < 64) (hn : o.has.getD a false = true) :
    Calls Try.prog 19 #[.pointer (some ⟨b, 0, none⟩), .int .i64 a, .int .i64 v] w (SetPost b o a v w) := by
  have hc := Lib.hid (set_close_old h a v ha hn)
  have h1 := h.hasCell a ha
  have h2 := h.valCell a ha
  have h3 := h.manyCell
  have f1 := h.frozen a
  have f2 := h.frozen (64 + a)
  have f3 := h.frozen 128
  rw [hn] at h1
  have hm := o.many_range
  have hk := h.2.1
  clear hn
  generalize o.val.getD a 0 = v0 at *
  have hm1 : 0 ≤ o.many := hm.1
  have hm2 : o.many ≤ 64 := by omega
  clear hm hk
  have ha' : (a : Int) < 64 := by omega
  have ha2 : ¬ (a : Int) < 0 := by omega
  have ha3 : 0 ≤ (a : Int) := by omega
  go_enter Try.func19, Try.ntmps19
  go_wp2
  go_region
  all_goals
    go_wp2
    go_ret
    exact hc.out


theorem set_in (b : Nat) (o : Ov) (a : Nat) (v : Int) (w : World) (h : Holds w b o) (ha : a < 64) :
    Calls Try.prog 19 #[.pointer (some ⟨b, 0, none⟩), .int .i64 a, .int .i64 v] w (SetPost b o a v w) := by
  cases hb : o.has.getD a false
  · exact set_new b o a v w h ha hb
  · exact set_old b o a v w h ha hb

set_option maxHeartbeats 400000 in
theorem set_far (b : Nat) (a v : Int) (w : World) (ha : a < 0 ∨ 64 ≤ a) :
    Calls Try.prog 19 #[.pointer (some ⟨b, 0, none⟩), .int .i64 a, .int .i64 v] w fun e w' => e = .returned (.bool false) ∧ w = w' := by
  rcases ha with ha | ha
  · go_enter Try.func19, Try.ntmps19
    go_wp2
    go_ret
    exact ⟨rfl, rfl⟩
  · have ha' : ¬ a < 0 := by omega
    go_enter Try.func19, Try.ntmps19
    go_wp2
    go_ret
    exact ⟨rfl, rfl⟩

end Go.Proofs.Ythnkecficihgfaa.O
