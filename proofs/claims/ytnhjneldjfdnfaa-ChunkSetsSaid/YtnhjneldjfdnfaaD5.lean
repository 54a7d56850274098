/- The dealer: how far it is, and set. -/
import Derived.Test.YtnhjneldjfdnfaaD4
import Derived.Test.YtnhjneldjfdnfaaOB
import Derived.StillTailTactics
namespace Go.Proofs.Ytnhjneldjfdnfaa.K
open Go.RowKit Go.Proofs.YtnhjneldjfdnfaaW.PrintWords Go.Proofs.YtnhjneldjfdnfaaW.PrintLast Go.Proofs.YtnhjneldjfdnfaaW.PrintMore
attribute [local go_sem] max2_int min2_int max_two min_two max_three min_three max_four min_four
set_option linter.unusedVariables false
set_option linter.unusedSimpArgs false

def NowPost (d : D) (w : World) (e : Ending) (w' : World) : Prop :=
  ∃ v, e = .returned (.tuple #[.int .i64 d.nx, v]) ∧ Kd.R (Kd.int .i64) 3 w' w.heap.size (fun _ => True) v d.tn ∧ Below w.heap.size w w'

set_option maxHeartbeats 1000000 in
theorem now_calls (base b bt ct : Nat) (d : D) (w : World) (h : DH w base b bt ct d) :
    Calls Try.prog 12 #[.pointer (some ⟨b, 0, none⟩)] w (NowPost d w) := by
  have c4 : w.cell? ⟨b, 4, none⟩ = some (.int .i64 d.nx) := (blk_cell h.cells 4).trans rfl
  have c5 : w.cell? ⟨b, 5, none⟩ = some (.slice (some ⟨bt, 0, none⟩) d.tn.length ct) := (blk_cell h.cells 5).trans rfl
  have htn := Aside0.mk (Kd.R_reads' h.turns).2.2
  have hlen := h.ok.2.2.2.2.2.2.2.2.2.2.1
  have hlen2 := h.ok.2.2.2.2.2.1
  have hbl : b < w.heap.size := (dh_lt h).1
  clear h
  go_enter Try.func12, Try.ntmps12
  go_wp2
  go_region_held3 (fun w' => w'.cell? ⟨b, 4, none⟩ = some (.int .i64 d.nx) ∧ w'.cell? ⟨b, 5, none⟩ = some (.slice (some ⟨bt, 0, none⟩) d.tn.length ct)) (go_keep)
    ((refine Kd.R_append_rows_step (Kd.int .i64) (w0 := w) w.heap.size (by rfl) (.const (.slice none 0 0)) (.tmp 11) 23 3 (.int .i64 0) 8 (by rfl) Try.underlying23 info3 rfl (by decide) (by omega) (.slice none 0 0) [] d.tn _ _ _ (fun _ => True) (fun _ => False) (by rfl) (by rfl) (Kd.R_nil _ _ _ _ _) htn.out (fun _ _ h => h) (fun _ h => h.elim) (fun _ _ => trivial) (by first | exact Below.refl _ _ | exact below_drew (Below.refl _ _) | exact pw_below_drewN (Below.refl _ _) _) (Nat.le_refl _) (by simp; omega) ?_; intro v1 w1 ho hb hg hat; clear hg hat; have hb4 := hb.cell (p := ⟨b, 4, none⟩) hbl; have hb5 := hb.cell (p := ⟨b, 5, none⟩) hbl; have HO := Aside0.mk ho; have HB := Aside0.mk hb; clear ho hb))
  all_goals go_wp2

  go_ret2
  exact ⟨_, rfl, by simpa using HO.out, HB.out⟩

/-- Can a dealer be set so? -/
def D.can (d : D) (next : Int) (l : List Int) : Prop := 0 ≤ next ∧ next ≤ d.n ∧ (l.length : Int) = d.wk ∧ ∀ t ∈ l, 0 ≤ t ∧ t ≤ d.n
def D.put (d : D) (next : Int) (l : List Int) : D := { d with nx := next, tn := l }
theorem put_ok {d : D} (h : d.ok) {next : Int} {l : List Int} (hc : d.can next l) : (d.put next l).ok := by
  obtain ⟨o1, o2, o3, o4, o5, o6, o7, o8, o9, o10, o11, o12⟩ := h
  obtain ⟨c1, c2, c3, c4⟩ := hc
  exact ⟨o1, o2, o3, o4, o5, o6, o7, o8, c1, c2, c3, c4⟩
def SetPost (base b bt ct : Nat) (d : D) (next : Int) (l : List Int) (w : World) (e : Ending) (w' : World) : Prop :=
  (d.can next l ∧ e = .returned (.bool true) ∧ DH w' base b bt ct (d.put next l) ∧ Fr w w' b bt) ∨ (¬ d.can next l ∧ e = .returned (.bool false) ∧ DH w' base b bt ct d ∧ Fr w w' b bt)
theorem fr_refl (w : World) (b bt : Nat) : Fr w w b bt := ⟨rfl, rfl, rfl, Nat.le_refl _, fun _ _ _ _ => rfl⟩
theorem fr_drewN {w w1 : World} {b bt : Nat} (h : Fr w w1 b bt) (n : Nat) : Fr w (w1.drewN n) b bt := ⟨h.os, h.tape, h.output, h.size, h.block⟩

/-- Whose numbers came in. -/
structure Came (w0 w : World) (b bt : Nat) (A : Option Addr) (l : List Int) : Prop where
  c : Kd.C (Kd.int .i64) w0 A l.length l
  hb : Below w0.heap.size w0 w
theorem came_C {w0 w : World} {b bt : Nat} {A : Option Addr} {l : List Int} (h : Came w0 w b bt A l) : Kd.C (Kd.int .i64) w A l.length l := Kd.C_below h.c h.hb

set_option maxHeartbeats 1000000 in
theorem set_no1 (base b bt ct : Nat) (d : D) (next : Int) (A : Option Addr) (cap : Nat) (l : List Int) (w : World) (h : DH w base b bt ct d) (hn : next < 0) :
    Calls Try.prog 15 #[.pointer (some ⟨b, 0, none⟩), .int .i64 next, .slice A l.length cap] w (SetPost base b bt ct d next l w) := by
  have HH := Aside0.mk h
  clear h
  go_enter Try.func15, Try.ntmps15
  go_wp2
  go_ret
  exact .inr ⟨fun hc => by have := hc.1; omega, rfl, HH.out, fr_refl _ _ _⟩
set_option maxHeartbeats 1000000 in
theorem set_no2 (base b bt ct : Nat) (d : D) (next : Int) (A : Option Addr) (cap : Nat) (l : List Int) (w : World) (h : DH w base b bt ct d) (h0 : 0 ≤ next) (hn : d.n < next) :
    Calls Try.prog 15 #[.pointer (some ⟨b, 0, none⟩), .int .i64 next, .slice A l.length cap] w (SetPost base b bt ct d next l w) := by
  have c1 : w.cell? ⟨b, 1, none⟩ = some (.int .i64 d.n) := (blk_cell h.cells 1).trans rfl
  have HH := Aside0.mk h
  clear h
  go_enter Try.func15, Try.ntmps15
  go_wp2
  go_ret
  exact .inr ⟨fun hc => by have := hc.2.1; omega, rfl, HH.out, fr_refl _ _ _⟩
set_option maxHeartbeats 1000000 in
theorem set_no3 (base b bt ct : Nat) (d : D) (next : Int) (A : Option Addr) (cap : Nat) (l : List Int) (w : World) (h : DH w base b bt ct d) (h0 : 0 ≤ next) (h1 : next ≤ d.n) (hn : (l.length : Int) ≠ d.wk) :
    Calls Try.prog 15 #[.pointer (some ⟨b, 0, none⟩), .int .i64 next, .slice A l.length cap] w (SetPost base b bt ct d next l w) := by
  have c1 : w.cell? ⟨b, 1, none⟩ = some (.int .i64 d.n) := (blk_cell h.cells 1).trans rfl
  have c2 : w.cell? ⟨b, 2, none⟩ = some (.int .i64 d.wk) := (blk_cell h.cells 2).trans rfl
  have g1 : decide (d.n < next) = false := decide_eq_false (by omega)
  have g2 : ((l.length : Int) != d.wk) = true := by rw [bne_iff_ne]; exact hn
  have HH := Aside0.mk h
  have HN := Aside0.mk hn
  clear h hn
  go_enter Try.func15, Try.ntmps15
  go_wp2
  go_ret
  exact .inr ⟨fun hc => HN.out hc.2.2.1, rfl, HH.out, fr_refl _ _ _⟩

theorem dh_put {w w1 : World} {base b bt ct : Nat} {d : D} {next : Int} {l : List Int} (h : DH w base b bt ct { d with nx := next }) (hl : l.length = d.tn.length)
    (ho : Kd.R (Kd.int .i64) 3 w1 base (fun _ => True) (.slice (some ⟨bt, 0, none⟩) d.tn.length ct) (l.take (min l.length d.tn.length) ++ d.tn.drop (min l.length d.tn.length))) (hg : w.grownBy w1 (some bt)) (hok : (d.put next l).ok) : DH w1 base b bt ct (d.put next l) := by
  have hne := (dh_lt h).2.2
  have e : l.take (min l.length d.tn.length) ++ d.tn.drop (min l.length d.tn.length) = l := by
    rw [hl, Nat.min_self, ← hl, List.take_length, hl, List.drop_length, List.append_nil]
  rw [e] at ho
  have hc := blk_grown h.cells hg (fun e => hne (by injection e))
  refine ⟨?_, ?_, hok, h.low, h.lowt⟩
  · have e2 : dcells (d.put next l) b bt ct = dcells { d with nx := next } b bt ct := by
      unfold dcells D.put
      simp only [hl]
    rw [e2]
    exact hc
  · have e3 : (d.put next l).tn.length = d.tn.length := hl
    rw [e3]
    exact ho
theorem fr_put {w w1 : World} {b bt : Nat} {u : Value} (hg : (w.setCell ⟨b, 4, none⟩ u).grownBy w1 (some bt)) : Fr w w1 b bt :=
  ⟨hg.os, hg.tape, hg.output, by have := hg.size; simpa using this, fun k hk n1 n2 => (hg.block k (by simpa using hk) (fun e => n2 (by injection e))).trans (Below.heap_setCell w ⟨b, 4, none⟩ u k n1)⟩

set_option maxHeartbeats 2000000 in
theorem set_more (base b bt ct : Nat) (d : D) (next : Int) (A : Option Addr) (cap : Nat) (l : List Int) (w w0 : World) (h : DH w base b bt ct d) (h0 : 0 ≤ next) (h1 : next ≤ d.n) (hn : (l.length : Int) = d.wk) (hc : Came w0 w b bt A l) (hbase : w0.heap.size ≤ base) :
    Calls Try.prog 15 #[.pointer (some ⟨b, 0, none⟩), .int .i64 next, .slice A l.length cap] w (SetPost base b bt ct d next l w) := by
  have c1 : w.cell? ⟨b, 1, none⟩ = some (.int .i64 d.n) := (blk_cell h.cells 1).trans rfl
  have c2 : w.cell? ⟨b, 2, none⟩ = some (.int .i64 d.wk) := (blk_cell h.cells 2).trans rfl
  have c4 : w.cell? ⟨b, 4, none⟩ = some (.int .i64 d.nx) := (blk_cell h.cells 4).trans rfl
  have c5 : w.cell? ⟨b, 5, none⟩ = some (.slice (some ⟨bt, 0, none⟩) d.tn.length ct) := (blk_cell h.cells 5).trans rfl
  have g1 : decide (d.n < next) = false := decide_eq_false (by omega)
  have g2 : ((l.length : Int) != d.wk) = false := by rw [bne_eq_false_iff_eq]; exact hn
  have hl8 := h.ok.2.2.2.2.2.1
  have hn200 := h.ok.2.2.2.1
  have HH := Aside0.mk h
  have HN := Aside0.mk hn
  have HC := Aside0.mk hc
  have hll : (l.length : Int) ≤ 8 := by omega
  have hqb := blk_frozen h.cells 4
  have hqt := h.ok.2.2.2.2.2.2.2.2.2.2.1
  clear h hn hc
  go_enter Try.func15, Try.ntmps15
  go_wp2
  go_loop [30] (fun v => ∃ k : Nat, k ≤ l.length ∧ v = .int .i64 k ∧ Aside0 (∀ j : Nat, j < k → 0 ≤ l.getD j 0 ∧ l.getD j 0 ≤ d.n)) (fun v => l.length - (intOf v).toNat)
  case atStart => exact ⟨0, Nat.zero_le _, rfl, ⟨fun j hj => by omega⟩⟩
  case round =>
    obtain ⟨k, hk, rfl, HJ⟩ := hrel
    by_cases hlt : k < l.length
    · have i0 : (0 : Int) ≤ k := by omega
      have i1 : (k : Int) < l.length := by omega
      obtain ⟨ad, ea, hx⟩ := Kd.at_int (came_C HC.out) k i0 i1
      cases ea
      have hrd : rd l (k : Int) = l.getD k 0 := by simp [rd]
      have hmem : l.getD k 0 ∈ l := by
        have e : l.getD k 0 = l[k] := by simp [List.getD_eq_getElem?_getD, hlt]
        rw [e]
        exact List.getElem_mem hlt
      rw [hrd] at hx
      simp only [Int.toNat_natCast] at hx
      have HM := Aside0.mk hmem
      have HJ2 := Aside0.mk (fun (hq : 0 ≤ l.getD k 0 ∧ l.getD k 0 ≤ d.n) (j : Nat) (hj : j < k + 1) => show 0 ≤ l.getD j 0 ∧ l.getD j 0 ≤ d.n by
        by_cases e : j = k
        · subst e; exact hq
        · exact HJ.out j (by omega))
      clear hrd hmem
      generalize l.getD k 0 = v at *
      by_cases q0 : v < 0
      · go_wp2
        go_ret
        exact .inr ⟨fun hc => by have := (hc.2.2.2 _ HM.out).1; omega, rfl, HH.out, fr_refl _ _ _⟩
      · by_cases q1 : d.n < v
        · go_wp2
          go_ret
          exact .inr ⟨fun hc => by have := (hc.2.2.2 _ HM.out).2; omega, rfl, HH.out, fr_refl _ _ _⟩
        · have q1' : decide (d.n < v) = false := decide_eq_false q1
          go_wp2
          go_round
          case rel => exact ⟨k + 1, by omega, by go_num, ⟨HJ2.out (by omega)⟩⟩
          case measure => simp [intOf]; omega
    · have e : k = l.length := by omega
      subst e
      have hcan := Aside0.mk (show d.can next l from ⟨h0, h1, HN.out, fun t ht => by
        obtain ⟨j, hj, e⟩ := List.mem_iff_getElem.1 ht
        have := HJ.out j hj
        have e2 : l.getD j 0 = t := by rw [← e]; simp [List.getD_eq_getElem?_getD, hj]
        rw [e2] at this
        exact this⟩)
      have hW1 := Aside0.mk (dh_next HH.out next h0 h1)
      have hW2 := Aside0.mk (Kd.C_below HC.out.c (below_set (j := 4) (v := .int .i64 next) HC.out.hb (Nat.le_trans hbase HH.out.low)))
      have e5 : (w.setCell ⟨b, 4, none⟩ (.int .i64 next)).cell? ⟨b, 5, none⟩ = some (.slice (some ⟨bt, 0, none⟩) d.tn.length ct) := (blk_cell hW1.out.cells 5).trans rfl
      have hnb : bt ≠ b := fun e => (dh_lt HH.out).2.2 e.symm
      have hbs := Aside0.mk (Nat.le_of_lt (Nat.lt_of_le_of_lt HH.out.low (dh_lt HH.out).1))
      go_wp2_with (first | ((with_reducible refine gate_builtin (b := .copy) (xs := #[.tmp 52, .tmp 53]) rfl ?_); refine Kd.R_copy (0 : Int) (w0 := w.setCell ⟨b, 4, none⟩ (.int .i64 next)) base rfl (.tmp 52) (.tmp 53) 23 23 3 rfl Try.underlying23 (by kernel_rfl) (.slice (some ⟨bt, 0, none⟩) d.tn.length ct) d.tn l A l.length cap (fun _ => True) rfl rfl hW1.out.turns hW2.out (Below.refl _ _) (by simpa using hbs.out) ?_; intro w1 ho hb hg; have m1_ := Aside0.mk ho; have m2_ := Aside0.mk hg; clear ho hb hg))
      go_ret
      exact .inl ⟨hcan.out, rfl, dh_put (d := d) hW1.out (by have := HN.out; omega) m1_.out m2_.out (put_ok HH.out.ok hcan.out), fr_put (b := b) m2_.out⟩

theorem set_calls (base b bt ct : Nat) (d : D) (next : Int) (A : Option Addr) (cap : Nat) (l : List Int) (w w0 : World) (h : DH w base b bt ct d) (hc : Came w0 w b bt A l) (hbase : w0.heap.size ≤ base) :
    Calls Try.prog 15 #[.pointer (some ⟨b, 0, none⟩), .int .i64 next, .slice A l.length cap] w (SetPost base b bt ct d next l w) := by
  by_cases h0 : next < 0
  · exact set_no1 base b bt ct d next A cap l w h h0
  · by_cases h1 : d.n < next
    · exact set_no2 base b bt ct d next A cap l w h (by omega) h1
    · by_cases h2 : (l.length : Int) = d.wk
      · exact set_more base b bt ct d next A cap l w w0 h (by omega) (by omega) h2 hc hbase
      · exact set_no3 base b bt ct d next A cap l w h (by omega) (by omega) h2

end Go.Proofs.Ytnhjneldjfdnfaa.K
