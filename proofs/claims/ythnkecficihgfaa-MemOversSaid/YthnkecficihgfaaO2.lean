/- Overlay: Clear and Cells walked. -/
import Derived.Test.YthnkecficihgfaaO1
import Derived.Deep.MidRow
import Derived.Deep.WholeRow
namespace Go.Proofs.Ythnkecficihgfaa.O
open Go.RowKit Go.Proofs.YthnkecficihgfaaW.PrintWords Go.Proofs.YthnkecficihgfaaW.PrintLast Go.Proofs.YthnkecficihgfaaW.PrintMore Go.Proofs.Ythnkecficihgfaa.K
set_option linter.unusedVariables false
set_option linter.unusedSimpArgs false

/-- Cells set one by one. -/
def sets (cs : Array Value) : Nat → List Value → Array Value
  | _, [] => cs
  | o, v :: vs => sets (cs.setIfInBounds o v) (o + 1) vs

theorem heap_setCells {b : Nat} {t : TypeId} : ∀ (vs : List Value) (o : Nat) (w : World) (cs : Array Value), w.heap[b]? = some (.cells cs t (0, 0)) → (w.setCells b o vs).heap[b]? = some (.cells (sets cs o vs) t (0, 0))
  | [], _, _, _, h => h
  | v :: vs, o, w, cs, h => heap_setCells vs (o + 1) _ _ (blk_set h o v)

theorem sets_all : ∀ (vs : List Value) (o : Nat) (cs : Array Value), o + vs.length = cs.size → (sets cs o vs).toList = cs.toList.take o ++ vs
  | [], o, cs, h => by
    simp only [sets, List.append_nil, List.length_nil, Nat.add_zero] at *
    rw [List.take_of_length_le (by simp; omega)]
  | v :: vs, o, cs, h => by
    simp only [List.length_cons] at h
    rw [sets, sets_all vs (o + 1) _ (by simp; omega)]
    simp only [Array.toList_setIfInBounds]
    have ho : o < cs.toList.length := by simp; omega
    rw [List.take_succ_eq_append_getElem (by simpa using ho)]
    have e : List.take o (cs.toList.set o v) = List.take o cs.toList := by
      apply List.ext_getElem?
      intro i
      simp only [List.getElem?_take]
      by_cases c : i < o
      · simp [c, List.getElem?_set_ne (show o ≠ i by omega)]
      · simp [c]
    rw [e]
    simp

theorem grown_sets (b : Nat) : ∀ (vs : List Value) (o : Nat) (w : World), w.grownBy (w.setCells b o vs) (some b)
  | [], _, w => ⟨rfl, rfl, rfl, Nat.le_refl _, fun _ _ _ => rfl⟩
  | v :: vs, o, w => (grown_set w b o v).trans (grown_sets b vs (o + 1) _)

def Ov.none : Ov := ⟨List.replicate 64 false, List.replicate 64 0⟩
theorem info42 : (Try.prog.info? 42).map (fun i => (i.zero, i.size)) = some (some (.agg Ov.none.cells), 129) := by kernel_rfl
theorem none_size : Ov.none.cells.size = 129 := by decide +kernel
theorem none_one : Ov.none.cells.all (·.oneCell') = true := by decide +kernel
theorem zero42 (w : World) : (zeroValue 42).run Try.prog w = .ok (.agg Ov.none.cells) w := (zero_of_info info42).1 w
theorem size42 : (Try.prog.info? 42).map (·.size) = some Ov.none.cells.size := by rw [none_size]; exact (zero_of_info info42).2
theorem none_ok : Ov.none.ok := ⟨by decide +kernel, by decide +kernel⟩
theorem Ov.size (o : Ov) (h : o.ok) : o.cells.size = 129 := by
  obtain ⟨h1, h2⟩ := h
  simp [Ov.cells, h1, h2]

theorem holds_there {w : World} {b : Nat} {o : Ov} (h : Holds w b o) : w.there b 0 Ov.none.cells.size := by
  intro j hj
  rw [none_size] at hj
  refine ⟨?_, h.frozen _⟩
  rw [blk_cell h.1, Nat.zero_add]
  have := o.size h.2
  simp [Array.getElem?_eq_getElem (show j < o.cells.size by omega)]

theorem clear_close {w : World} {b : Nat} {o : Ov} (h : Holds w b o) : Holds (w.setCells b 0 Ov.none.cells.toList) b Ov.none ∧ w.grownBy (w.setCells b 0 Ov.none.cells.toList) (some b) := by
  refine ⟨⟨?_, none_ok⟩, grown_sets b _ 0 w⟩
  have h1 := heap_setCells Ov.none.cells.toList 0 w o.cells h.1
  have h2 := sets_all Ov.none.cells.toList 0 o.cells (by rw [Array.length_toList, none_size, o.size h.2])
  rw [h1]
  have h3 : sets o.cells 0 Ov.none.cells.toList = Ov.none.cells := by
    apply Array.ext'
    rw [h2]
    simp
  rw [h3]

set_option maxHeartbeats 400000 in
theorem clear_calls (b : Nat) (o : Ov) (w : World) (h : Holds w b o) :
    Calls Try.prog 22 #[.pointer (some ⟨b, 0, none⟩)] w fun e w' => e = .returned (.tuple #[]) ∧ Holds w' b Ov.none ∧ w.grownBy w' (some b) := by
  have hc := Lib.hid (clear_close h)
  have ht := Lib.hid (holds_there h)
  have hz := zero42
  clear h
  generalize hZ : Ov.none.cells = Z at *
  have hs := Lib.hid size42
  have ho := Lib.hid none_one
  rw [hZ] at hs ho
  clear hZ
  go_enter Try.func22, Try.ntmps22
  go_wp2_with (refine wpList_store_mid rfl 42 _ _ rfl b 0 Z rfl rfl ht.out hs.out ho.out ?_)
  go_end0
  exact ⟨rfl, hc.out⟩

/-- What is laid over the places below i, rising. -/
def Ov.row (o : Ov) : Nat → List S47
  | 0 => []
  | i + 1 => if o.has.getD i false = true then o.row i ++ [(⟨(i : Int), o.val.getD i 0⟩ : S47)] else o.row i
theorem Ov.row_len (o : Ov) : ∀ i, (o.row i).length ≤ i
  | 0 => by simp [Ov.row]
  | i + 1 => by
    have := Ov.row_len o i
    rw [Ov.row]
    by_cases c : o.has.getD i false = true
    · rw [if_pos c]; simp; omega
    · rw [if_neg c]; omega

theorem has_range {w : World} {b : Nat} {o : Ov} (h : Holds w b o) : w.rangeAt b 0 (o.has.map Value.bool) := by
  intro j v hj
  rw [List.getElem?_map] at hj
  obtain ⟨x, hx, rfl⟩ := Option.map_eq_some_iff.1 hj
  have hl := (List.getElem?_eq_some_iff.1 hx).1
  have := h.hasCell j (by have := h.2.1; omega)
  rw [List.getD_eq_getElem?_getD, hx] at this
  simpa using this

theorem run_index_bools (l : List Bool) (i : Nat) (w : World) (hl : l.length = 64) (hi : i < 64) : (Instr.index 39 (.agg (l.map Value.bool).toArray) (.int .i64 i)).run Try.prog w = .ok (.bool (l.getD i false)) w := by
  obtain ⟨i0, hi4, hs4⟩ : ∃ i0, Try.prog.info? 4 = some i0 ∧ i0.size = 1 := by
    have : (Try.prog.info? 4).map (·.size) = some 1 := by kernel_rfl
    cases h : Try.prog.info? 4 with
    | none => simp [h] at this
    | some i0 => exact ⟨i0, rfl, by simpa [h] using this⟩
  have hsz : (sizeOf 4).run Try.prog w = .ok 1 w := by simp [sizeOf, typeInfo, hi4, hs4]
  have hag : (isAgg 4).run Try.prog w = .ok false w := by
    unfold isAgg
    rw [Sem.run_bind, run_underlying Try.underlying4 w]
    rfl
  have hc : (l.map Value.bool).toArray[i]? = some (.bool (l.getD i false)) := by
    simp [List.getD_eq_getElem?_getD, List.getElem?_eq_getElem (show i < l.length by omega)]
  unfold Instr.index
  have hlt : (i : Int) < ((64 : Nat) : Int) := by omega
  simp only [asIntOf, Sem.run_bind, Sem.run_pure, Result.andThen_ok, run_underlying Try.underlying39 w]
  rw [if_pos ⟨by omega, hlt⟩]
  simp only [Sem.run_bind, hsz, Result.andThen_ok, part, hag, Bool.false_eq_true, if_false, Int.toNat_natCast, Nat.mul_one, hc, Sem.run_pure]

def CellsPost (o : Ov) (w : World) (e : Ending) (w' : World) : Prop := ∃ v0_ : Value, e = .returned (v0_) ∧ Kd.R k47 47 w' w.heap.size (fun _ => True) v0_ (o.row 64) ∧ Below w.heap.size w w'

set_option maxHeartbeats 1000000 in
theorem cells_calls (b : Nat) (o : Ov) (w : World) (h : Holds w b o) :
    Calls Try.prog 25 #[.pointer (some ⟨b, 0, none⟩)] w (CellsPost o w) := by
  have hr := Lib.hid (has_range h)
  have hv : ∀ i, i < 64 → Aside0 (w.cell? ⟨b, 64 + i, none⟩ = some (.int .i64 (o.val.getD i 0))) := fun i hi => ⟨h.valCell i hi⟩
  have HV := Lib.hid hv
  clear hv
  have hix : ∀ (i : Nat) (w' : World), i < 64 → (Instr.index 39 (.agg (o.has.map Value.bool).toArray) (.int .i64 i)).run Try.prog w' = .ok (.bool (o.has.getD i false)) w' := fun i w' hi => run_index_bools o.has i w' h.2.1 hi
  have HX := Lib.hid hix
  clear hix
  have hsz : (Try.prog.info? 39).map (·.size) = some (o.has.map Value.bool).length := by
    rw [List.length_map, h.2.1]
    kernel_rfl
  have HZ := Lib.hid hsz
  clear hsz h
  have HB := Aside0.mk (Below.refl w.heap.size w)
  have hu47 := Try.underlying47
  generalize hl : o.has.map Value.bool = L at *
  clear hl
  go_enter Try.func25, Try.ntmps25
  go_wp2_with (refine wpList_load_mid rfl 39 _ rfl b 0 rfl L _ hr.out Try.underlying39 rfl HZ.out ?_)
  go_loopw [3, 10] (fun v3 v10 w' => ∃ i : Nat, i ≤ 64 ∧ v10 = .int .i64 i ∧ Aside0 (Kd.R k47 47 w' w.heap.size (fun _ => True) v3 (o.row i)) ∧ Aside0 (Below w.heap.size w w')) (fun _ v10 _ => 64 - (intOf v10).toNat)
  case atStart => exact ⟨0, by omega, rfl, ⟨Kd.R_nil _ _ _ _ _⟩, HB⟩
  case round =>
    obtain ⟨i, hi, rfl, HR, HB⟩ := hrel
    by_cases hlt : i < 64
    · have hx : ∀ w', (Instr.index 39 (.agg L.toArray) (.int .i64 i)).run Try.prog w' = .ok (.bool (o.has.getD i false)) w' := fun w' => HX.out i w' hlt
      have hv := (HV.out i hlt).out
      have hv := (HB.out.cell (World.block_lt_of_cell? w _ hv)).trans hv
      have hrow : o.row (i + 1) = if o.has.getD i false = true then o.row i ++ [(⟨(i : Int), o.val.getD i 0⟩ : S47)] else o.row i := rfl
      have hlen := o.row_len i
      generalize o.val.getD i 0 = v at *
      have p0 : (i : Int) < 64 := by omega
      have p1 : (0 : Int) ≤ i := by omega
      cases hb : o.has.getD i false with
      | false =>
        rw [hb] at hx hrow
        rw [if_neg (by decide)] at hrow
        rw [← hrow] at HR
        clear hb hrow hlen
        go_wp2
        go_roundw
        case rel => exact ⟨i + 1, by omega, by go_num, HR, HB⟩
        case measure => simp [intOf]; omega
      | true =>
        rw [hb] at hx hrow
        rw [if_pos rfl] at hrow
        have HROW := Lib.hid hrow
        clear hb hrow
        go_wp2_with (first | ((with_reducible refine gate_builtin (b := .append) (xs := #[.tmp 15, .tmp 24]) rfl ?_); at_builtin; refine Kd.R_append k47 (w0 := w) w.heap.size rfl (.tmp 15) (.tmp 24) 22 47 (.agg #[(.int .i64 0), (.int .i64 0)]) 16 rfl Try.underlying22 info47 rfl (by decide) (by omega) u3 (o.row i) (⟨(i : Int), v⟩ : S47) [.int .i64 i, .int .i64 v] (fun _ => True) (fun _ => False) rfl rfl ?aP (fun _ hk => hk.elim) ?aF ?aO ?aB ?aS ?aL ?_; (case aP => exact k47_mkM _ _ _ (⟨(i : Int), v⟩ : S47)); (case aB => exact (by repeat (first | (with_reducible first | exact HB.out | apply below_alloc | apply pw_below_drewN | apply below_drew1) | exact HB.out))); (case aF => exact (fun _ _ => trivial)); (case aO => exact (by (with_reducible repeat (first | apply Kd.R_alloc | apply Kd.R_drewN | apply Kd.R_drew)); exact HR.out)); (case aS => exact (below_size (by repeat (first | (with_reducible first | exact HB.out | apply below_alloc | apply pw_below_drewN | apply below_drew1) | exact HB.out)))); (case aL => omega); intro v132 w7 ho hb hg hat; rw [← HROW.out] at ho; have n0_ := Aside0.mk (hb); have n1_ := Aside0.mk (ho); clear HB; clear HR; have HB := n0_; have HR := n1_; clear n0_ n1_; clear ho hb hg hat))
        go_roundw
        case rel => exact ⟨i + 1, by omega, by go_num, HR, HB⟩
        case measure => simp [intOf]; omega
    · have e : i = 64 := by omega
      subst e
      go_wp2
      go_ret
      exact ⟨_, rfl, HR.out, HB.out⟩
end Go.Proofs.Ythnkecficihgfaa.O
