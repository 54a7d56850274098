/- Same, walked by hand. -/
import Derived.Test.YtclhpdnldnifcaaK1
import Derived.Lib.Hide
import Derived.Deep.RegionHeld3
namespace Go.Proofs.Ytclhpdnldnifcaa.K
open Go.RowKit Go.Proofs.YtclhpdnldnifcaaW.PrintWords Go.Proofs.YtclhpdnldnifcaaW.PrintLast Go.Proofs.YtclhpdnldnifcaaW.PrintMore
attribute [local go_sem] max2_int min2_int max_two min_two max_three min_three max_four min_four
attribute [local go_sem high] eqA33
set_option linter.unusedVariables false
set_option linter.unusedSimpArgs false

def tokEq (pl : Bool) (x y : S33) : Bool := x.f0 == y.f0 && (x.f1.toList == y.f1.toList && (x.f2 == y.f2 && (!pl || x.f3 == y.f3)))
def sameGo (pl : Bool) : List S33 → List S33 → Bool
  | [], [] => true
  | x :: xs, y :: ys => tokEq pl x y && sameGo pl xs ys
  | _, _ => false
def outriderref03_Same.f (l0 l1 : List S33) (pl : Bool) : Option Bool := some (sameGo pl l0 l1)
theorem same_len (pl : Bool) : ∀ l0 l1 : List S33, sameGo pl l0 l1 = true → l0.length = l1.length
  | [], [], _ => rfl
  | x :: xs, y :: ys, h => by
    unfold sameGo at h
    rw [Bool.and_eq_true] at h
    have := same_len pl xs ys h.2
    simp [this]
  | [], y :: ys, h => by simp [sameGo] at h
  | x :: xs, [], h => by simp [sameGo] at h
theorem same_drop (pl : Bool) (l0 l1 : List S33) (i : Nat) (h0 : i < l0.length) (h1 : i < l1.length) : sameGo pl (l0.drop i) (l1.drop i) = (tokEq pl (rd_T33 l0 (i : Int)) (rd_T33 l1 (i : Int)) && sameGo pl (l0.drop (i + 1)) (l1.drop (i + 1))) := by
  rw [List.drop_eq_getElem_cons h0, List.drop_eq_getElem_cons h1]
  have e0 : rd_T33 l0 (i : Int) = l0[i] := by simp [rd_T33, List.getD_eq_getElem?_getD, h0]
  have e1 : rd_T33 l1 (i : Int) = l1[i] := by simp [rd_T33, List.getD_eq_getElem?_getD, h1]
  rw [e0, e1]
  rfl

theorem blk_new2 (w : World) (o1 o2 : Obj) : ((w.alloc o1).alloc o2).heap[w.heap.size + 1]? = some o2 := by
  have := blk_new (w.alloc o1) o2
  simpa using this

def SRel (l0 l1 : List S33) (pl r : Bool) (w : World) (v7 : Value) (w' : World) : Prop :=
  ∃ i : Nat, i ≤ l0.length ∧ v7 = .int .i64 i ∧ Aside0 (sameGo pl (l0.drop i) (l1.drop i) = r) ∧ Aside0 (Below w.heap.size w w')
def SPost (r : Bool) (w : World) (e : Ending) (w' : World) : Prop := e = .returned (.bool r) ∧ Below w.heap.size w w'

set_option maxHeartbeats 1000000 in
theorem same_ne (A0 : Option Addr) (c0 : Nat) (A1 : Option Addr) (c1 n0 n1 : Nat) (pl : Bool) (w : World) (h : n0 ≠ n1) :
    Calls Try.prog 10 #[.slice A0 n0 c0, .slice A1 n1 c1, .bool pl] w (SPost false w) := by
  have h' : ((n0 : Int) != (n1 : Int)) = true := by rw [bne_iff_ne]; omega
  go_enter Try.func10, Try.ntmps10
  go_wp2
  go_ret
  exact ⟨rfl, Below.refl _ _⟩

set_option maxHeartbeats 4000000 in
set_option maxRecDepth 100000 in
theorem same_main (A0 : Option Addr) (c0 : Nat) (l0 : List S33) (A1 : Option Addr) (c1 : Nat) (l1 : List S33) (pl : Bool) (w : World) (hr0 : Kd.C k33 w A0 l0.length l0) (hr1 : Kd.C k33 w A1 l1.length l1) (h : l0.length = l1.length) :
    Calls Try.prog 10 #[.slice A0 l0.length c0, .slice A1 l1.length c1, .bool pl] w (SPost (sameGo pl l0 l1) w) := by
  have hmax := Kd.C_max hr0
  have HR0 := Aside0.mk hr0
  have HR1 := Aside0.mk (show Kd.C k33 w A1 l0.length l1 by rw [h]; exact hr1)
  have HL := Lib.hid h
  have HB := Aside0.mk (Below.refl w.heap.size w)
  rw [← h]
  generalize hq : sameGo pl l0 l1 = r at *
  have HQ := Aside0.mk (show sameGo pl (l0.drop 0) (l1.drop 0) = r from hq)
  clear hr0 hr1 h hq
  go_enter Try.func10, Try.ntmps10
  go_wp2
  go_loopw [7] (fun v7 w' => SRel l0 l1 pl r w v7 w') (fun v7 _ => l0.length - (intOf v7).toNat)
  case atStart => exact ⟨0, Nat.zero_le _, rfl, HQ, HB⟩
  case round =>
    clear HQ HB
    unfold SRel at hrel
    obtain ⟨i, hi, rfl, HQ, HB⟩ := hrel
    by_cases hlt : i < l0.length
    · have i0 : (0 : Int) ≤ (i : Int) := by omega
      have i1 : (i : Int) < (l0.length : Int) := by omega
      obtain ⟨ad0, ea0, x0, x1, x2, x3⟩ := at_T33 (Kd.C_below HR0.out HB.out) (i : Int) i0 i1
      obtain ⟨ad1, ea1, y0, y1, y2, y3⟩ := at_T33 (Kd.C_below HR1.out HB.out) (i : Int) i0 i1
      cases ea0
      cases ea1
      have HD := Lib.hid (same_drop pl l0 l1 i hlt (by have := HL.out; omega))
      generalize rd_T33 l0 (i : Int) = x at *
      generalize rd_T33 l1 (i : Int) = y at *
      obtain ⟨X0, X1, X2, X3⟩ := x
      obtain ⟨Y0, Y1, Y2, Y3⟩ := y
      simp only [Int.toNat_natCast] at x0 x1 x2 x3 y0 y1 y2 y3
      go_wp2
      go_cut [8, 9] (fun v8 v9 wc => ∃ b8 b9 : Nat, v8 = .pointer (some ⟨b8, 0, none⟩) ∧ v9 = .pointer (some ⟨b9, 0, none⟩) ∧ b8 ≠ b9 ∧ Aside0 (wc.heap[b8]? = some (.cells #[.int .i64 X0, .string X1, .int .i64 X2, .int .i64 X3] 33 (0, 0))) ∧ Aside0 (wc.heap[b9]? = some (.cells #[.int .i64 Y0, .string Y1, .int .i64 Y2, .int .i64 Y3] 33 (0, 0))) ∧ Aside0 (Below w.heap.size w wc) ∧ Aside0 (w.heap.size ≤ b8 ∧ w.heap.size ≤ b9))
      case first =>
        have n0 := World.new_ne wr _ x0
        have n1 := World.new_ne wr _ x1
        have n2 := World.new_ne wr _ x2
        have n3 := World.new_ne wr _ x3
        have n4 := World.new_ne wr _ y0
        have n5 := World.new_ne wr _ y1
        have n6 := World.new_ne wr _ y2
        have n7 := World.new_ne wr _ y3
        go_region_held3 (fun w' => w'.cell? (ad0.add (i * 4)) = some (.int .i64 X0) ∧ w'.cell? ⟨(ad0.add (i * 4)).block, (ad0.add (i * 4)).off + 1, none⟩ = some (.string X1) ∧ w'.cell? ⟨(ad0.add (i * 4)).block, (ad0.add (i * 4)).off + 2, none⟩ = some (.int .i64 X2) ∧ w'.cell? ⟨(ad0.add (i * 4)).block, (ad0.add (i * 4)).off + 3, none⟩ = some (.int .i64 X3) ∧ w'.cell? (ad1.add (i * 4)) = some (.int .i64 Y0) ∧ w'.cell? ⟨(ad1.add (i * 4)).block, (ad1.add (i * 4)).off + 1, none⟩ = some (.string Y1) ∧ w'.cell? ⟨(ad1.add (i * 4)).block, (ad1.add (i * 4)).off + 2, none⟩ = some (.int .i64 Y2) ∧ w'.cell? ⟨(ad1.add (i * 4)).block, (ad1.add (i * 4)).off + 3, none⟩ = some (.int .i64 Y3)) (go_keep)
          (fail)
        all_goals go_wp2_with fail
        all_goals go_meet
        · exact ⟨wr.heap.size, wr.heap.size + 1, rfl, rfl, by omega, ⟨by repeat (first | exact blk_new _ _ | refine blk_drew ?_ | refine blk_drewN ?_ _ | refine blk_alloc ?_ _)⟩, ⟨by repeat (first | exact blk_new2 _ _ _ | refine blk_drew ?_ | refine blk_drewN ?_ _)⟩, ⟨by repeat (first | exact HB.out | apply below_alloc | apply pw_below_drewN | apply below_drew)⟩, ⟨⟨below_size HB.out, Nat.le_succ_of_le (below_size HB.out)⟩⟩⟩
        · exact ⟨wr.heap.size + 1, wr.heap.size, rfl, rfl, by omega, ⟨by repeat (first | exact blk_new2 _ _ _ | refine blk_drew ?_ | refine blk_drewN ?_ _)⟩, ⟨by repeat (first | exact blk_new _ _ | refine blk_drew ?_ | refine blk_drewN ?_ _ | refine blk_alloc ?_ _)⟩, ⟨by repeat (first | exact HB.out | apply below_alloc | apply pw_below_drewN | apply below_drew)⟩, ⟨⟨Nat.le_succ_of_le (below_size HB.out), below_size HB.out⟩⟩⟩
      case rest =>
        obtain ⟨b8, b9, rfl, rfl, hne, H8, H9, HB2, HG⟩ := hcut
        have c0 : wc.cell? ⟨b8, 0, none⟩ = some (.int .i64 X0) := (blk_cell H8.out 0).trans rfl
        have c1 : wc.cell? ⟨b8, 1, none⟩ = some (.string X1) := (blk_cell H8.out 1).trans rfl
        have c2 : wc.cell? ⟨b8, 2, none⟩ = some (.int .i64 X2) := (blk_cell H8.out 2).trans rfl
        have c3 : wc.cell? ⟨b8, 3, none⟩ = some (.int .i64 X3) := (blk_cell H8.out 3).trans rfl
        have d0 : wc.cell? ⟨b9, 0, none⟩ = some (.int .i64 Y0) := (blk_cell H9.out 0).trans rfl
        have d1 : wc.cell? ⟨b9, 1, none⟩ = some (.string Y1) := (blk_cell H9.out 1).trans rfl
        have d2 : wc.cell? ⟨b9, 2, none⟩ = some (.int .i64 Y2) := (blk_cell H9.out 2).trans rfl
        have d3 : wc.cell? ⟨b9, 3, none⟩ = some (.int .i64 Y3) := (blk_cell H9.out 3).trans rfl
        have z8 := blk_frozen H8.out 3
        have z9 := blk_frozen H9.out 3
        have hne2 : b9 ≠ b8 := fun e => hne e.symm
        clear x0 x1 x2 x3 y0 y1 y2 y3
        cases pl with
        | true =>
          have hd2 := HD.out
          simp only [tokEq, Bool.not_true, Bool.false_or] at hd2
          have HD2 := Lib.hid (hd2.symm.trans HQ.out)
          clear hd2 HD HQ
          cases hb : (X0 == Y0 && (X1.toList == Y1.toList && (X2 == Y2 && (X3 == Y3)))) with
          | true =>
            rw [hb] at HD2
            go_wp2
            go_roundw
            case rel => exact ⟨i + 1, by omega, by go_num, ⟨by have := HD2.out; rw [Bool.true_and] at this; exact this⟩, HB2⟩
            case measure => simp [intOf]; omega
          | false =>
            rw [hb] at HD2
            have hr : r = false := by have := HD2.out; rw [Bool.false_and] at this; exact this.symm
            subst hr
            go_wp2
            go_ret
            exact ⟨rfl, HB2.out⟩
        | false =>
          have hd2 := HD.out
          simp only [tokEq, Bool.not_false, Bool.true_or, Bool.and_true] at hd2
          have HD2 := Lib.hid (hd2.symm.trans HQ.out)
          clear hd2 HD HQ
          cases hb : (X0 == Y0 && (X1.toList == Y1.toList && (X2 == Y2))) with
          | true =>
            rw [hb] at HD2
            go_wp2
            go_roundw
            case rel => exact ⟨i + 1, by omega, by go_num, ⟨by have := HD2.out; rw [Bool.true_and] at this; exact this⟩, ⟨below_set (below_set HB2.out HG.out.1) HG.out.2⟩⟩
            case measure => simp [intOf]; omega
          | false =>
            rw [hb] at HD2
            have hr : r = false := by have := HD2.out; rw [Bool.false_and] at this; exact this.symm
            subst hr
            go_wp2
            go_ret
            exact ⟨rfl, below_set (below_set HB2.out HG.out.1) HG.out.2⟩
    · have e : l0.length = i := by omega
      have hr : r = true := by
        have h0 : l0.drop i = [] := List.drop_eq_nil_of_le (by omega)
        have h1 : l1.drop i = [] := List.drop_eq_nil_of_le (by have := HL.out; omega)
        have := HQ.out
        rw [h0, h1] at this
        exact this.symm
      subst hr
      have hlt' : ¬ (i : Int) < (l0.length : Int) := by omega
      go_wp2
      go_ret
      exact ⟨rfl, HB.out⟩
theorem outriderref03_Same.calls (A0 : Option Addr) (c0 : Nat) (l0 : List S33) (A1 : Option Addr) (c1 : Nat) (l1 : List S33) (a2 : Bool) (r : Bool) (w : World) (hr0 : Kd.C k33 w A0 l0.length l0) (hc0 : l0.length ≤ c0) (hr1 : Kd.C k33 w A1 l1.length l1) (hc1 : l1.length ≤ c1) (h : outriderref03_Same.f l0 l1 a2 = some r) :
    Calls Try.prog 10 #[.slice A0 l0.length c0, .slice A1 l1.length c1, .bool a2] w fun e w' => e = .returned (.bool r) ∧ Below w.heap.size w w' := by
  have hs := Option.some.inj h
  by_cases c : l0.length = l1.length
  · have := same_main A0 c0 l0 A1 c1 l1 a2 w hr0 hr1 c
    rw [hs] at this
    exact this
  · have hf : sameGo a2 l0 l1 = false := by
      cases q : sameGo a2 l0 l1 with
      | false => rfl
      | true => exact absurd (same_len a2 l0 l1 q) c
    rw [hf] at hs
    rw [← hs]
    exact same_ne A0 c0 A1 c1 l0.length l1.length a2 w c
end Go.Proofs.Ytclhpdnldnifcaa.K
