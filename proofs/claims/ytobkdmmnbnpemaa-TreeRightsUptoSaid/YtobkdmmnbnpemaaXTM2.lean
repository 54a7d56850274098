/- The reference's Right and Great, told. -/
import Derived.Test.YtobkdmmnbnpemaaXTM1
import Derived.Test.YtobkdmmnbnpemaaXTPR5
namespace Go.Proofs.Ytobkdmmnbnpemaa.K
open Go.RowKit Go.Proofs.YtobkdmmnbnpemaaW.PrintWords Go.Proofs.YtobkdmmnbnpemaaW.PrintLast Go.Proofs.YtobkdmmnbnpemaaW.PrintMore
attribute [local go_sem] max2_int min2_int max_two min_two max_three min_three max_four min_four
set_option linter.unusedVariables false
set_option linter.unusedSimpArgs false
theorem nodes_L (l : List S41) (A : Option Addr) (c : Nat) (w : World) (hC : Kd.C k41 w A l.length l) (hc : l.length ≤ c) (h : cntB l ≤ 1000000) :
    Calls Try.prog 35 #[.slice A l.length c] w fun r w' => r = .returned (.int .i64 ((cntB l : Nat) : Int)) ∧ Below w.heap.size w w' := by
  obtain ⟨k, hk⟩ := nodes_ok l h
  exact outriderref04_Nodes.calls k A c _ _ w hC hc hk
theorem great_L (l : List S41) (A : Option Addr) (c : Nat) (w : World) (hC : Kd.C k41 w A l.length l) (hc : l.length ≤ c) (h : cntB l ≤ 1000000) (b : Bool) (hb : decide (5000 < cntB l) = b) :
    Calls Try.prog 15 #[.slice A l.length c] w fun r w' => r = .returned (.bool b) ∧ Below w.heap.size w w' := by
  obtain ⟨k, hk⟩ := nodes_ok l h
  refine outriderlaw04_Great.calls k A c _ _ w hC hc ?_
  unfold outriderlaw04_Great.f
  rw [hk, Option.bind_some, ← hb]
  congr 1
  by_cases z : 5000 < cntB l
  · rw [decide_eq_true z, decide_eq_true (by omega)]
  · rw [decide_eq_false z, decide_eq_false (by omega)]
theorem rightB_eq (l : List S41) : rightB l = (fitB 13 l && decide (cntB l ≤ 600)) := by
  have h := (cB_may 13 0 l (Int.le_refl 0) (by omega)).1
  unfold rightB
  by_cases z : (cB 13 0 l).1 = true
  · obtain ⟨a, b⟩ := h.1 z
    rw [z, a, decide_eq_true (by omega)]
    rfl
  · have z' := Bool.eq_false_iff.2 z
    rw [z']
    symm
    rw [Bool.eq_false_iff]
    intro y
    rw [Bool.and_eq_true, decide_eq_true_eq] at y
    exact z (h.2 ⟨y.1, by omega⟩)
set_option maxHeartbeats 8000000 in
set_option maxRecDepth 100000 in
theorem rright_L (l : List S41) (A : Option Addr) (c : Nat) (w : World) (hC : Kd.C k41 w A l.length l) (hc : l.length ≤ c) (h : cntB l ≤ 1000000) (r : Bool) (hr : rightB l = r) :
    Calls Try.prog 22 #[.slice A l.length c] w fun e w' => e = .returned (.bool r) ∧ Below w.heap.size w w' := by
  have hu41 := Try.underlying41
  have HB := Aside0.mk (Below.refl w.heap.size w)
  have HC := Aside0.mk hC
  have HCC := Aside0.mk hc
  have HN := Aside0.mk h
  rw [rightB_eq] at hr
  clear hC hc h
  by_cases q : cntB l ≤ 600
  · rw [decide_eq_true q, Bool.and_true] at hr
    have HR := Aside0.mk (show l.all (fitSt (fitB 12)) = r from hr)
    have d1 : decide ((600 : Int) < ((cntB l : Nat) : Int)) = false := decide_eq_false (by omega)
    clear q hr
    go_enter Try.func22, Try.ntmps22
    go_wp2_with (first | (go_at_call 35; (with_reducible refine (nodes_L l A c _ HC.out HCC.out HN.out).mono ?_); rintro e w1 ⟨rfl, hb⟩; have n0_ := Aside0.mk (below_step HB.out hb); clear HB hb; have HB := n0_; clear n0_))
    go_loopw [3] (fun v wr => ∃ i : Int, v = .int .i64 i ∧ 0 ≤ i ∧ i ≤ (l.length : Int) ∧ Aside0 ((l.drop i.toNat).all (fitSt (fitB 12)) = r) ∧ Aside0 (Below w.heap.size w wr)) (fun v _ => l.length - (intOf v).toNat)
    case atStart => exact ⟨0, rfl, Int.le_refl _, by omega, HR, ⟨by repeat (first | (with_reducible first | exact HB.out | apply below_alloc | apply pw_below_drewN | apply below_drew1) | exact HB.out)⟩⟩
    case round =>
      clear HB HR
      obtain ⟨i, rfl, hi0, hi1, HRi, HB⟩ := hrel
      by_cases hlt : i < (l.length : Int)
      · have hb0 : decide (i < (l.length : Int)) = true := decide_eq_true hlt
        have hdr := drop_rd41 l i hi0 hlt
        have HCN1 := Aside0.mk (show cntS (rd_T41 l i) ≤ 1000000 from by
          have z := cnt_drop41 l i.toNat
          rw [hdr] at z
          simp only [cntB] at z
          have := HN.out
          omega)
        have HR0 := HRi.out
        rw [hdr, List.all_cons] at HR0
        obtain ⟨ad, B3, d3, B4, d4, B5, d5, eA, hx0, hx1, hx2, hx3, hx4, hx5, hl3, hi3, hl4, hi4, hl5, hi5⟩ := at_T41 HC.out i hi0 hlt
        subst eA
        have HLE := Aside0.mk (show _ ∧ _ ∧ _ from ⟨hl3, hl4, hl5⟩)
        have HCE := Aside0.mk (show _ ∧ _ ∧ _ from ⟨hi3, hi4, hi5⟩)
        replace hx0 := (HB.out.cell (World.block_lt_of_cell? w _ hx0)).trans hx0
        replace hx1 := (HB.out.cell (World.block_lt_of_cell? w _ hx1)).trans hx1
        replace hx2 := (HB.out.cell (World.block_lt_of_cell? w _ hx2)).trans hx2
        replace hx3 := (HB.out.cell (World.block_lt_of_cell? w _ hx3)).trans hx3
        replace hx4 := (HB.out.cell (World.block_lt_of_cell? w _ hx4)).trans hx4
        replace hx5 := (HB.out.cell (World.block_lt_of_cell? w _ hx5)).trans hx5
        have p1 := eq_true hi0
        have p2 := eq_true hlt
        obtain ⟨fb, hfb⟩ : ∃ fb, fitSt (fitB 12) (rd_T41 l i) = fb := ⟨_, rfl⟩
        have HF := Aside0.mk hfb
        rw [hfb] at HR0
        have HR2 := Aside0.mk HR0
        have hwi : wrap64 (i + 1) = i + 1 := by have := HN.out; have := len_cntB l; unfold wrap64; omega
        clear hdr hi3 hi4 hi5 hl3 hl4 hl5 HRi HR0 hfb
        cases fb with
        | true =>
          go_wp2_with (first | (go_at_call 41; (with_reducible refine ((may_ok 12 (Nat.le_refl _)).use (rd_T41 l i) B3 B4 B5 d3 d4 d5 true _ 0 rfl HCN1.out (Kd.C_below HCE.out.1 (by repeat (first | (with_reducible first | exact HB.out | apply below_alloc | apply pw_below_drewN | apply below_drew1) | exact HB.out))) HLE.out.1 (Kd.C_below HCE.out.2.1 (by repeat (first | (with_reducible first | exact HB.out | apply below_alloc | apply pw_below_drewN | apply below_drew1) | exact HB.out))) HLE.out.2.1 (Kd.C_below HCE.out.2.2 (by repeat (first | (with_reducible first | exact HB.out | apply below_alloc | apply pw_below_drewN | apply below_drew1) | exact HB.out))) HLE.out.2.2 HF.out).mono ?_); rintro e wf ⟨rfl, hb⟩; have n0_ := Aside0.mk (below_step (by repeat (first | (with_reducible first | exact HB.out | apply below_alloc | apply pw_below_drewN | apply below_drew1) | exact HB.out)) hb); clear HB hb; have HB := n0_; clear n0_))
          go_roundw
          case rel => exact ⟨i + 1, (by simp only [hwi]), by omega, by omega, ⟨by have := HR2.out; rw [Bool.true_and] at this; exact this⟩, ⟨by repeat (first | (with_reducible first | exact HB.out | apply below_alloc | apply pw_below_drewN | apply below_drew1) | exact HB.out)⟩⟩
          case measure => simp only [hwi, intOf]; omega
        | false =>
          go_wp2_with (first | (go_at_call 41; (with_reducible refine ((may_ok 12 (Nat.le_refl _)).use (rd_T41 l i) B3 B4 B5 d3 d4 d5 false _ 0 rfl HCN1.out (Kd.C_below HCE.out.1 (by repeat (first | (with_reducible first | exact HB.out | apply below_alloc | apply pw_below_drewN | apply below_drew1) | exact HB.out))) HLE.out.1 (Kd.C_below HCE.out.2.1 (by repeat (first | (with_reducible first | exact HB.out | apply below_alloc | apply pw_below_drewN | apply below_drew1) | exact HB.out))) HLE.out.2.1 (Kd.C_below HCE.out.2.2 (by repeat (first | (with_reducible first | exact HB.out | apply below_alloc | apply pw_below_drewN | apply below_drew1) | exact HB.out))) HLE.out.2.2 HF.out).mono ?_); rintro e wf ⟨rfl, hb⟩; have n0_ := Aside0.mk (below_step (by repeat (first | (with_reducible first | exact HB.out | apply below_alloc | apply pw_below_drewN | apply below_drew1) | exact HB.out)) hb); clear HB hb; have HB := n0_; clear n0_))
          go_ret
          have e := HR2.out
          rw [Bool.false_and] at e
          subst e
          exact ⟨rfl, by repeat (first | (with_reducible first | exact HB.out | apply below_alloc | apply pw_below_drewN | apply below_drew1) | exact HB.out)⟩
      · have hb0 : decide (i < (l.length : Int)) = false := decide_eq_false hlt
        have HR1 : Aside0 (true = r) := ⟨by have := HRi.out; rw [List.drop_eq_nil_of_le (by omega)] at this; exact this⟩
        clear HRi hlt hi0 hi1
        go_wp2
        go_ret
        have e := HR1.out
        subst e
        exact ⟨rfl, by repeat (first | (with_reducible first | exact HB.out | apply below_alloc | apply pw_below_drewN | apply below_drew1) | exact HB.out)⟩
  · rw [decide_eq_false q, Bool.and_false] at hr
    subst hr
    have d1 : decide ((600 : Int) < ((cntB l : Nat) : Int)) = true := decide_eq_true (by omega)
    clear q
    go_enter Try.func22, Try.ntmps22
    go_wp2_with (first | (go_at_call 35; (with_reducible refine (nodes_L l A c _ HC.out HCC.out HN.out).mono ?_); rintro e w1 ⟨rfl, hb⟩; have n0_ := Aside0.mk (below_step HB.out hb); clear HB hb; have HB := n0_; clear n0_))
    go_ret
    exact ⟨rfl, by repeat (first | (with_reducible first | exact HB.out | apply below_alloc | apply pw_below_drewN | apply below_drew1) | exact HB.out)⟩
end Go.Proofs.Ytobkdmmnbnpemaa.K
