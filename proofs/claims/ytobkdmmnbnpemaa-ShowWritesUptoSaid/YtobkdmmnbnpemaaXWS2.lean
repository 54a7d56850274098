/- The reference's `one` and `lines`, told: by blocks. -/
import Derived.Test.YtobkdmmnbnpemaaXWS1
namespace Go.Proofs.Ytobkdmmnbnpemaa.K
open Go.RowKit Go.Proofs.YtobkdmmnbnpemaaW.PrintWords Go.Proofs.YtobkdmmnbnpemaaW.PrintLast Go.Proofs.YtobkdmmnbnpemaaW.PrintMore
attribute [local go_sem] max2_int min2_int max_two min_two max_three min_three max_four min_four
set_option linter.unusedVariables false
set_option linter.unusedSimpArgs false
theorem emp_app (x : ByteArray) : (⟨#[]⟩ : ByteArray) ++ x = x := by apply ByteArray.ext; simp
theorem app_emp (x : ByteArray) : x ++ (⟨#[]⟩ : ByteArray) = x := by apply ByteArray.ext; simp
theorem XPost.cast {x y : ByteArray} {w : World} {f : Nat} {args : Array Value} (h : Calls Try.prog f args w (XPost x w)) (e : x = y) : Calls Try.prog f args w (XPost y w) := e ▸ h
theorem one_all (b : Nat) (LC : 0 < b → LinC (b - 1)) (OC : 0 < b → OneC (b - 1)) : OneC b := by
  intro s A3 A4 A5 c3 c4 c5 n bl w hbl hn hf hc hC3 hc3 hC4 hc4 hC5 hc5
  obtain ⟨hh, ha, hb, h4, h5⟩ := fit_open hf
  obtain ⟨W, nm, hw, hW, hnm, h5k⟩ := head_kind hh
  have hn1 := named_size hh
  obtain ⟨k, f1, f2, l3, l4, l5⟩ := s
  dsimp only at *
  simp only [cntS] at hc
  subst hbl
  rcases want_cases k with ⟨_, e⟩ | ⟨W', nm', e, _, hk⟩
  · rw [e] at hw; cases hw
  · rw [e] at hw
    obtain ⟨rfl, rfl⟩ := Prod.mk.inj (Option.some.inj hw)
    have one : ∀ (k : Int), l3.length = 1 → ∃ x, l3 = [x] ∧ okA x = true ∧ cntE x ≤ 1000 := by
      intro _ h1
      obtain ⟨x, rfl⟩ := List.length_eq_one_iff.1 h1
      refine ⟨x, rfl, by simpa using ha, ?_⟩
      simp only [cntL] at hc
      omega
    rcases hk with ⟨rfl, e1, _⟩ | ⟨rfl, e1, _⟩ | ⟨rfl, e1, _⟩ | ⟨rfl, e1, _⟩ | ⟨rfl, e1, _⟩ | ⟨rfl, e1, _⟩ | ⟨rfl, e1, _⟩ | ⟨rfl, e1, _⟩ | ⟨rfl, e1, _⟩
    · obtain ⟨x, rfl, hx, hnx⟩ := one 0 (by omega)
      exact one_1 x f1 f2 A3 c3 A4 l4.length c4 A5 l5.length c5 (blB n) w hx hnx (hn1 (.inl rfl)) hC3
    · obtain ⟨x, rfl, hx, hnx⟩ := one 0 (by omega)
      exact one_2 x f1 f2 A3 c3 A4 l4.length c4 A5 l5.length c5 (blB n) w hx hnx (hn1 (.inr rfl)) hC3
    · obtain ⟨x, y, rfl⟩ := two_of l3 (by omega)
      simp only [List.all_cons, List.all_nil, Bool.and_true, Bool.and_eq_true] at ha
      simp only [cntL] at hc
      exact one_3 x y f1 f2 A3 c3 A4 l4.length c4 A5 l5.length c5 (blB n) w ha.1 (by omega) ha.2 (by omega) hC3
    · obtain ⟨x, rfl, hx, hnx⟩ := one 0 (by omega)
      exact one_4 x f1 f2 A3 c3 A4 l4.length c4 A5 l5.length c5 (blB n) w hx hnx hC3
    · obtain ⟨x, rfl, hx, hnx⟩ := one 0 (by omega)
      exact one_5 x f1 f2 A3 c3 A4 l4.length c4 A5 l5.length c5 (blB n) w hx hnx (h5k rfl) hC3
    · obtain ⟨x, rfl, hx, hnx⟩ := one 0 (by omega)
      have hb' := hb rfl
      match l5, hC5, hc5, h5, hc with
      | [], hC5, hc5, h5, hc => exact one_6a (b - 1) (LC hb') x f1 f2 A3 c3 A4 c4 l4 A5 c5 n (blB n) w rfl (by omega) h4 (by omega) hc4 hC4 hx hnx hC3
      | [y], hC5, hc5, h5, hc =>
        by_cases hy6 : y.f0 = 6
        · refine XPost.cast (one_6b (b - 1) (LC hb') x f1 f2 A3 c3 A4 c4 l4 A5 c5 n (blB n) w (OC hb') y (by simpa using h5) hy6 (by simp only [cntB] at hc; omega) hC5 rfl (by omega) h4 (by omega) hc4 hC4 hx hnx hC3) ?_
          show _ = elsT [y] n _ _ _
          unfold elsT
          rw [if_neg (by simp), if_pos ⟨rfl, hy6⟩]
          rfl
        · refine XPost.cast (one_6c (b - 1) (LC hb') x f1 f2 A3 c3 A4 c4 l4 A5 c5 n (blB n) w y h5 (by omega) hc5 hC5 hy6 rfl (by omega) h4 (by omega) hc4 hC4 hx hnx hC3) ?_
          show _ = elsT [y] n _ _ _
          unfold elsT
          rw [if_neg (by simp), if_neg (fun z => hy6 z.2)]
          rfl
      | y :: z :: r, hC5, hc5, h5, hc =>
        refine XPost.cast (one_6d (b - 1) (LC hb') x f1 f2 A3 c3 A4 c4 l4 A5 c5 n (blB n) w (y :: z :: r) h5 (by omega) hc5 hC5 (by simp) (by simp) rfl (by omega) h4 (by omega) hc4 hC4 hx hnx hC3) ?_
        show _ = elsT (y :: z :: r) n (((((⟨#[105, 102, 32, 40]⟩ ++ txt x) ++ ⟨#[41, 32, 123, 10]⟩) ++ lTx l4 (n + 1)) ++ blB n) ++ ⟨#[125]⟩) (lTx (y :: z :: r) (n + 1)) (hTx (y :: z :: r) n)
        unfold elsT
        rw [if_neg (by simp), if_neg (fun z => by simp at z)]
    · obtain ⟨x, rfl, hx, hnx⟩ := one 0 (by omega)
      have hb' := hb rfl
      exact one_7 (b - 1) (LC hb') x f1 f2 A3 c3 A4 c4 l4 A5 c5 n (blB n) w l5.length rfl (by omega) h4 (by omega) hc4 hC4 hx hnx hC3
    · obtain ⟨x, rfl, hx, hnx⟩ := one 0 (by omega)
      exact one_8 x f1 f2 A3 c3 A4 l4.length c4 A5 l5.length c5 (blB n) w hx hnx hC3
    · have : l3 = [] := List.eq_nil_of_length_eq_zero (by omega)
      subst this
      exact one_9 f1 f2 A3 c3 A4 l4.length c4 A5 l5.length c5 (blB n) w hC3
set_option maxHeartbeats 8000000 in
set_option maxRecDepth 100000 in
theorem lin_all (b : Nat) (OC0 : OneC b) : LinC b := by
  intro l A c n bl w hbl hn hf hcn hC hc
  have hu41 := Try.underlying41
  have HB := Aside0.mk (Below.refl w.heap.size w)
  have HC := Aside0.mk hC
  have HCC := Aside0.mk hc
  have HN := Aside0.mk (show n + b ≤ 20 ∧ cntB l ≤ 1000 ∧ l.all (fitSt (fitB b)) = true ∧ bl = blB n from ⟨hn, hcn, hf, hbl⟩)
  have OC := Aside0.mk OC0
  have hsz := lsizes b l hf n hn
  have hbz : bl.size ≤ 40 := by rw [hbl, blB_size]; omega
  have HS := Aside0.mk (show (⟨#[]⟩ : ByteArray).size + (lTx l n).size ≤ 190000 from by show 0 + _ ≤ _; omega)
  have HR := Aside0.mk (show (⟨#[]⟩ : ByteArray) ++ lTx l n = lTx l n from emp_app _)
  clear hbl hn hf hcn hC hc OC0 hsz
  go_enter Try.func40, Try.ntmps40
  go_wp2
  go_loopw [5, 6] (fun v5 v6 wr => ∃ (acc : ByteArray) (i : Int), v5 = .string acc ∧ v6 = .int .i64 i ∧ 0 ≤ i ∧ i ≤ (l.length : Int) ∧ Aside0 (acc ++ lTx (l.drop i.toNat) n = lTx l n) ∧ Aside0 (acc.size + (lTx (l.drop i.toNat) n).size ≤ 190000) ∧ Aside0 (Below w.heap.size w wr)) (fun _ v6 _ => l.length - (intOf v6).toNat)
  case atStart => exact ⟨⟨#[]⟩, 0, rfl, rfl, Int.le_refl _, by omega, HR, HS, ⟨by repeat (first | (with_reducible first | exact HB.out | apply below_alloc | apply pw_below_drewN | apply below_drew1) | exact HB.out)⟩⟩
  case round =>
    clear HB HR HS
    obtain ⟨acc, i, rfl, rfl, hi0, hi1, HR, HS, HB⟩ := hrel
    by_cases hlt : i < (l.length : Int)
    · have hb0 : decide (i < (l.length : Int)) = true := decide_eq_true hlt
      have hdr := drop_rd41 l i hi0 hlt
      have hmem : rd_T41 l i ∈ l := List.mem_of_mem_drop (by rw [hdr]; exact List.mem_cons_self ..)
      have HF := Aside0.mk (List.all_eq_true.1 HN.out.2.2.1 _ hmem)
      have HCN1 := Aside0.mk (show cntS (rd_T41 l i) ≤ 1000 from by
        have z := cnt_drop41 l i.toNat
        rw [hdr] at z
        simp only [cntB] at z
        have := HN.out.2.1
        omega)
      have hsq := HS.out
      have hrq := HR.out
      rw [hdr] at hsq hrq
      simp only [lTx, ByteArray.size_append] at hsq
      simp only [lTx] at hrq
      obtain ⟨ad, B3, d3, B4, d4, B5, d5, eA, hx0, hx1, hx2, hx3, hx4, hx5, hl3, hi3, hl4, hi4, hl5, hi5⟩ := at_T41 HC.out i hi0 hlt
      subst eA
      have HLE := Aside0.mk (show _ ∧ _ ∧ _ from ⟨hl3, hl4, hl5⟩)
      have HCE := Aside0.mk (show _ ∧ _ ∧ _ from ⟨hi3, hi4, hi5⟩)
      have HBLX := Aside0.mk (show bl = blB n from HN.out.2.2.2)
      replace hx0 := (HB.out.cell (World.block_lt_of_cell? w _ hx0)).trans hx0
      replace hx1 := (HB.out.cell (World.block_lt_of_cell? w _ hx1)).trans hx1
      replace hx2 := (HB.out.cell (World.block_lt_of_cell? w _ hx2)).trans hx2
      replace hx3 := (HB.out.cell (World.block_lt_of_cell? w _ hx3)).trans hx3
      replace hx4 := (HB.out.cell (World.block_lt_of_cell? w _ hx4)).trans hx4
      replace hx5 := (HB.out.cell (World.block_lt_of_cell? w _ hx5)).trans hx5
      have p1 := eq_true hi0
      have p2 := eq_true hlt
      have hbn : (blB n).size = bl.size := by rw [HBLX.out]
      have u0 : (9223372036854775807 < bl.size + (sTx (rd_T41 l i) n).size) = False := eq_false (by omega)
      have u1 : (9223372036854775807 < acc.size + (bl.size + (sTx (rd_T41 l i) n).size)) = False := eq_false (by omega)
      have hwi : wrap64 (i + 1) = i + 1 := by have := HN.out.2.1; have := len_cntB l; unfold wrap64; omega
      have HR1 : Aside0 ((acc ++ (bl ++ sTx (rd_T41 l i) n)) ++ lTx (l.drop (i + 1).toNat) n = lTx l n) := ⟨by rw [HBLX.out, ← hrq]; simp only [ByteArray.append_assoc]⟩
      have HS1 : Aside0 ((acc ++ (bl ++ sTx (rd_T41 l i) n)).size + (lTx (l.drop (i + 1).toNat) n).size ≤ 190000) := ⟨by simp only [ByteArray.size_append]; omega⟩
      clear hdr hi3 hi4 hi5 hl3 hl4 hl5 HR HS hsq hrq hmem hbn
      go_wp2_with (first | (go_at_call 63; (with_reducible refine (OC.out.use (rd_T41 l i) B3 B4 B5 d3 d4 d5 n bl _ HBLX.out HN.out.1 HF.out HCN1.out (Kd.C_below HCE.out.1 (by repeat (first | (with_reducible first | exact HB.out | apply below_alloc | apply pw_below_drewN | apply below_drew1) | exact HB.out))) HLE.out.1 (Kd.C_below HCE.out.2.1 (by repeat (first | (with_reducible first | exact HB.out | apply below_alloc | apply pw_below_drewN | apply below_drew1) | exact HB.out))) HLE.out.2.1 (Kd.C_below HCE.out.2.2 (by repeat (first | (with_reducible first | exact HB.out | apply below_alloc | apply pw_below_drewN | apply below_drew1) | exact HB.out))) HLE.out.2.2).mono ?_); rintro e wf ⟨rfl, hb⟩; have n0_ := Aside0.mk (below_step (by repeat (first | (with_reducible first | exact HB.out | apply below_alloc | apply pw_below_drewN | apply below_drew1) | exact HB.out)) hb); clear HB hb hx0 hx1 hx2 hx3 hx4 hx5; have HB := n0_; clear n0_))
      go_roundw
      case rel => exact ⟨_, i + 1, rfl, (by simp only [hwi]), by omega, by omega, HR1, HS1, ⟨by repeat (first | (with_reducible first | exact HB.out | apply below_alloc | apply pw_below_drewN | apply below_drew1) | exact HB.out)⟩⟩
      case measure => simp only [hwi, intOf]; omega
    · have hb0 : decide (i < (l.length : Int)) = false := decide_eq_false hlt
      have HR1 : Aside0 (acc = lTx l n) := ⟨by have := HR.out; rw [List.drop_eq_nil_of_le (by omega)] at this; rw [← this]; exact (app_emp acc).symm⟩
      clear HR HS hlt hi0 hi1
      go_wp2
      go_ret
      have e := HR1.out
      subst e
      exact ⟨rfl, by repeat (first | (with_reducible first | exact HB.out | apply below_alloc | apply pw_below_drewN | apply below_drew1) | exact HB.out)⟩
theorem lin_ok : ∀ b, LinC b ∧ OneC b
  | 0 => by
    have h := one_all 0 (fun z => absurd z (Nat.lt_irrefl 0)) (fun z => absurd z (Nat.lt_irrefl 0))
    exact ⟨lin_all 0 h, h⟩
  | b + 1 => by
    obtain ⟨h1, h2⟩ := lin_ok b
    have h := one_all (b + 1) (fun _ => h1) (fun _ => h2)
    exact ⟨lin_all (b + 1) h, h⟩
end Go.Proofs.Ytobkdmmnbnpemaa.K
