/- TreeCopies' function, walked by hand. -/
import Derived.Test.YtobkdmmnbnpemaaXOMC0
import Derived.Test.YtobkdmmnbnpemaaXOM2
import Derived.Test.YtobkdmmnbnpemaaXOQA
import Derived.Test.YtobkdmmnbnpemaaXOP11
namespace Go.Proofs.Ytobkdmmnbnpemaa.K
open Go.RowKit Go.Proofs.YtobkdmmnbnpemaaW.PrintWords Go.Proofs.YtobkdmmnbnpemaaW.PrintLast Go.Proofs.YtobkdmmnbnpemaaW.PrintMore
attribute [local go_sem] max2_int min2_int max_two min_two max_three min_three max_four min_four
set_option linter.unusedVariables false
set_option linter.unusedSimpArgs false
def MRel (b0 b1 : Nat) (w4 : World) (n : Nat) (kq : Nat) (v6 : Value) (wq : World) : Prop :=
  ∃ j : Nat, v6 = .int .i64 (j : Int) ∧ j ≤ n ∧ n < kq + j ∧ Aside0 (Mut b0 b1 w4 wq)
set_option maxHeartbeats 16000000 in
set_option maxRecDepth 100000 in
theorem copies_walk (l : List S41) (A : Option Addr) (c : Nat) (w : World) (hA : Kd.C k41 w A l.length l) (hc : l.length ≤ c) (hl : cntB l ≤ 1000000) :
    Calls Try.prog 8 #[.slice A l.length c] w fun r w' => r = .returned (.bool true) ∧ Below w.heap.size w w' := by
  have HD := Aside0.mk (Below.refl w.heap.size w)
  have HA := Aside0.mk hA
  have HC := Aside0.mk hc
  have HL := Aside0.mk hl
  have HLL := Aside0.mk (show l.length ≤ 1000000 from Nat.le_trans (len_cntB l) hl)
  have hu41 := Try.underlying41
  have hu38 := Try.underlying38
  have hu22 := Try.underlying22
  have hu36 := Try.underlying36
  clear hA hc hl
  go_enter Try.func8, Try.ntmps8
  go_wp2_with fail
  rcases hq : decide (5000 < cntB l) with _ | _
  rotate_left
  · have HQ := Aside0.mk hq
    clear hq
    (with_reducible refine (great_L l A c w HA.out HC.out HL.out true HQ.out).mono ?_)
    rintro r w1 ⟨rfl, hb⟩
    have n0_ := Aside0.mk (below_step HD.out hb)
    clear HD hb
    have HD := n0_
    clear n0_
    go_wp2
    exact ⟨rfl, _, by simp [results, Try.results8, go_sem], rfl, HD.out⟩
  have HQ := Aside0.mk hq
  clear hq
  (with_reducible refine (great_L l A c w HA.out HC.out HL.out false HQ.out).mono ?_)
  rintro r w0 ⟨rfl, hb⟩
  have n0_ := Aside0.mk (below_step HD.out hb)
  clear HD hb HQ
  have HD := n0_
  clear n0_
  go_wp2_with fail
  (with_reducible refine (rcopy_L l A c w0 (Kd.C_below HA.out HD.out) HC.out HL.out).mono ?_)
  rintro r w1 ⟨v1, rfl, hR, hb⟩
  obtain ⟨A1, c1, rfl, hc1, _⟩ := R_C hR
  have HR1 := Aside0.mk hR
  have HC1 := Aside0.mk hc1
  have n0_ := Aside0.mk (below_step HD.out hb)
  clear HD hb hR hc1
  have HD := n0_
  clear n0_
  have HE := Aside0.mk (Below.refl w1.heap.size w1)
  have HW := Aside0.mk (show w.heap.size ≤ w1.heap.size from HD.out.size)
  go_wp2_with fail
  (with_reducible refine (tcopy_L l A c w1 (Kd.C_below HA.out HD.out) HC.out HL.out).mono ?_)
  rintro r w2 ⟨v2, rfl, hR, hb⟩
  obtain ⟨A2, c2, rfl, hc2, _⟩ := R_C hR
  have HR2 := Aside0.mk (Kd.R_mono (Kd.R_bound hR) (fun k hk => (hk.2.2.1 : k < w2.heap.size)))
  have HC2 := Aside0.mk hc2
  have n0_ := Aside0.mk (below_step HD.out hb)
  have n1_ := Aside0.mk (below_step HE.out hb)
  clear HD HE hb hR hc2
  have HD := n0_
  have HE := n1_
  clear n0_ n1_
  obtain ⟨_, _, hv1, _, hC1⟩ := R_C (Kd.R_below HR1.out HE.out)
  injection hv1 with q1 q2 q3
  subst q1 q3
  obtain ⟨_, _, hv2, _, hC2⟩ := R_C HR2.out
  injection hv2 with q1 q2 q3
  subst q1 q3
  have G1 := Aside0.mk hC1
  have G2 := Aside0.mk hC2
  clear hC1 hC2 q2
  go_wp2_with fail
  (with_reducible refine (rsame_L l l A2 c2 A1 c1 true w2 G2.out G1.out (eqSs_refl l)).mono ?_)
  rintro r w3 ⟨rfl, hb⟩
  have n0_ := Aside0.mk (below_step HD.out hb.below)
  have n1_ := Aside0.mk (below_step HE.out hb.below)
  have n2_ := Aside0.mk (Kd.R_below HR2.out hb.below)
  have HS := Aside0.mk (show w1.heap.size ≤ w2.heap.size ∧ w2.heap.size ≤ w3.heap.size from ⟨HE.out.size, hb.below.size⟩)
  clear HD HE HR2 hb G1 G2
  have HD := n0_
  have HE := n1_
  have HR2 := n2_
  clear n0_ n1_ n2_
  go_wp2_with fail
  (with_reducible refine (tcopy_L l A c w3 (Kd.C_below HA.out HD.out) HC.out HL.out).mono ?_)
  rintro r w4 ⟨v4, rfl, hR, hb⟩
  obtain ⟨A4, c4, rfl, hc4, _⟩ := R_C hR
  have HR4 := Aside0.mk (Kd.R_mono (Kd.R_bound hR) (fun k hk => (hk.2.1 : w3.heap.size ≤ k)))
  have n0_ := Aside0.mk (below_step HD.out hb)
  have n1_ := Aside0.mk (below_step HE.out hb)
  have n2_ := Aside0.mk (Kd.R_below HR2.out hb)
  clear HD HE HR2 hb hR hc4
  have HD := n0_
  have HE := n1_
  have HR2 := n2_
  clear n0_ n1_ n2_
  go_wp2_with fail
  generalize hb0 : w1.heap.size = b0 at *
  generalize hb1 : w2.heap.size = b1 at *
  have HB0 := Aside0.mk hb0
  clear hb0 hb1
  go_loopg [6] (l.length + 1) (fun kq v6 wq => MRel b0 b1 w4 l.length kq v6 wq)
  case atStart => exact ⟨0, rfl, Nat.zero_le _, by omega, ⟨Mut.refl _ _ _⟩⟩
  case round =>
    unfold MRel at hrel
    obtain ⟨j, rfl, hj1, hjk, HM⟩ := hrel
    cases gk with
    | zero => omega
    | succ k1 =>
    by_cases hi : j < l.length
    rotate_left
    · have hi' : decide ((j : Int) < (l.length : Int)) = false := decide_eq_false (by omega)
      have n0_ := Aside0.mk (show Below w.heap.size w wr from HD.out.trans (below_weak HM.out.bw HW.out))
      have hE : Below w1.heap.size w1 wr := by rw [HB0.out]; exact HE.out.trans HM.out.bw
      obtain ⟨Z1, z1, hv1, _, hC1⟩ := R_C (Kd.R_below HR1.out hE)
      injection hv1 with q1 q2 q3
      subst q1 q3
      obtain ⟨Z4, z4, hv4, _, hC4⟩ := R_C (Kd.R_step HR4.out (w1 := wr) (fun k hk _ => HM.out.up k (Nat.le_trans HS.out.2 hk)))
      injection hv4 with q1 q2 q3
      subst q1 q3
      have G1 := Aside0.mk hC1
      have G4 := Aside0.mk hC4
      clear hC1 hC4 HD HE HR1 HR2 HR4 HM hE q2
      have HD := n0_
      clear n0_
      go_wp2_with fail
      (with_reducible refine (rsame_L l l A4 c4 A1 c1 true wr G4.out G1.out (eqSs_refl l)).mono ?_)
      rintro r w6 ⟨rfl, hb⟩
      have n0_ := Aside0.mk (below_step HD.out hb.below)
      have n1_ := Aside0.mk (C_d0 G1.out hb)
      clear HD hb G1 G4
      have HD := n0_
      have G1 := n1_
      clear n0_ n1_
      go_wp2_with fail
      (with_reducible refine (rsame_L l l A c A1 c1 true w6 (Kd.C_below HA.out HD.out) G1.out (eqSs_refl l)).mono ?_)
      rintro r w7 ⟨rfl, hb⟩
      have n0_ := Aside0.mk (below_step HD.out hb.below)
      clear HD hb G1
      have HD := n0_
      clear n0_
      go_wp2_with fail
      (with_reducible refine (alive_L w7).mono ?_)
      rintro r w8 ⟨rfl, hb⟩
      have n0_ := Aside0.mk (below_step HD.out hb)
      clear HD hb
      have HD := n0_
      clear n0_
      go_wp2
      exact ⟨rfl, _, by simp [results, Try.results8, go_sem], rfl, HD.out⟩
    have p0 := eq_true (show (0 : Int) ≤ (j : Int) by omega)
    have p1 := eq_true (show (j : Int) < (l.length : Int) by omega)
    obtain ⟨g, cap, x, v3, v4, v5, e, hg1, hg0, ⟨x0, x1, x2, x3, x4, x5⟩, hfz, r3, r4, r5⟩ := own_stmt HR2.out j hi
    injection e with e1 e2 e3
    subst e1 e3
    clear e2
    obtain ⟨A3, c3, rfl⟩ := Kd.R_slice r3
    obtain ⟨A5, c5, rfl⟩ := Kd.R_slice r4
    obtain ⟨A6, c6, rfl⟩ := Kd.R_slice r5
    have HX := Aside0.mk (show (w4.cell? ⟨g, j * 6, none⟩ = some (.int .i64 x.f0) ∧ w4.cell? ⟨g, j * 6 + 3, none⟩ = some (.slice A3 x.f3.length c3) ∧ w4.cell? ⟨g, j * 6 + 4, none⟩ = some (.slice A5 x.f4.length c5) ∧ w4.cell? ⟨g, j * 6 + 5, none⟩ = some (.slice A6 x.f5.length c6)) ∧ (b0 ≤ g ∧ g < b1) from ⟨⟨x0, x3, x4, x5⟩, hg0, hg1⟩)
    have R3 := Aside0.mk r3
    have R4 := Aside0.mk r4
    have R5 := Aside0.mk r5
    have HF := Aside0.mk hfz
    clear x0 x1 x2 x3 x4 x5 r3 r4 r5 hg0 hg1 hfz
    have f0 : wr.frozen? ⟨g, j * 6, none⟩ = false := (HM.out.fr _).trans (HF.out _)
    obtain ⟨u8, y0, _⟩ := HM.out.ce _ _ HX.out.1.1
    go_upto_region 12 with fail
    generalize hq : World.setCell _ ⟨g, j * 6, none⟩ _ = wa
    have n0_ : Aside0 (Mut b0 b1 w4 wa) := ⟨by rw [← hq]; exact HM.out.set_ HX.out.2.1 HX.out.2.2 HX.out.1.1 (kin_int _ _)⟩
    clear hq HM
    have HM := n0_
    clear n0_
    clear f0 y0
    have z0 : wa.cell? ⟨g, j * 6 + 3, none⟩ = some _ := HM.out.slice HX.out.1.2.1
    by_cases h0 : 0 < x.f3.length
    · have d0 : decide ((0 : Int) < (x.f3.length : Int)) = true := decide_eq_true (by omega)
      obtain ⟨g3, cap3, a3, e, hk1, hk0, u0, u1⟩ := own_expr R3.out h0
      injection e with e1 e2 e3
      subst e1 e3
      clear e2
      have U := Aside0.mk (show w4.cell? ⟨g3, 0, none⟩ = some (.int .i64 a3) ∧ b0 ≤ g3 ∧ g3 < b1 from ⟨u0, hk0, hk1⟩)
      obtain ⟨u9, t0, _⟩ := HM.out.ce _ _ u0
      have t1 : wa.frozen? ⟨g3, 0, none⟩ = false := (HM.out.fr _).trans u1
      have p2 := eq_true (show (0 : Int) < (x.f3.length : Int) by omega)
      clear u0 u1 hk0 hk1
      go_upto_region 14 with fail
      generalize hq : World.setCell _ ⟨g3, 0, none⟩ _ = wz0
      have n0_ : Aside0 (Mut b0 b1 w4 wz0) := ⟨by rw [← hq]; exact HM.out.set_ U.out.2.1 U.out.2.2 U.out.1 (kin_int _ _)⟩
      clear hq HM
      have HM := n0_
      clear n0_
      clear U t0 t1 p2 z0 d0
      have z1 : wz0.cell? ⟨g, j * 6 + 4, none⟩ = some _ := HM.out.slice HX.out.1.2.2.1
      by_cases h1 : 0 < x.f4.length
      · have d1 : decide ((0 : Int) < (x.f4.length : Int)) = true := decide_eq_true (by omega)
        obtain ⟨g3, cap3, x3, v3_, v4_, v5_, e, hk1, hk0, ⟨u0, u1, u2, _, _, _⟩, hfz3, _, _, _⟩ := own_stmt R4.out 0 h1
        injection e with e1 e2 e3
        subst e1 e3
        clear e2
        rw [Nat.zero_mul, Nat.zero_add] at u1 u2
        have U := Aside0.mk (show w4.cell? ⟨g3, 1, none⟩ = some _ ∧ b0 ≤ g3 ∧ g3 < b1 from ⟨u1, hk0, hk1⟩)
        obtain ⟨u9, t0, _⟩ := HM.out.ce _ _ u1
        have t1 : wz0.frozen? ⟨g3, 1, none⟩ = false := (HM.out.fr _).trans (hfz3 _)
        have p2 := eq_true (show (0 : Int) < (x.f4.length : Int) by omega)
        clear u0 u1 u2 hk0 hk1 hfz3
        go_upto_region 16 with fail
        generalize hq : World.setCell _ ⟨g3, 1, none⟩ _ = wz1
        have n0_ : Aside0 (Mut b0 b1 w4 wz1) := ⟨by rw [← hq]; exact HM.out.set_ U.out.2.1 U.out.2.2 U.out.1 (kin_str _ _)⟩
        clear hq HM
        have HM := n0_
        clear n0_
        clear U t0 t1 p2 z1 d1
        have z2 : wz1.cell? ⟨g, j * 6 + 5, none⟩ = some _ := HM.out.slice HX.out.1.2.2.2
        by_cases h2 : 0 < x.f5.length
        · have d2 : decide ((0 : Int) < (x.f5.length : Int)) = true := decide_eq_true (by omega)
          obtain ⟨g3, cap3, x3, v3_, v4_, v5_, e, hk1, hk0, ⟨u0, u1, u2, _, _, _⟩, hfz3, _, _, _⟩ := own_stmt R5.out 0 h2
          injection e with e1 e2 e3
          subst e1 e3
          clear e2
          rw [Nat.zero_mul, Nat.zero_add] at u1 u2
          have U := Aside0.mk (show w4.cell? ⟨g3, 2, none⟩ = some _ ∧ b0 ≤ g3 ∧ g3 < b1 from ⟨u2, hk0, hk1⟩)
          obtain ⟨u9, t0, _⟩ := HM.out.ce _ _ u2
          have t1 : wz1.frozen? ⟨g3, 2, none⟩ = false := (HM.out.fr _).trans (hfz3 _)
          have p2 := eq_true (show (0 : Int) < (x.f5.length : Int) by omega)
          clear u0 u1 u2 hk0 hk1 hfz3
          go_wp2_with fail
          generalize hq : World.setCell _ ⟨g3, 2, none⟩ _ = wz2
          have n0_ : Aside0 (Mut b0 b1 w4 wz2) := ⟨by rw [← hq]; exact HM.out.set_ U.out.2.1 U.out.2.2 U.out.1 (kin_int _ _)⟩
          clear hq HM
          have HM := n0_
          clear n0_
          clear U t0 t1 p2 z2 d2
          go_roundg k1
          case measure => omega
          case rel =>
            have hw : wrap64 ((j : Int) + 1) = ((j + 1 : Nat) : Int) := by have := HLL.out; unfold wrap64; omega
            exact ⟨j + 1, by rw [hw], by omega, by omega, HM⟩
        · have d2 : decide ((0 : Int) < (x.f5.length : Int)) = false := decide_eq_false (by omega)
          go_wp2
          go_roundg k1
          case measure => omega
          case rel =>
            have hw : wrap64 ((j : Int) + 1) = ((j + 1 : Nat) : Int) := by have := HLL.out; unfold wrap64; omega
            exact ⟨j + 1, by rw [hw], by omega, by omega, HM⟩
      · have d1 : decide ((0 : Int) < (x.f4.length : Int)) = false := decide_eq_false (by omega)
        go_upto_region 16 with fail
        clear z1 d1
        have z2 : wz0.cell? ⟨g, j * 6 + 5, none⟩ = some _ := HM.out.slice HX.out.1.2.2.2
        by_cases h2 : 0 < x.f5.length
        · have d2 : decide ((0 : Int) < (x.f5.length : Int)) = true := decide_eq_true (by omega)
          obtain ⟨g3, cap3, x3, v3_, v4_, v5_, e, hk1, hk0, ⟨u0, u1, u2, _, _, _⟩, hfz3, _, _, _⟩ := own_stmt R5.out 0 h2
          injection e with e1 e2 e3
          subst e1 e3
          clear e2
          rw [Nat.zero_mul, Nat.zero_add] at u1 u2
          have U := Aside0.mk (show w4.cell? ⟨g3, 2, none⟩ = some _ ∧ b0 ≤ g3 ∧ g3 < b1 from ⟨u2, hk0, hk1⟩)
          obtain ⟨u9, t0, _⟩ := HM.out.ce _ _ u2
          have t1 : wz0.frozen? ⟨g3, 2, none⟩ = false := (HM.out.fr _).trans (hfz3 _)
          have p2 := eq_true (show (0 : Int) < (x.f5.length : Int) by omega)
          clear u0 u1 u2 hk0 hk1 hfz3
          go_wp2_with fail
          generalize hq : World.setCell _ ⟨g3, 2, none⟩ _ = wz2
          have n0_ : Aside0 (Mut b0 b1 w4 wz2) := ⟨by rw [← hq]; exact HM.out.set_ U.out.2.1 U.out.2.2 U.out.1 (kin_int _ _)⟩
          clear hq HM
          have HM := n0_
          clear n0_
          clear U t0 t1 p2 z2 d2
          go_roundg k1
          case measure => omega
          case rel =>
            have hw : wrap64 ((j : Int) + 1) = ((j + 1 : Nat) : Int) := by have := HLL.out; unfold wrap64; omega
            exact ⟨j + 1, by rw [hw], by omega, by omega, HM⟩
        · have d2 : decide ((0 : Int) < (x.f5.length : Int)) = false := decide_eq_false (by omega)
          go_wp2
          go_roundg k1
          case measure => omega
          case rel =>
            have hw : wrap64 ((j : Int) + 1) = ((j + 1 : Nat) : Int) := by have := HLL.out; unfold wrap64; omega
            exact ⟨j + 1, by rw [hw], by omega, by omega, HM⟩
    · have d0 : decide ((0 : Int) < (x.f3.length : Int)) = false := decide_eq_false (by omega)
      go_upto_region 14 with fail
      clear z0 d0
      have z1 : wa.cell? ⟨g, j * 6 + 4, none⟩ = some _ := HM.out.slice HX.out.1.2.2.1
      by_cases h1 : 0 < x.f4.length
      · have d1 : decide ((0 : Int) < (x.f4.length : Int)) = true := decide_eq_true (by omega)
        obtain ⟨g3, cap3, x3, v3_, v4_, v5_, e, hk1, hk0, ⟨u0, u1, u2, _, _, _⟩, hfz3, _, _, _⟩ := own_stmt R4.out 0 h1
        injection e with e1 e2 e3
        subst e1 e3
        clear e2
        rw [Nat.zero_mul, Nat.zero_add] at u1 u2
        have U := Aside0.mk (show w4.cell? ⟨g3, 1, none⟩ = some _ ∧ b0 ≤ g3 ∧ g3 < b1 from ⟨u1, hk0, hk1⟩)
        obtain ⟨u9, t0, _⟩ := HM.out.ce _ _ u1
        have t1 : wa.frozen? ⟨g3, 1, none⟩ = false := (HM.out.fr _).trans (hfz3 _)
        have p2 := eq_true (show (0 : Int) < (x.f4.length : Int) by omega)
        clear u0 u1 u2 hk0 hk1 hfz3
        go_upto_region 16 with fail
        generalize hq : World.setCell _ ⟨g3, 1, none⟩ _ = wz1
        have n0_ : Aside0 (Mut b0 b1 w4 wz1) := ⟨by rw [← hq]; exact HM.out.set_ U.out.2.1 U.out.2.2 U.out.1 (kin_str _ _)⟩
        clear hq HM
        have HM := n0_
        clear n0_
        clear U t0 t1 p2 z1 d1
        have z2 : wz1.cell? ⟨g, j * 6 + 5, none⟩ = some _ := HM.out.slice HX.out.1.2.2.2
        by_cases h2 : 0 < x.f5.length
        · have d2 : decide ((0 : Int) < (x.f5.length : Int)) = true := decide_eq_true (by omega)
          obtain ⟨g3, cap3, x3, v3_, v4_, v5_, e, hk1, hk0, ⟨u0, u1, u2, _, _, _⟩, hfz3, _, _, _⟩ := own_stmt R5.out 0 h2
          injection e with e1 e2 e3
          subst e1 e3
          clear e2
          rw [Nat.zero_mul, Nat.zero_add] at u1 u2
          have U := Aside0.mk (show w4.cell? ⟨g3, 2, none⟩ = some _ ∧ b0 ≤ g3 ∧ g3 < b1 from ⟨u2, hk0, hk1⟩)
          obtain ⟨u9, t0, _⟩ := HM.out.ce _ _ u2
          have t1 : wz1.frozen? ⟨g3, 2, none⟩ = false := (HM.out.fr _).trans (hfz3 _)
          have p2 := eq_true (show (0 : Int) < (x.f5.length : Int) by omega)
          clear u0 u1 u2 hk0 hk1 hfz3
          go_wp2_with fail
          generalize hq : World.setCell _ ⟨g3, 2, none⟩ _ = wz2
          have n0_ : Aside0 (Mut b0 b1 w4 wz2) := ⟨by rw [← hq]; exact HM.out.set_ U.out.2.1 U.out.2.2 U.out.1 (kin_int _ _)⟩
          clear hq HM
          have HM := n0_
          clear n0_
          clear U t0 t1 p2 z2 d2
          go_roundg k1
          case measure => omega
          case rel =>
            have hw : wrap64 ((j : Int) + 1) = ((j + 1 : Nat) : Int) := by have := HLL.out; unfold wrap64; omega
            exact ⟨j + 1, by rw [hw], by omega, by omega, HM⟩
        · have d2 : decide ((0 : Int) < (x.f5.length : Int)) = false := decide_eq_false (by omega)
          go_wp2
          go_roundg k1
          case measure => omega
          case rel =>
            have hw : wrap64 ((j : Int) + 1) = ((j + 1 : Nat) : Int) := by have := HLL.out; unfold wrap64; omega
            exact ⟨j + 1, by rw [hw], by omega, by omega, HM⟩
      · have d1 : decide ((0 : Int) < (x.f4.length : Int)) = false := decide_eq_false (by omega)
        go_upto_region 16 with fail
        clear z1 d1
        have z2 : wa.cell? ⟨g, j * 6 + 5, none⟩ = some _ := HM.out.slice HX.out.1.2.2.2
        by_cases h2 : 0 < x.f5.length
        · have d2 : decide ((0 : Int) < (x.f5.length : Int)) = true := decide_eq_true (by omega)
          obtain ⟨g3, cap3, x3, v3_, v4_, v5_, e, hk1, hk0, ⟨u0, u1, u2, _, _, _⟩, hfz3, _, _, _⟩ := own_stmt R5.out 0 h2
          injection e with e1 e2 e3
          subst e1 e3
          clear e2
          rw [Nat.zero_mul, Nat.zero_add] at u1 u2
          have U := Aside0.mk (show w4.cell? ⟨g3, 2, none⟩ = some _ ∧ b0 ≤ g3 ∧ g3 < b1 from ⟨u2, hk0, hk1⟩)
          obtain ⟨u9, t0, _⟩ := HM.out.ce _ _ u2
          have t1 : wa.frozen? ⟨g3, 2, none⟩ = false := (HM.out.fr _).trans (hfz3 _)
          have p2 := eq_true (show (0 : Int) < (x.f5.length : Int) by omega)
          clear u0 u1 u2 hk0 hk1 hfz3
          go_wp2_with fail
          generalize hq : World.setCell _ ⟨g3, 2, none⟩ _ = wz2
          have n0_ : Aside0 (Mut b0 b1 w4 wz2) := ⟨by rw [← hq]; exact HM.out.set_ U.out.2.1 U.out.2.2 U.out.1 (kin_int _ _)⟩
          clear hq HM
          have HM := n0_
          clear n0_
          clear U t0 t1 p2 z2 d2
          go_roundg k1
          case measure => omega
          case rel =>
            have hw : wrap64 ((j : Int) + 1) = ((j + 1 : Nat) : Int) := by have := HLL.out; unfold wrap64; omega
            exact ⟨j + 1, by rw [hw], by omega, by omega, HM⟩
        · have d2 : decide ((0 : Int) < (x.f5.length : Int)) = false := decide_eq_false (by omega)
          go_wp2
          go_roundg k1
          case measure => omega
          case rel =>
            have hw : wrap64 ((j : Int) + 1) = ((j + 1 : Nat) : Int) := by have := HLL.out; unfold wrap64; omega
            exact ⟨j + 1, by rw [hw], by omega, by omega, HM⟩
end Go.Proofs.Ytobkdmmnbnpemaa.K
