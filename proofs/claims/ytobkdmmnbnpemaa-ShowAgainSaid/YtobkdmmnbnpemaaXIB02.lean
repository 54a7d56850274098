/- Texts of the claim, one behind the other. -/
import Derived.Test.YtobkdmmnbnpemaaXIB01
import Derived.Lib.Hide
set_option maxHeartbeats 16000000
set_option maxRecDepth 100000
namespace Go.Proofs.Ytobkdmmnbnpemaa.K
open Go.RowKit Go.Proofs.YtobkdmmnbnpemaaW.PrintWords Go.Proofs.YtobkdmmnbnpemaaW.PrintLast Go.Proofs.YtobkdmmnbnpemaaW.PrintMore
attribute [local go_sem] max2_int min2_int max_two min_two max_three min_three max_four min_four
set_option linter.unusedVariables false
set_option linter.unusedSimpArgs false
mutual
def show_expr.l0 : Nat → List (S70) → List (S38) → Int → Int → Int → Int → ByteArray → Int → List (S38) → Option (ByteArray × Int)
 | 0, _, _, _, _, _, _, _, _, _ => none
 | k + 1, x3, x20, x21, x22, x146000, x146001, x146002, x146003, x146004 => if x22 < x21 then (if 0 ≤ x22 then (if x22 < (x20.length : Int) then ((show_expr.f k ((rd_T38 x20 x22).f0) ((rd_T38 x20 x22).f1) ((rd_T38 x20 x22).f2) ((rd_T38 x20 x22).f3) ((rd_T38 x20 x22).f4)).bind fun bt150 => (if x3.length < 5864062014805 then (show_expr.l0 k (x3 ++ [(⟨bt150.1, bt150.2⟩ : S70)]) x20 x21 (wrap64 (x22 + 1)) x146000 x146001 x146002 x146003 x146004) else (none))) else (none)) else (none)) else (if x146000 = 3 then (show_expr.j1 k x3 ((x3.length : Int) == 1) x146000 x146001 x146002 x146003 x146004) else (show_expr.j1 k x3 false x146000 x146001 x146002 x146003 x146004))
def show_expr.j1 : Nat → List (S70) → Bool → Int → Int → ByteArray → Int → List (S38) → Option (ByteArray × Int)
 | 0, _, _, _, _, _, _, _ => none
 | k + 1, x3, x32, x146000, x146001, x146002, x146003, x146004 => if x32 = true then (if 0 < (x3.length : Int) then (if 2 + ((rd_T70 x3 0).f0).size ≤ 9223372036854775807 then (if ((⟨#[109, 91]⟩ : ByteArray) ++ ((rd_T70 x3 0).f0)).size + 1 ≤ 9223372036854775807 then (some (((⟨#[109, 91]⟩ : ByteArray) ++ ((rd_T70 x3 0).f0)) ++ (⟨#[93]⟩ : ByteArray), 10)) else (none)) else (none)) else (none)) else (if x146000 = 4 then (show_expr.j2 k x3 ((x3.length : Int) == 1) x146000 x146001 x146002 x146003 x146004) else (show_expr.j2 k x3 false x146000 x146001 x146002 x146003 x146004))
def show_expr.j2 : Nat → List (S70) → Bool → Int → Int → ByteArray → Int → List (S38) → Option (ByteArray × Int)
 | 0, _, _, _, _, _, _, _ => none
 | k + 1, x3, x48, x146000, x146001, x146002, x146003, x146004 => if x48 = true then ((show_one.f x146003).bind fun t156 => (if 0 < (x3.length : Int) then ((show_piece_in.f ((rd_T70 x3 0).f0) ((rd_T70 x3 0).f1) 9).bind fun t158 => (if t156.size + t158.size ≤ 9223372036854775807 then (some (t156 ++ t158, 9)) else (none))) else (none))) else (if x146000 = 5 then (if (x3.length : Int) = 2 then (if 0 < (x3.length : Int) then (if 1 < (x3.length : Int) then ((show_two.f k x146003 ((rd_T70 x3 0).f0) ((rd_T70 x3 0).f1) ((rd_T70 x3 1).f0) ((rd_T70 x3 1).f1)).bind fun bt161 => (some (bt161.1, bt161.2))) else (none)) else (none)) else (some ((⟨#[]⟩ : ByteArray), 10))) else (some ((⟨#[]⟩ : ByteArray), 10)))
def show_expr.f : Nat → Int → Int → ByteArray → Int → List (S38) → Option (ByteArray × Int)
 | 0, _, _, _, _, _ => none
 | k + 1, a0_0, a0_1, a0_2, a0_3, l0_4 => if a0_0 = 1 then ((num_Text.f a0_1).bind fun t147 => (some (t147, 10))) else (if a0_0 = 2 then (some (a0_2, 10)) else (show_expr.l0 k ([] : List (S70)) l0_4 (l0_4.length : Int) 0 a0_0 a0_1 a0_2 a0_3 l0_4))
end
def show_expr.T15 : Bool × List (List Nat × List Nat) := (true, [([], []), ([0], [0]), ([1], [1]), ([], []), ([3], [3]), ([4], [4]), ([5, 2], [5]), ([2, 6], [2, 6]), ([7], [7]), ([8, 6, 0, 1, 2, 3, 4, 5, 6, 7, 8], [8])])
def show_expr.B15 : List Nat := [0, 1, 3, 0, 8, 24, 63, 127, 255, 511]
theorem show_expr.tab15 : rtab .any (opsOf Try.f42 15) = show_expr.T15 := by kernel_rfl
theorem show_expr.bits15 : waitsOk show_expr.T15.2 show_expr.B15 = true := by kernel_rfl
def show_expr.T17 : Bool × List (List Nat × List Nat) := (true, [([], []), ([0], [0]), ([], []), ([2], [2]), ([3], [3]), ([], []), ([5], [5]), ([6], [6]), ([1, 4, 7], [1, 4, 7]), ([8, 8, 0, 1, 2, 3, 4, 5, 6, 7, 8], [8])])
def show_expr.B17 : List Nat := [0, 1, 0, 4, 12, 0, 32, 96, 255, 511]
theorem show_expr.tab17 : rtab .any (opsOf Try.f42 17) = show_expr.T17 := by kernel_rfl
theorem show_expr.bits17 : waitsOk show_expr.T17.2 show_expr.B17 = true := by kernel_rfl
theorem show_expr.calls (k : Nat) : ∀ (a0_0 : Int) (a0_1 : Int) (a0_2 : ByteArray) (a0_3 : Int) (A0_4 : Option Addr) (c0_4 : Nat) (l0_4 : List (S38)) (r1 : ByteArray) (r2 : Int) (w : World) (hr0_4 : Kd.C k38 w A0_4 l0_4.length l0_4) (hc0_4 : l0_4.length ≤ c0_4) (h : show_expr.f k a0_0 a0_1 a0_2 a0_3 l0_4 = some (r1, r2)),
  Calls Try.prog 42 #[.agg #[.int .i64 a0_0, .int .i64 a0_1, .string a0_2, .int .i64 a0_3, .slice A0_4 l0_4.length c0_4]] w fun e w' => e = .returned (.agg #[.string r1, .int .i64 r2]) ∧ Below w.heap.size w w' := by
 induction k using Nat.strongRecOn with
 | _ k ih =>
 intro a0_0 a0_1 a0_2 a0_3 A0_4 c0_4 l0_4 r1 r2 w hr0_4 hc0_4 h; cases k with
 | zero => exact absurd h (by simp [show_expr.f])
 | succ k =>
 simp only [show_expr.f] at h; have hu38 := Try.underlying38; have hu70 := Try.underlying70; have HR0_4 := A_0 hr0_4; have HC0_4 := A_0 hc0_4; clear hr0_4 hc0_4; have HB := A_0 (xbr w.heap.size w); have H : (if a0_0 = 1 then ((num_Text.f a0_1).bind fun t147 => (some (t147, 10))) else (if a0_0 = 2 then (some (a0_2, 10)) else (show_expr.l0 k ([] : List (S70)) l0_4 (l0_4.length : Int) 0 a0_0 a0_1 a0_2 a0_3 l0_4))) = some (r1, r2) := h; clear h; by_cases c2 : a0_0 = 1
 ·rw [if_pos c2] at H
  obtain ⟨c2b0, c2b1⟩ := xbq c2; clear c2; replace H := Option.bind_eq_some_iff.mp H; obtain ⟨t147, A30, H⟩ := H; replace H : (some (t147, 10)) = some (r1, r2) := H; have A3 := A_0 A30; clear A30; simp only [Option.some.injEq, Prod.mk.injEq] at H; obtain ⟨rfl, rfl⟩ := H
  go_enter Try.func42, Try.ntmps42
  go_wp2_with (first | ((with_reducible refine gate_dst (N := 1) rfl ?_); refine bx (a38 a0_0 a0_1 a0_2 a0_3 A0_4 l0_4.length c0_4) 38 ?_; intro gb145 hg w4 hbox hb; have BK145 := A_0 (hbox); have GW145 := A_0 ((z_29 : w.heap.size ≤ gb145)); have GE145 := A_0 ((z_29 : w.heap.size ≤ gb145)); replace HB := A_0 (xbs (z_12) hb); clear hb hbox hg) | ((with_reducible refine gate_dst (N := 2) rfl ?_); refine bx #[.string (⟨#[]⟩ : ByteArray), .int .i64 0] 70 ?_; intro gb146 hg w5 hbox hb; have BK146 := A_0 (hbox); have GW146 := A_0 ((z_47 : w.heap.size ≤ gb146)); have GE146 := A_0 ((z_47 : w.heap.size ≤ gb146)); replace HB := A_0 (xbs (z_48) hb); have NB145_146 := A_0 ((z_49 : gb145 ≠ gb146)); have NB146_145 := A_0 ((z_50 : gb146 ≠ gb145)); replace BK145 := A_0 (blk_below (g := gb145) (o := b38 a0_0 a0_1 a0_2 a0_3 A0_4 l0_4.length c0_4) (z_51) hb); clear hb hbox hg; have hnb6 := NB145_146.out; have hnc6 := NB146_145.out; obtain ⟨hcz7_0, hcz7_1, hcz7_2, hcz7_3, hcz7_4⟩ := blkc5 BK145.out; obtain ⟨hfz7_0, hfz7_1, hfz7_2, hfz7_3, hfz7_4⟩ := blkf5 BK145.out) | ((with_reducible refine gate_callee (f := 60) rfl ?_); refine goesL_ (some 12) rfl rfl Try.func60 (by kernel_rfl) rfl #[.int .i64 a0_1] rfl (z_28) ?_; (with_reducible refine (num_Text.calls a0_1 t147 _ A3.out).mono ?_); rintro e w8 ⟨rfl, hb⟩; refine ⟨_, rfl, ?_⟩; replace BK145 := A_0 (blk_below (g := gb145) (o := b38 a0_0 a0_1 a0_2 a0_3 A0_4 l0_4.length c0_4) (z_51) hb); replace BK146 := A_0 (blk_below (g := gb146) (o := .cells #[.string (⟨#[]⟩ : ByteArray), .int .i64 0] 70 (0, 0)) (z_52) hb); replace HB := A_0 (xbs (z_53) hb); (try clear hb); (try clear hb2); (try clear hk); (try clear hi); obtain ⟨hcz9_0, hcz9_1⟩ := blkc2 BK146.out; obtain ⟨hfz9_0, hfz9_1⟩ := blkf2 BK146.out))
  refine bodyPost_ret (results_cell_row rfl _ _ gb146 70 #[.string t147, .int .i64 10] (0, 0) _ rfl (z_54) Try.underlying70 rfl (by kernel_rfl)) rfl ?_
  exact ⟨z_17, z_53⟩
 ·rw [if_neg c2] at H
  obtain ⟨c2b0, c2b1⟩ := xnq c2; by_cases c10 : a0_0 = 2
  ·rw [if_pos c10] at H
   obtain ⟨c10b0, c10b1⟩ := xbq c10; clear c10; simp only [Option.some.injEq, Prod.mk.injEq] at H; obtain ⟨rfl, rfl⟩ := H
   go_enter Try.func42, Try.ntmps42
   go_wp2_with (first | ((with_reducible refine gate_dst (N := 1) rfl ?_); refine bx (a38 a0_0 a0_1 a0_2 a0_3 A0_4 l0_4.length c0_4) 38 ?_; intro gb145 hg w11 hbox hb; have BK145 := A_0 (hbox); have GW145 := A_0 ((z_29 : w.heap.size ≤ gb145)); have GE145 := A_0 ((z_29 : w.heap.size ≤ gb145)); replace HB := A_0 (xbs (z_12) hb); clear hb hbox hg) | ((with_reducible refine gate_dst (N := 2) rfl ?_); refine bx #[.string (⟨#[]⟩ : ByteArray), .int .i64 0] 70 ?_; intro gb146 hg w12 hbox hb; have BK146 := A_0 (hbox); have GW146 := A_0 ((z_47 : w.heap.size ≤ gb146)); have GE146 := A_0 ((z_47 : w.heap.size ≤ gb146)); replace HB := A_0 (xbs (z_48) hb); have NB145_146 := A_0 ((z_49 : gb145 ≠ gb146)); have NB146_145 := A_0 ((z_50 : gb146 ≠ gb145)); replace BK145 := A_0 (blk_below (g := gb145) (o := b38 a0_0 a0_1 a0_2 a0_3 A0_4 l0_4.length c0_4) (z_51) hb); clear hb hbox hg; have hnb13 := NB145_146.out; have hnc13 := NB146_145.out; obtain ⟨hcz14_0, hcz14_1, hcz14_2, hcz14_3, hcz14_4⟩ := blkc5 BK145.out; obtain ⟨hfz14_0, hfz14_1, hfz14_2, hfz14_3, hfz14_4⟩ := blkf5 BK145.out; obtain ⟨hcz15_0, hcz15_1⟩ := blkc2 BK146.out; obtain ⟨hfz15_0, hfz15_1⟩ := blkf2 BK146.out))
   refine bodyPost_ret (results_cell_row rfl _ _ gb146 70 #[.string a0_2, .int .i64 10] (0, 0) _ rfl (z_54) Try.underlying70 rfl (by kernel_rfl)) rfl ?_
   exact ⟨z_17, z_53⟩
  ·rw [if_neg c10] at H
   obtain ⟨c10b0, c10b1⟩ := xnq c10; have H' := A_0 H; clear H
   go_enter Try.func42, Try.ntmps42
   go_wp2_with (first | ((with_reducible refine gate_dst (N := 1) rfl ?_); refine bx (a38 a0_0 a0_1 a0_2 a0_3 A0_4 l0_4.length c0_4) 38 ?_; intro gb145 hg w16 hbox hb; have BK145 := A_0 (hbox); have GW145 := A_0 ((z_29 : w.heap.size ≤ gb145)); have GE145 := A_0 ((z_29 : w.heap.size ≤ gb145)); replace HB := A_0 (xbs (z_12) hb); clear hb hbox hg) | ((with_reducible refine gate_dst (N := 2) rfl ?_); refine bx #[.string (⟨#[]⟩ : ByteArray), .int .i64 0] 70 ?_; intro gb146 hg w17 hbox hb; have BK146 := A_0 (hbox); have GW146 := A_0 ((z_47 : w.heap.size ≤ gb146)); have GE146 := A_0 ((z_47 : w.heap.size ≤ gb146)); replace HB := A_0 (xbs (z_48) hb); have NB145_146 := A_0 ((z_49 : gb145 ≠ gb146)); have NB146_145 := A_0 ((z_50 : gb146 ≠ gb145)); replace BK145 := A_0 (blk_below (g := gb145) (o := b38 a0_0 a0_1 a0_2 a0_3 A0_4 l0_4.length c0_4) (z_51) hb); clear hb hbox hg; have hnb18 := NB145_146.out; have hnc18 := NB146_145.out; obtain ⟨hcz19_0, hcz19_1, hcz19_2, hcz19_3, hcz19_4⟩ := blkc5 BK145.out; obtain ⟨hfz19_0, hfz19_1, hfz19_2, hfz19_3, hfz19_4⟩ := blkf5 BK145.out))
   go_loopg [3, 22] k (fun kq v3 v22 w' => ∃ (x3_1 : List (S70)) (x22_1 : Int), v22 = .int .i64 x22_1 ∧ Aside0 (show_expr.l0 kq x3_1 l0_4 (l0_4.length : Int) x22_1 a0_0 a0_1 a0_2 a0_3 l0_4 = some (r1, r2)) ∧ Aside0 (kq ≤ k) ∧ Aside0 (Kd.R k70 70 w' w.heap.size (fun k_ => k_ ≠ gb146) v3 x3_1) ∧ Aside0 (w'.heap[gb145]? = some (.cells #[.int .i64 a0_0, .int .i64 a0_1, .string a0_2, .int .i64 a0_3, (.slice A0_4 l0_4.length c0_4)] 38 (0, 0))) ∧ Aside0 (w'.heap[gb146]? = some (.cells #[.string (⟨#[]⟩ : ByteArray), .int .i64 0] 70 (0, 0))) ∧ Aside0 (Below w.heap.size w w'))
   case atStart => exact ⟨(([] : List (S70))), (0), (z_20), H', ⟨xlr _⟩, ⟨by first | exact Kd.R_nil _ _ _ _ _ | exact Kd.N_nil _ _ _ _ _ | exact Kd.V_nil _ _ _ _ _ | exact Kd.Q_nil _ _ _ _ _ | exact Kd.S_nil _ _ _ _ _⟩, ⟨z_51⟩, ⟨z_52⟩, ⟨z_53⟩⟩
   case round =>
    clear H'
    try clear c1
    try clear c2
    try clear c2b0
    try clear c2b1
    try clear p2
    try clear c4
    try clear c6
    try clear c10
    try clear c10b0
    try clear c10b1
    try clear c13
    try clear c18
    try clear hcz14_0
    try clear hcz14_1
    try clear hcz14_2
    try clear hcz14_3
    try clear hcz14_4
    try clear hcz15_0
    try clear hcz15_1
    try clear hcz19_0
    try clear hcz19_1
    try clear hcz19_2
    try clear hcz19_3
    try clear hcz19_4
    try clear hcz7_0
    try clear hcz7_1
    try clear hcz7_2
    try clear hcz7_3
    try clear hcz7_4
    try clear hcz9_0
    try clear hcz9_1
    try clear hfz14_0
    try clear hfz14_1
    try clear hfz14_2
    try clear hfz14_3
    try clear hfz14_4
    try clear hfz15_0
    try clear hfz15_1
    try clear hfz19_0
    try clear hfz19_1
    try clear hfz19_2
    try clear hfz19_3
    try clear hfz19_4
    try clear hfz7_0
    try clear hfz7_1
    try clear hfz7_2
    try clear hfz7_3
    try clear hfz7_4
    try clear hfz9_0
    try clear hfz9_1
    obtain ⟨x3_1, x22_1, rfl, HA, HK1, HO_3, BK145, BK146, HB⟩ := hrel; cases gk with
    | zero => exact absurd HA.out (by simp [show_expr.l0])
    | succ k1 =>
     have H := HA.out; clear HA; simp only [show_expr.l0] at H; by_cases c20 : x22_1 < (l0_4.length : Int)
     ·rw [if_pos c20] at H
      have c20b0 := xdt c20; clear c20; by_cases c21 : 0 ≤ x22_1
      ·rw [if_pos c21] at H
       have c21b0 := xdt c21; clear c21; by_cases c22 : x22_1 < (l0_4.length : Int)
       ·rw [if_pos c22] at H
        have c22b0 := xdt c22; clear c22; replace H := Option.bind_eq_some_iff.mp H; obtain ⟨⟨t150, t151⟩, A230, H⟩ := H; replace H : (if x3_1.length < 5864062014805 then (show_expr.l0 k1 (x3_1 ++ [(⟨t150, t151⟩ : S70)]) l0_4 (l0_4.length : Int) (wrap64 (x22_1 + 1)) a0_0 a0_1 a0_2 a0_3 l0_4) else (none)) = some (r1, r2) := H; have A23 := A_0 A230; clear A230; by_cases c24 : x3_1.length < 5864062014805
        ·rw [if_pos c24] at H
         have LMc24 := A_0 c24; clear c24; obtain ⟨y152, hy152⟩ : ∃ y_ : List (S70), y_ = (x3_1 ++ [(⟨t150, t151⟩ : S70)]) := ⟨_, rfl⟩; replace H : (show_expr.l0 k1 y152 l0_4 (l0_4.length : Int) (wrap64 (x22_1 + 1)) a0_0 a0_1 a0_2 a0_3 l0_4) = some (r1, r2) := by first | (rw [hy152]; with_reducible exact H) | (have H2_ := (Option.bind_some _ _).symm.trans H; rw [hy152]; with_reducible exact H2_) | (have H2_ := (Option.bind_some _ _).symm.trans H; with_reducible exact H2_) | with_reducible exact H | (rw [hy152]; exact H) | exact H
         have Ny152 := A_0 hy152; clear hy152; have H' := A_0 H; clear H; have p148 : 0 ≤ (x22_1 : Int) := xod (z_25); have q148 : x22_1 < (l0_4.length : Int) := xod (z_25); obtain ⟨ad148, A148_4, c148_4, e148, hx148_0, hx148_1, hx148_2, hx148_3, hx148_4, hl148_4, hi148_4⟩ := at_T38 HR0_4.out x22_1 p148 q148; cases e148; replace hx148_0 := (HB.out.cell (xqb w _ hx148_0)).trans hx148_0; replace hx148_1 := (HB.out.cell (xqb w _ hx148_1)).trans hx148_1; replace hx148_2 := (HB.out.cell (xqb w _ hx148_2)).trans hx148_2; replace hx148_3 := (HB.out.cell (xqb w _ hx148_3)).trans hx148_3; replace hx148_4 := (HB.out.cell (xqb w _ hx148_4)).trans hx148_4; have HR148_4 := A_0 hi148_4; have HC148_4 := A_0 hl148_4; clear hi148_4 hl148_4; replace p148 := eq_true p148; replace q148 := eq_true q148
         go_wp2_with (first | ((with_reducible refine gate_dst (N := 5) rfl ?_); refine bx (a38 0 0 ⟨#[]⟩ 0 none 0 0) 38 ?_; intro gb149 hg w25 hbox hb; replace HO_3 := A_0 (Kd.R_below (z_55) hb); have BK149 := A_0 (hbox); have GW149 := A_0 ((z_56 : w.heap.size ≤ gb149)); have GE149 := A_0 ((z_56 : w.heap.size ≤ gb149)); replace HB := A_0 (xbs (z_53) hb); have NB145_149 := A_0 ((by rw [hg]; exact xnl (blk_lt (g := gb145) (o := b38 a0_0 a0_1 a0_2 a0_3 (some ad148) l0_4.length c0_4) (z_51)) : gb145 ≠ gb149)); have NB149_145 := A_0 ((by rw [hg]; exact Nat.ne_of_gt (blk_lt (g := gb145) (o := b38 a0_0 a0_1 a0_2 a0_3 (some ad148) l0_4.length c0_4) (z_51)) : gb149 ≠ gb145)); replace BK145 := A_0 (blk_below (g := gb145) (o := b38 a0_0 a0_1 a0_2 a0_3 (some ad148) l0_4.length c0_4) (z_51) hb); have NB146_149 := A_0 ((by rw [hg]; exact xnl (blk_lt (g := gb146) (o := .cells #[.string (⟨#[]⟩ : ByteArray), .int .i64 0] 70 (0, 0)) (z_52)) : gb146 ≠ gb149)); have NB149_146 := A_0 ((by rw [hg]; exact Nat.ne_of_gt (blk_lt (g := gb146) (o := .cells #[.string (⟨#[]⟩ : ByteArray), .int .i64 0] 70 (0, 0)) (z_52)) : gb149 ≠ gb146)); replace BK146 := A_0 (blk_below (g := gb146) (o := .cells #[.string (⟨#[]⟩ : ByteArray), .int .i64 0] 70 (0, 0)) (z_52) hb); clear hb hbox hg; have hnb26 := NB149_145.out; have hnc26 := NB145_149.out; have hnb27 := NB149_146.out; have hnc27 := NB146_149.out; obtain ⟨hcz28_0, hcz28_1, hcz28_2, hcz28_3, hcz28_4⟩ := blkc5 BK149.out; obtain ⟨hfz28_0, hfz28_1, hfz28_2, hfz28_3, hfz28_4⟩ := blkf5 BK149.out) | ((with_reducible refine gate_callee (f := 42) rfl ?_); refine goesL_ (some 28) rfl rfl Try.func42 (by kernel_rfl) rfl #[.agg #[.int .i64 ((rd_T38 l0_4 x22_1).f0), .int .i64 ((rd_T38 l0_4 x22_1).f1), .string ((rd_T38 l0_4 x22_1).f2), .int .i64 ((rd_T38 l0_4 x22_1).f3), .slice A148_4 ((rd_T38 l0_4 x22_1).f4).length c148_4]] rfl (z_28) ?_; (with_reducible refine (ih k1 (by have := HK1.out; omega) ((rd_T38 l0_4 x22_1).f0) ((rd_T38 l0_4 x22_1).f1) ((rd_T38 l0_4 x22_1).f2) ((rd_T38 l0_4 x22_1).f3) _ _ ((rd_T38 l0_4 x22_1).f4) t150 t151 _ ?side1 ?side2 A23.out).mono ?_); (case side1 => exact Kd.C_below HR148_4.out (z_57)); (case side2 => exact HC148_4.out); rintro e w29 ⟨rfl, hb⟩; refine ⟨_, rfl, ?_⟩; replace HO_3 := A_0 (Kd.R_below (by (with_reducible repeat (first | apply Kd.R_alloc | apply Kd.R_drewN | apply Kd.R_drew)); exact (Kd.R_mono (Kd.R_far (p := ⟨gb149, 4, none⟩) (Kd.R_far (p := ⟨gb149, 3, none⟩) (Kd.R_far (p := ⟨gb149, 2, none⟩) (Kd.R_far (p := ⟨gb149, 1, none⟩) (Kd.R_far (p := ⟨gb149, 0, none⟩) (Kd.R_types HO_3.out BK149.out (by decide)) (fun _ hk => hk.2) (.int .i64 ((rd_T38 l0_4 x22_1).f0))) (fun _ hk => hk.2) (.int .i64 ((rd_T38 l0_4 x22_1).f1))) (fun _ hk => hk.2) (.string ((rd_T38 l0_4 x22_1).f2))) (fun _ hk => hk.2) (.int .i64 ((rd_T38 l0_4 x22_1).f3))) (fun _ hk => hk.2) (.slice A148_4 ((rd_T38 l0_4 x22_1).f4).length c148_4)) (fun _ h_ => h_.1))) hb); replace BK145 := A_0 (blk_below (g := gb145) (o := b38 a0_0 a0_1 a0_2 a0_3 (some ad148) l0_4.length c0_4) (by (with_reducible repeat (first | refine blk_drewN ?_ _ | refine blk_drew ?_ | refine blk_alloc ?_ _)); refine blk_far ?_ NB145_149.out _; (with_reducible repeat (first | refine blk_drewN ?_ _ | refine blk_drew ?_ | refine blk_alloc ?_ _)); refine blk_far ?_ NB145_149.out _; (with_reducible repeat (first | refine blk_drewN ?_ _ | refine blk_drew ?_ | refine blk_alloc ?_ _)); refine blk_far ?_ NB145_149.out _; (with_reducible repeat (first | refine blk_drewN ?_ _ | refine blk_drew ?_ | refine blk_alloc ?_ _)); refine blk_far ?_ NB145_149.out _; (with_reducible repeat (first | refine blk_drewN ?_ _ | refine blk_drew ?_ | refine blk_alloc ?_ _)); refine blk_far ?_ NB145_149.out _; (with_reducible repeat (first | refine blk_drewN ?_ _ | refine blk_drew ?_ | refine blk_alloc ?_ _)); exact BK145.out) hb); replace BK146 := A_0 (blk_below (g := gb146) (o := .cells #[.string (⟨#[]⟩ : ByteArray), .int .i64 0] 70 (0, 0)) (by (with_reducible repeat (first | refine blk_drewN ?_ _ | refine blk_drew ?_ | refine blk_alloc ?_ _)); refine blk_far ?_ NB146_149.out _; (with_reducible repeat (first | refine blk_drewN ?_ _ | refine blk_drew ?_ | refine blk_alloc ?_ _)); refine blk_far ?_ NB146_149.out _; (with_reducible repeat (first | refine blk_drewN ?_ _ | refine blk_drew ?_ | refine blk_alloc ?_ _)); refine blk_far ?_ NB146_149.out _; (with_reducible repeat (first | refine blk_drewN ?_ _ | refine blk_drew ?_ | refine blk_alloc ?_ _)); refine blk_far ?_ NB146_149.out _; (with_reducible repeat (first | refine blk_drewN ?_ _ | refine blk_drew ?_ | refine blk_alloc ?_ _)); refine blk_far ?_ NB146_149.out _; (with_reducible repeat (first | refine blk_drewN ?_ _ | refine blk_drew ?_ | refine blk_alloc ?_ _)); exact BK146.out) hb); replace BK149 := A_0 (blk_below (g := gb149) (o := b38 ((rd_T38 l0_4 x22_1).f0) ((rd_T38 l0_4 x22_1).f1) ((rd_T38 l0_4 x22_1).f2) ((rd_T38 l0_4 x22_1).f3) A148_4 ((rd_T38 l0_4 x22_1).f4).length c148_4) (by (with_reducible repeat (first | refine blk_drewN ?_ _ | refine blk_drew ?_ | refine blk_alloc ?_ _)); apply p5_4; (with_reducible repeat (first | refine blk_drewN ?_ _ | refine blk_drew ?_ | refine blk_alloc ?_ _)); apply p5_3; (with_reducible repeat (first | refine blk_drewN ?_ _ | refine blk_drew ?_ | refine blk_alloc ?_ _)); apply p5_2; (with_reducible repeat (first | refine blk_drewN ?_ _ | refine blk_drew ?_ | refine blk_alloc ?_ _)); apply p5_1; (with_reducible repeat (first | refine blk_drewN ?_ _ | refine blk_drew ?_ | refine blk_alloc ?_ _)); apply p5_0; (with_reducible repeat (first | refine blk_drewN ?_ _ | refine blk_drew ?_ | refine blk_alloc ?_ _)); exact BK149.out) hb); replace HB := A_0 (xbs (z_57) hb); (try clear hb); (try clear hb2); (try clear hk); (try clear hi)) | ((with_reducible refine gate_builtin (b := .append) (xs := #[.tmp 26, .tmp 29]) rfl ?_); (try (refine gate_guard (by rfl) ?_; dsimp only)); at_builtin; refine Kd.R_append k70 (w0 := w) w.heap.size rfl (.tmp 26) (.tmp 29) 106 70 (.agg #[(.string ⟨#[]⟩), (.int .i64 0)]) 24 rfl Try.underlying106 info70 rfl (by decide) (by omega) u3 x3_1 (⟨t150, t151⟩ : S70) [.string t150, .int .i64 t151] (fun k_ => k_ ≠ gb146) (fun _ => False) rfl rfl ?aP (fun _ hk => hk.elim) ?aF ?aO ?aB ?aS ?aL ?_; (case aP => exact k70_mkM _ _ _ (⟨t150, t151⟩ : S70)); (case aB => exact (z_57)); (case aF => exact (fun k_ hk => Kd.freshB (g := gb146) (o := .cells #[.string (⟨#[]⟩ : ByteArray), .int .i64 0] 70 (0, 0)) (z_52) k_ hk)); (case aO => exact (z_55)); (case aS => exact (below_size (z_57))); (case aL => have := LMc24.out; omega); intro v153 w30 ho hb hg hat; rw [← Ny152.out] at ho; replace BK145 := A_0 (blk_grown (g := gb145) (o := b38 a0_0 a0_1 a0_2 a0_3 (some ad148) l0_4.length c0_4) (z_51) hg (Kd.R_ne HO_3.out BK145.out (by decide))); replace BK146 := A_0 (blk_grown (g := gb146) (o := .cells #[.string (⟨#[]⟩ : ByteArray), .int .i64 0] 70 (0, 0)) (z_52) hg (Kd.R_away HO_3.out (fun _ hk => hk))); replace BK149 := A_0 (blk_grown (g := gb149) (o := b38 ((rd_T38 l0_4 x22_1).f0) ((rd_T38 l0_4 x22_1).f1) ((rd_T38 l0_4 x22_1).f2) ((rd_T38 l0_4 x22_1).f3) A148_4 ((rd_T38 l0_4 x22_1).f4).length c148_4) (by (with_reducible repeat (first | refine blk_drewN ?_ _ | refine blk_drew ?_ | refine blk_alloc ?_ _)); exact BK149.out) hg (Kd.R_ne HO_3.out BK149.out (by decide))); replace HB := A_0 (hb); have HO154 := A_0 (ho); clear HO_3; clear ho hb hg hat))
         go_roundg k1
         case measure => have := HK1.out; omega
         case rel => exact ⟨(y152), (wrap64 (x22_1 + 1)), (z_20), H', ⟨by have := HK1.out; omega⟩, ⟨by (with_reducible repeat (first | apply Kd.R_alloc | apply Kd.R_drewN | apply Kd.R_drew)); exact HO154.out⟩, ⟨z_51⟩, ⟨z_52⟩, ⟨z_57⟩⟩
        ·rw [if_neg c24] at H
         exact z_27
       ·rw [if_neg c22] at H
        exact z_27
      ·rw [if_neg c21] at H
       exact z_27
     ·rw [if_neg c20] at H
      have c20b0 := xdf c20; clear c20; have HC31 := A_0 H; clear H; go_upto_region 12 with (fail)
      go_cut [32] (fun v32 wc => ∃ (kq : Nat) (x32_30 : Bool), v32 = .bool x32_30 ∧ Aside0 (show_expr.j1 kq x3_1 x32_30 a0_0 a0_1 a0_2 a0_3 l0_4 = some (r1, r2)) ∧ Aside0 (kq ≤ k1) ∧ Aside0 (Kd.R k70 70 wc w.heap.size (fun k_ => k_ ≠ gb146) u3 x3_1) ∧ Aside0 (wc.heap[gb145]? = some (.cells #[.int .i64 a0_0, .int .i64 a0_1, .string a0_2, .int .i64 a0_3, (.slice A0_4 l0_4.length c0_4)] 38 (0, 0))) ∧ Aside0 (wc.heap[gb146]? = some (.cells #[.string (⟨#[]⟩ : ByteArray), .int .i64 0] 70 (0, 0))) ∧ Aside0 (Below w.heap.size w wc))
      case first =>
       have H := HC31.out; clear HC31; by_cases c32 : a0_0 = 3
       ·rw [if_pos c32] at H
        obtain ⟨c32b0, c32b1⟩ := xbq c32; clear c32
        (first | rw [c32b0] | (simp only [i64_w, i32_w]; rw [c32b0]) | skip)
        have H' := A_0 H; clear H; have hnb33 := NB145_146.out; have hnc33 := NB146_145.out; obtain ⟨hcz34_0, hcz34_1, hcz34_2, hcz34_3, hcz34_4⟩ := blkc5 BK145.out; obtain ⟨hfz34_0, hfz34_1, hfz34_2, hfz34_3, hfz34_4⟩ := blkf5 BK145.out; obtain ⟨Ao35, co35, eo35⟩ := Kd.R_slice HO_3.out; subst eo35
        go_wp2
        go_meet
        case rel => exact ⟨_, (((x3_1.length : Int) == 1)), (z_20), H', ⟨by have := HK1.out; first | omega | exact xlr _⟩, ⟨z_55⟩, ⟨z_51⟩, ⟨z_52⟩, ⟨z_53⟩⟩
       ·rw [if_neg c32] at H
        obtain ⟨c32b0, c32b1⟩ := xnq c32
        (first | rw [c32b0] | (simp only [i64_w, i32_w]; rw [c32b0]) | skip)
        have H' := A_0 H; clear H; have hnb36 := NB145_146.out; have hnc36 := NB146_145.out; obtain ⟨hcz37_0, hcz37_1, hcz37_2, hcz37_3, hcz37_4⟩ := blkc5 BK145.out; obtain ⟨hfz37_0, hfz37_1, hfz37_2, hfz37_3, hfz37_4⟩ := blkf5 BK145.out
        go_wp2
        go_meet
        case rel => exact ⟨_, (false), (z_20), H', ⟨by have := HK1.out; first | omega | exact xlr _⟩, ⟨z_55⟩, ⟨z_51⟩, ⟨z_52⟩, ⟨z_53⟩⟩
      case rest =>
       clear HC31
       try clear c1
       try clear p1
       try clear q1
       try clear hx1
       try clear c2
       try clear c2b0
       try clear c2b1
       try clear p2
       try clear c3
       try clear c4
       try clear c6
       try clear p6
       try clear c10
       try clear c10b0
       try clear c10b1
       try clear c13
       try clear c14
       try clear p14
       try clear q14
       try clear hx14
       try clear c18
       try clear c20
       try clear c20b0
       try clear c21
       try clear c21b0
       try clear c22
       try clear c22b0
       try clear c24
       try clear c26
       try clear c27
       try clear c32
       try clear c32b0
       try clear c32b1
       try clear c33
       try clear c36
       try clear hcz14_0
       try clear hcz14_1
       try clear hcz14_2
       try clear hcz14_3
       try clear hcz14_4
       try clear hcz15_0
       try clear hcz15_1
       try clear hcz19_0
       try clear hcz19_1
       try clear hcz19_2
       try clear hcz19_3
       try clear hcz19_4
       try clear hcz28_0
       try clear hcz28_1
       try clear hcz28_2
       try clear hcz28_3
       try clear hcz28_4
       try clear hcz34_0
       try clear hcz34_1
       try clear hcz34_2
       try clear hcz34_3
       try clear hcz34_4
       try clear hcz37_0
       try clear hcz37_1
       try clear hcz37_2
       try clear hcz37_3
       try clear hcz37_4
       try clear hcz7_0
       try clear hcz7_1
       try clear hcz7_2
       try clear hcz7_3
       try clear hcz7_4
       try clear hcz9_0
       try clear hcz9_1
       try clear hfz14_0
       try clear hfz14_1
       try clear hfz14_2
       try clear hfz14_3
       try clear hfz14_4
       try clear hfz15_0
       try clear hfz15_1
       try clear hfz19_0
       try clear hfz19_1
       try clear hfz19_2
       try clear hfz19_3
       try clear hfz19_4
       try clear hfz28_0
       try clear hfz28_1
       try clear hfz28_2
       try clear hfz28_3
       try clear hfz28_4
       try clear hfz34_0
       try clear hfz34_1
       try clear hfz34_2
       try clear hfz34_3
       try clear hfz34_4
       try clear hfz37_0
       try clear hfz37_1
       try clear hfz37_2
       try clear hfz37_3
       try clear hfz37_4
       try clear hfz7_0
       try clear hfz7_1
       try clear hfz7_2
       try clear hfz7_3
       try clear hfz7_4
       try clear hfz9_0
       try clear hfz9_1
       try clear hx148_0
       try clear hx148_1
       try clear hx148_2
       try clear hx148_3
       try clear hx148_4
       try clear p148
       try clear p2
       try clear q148
       obtain ⟨kq, x32_30, rfl, HA, HJ30, HO_3, BK145, BK146, HB⟩ := hcut; cases kq with
       | zero => exact absurd HA.out (by simp [show_expr.j1])
       | succ kj30 =>
        have H := HA.out; clear HA; simp only [show_expr.j1] at H; by_cases c38 : x32_30 = true
        ·subst c38
         have H1 : (if 0 < (x3_1.length : Int) then (if 2 + ((rd_T70 x3_1 0).f0).size ≤ 9223372036854775807 then (if ((⟨#[109, 91]⟩ : ByteArray) ++ ((rd_T70 x3_1 0).f0)).size + 1 ≤ 9223372036854775807 then (some (((⟨#[109, 91]⟩ : ByteArray) ++ ((rd_T70 x3_1 0).f0)) ++ (⟨#[93]⟩ : ByteArray), 10)) else (none)) else (none)) else (none)) = some (r1, r2) := z_23; clear H; have H := H1; clear H1; by_cases c39 : 0 < (x3_1.length : Int)
         ·rw [if_pos c39] at H
          have c39b0 := xdt c39; have c39b1 : decide (0 < x3_1.length) = true := xdt (by omega); clear c39; by_cases c40 : 2 + ((rd_T70 x3_1 0).f0).size ≤ 9223372036854775807
          ·rw [if_pos c40] at H
           have c40b0 := eq_true c40; have c40b1 := xdt c40
           try have c40b2 : (9223372036854775807 < 2 + ((rd_T70 x3_1 0).f0).size) = False := eq_false (Nat.not_lt.2 c40)
           by_cases c41 : ((⟨#[109, 91]⟩ : ByteArray) ++ ((rd_T70 x3_1 0).f0)).size + 1 ≤ 9223372036854775807
           ·rw [if_pos c41] at H
            have c41b0 := eq_true c41; have c41b1 := xdt c41
            try have c41b2 : (9223372036854775807 < ((⟨#[109, 91]⟩ : ByteArray) ++ ((rd_T70 x3_1 0).f0)).size + 1) = False := eq_false (Nat.not_lt.2 c41)
            have c41b3 := c41b2
            try (simp only [ByteArray.size_append, psz, List.size_toArray, List.length_cons, List.length_nil, Nat.reduceAdd, Nat.zero_add] at c41b3)
            simp only [Option.some.injEq, Prod.mk.injEq] at H; obtain ⟨rfl, rfl⟩ := H; obtain ⟨Ao42, co42, eo42⟩ := Kd.R_slice HO_3.out; subst eo42; have p155 : 0 ≤ (0 : Int) := (by omega); have q155 : 0 < (x3_1.length : Int) := xod (z_25); obtain ⟨ad155, e155, hx155_0, hx155_1⟩ := at_T70 (Kd.R_reads' HO_3.out).2.2 0 p155 q155; cases e155; have qi155 : (0 < x3_1.length) = True := eq_true (by omega)
            (try rw [show ((0 : Int)).toNat = 0 from rfl] at hx155_0)
            (try rw [show 0 * 2 = 0 from rfl] at hx155_0)
            (try rw [Addr.add_zero'] at hx155_0)
            (try rw [show ((0 : Int)).toNat = 0 from rfl] at hx155_1)
            (try rw [show 0 * 2 = 0 from rfl] at hx155_1)
            (try rw [Addr.add_zero'] at hx155_1)
            replace p155 := eq_true p155; replace q155 := eq_true q155; have hnb43 := NB146_145.out; have hnc43 := NB145_146.out; obtain ⟨hcz44_0, hcz44_1⟩ := blkc2 BK146.out; obtain ⟨hfz44_0, hfz44_1⟩ := blkf2 BK146.out
            go_wp2
            refine bodyPost_ret (results_cell_row rfl _ _ gb146 70 #[.string (((⟨#[109, 91]⟩ : ByteArray) ++ ((rd_T70 x3_1 0).f0)) ++ (⟨#[93]⟩ : ByteArray)), .int .i64 10] (0, 0) _ rfl (z_54) Try.underlying70 rfl (by kernel_rfl)) rfl ?_
            exact ⟨z_17, z_53⟩
           ·rw [if_neg c41] at H
            exact z_27
          ·rw [if_neg c40] at H
           exact z_27
         ·rw [if_neg c39] at H
          exact z_27
        ·replace c38 := Bool.eq_false_iff.mpr c38
         subst c38; have H1 : (if a0_0 = 4 then (show_expr.j2 kj30 x3_1 ((x3_1.length : Int) == 1) a0_0 a0_1 a0_2 a0_3 l0_4) else (show_expr.j2 kj30 x3_1 false a0_0 a0_1 a0_2 a0_3 l0_4)) = some (r1, r2) := z_26; clear H; have H := H1; clear H1; have HC45 := A_0 H; clear H; go_upto_region 14 with (fail)
         go_cut [48] (fun v48 wc => ∃ (kq : Nat) (x48_44 : Bool), v48 = .bool x48_44 ∧ Aside0 (show_expr.j2 kq x3_1 x48_44 a0_0 a0_1 a0_2 a0_3 l0_4 = some (r1, r2)) ∧ Aside0 (kq ≤ kj30) ∧ Aside0 (Kd.R k70 70 wc w.heap.size (fun k_ => k_ ≠ gb146) u3 x3_1) ∧ Aside0 (wc.heap[gb145]? = some (.cells #[.int .i64 a0_0, .int .i64 a0_1, .string a0_2, .int .i64 a0_3, (.slice A0_4 l0_4.length c0_4)] 38 (0, 0))) ∧ Aside0 (wc.heap[gb146]? = some (.cells #[.string (⟨#[]⟩ : ByteArray), .int .i64 0] 70 (0, 0))) ∧ Aside0 (Below w.heap.size w wc))
         case first =>
          have H := HC45.out; clear HC45; by_cases c46 : a0_0 = 4
          ·rw [if_pos c46] at H
           obtain ⟨c46b0, c46b1⟩ := xbq c46; clear c46
           (first | rw [c46b0] | (simp only [i64_w, i32_w]; rw [c46b0]) | skip)
           have H' := A_0 H; clear H; have hnb47 := NB145_146.out; have hnc47 := NB146_145.out; obtain ⟨hcz48_0, hcz48_1, hcz48_2, hcz48_3, hcz48_4⟩ := blkc5 BK145.out; obtain ⟨hfz48_0, hfz48_1, hfz48_2, hfz48_3, hfz48_4⟩ := blkf5 BK145.out; obtain ⟨Ao49, co49, eo49⟩ := Kd.R_slice HO_3.out; subst eo49
           go_wp2
           go_meet
           case rel => exact ⟨_, (((x3_1.length : Int) == 1)), (z_20), H', ⟨by have := HK1.out; have := HJ30.out; first | omega | exact xlr _⟩, ⟨z_55⟩, ⟨z_51⟩, ⟨z_52⟩, ⟨z_53⟩⟩
          ·rw [if_neg c46] at H
           obtain ⟨c46b0, c46b1⟩ := xnq c46
           (first | rw [c46b0] | (simp only [i64_w, i32_w]; rw [c46b0]) | skip)
           have H' := A_0 H; clear H; have hnb50 := NB145_146.out; have hnc50 := NB146_145.out; obtain ⟨hcz51_0, hcz51_1, hcz51_2, hcz51_3, hcz51_4⟩ := blkc5 BK145.out; obtain ⟨hfz51_0, hfz51_1, hfz51_2, hfz51_3, hfz51_4⟩ := blkf5 BK145.out
           go_wp2
           go_meet
           case rel => exact ⟨_, (false), (z_20), H', ⟨by have := HK1.out; have := HJ30.out; first | omega | exact xlr _⟩, ⟨z_55⟩, ⟨z_51⟩, ⟨z_52⟩, ⟨z_53⟩⟩
         case rest =>
          clear HC45
          try clear c1
          try clear p1
          try clear q1
          try clear hx1
          try clear qi1
          try clear c2
          try clear c2b0
          try clear c2b1
          try clear p2
          try clear c3
          try clear c4
          try clear c5
          try clear c6
          try clear p6
          try clear c10
          try clear c10b0
          try clear c10b1
          try clear c13
          try clear c14
          try clear p14
          try clear q14
          try clear hx14
          try clear p15
          try clear q15
          try clear hx15
          try clear qi15
          try clear c18
          try clear c20
          try clear c20b0
          try clear c21
          try clear c21b0
          try clear c22
          try clear c22b0
          try clear c24
          try clear c26
          try clear c27
          try clear c32
          try clear c32b0
          try clear c32b1
          try clear c33
          try clear c36
          try clear c38
          try clear c39
          try clear c39b0
          try clear c39b1
          try clear c40
          try clear c40b0
          try clear c40b1
          try clear c40b2
          try clear c41
          try clear c41b0
          try clear c41b1
          try clear c41b2
          try clear c42
          try clear c43
          try clear c46
          try clear c46b0
          try clear c46b1
          try clear c47
          try clear c50
          try clear hcz14_0
          try clear hcz14_1
          try clear hcz14_2
          try clear hcz14_3
          try clear hcz14_4
          try clear hcz15_0
          try clear hcz15_1
          try clear hcz19_0
          try clear hcz19_1
          try clear hcz19_2
          try clear hcz19_3
          try clear hcz19_4
          try clear hcz28_0
          try clear hcz28_1
          try clear hcz28_2
          try clear hcz28_3
          try clear hcz28_4
          try clear hcz34_0
          try clear hcz34_1
          try clear hcz34_2
          try clear hcz34_3
          try clear hcz34_4
          try clear hcz37_0
          try clear hcz37_1
          try clear hcz37_2
          try clear hcz37_3
          try clear hcz37_4
          try clear hcz44_0
          try clear hcz44_1
          try clear hcz48_0
          try clear hcz48_1
          try clear hcz48_2
          try clear hcz48_3
          try clear hcz48_4
          try clear hcz51_0
          try clear hcz51_1
          try clear hcz51_2
          try clear hcz51_3
          try clear hcz51_4
          try clear hcz7_0
          try clear hcz7_1
          try clear hcz7_2
          try clear hcz7_3
          try clear hcz7_4
          try clear hcz9_0
          try clear hcz9_1
          try clear hfz14_0
          try clear hfz14_1
          try clear hfz14_2
          try clear hfz14_3
          try clear hfz14_4
          try clear hfz15_0
          try clear hfz15_1
          try clear hfz19_0
          try clear hfz19_1
          try clear hfz19_2
          try clear hfz19_3
          try clear hfz19_4
          try clear hfz28_0
          try clear hfz28_1
          try clear hfz28_2
          try clear hfz28_3
          try clear hfz28_4
          try clear hfz34_0
          try clear hfz34_1
          try clear hfz34_2
          try clear hfz34_3
          try clear hfz34_4
          try clear hfz37_0
          try clear hfz37_1
          try clear hfz37_2
          try clear hfz37_3
          try clear hfz37_4
          try clear hfz44_0
          try clear hfz44_1
          try clear hfz48_0
          try clear hfz48_1
          try clear hfz48_2
          try clear hfz48_3
          try clear hfz48_4
          try clear hfz51_0
          try clear hfz51_1
          try clear hfz51_2
          try clear hfz51_3
          try clear hfz51_4
          try clear hfz7_0
          try clear hfz7_1
          try clear hfz7_2
          try clear hfz7_3
          try clear hfz7_4
          try clear hfz9_0
          try clear hfz9_1
          try clear hx148_0
          try clear hx148_1
          try clear hx148_2
          try clear hx148_3
          try clear hx148_4
          try clear hx155_0
          try clear hx155_1
          try clear p1
          try clear p14
          try clear p148
          try clear p155
          try clear p2
          try clear p6
          try clear q1
          try clear q14
          try clear q148
          try clear q155
          obtain ⟨kq, x48_44, rfl, HA, HJ44, HO_3, BK145, BK146, HB⟩ := hcut; cases kq with
          | zero => exact absurd HA.out (by simp [show_expr.j2])
          | succ kj44 =>
           have H := HA.out; clear HA; simp only [show_expr.j2] at H; by_cases c52 : x48_44 = true
           ·subst c52
            have H1 : ((show_one.f a0_3).bind fun t156 => (if 0 < (x3_1.length : Int) then ((show_piece_in.f ((rd_T70 x3_1 0).f0) ((rd_T70 x3_1 0).f1) 9).bind fun t158 => (if t156.size + t158.size ≤ 9223372036854775807 then (some (t156 ++ t158, 9)) else (none))) else (none))) = some (r1, r2) := z_23; clear H; have H := H1; clear H1; replace H := Option.bind_eq_some_iff.mp H; obtain ⟨t156, A530, H⟩ := H; replace H : (if 0 < (x3_1.length : Int) then ((show_piece_in.f ((rd_T70 x3_1 0).f0) ((rd_T70 x3_1 0).f1) 9).bind fun t158 => (if t156.size + t158.size ≤ 9223372036854775807 then (some (t156 ++ t158, 9)) else (none))) else (none)) = some (r1, r2) := H; have A53 := A_0 A530; clear A530; by_cases c54 : 0 < (x3_1.length : Int)
            ·rw [if_pos c54] at H
             have c54b0 := xdt c54; have c54b1 : decide (0 < x3_1.length) = true := xdt (by omega); clear c54; replace H := Option.bind_eq_some_iff.mp H; obtain ⟨t158, A550, H⟩ := H; replace H : (if t156.size + t158.size ≤ 9223372036854775807 then (some (t156 ++ t158, 9)) else (none)) = some (r1, r2) := H; have A55 := A_0 A550; clear A550; by_cases c56 : t156.size + t158.size ≤ 9223372036854775807
             ·rw [if_pos c56] at H
              have c56b0 := eq_true c56; have c56b1 := xdt c56
              try have c56b2 : (9223372036854775807 < t156.size + t158.size) = False := eq_false (Nat.not_lt.2 c56)
              simp only [Option.some.injEq, Prod.mk.injEq] at H; obtain ⟨rfl, rfl⟩ := H
              try go_wp2
              replace HO_3 := A_0 (Kd.R_drew HO_3.out); replace BK145 := A_0 (blk_drew BK145.out); replace BK146 := A_0 (blk_drew BK146.out); replace HB := A_0 (below_drew1 HB.out); obtain ⟨Ao58, co58, eo58⟩ := Kd.R_slice HO_3.out
              (first | subst eo58 | (injection eo58 with f1_ f2_ f3_; have f4_ := f1_.symm; have f5_ := f3_.symm; clear f1_ f2_ f3_; subst f4_; subst f5_))
              have p157 : 0 ≤ (0 : Int) := (by omega); have q157 : 0 < (x3_1.length : Int) := xod (z_25); obtain ⟨ad157, e157, hx157_0, hx157_1⟩ := at_T70 (Kd.R_reads' HO_3.out).2.2 0 p157 q157; cases e157; have qi157 : (0 < x3_1.length) = True := eq_true (by omega)
              (try rw [show ((0 : Int)).toNat = 0 from rfl] at hx157_0)
              (try rw [show 0 * 2 = 0 from rfl] at hx157_0)
              (try rw [Addr.add_zero'] at hx157_0)
              (try rw [show ((0 : Int)).toNat = 0 from rfl] at hx157_1)
              (try rw [show 0 * 2 = 0 from rfl] at hx157_1)
              (try rw [Addr.add_zero'] at hx157_1)
              replace p157 := eq_true p157; replace q157 := eq_true q157; refine start_ (n := 10) (S := fun w' => w'.cell? ⟨gb145, 0, none⟩ = some (.int .i64 a0_0) ∧ w'.cell? ⟨gb145, 1, none⟩ = some (.int .i64 a0_1) ∧ w'.cell? ⟨gb145, 2, none⟩ = some (.string a0_2) ∧ w'.cell? ⟨gb145, 3, none⟩ = some (.int .i64 a0_3) ∧ w'.cell? ⟨gb145, 4, none⟩ = some (.slice A0_4 l0_4.length c0_4) ∧ w'.cell? ad157 = some (.string ((rd_T70 x3_1 0).f0)) ∧ w'.cell? ⟨ad157.block, ad157.off + 1, none⟩ = some (.int .i64 ((rd_T70 x3_1 0).f1))) (ds := []) #[false, false, false, false, false, false, false, false, false, false] (by kernel_rfl) rfl rfl ⟨(xbc BK145.out 0).trans rfl, (xbc BK145.out 1).trans rfl, (xbc BK145.out 2).trans rfl, (xbc BK145.out 3).trans rfl, (xbc BK145.out 4).trans rfl, hx157_0, hx157_1⟩ (fun hHeld => ?_); refine with_tabW show_expr.tab15 show_expr.bits15 (fun HT_ HW_ => ?_); generalize wc.drew = w57 at HO_3 BK145 BK146 HB hx157_0 hx157_1 hHeld ⊢; refine pure_ (i := 0) (N := some 57) (v := ?_) (a' := ?_) #[true, false, false, false, false, false, false, false, false, false] rfl rfl (any_of HT_.out (by kernel_rfl)) (fun _ _ _ h => h) (Or.inl ⟨by rfl, ?_⟩) ?_ ?_
              rotate_left
              ·intro w'
               go_simp
               with_reducible rfl
              rotate_left
              ·simp only [Act.put, List.setIfInBounds_toArray, List.set_cons_zero, List.set_cons_succ, i64_w, i32_w]
               rfl
              refine pure_ (i := 3) (N := some 60) (v := ?_) (a' := ?_) #[true, false, false, true, false, false, false, false, false, false] rfl rfl (any_of HT_.out (by kernel_rfl)) (fun _ _ _ h => h) (Or.inl ⟨by rfl, ?_⟩) ?_ ?_
              rotate_left
              ·intro w'
               go_simp
               with_reducible rfl
              rotate_left
              ·simp only [Act.put, List.setIfInBounds_toArray, List.set_cons_zero, List.set_cons_succ, i64_w, i32_w]
               rfl
              refine pure_ (i := 4) (N := some 61) (v := ?_) (a' := ?_) #[true, false, false, true, true, false, false, false, false, false] rfl rfl (any_of HT_.out (by kernel_rfl)) (fun _ _ _ h => h) (Or.inl ⟨by rfl, ?_⟩) ?_ ?_
              rotate_left
              ·intro w'
               go_simp
               with_reducible rfl
              rotate_left
              ·simp only [Act.put, List.setIfInBounds_toArray, List.set_cons_zero, List.set_cons_succ, i64_w, i32_w]
               rfl
              refine take_ (i := 1) (N := some 58) (v := ?_) (a' := ?_) #[true, true, false, true, true, false, false, false, false, false] rfl rfl (take_ofW HT_.out HW_.out (by kernel_rfl)) (fun _ _ _ h => h) (Or.inl ⟨by rfl, ?_⟩) hHeld ?_ ?_
              rotate_left
              ·rintro w' ⟨s0, s1, s2, s3, s4, s5, s6⟩
               go_simp
               with_reducible rfl
              rotate_left
              ·simp only [Act.put, List.setIfInBounds_toArray, List.set_cons_zero, List.set_cons_succ, i64_w, i32_w]
               rfl
              refine take_ (i := 5) (N := some 62) (v := ?_) (a' := ?_) #[true, true, false, true, true, true, false, false, false, false] rfl rfl (take_ofW HT_.out HW_.out (by kernel_rfl)) (fun _ _ _ h => h) (Or.inl ⟨by rfl, ?_⟩) hHeld ?_ ?_
              rotate_left
              ·rintro w' ⟨s0, s1, s2, s3, s4, s5, s6⟩
               go_simp
               with_reducible rfl
              rotate_left
              ·simp only [Act.put, List.setIfInBounds_toArray, List.set_cons_zero, List.set_cons_succ, i64_w, i32_w]
               rfl
              refine one_ (i := 2) (N := some 59) #[true, true, true, true, true, true, false, false, false, false] rfl rfl (one_of HT_.out (by kernel_rfl)) (by decide) (fun K hK => ?_)
              refine goes_ Try.func67 (by kernel_rfl) rfl #[.int .i64 a0_3] (by rfl) rfl rfl (z_28) ?_
              with_reducible refine (show_one.calls a0_3 t156 _ A53.out).mono ?_
              rintro e w' ⟨rfl, ⟨nd, rfl⟩⟩; refine ⟨_, rfl, ?_⟩; refine hK.out _ _ ⟨(xbc BK145.out 0).trans rfl, (xbc BK145.out 1).trans rfl, (xbc BK145.out 2).trans rfl, (xbc BK145.out 3).trans rfl, (xbc BK145.out 4).trans rfl, hHeld.2.2.2.2.2.1, hHeld.2.2.2.2.2.2⟩ (fun hHeld => ?_); clear hK K; refine norm_ (a' := ?_) ?_ ?_
              rotate_left
              ·show Act.put _ (some 59) _ = _
               simp only [Act.put, List.setIfInBounds_toArray, List.set_cons_zero, List.set_cons_succ, i64_w, i32_w]
               rfl
              refine one_ (i := 6) (N := some 63) #[true, true, true, true, true, true, true, false, false, false] rfl rfl (one_of HT_.out (by kernel_rfl)) (by decide) (fun K hK => ?_)
              refine goes_ Try.func68 (by kernel_rfl) rfl #[.agg #[.string ((rd_T70 x3_1 0).f0), .int .i64 ((rd_T70 x3_1 0).f1)], .int .i64 9] (by rfl) rfl rfl (z_28) ?_
              with_reducible refine (show_piece_in.calls ((rd_T70 x3_1 0).f0) ((rd_T70 x3_1 0).f1) 9 t158 _ A55.out).mono ?_
              rintro e w59 ⟨rfl, hb⟩; have HS5_ := (hb.cell (xqb _ _ (hHeld.2.2.2.2.2.1))).trans (hHeld.2.2.2.2.2.1); have HS6_ := (hb.cell (xqb _ _ (hHeld.2.2.2.2.2.2))).trans (hHeld.2.2.2.2.2.2); refine ⟨_, rfl, ?_⟩; have n0_ := A_0 (Kd.R_below (z_55) hb); have n1_ := A_0 (blk_below (g := gb145) (o := b38 a0_0 a0_1 a0_2 a0_3 A0_4 l0_4.length c0_4) (z_51) hb); have n2_ := A_0 (blk_below (g := gb146) (o := .cells #[.string (⟨#[]⟩ : ByteArray), .int .i64 0] 70 (0, 0)) (z_52) hb); have n3_ := A_0 (xbs (z_53) hb); clear HO_3; clear BK145; clear BK146; clear HB; have HO_3 := n0_; have BK145 := n1_; have BK146 := n2_; have HB := n3_; clear n0_ n1_ n2_ n3_
              (try clear hb)
              (try clear hb2)
              (try clear hk)
              (try clear hi)
              refine hK.out _ _ ⟨(xbc BK145.out 0).trans rfl, (xbc BK145.out 1).trans rfl, (xbc BK145.out 2).trans rfl, (xbc BK145.out 3).trans rfl, (xbc BK145.out 4).trans rfl, HS5_, HS6_⟩ (fun hHeld => ?_)
              clear hK K; refine norm_ (a' := ?_) ?_ ?_
              rotate_left
              ·show Act.put _ (some 63) _ = _
               simp only [Act.put, List.setIfInBounds_toArray, List.set_cons_zero, List.set_cons_succ, i64_w, i32_w]
               rfl
              refine pure_ (i := 7) (N := some 64) (v := ?_) (a' := ?_) #[true, true, true, true, true, true, true, true, false, false] rfl rfl (any_of HT_.out (by kernel_rfl)) (fun _ _ _ h => h) (Or.inl ⟨by rfl, ?_⟩) ?_ ?_
              rotate_left
              ·intro w'
               go_simp
               with_reducible rfl
              rotate_left
              ·simp only [Act.put, List.setIfInBounds_toArray, List.set_cons_zero, List.set_cons_succ, i64_w, i32_w]
               rfl
              refine pure_ (i := 8) (N := some 65) (v := ?_) (a' := ?_) #[true, true, true, true, true, true, true, true, true, false] rfl rfl (any_of HT_.out (by kernel_rfl)) (fun _ _ _ h => h) (Or.inl ⟨by rfl, ?_⟩) ?_ ?_
              rotate_left
              ·intro w'
               go_simp
               with_reducible rfl
              rotate_left
              ·simp only [Act.put, List.setIfInBounds_toArray, List.set_cons_zero, List.set_cons_succ, i64_w, i32_w]
               rfl
              refine one_ (i := 9) (N := none) #[true, true, true, true, true, true, true, true, true, true] rfl rfl (one_of HT_.out (by kernel_rfl)) (by decide) (fun K hK => ?_)
              have hs60 : w59.cell? ⟨gb146, 0, none⟩ = some (.string (⟨#[]⟩ : ByteArray)) := (xbc BK146.out 0).trans rfl; have hfs60 := xbz BK146.out 0; have hns60_0 := NB145_146.out; have hms60_0 := NB146_145.out; have hs61 : w59.cell? ⟨gb146, 1, none⟩ = some (.int .i64 0) := (xbc BK146.out 1).trans rfl; have hfs61 := xbz BK146.out 1; have hns61_0 := NB145_146.out; have hms61_0 := NB146_145.out; refine skip_ (w1 := ?_) (by rfl) rfl ?_ ?_
              rotate_left
              ·go_simp
               rfl
              have hadne := Kd.own_blk (Kd.R_away HO_3.out (fun _ hk => hk)); refine hK.out _ _ ⟨((cell_far (p := ⟨gb146, _, none⟩) NB145_146.out _).trans (((cell_far (p := ⟨gb146, _, none⟩) NB145_146.out _).trans (hHeld.1)))), ((cell_far (p := ⟨gb146, _, none⟩) NB145_146.out _).trans (((cell_far (p := ⟨gb146, _, none⟩) NB145_146.out _).trans (hHeld.2.1)))), ((cell_far (p := ⟨gb146, _, none⟩) NB145_146.out _).trans (((cell_far (p := ⟨gb146, _, none⟩) NB145_146.out _).trans (hHeld.2.2.1)))), ((cell_far (p := ⟨gb146, _, none⟩) NB145_146.out _).trans (((cell_far (p := ⟨gb146, _, none⟩) NB145_146.out _).trans (hHeld.2.2.2.1)))), ((cell_far (p := ⟨gb146, _, none⟩) NB145_146.out _).trans (((cell_far (p := ⟨gb146, _, none⟩) NB145_146.out _).trans (hHeld.2.2.2.2.1)))), ((cell_far (p := ⟨gb146, _, none⟩) (z_58) _).trans (((cell_far (p := ⟨gb146, _, none⟩) (z_58) _).trans (hHeld.2.2.2.2.2.1)))), ((cell_far (p := ⟨gb146, _, none⟩) (z_58) _).trans (((cell_far (p := ⟨gb146, _, none⟩) (z_58) _).trans (hHeld.2.2.2.2.2.2))))⟩ (fun hHeld => ?_); clear hK K; refine done_ (done_of HT_.out (by kernel_rfl)) ?_
              try go_wp2
              refine bodyPost_ret (results_cell_row rfl _ _ gb146 70 #[.string (t156 ++ t158), .int .i64 9] (0, 0) _ rfl (z_54) Try.underlying70 rfl (by kernel_rfl)) rfl ?_
              exact ⟨z_17, z_53⟩
             ·rw [if_neg c56] at H
              exact z_27
            ·rw [if_neg c54] at H
             exact z_27
           ·replace c52 := Bool.eq_false_iff.mpr c52
            subst c52; have H1 : (if a0_0 = 5 then (if (x3_1.length : Int) = 2 then (if 0 < (x3_1.length : Int) then (if 1 < (x3_1.length : Int) then ((show_two.f kj44 a0_3 ((rd_T70 x3_1 0).f0) ((rd_T70 x3_1 0).f1) ((rd_T70 x3_1 1).f0) ((rd_T70 x3_1 1).f1)).bind fun bt161 => (some (bt161.1, bt161.2))) else (none)) else (none)) else (some ((⟨#[]⟩ : ByteArray), 10))) else (some ((⟨#[]⟩ : ByteArray), 10))) = some (r1, r2) := z_26; clear H; have H := H1; clear H1; by_cases c62 : a0_0 = 5
            ·rw [if_pos c62] at H
             obtain ⟨c62b0, c62b1⟩ := xbq c62; clear c62; by_cases c63 : (x3_1.length : Int) = 2
             ·rw [if_pos c63] at H
              obtain ⟨c63b0, c63b1⟩ := xbq c63; clear c63; by_cases c64 : 0 < (x3_1.length : Int)
              ·rw [if_pos c64] at H
               have c64b0 := xdt c64; have c64b1 : decide (0 < x3_1.length) = true := xdt (by omega); clear c64; by_cases c65 : 1 < (x3_1.length : Int)
               ·rw [if_pos c65] at H
                have c65b0 := xdt c65; have c65b1 : decide (1 < x3_1.length) = true := xdt (by omega); clear c65; replace H := Option.bind_eq_some_iff.mp H; obtain ⟨⟨t161, t162⟩, A660, H⟩ := H; replace H : (some (t161, t162)) = some (r1, r2) := H; have A66 := A_0 A660; clear A660; simp only [Option.some.injEq, Prod.mk.injEq] at H; obtain ⟨rfl, rfl⟩ := H; have hnb67 := NB145_146.out; have hnc67 := NB146_145.out; obtain ⟨hcz68_0, hcz68_1, hcz68_2, hcz68_3, hcz68_4⟩ := blkc5 BK145.out; obtain ⟨hfz68_0, hfz68_1, hfz68_2, hfz68_3, hfz68_4⟩ := blkf5 BK145.out; obtain ⟨Ao69, co69, eo69⟩ := Kd.R_slice HO_3.out; subst eo69
                try go_wp2
                replace HO_3 := A_0 (Kd.R_drew HO_3.out); replace BK145 := A_0 (blk_drew BK145.out); replace BK146 := A_0 (blk_drew BK146.out); replace HB := A_0 (below_drew1 HB.out); have p159 : 0 ≤ (0 : Int) := (by omega); have q159 : 0 < (x3_1.length : Int) := xod (z_25); obtain ⟨ad159, e159, hx159_0, hx159_1⟩ := at_T70 (Kd.R_reads' HO_3.out).2.2 0 p159 q159; cases e159; have qi159 : (0 < x3_1.length) = True := eq_true (by omega)
                (try rw [show ((0 : Int)).toNat = 0 from rfl] at hx159_0)
                (try rw [show 0 * 2 = 0 from rfl] at hx159_0)
                (try rw [Addr.add_zero'] at hx159_0)
                (try rw [show ((0 : Int)).toNat = 0 from rfl] at hx159_1)
                (try rw [show 0 * 2 = 0 from rfl] at hx159_1)
                (try rw [Addr.add_zero'] at hx159_1)
                replace p159 := eq_true p159; replace q159 := eq_true q159; have p160 : 0 ≤ (1 : Int) := (by omega); have q160 : 1 < (x3_1.length : Int) := xod (z_25); obtain ⟨ad160, e160, hx160_0, hx160_1⟩ := at_T70 (Kd.R_reads' HO_3.out).2.2 1 p160 q160; obtain rfl : ad159 = ad160 := (by injection e160)
                (try simp only [show (1 : Int).toNat = 1 from rfl, Nat.reduceMul, Nat.reduceEqDiff, Go.Addr.add, ↓reduceIte] at hx160_0)
                (try simp only [show (1 : Int).toNat = 1 from rfl, Nat.reduceMul, Nat.reduceEqDiff, Go.Addr.add, ↓reduceIte] at hx160_1)
                have qi160 : (1 < x3_1.length) = True := eq_true (by omega)
                (try rw [show ((1 : Int)).toNat = 1 from rfl] at hx160_0)
                (try rw [show 1 * 2 = 2 from rfl] at hx160_0)
                (try rw [show ((1 : Int)).toNat = 1 from rfl] at hx160_1)
                (try rw [show 1 * 2 = 2 from rfl] at hx160_1)
                replace p160 := eq_true p160; replace q160 := eq_true q160; refine start_ (n := 10) (S := fun w' => w'.cell? ⟨gb145, 0, none⟩ = some (.int .i64 a0_0) ∧ w'.cell? ⟨gb145, 1, none⟩ = some (.int .i64 a0_1) ∧ w'.cell? ⟨gb145, 2, none⟩ = some (.string a0_2) ∧ w'.cell? ⟨gb145, 3, none⟩ = some (.int .i64 a0_3) ∧ w'.cell? ⟨gb145, 4, none⟩ = some (.slice A0_4 l0_4.length c0_4) ∧ w'.cell? ad159 = some (.string ((rd_T70 x3_1 0).f0)) ∧ w'.cell? ⟨ad159.block, ad159.off + 1, none⟩ = some (.int .i64 ((rd_T70 x3_1 0).f1)) ∧ w'.cell? ⟨ad159.block, ad159.off + 2, none⟩ = some (.string ((rd_T70 x3_1 1).f0)) ∧ w'.cell? ⟨ad159.block, ad159.off + 2 + 1, none⟩ = some (.int .i64 ((rd_T70 x3_1 1).f1))) (ds := []) #[false, false, false, false, false, false, false, false, false, false] (by kernel_rfl) rfl rfl ⟨(xbc BK145.out 0).trans rfl, (xbc BK145.out 1).trans rfl, (xbc BK145.out 2).trans rfl, (xbc BK145.out 3).trans rfl, (xbc BK145.out 4).trans rfl, hx159_0, hx159_1, hx160_0, hx160_1⟩ (fun hHeld => ?_); refine with_tabW show_expr.tab17 show_expr.bits17 (fun HT_ HW_ => ?_); generalize wc.drew = w70 at HO_3 BK145 BK146 HB hx159_0 hx159_1 hx160_0 hx160_1 hHeld ⊢; refine pure_ (i := 0) (N := some 75) (v := ?_) (a' := ?_) #[true, false, false, false, false, false, false, false, false, false] rfl rfl (any_of HT_.out (by kernel_rfl)) (fun _ _ _ h => h) (Or.inl ⟨by rfl, ?_⟩) ?_ ?_
                rotate_left
                ·intro w'
                 go_simp
                 with_reducible rfl
                rotate_left
                ·simp only [Act.put, List.setIfInBounds_toArray, List.set_cons_zero, List.set_cons_succ, i64_w, i32_w]
                 rfl
                refine pure_ (i := 2) (N := some 77) (v := ?_) (a' := ?_) #[true, false, true, false, false, false, false, false, false, false] rfl rfl (any_of HT_.out (by kernel_rfl)) (fun _ _ _ h => h) (Or.inl ⟨by rfl, ?_⟩) ?_ ?_
                rotate_left
                ·intro w'
                 go_simp
                 with_reducible rfl
                rotate_left
                ·simp only [Act.put, List.setIfInBounds_toArray, List.set_cons_zero, List.set_cons_succ, i64_w, i32_w]
                 rfl
                refine pure_ (i := 3) (N := some 78) (v := ?_) (a' := ?_) #[true, false, true, true, false, false, false, false, false, false] rfl rfl (any_of HT_.out (by kernel_rfl)) (fun _ _ _ h => h) (Or.inl ⟨by rfl, ?_⟩) ?_ ?_
                rotate_left
                ·intro w'
                 go_simp
                 with_reducible rfl
                rotate_left
                ·simp only [Act.put, List.setIfInBounds_toArray, List.set_cons_zero, List.set_cons_succ, i64_w, i32_w]
                 rfl
                refine pure_ (i := 5) (N := some 80) (v := ?_) (a' := ?_) #[true, false, true, true, false, true, false, false, false, false] rfl rfl (any_of HT_.out (by kernel_rfl)) (fun _ _ _ h => h) (Or.inl ⟨by rfl, ?_⟩) ?_ ?_
                rotate_left
                ·intro w'
                 go_simp
                 with_reducible rfl
                rotate_left
                ·simp only [Act.put, List.setIfInBounds_toArray, List.set_cons_zero, List.set_cons_succ, i64_w, i32_w]
                 rfl
                refine pure_ (i := 6) (N := some 81) (v := ?_) (a' := ?_) #[true, false, true, true, false, true, true, false, false, false] rfl rfl (any_of HT_.out (by kernel_rfl)) (fun _ _ _ h => h) (Or.inl ⟨by rfl, ?_⟩) ?_ ?_
                rotate_left
                ·intro w'
                 go_simp
                 with_reducible rfl
                rotate_left
                ·simp only [Act.put, List.setIfInBounds_toArray, List.set_cons_zero, List.set_cons_succ, i64_w, i32_w]
                 rfl
                refine take_ (i := 1) (N := some 76) (v := ?_) (a' := ?_) #[true, true, true, true, false, true, true, false, false, false] rfl rfl (take_ofW HT_.out HW_.out (by kernel_rfl)) (fun _ _ _ h => h) (Or.inl ⟨by rfl, ?_⟩) hHeld ?_ ?_
                rotate_left
                ·rintro w' ⟨s0, s1, s2, s3, s4, s5, s6, s7, s8⟩
                 go_simp
                 with_reducible rfl
                rotate_left
                ·simp only [Act.put, List.setIfInBounds_toArray, List.set_cons_zero, List.set_cons_succ, i64_w, i32_w]
                 rfl
                refine take_ (i := 4) (N := some 79) (v := ?_) (a' := ?_) #[true, true, true, true, true, true, true, false, false, false] rfl rfl (take_ofW HT_.out HW_.out (by kernel_rfl)) (fun _ _ _ h => h) (Or.inl ⟨by rfl, ?_⟩) hHeld ?_ ?_
                rotate_left
                ·rintro w' ⟨s0, s1, s2, s3, s4, s5, s6, s7, s8⟩
                 go_simp
                 with_reducible rfl
                rotate_left
                ·simp only [Act.put, List.setIfInBounds_toArray, List.set_cons_zero, List.set_cons_succ, i64_w, i32_w]
                 rfl
                refine take_ (i := 7) (N := some 82) (v := ?_) (a' := ?_) #[true, true, true, true, true, true, true, true, false, false] rfl rfl (take_ofW HT_.out HW_.out (by kernel_rfl)) (fun _ _ _ h => h) (Or.inl ⟨by rfl, ?_⟩) hHeld ?_ ?_
                rotate_left
                ·rintro w' ⟨s0, s1, s2, s3, s4, s5, s6, s7, s8⟩
                 go_simp
                 with_reducible rfl
                rotate_left
                ·simp only [Act.put, List.setIfInBounds_toArray, List.set_cons_zero, List.set_cons_succ, i64_w, i32_w]
                 rfl
                refine one_ (i := 8) (N := some 83) #[true, true, true, true, true, true, true, true, true, false] rfl rfl (one_of HT_.out (by kernel_rfl)) (by decide) (fun K hK => ?_)
                refine goes_ Try.func69 (by kernel_rfl) rfl #[.int .i64 a0_3, .agg #[.string ((rd_T70 x3_1 0).f0), .int .i64 ((rd_T70 x3_1 0).f1)], .agg #[.string ((rd_T70 x3_1 1).f0), .int .i64 ((rd_T70 x3_1 1).f1)]] (by rfl) rfl rfl (z_28) ?_
                with_reducible refine (show_two.calls kj44 a0_3 ((rd_T70 x3_1 0).f0) ((rd_T70 x3_1 0).f1) ((rd_T70 x3_1 1).f0) ((rd_T70 x3_1 1).f1) t161 t162 _ A66.out).mono ?_
                rintro e w71 ⟨rfl, hb⟩; have HS5_ := (hb.cell (xqb _ _ (hHeld.2.2.2.2.2.1))).trans (hHeld.2.2.2.2.2.1); have HS6_ := (hb.cell (xqb _ _ (hHeld.2.2.2.2.2.2.1))).trans (hHeld.2.2.2.2.2.2.1); have HS7_ := (hb.cell (xqb _ _ (hHeld.2.2.2.2.2.2.2.1))).trans (hHeld.2.2.2.2.2.2.2.1); have HS8_ := (hb.cell (xqb _ _ (hHeld.2.2.2.2.2.2.2.2))).trans (hHeld.2.2.2.2.2.2.2.2); refine ⟨_, rfl, ?_⟩; have n0_ := A_0 (Kd.R_below (z_55) hb); have n1_ := A_0 (blk_below (g := gb145) (o := b38 a0_0 a0_1 a0_2 a0_3 A0_4 l0_4.length c0_4) (z_51) hb); have n2_ := A_0 (blk_below (g := gb146) (o := .cells #[.string (⟨#[]⟩ : ByteArray), .int .i64 0] 70 (0, 0)) (z_52) hb); have n3_ := A_0 (xbs (z_53) hb); clear HO_3; clear BK145; clear BK146; clear HB; have HO_3 := n0_; have BK145 := n1_; have BK146 := n2_; have HB := n3_; clear n0_ n1_ n2_ n3_
                (try clear hb)
                (try clear hb2)
                (try clear hk)
                (try clear hi)
                refine hK.out _ _ ⟨(xbc BK145.out 0).trans rfl, (xbc BK145.out 1).trans rfl, (xbc BK145.out 2).trans rfl, (xbc BK145.out 3).trans rfl, (xbc BK145.out 4).trans rfl, HS5_, HS6_, HS7_, HS8_⟩ (fun hHeld => ?_)
                clear hK K; refine norm_ (a' := ?_) ?_ ?_
                rotate_left
                ·show Act.put _ (some 83) _ = _
                 simp only [Act.put, List.setIfInBounds_toArray, List.set_cons_zero, List.set_cons_succ, i64_w, i32_w]
                 rfl
                refine one_ (i := 9) (N := none) #[true, true, true, true, true, true, true, true, true, true] rfl rfl (one_of HT_.out (by kernel_rfl)) (by decide) (fun K hK => ?_)
                have hs72 : w71.cell? ⟨gb146, 0, none⟩ = some (.string (⟨#[]⟩ : ByteArray)) := (xbc BK146.out 0).trans rfl; have hfs72 := xbz BK146.out 0; have hns72_0 := NB145_146.out; have hms72_0 := NB146_145.out; have hs73 : w71.cell? ⟨gb146, 1, none⟩ = some (.int .i64 0) := (xbc BK146.out 1).trans rfl; have hfs73 := xbz BK146.out 1; have hns73_0 := NB145_146.out; have hms73_0 := NB146_145.out; refine skip_ (w1 := ?_) (by rfl) rfl ?_ ?_
                rotate_left
                ·go_simp
                 rfl
                have hadne := Kd.own_blk (Kd.R_away HO_3.out (fun _ hk => hk)); refine hK.out _ _ ⟨((cell_far (p := ⟨gb146, _, none⟩) NB145_146.out _).trans (((cell_far (p := ⟨gb146, _, none⟩) NB145_146.out _).trans (hHeld.1)))), ((cell_far (p := ⟨gb146, _, none⟩) NB145_146.out _).trans (((cell_far (p := ⟨gb146, _, none⟩) NB145_146.out _).trans (hHeld.2.1)))), ((cell_far (p := ⟨gb146, _, none⟩) NB145_146.out _).trans (((cell_far (p := ⟨gb146, _, none⟩) NB145_146.out _).trans (hHeld.2.2.1)))), ((cell_far (p := ⟨gb146, _, none⟩) NB145_146.out _).trans (((cell_far (p := ⟨gb146, _, none⟩) NB145_146.out _).trans (hHeld.2.2.2.1)))), ((cell_far (p := ⟨gb146, _, none⟩) NB145_146.out _).trans (((cell_far (p := ⟨gb146, _, none⟩) NB145_146.out _).trans (hHeld.2.2.2.2.1)))), ((cell_far (p := ⟨gb146, _, none⟩) (z_58) _).trans (((cell_far (p := ⟨gb146, _, none⟩) (z_58) _).trans (hHeld.2.2.2.2.2.1)))), ((cell_far (p := ⟨gb146, _, none⟩) (z_58) _).trans (((cell_far (p := ⟨gb146, _, none⟩) (z_58) _).trans (hHeld.2.2.2.2.2.2.1)))), ((cell_far (p := ⟨gb146, _, none⟩) (z_58) _).trans (((cell_far (p := ⟨gb146, _, none⟩) (z_58) _).trans (hHeld.2.2.2.2.2.2.2.1)))), ((cell_far (p := ⟨gb146, _, none⟩) (z_58) _).trans (((cell_far (p := ⟨gb146, _, none⟩) (z_58) _).trans (hHeld.2.2.2.2.2.2.2.2))))⟩ (fun hHeld => ?_); clear hK K; refine done_ (done_of HT_.out (by kernel_rfl)) ?_
                try go_wp2
                refine bodyPost_ret (results_cell_row rfl _ _ gb146 70 #[.string t161, .int .i64 t162] (0, 0) _ rfl (z_54) Try.underlying70 rfl (by kernel_rfl)) rfl ?_
                exact ⟨z_17, z_53⟩
               ·rw [if_neg c65] at H
                exact z_27
              ·rw [if_neg c64] at H
               exact z_27
             ·rw [if_neg c63] at H
              obtain ⟨c63b0, c63b1⟩ := xnq c63; simp only [Option.some.injEq, Prod.mk.injEq] at H; obtain ⟨rfl, rfl⟩ := H; have hnb74 := NB145_146.out; have hnc74 := NB146_145.out; obtain ⟨hcz75_0, hcz75_1, hcz75_2, hcz75_3, hcz75_4⟩ := blkc5 BK145.out; obtain ⟨hfz75_0, hfz75_1, hfz75_2, hfz75_3, hfz75_4⟩ := blkf5 BK145.out; obtain ⟨Ao76, co76, eo76⟩ := Kd.R_slice HO_3.out; subst eo76; obtain ⟨hcz77_0, hcz77_1⟩ := blkc2 BK146.out; obtain ⟨hfz77_0, hfz77_1⟩ := blkf2 BK146.out
              go_wp2
              refine bodyPost_ret (results_cell_row rfl _ _ gb146 70 #[.string (⟨#[]⟩ : ByteArray), .int .i64 10] (0, 0) _ rfl (z_54) Try.underlying70 rfl (by kernel_rfl)) rfl ?_
              exact ⟨z_17, z_53⟩
            ·rw [if_neg c62] at H
             obtain ⟨c62b0, c62b1⟩ := xnq c62; simp only [Option.some.injEq, Prod.mk.injEq] at H; obtain ⟨rfl, rfl⟩ := H; have hnb78 := NB145_146.out; have hnc78 := NB146_145.out; obtain ⟨hcz79_0, hcz79_1, hcz79_2, hcz79_3, hcz79_4⟩ := blkc5 BK145.out; obtain ⟨hfz79_0, hfz79_1, hfz79_2, hfz79_3, hfz79_4⟩ := blkf5 BK145.out; obtain ⟨hcz80_0, hcz80_1⟩ := blkc2 BK146.out; obtain ⟨hfz80_0, hfz80_1⟩ := blkf2 BK146.out
             go_wp2
             refine bodyPost_ret (results_cell_row rfl _ _ gb146 70 #[.string (⟨#[]⟩ : ByteArray), .int .i64 10] (0, 0) _ rfl (z_54) Try.underlying70 rfl (by kernel_rfl)) rfl ?_
             exact ⟨z_17, z_53⟩
theorem field70_0 (a : ByteArray) (b : Int) (W : World) : (Instr.field 70 (.agg #[.string a, .int .i64 b]) 0).run Try.prog W = .ok (.string a) W := by kernel_rfl
def show_Expr.f (k : Nat) (a0_0 : Int) (a0_1 : Int) (a0_2 : ByteArray) (a0_3 : Int) (l0_4 : List (S38)) : Option (ByteArray) := (show_expr.f k a0_0 a0_1 a0_2 a0_3 l0_4).bind fun bt164 => (some bt164.1)
theorem show_Expr.calls (k : Nat) (a0_0 : Int) (a0_1 : Int) (a0_2 : ByteArray) (a0_3 : Int) (A0_4 : Option Addr) (c0_4 : Nat) (l0_4 : List (S38)) (r : ByteArray) (w : World) (hr0_4 : Kd.C k38 w A0_4 l0_4.length l0_4) (hc0_4 : l0_4.length ≤ c0_4) (h : show_Expr.f k a0_0 a0_1 a0_2 a0_3 l0_4 = some r) :
  Calls Try.prog 23 #[.agg #[.int .i64 a0_0, .int .i64 a0_1, .string a0_2, .int .i64 a0_3, .slice A0_4 l0_4.length c0_4]] w fun e w' => e = .returned (.string r) ∧ Below w.heap.size w w' := by
 have hu38 := Try.underlying38; have HR0_4 := A_0 hr0_4; have HC0_4 := A_0 hc0_4; clear hr0_4 hc0_4; have HB := A_0 (xbr w.heap.size w); have H : ((show_expr.f k a0_0 a0_1 a0_2 a0_3 l0_4).bind fun bt164 => (some bt164.1)) = some r := h; clear h; replace H := Option.bind_eq_some_iff.mp H; obtain ⟨⟨t164, t165⟩, A20, H⟩ := H; replace H : (some t164) = some r := H; have A2 := A_0 A20; clear A20; obtain rfl := xsi H; have hfld := field70_0 t164 t165
 go_enter Try.func23, Try.ntmps23
 go_wp2_with (first | ((with_reducible refine gate_dst (N := 1) rfl ?_); refine bx (a38 a0_0 a0_1 a0_2 a0_3 A0_4 l0_4.length c0_4) 38 ?_; intro gb163 hg w3 hbox hb; have BK163 := A_0 (hbox); have GW163 := A_0 ((z_29 : w.heap.size ≤ gb163)); have GE163 := A_0 ((z_29 : w.heap.size ≤ gb163)); replace HB := A_0 (xbs (z_12) hb); clear hb hbox hg; obtain ⟨hcz4_0, hcz4_1, hcz4_2, hcz4_3, hcz4_4⟩ := blkc5 BK163.out; obtain ⟨hfz4_0, hfz4_1, hfz4_2, hfz4_3, hfz4_4⟩ := blkf5 BK163.out) | ((with_reducible refine gate_callee (f := 42) rfl ?_); refine goesL_ (some 4) rfl rfl Try.func42 (by kernel_rfl) rfl #[.agg #[.int .i64 a0_0, .int .i64 a0_1, .string a0_2, .int .i64 a0_3, .slice A0_4 l0_4.length c0_4]] rfl (z_28) ?_; (with_reducible refine (show_expr.calls k a0_0 a0_1 a0_2 a0_3 _ _ l0_4 t164 t165 _ ?side1 ?side2 A2.out).mono ?_); (case side1 => repeat (first | exact (Kd.C_below HR0_4.out HB.out) | (with_reducible refine Kd.C_alloc ?_ _) | (with_reducible refine Kd.C_drewN ?_ _) | (with_reducible refine Kd.C_drew ?_))); (case side2 => exact HC0_4.out); rintro e w5 ⟨rfl, hb⟩; refine ⟨_, rfl, ?_⟩; replace BK163 := A_0 (blk_below (g := gb163) (o := b38 a0_0 a0_1 a0_2 a0_3 A0_4 l0_4.length c0_4) (by (with_reducible repeat (first | refine blk_drewN ?_ _ | refine blk_drew ?_ | refine blk_alloc ?_ _)); exact BK163.out) hb); replace HB := A_0 (xbs (z_59) hb); (try clear hb); (try clear hb2); (try clear hk); (try clear hi)))
 go_ret
 exact ⟨z_17, z_59⟩
def KeepT (W W' : World) (g : Nat) : Prop := W.heap.size ≤ W'.heap.size ∧ ∀ i o, W.heap[i]? = some o → i ≠ g → (∀ cs, o ≠ .cells cs 5 (0, 0)) → W'.heap[i]? = some o
theorem KeepT.refl (W : World) (g : Nat) : KeepT W W g := ⟨xlr _, fun _ _ h _ _ => h⟩
theorem KeepT.trans {W W1 W2 : World} {g : Nat} (h : KeepT W W1 g) (k : KeepT W1 W2 g) : KeepT W W2 g := ⟨Nat.le_trans h.1 k.1, fun i o hi hg ho => k.2 i o (h.2 i o hi hg ho) hg ho⟩
theorem KeepT.of_below {W W1 : World} (h : Below W.heap.size W W1) (g : Nat) : KeepT W W1 g := ⟨h.size, fun i o hi _ _ => (h.block i (blk_lt hi)).trans hi⟩
theorem KeepT.below {W W1 W2 : World} {g : Nat} (h : KeepT W W1 g) (k : Below W1.heap.size W1 W2) : KeepT W W2 g := h.trans (KeepT.of_below k g)
theorem KeepT.alloc {W W1 : World} {g : Nat} (h : KeepT W W1 g) (o : Obj) : KeepT W (W1.alloc o) g := h.below (below_alloc (xbr _ _) o)
theorem KeepT.drewN {W W1 : World} {g : Nat} (h : KeepT W W1 g) (m : Nat) : KeepT W (W1.drewN m) g := h
theorem KeepT.drew {W W1 : World} {g : Nat} (h : KeepT W W1 g) : KeepT W W1.drew g := h
theorem KeepT.set {W W1 : World} {g : Nat} (h : KeepT W W1 g) (j : Nat) (u : Value) : KeepT W (W1.setCell ⟨g, j, none⟩ u) g :=
 ⟨by simpa [World.setCell] using h.1, fun i o hi hg ho => (Below.heap_setCell W1 ⟨g, j, none⟩ u i hg).trans (h.2 i o hi hg ho)⟩
theorem KeepT.blk {W W1 : World} {g b : Nat} {cs : Array Value} {t : TypeId} (h : KeepT W W1 g) (hb : W.heap[b]? = some (.cells cs t (0, 0))) (hg : b ≠ g) (ht : t ≠ 5) : W1.heap[b]? = some (.cells cs t (0, 0)) :=
 h.2 b _ hb hg (fun cs' e => by injection e with _ e2; exact ht e2)
def WV (B : Nat) (W : World) (g : Nat) (v : Value) (t : List UInt8) (n : Int) : Prop :=
 W.heap[g]? = some (.cells #[v, .int .i64 n] 64 (0, 0)) ∧ B ≤ g ∧ W.ownsRow B 5 1 v (t.map c8).length (nums .u8 (t.map c8))
def IsW (B : Nat) (W : World) (g : Nat) (t : List UInt8) (n : Int) : Prop := ∃ v, WV B W g v t n
theorem WV.ne {B : Nat} {W : World} {g : Nat} {v : Value} {t : List UInt8} {n : Int} (h : WV B W g v t n) : some g ≠ v.ownBlock := by
 obtain ⟨h1, _, _, h3⟩ := h; intro e; rcases h3 with ⟨rfl, _⟩ | ⟨g', cap, cur, rfl, _, h4, _⟩
 ·simp [Value.ownBlock] at e
 ·have e2 : g = g' := by simpa [Value.ownBlock] using e
  subst e2; rw [h1] at h4; injection h4 with h4; injection h4 with _ h5; exact absurd h5 (by decide)
theorem WV.row {B : Nat} {W : World} {g : Nat} {v : Value} {t : List UInt8} {n : Int} (h : WV B W g v t n) (k : Nat) (hk : v.ownBlock = some k) : ∃ cs, W.heap[k]? = some (.cells cs 5 (0, 0)) := by
 obtain ⟨_, _, _, h3⟩ := h; rcases h3 with ⟨rfl, _⟩ | ⟨g', cap, cur, rfl, _, h4, _⟩
 ·simp [Value.ownBlock] at hk
 ·have e2 : g' = k := by simpa [Value.ownBlock] using hk
  subst e2; exact ⟨cur, h4⟩
theorem WV.below {B : Nat} {W W1 : World} {g : Nat} {v : Value} {t : List UInt8} {n : Int} (h : WV B W g v t n) (hb : Below W.heap.size W W1) : WV B W1 g v t n := by
 refine ⟨blk_below h.1 hb, h.2.1, ?_⟩
 exact h.2.2.kept (grown_of_below hb none) (by
  cases hv : v.ownBlock with
  | none => exact .inl rfl
  | some k => exact .inr (by simp))
theorem IsW.below {B : Nat} {W W1 : World} {g : Nat} {t : List UInt8} {n : Int} (h : IsW B W g t n) (hb : Below W.heap.size W W1) : IsW B W1 g t n := by
 obtain ⟨v, h⟩ := h; exact ⟨v, h.below hb⟩
theorem IsW.alloc {B : Nat} {W : World} {g : Nat} {t : List UInt8} {n : Int} (h : IsW B W g t n) (o : Obj) : IsW B (W.alloc o) g t n := h.below (below_alloc (xbr _ _) o)
theorem IsW.drewN {B : Nat} {W : World} {g : Nat} {t : List UInt8} {n : Int} (h : IsW B W g t n) (m : Nat) : IsW B (W.drewN m) g t n := h
theorem IsW.drew {B : Nat} {W : World} {g : Nat} {t : List UInt8} {n : Int} (h : IsW B W g t n) : IsW B W.drew g t n := h
theorem IsW.ge {B : Nat} {W : World} {g : Nat} {t : List UInt8} {n : Int} (h : IsW B W g t n) : B ≤ g := by obtain ⟨v, h⟩ := h; exact h.2.1
theorem IsW.lt {B : Nat} {W : World} {g : Nat} {t : List UInt8} {n : Int} (h : IsW B W g t n) : g < W.heap.size := by obtain ⟨v, h⟩ := h; exact blk_lt h.1
theorem IsW.fresh {B : Nat} {W : World} {g : Nat} {t : List UInt8} {n : Int} (h : IsW B W g t n) : ∀ k, W.heap.size ≤ k → k ≠ g := fun k hk e => by have := h.lt; omega
theorem IsW.ne_blk {B : Nat} {W : World} {g b : Nat} {t : List UInt8} {n : Int} {cs : Array Value} {ty : TypeId} (h : IsW B W g t n) (hb : W.heap[b]? = some (.cells cs ty (0, 0))) (ht : ty ≠ 64) : b ≠ g := by
 obtain ⟨v, h⟩ := h; exact blk_ne hb h.1 ht
theorem WV.put {B : Nat} {W w1 : World} {g : Nat} {v v1 : Value} {t t1 : List UInt8} {n : Int} (h : WV B W g v t n) (ho : w1.ownsRow B 5 1 v1 (t1.map c8).length (nums .u8 (t1.map c8))) (hg : W.grownBy w1 v.ownBlock) :
  WV B (w1.setCell ⟨g, 0, none⟩ v1) g v1 t1 n := by
 have hb : w1.heap[g]? = some (.cells #[v, .int .i64 n] 64 (0, 0)) := blk_grown h.1 hg h.ne; refine ⟨blk_put hb 0 v1 rfl, h.2.1, ?_⟩
 have hne : v1.ownBlock ≠ some g := by
  intro e; obtain ⟨_, h3⟩ := ho; rcases h3 with ⟨rfl, _⟩ | ⟨g', cap, cur, rfl, _, h4, _⟩
  ·simp [Value.ownBlock] at e
  ·have e2 : g' = g := by simpa [Value.ownBlock] using e
   subst e2; rw [hb] at h4; injection h4 with h4; injection h4 with _ h5; exact absurd h5 (by decide)
 exact own_setCell ho (fun e => hne e.symm) v1
theorem KeepT.grown {W W1 w1 : World} {g : Nat} {v : Value} {B : Nat} {t : List UInt8} {n : Int} (h : KeepT W W1 g) (hw : WV B W1 g v t n) (hg : W1.grownBy w1 v.ownBlock) : KeepT W w1 g := by
 refine h.trans ⟨hg.size, fun i o hi hig ho => (hg.block i (blk_lt hi) ?_).trans hi⟩
 intro e; obtain ⟨cs, hc⟩ := hw.row i e.symm; rw [hi] at hc; exact ho cs (xsi hc)
theorem WV.dent {B : Nat} {W : World} {g : Nat} {v : Value} {t : List UInt8} {n : Int} (h : WV B W g v t n) (m : Int) : WV B (W.setCell ⟨g, 1, none⟩ (.int .i64 m)) g v t m :=
 ⟨blk_put h.1 1 _ rfl, h.2.1, own_setCell h.2.2 h.ne _⟩
theorem lst_bytesOf (y : ByteArray) : (lst y).map c8 = bytesOf y := by unfold lst bytesOf c8; rfl
theorem map_app (t : List UInt8) (y : ByteArray) : (t ++ lst y).map c8 = t.map c8 ++ bytesOf y := by rw [List.map_append, lst_bytesOf]
def lineB (n : Int) (parts : List ByteArray) : List UInt8 := List.replicate (2 * n.toNat) 32 ++ ((parts.map lst).flatten ++ [10])
end Go.Proofs.Ytobkdmmnbnpemaa.K
