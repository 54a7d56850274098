/- Walks of the seat's own: tree_nodes, tree_Nodes, outriderref04_Rank; they began as parts of a print and were turned. -/
import Derived.Test.YtobkdmmnbnpemaaXJK3
import Derived.Test.YtobkdmmnbnpemaaXJK1
namespace Go.Proofs.Ytobkdmmnbnpemaa.K
open Go.RowKit Go.Proofs.YtobkdmmnbnpemaaW.PrintWords Go.Proofs.YtobkdmmnbnpemaaW.PrintLast Go.Proofs.YtobkdmmnbnpemaaW.PrintMore
attribute [local go_sem] max2_int min2_int max_two min_two max_three min_three max_four min_four
set_option linter.unusedVariables false
set_option linter.unusedSimpArgs false
mutual
def tree_nodes.l0 : Nat → Int → List (S38) → Int → Int → Option (Int)
  | 0, _, _, _, _ => none
  | k + 1, x3, x7, x8, x9 => if x9 < x8 then (if 0 ≤ x9 then (if x9 < (x7.length : Int) then ((tree_nodes.f k ((rd_T38 x7 x9).f0) ((rd_T38 x7 x9).f1) ((rd_T38 x7 x9).f2) ((rd_T38 x7 x9).f3) ((rd_T38 x7 x9).f4)).bind fun t146 => (tree_nodes.l0 k (wrap64 (x3 + t146)) x7 x8 (wrap64 (x9 + 1)))) else (none)) else (none)) else (some x3)
def tree_nodes.f : Nat → Int → Int → ByteArray → Int → List (S38) → Option (Int)
  | 0, _, _, _, _, _ => none
  | k + 1, a0_0, a0_1, a0_2, a0_3, l0_4 => tree_nodes.l0 k 1 l0_4 (l0_4.length : Int) 0
end
theorem tree_nodes.mono_l : ∀ k, (∀ y0 y1 y2 y3 y4, LeO (tree_nodes.f k y0 y1 y2 y3 y4) (tree_nodes.f (k + 1) y0 y1 y2 y3 y4)) ∧ (∀ y0 y1 y2 y3, LeO (tree_nodes.l0 k y0 y1 y2 y3) (tree_nodes.l0 (k + 1) y0 y1 y2 y3))
  | 0 => ⟨fun _ _ _ _ _ r h => by simp [tree_nodes.f] at h, fun _ _ _ _ r h => by simp [tree_nodes.l0] at h⟩
  | k + 1 => by
    obtain ⟨ih0, ih1⟩ := tree_nodes.mono_l k; refine ⟨?_, ?_⟩
    · intro y0 y1 y2 y3 y4
      unfold tree_nodes.f
      repeat' first
      | (with_reducible exact ih0 _ _ _ _ _)
      | (with_reducible exact ih1 _ _ _ _)
      | (with_reducible exact LeO.refl _)
      | (with_reducible exact LeO.none _)
      | (with_reducible refine LeO.ite ?_ ?_)
      | (with_reducible refine LeO.bind ?_ (fun _ => ?_))
      | exact ih0 _ _ _ _ _
      | exact ih1 _ _ _ _
      | exact LeO.none _
      | refine LeO.ite ?_ ?_
      | refine LeO.bind ?_ (fun _ => ?_)
    · intro y0 y1 y2 y3
      unfold tree_nodes.l0
      repeat' first
      | (with_reducible exact ih0 _ _ _ _ _)
      | (with_reducible exact ih1 _ _ _ _)
      | (with_reducible exact LeO.refl _)
      | (with_reducible exact LeO.none _)
      | (with_reducible refine LeO.ite ?_ ?_)
      | (with_reducible refine LeO.bind ?_ (fun _ => ?_))
      | exact ih0 _ _ _ _ _
      | exact ih1 _ _ _ _
      | exact LeO.none _
      | refine LeO.ite ?_ ?_
      | refine LeO.bind ?_ (fun _ => ?_)
theorem tree_nodes.mono : ∀ a0 a1 a2 a3 a4 k, LeO (tree_nodes.f k a0 a1 a2 a3 a4) (tree_nodes.f (k + 1) a0 a1 a2 a3 a4) := by
  intro a0 a1 a2 a3 a4 k; obtain ⟨ih0, ih1⟩ := tree_nodes.mono_l k; exact ih0 a0 a1 a2 a3 a4
set_option maxHeartbeats 8000000 in
set_option maxRecDepth 100000 in
theorem tree_nodes.calls (k : Nat) : ∀ (a0_0 : Int) (a0_1 : Int) (a0_2 : ByteArray) (a0_3 : Int) (A0_4 : Option Addr) (c0_4 : Nat) (l0_4 : List (S38)) (r : Int) (w : World) (hr0_4 : Kd.C k38 w A0_4 l0_4.length l0_4) (hc0_4 : l0_4.length ≤ c0_4) (h : tree_nodes.f k a0_0 a0_1 a0_2 a0_3 l0_4 = some r),
    Calls Try.prog 53 #[.agg #[.int .i64 a0_0, .int .i64 a0_1, .string a0_2, .int .i64 a0_3, .slice A0_4 l0_4.length c0_4]] w fun e w' => e = .returned (.int .i64 r) ∧ Below w.heap.size w w' := by
  induction k using Nat.strongRecOn with
  | _ k ih =>
  intro a0_0 a0_1 a0_2 a0_3 A0_4 c0_4 l0_4 r w hr0_4 hc0_4 h; cases k with
  | zero => exact absurd h (by simp [tree_nodes.f])
  | succ k =>
  simp only [tree_nodes.f] at h; have hu38 := Try.underlying38; have HR0_4 := A_0 hr0_4; have HC0_4 := A_0 hc0_4; clear hr0_4 hc0_4; have HB := A_0 (Below.refl w.heap.size w); have H : (tree_nodes.l0 k 1 l0_4 (l0_4.length : Int) 0) = some r := h; clear h; have H' := A_0 H; clear H
  go_enter Try.func53, Try.ntmps53
  go_wp2_with (first | ((with_reducible refine gate_dst (N := 1) rfl ?_); refine box_event ?hg (N := 1) ?hd (cs := #[.int .i64 a0_0, .int .i64 a0_1, .string a0_2, .int .i64 a0_3, .slice A0_4 l0_4.length c0_4]) (t := 38) ?hr ?_; (case hd => rfl); (case hg => rfl); (case hr => first | (go_simp; done) | (go_simp; rfl)); intro gb143 hg w2 hbox hb; have n0_ := A_0 (below_step (z_6) hb); have n1_ := A_0 (hbox); have n2_ := A_0 ((z_7 : w.heap.size ≤ gb143)); have n3_ := A_0 ((z_7 : w.heap.size ≤ gb143)); clear HB; have HB := n0_; have BK143 := n1_; have GW143 := n2_; have GE143 := n3_; clear n0_ n1_ n2_ n3_; clear hb hbox hg; obtain ⟨hcz3_0, hcz3_1, hcz3_2, hcz3_3, hcz3_4⟩ := blkc5 BK143.out; obtain ⟨hfz3_0, hfz3_1, hfz3_2, hfz3_3, hfz3_4⟩ := blkf5 BK143.out))
  go_loopg [3, 9] k (fun kq v3 v9 w' => ∃ (x3_1 : Int) (x9_1 : Int), v3 = .int .i64 x3_1 ∧ v9 = .int .i64 x9_1 ∧ Aside0 (tree_nodes.l0 kq x3_1 l0_4 (l0_4.length : Int) x9_1 = some r) ∧ Aside0 (kq ≤ k) ∧ Aside0 (w'.heap[gb143]? = some (.cells #[.int .i64 a0_0, .int .i64 a0_1, .string a0_2, .int .i64 a0_3, (.slice A0_4 l0_4.length c0_4)] 38 (0, 0))) ∧ Aside0 (Below w.heap.size w w'))
  case atStart => exact ⟨(1), (0), (z_8), (z_8), H', ⟨Nat.le_refl _⟩, ⟨z_9⟩, ⟨z_10⟩⟩
  case round =>
    clear H'
    try clear p2
    try clear hcz3_0
    try clear hcz3_1
    try clear hcz3_2
    try clear hcz3_3
    try clear hcz3_4
    try clear hfz3_0
    try clear hfz3_1
    try clear hfz3_2
    try clear hfz3_3
    try clear hfz3_4
    obtain ⟨x3_1, x9_1, rfl, rfl, HA, HK1, BK143, HB⟩ := hrel; cases gk with
    | zero => exact absurd HA.out (by simp [tree_nodes.l0])
    | succ k1 =>
      have H := HA.out; clear HA; simp only [tree_nodes.l0] at H; by_cases c4 : x9_1 < (l0_4.length : Int)
      · rw [if_pos c4] at H
        have c4b0 : decide (x9_1 < (l0_4.length : Int)) = true := decide_eq_true c4; clear c4; by_cases c5 : 0 ≤ x9_1
        · rw [if_pos c5] at H
          have c5b0 : decide (0 ≤ x9_1) = true := decide_eq_true c5; clear c5; by_cases c6 : x9_1 < (l0_4.length : Int)
          · rw [if_pos c6] at H
            have c6b0 : decide (x9_1 < (l0_4.length : Int)) = true := decide_eq_true c6; clear c6; replace H := Option.bind_eq_some_iff.mp H; obtain ⟨t146, A70, H⟩ := H; replace H : (tree_nodes.l0 k1 (wrap64 (x3_1 + t146)) l0_4 (l0_4.length : Int) (wrap64 (x9_1 + 1))) = some r := H; have A7 := A_0 A70; clear A70; have H' := A_0 H; clear H; have p144 : 0 ≤ (x9_1 : Int) := of_decide_eq_true (z_11); have q144 : x9_1 < (l0_4.length : Int) := of_decide_eq_true (z_11); obtain ⟨ad144, A144_4, c144_4, e144, hx144_0, hx144_1, hx144_2, hx144_3, hx144_4, hl144_4, hi144_4⟩ := at_T38 HR0_4.out x9_1 p144 q144; cases e144; replace hx144_0 := (HB.out.cell (World.block_lt_of_cell? w _ hx144_0)).trans hx144_0; replace hx144_1 := (HB.out.cell (World.block_lt_of_cell? w _ hx144_1)).trans hx144_1; replace hx144_2 := (HB.out.cell (World.block_lt_of_cell? w _ hx144_2)).trans hx144_2; replace hx144_3 := (HB.out.cell (World.block_lt_of_cell? w _ hx144_3)).trans hx144_3; replace hx144_4 := (HB.out.cell (World.block_lt_of_cell? w _ hx144_4)).trans hx144_4; have HR144_4 := A_0 hi144_4; have HC144_4 := A_0 hl144_4; clear hi144_4 hl144_4; replace p144 := eq_true p144; replace q144 := eq_true q144
            go_wp2_with (first | ((with_reducible refine gate_dst (N := 5) rfl ?_); refine box_event ?hg (N := 5) ?hd (cs := #[.int .i64 0, .int .i64 0, .string (⟨#[]⟩ : ByteArray), .int .i64 0, .slice none 0 0]) (t := 38) ?hr ?_; (case hd => rfl); (case hg => rfl); (case hr => first | (go_simp; done) | (go_simp; rfl)); intro gb145 hg w8 hbox hb; have n0_ := A_0 (blk_below (g := gb143) (o := .cells #[.int .i64 a0_0, .int .i64 a0_1, .string a0_2, .int .i64 a0_3, .slice (some ad144) l0_4.length c0_4] 38 (0, 0)) (z_9) hb); have n1_ := A_0 (below_step (z_10) hb); have n2_ := A_0 (hbox); have n3_ := A_0 ((z_12 : w.heap.size ≤ gb145)); have n4_ := A_0 ((z_12 : w.heap.size ≤ gb145)); have n5_ := A_0 ((by rw [hg]; exact Nat.ne_of_lt (blk_lt (g := gb143) (o := .cells #[.int .i64 a0_0, .int .i64 a0_1, .string a0_2, .int .i64 a0_3, .slice (some ad144) l0_4.length c0_4] 38 (0, 0)) (z_9)) : gb143 ≠ gb145)); have n6_ := A_0 ((by rw [hg]; exact Nat.ne_of_gt (blk_lt (g := gb143) (o := .cells #[.int .i64 a0_0, .int .i64 a0_1, .string a0_2, .int .i64 a0_3, .slice (some ad144) l0_4.length c0_4] 38 (0, 0)) (z_9)) : gb145 ≠ gb143)); clear BK143; clear HB; have BK143 := n0_; have HB := n1_; have BK145 := n2_; have GW145 := n3_; have GE145 := n4_; have NB143_145 := n5_; have NB145_143 := n6_; clear n0_ n1_ n2_ n3_ n4_ n5_ n6_; clear hb hbox hg; have hnb9 := NB145_143.out; have hnc9 := NB143_145.out; obtain ⟨hcz10_0, hcz10_1, hcz10_2, hcz10_3, hcz10_4⟩ := blkc5 BK145.out; obtain ⟨hfz10_0, hfz10_1, hfz10_2, hfz10_3, hfz10_4⟩ := blkf5 BK145.out) | ((with_reducible refine gate_callee (f := 53) rfl ?_); refine goesL_ (some 15) rfl rfl Try.func53 (by kernel_rfl) rfl #[.agg #[.int .i64 ((rd_T38 l0_4 x9_1).f0), .int .i64 ((rd_T38 l0_4 x9_1).f1), .string ((rd_T38 l0_4 x9_1).f2), .int .i64 ((rd_T38 l0_4 x9_1).f3), .slice A144_4 ((rd_T38 l0_4 x9_1).f4).length c144_4]] rfl (z_13) ?_; (with_reducible refine (ih k1 (by have := HK1.out; omega) ((rd_T38 l0_4 x9_1).f0) ((rd_T38 l0_4 x9_1).f1) ((rd_T38 l0_4 x9_1).f2) ((rd_T38 l0_4 x9_1).f3) _ _ ((rd_T38 l0_4 x9_1).f4) t146 _ ?side1 ?side2 A7.out).mono ?_); (case side1 => exact Kd.C_below HR144_4.out (z_14)); (case side2 => exact HC144_4.out); rintro e w11 ⟨rfl, hb⟩; refine ⟨_, rfl, ?_⟩; have n0_ := A_0 (blk_below (g := gb143) (o := .cells #[.int .i64 a0_0, .int .i64 a0_1, .string a0_2, .int .i64 a0_3, .slice (some ad144) l0_4.length c0_4] 38 (0, 0)) (by (with_reducible repeat (first | refine blk_drewN ?_ _ | refine blk_drew ?_ | refine blk_alloc ?_ _)); refine blk_far ?_ NB143_145.out _; (with_reducible repeat (first | refine blk_drewN ?_ _ | refine blk_drew ?_ | refine blk_alloc ?_ _)); refine blk_far ?_ NB143_145.out _; (with_reducible repeat (first | refine blk_drewN ?_ _ | refine blk_drew ?_ | refine blk_alloc ?_ _)); refine blk_far ?_ NB143_145.out _; (with_reducible repeat (first | refine blk_drewN ?_ _ | refine blk_drew ?_ | refine blk_alloc ?_ _)); refine blk_far ?_ NB143_145.out _; (with_reducible repeat (first | refine blk_drewN ?_ _ | refine blk_drew ?_ | refine blk_alloc ?_ _)); refine blk_far ?_ NB143_145.out _; (with_reducible repeat (first | refine blk_drewN ?_ _ | refine blk_drew ?_ | refine blk_alloc ?_ _)); exact BK143.out) hb); have n1_ := A_0 (blk_below (g := gb145) (o := .cells #[.int .i64 ((rd_T38 l0_4 x9_1).f0), .int .i64 ((rd_T38 l0_4 x9_1).f1), .string ((rd_T38 l0_4 x9_1).f2), .int .i64 ((rd_T38 l0_4 x9_1).f3), .slice A144_4 ((rd_T38 l0_4 x9_1).f4).length c144_4] 38 (0, 0)) (by (with_reducible repeat (first | refine blk_drewN ?_ _ | refine blk_drew ?_ | refine blk_alloc ?_ _)); refine blk_put (cs := #[.int .i64 ((rd_T38 l0_4 x9_1).f0), .int .i64 ((rd_T38 l0_4 x9_1).f1), .string ((rd_T38 l0_4 x9_1).f2), .int .i64 ((rd_T38 l0_4 x9_1).f3), .slice none 0 0]) ?_ 4 _ rfl; (with_reducible repeat (first | refine blk_drewN ?_ _ | refine blk_drew ?_ | refine blk_alloc ?_ _)); refine blk_put (cs := #[.int .i64 ((rd_T38 l0_4 x9_1).f0), .int .i64 ((rd_T38 l0_4 x9_1).f1), .string ((rd_T38 l0_4 x9_1).f2), .int .i64 0, .slice none 0 0]) ?_ 3 _ rfl; (with_reducible repeat (first | refine blk_drewN ?_ _ | refine blk_drew ?_ | refine blk_alloc ?_ _)); refine blk_put (cs := #[.int .i64 ((rd_T38 l0_4 x9_1).f0), .int .i64 ((rd_T38 l0_4 x9_1).f1), .string (⟨#[]⟩ : ByteArray), .int .i64 0, .slice none 0 0]) ?_ 2 _ rfl; (with_reducible repeat (first | refine blk_drewN ?_ _ | refine blk_drew ?_ | refine blk_alloc ?_ _)); refine blk_put (cs := #[.int .i64 ((rd_T38 l0_4 x9_1).f0), .int .i64 0, .string (⟨#[]⟩ : ByteArray), .int .i64 0, .slice none 0 0]) ?_ 1 _ rfl; (with_reducible repeat (first | refine blk_drewN ?_ _ | refine blk_drew ?_ | refine blk_alloc ?_ _)); refine blk_put (cs := #[.int .i64 0, .int .i64 0, .string (⟨#[]⟩ : ByteArray), .int .i64 0, .slice none 0 0]) ?_ 0 _ rfl; (with_reducible repeat (first | refine blk_drewN ?_ _ | refine blk_drew ?_ | refine blk_alloc ?_ _)); exact BK145.out) hb); have n2_ := A_0 (below_step (z_14) hb); clear BK143; clear BK145; clear HB; have BK143 := n0_; have BK145 := n1_; have HB := n2_; clear n0_ n1_ n2_; (try clear hb); (try clear hb2); (try clear hk); (try clear hi)))
            go_roundg k1
            case measure => have := HK1.out; omega
            case rel => exact ⟨(wrap64 (x3_1 + t146)), (wrap64 (x9_1 + 1)), (z_8), (z_8), H', ⟨by have := HK1.out; omega⟩, ⟨z_9⟩, ⟨z_14⟩⟩
          · rw [if_neg c6] at H
            exact z_15
        · rw [if_neg c5] at H
          exact z_15
      · rw [if_neg c4] at H
        have c4b0 : decide (x9_1 < (l0_4.length : Int)) = false := decide_eq_false c4; clear c4; obtain rfl := Option.some.inj H
        go_wp2
        go_ret
        exact ⟨z_16, z_10⟩
mutual
def tree_Nodes.l0 : Nat → Int → List (S41) → Int → Int → Option (Int)
  | 0, _, _, _, _ => none
  | k + 1, x3, x8, x9, x10 => if x10 < x9 then (if 0 ≤ x10 then (if x10 < (x8.length : Int) then ((tree_Nodes.f k ((rd_T41 x8 x10).f4)).bind fun t149 => ((tree_Nodes.f k ((rd_T41 x8 x10).f5)).bind fun t150 => (tree_Nodes.l1 k (wrap64 (x3 + (wrap64 ((wrap64 (1 + t149)) + t150)))) x8 x9 x10 ((rd_T41 x8 x10).f3) (((rd_T41 x8 x10).f3).length : Int) 0))) else (none)) else (none)) else (some x3)
def tree_Nodes.l1 : Nat → Int → List (S41) → Int → Int → List (S38) → Int → Int → Option (Int)
  | 0, _, _, _, _, _, _, _ => none
  | k + 1, x3, x8, x9, x10, x25, x26, x27 => if x27 < x26 then (if 0 ≤ x27 then (if x27 < (x25.length : Int) then ((tree_nodes.f k ((rd_T38 x25 x27).f0) ((rd_T38 x25 x27).f1) ((rd_T38 x25 x27).f2) ((rd_T38 x25 x27).f3) ((rd_T38 x25 x27).f4)).bind fun t153 => (tree_Nodes.l1 k (wrap64 (x3 + t153)) x8 x9 x10 x25 x26 (wrap64 (x27 + 1)))) else (none)) else (none)) else (tree_Nodes.l0 k x3 x8 x9 (wrap64 (x10 + 1)))
def tree_Nodes.f : Nat → List (S41) → Option (Int)
  | 0, _ => none
  | k + 1, l0 => tree_Nodes.l0 k 0 l0 (l0.length : Int) 0
end
theorem tree_Nodes.mono_l : ∀ k, (∀ y0, LeO (tree_Nodes.f k y0) (tree_Nodes.f (k + 1) y0)) ∧ (∀ y0 y1 y2 y3, LeO (tree_Nodes.l0 k y0 y1 y2 y3) (tree_Nodes.l0 (k + 1) y0 y1 y2 y3)) ∧ (∀ y0 y1 y2 y3 y4 y5 y6, LeO (tree_Nodes.l1 k y0 y1 y2 y3 y4 y5 y6) (tree_Nodes.l1 (k + 1) y0 y1 y2 y3 y4 y5 y6))
  | 0 => ⟨fun _ r h => by simp [tree_Nodes.f] at h, fun _ _ _ _ r h => by simp [tree_Nodes.l0] at h, fun _ _ _ _ _ _ _ r h => by simp [tree_Nodes.l1] at h⟩
  | k + 1 => by
    obtain ⟨ih0, ih1, ih2⟩ := tree_Nodes.mono_l k; refine ⟨?_, ?_, ?_⟩
    · intro y0
      unfold tree_Nodes.f
      repeat' first
      | (with_reducible exact ih0 _)
      | (with_reducible exact ih1 _ _ _ _)
      | (with_reducible exact ih2 _ _ _ _ _ _ _)
      | (with_reducible exact tree_nodes.mono _ _ _ _ _ _)
      | (with_reducible exact LeO.refl _)
      | (with_reducible exact LeO.none _)
      | (with_reducible refine LeO.ite ?_ ?_)
      | (with_reducible refine LeO.bind ?_ (fun _ => ?_))
      | exact ih0 _
      | exact ih1 _ _ _ _
      | exact ih2 _ _ _ _ _ _ _
      | exact tree_nodes.mono _ _ _ _ _ _
      | exact LeO.none _
      | refine LeO.ite ?_ ?_
      | refine LeO.bind ?_ (fun _ => ?_)
    · intro y0 y1 y2 y3
      unfold tree_Nodes.l0
      repeat' first
      | (with_reducible exact ih0 _)
      | (with_reducible exact ih1 _ _ _ _)
      | (with_reducible exact ih2 _ _ _ _ _ _ _)
      | (with_reducible exact tree_nodes.mono _ _ _ _ _ _)
      | (with_reducible exact LeO.refl _)
      | (with_reducible exact LeO.none _)
      | (with_reducible refine LeO.ite ?_ ?_)
      | (with_reducible refine LeO.bind ?_ (fun _ => ?_))
      | exact ih0 _
      | exact ih1 _ _ _ _
      | exact ih2 _ _ _ _ _ _ _
      | exact tree_nodes.mono _ _ _ _ _ _
      | exact LeO.none _
      | refine LeO.ite ?_ ?_
      | refine LeO.bind ?_ (fun _ => ?_)
    · intro y0 y1 y2 y3 y4 y5 y6
      unfold tree_Nodes.l1
      repeat' first
      | (with_reducible exact ih0 _)
      | (with_reducible exact ih1 _ _ _ _)
      | (with_reducible exact ih2 _ _ _ _ _ _ _)
      | (with_reducible exact tree_nodes.mono _ _ _ _ _ _)
      | (with_reducible exact LeO.refl _)
      | (with_reducible exact LeO.none _)
      | (with_reducible refine LeO.ite ?_ ?_)
      | (with_reducible refine LeO.bind ?_ (fun _ => ?_))
      | exact ih0 _
      | exact ih1 _ _ _ _
      | exact ih2 _ _ _ _ _ _ _
      | exact tree_nodes.mono _ _ _ _ _ _
      | exact LeO.none _
      | refine LeO.ite ?_ ?_
      | refine LeO.bind ?_ (fun _ => ?_)
def tree_Nodes.T5 : Bool × List (List Nat × List Nat) := (true, [([], []), ([], []), ([1], [1]), ([2], [2]), ([3], [3]), ([], []), ([5], [5]), ([6, 3], [6]), ([4, 7], [4, 7]), ([0, 8], [0, 8]), ([9, 7, 0, 1, 2, 3, 4, 5, 6, 7, 8, 9], [0, 9])])
def tree_Nodes.B5 : List Nat := [0, 0, 2, 6, 14, 0, 32, 110, 254, 511, 1023]
theorem tree_Nodes.tab5 : rtab .any (opsOf Try.f32 5) = tree_Nodes.T5 := by kernel_rfl
theorem tree_Nodes.bits5 : waitsOk tree_Nodes.T5.2 tree_Nodes.B5 = true := by kernel_rfl
set_option maxHeartbeats 8000000 in
set_option maxRecDepth 100000 in
theorem tree_Nodes.calls (k : Nat) : ∀ (A0 : Option Addr) (c0 : Nat) (l0 : List (S41)) (r : Int) (w : World) (hr0 : Kd.C k41 w A0 l0.length l0) (hc0 : l0.length ≤ c0) (h : tree_Nodes.f k l0 = some r),
    Calls Try.prog 32 #[.slice A0 l0.length c0] w fun e w' => e = .returned (.int .i64 r) ∧ Below w.heap.size w w' := by
  induction k using Nat.strongRecOn with
  | _ k ih =>
  intro A0 c0 l0 r w hr0 hc0 h; cases k with
  | zero => exact absurd h (by simp [tree_Nodes.f])
  | succ k =>
  simp only [tree_Nodes.f] at h; have hu41 := Try.underlying41; have hu38 := Try.underlying38; have HR0 := A_0 hr0; have HC0 := A_0 hc0; clear hr0 hc0; have HB := A_0 (Below.refl w.heap.size w); have H : (tree_Nodes.l0 k 0 l0 (l0.length : Int) 0) = some r := h; clear h; have H' := A_0 H; clear H
  go_enter Try.func32, Try.ntmps32
  go_wp2
  go_loopg [3, 10] k (fun kq v3 v10 w' => ∃ (x3_1 : Int) (x10_1 : Int), v3 = .int .i64 x3_1 ∧ v10 = .int .i64 x10_1 ∧ Aside0 (tree_Nodes.l0 kq x3_1 l0 (l0.length : Int) x10_1 = some r) ∧ Aside0 (kq ≤ k) ∧ Aside0 (Below w.heap.size w w'))
  case atStart => exact ⟨(0), (0), (z_8), (z_8), H', ⟨Nat.le_refl _⟩, ⟨z_6⟩⟩
  case round =>
    clear H'; obtain ⟨x3_1, x10_1, rfl, rfl, HA, HK1, HB⟩ := hrel; cases gk with
    | zero => exact absurd HA.out (by simp [tree_Nodes.l0])
    | succ k1 =>
      have H := HA.out; clear HA; simp only [tree_Nodes.l0] at H; by_cases c2 : x10_1 < (l0.length : Int)
      · rw [if_pos c2] at H
        have c2b0 : decide (x10_1 < (l0.length : Int)) = true := decide_eq_true c2; clear c2; by_cases c3 : 0 ≤ x10_1
        · rw [if_pos c3] at H
          have c3b0 : decide (0 ≤ x10_1) = true := decide_eq_true c3; clear c3; by_cases c4 : x10_1 < (l0.length : Int)
          · rw [if_pos c4] at H
            have c4b0 : decide (x10_1 < (l0.length : Int)) = true := decide_eq_true c4; clear c4; replace H := Option.bind_eq_some_iff.mp H; obtain ⟨t149, A50, H⟩ := H; replace H : ((tree_Nodes.f k1 ((rd_T41 l0 x10_1).f5)).bind fun t150 => (tree_Nodes.l1 k1 (wrap64 (x3_1 + (wrap64 ((wrap64 (1 + t149)) + t150)))) l0 (l0.length : Int) x10_1 ((rd_T41 l0 x10_1).f3) (((rd_T41 l0 x10_1).f3).length : Int) 0)) = some r := H; have A5 := A_0 A50; clear A50; replace H := Option.bind_eq_some_iff.mp H; obtain ⟨t150, A60, H⟩ := H; replace H : (tree_Nodes.l1 k1 (wrap64 (x3_1 + (wrap64 ((wrap64 (1 + t149)) + t150)))) l0 (l0.length : Int) x10_1 ((rd_T41 l0 x10_1).f3) (((rd_T41 l0 x10_1).f3).length : Int) 0) = some r := H; have A6 := A_0 A60; clear A60; have H' := A_0 H; clear H; have p147 : 0 ≤ (x10_1 : Int) := of_decide_eq_true (z_11); have q147 : x10_1 < (l0.length : Int) := of_decide_eq_true (z_11); obtain ⟨ad147, A147_3, c147_3, A147_4, c147_4, A147_5, c147_5, e147, hx147_0, hx147_1, hx147_2, hx147_3, hx147_4, hx147_5, hl147_3, hi147_3, hl147_4, hi147_4, hl147_5, hi147_5⟩ := at_T41 HR0.out x10_1 p147 q147; cases e147; replace hx147_0 := (HB.out.cell (World.block_lt_of_cell? w _ hx147_0)).trans hx147_0; replace hx147_1 := (HB.out.cell (World.block_lt_of_cell? w _ hx147_1)).trans hx147_1; replace hx147_2 := (HB.out.cell (World.block_lt_of_cell? w _ hx147_2)).trans hx147_2; replace hx147_3 := (HB.out.cell (World.block_lt_of_cell? w _ hx147_3)).trans hx147_3; replace hx147_4 := (HB.out.cell (World.block_lt_of_cell? w _ hx147_4)).trans hx147_4; replace hx147_5 := (HB.out.cell (World.block_lt_of_cell? w _ hx147_5)).trans hx147_5; have HR147_3 := A_0 hi147_3; have HC147_3 := A_0 hl147_3; clear hi147_3 hl147_3; have HR147_4 := A_0 hi147_4; have HC147_4 := A_0 hl147_4; clear hi147_4 hl147_4; have HR147_5 := A_0 hi147_5; have HC147_5 := A_0 hl147_5; clear hi147_5 hl147_5; replace p147 := eq_true p147; replace q147 := eq_true q147
            try go_wp2_with (first | ((with_reducible refine gate_dst (N := 5) rfl ?_); refine box_event ?hg (N := 5) ?hd (cs := #[.int .i64 0, .string (⟨#[]⟩ : ByteArray), .int .i64 0, .slice none 0 0, .slice none 0 0, .slice none 0 0]) (t := 41) ?hr ?_; (case hd => rfl); (case hg => rfl); (case hr => first | (go_simp; done) | (go_simp; rfl)); intro gb148 hg w7 hbox hb; have n0_ := A_0 (below_step (z_6) hb); have n1_ := A_0 (hbox); have n2_ := A_0 ((z_7 : w.heap.size ≤ gb148)); have n3_ := A_0 ((z_7 : w.heap.size ≤ gb148)); clear HB; have HB := n0_; have BK148 := n1_; have GW148 := n2_; have GE148 := n3_; clear n0_ n1_ n2_ n3_; clear hb hbox hg; obtain ⟨hcz8_0, hcz8_1, hcz8_2, hcz8_3, hcz8_4, hcz8_5⟩ := blkc6 BK148.out; obtain ⟨hfz8_0, hfz8_1, hfz8_2, hfz8_3, hfz8_4, hfz8_5⟩ := blkf6 BK148.out))
            have n0_ : Aside0 (((((((w7.setCell ⟨gb148, 0, none⟩ (.int .i64 ((rd_T41 l0 x10_1).f0))).setCell ⟨gb148, 1, none⟩ (.string ((rd_T41 l0 x10_1).f1))).setCell ⟨gb148, 2, none⟩ (.int .i64 ((rd_T41 l0 x10_1).f2))).setCell ⟨gb148, 3, none⟩ (.slice A147_3 ((rd_T41 l0 x10_1).f3).length c147_3)).setCell ⟨gb148, 4, none⟩ (.slice A147_4 ((rd_T41 l0 x10_1).f4).length c147_4)).setCell ⟨gb148, 5, none⟩ (.slice A147_5 ((rd_T41 l0 x10_1).f5).length c147_5)).heap[gb148]? = some (.cells #[.int .i64 ((rd_T41 l0 x10_1).f0), .string ((rd_T41 l0 x10_1).f1), .int .i64 ((rd_T41 l0 x10_1).f2), .slice A147_3 ((rd_T41 l0 x10_1).f3).length c147_3, .slice A147_4 ((rd_T41 l0 x10_1).f4).length c147_4, .slice A147_5 ((rd_T41 l0 x10_1).f5).length c147_5] 41 (0, 0))) := ⟨by (with_reducible repeat (first | refine blk_drewN ?_ _ | refine blk_drew ?_ | refine blk_alloc ?_ _)); refine blk_put (cs := #[.int .i64 ((rd_T41 l0 x10_1).f0), .string ((rd_T41 l0 x10_1).f1), .int .i64 ((rd_T41 l0 x10_1).f2), .slice A147_3 ((rd_T41 l0 x10_1).f3).length c147_3, .slice A147_4 ((rd_T41 l0 x10_1).f4).length c147_4, .slice none 0 0]) ?_ 5 _ rfl; (with_reducible repeat (first | refine blk_drewN ?_ _ | refine blk_drew ?_ | refine blk_alloc ?_ _)); refine blk_put (cs := #[.int .i64 ((rd_T41 l0 x10_1).f0), .string ((rd_T41 l0 x10_1).f1), .int .i64 ((rd_T41 l0 x10_1).f2), .slice A147_3 ((rd_T41 l0 x10_1).f3).length c147_3, .slice none 0 0, .slice none 0 0]) ?_ 4 _ rfl; (with_reducible repeat (first | refine blk_drewN ?_ _ | refine blk_drew ?_ | refine blk_alloc ?_ _)); refine blk_put (cs := #[.int .i64 ((rd_T41 l0 x10_1).f0), .string ((rd_T41 l0 x10_1).f1), .int .i64 ((rd_T41 l0 x10_1).f2), .slice none 0 0, .slice none 0 0, .slice none 0 0]) ?_ 3 _ rfl; (with_reducible repeat (first | refine blk_drewN ?_ _ | refine blk_drew ?_ | refine blk_alloc ?_ _)); refine blk_put (cs := #[.int .i64 ((rd_T41 l0 x10_1).f0), .string ((rd_T41 l0 x10_1).f1), .int .i64 0, .slice none 0 0, .slice none 0 0, .slice none 0 0]) ?_ 2 _ rfl; (with_reducible repeat (first | refine blk_drewN ?_ _ | refine blk_drew ?_ | refine blk_alloc ?_ _)); refine blk_put (cs := #[.int .i64 ((rd_T41 l0 x10_1).f0), .string (⟨#[]⟩ : ByteArray), .int .i64 0, .slice none 0 0, .slice none 0 0, .slice none 0 0]) ?_ 1 _ rfl; (with_reducible repeat (first | refine blk_drewN ?_ _ | refine blk_drew ?_ | refine blk_alloc ?_ _)); refine blk_put (cs := #[.int .i64 0, .string (⟨#[]⟩ : ByteArray), .int .i64 0, .slice none 0 0, .slice none 0 0, .slice none 0 0]) ?_ 0 _ rfl; (with_reducible repeat (first | refine blk_drewN ?_ _ | refine blk_drew ?_ | refine blk_alloc ?_ _)); exact BK148.out⟩
            have n1_ : Aside0 (Below w.heap.size w ((((((w7.setCell ⟨gb148, 0, none⟩ (.int .i64 ((rd_T41 l0 x10_1).f0))).setCell ⟨gb148, 1, none⟩ (.string ((rd_T41 l0 x10_1).f1))).setCell ⟨gb148, 2, none⟩ (.int .i64 ((rd_T41 l0 x10_1).f2))).setCell ⟨gb148, 3, none⟩ (.slice A147_3 ((rd_T41 l0 x10_1).f3).length c147_3)).setCell ⟨gb148, 4, none⟩ (.slice A147_4 ((rd_T41 l0 x10_1).f4).length c147_4)).setCell ⟨gb148, 5, none⟩ (.slice A147_5 ((rd_T41 l0 x10_1).f5).length c147_5))) := ⟨z_17⟩
            (try clear BK148)
            (try clear HB)
            generalize ((((((w7.setCell ⟨gb148, 0, none⟩ (.int .i64 ((rd_T41 l0 x10_1).f0))).setCell ⟨gb148, 1, none⟩ (.string ((rd_T41 l0 x10_1).f1))).setCell ⟨gb148, 2, none⟩ (.int .i64 ((rd_T41 l0 x10_1).f2))).setCell ⟨gb148, 3, none⟩ (.slice A147_3 ((rd_T41 l0 x10_1).f3).length c147_3)).setCell ⟨gb148, 4, none⟩ (.slice A147_4 ((rd_T41 l0 x10_1).f4).length c147_4)).setCell ⟨gb148, 5, none⟩ (.slice A147_5 ((rd_T41 l0 x10_1).f5).length c147_5)) = w9 at n0_ n1_ ⊢; have BK148 := n0_; have HB := n1_; clear n0_ n1_; have n0_ := A_0 (blk_drew BK148.out); have n1_ := A_0 (below_drew1 HB.out); clear BK148; clear HB; have BK148 := n0_; have HB := n1_; clear n0_ n1_; refine start_ (n := 11) (S := fun w' => w'.cell? ⟨gb148, 0, none⟩ = some (.int .i64 ((rd_T41 l0 x10_1).f0)) ∧ w'.cell? ⟨gb148, 1, none⟩ = some (.string ((rd_T41 l0 x10_1).f1)) ∧ w'.cell? ⟨gb148, 2, none⟩ = some (.int .i64 ((rd_T41 l0 x10_1).f2)) ∧ w'.cell? ⟨gb148, 3, none⟩ = some (.slice A147_3 ((rd_T41 l0 x10_1).f3).length c147_3) ∧ w'.cell? ⟨gb148, 4, none⟩ = some (.slice A147_4 ((rd_T41 l0 x10_1).f4).length c147_4) ∧ w'.cell? ⟨gb148, 5, none⟩ = some (.slice A147_5 ((rd_T41 l0 x10_1).f5).length c147_5)) (ds := []) #[false, false, false, false, false, false, false, false, false, false, false] (by kernel_rfl) rfl rfl ⟨(blk_cell BK148.out 0).trans rfl, (blk_cell BK148.out 1).trans rfl, (blk_cell BK148.out 2).trans rfl, (blk_cell BK148.out 3).trans rfl, (blk_cell BK148.out 4).trans rfl, (blk_cell BK148.out 5).trans rfl⟩ (fun hHeld => ?_); refine with_tabW tree_Nodes.tab5 tree_Nodes.bits5 (fun HT_ HW_ => ?_); generalize w9.drew = w10 at BK148 HB hHeld ⊢; refine pure_ (i := 0) (N := some 14) (v := ?_) (a' := ?_) #[true, false, false, false, false, false, false, false, false, false, false] rfl rfl (any_of HT_.out (by kernel_rfl)) (fun _ _ _ h => h) (Or.inl ⟨by rfl, ?_⟩) ?_ ?_
            rotate_left
            · intro w'
              go_simp
              with_reducible rfl
            rotate_left
            · simp only [Act.put, List.setIfInBounds_toArray, List.set_cons_zero, List.set_cons_succ, i64_w, i32_w]
              rfl
            refine pure_ (i := 1) (N := some 15) (v := ?_) (a' := ?_) #[true, true, false, false, false, false, false, false, false, false, false] rfl rfl (any_of HT_.out (by kernel_rfl)) (fun _ _ _ h => h) (Or.inl ⟨by rfl, ?_⟩) ?_ ?_
            rotate_left
            · intro w'
              go_simp
              with_reducible rfl
            rotate_left
            · simp only [Act.put, List.setIfInBounds_toArray, List.set_cons_zero, List.set_cons_succ, i64_w, i32_w]
              rfl
            refine pure_ (i := 5) (N := some 19) (v := ?_) (a' := ?_) #[true, true, false, false, false, true, false, false, false, false, false] rfl rfl (any_of HT_.out (by kernel_rfl)) (fun _ _ _ h => h) (Or.inl ⟨by rfl, ?_⟩) ?_ ?_
            rotate_left
            · intro w'
              go_simp
              with_reducible rfl
            rotate_left
            · simp only [Act.put, List.setIfInBounds_toArray, List.set_cons_zero, List.set_cons_succ, i64_w, i32_w]
              rfl
            refine take_ (i := 2) (N := some 16) (v := ?_) (a' := ?_) #[true, true, true, false, false, true, false, false, false, false, false] rfl rfl (take_ofW HT_.out HW_.out (by kernel_rfl)) (fun _ _ _ h => h) (Or.inl ⟨by rfl, ?_⟩) hHeld ?_ ?_
            rotate_left
            · rintro w' ⟨s0, s1, s2, s3, s4, s5⟩
              go_simp
              with_reducible rfl
            rotate_left
            · simp only [Act.put, List.setIfInBounds_toArray, List.set_cons_zero, List.set_cons_succ, i64_w, i32_w]
              rfl
            refine take_ (i := 6) (N := some 20) (v := ?_) (a' := ?_) #[true, true, true, false, false, true, true, false, false, false, false] rfl rfl (take_ofW HT_.out HW_.out (by kernel_rfl)) (fun _ _ _ h => h) (Or.inl ⟨by rfl, ?_⟩) hHeld ?_ ?_
            rotate_left
            · rintro w' ⟨s0, s1, s2, s3, s4, s5⟩
              go_simp
              with_reducible rfl
            rotate_left
            · simp only [Act.put, List.setIfInBounds_toArray, List.set_cons_zero, List.set_cons_succ, i64_w, i32_w]
              rfl
            refine one_ (i := 3) (N := some 17) #[true, true, true, true, false, true, true, false, false, false, false] rfl rfl (one_of HT_.out (by kernel_rfl)) (by decide) (fun K hK => ?_)
            refine goes_ Try.func32 (by kernel_rfl) rfl #[.slice A147_4 ((rd_T41 l0 x10_1).f4).length c147_4] (by rfl) rfl rfl (z_13) ?_
            with_reducible refine (ih k1 (by have := HK1.out; omega) _ _ ((rd_T41 l0 x10_1).f4) t149 _ ?side1 ?side2 A5.out).mono ?_
            (case side1 => repeat (first | exact (Kd.C_below HR147_4.out HB.out) | (with_reducible refine Kd.C_alloc ?_ _) | (with_reducible refine Kd.C_drewN ?_ _) | (with_reducible refine Kd.C_drew ?_)))
            (case side2 => exact HC147_4.out)
            rintro e w11 ⟨rfl, hb⟩; refine ⟨_, rfl, ?_⟩; have n0_ := A_0 (blk_below (g := gb148) (o := .cells #[.int .i64 ((rd_T41 l0 x10_1).f0), .string ((rd_T41 l0 x10_1).f1), .int .i64 ((rd_T41 l0 x10_1).f2), .slice A147_3 ((rd_T41 l0 x10_1).f3).length c147_3, .slice A147_4 ((rd_T41 l0 x10_1).f4).length c147_4, .slice A147_5 ((rd_T41 l0 x10_1).f5).length c147_5] 41 (0, 0)) (z_18) hb); have n1_ := A_0 (below_step (z_17) hb); clear BK148; clear HB; have BK148 := n0_; have HB := n1_; clear n0_ n1_
            (try clear hb)
            (try clear hb2)
            (try clear hk)
            (try clear hi)
            refine hK.out _ _ ⟨(blk_cell BK148.out 0).trans rfl, (blk_cell BK148.out 1).trans rfl, (blk_cell BK148.out 2).trans rfl, (blk_cell BK148.out 3).trans rfl, (blk_cell BK148.out 4).trans rfl, (blk_cell BK148.out 5).trans rfl⟩ (fun hHeld => ?_)
            clear hK K; refine norm_ (a' := ?_) ?_ ?_
            rotate_left
            · show Act.put _ (some 17) _ = _
              simp only [Act.put, List.setIfInBounds_toArray, List.set_cons_zero, List.set_cons_succ, i64_w, i32_w]
              rfl
            refine pure_ (i := 4) (N := some 18) (v := ?_) (a' := ?_) #[true, true, true, true, true, true, true, false, false, false, false] rfl rfl (any_of HT_.out (by kernel_rfl)) (fun _ _ _ h => h) (Or.inl ⟨by rfl, ?_⟩) ?_ ?_
            rotate_left
            · intro w'
              go_simp
              with_reducible rfl
            rotate_left
            · simp only [Act.put, List.setIfInBounds_toArray, List.set_cons_zero, List.set_cons_succ, i64_w, i32_w]
              rfl
            refine one_ (i := 7) (N := some 21) #[true, true, true, true, true, true, true, true, false, false, false] rfl rfl (one_of HT_.out (by kernel_rfl)) (by decide) (fun K hK => ?_)
            refine goes_ Try.func32 (by kernel_rfl) rfl #[.slice A147_5 ((rd_T41 l0 x10_1).f5).length c147_5] (by rfl) rfl rfl (z_13) ?_
            with_reducible refine (ih k1 (by have := HK1.out; omega) _ _ ((rd_T41 l0 x10_1).f5) t150 _ ?side1 ?side2 A6.out).mono ?_
            (case side1 => repeat (first | exact (Kd.C_below HR147_5.out HB.out) | (with_reducible refine Kd.C_alloc ?_ _) | (with_reducible refine Kd.C_drewN ?_ _) | (with_reducible refine Kd.C_drew ?_)))
            (case side2 => exact HC147_5.out)
            rintro e w12 ⟨rfl, hb⟩; refine ⟨_, rfl, ?_⟩; have n0_ := A_0 (blk_below (g := gb148) (o := .cells #[.int .i64 ((rd_T41 l0 x10_1).f0), .string ((rd_T41 l0 x10_1).f1), .int .i64 ((rd_T41 l0 x10_1).f2), .slice A147_3 ((rd_T41 l0 x10_1).f3).length c147_3, .slice A147_4 ((rd_T41 l0 x10_1).f4).length c147_4, .slice A147_5 ((rd_T41 l0 x10_1).f5).length c147_5] 41 (0, 0)) (z_18) hb); have n1_ := A_0 (below_step (z_17) hb); clear BK148; clear HB; have BK148 := n0_; have HB := n1_; clear n0_ n1_
            (try clear hb)
            (try clear hb2)
            (try clear hk)
            (try clear hi)
            refine hK.out _ _ ⟨(blk_cell BK148.out 0).trans rfl, (blk_cell BK148.out 1).trans rfl, (blk_cell BK148.out 2).trans rfl, (blk_cell BK148.out 3).trans rfl, (blk_cell BK148.out 4).trans rfl, (blk_cell BK148.out 5).trans rfl⟩ (fun hHeld => ?_)
            clear hK K; refine norm_ (a' := ?_) ?_ ?_
            rotate_left
            · show Act.put _ (some 21) _ = _
              simp only [Act.put, List.setIfInBounds_toArray, List.set_cons_zero, List.set_cons_succ, i64_w, i32_w]
              rfl
            refine pure_ (i := 8) (N := some 22) (v := ?_) (a' := ?_) #[true, true, true, true, true, true, true, true, true, false, false] rfl rfl (any_of HT_.out (by kernel_rfl)) (fun _ _ _ h => h) (Or.inl ⟨by rfl, ?_⟩) ?_ ?_
            rotate_left
            · intro w'
              go_simp
              with_reducible rfl
            rotate_left
            · simp only [Act.put, List.setIfInBounds_toArray, List.set_cons_zero, List.set_cons_succ, i64_w, i32_w]
              rfl
            refine pure_ (i := 9) (N := some 23) (v := ?_) (a' := ?_) #[true, true, true, true, true, true, true, true, true, true, false] rfl rfl (any_of HT_.out (by kernel_rfl)) (fun _ _ _ h => h) (Or.inl ⟨by rfl, ?_⟩) ?_ ?_
            rotate_left
            · intro w'
              go_simp
              with_reducible rfl
            rotate_left
            · simp only [Act.put, List.setIfInBounds_toArray, List.set_cons_zero, List.set_cons_succ, i64_w, i32_w]
              rfl
            refine pure_ (i := 10) (N := some 3) (v := ?_) (a' := ?_) #[true, true, true, true, true, true, true, true, true, true, true] rfl rfl (any_of HT_.out (by kernel_rfl)) (fun _ _ _ h => h) (Or.inl ⟨by rfl, ?_⟩) ?_ ?_
            rotate_left
            · intro w'
              go_simp
              with_reducible rfl
            rotate_left
            · simp only [Act.put, List.setIfInBounds_toArray, List.set_cons_zero, List.set_cons_succ, i64_w, i32_w]
              rfl
            refine done_ (done_of HT_.out (by kernel_rfl)) ?_
            obtain ⟨hcz13_0, hcz13_1, hcz13_2, hcz13_3, hcz13_4, hcz13_5⟩ := blkc6 BK148.out; obtain ⟨hfz13_0, hfz13_1, hfz13_2, hfz13_3, hfz13_4, hfz13_5⟩ := blkf6 BK148.out
            try go_wp2
            go_loopg [3, 27] k1 (fun kq v3 v27 w' => ∃ (x3_2 : Int) (x27_2 : Int), v3 = .int .i64 x3_2 ∧ v27 = .int .i64 x27_2 ∧ Aside0 (tree_Nodes.l1 kq x3_2 l0 (l0.length : Int) x10_1 ((rd_T41 l0 x10_1).f3) (((rd_T41 l0 x10_1).f3).length : Int) x27_2 = some r) ∧ Aside0 (kq ≤ k1) ∧ Aside0 (w'.heap[gb148]? = some (.cells #[.int .i64 ((rd_T41 l0 x10_1).f0), .string ((rd_T41 l0 x10_1).f1), .int .i64 ((rd_T41 l0 x10_1).f2), (.slice A147_3 ((rd_T41 l0 x10_1).f3).length c147_3), (.slice A147_4 ((rd_T41 l0 x10_1).f4).length c147_4), (.slice A147_5 ((rd_T41 l0 x10_1).f5).length c147_5)] 41 (0, 0))) ∧ Aside0 (Below w.heap.size w w'))
            case atStart => exact ⟨(wrap64 (x3_1 + (wrap64 ((wrap64 (1 + t149)) + t150)))), (0), (z_8), (z_8), H', ⟨Nat.le_refl _⟩, ⟨z_18⟩, ⟨z_17⟩⟩
            case round =>
              clear H'
              try clear c1
              try clear p1
              try clear q1
              try clear hx1
              try clear c2
              try clear c2b0
              try clear p2
              try clear c3
              try clear c3b0
              try clear c4
              try clear c4b0
              try clear p6
              try clear hcz13_0
              try clear hcz13_1
              try clear hcz13_2
              try clear hcz13_3
              try clear hcz13_4
              try clear hcz13_5
              try clear hcz8_0
              try clear hcz8_1
              try clear hcz8_2
              try clear hcz8_3
              try clear hcz8_4
              try clear hcz8_5
              try clear hfz13_0
              try clear hfz13_1
              try clear hfz13_2
              try clear hfz13_3
              try clear hfz13_4
              try clear hfz13_5
              try clear hfz8_0
              try clear hfz8_1
              try clear hfz8_2
              try clear hfz8_3
              try clear hfz8_4
              try clear hfz8_5
              try clear hx147_0
              try clear hx147_1
              try clear hx147_2
              try clear hx147_3
              try clear hx147_4
              try clear hx147_5
              try clear p147
              try clear q147
              obtain ⟨x3_2, x27_2, rfl, rfl, HA, HK2, BK148, HB⟩ := hrel; cases gk with
              | zero => exact absurd HA.out (by simp [tree_Nodes.l1])
              | succ k2 =>
                have H := HA.out; clear HA; simp only [tree_Nodes.l1] at H; by_cases c14 : x27_2 < (((rd_T41 l0 x10_1).f3).length : Int)
                · rw [if_pos c14] at H
                  have c14b0 : decide (x27_2 < (((rd_T41 l0 x10_1).f3).length : Int)) = true := decide_eq_true c14; clear c14; by_cases c15 : 0 ≤ x27_2
                  · rw [if_pos c15] at H
                    have c15b0 : decide (0 ≤ x27_2) = true := decide_eq_true c15; clear c15; by_cases c16 : x27_2 < (((rd_T41 l0 x10_1).f3).length : Int)
                    · rw [if_pos c16] at H
                      have c16b0 : decide (x27_2 < (((rd_T41 l0 x10_1).f3).length : Int)) = true := decide_eq_true c16; clear c16; replace H := Option.bind_eq_some_iff.mp H; obtain ⟨t153, A170, H⟩ := H; replace H : (tree_Nodes.l1 k2 (wrap64 (x3_2 + t153)) l0 (l0.length : Int) x10_1 ((rd_T41 l0 x10_1).f3) (((rd_T41 l0 x10_1).f3).length : Int) (wrap64 (x27_2 + 1))) = some r := H; have A17 := A_0 A170; clear A170; have H' := A_0 H; clear H; have p151 : 0 ≤ (x27_2 : Int) := of_decide_eq_true (z_11); have q151 : x27_2 < (((rd_T41 l0 x10_1).f3).length : Int) := of_decide_eq_true (z_11); obtain ⟨ad151, A151_4, c151_4, e151, hx151_0, hx151_1, hx151_2, hx151_3, hx151_4, hl151_4, hi151_4⟩ := at_T38 HR147_3.out x27_2 p151 q151; cases e151; replace hx151_0 := (HB.out.cell (World.block_lt_of_cell? w _ hx151_0)).trans hx151_0; replace hx151_1 := (HB.out.cell (World.block_lt_of_cell? w _ hx151_1)).trans hx151_1; replace hx151_2 := (HB.out.cell (World.block_lt_of_cell? w _ hx151_2)).trans hx151_2; replace hx151_3 := (HB.out.cell (World.block_lt_of_cell? w _ hx151_3)).trans hx151_3; replace hx151_4 := (HB.out.cell (World.block_lt_of_cell? w _ hx151_4)).trans hx151_4; have HR151_4 := A_0 hi151_4; have HC151_4 := A_0 hl151_4; clear hi151_4 hl151_4; replace p151 := eq_true p151; replace q151 := eq_true q151
                      go_wp2_with (first | ((with_reducible refine gate_dst (N := 7) rfl ?_); refine box_event ?hg (N := 7) ?hd (cs := #[.int .i64 0, .int .i64 0, .string (⟨#[]⟩ : ByteArray), .int .i64 0, .slice none 0 0]) (t := 38) ?hr ?_; (case hd => rfl); (case hg => rfl); (case hr => first | (go_simp; done) | (go_simp; rfl)); intro gb152 hg w18 hbox hb; have n0_ := A_0 (blk_below (g := gb148) (o := .cells #[.int .i64 ((rd_T41 l0 x10_1).f0), .string ((rd_T41 l0 x10_1).f1), .int .i64 ((rd_T41 l0 x10_1).f2), .slice (some ad151) ((rd_T41 l0 x10_1).f3).length c147_3, .slice A147_4 ((rd_T41 l0 x10_1).f4).length c147_4, .slice A147_5 ((rd_T41 l0 x10_1).f5).length c147_5] 41 (0, 0)) (z_18) hb); have n1_ := A_0 (below_step (z_17) hb); have n2_ := A_0 (hbox); have n3_ := A_0 ((z_19 : w.heap.size ≤ gb152)); have n4_ := A_0 ((z_19 : w.heap.size ≤ gb152)); have n5_ := A_0 ((by rw [hg]; exact Nat.ne_of_lt (blk_lt (g := gb148) (o := .cells #[.int .i64 ((rd_T41 l0 x10_1).f0), .string ((rd_T41 l0 x10_1).f1), .int .i64 ((rd_T41 l0 x10_1).f2), .slice (some ad151) ((rd_T41 l0 x10_1).f3).length c147_3, .slice A147_4 ((rd_T41 l0 x10_1).f4).length c147_4, .slice A147_5 ((rd_T41 l0 x10_1).f5).length c147_5] 41 (0, 0)) (z_18)) : gb148 ≠ gb152)); have n6_ := A_0 ((by rw [hg]; exact Nat.ne_of_gt (blk_lt (g := gb148) (o := .cells #[.int .i64 ((rd_T41 l0 x10_1).f0), .string ((rd_T41 l0 x10_1).f1), .int .i64 ((rd_T41 l0 x10_1).f2), .slice (some ad151) ((rd_T41 l0 x10_1).f3).length c147_3, .slice A147_4 ((rd_T41 l0 x10_1).f4).length c147_4, .slice A147_5 ((rd_T41 l0 x10_1).f5).length c147_5] 41 (0, 0)) (z_18)) : gb152 ≠ gb148)); clear BK148; clear HB; have BK148 := n0_; have HB := n1_; have BK152 := n2_; have GW152 := n3_; have GE152 := n4_; have NB148_152 := n5_; have NB152_148 := n6_; clear n0_ n1_ n2_ n3_ n4_ n5_ n6_; clear hb hbox hg; have hnb19 := NB152_148.out; have hnc19 := NB148_152.out; obtain ⟨hcz20_0, hcz20_1, hcz20_2, hcz20_3, hcz20_4⟩ := blkc5 BK152.out; obtain ⟨hfz20_0, hfz20_1, hfz20_2, hfz20_3, hfz20_4⟩ := blkf5 BK152.out) | ((with_reducible refine gate_callee (f := 53) rfl ?_); refine goesL_ (some 33) rfl rfl Try.func53 (by kernel_rfl) rfl #[.agg #[.int .i64 ((rd_T38 ((rd_T41 l0 x10_1).f3) x27_2).f0), .int .i64 ((rd_T38 ((rd_T41 l0 x10_1).f3) x27_2).f1), .string ((rd_T38 ((rd_T41 l0 x10_1).f3) x27_2).f2), .int .i64 ((rd_T38 ((rd_T41 l0 x10_1).f3) x27_2).f3), .slice A151_4 ((rd_T38 ((rd_T41 l0 x10_1).f3) x27_2).f4).length c151_4]] rfl (z_13) ?_; (with_reducible refine (tree_nodes.calls k2 ((rd_T38 ((rd_T41 l0 x10_1).f3) x27_2).f0) ((rd_T38 ((rd_T41 l0 x10_1).f3) x27_2).f1) ((rd_T38 ((rd_T41 l0 x10_1).f3) x27_2).f2) ((rd_T38 ((rd_T41 l0 x10_1).f3) x27_2).f3) _ _ ((rd_T38 ((rd_T41 l0 x10_1).f3) x27_2).f4) t153 _ ?side1 ?side2 A17.out).mono ?_); (case side1 => exact Kd.C_below HR151_4.out (z_20)); (case side2 => exact HC151_4.out); rintro e w21 ⟨rfl, hb⟩; refine ⟨_, rfl, ?_⟩; have n0_ := A_0 (blk_below (g := gb148) (o := .cells #[.int .i64 ((rd_T41 l0 x10_1).f0), .string ((rd_T41 l0 x10_1).f1), .int .i64 ((rd_T41 l0 x10_1).f2), .slice (some ad151) ((rd_T41 l0 x10_1).f3).length c147_3, .slice A147_4 ((rd_T41 l0 x10_1).f4).length c147_4, .slice A147_5 ((rd_T41 l0 x10_1).f5).length c147_5] 41 (0, 0)) (by (with_reducible repeat (first | refine blk_drewN ?_ _ | refine blk_drew ?_ | refine blk_alloc ?_ _)); refine blk_far ?_ NB148_152.out _; (with_reducible repeat (first | refine blk_drewN ?_ _ | refine blk_drew ?_ | refine blk_alloc ?_ _)); refine blk_far ?_ NB148_152.out _; (with_reducible repeat (first | refine blk_drewN ?_ _ | refine blk_drew ?_ | refine blk_alloc ?_ _)); refine blk_far ?_ NB148_152.out _; (with_reducible repeat (first | refine blk_drewN ?_ _ | refine blk_drew ?_ | refine blk_alloc ?_ _)); refine blk_far ?_ NB148_152.out _; (with_reducible repeat (first | refine blk_drewN ?_ _ | refine blk_drew ?_ | refine blk_alloc ?_ _)); refine blk_far ?_ NB148_152.out _; (with_reducible repeat (first | refine blk_drewN ?_ _ | refine blk_drew ?_ | refine blk_alloc ?_ _)); exact BK148.out) hb); have n1_ := A_0 (blk_below (g := gb152) (o := .cells #[.int .i64 ((rd_T38 ((rd_T41 l0 x10_1).f3) x27_2).f0), .int .i64 ((rd_T38 ((rd_T41 l0 x10_1).f3) x27_2).f1), .string ((rd_T38 ((rd_T41 l0 x10_1).f3) x27_2).f2), .int .i64 ((rd_T38 ((rd_T41 l0 x10_1).f3) x27_2).f3), .slice A151_4 ((rd_T38 ((rd_T41 l0 x10_1).f3) x27_2).f4).length c151_4] 38 (0, 0)) (by (with_reducible repeat (first | refine blk_drewN ?_ _ | refine blk_drew ?_ | refine blk_alloc ?_ _)); refine blk_put (cs := #[.int .i64 ((rd_T38 ((rd_T41 l0 x10_1).f3) x27_2).f0), .int .i64 ((rd_T38 ((rd_T41 l0 x10_1).f3) x27_2).f1), .string ((rd_T38 ((rd_T41 l0 x10_1).f3) x27_2).f2), .int .i64 ((rd_T38 ((rd_T41 l0 x10_1).f3) x27_2).f3), .slice none 0 0]) ?_ 4 _ rfl; (with_reducible repeat (first | refine blk_drewN ?_ _ | refine blk_drew ?_ | refine blk_alloc ?_ _)); refine blk_put (cs := #[.int .i64 ((rd_T38 ((rd_T41 l0 x10_1).f3) x27_2).f0), .int .i64 ((rd_T38 ((rd_T41 l0 x10_1).f3) x27_2).f1), .string ((rd_T38 ((rd_T41 l0 x10_1).f3) x27_2).f2), .int .i64 0, .slice none 0 0]) ?_ 3 _ rfl; (with_reducible repeat (first | refine blk_drewN ?_ _ | refine blk_drew ?_ | refine blk_alloc ?_ _)); refine blk_put (cs := #[.int .i64 ((rd_T38 ((rd_T41 l0 x10_1).f3) x27_2).f0), .int .i64 ((rd_T38 ((rd_T41 l0 x10_1).f3) x27_2).f1), .string (⟨#[]⟩ : ByteArray), .int .i64 0, .slice none 0 0]) ?_ 2 _ rfl; (with_reducible repeat (first | refine blk_drewN ?_ _ | refine blk_drew ?_ | refine blk_alloc ?_ _)); refine blk_put (cs := #[.int .i64 ((rd_T38 ((rd_T41 l0 x10_1).f3) x27_2).f0), .int .i64 0, .string (⟨#[]⟩ : ByteArray), .int .i64 0, .slice none 0 0]) ?_ 1 _ rfl; (with_reducible repeat (first | refine blk_drewN ?_ _ | refine blk_drew ?_ | refine blk_alloc ?_ _)); refine blk_put (cs := #[.int .i64 0, .int .i64 0, .string (⟨#[]⟩ : ByteArray), .int .i64 0, .slice none 0 0]) ?_ 0 _ rfl; (with_reducible repeat (first | refine blk_drewN ?_ _ | refine blk_drew ?_ | refine blk_alloc ?_ _)); exact BK152.out) hb); have n2_ := A_0 (below_step (z_20) hb); clear BK148; clear BK152; clear HB; have BK148 := n0_; have BK152 := n1_; have HB := n2_; clear n0_ n1_ n2_; (try clear hb); (try clear hb2); (try clear hk); (try clear hi)))
                      go_roundg k2
                      case measure => have := HK1.out; have := HK2.out; omega
                      case rel => exact ⟨(wrap64 (x3_2 + t153)), (wrap64 (x27_2 + 1)), (z_8), (z_8), H', ⟨z_21⟩, ⟨z_18⟩, ⟨z_20⟩⟩
                    · rw [if_neg c16] at H
                      exact z_15
                  · rw [if_neg c15] at H
                    exact z_15
                · rw [if_neg c14] at H
                  have c14b0 : decide (x27_2 < (((rd_T41 l0 x10_1).f3).length : Int)) = false := decide_eq_false c14; clear c14; have H' := A_0 H; clear H
                  go_wp2
                  go_roundg k2
                  case measure => have := HK1.out; have := HK2.out; omega
                  case rel => exact ⟨(x3_2), (wrap64 (x10_1 + 1)), (z_8), (z_8), H', ⟨z_21⟩, ⟨z_17⟩⟩
          · rw [if_neg c4] at H
            exact z_15
        · rw [if_neg c3] at H
          exact z_15
      · rw [if_neg c2] at H
        have c2b0 : decide (x10_1 < (l0.length : Int)) = false := decide_eq_false c2; clear c2; obtain rfl := Option.some.inj H
        go_wp2
        go_ret
        exact ⟨z_16, z_6⟩
end Go.Proofs.Ytobkdmmnbnpemaa.K
