/- Walks of the seat's own: outriderref04_Copies, outriderref04_Copy, tree_copyAll, tree_Copy; they began as parts of a print and were turned. -/
import Derived.Test.YtobkdmmnbnpemaaXJK1
namespace Go.Proofs.Ytobkdmmnbnpemaa.K
open Go.RowKit Go.Proofs.YtobkdmmnbnpemaaW.PrintWords Go.Proofs.YtobkdmmnbnpemaaW.PrintLast Go.Proofs.YtobkdmmnbnpemaaW.PrintMore
attribute [local go_sem] max2_int min2_int max_two min_two max_three min_three max_four min_four
set_option linter.unusedVariables false
set_option linter.unusedSimpArgs false
theorem info41 : (Try.prog.info? 41).map (fun i => (i.zero, i.size, i.bytes)) = some (some (.agg #[(.int .i64 0), (.string ⟨#[]⟩), (.int .i64 0), (.slice none 0 0), (.slice none 0 0), (.slice none 0 0)]), 6, 104) := by kernel_rfl
mutual
def tree_copyAll.l0 : Nat → List (S38) → List (S38) → Int → Int → Option ((List (S38)))
  | 0, _, _, _, _ => none
  | k + 1, x3, x6, x7, x8 => if x8 < x7 then (if 0 ≤ x8 then (if x8 < (x6.length : Int) then ((tree_copyAll.f k ((rd_T38 x6 x8).f4)).bind fun t209 => (if x3.length < 2199023255552 then (tree_copyAll.l0 k (x3 ++ [(⟨(rd_T38 x6 x8).f0, (rd_T38 x6 x8).f1, (rd_T38 x6 x8).f2, (rd_T38 x6 x8).f3, t209⟩ : S38)]) x6 x7 (wrap64 (x8 + 1))) else (none))) else (none)) else (none)) else (some x3)
def tree_copyAll.f : Nat → List (S38) → Option ((List (S38)))
  | 0, _ => none
  | k + 1, l0 => tree_copyAll.l0 k ([] : List (S38)) l0 (l0.length : Int) 0
end
theorem tree_copyAll.mono_l : ∀ k, (∀ y0, LeO (tree_copyAll.f k y0) (tree_copyAll.f (k + 1) y0)) ∧ (∀ y0 y1 y2 y3, LeO (tree_copyAll.l0 k y0 y1 y2 y3) (tree_copyAll.l0 (k + 1) y0 y1 y2 y3))
  | 0 => ⟨fun _ r h => by simp [tree_copyAll.f] at h, fun _ _ _ _ r h => by simp [tree_copyAll.l0] at h⟩
  | k + 1 => by
    obtain ⟨ih0, ih1⟩ := tree_copyAll.mono_l k; refine ⟨?_, ?_⟩
    · intro y0
      unfold tree_copyAll.f
      repeat' first
      | (with_reducible exact ih0 _)
      | (with_reducible exact ih1 _ _ _ _)
      | (with_reducible exact LeO.refl _)
      | (with_reducible exact LeO.none _)
      | (with_reducible refine LeO.ite ?_ ?_)
      | (with_reducible refine LeO.bind ?_ (fun _ => ?_))
      | exact ih0 _
      | exact ih1 _ _ _ _
      | exact LeO.none _
      | refine LeO.ite ?_ ?_
      | refine LeO.bind ?_ (fun _ => ?_)
    · intro y0 y1 y2 y3
      unfold tree_copyAll.l0
      repeat' first
      | (with_reducible exact ih0 _)
      | (with_reducible exact ih1 _ _ _ _)
      | (with_reducible exact LeO.refl _)
      | (with_reducible exact LeO.none _)
      | (with_reducible refine LeO.ite ?_ ?_)
      | (with_reducible refine LeO.bind ?_ (fun _ => ?_))
      | exact ih0 _
      | exact ih1 _ _ _ _
      | exact LeO.none _
      | refine LeO.ite ?_ ?_
      | refine LeO.bind ?_ (fun _ => ?_)
theorem tree_copyAll.mono : ∀ a0 k, LeO (tree_copyAll.f k a0) (tree_copyAll.f (k + 1) a0) := by
  intro a0 k; obtain ⟨ih0, ih1⟩ := tree_copyAll.mono_l k; exact ih0 a0
set_option maxHeartbeats 8000000 in
set_option maxRecDepth 100000 in
theorem tree_copyAll.calls (k : Nat) : ∀ (A0 : Option Addr) (c0 : Nat) (l0 : List (S38)) (r : List (S38)) (w : World) (hr0 : Kd.C k38 w A0 l0.length l0) (hc0 : l0.length ≤ c0) (h : tree_copyAll.f k l0 = some r),
    Calls Try.prog 52 #[.slice A0 l0.length c0] w fun e w' => ∃ v0_ : Value, e = .returned (v0_) ∧ Kd.R k38 38 w' w.heap.size (fun _ => True) v0_ r ∧ Below w.heap.size w w' := by
  induction k using Nat.strongRecOn with
  | _ k ih =>
  intro A0 c0 l0 r w hr0 hc0 h; cases k with
  | zero => exact absurd h (by simp [tree_copyAll.f])
  | succ k =>
  simp only [tree_copyAll.f] at h; have hu38 := Try.underlying38; have HR0 := A_0 hr0; have HC0 := A_0 hc0; clear hr0 hc0; have HB := A_0 (Below.refl w.heap.size w); have H : (tree_copyAll.l0 k ([] : List (S38)) l0 (l0.length : Int) 0) = some r := h; clear h; have H' := A_0 H; clear H
  go_enter Try.func52, Try.ntmps52
  go_wp2
  go_loopg [3, 8] k (fun kq v3 v8 w' => ∃ (x3_1 : List (S38)) (x8_1 : Int), v8 = .int .i64 x8_1 ∧ Aside0 (tree_copyAll.l0 kq x3_1 l0 (l0.length : Int) x8_1 = some r) ∧ Aside0 (kq ≤ k) ∧ Aside0 (Kd.R k38 38 w' w.heap.size (fun _ => True) v3 x3_1) ∧ Aside0 (Below w.heap.size w w'))
  case atStart => exact ⟨(([] : List (S38))), (0), (z_8), H', ⟨Nat.le_refl _⟩, ⟨z_22⟩, ⟨z_6⟩⟩
  case round =>
    clear H'; obtain ⟨x3_1, x8_1, rfl, HA, HK1, HO_3, HB⟩ := hrel; cases gk with
    | zero => exact absurd HA.out (by simp [tree_copyAll.l0])
    | succ k1 =>
      have H := HA.out; clear HA; simp only [tree_copyAll.l0] at H; by_cases c2 : x8_1 < (l0.length : Int)
      · rw [if_pos c2] at H
        have c2b0 : decide (x8_1 < (l0.length : Int)) = true := decide_eq_true c2; clear c2; by_cases c3 : 0 ≤ x8_1
        · rw [if_pos c3] at H
          have c3b0 : decide (0 ≤ x8_1) = true := decide_eq_true c3; clear c3; by_cases c4 : x8_1 < (l0.length : Int)
          · rw [if_pos c4] at H
            have c4b0 : decide (x8_1 < (l0.length : Int)) = true := decide_eq_true c4; clear c4; replace H := Option.bind_eq_some_iff.mp H; obtain ⟨t209, A50, H⟩ := H; replace H : (if x3_1.length < 2199023255552 then (tree_copyAll.l0 k1 (x3_1 ++ [(⟨(rd_T38 l0 x8_1).f0, (rd_T38 l0 x8_1).f1, (rd_T38 l0 x8_1).f2, (rd_T38 l0 x8_1).f3, t209⟩ : S38)]) l0 (l0.length : Int) (wrap64 (x8_1 + 1))) else (none)) = some r := H; have A5 := A_0 A50; clear A50; by_cases c6 : x3_1.length < 2199023255552
            · rw [if_pos c6] at H
              have LMc6 := A_0 c6; clear c6; obtain ⟨y212, hy212⟩ : ∃ y_ : List (S38), y_ = (x3_1 ++ [(⟨(rd_T38 l0 x8_1).f0, (rd_T38 l0 x8_1).f1, (rd_T38 l0 x8_1).f2, (rd_T38 l0 x8_1).f3, t209⟩ : S38)]) := ⟨_, rfl⟩; replace H : (tree_copyAll.l0 k1 y212 l0 (l0.length : Int) (wrap64 (x8_1 + 1))) = some r := by first | (rw [hy212]; with_reducible exact H) | (have H2_ := (Option.bind_some _ _).symm.trans H; rw [hy212]; with_reducible exact H2_) | (have H2_ := (Option.bind_some _ _).symm.trans H; with_reducible exact H2_) | with_reducible exact H | (rw [hy212]; exact H) | exact H
              have Ny212 := A_0 hy212; clear hy212; have H' := A_0 H; clear H; have p207 : 0 ≤ (x8_1 : Int) := of_decide_eq_true (z_11); have q207 : x8_1 < (l0.length : Int) := of_decide_eq_true (z_11); obtain ⟨ad207, A207_4, c207_4, e207, hx207_0, hx207_1, hx207_2, hx207_3, hx207_4, hl207_4, hi207_4⟩ := at_T38 HR0.out x8_1 p207 q207; cases e207; replace hx207_0 := (HB.out.cell (World.block_lt_of_cell? w _ hx207_0)).trans hx207_0; replace hx207_1 := (HB.out.cell (World.block_lt_of_cell? w _ hx207_1)).trans hx207_1; replace hx207_2 := (HB.out.cell (World.block_lt_of_cell? w _ hx207_2)).trans hx207_2; replace hx207_3 := (HB.out.cell (World.block_lt_of_cell? w _ hx207_3)).trans hx207_3; replace hx207_4 := (HB.out.cell (World.block_lt_of_cell? w _ hx207_4)).trans hx207_4; have HR207_4 := A_0 hi207_4; have HC207_4 := A_0 hl207_4; clear hi207_4 hl207_4; replace p207 := eq_true p207; replace q207 := eq_true q207
              go_wp2_with (first | ((with_reducible refine gate_dst (N := 5) rfl ?_); refine box_event ?hg (N := 5) ?hd (cs := #[.int .i64 0, .int .i64 0, .string (⟨#[]⟩ : ByteArray), .int .i64 0, .slice none 0 0]) (t := 38) ?hr ?_; (case hd => rfl); (case hg => rfl); (case hr => first | (go_simp; done) | (go_simp; rfl)); intro gb208 hg w7 hbox hb; have n0_ := A_0 (Kd.R_below (Kd.R_elderB (z_23) gb208 (Nat.le_of_eq hg.symm)) hb); have n1_ := A_0 (below_step (z_6) hb); have n2_ := A_0 (hbox); have n3_ := A_0 ((z_7 : w.heap.size ≤ gb208)); have n4_ := A_0 ((z_7 : w.heap.size ≤ gb208)); clear HO_3; clear HB; have HO_3 := n0_; have HB := n1_; have BK208 := n2_; have GW208 := n3_; have GE208 := n4_; clear n0_ n1_ n2_ n3_ n4_; clear hb hbox hg; obtain ⟨hcz8_0, hcz8_1, hcz8_2, hcz8_3, hcz8_4⟩ := blkc5 BK208.out; obtain ⟨hfz8_0, hfz8_1, hfz8_2, hfz8_3, hfz8_4⟩ := blkf5 BK208.out) | ((with_reducible refine gate_callee (f := 52) rfl ?_); refine goesL_ (some 14) rfl rfl Try.func52 (by kernel_rfl) rfl #[.slice A207_4 ((rd_T38 l0 x8_1).f4).length c207_4] rfl (z_13) ?_; (with_reducible refine (ih k1 (by have := HK1.out; omega) _ _ ((rd_T38 l0 x8_1).f4) t209 _ ?side1 ?side2 A5.out).mono ?_); (case side1 => exact Kd.C_below HR207_4.out (z_24)); (case side2 => exact HC207_4.out); rintro e w9 ⟨v210, rfl, ho0, hb⟩; refine ⟨_, rfl, ?_⟩; have n0_ := A_0 (Kd.R_elder' (z_25) (Kd.R_base ho0) hb); have n1_ := A_0 (Kd.R_lower (Kd.R_newB (Kd.R_new' ho0 (Kd.R_lt (z_25))) (g := gb208) (o := .cells #[.int .i64 ((rd_T38 l0 x8_1).f0), .int .i64 ((rd_T38 l0 x8_1).f1), .string ((rd_T38 l0 x8_1).f2), .int .i64 ((rd_T38 l0 x8_1).f3), .slice A207_4 ((rd_T38 l0 x8_1).f4).length c207_4] 38 (0, 0)) (z_26)) (below_size (z_24))); have n2_ := A_0 (blk_below (g := gb208) (o := .cells #[.int .i64 ((rd_T38 l0 x8_1).f0), .int .i64 ((rd_T38 l0 x8_1).f1), .string ((rd_T38 l0 x8_1).f2), .int .i64 ((rd_T38 l0 x8_1).f3), .slice A207_4 ((rd_T38 l0 x8_1).f4).length c207_4] 38 (0, 0)) (z_26) hb); have n3_ := A_0 (below_step (z_24) hb); clear HO_3; clear BK208; clear HB; have HO_3 := n0_; have HO211 := n1_; have BK208 := n2_; have HB := n3_; clear n0_ n1_ n2_ n3_; (try clear hb); (try clear hb2); (try clear hk); (try clear hi); (try clear ho0); obtain ⟨Ao10, co10, eo10⟩ := Kd.R_slice HO211.out; subst eo10; obtain ⟨hcz11_0, hcz11_1, hcz11_2, hcz11_3, hcz11_4⟩ := blkc5 BK208.out; obtain ⟨hfz11_0, hfz11_1, hfz11_2, hfz11_3, hfz11_4⟩ := blkf5 BK208.out) | ((with_reducible refine gate_store (t := 36) (p := 15) rfl ?_); refine store_event (t := 36) (p := 15) (v := ?vo_w12) (w1 := (w9.setCell ⟨gb208, 4, none⟩ (.slice Ao10 t209.length co10))) ?hg ?ho ?hn ?hr ?_; (case ho => rfl); (case hg => rfl); (case hn => rfl); (case hr => first | (go_simp; done) | (go_simp; rfl)); intro w12 hw; have n0_ : Aside0 (Kd.R k38 38 w12 w.heap.size (fun k_ => some k_ ≠ (.slice Ao10 t209.length co10 : Value).ownBlock ∧ k_ ≠ gb208) u3 x3_1) := ⟨(by rw [hw]; exact (by (with_reducible repeat (first | apply Kd.R_alloc | apply Kd.R_drewN | apply Kd.R_drew)); exact Kd.R_mono (Kd.R_far (p := ⟨gb208, 4, none⟩) (Kd.R_mono HO_3.out (fun k_ hk => (⟨hk, hk.1.2⟩ : _ ∧ k_ ≠ gb208))) (fun _ hk => hk.2) (.slice Ao10 t209.length co10)) (fun _ hk => ⟨hk.1.2, hk.1.1.2⟩)))⟩; have n1_ : Aside0 (Kd.R k38 38 w12 w.heap.size (fun k_ => some k_ ≠ (u3 : Value).ownBlock ∧ k_ ≠ gb208) (.slice Ao10 t209.length co10) t209) := ⟨(by rw [hw]; exact (by (with_reducible repeat (first | apply Kd.R_alloc | apply Kd.R_drewN | apply Kd.R_drew)); exact Kd.R_mono (Kd.R_far (p := ⟨gb208, 4, none⟩) (Kd.R_mono HO211.out (fun k_ hk => (⟨hk, hk.2⟩ : _ ∧ k_ ≠ gb208))) (fun _ hk => hk.2) (.slice Ao10 t209.length co10)) (fun _ hk => ⟨hk.1.1.2, hk.1.2⟩)))⟩; have n2_ : Aside0 (w12.heap[gb208]? = some (.cells #[.int .i64 ((rd_T38 l0 x8_1).f0), .int .i64 ((rd_T38 l0 x8_1).f1), .string ((rd_T38 l0 x8_1).f2), .int .i64 ((rd_T38 l0 x8_1).f3), .slice Ao10 t209.length co10] 38 (0, 0))) := ⟨(by rw [hw]; exact (by (with_reducible repeat (first | refine blk_drewN ?_ _ | refine blk_drew ?_ | refine blk_alloc ?_ _)); refine blk_put (cs := #[.int .i64 ((rd_T38 l0 x8_1).f0), .int .i64 ((rd_T38 l0 x8_1).f1), .string ((rd_T38 l0 x8_1).f2), .int .i64 ((rd_T38 l0 x8_1).f3), .slice A207_4 ((rd_T38 l0 x8_1).f4).length c207_4]) ?_ 4 _ rfl; (with_reducible repeat (first | refine blk_drewN ?_ _ | refine blk_drew ?_ | refine blk_alloc ?_ _)); exact BK208.out))⟩; have n3_ : Aside0 (Below w.heap.size w w12) := ⟨(by rw [hw]; exact (z_24))⟩; clear hw; clear HO_3; clear HO211; clear BK208; clear HB; have HO_3 := n0_; have HO211 := n1_; have BK208 := n2_; have HB := n3_; clear n0_ n1_ n2_ n3_; obtain ⟨hcz13_0, hcz13_1, hcz13_2, hcz13_3, hcz13_4⟩ := blkc5 BK208.out; obtain ⟨hfz13_0, hfz13_1, hfz13_2, hfz13_3, hfz13_4⟩ := blkf5 BK208.out) | ((with_reducible refine gate_builtin (b := .append) (xs := #[.tmp 16, .tmp 18]) rfl ?_); at_builtin; refine Kd.R_append k38 (w0 := w) w.heap.size rfl (.tmp 16) (.tmp 18) 36 38 (.agg #[(.int .i64 0), (.int .i64 0), (.string ⟨#[]⟩), (.int .i64 0), (.slice none 0 0)]) 64 rfl Try.underlying36 info38 rfl (by decide) (by omega) u3 x3_1 (⟨(rd_T38 l0 x8_1).f0, (rd_T38 l0 x8_1).f1, (rd_T38 l0 x8_1).f2, (rd_T38 l0 x8_1).f3, t209⟩ : S38) [.int .i64 ((rd_T38 l0 x8_1).f0), .int .i64 ((rd_T38 l0 x8_1).f1), .string ((rd_T38 l0 x8_1).f2), .int .i64 ((rd_T38 l0 x8_1).f3), .slice Ao10 t209.length co10] (fun k_ => k_ ≠ gb208) (fun k_ => ((fun k_ => k_ ≠ gb208)) k_ ∧ some k_ ≠ (u3 : Value).ownBlock) rfl rfl ?aP (fun _ hk => hk) ?aF ?aO ?aB ?aS ?aL ?_; (case aP => exact k38_mkM _ _ _ (⟨(rd_T38 l0 x8_1).f0, (rd_T38 l0 x8_1).f1, (rd_T38 l0 x8_1).f2, (rd_T38 l0 x8_1).f3, t209⟩ : S38) (Kd.R_mono (HO211.out) (fun k_ hk => ⟨hk.2, hk.1⟩))); (case aB => exact (z_24)); (case aF => exact (fun k_ hk => Kd.freshB (g := gb208) (o := .cells #[.int .i64 ((rd_T38 l0 x8_1).f0), .int .i64 ((rd_T38 l0 x8_1).f1), .string ((rd_T38 l0 x8_1).f2), .int .i64 ((rd_T38 l0 x8_1).f3), .slice Ao10 t209.length co10] 38 (0, 0)) (z_27) k_ hk)); (case aO => exact (by (with_reducible repeat (first | apply Kd.R_alloc | apply Kd.R_drewN | apply Kd.R_drew)); exact Kd.R_mono HO_3.out (fun _ hk => hk.2))); (case aS => exact (below_size (z_24))); (case aL => have := LMc6.out; omega); intro v213 w14 ho hb hg hat; rw [← Ny212.out] at ho; have n0_ := A_0 (blk_grown (g := gb208) (o := .cells #[.int .i64 ((rd_T38 l0 x8_1).f0), .int .i64 ((rd_T38 l0 x8_1).f1), .string ((rd_T38 l0 x8_1).f2), .int .i64 ((rd_T38 l0 x8_1).f3), .slice Ao10 t209.length co10] 38 (0, 0)) (z_27) hg (Kd.R_away HO_3.out (fun _ hk => hk.2))); have n1_ := A_0 (hb); have n2_ := A_0 (ho); clear BK208; clear HB; clear HO_3; clear HO211; have BK208 := n0_; have HB := n1_; have HO214 := n2_; clear n0_ n1_ n2_; clear ho hb hg hat))
              go_roundg k1
              case measure => have := HK1.out; omega
              case rel => exact ⟨(y212), (wrap64 (x8_1 + 1)), (z_8), H', ⟨by have := HK1.out; omega⟩, ⟨by (with_reducible repeat (first | apply Kd.R_alloc | apply Kd.R_drewN | apply Kd.R_drew)); exact Kd.R_mono HO214.out (fun _ hk => trivial)⟩, ⟨z_24⟩⟩
            · rw [if_neg c6] at H
              exact z_15
          · rw [if_neg c4] at H
            exact z_15
        · rw [if_neg c3] at H
          exact z_15
      · rw [if_neg c2] at H
        have c2b0 : decide (x8_1 < (l0.length : Int)) = false := decide_eq_false c2; clear c2; obtain rfl := Option.some.inj H
        go_wp2
        go_ret
        exact ⟨_, z_16, z_23, z_6⟩
mutual
def tree_Copy.l0 : Nat → List (S41) → List (S41) → Int → Int → Option ((List (S41)))
  | 0, _, _, _, _ => none
  | k + 1, x3, x6, x7, x8 => if x8 < x7 then (if 0 ≤ x8 then (if x8 < (x6.length : Int) then ((tree_copyAll.f k ((rd_T41 x6 x8).f3)).bind fun t217 => ((tree_Copy.f k ((rd_T41 x6 x8).f4)).bind fun t220 => ((tree_Copy.f k ((rd_T41 x6 x8).f5)).bind fun t223 => (if x3.length < 1353245080339 then (tree_Copy.l0 k (x3 ++ [(⟨(rd_T41 x6 x8).f0, (rd_T41 x6 x8).f1, (rd_T41 x6 x8).f2, t217, t220, t223⟩ : S41)]) x6 x7 (wrap64 (x8 + 1))) else (none))))) else (none)) else (none)) else (some x3)
def tree_Copy.f : Nat → List (S41) → Option ((List (S41)))
  | 0, _ => none
  | k + 1, l0 => tree_Copy.l0 k ([] : List (S41)) l0 (l0.length : Int) 0
end
theorem tree_Copy.mono_l : ∀ k, (∀ y0, LeO (tree_Copy.f k y0) (tree_Copy.f (k + 1) y0)) ∧ (∀ y0 y1 y2 y3, LeO (tree_Copy.l0 k y0 y1 y2 y3) (tree_Copy.l0 (k + 1) y0 y1 y2 y3))
  | 0 => ⟨fun _ r h => by simp [tree_Copy.f] at h, fun _ _ _ _ r h => by simp [tree_Copy.l0] at h⟩
  | k + 1 => by
    obtain ⟨ih0, ih1⟩ := tree_Copy.mono_l k; refine ⟨?_, ?_⟩
    · intro y0
      unfold tree_Copy.f
      repeat' first
      | (with_reducible exact ih0 _)
      | (with_reducible exact ih1 _ _ _ _)
      | (with_reducible exact tree_copyAll.mono _ _)
      | (with_reducible exact LeO.refl _)
      | (with_reducible exact LeO.none _)
      | (with_reducible refine LeO.ite ?_ ?_)
      | (with_reducible refine LeO.bind ?_ (fun _ => ?_))
      | exact ih0 _
      | exact ih1 _ _ _ _
      | exact tree_copyAll.mono _ _
      | exact LeO.none _
      | refine LeO.ite ?_ ?_
      | refine LeO.bind ?_ (fun _ => ?_)
    · intro y0 y1 y2 y3
      unfold tree_Copy.l0
      repeat' first
      | (with_reducible exact ih0 _)
      | (with_reducible exact ih1 _ _ _ _)
      | (with_reducible exact tree_copyAll.mono _ _)
      | (with_reducible exact LeO.refl _)
      | (with_reducible exact LeO.none _)
      | (with_reducible refine LeO.ite ?_ ?_)
      | (with_reducible refine LeO.bind ?_ (fun _ => ?_))
      | exact ih0 _
      | exact ih1 _ _ _ _
      | exact tree_copyAll.mono _ _
      | exact LeO.none _
      | refine LeO.ite ?_ ?_
      | refine LeO.bind ?_ (fun _ => ?_)
def tree_Copy.T5 : Bool × List (List Nat × List Nat) := (true, [([], []), ([0], [0]), ([1], [1]), ([], []), ([3], [3]), ([4, 2], [4]), ([], []), ([6], [6]), ([7, 5], [7]), ([0, 1, 2, 3, 4, 6, 7], []), ([9, 2, 8, 0, 1, 2, 3, 4, 6, 7], [2, 9]), ([0, 1, 2, 3, 4, 5, 6, 7, 9, 10], []), ([11, 5, 10, 0, 1, 2, 3, 4, 5, 6, 7, 9, 10], [5, 11]), ([0, 1, 2, 3, 4, 5, 6, 7, 8, 9, 10, 11, 12], []), ([13, 8, 12, 0, 1, 2, 3, 4, 5, 6, 7, 8, 9, 10, 11, 12], [8, 13])])
def tree_Copy.B5 : List Nat := [0, 1, 3, 0, 8, 31, 0, 64, 255, 223, 1023, 2047, 4095, 8191, 16383]
theorem tree_Copy.tab5 : rtab .any (opsOf Try.f31 5) = tree_Copy.T5 := by kernel_rfl
theorem tree_Copy.bits5 : waitsOk tree_Copy.T5.2 tree_Copy.B5 = true := by kernel_rfl
set_option maxHeartbeats 8000000 in
set_option maxRecDepth 100000 in
theorem tree_Copy.calls (k : Nat) : ∀ (A0 : Option Addr) (c0 : Nat) (l0 : List (S41)) (r : List (S41)) (w : World) (hr0 : Kd.C k41 w A0 l0.length l0) (hc0 : l0.length ≤ c0) (h : tree_Copy.f k l0 = some r),
    Calls Try.prog 31 #[.slice A0 l0.length c0] w fun e w' => ∃ v0_ : Value, e = .returned (v0_) ∧ Kd.R k41 41 w' w.heap.size (fun _ => True) v0_ r ∧ Below w.heap.size w w' := by
  induction k using Nat.strongRecOn with
  | _ k ih =>
  intro A0 c0 l0 r w hr0 hc0 h; cases k with
  | zero => exact absurd h (by simp [tree_Copy.f])
  | succ k =>
  simp only [tree_Copy.f] at h; have hu41 := Try.underlying41; have HR0 := A_0 hr0; have HC0 := A_0 hc0; clear hr0 hc0; have HB := A_0 (Below.refl w.heap.size w); have H : (tree_Copy.l0 k ([] : List (S41)) l0 (l0.length : Int) 0) = some r := h; clear h; have H' := A_0 H; clear H
  go_enter Try.func31, Try.ntmps31
  go_wp2
  go_loopg [3, 8] k (fun kq v3 v8 w' => ∃ (x3_1 : List (S41)) (x8_1 : Int), v8 = .int .i64 x8_1 ∧ Aside0 (tree_Copy.l0 kq x3_1 l0 (l0.length : Int) x8_1 = some r) ∧ Aside0 (kq ≤ k) ∧ Aside0 (Kd.R k41 41 w' w.heap.size (fun _ => True) v3 x3_1) ∧ Aside0 (Below w.heap.size w w'))
  case atStart => exact ⟨(([] : List (S41))), (0), (z_8), H', ⟨Nat.le_refl _⟩, ⟨z_22⟩, ⟨z_6⟩⟩
  case round =>
    clear H'; obtain ⟨x3_1, x8_1, rfl, HA, HK1, HO_3, HB⟩ := hrel; cases gk with
    | zero => exact absurd HA.out (by simp [tree_Copy.l0])
    | succ k1 =>
      have H := HA.out; clear HA; simp only [tree_Copy.l0] at H; by_cases c2 : x8_1 < (l0.length : Int)
      · rw [if_pos c2] at H
        have c2b0 : decide (x8_1 < (l0.length : Int)) = true := decide_eq_true c2; clear c2; by_cases c3 : 0 ≤ x8_1
        · rw [if_pos c3] at H
          have c3b0 : decide (0 ≤ x8_1) = true := decide_eq_true c3; clear c3; by_cases c4 : x8_1 < (l0.length : Int)
          · rw [if_pos c4] at H
            have c4b0 : decide (x8_1 < (l0.length : Int)) = true := decide_eq_true c4; clear c4; replace H := Option.bind_eq_some_iff.mp H; obtain ⟨t217, A50, H⟩ := H; replace H : ((tree_Copy.f k1 ((rd_T41 l0 x8_1).f4)).bind fun t220 => ((tree_Copy.f k1 ((rd_T41 l0 x8_1).f5)).bind fun t223 => (if x3_1.length < 1353245080339 then (tree_Copy.l0 k1 (x3_1 ++ [(⟨(rd_T41 l0 x8_1).f0, (rd_T41 l0 x8_1).f1, (rd_T41 l0 x8_1).f2, t217, t220, t223⟩ : S41)]) l0 (l0.length : Int) (wrap64 (x8_1 + 1))) else (none)))) = some r := H; have A5 := A_0 A50; clear A50; replace H := Option.bind_eq_some_iff.mp H; obtain ⟨t220, A60, H⟩ := H; replace H : ((tree_Copy.f k1 ((rd_T41 l0 x8_1).f5)).bind fun t223 => (if x3_1.length < 1353245080339 then (tree_Copy.l0 k1 (x3_1 ++ [(⟨(rd_T41 l0 x8_1).f0, (rd_T41 l0 x8_1).f1, (rd_T41 l0 x8_1).f2, t217, t220, t223⟩ : S41)]) l0 (l0.length : Int) (wrap64 (x8_1 + 1))) else (none))) = some r := H; have A6 := A_0 A60; clear A60; replace H := Option.bind_eq_some_iff.mp H; obtain ⟨t223, A70, H⟩ := H; replace H : (if x3_1.length < 1353245080339 then (tree_Copy.l0 k1 (x3_1 ++ [(⟨(rd_T41 l0 x8_1).f0, (rd_T41 l0 x8_1).f1, (rd_T41 l0 x8_1).f2, t217, t220, t223⟩ : S41)]) l0 (l0.length : Int) (wrap64 (x8_1 + 1))) else (none)) = some r := H; have A7 := A_0 A70; clear A70; by_cases c8 : x3_1.length < 1353245080339
            · rw [if_pos c8] at H
              have LMc8 := A_0 c8; clear c8; obtain ⟨y226, hy226⟩ : ∃ y_ : List (S41), y_ = (x3_1 ++ [(⟨(rd_T41 l0 x8_1).f0, (rd_T41 l0 x8_1).f1, (rd_T41 l0 x8_1).f2, t217, t220, t223⟩ : S41)]) := ⟨_, rfl⟩; replace H : (tree_Copy.l0 k1 y226 l0 (l0.length : Int) (wrap64 (x8_1 + 1))) = some r := by first | (rw [hy226]; with_reducible exact H) | (have H2_ := (Option.bind_some _ _).symm.trans H; rw [hy226]; with_reducible exact H2_) | (have H2_ := (Option.bind_some _ _).symm.trans H; with_reducible exact H2_) | with_reducible exact H | (rw [hy226]; exact H) | exact H
              have Ny226 := A_0 hy226; clear hy226; have H' := A_0 H; clear H; have p215 : 0 ≤ (x8_1 : Int) := of_decide_eq_true (z_11); have q215 : x8_1 < (l0.length : Int) := of_decide_eq_true (z_11); obtain ⟨ad215, A215_3, c215_3, A215_4, c215_4, A215_5, c215_5, e215, hx215_0, hx215_1, hx215_2, hx215_3, hx215_4, hx215_5, hl215_3, hi215_3, hl215_4, hi215_4, hl215_5, hi215_5⟩ := at_T41 HR0.out x8_1 p215 q215; cases e215; replace hx215_0 := (HB.out.cell (World.block_lt_of_cell? w _ hx215_0)).trans hx215_0; replace hx215_1 := (HB.out.cell (World.block_lt_of_cell? w _ hx215_1)).trans hx215_1; replace hx215_2 := (HB.out.cell (World.block_lt_of_cell? w _ hx215_2)).trans hx215_2; replace hx215_3 := (HB.out.cell (World.block_lt_of_cell? w _ hx215_3)).trans hx215_3; replace hx215_4 := (HB.out.cell (World.block_lt_of_cell? w _ hx215_4)).trans hx215_4; replace hx215_5 := (HB.out.cell (World.block_lt_of_cell? w _ hx215_5)).trans hx215_5; have HR215_3 := A_0 hi215_3; have HC215_3 := A_0 hl215_3; clear hi215_3 hl215_3; have HR215_4 := A_0 hi215_4; have HC215_4 := A_0 hl215_4; clear hi215_4 hl215_4; have HR215_5 := A_0 hi215_5; have HC215_5 := A_0 hl215_5; clear hi215_5 hl215_5; replace p215 := eq_true p215; replace q215 := eq_true q215
              try go_wp2_with (first | ((with_reducible refine gate_dst (N := 5) rfl ?_); refine box_event ?hg (N := 5) ?hd (cs := #[.int .i64 0, .string (⟨#[]⟩ : ByteArray), .int .i64 0, .slice none 0 0, .slice none 0 0, .slice none 0 0]) (t := 41) ?hr ?_; (case hd => rfl); (case hg => rfl); (case hr => first | (go_simp; done) | (go_simp; rfl)); intro gb216 hg w9 hbox hb; have n0_ := A_0 (Kd.R_below (Kd.R_elderB (z_23) gb216 (Nat.le_of_eq hg.symm)) hb); have n1_ := A_0 (below_step (z_6) hb); have n2_ := A_0 (hbox); have n3_ := A_0 ((z_7 : w.heap.size ≤ gb216)); have n4_ := A_0 ((z_7 : w.heap.size ≤ gb216)); clear HO_3; clear HB; have HO_3 := n0_; have HB := n1_; have BK216 := n2_; have GW216 := n3_; have GE216 := n4_; clear n0_ n1_ n2_ n3_ n4_; clear hb hbox hg; obtain ⟨hcz10_0, hcz10_1, hcz10_2, hcz10_3, hcz10_4, hcz10_5⟩ := blkc6 BK216.out; obtain ⟨hfz10_0, hfz10_1, hfz10_2, hfz10_3, hfz10_4, hfz10_5⟩ := blkf6 BK216.out))
              have n0_ : Aside0 (Kd.R k41 41 ((((((w9.setCell ⟨gb216, 0, none⟩ (.int .i64 ((rd_T41 l0 x8_1).f0))).setCell ⟨gb216, 1, none⟩ (.string ((rd_T41 l0 x8_1).f1))).setCell ⟨gb216, 2, none⟩ (.int .i64 ((rd_T41 l0 x8_1).f2))).setCell ⟨gb216, 3, none⟩ (.slice A215_3 ((rd_T41 l0 x8_1).f3).length c215_3)).setCell ⟨gb216, 4, none⟩ (.slice A215_4 ((rd_T41 l0 x8_1).f4).length c215_4)).setCell ⟨gb216, 5, none⟩ (.slice A215_5 ((rd_T41 l0 x8_1).f5).length c215_5)) w.heap.size (fun k_ => k_ ≠ gb216) u3 x3_1) := ⟨by (with_reducible repeat (first | apply Kd.R_alloc | apply Kd.R_drewN | apply Kd.R_drew)); exact Kd.R_mono (Kd.R_far (p := ⟨gb216, 5, none⟩) (Kd.R_far (p := ⟨gb216, 4, none⟩) (Kd.R_far (p := ⟨gb216, 3, none⟩) (Kd.R_far (p := ⟨gb216, 2, none⟩) (Kd.R_far (p := ⟨gb216, 1, none⟩) (Kd.R_far (p := ⟨gb216, 0, none⟩) (Kd.R_mono HO_3.out (fun k_ hk => (⟨hk, hk.2⟩ : _ ∧ k_ ≠ gb216))) (fun _ hk => hk.2) (.int .i64 ((rd_T41 l0 x8_1).f0))) (fun _ hk => hk.2) (.string ((rd_T41 l0 x8_1).f1))) (fun _ hk => hk.2) (.int .i64 ((rd_T41 l0 x8_1).f2))) (fun _ hk => hk.2) (.slice A215_3 ((rd_T41 l0 x8_1).f3).length c215_3)) (fun _ hk => hk.2) (.slice A215_4 ((rd_T41 l0 x8_1).f4).length c215_4)) (fun _ hk => hk.2) (.slice A215_5 ((rd_T41 l0 x8_1).f5).length c215_5)) (fun _ hk => hk.1.2)⟩
              have n1_ : Aside0 (((((((w9.setCell ⟨gb216, 0, none⟩ (.int .i64 ((rd_T41 l0 x8_1).f0))).setCell ⟨gb216, 1, none⟩ (.string ((rd_T41 l0 x8_1).f1))).setCell ⟨gb216, 2, none⟩ (.int .i64 ((rd_T41 l0 x8_1).f2))).setCell ⟨gb216, 3, none⟩ (.slice A215_3 ((rd_T41 l0 x8_1).f3).length c215_3)).setCell ⟨gb216, 4, none⟩ (.slice A215_4 ((rd_T41 l0 x8_1).f4).length c215_4)).setCell ⟨gb216, 5, none⟩ (.slice A215_5 ((rd_T41 l0 x8_1).f5).length c215_5)).heap[gb216]? = some (.cells #[.int .i64 ((rd_T41 l0 x8_1).f0), .string ((rd_T41 l0 x8_1).f1), .int .i64 ((rd_T41 l0 x8_1).f2), .slice A215_3 ((rd_T41 l0 x8_1).f3).length c215_3, .slice A215_4 ((rd_T41 l0 x8_1).f4).length c215_4, .slice A215_5 ((rd_T41 l0 x8_1).f5).length c215_5] 41 (0, 0))) := ⟨by (with_reducible repeat (first | refine blk_drewN ?_ _ | refine blk_drew ?_ | refine blk_alloc ?_ _)); refine blk_put (cs := #[.int .i64 ((rd_T41 l0 x8_1).f0), .string ((rd_T41 l0 x8_1).f1), .int .i64 ((rd_T41 l0 x8_1).f2), .slice A215_3 ((rd_T41 l0 x8_1).f3).length c215_3, .slice A215_4 ((rd_T41 l0 x8_1).f4).length c215_4, .slice none 0 0]) ?_ 5 _ rfl; (with_reducible repeat (first | refine blk_drewN ?_ _ | refine blk_drew ?_ | refine blk_alloc ?_ _)); refine blk_put (cs := #[.int .i64 ((rd_T41 l0 x8_1).f0), .string ((rd_T41 l0 x8_1).f1), .int .i64 ((rd_T41 l0 x8_1).f2), .slice A215_3 ((rd_T41 l0 x8_1).f3).length c215_3, .slice none 0 0, .slice none 0 0]) ?_ 4 _ rfl; (with_reducible repeat (first | refine blk_drewN ?_ _ | refine blk_drew ?_ | refine blk_alloc ?_ _)); refine blk_put (cs := #[.int .i64 ((rd_T41 l0 x8_1).f0), .string ((rd_T41 l0 x8_1).f1), .int .i64 ((rd_T41 l0 x8_1).f2), .slice none 0 0, .slice none 0 0, .slice none 0 0]) ?_ 3 _ rfl; (with_reducible repeat (first | refine blk_drewN ?_ _ | refine blk_drew ?_ | refine blk_alloc ?_ _)); refine blk_put (cs := #[.int .i64 ((rd_T41 l0 x8_1).f0), .string ((rd_T41 l0 x8_1).f1), .int .i64 0, .slice none 0 0, .slice none 0 0, .slice none 0 0]) ?_ 2 _ rfl; (with_reducible repeat (first | refine blk_drewN ?_ _ | refine blk_drew ?_ | refine blk_alloc ?_ _)); refine blk_put (cs := #[.int .i64 ((rd_T41 l0 x8_1).f0), .string (⟨#[]⟩ : ByteArray), .int .i64 0, .slice none 0 0, .slice none 0 0, .slice none 0 0]) ?_ 1 _ rfl; (with_reducible repeat (first | refine blk_drewN ?_ _ | refine blk_drew ?_ | refine blk_alloc ?_ _)); refine blk_put (cs := #[.int .i64 0, .string (⟨#[]⟩ : ByteArray), .int .i64 0, .slice none 0 0, .slice none 0 0, .slice none 0 0]) ?_ 0 _ rfl; (with_reducible repeat (first | refine blk_drewN ?_ _ | refine blk_drew ?_ | refine blk_alloc ?_ _)); exact BK216.out⟩
              have n2_ : Aside0 (Below w.heap.size w ((((((w9.setCell ⟨gb216, 0, none⟩ (.int .i64 ((rd_T41 l0 x8_1).f0))).setCell ⟨gb216, 1, none⟩ (.string ((rd_T41 l0 x8_1).f1))).setCell ⟨gb216, 2, none⟩ (.int .i64 ((rd_T41 l0 x8_1).f2))).setCell ⟨gb216, 3, none⟩ (.slice A215_3 ((rd_T41 l0 x8_1).f3).length c215_3)).setCell ⟨gb216, 4, none⟩ (.slice A215_4 ((rd_T41 l0 x8_1).f4).length c215_4)).setCell ⟨gb216, 5, none⟩ (.slice A215_5 ((rd_T41 l0 x8_1).f5).length c215_5))) := ⟨z_28⟩
              (try clear HO_3)
              (try clear BK216)
              (try clear HB)
              generalize ((((((w9.setCell ⟨gb216, 0, none⟩ (.int .i64 ((rd_T41 l0 x8_1).f0))).setCell ⟨gb216, 1, none⟩ (.string ((rd_T41 l0 x8_1).f1))).setCell ⟨gb216, 2, none⟩ (.int .i64 ((rd_T41 l0 x8_1).f2))).setCell ⟨gb216, 3, none⟩ (.slice A215_3 ((rd_T41 l0 x8_1).f3).length c215_3)).setCell ⟨gb216, 4, none⟩ (.slice A215_4 ((rd_T41 l0 x8_1).f4).length c215_4)).setCell ⟨gb216, 5, none⟩ (.slice A215_5 ((rd_T41 l0 x8_1).f5).length c215_5)) = w11 at n0_ n1_ n2_ ⊢; have HO_3 := n0_; have BK216 := n1_; have HB := n2_; clear n0_ n1_ n2_; have n0_ := A_0 (Kd.R_drew HO_3.out); have n1_ := A_0 (blk_drew BK216.out); have n2_ := A_0 (below_drew1 HB.out); clear HO_3; clear BK216; clear HB; have HO_3 := n0_; have BK216 := n1_; have HB := n2_; clear n0_ n1_ n2_; refine start_ (n := 15) (S := fun w' => w'.cell? ⟨gb216, 0, none⟩ = some (.int .i64 ((rd_T41 l0 x8_1).f0)) ∧ w'.cell? ⟨gb216, 1, none⟩ = some (.string ((rd_T41 l0 x8_1).f1)) ∧ w'.cell? ⟨gb216, 2, none⟩ = some (.int .i64 ((rd_T41 l0 x8_1).f2)) ∧ w'.cell? ⟨gb216, 3, none⟩ = some (.slice A215_3 ((rd_T41 l0 x8_1).f3).length c215_3) ∧ w'.cell? ⟨gb216, 4, none⟩ = some (.slice A215_4 ((rd_T41 l0 x8_1).f4).length c215_4) ∧ w'.cell? ⟨gb216, 5, none⟩ = some (.slice A215_5 ((rd_T41 l0 x8_1).f5).length c215_5)) (ds := [10, 12, 14]) #[false, false, false, false, false, false, false, false, false, false, false, false, false, false, false] (by kernel_rfl) rfl rfl ⟨(blk_cell BK216.out 0).trans rfl, (blk_cell BK216.out 1).trans rfl, (blk_cell BK216.out 2).trans rfl, (blk_cell BK216.out 3).trans rfl, (blk_cell BK216.out 4).trans rfl, (blk_cell BK216.out 5).trans rfl⟩ (fun hHeld => ?_); refine with_tabW tree_Copy.tab5 tree_Copy.bits5 (fun HT_ HW_ => ?_); generalize w11.drew = w12 at HO_3 BK216 HB hHeld ⊢; refine pure_ (i := 0) (N := some 12) (v := ?_) (a' := ?_) #[true, false, false, false, false, false, false, false, false, false, false, false, false, false, false] rfl rfl (any_of HT_.out (by kernel_rfl)) (fun _ _ _ h => h) (Or.inl ⟨by rfl, ?_⟩) ?_ ?_
              rotate_left
              · intro w'
                go_simp
                with_reducible rfl
              rotate_left
              · simp only [Act.put, List.setIfInBounds_toArray, List.set_cons_zero, List.set_cons_succ, i64_w, i32_w]
                rfl
              refine pure_ (i := 3) (N := some 15) (v := ?_) (a' := ?_) #[true, false, false, true, false, false, false, false, false, false, false, false, false, false, false] rfl rfl (any_of HT_.out (by kernel_rfl)) (fun _ _ _ h => h) (Or.inl ⟨by rfl, ?_⟩) ?_ ?_
              rotate_left
              · intro w'
                go_simp
                with_reducible rfl
              rotate_left
              · simp only [Act.put, List.setIfInBounds_toArray, List.set_cons_zero, List.set_cons_succ, i64_w, i32_w]
                rfl
              refine pure_ (i := 6) (N := some 18) (v := ?_) (a' := ?_) #[true, false, false, true, false, false, true, false, false, false, false, false, false, false, false] rfl rfl (any_of HT_.out (by kernel_rfl)) (fun _ _ _ h => h) (Or.inl ⟨by rfl, ?_⟩) ?_ ?_
              rotate_left
              · intro w'
                go_simp
                with_reducible rfl
              rotate_left
              · simp only [Act.put, List.setIfInBounds_toArray, List.set_cons_zero, List.set_cons_succ, i64_w, i32_w]
                rfl
              refine take_ (i := 1) (N := some 13) (v := ?_) (a' := ?_) #[true, true, false, true, false, false, true, false, false, false, false, false, false, false, false] rfl rfl (take_ofW HT_.out HW_.out (by kernel_rfl)) (fun _ _ _ h => h) (Or.inl ⟨by rfl, ?_⟩) hHeld ?_ ?_
              rotate_left
              · rintro w' ⟨s0, s1, s2, s3, s4, s5⟩
                go_simp
                with_reducible rfl
              rotate_left
              · simp only [Act.put, List.setIfInBounds_toArray, List.set_cons_zero, List.set_cons_succ, i64_w, i32_w]
                rfl
              refine take_ (i := 4) (N := some 16) (v := ?_) (a' := ?_) #[true, true, false, true, true, false, true, false, false, false, false, false, false, false, false] rfl rfl (take_ofW HT_.out HW_.out (by kernel_rfl)) (fun _ _ _ h => h) (Or.inl ⟨by rfl, ?_⟩) hHeld ?_ ?_
              rotate_left
              · rintro w' ⟨s0, s1, s2, s3, s4, s5⟩
                go_simp
                with_reducible rfl
              rotate_left
              · simp only [Act.put, List.setIfInBounds_toArray, List.set_cons_zero, List.set_cons_succ, i64_w, i32_w]
                rfl
              refine take_ (i := 7) (N := some 19) (v := ?_) (a' := ?_) #[true, true, false, true, true, false, true, true, false, false, false, false, false, false, false] rfl rfl (take_ofW HT_.out HW_.out (by kernel_rfl)) (fun _ _ _ h => h) (Or.inl ⟨by rfl, ?_⟩) hHeld ?_ ?_
              rotate_left
              · rintro w' ⟨s0, s1, s2, s3, s4, s5⟩
                go_simp
                with_reducible rfl
              rotate_left
              · simp only [Act.put, List.setIfInBounds_toArray, List.set_cons_zero, List.set_cons_succ, i64_w, i32_w]
                rfl
              refine one_ (i := 2) (N := some 14) #[true, true, true, true, true, false, true, true, false, false, false, false, false, false, false] rfl rfl (one_of HT_.out (by kernel_rfl)) (by decide) (fun K hK => ?_)
              refine goes_ Try.func52 (by kernel_rfl) rfl #[.slice A215_3 ((rd_T41 l0 x8_1).f3).length c215_3] (by rfl) rfl rfl (z_13) ?_
              with_reducible refine (tree_copyAll.calls k1 _ _ ((rd_T41 l0 x8_1).f3) t217 _ ?side1 ?side2 A5.out).mono ?_
              (case side1 => repeat (first | exact (Kd.C_below HR215_3.out HB.out) | (with_reducible refine Kd.C_alloc ?_ _) | (with_reducible refine Kd.C_drewN ?_ _) | (with_reducible refine Kd.C_drew ?_)))
              (case side2 => exact HC215_3.out)
              rintro e w13 ⟨v218, rfl, ho0, hb⟩; refine ⟨_, rfl, ?_⟩; have n0_ := A_0 (Kd.R_elder' (z_23) (Kd.R_base ho0) hb); have n1_ := A_0 (Kd.R_lower ho0 (below_size (z_28))); have n2_ := A_0 (blk_below (g := gb216) (o := .cells #[.int .i64 ((rd_T41 l0 x8_1).f0), .string ((rd_T41 l0 x8_1).f1), .int .i64 ((rd_T41 l0 x8_1).f2), .slice A215_3 ((rd_T41 l0 x8_1).f3).length c215_3, .slice A215_4 ((rd_T41 l0 x8_1).f4).length c215_4, .slice A215_5 ((rd_T41 l0 x8_1).f5).length c215_5] 41 (0, 0)) (z_29) hb); have n3_ := A_0 (below_step (z_28) hb); clear HO_3; clear BK216; clear HB; have HO_3 := n0_; have HO219 := n1_; have BK216 := n2_; have HB := n3_; clear n0_ n1_ n2_ n3_
              (try clear hb)
              (try clear hb2)
              (try clear hk)
              (try clear hi)
              (try clear ho0)
              refine hK.out _ _ ⟨(blk_cell BK216.out 0).trans rfl, (blk_cell BK216.out 1).trans rfl, (blk_cell BK216.out 2).trans rfl, (blk_cell BK216.out 3).trans rfl, (blk_cell BK216.out 4).trans rfl, (blk_cell BK216.out 5).trans rfl⟩ (fun hHeld => ?_)
              clear hK K; refine norm_ (a' := ?_) ?_ ?_
              rotate_left
              · show Act.put _ (some 14) _ = _
                simp only [Act.put, List.setIfInBounds_toArray, List.set_cons_zero, List.set_cons_succ, i64_w, i32_w]
                rfl
              refine pure_ (i := 9) (N := some 21) (v := ?_) (a' := ?_) #[true, true, true, true, true, false, true, true, false, true, false, false, false, false, false] rfl rfl (any_of HT_.out (by kernel_rfl)) (fun _ _ _ h => h) (Or.inl ⟨by rfl, ?_⟩) ?_ ?_
              rotate_left
              · intro w'
                go_simp
                with_reducible rfl
              rotate_left
              · simp only [Act.put, List.setIfInBounds_toArray, List.set_cons_zero, List.set_cons_succ, i64_w, i32_w]
                rfl
              refine one_ (i := 5) (N := some 17) #[true, true, true, true, true, true, true, true, false, true, false, false, false, false, false] rfl rfl (one_of HT_.out (by kernel_rfl)) (by decide) (fun K hK => ?_)
              refine goes_ Try.func31 (by kernel_rfl) rfl #[.slice A215_4 ((rd_T41 l0 x8_1).f4).length c215_4] (by rfl) rfl rfl (z_13) ?_
              with_reducible refine (ih k1 (by have := HK1.out; omega) _ _ ((rd_T41 l0 x8_1).f4) t220 _ ?side1 ?side2 A6.out).mono ?_
              (case side1 => repeat (first | exact (Kd.C_below HR215_4.out HB.out) | (with_reducible refine Kd.C_alloc ?_ _) | (with_reducible refine Kd.C_drewN ?_ _) | (with_reducible refine Kd.C_drew ?_)))
              (case side2 => exact HC215_4.out)
              rintro e w14 ⟨v221, rfl, ho0, hb⟩; refine ⟨_, rfl, ?_⟩; have n0_ := A_0 (Kd.R_elder' (z_23) (Kd.R_base ho0) hb); have n1_ := A_0 (Kd.R_below (z_30) hb); have n2_ := A_0 (Kd.R_lower (Kd.R_newB (Kd.R_new' (Kd.R_new' ho0 (Kd.R_lt (z_23))) (Kd.R_lt (z_30))) (g := gb216) (o := .cells #[.int .i64 ((rd_T41 l0 x8_1).f0), .string ((rd_T41 l0 x8_1).f1), .int .i64 ((rd_T41 l0 x8_1).f2), .slice A215_3 ((rd_T41 l0 x8_1).f3).length c215_3, .slice A215_4 ((rd_T41 l0 x8_1).f4).length c215_4, .slice A215_5 ((rd_T41 l0 x8_1).f5).length c215_5] 41 (0, 0)) (z_29)) (below_size (z_28))); have n3_ := A_0 (blk_below (g := gb216) (o := .cells #[.int .i64 ((rd_T41 l0 x8_1).f0), .string ((rd_T41 l0 x8_1).f1), .int .i64 ((rd_T41 l0 x8_1).f2), .slice A215_3 ((rd_T41 l0 x8_1).f3).length c215_3, .slice A215_4 ((rd_T41 l0 x8_1).f4).length c215_4, .slice A215_5 ((rd_T41 l0 x8_1).f5).length c215_5] 41 (0, 0)) (z_29) hb); have n4_ := A_0 (below_step (z_28) hb); clear HO_3; clear HO219; clear BK216; clear HB; have HO_3 := n0_; have HO219 := n1_; have HO222 := n2_; have BK216 := n3_; have HB := n4_; clear n0_ n1_ n2_ n3_ n4_
              (try clear hb)
              (try clear hb2)
              (try clear hk)
              (try clear hi)
              (try clear ho0)
              refine hK.out _ _ ⟨(blk_cell BK216.out 0).trans rfl, (blk_cell BK216.out 1).trans rfl, (blk_cell BK216.out 2).trans rfl, (blk_cell BK216.out 3).trans rfl, (blk_cell BK216.out 4).trans rfl, (blk_cell BK216.out 5).trans rfl⟩ (fun hHeld => ?_)
              clear hK K; refine norm_ (a' := ?_) ?_ ?_
              rotate_left
              · show Act.put _ (some 17) _ = _
                simp only [Act.put, List.setIfInBounds_toArray, List.set_cons_zero, List.set_cons_succ, i64_w, i32_w]
                rfl
              refine one_ (i := 8) (N := some 20) #[true, true, true, true, true, true, true, true, true, true, false, false, false, false, false] rfl rfl (one_of HT_.out (by kernel_rfl)) (by decide) (fun K hK => ?_)
              refine goes_ Try.func31 (by kernel_rfl) rfl #[.slice A215_5 ((rd_T41 l0 x8_1).f5).length c215_5] (by rfl) rfl rfl (z_13) ?_
              with_reducible refine (ih k1 (by have := HK1.out; omega) _ _ ((rd_T41 l0 x8_1).f5) t223 _ ?side1 ?side2 A7.out).mono ?_
              (case side1 => repeat (first | exact (Kd.C_below HR215_5.out HB.out) | (with_reducible refine Kd.C_alloc ?_ _) | (with_reducible refine Kd.C_drewN ?_ _) | (with_reducible refine Kd.C_drew ?_)))
              (case side2 => exact HC215_5.out)
              rintro e w15 ⟨v224, rfl, ho0, hb⟩; refine ⟨_, rfl, ?_⟩; have n0_ := A_0 (Kd.R_elder' (z_23) (Kd.R_base ho0) hb); have n1_ := A_0 (Kd.R_below (z_30) hb); have n2_ := A_0 (Kd.R_elder' (z_31) (Kd.R_base ho0) hb); have n3_ := A_0 (Kd.R_lower (Kd.R_newB (Kd.R_new' (Kd.R_new' (Kd.R_new' ho0 (Kd.R_lt (z_23))) (Kd.R_lt (z_30))) (Kd.R_lt (z_31))) (g := gb216) (o := .cells #[.int .i64 ((rd_T41 l0 x8_1).f0), .string ((rd_T41 l0 x8_1).f1), .int .i64 ((rd_T41 l0 x8_1).f2), .slice A215_3 ((rd_T41 l0 x8_1).f3).length c215_3, .slice A215_4 ((rd_T41 l0 x8_1).f4).length c215_4, .slice A215_5 ((rd_T41 l0 x8_1).f5).length c215_5] 41 (0, 0)) (z_29)) (below_size (z_28))); have n4_ := A_0 (blk_below (g := gb216) (o := .cells #[.int .i64 ((rd_T41 l0 x8_1).f0), .string ((rd_T41 l0 x8_1).f1), .int .i64 ((rd_T41 l0 x8_1).f2), .slice A215_3 ((rd_T41 l0 x8_1).f3).length c215_3, .slice A215_4 ((rd_T41 l0 x8_1).f4).length c215_4, .slice A215_5 ((rd_T41 l0 x8_1).f5).length c215_5] 41 (0, 0)) (z_29) hb); have n5_ := A_0 (below_step (z_28) hb); clear HO_3; clear HO219; clear HO222; clear BK216; clear HB; have HO_3 := n0_; have HO219 := n1_; have HO222 := n2_; have HO225 := n3_; have BK216 := n4_; have HB := n5_; clear n0_ n1_ n2_ n3_ n4_ n5_
              (try clear hb)
              (try clear hb2)
              (try clear hk)
              (try clear hi)
              (try clear ho0)
              obtain ⟨Ao16, co16, eo16⟩ := Kd.R_slice HO219.out
              (first | subst eo16 | (injection eo16 with f1_ f2_ f3_; have f4_ := f1_.symm; have f5_ := f3_.symm; clear f1_ f2_ f3_; subst f4_; subst f5_))
              obtain ⟨Ao18, co18, eo18⟩ := Kd.R_slice HO222.out
              (first | subst eo18 | (injection eo18 with f1_ f2_ f3_; have f4_ := f1_.symm; have f5_ := f3_.symm; clear f1_ f2_ f3_; subst f4_; subst f5_))
              obtain ⟨Ao20, co20, eo20⟩ := Kd.R_slice HO225.out
              (first | subst eo20 | (injection eo20 with f1_ f2_ f3_; have f4_ := f1_.symm; have f5_ := f3_.symm; clear f1_ f2_ f3_; subst f4_; subst f5_))
              refine hK.out _ _ ⟨(blk_cell BK216.out 0).trans rfl, (blk_cell BK216.out 1).trans rfl, (blk_cell BK216.out 2).trans rfl, (blk_cell BK216.out 3).trans rfl, (blk_cell BK216.out 4).trans rfl, (blk_cell BK216.out 5).trans rfl⟩ (fun hHeld => ?_)
              clear hK K; refine norm_ (a' := ?_) ?_ ?_
              rotate_left
              · show Act.put _ (some 20) _ = _
                simp only [Act.put, List.setIfInBounds_toArray, List.set_cons_zero, List.set_cons_succ, i64_w, i32_w]
                rfl
              refine last_ (i := 10) (N := none) #[true, true, true, true, true, true, true, true, true, true, true, false, false, false, false] rfl rfl (one_of HT_.out (by kernel_rfl)) (by decide) (fun K hK => ?_)
              have hs17 : w15.cell? ⟨gb216, 3, none⟩ = some (.slice A215_3 ((rd_T41 l0 x8_1).f3).length c215_3) := (blk_cell BK216.out 3).trans rfl; have hfs17 := blk_frozen BK216.out 3; refine skip_ (w1 := ?_) (by rfl) rfl ?_ ?_
              rotate_left
              · go_simp
                rfl
              refine hK.out _ _ ?_
              clear hK K; refine pure_ (i := 11) (N := some 22) (v := ?_) (a' := ?_) #[true, true, true, true, true, true, true, true, true, true, true, true, false, false, false] rfl rfl (any_of HT_.out (by kernel_rfl)) (fun _ _ _ h => h) (Or.inl ⟨by rfl, ?_⟩) ?_ ?_
              rotate_left
              · intro w'
                go_simp
                with_reducible rfl
              rotate_left
              · simp only [Act.put, List.setIfInBounds_toArray, List.set_cons_zero, List.set_cons_succ, i64_w, i32_w]
                rfl
              refine last_ (i := 12) (N := none) #[true, true, true, true, true, true, true, true, true, true, true, true, true, false, false] rfl rfl (one_of HT_.out (by kernel_rfl)) (by decide) (fun K hK => ?_)
              have hs19 : w15.cell? ⟨gb216, 4, none⟩ = some (.slice A215_4 ((rd_T41 l0 x8_1).f4).length c215_4) := (blk_cell BK216.out 4).trans rfl; have hfs19 := blk_frozen BK216.out 4; refine skip_ (w1 := ?_) (by rfl) rfl ?_ ?_
              rotate_left
              · go_simp
                rfl
              refine hK.out _ _ ?_
              clear hK K; refine pure_ (i := 13) (N := some 23) (v := ?_) (a' := ?_) #[true, true, true, true, true, true, true, true, true, true, true, true, true, true, false] rfl rfl (any_of HT_.out (by kernel_rfl)) (fun _ _ _ h => h) (Or.inl ⟨by rfl, ?_⟩) ?_ ?_
              rotate_left
              · intro w'
                go_simp
                with_reducible rfl
              rotate_left
              · simp only [Act.put, List.setIfInBounds_toArray, List.set_cons_zero, List.set_cons_succ, i64_w, i32_w]
                rfl
              refine last_ (i := 14) (N := none) #[true, true, true, true, true, true, true, true, true, true, true, true, true, true, true] rfl rfl (one_of HT_.out (by kernel_rfl)) (by decide) (fun K hK => ?_)
              have hs21 : w15.cell? ⟨gb216, 5, none⟩ = some (.slice A215_5 ((rd_T41 l0 x8_1).f5).length c215_5) := (blk_cell BK216.out 5).trans rfl; have hfs21 := blk_frozen BK216.out 5; refine skip_ (w1 := ?_) (by rfl) rfl ?_ ?_
              rotate_left
              · go_simp
                rfl
              refine hK.out _ _ ?_
              clear hK K; refine done_ (done_of HT_.out (by kernel_rfl)) ?_; have n0_ : Aside0 (Kd.R k41 41 (((w15.setCell ⟨gb216, 3, none⟩ (.slice Ao16 t217.length co16)).setCell ⟨gb216, 4, none⟩ (.slice Ao18 t220.length co18)).setCell ⟨gb216, 5, none⟩ (.slice Ao20 t223.length co20)) w.heap.size (fun k_ => some k_ ≠ (.slice Ao16 t217.length co16 : Value).ownBlock ∧ some k_ ≠ (.slice Ao18 t220.length co18 : Value).ownBlock ∧ some k_ ≠ (.slice Ao20 t223.length co20 : Value).ownBlock ∧ k_ ≠ gb216) u3 x3_1) := ⟨by (with_reducible repeat (first | apply Kd.R_alloc | apply Kd.R_drewN | apply Kd.R_drew)); exact Kd.R_mono (Kd.R_far (p := ⟨gb216, 5, none⟩) (Kd.R_far (p := ⟨gb216, 4, none⟩) (Kd.R_far (p := ⟨gb216, 3, none⟩) (Kd.R_mono HO_3.out (fun k_ hk => (⟨hk, hk.1.1.1⟩ : _ ∧ k_ ≠ gb216))) (fun _ hk => hk.2) (.slice Ao16 t217.length co16)) (fun _ hk => hk.2) (.slice Ao18 t220.length co18)) (fun _ hk => hk.2) (.slice Ao20 t223.length co20)) (fun _ hk => ⟨hk.1.1.1.2, ⟨hk.1.1.2, ⟨hk.1.2, hk.1.1.1.1⟩⟩⟩)⟩
              have n1_ : Aside0 (Kd.R k38 38 (((w15.setCell ⟨gb216, 3, none⟩ (.slice Ao16 t217.length co16)).setCell ⟨gb216, 4, none⟩ (.slice Ao18 t220.length co18)).setCell ⟨gb216, 5, none⟩ (.slice Ao20 t223.length co20)) w.heap.size (fun _ => True) (.slice Ao16 t217.length co16) t217) := ⟨by (with_reducible repeat (first | apply Kd.R_alloc | apply Kd.R_drewN | apply Kd.R_drew)); exact Kd.R_mono (Kd.R_far (p := ⟨gb216, 5, none⟩) (Kd.R_far (p := ⟨gb216, 4, none⟩) (Kd.R_far (p := ⟨gb216, 3, none⟩) (Kd.R_types HO219.out BK216.out (by decide)) (fun _ hk => hk.2) (.slice Ao16 t217.length co16)) (fun _ hk => hk.2) (.slice Ao18 t220.length co18)) (fun _ hk => hk.2) (.slice Ao20 t223.length co20)) (fun _ hk => trivial)⟩
              have n2_ : Aside0 (Kd.R k41 41 (((w15.setCell ⟨gb216, 3, none⟩ (.slice Ao16 t217.length co16)).setCell ⟨gb216, 4, none⟩ (.slice Ao18 t220.length co18)).setCell ⟨gb216, 5, none⟩ (.slice Ao20 t223.length co20)) w.heap.size (fun k_ => some k_ ≠ (u3 : Value).ownBlock ∧ some k_ ≠ (.slice Ao16 t217.length co16 : Value).ownBlock ∧ some k_ ≠ (.slice Ao20 t223.length co20 : Value).ownBlock ∧ k_ ≠ gb216) (.slice Ao18 t220.length co18) t220) := ⟨by (with_reducible repeat (first | apply Kd.R_alloc | apply Kd.R_drewN | apply Kd.R_drew)); exact Kd.R_mono (Kd.R_far (p := ⟨gb216, 5, none⟩) (Kd.R_far (p := ⟨gb216, 4, none⟩) (Kd.R_far (p := ⟨gb216, 3, none⟩) (Kd.R_mono HO222.out (fun k_ hk => (⟨hk, hk.1.2⟩ : _ ∧ k_ ≠ gb216))) (fun _ hk => hk.2) (.slice Ao16 t217.length co16)) (fun _ hk => hk.2) (.slice Ao18 t220.length co18)) (fun _ hk => hk.2) (.slice Ao20 t223.length co20)) (fun _ hk => ⟨hk.1.1.1.1.2, ⟨hk.1.1.1.2, ⟨hk.1.2, hk.1.1.2⟩⟩⟩)⟩
              have n3_ : Aside0 (Kd.R k41 41 (((w15.setCell ⟨gb216, 3, none⟩ (.slice Ao16 t217.length co16)).setCell ⟨gb216, 4, none⟩ (.slice Ao18 t220.length co18)).setCell ⟨gb216, 5, none⟩ (.slice Ao20 t223.length co20)) w.heap.size (fun k_ => some k_ ≠ (u3 : Value).ownBlock ∧ some k_ ≠ (.slice Ao16 t217.length co16 : Value).ownBlock ∧ some k_ ≠ (.slice Ao18 t220.length co18 : Value).ownBlock ∧ k_ ≠ gb216) (.slice Ao20 t223.length co20) t223) := ⟨by (with_reducible repeat (first | apply Kd.R_alloc | apply Kd.R_drewN | apply Kd.R_drew)); exact Kd.R_mono (Kd.R_far (p := ⟨gb216, 5, none⟩) (Kd.R_far (p := ⟨gb216, 4, none⟩) (Kd.R_far (p := ⟨gb216, 3, none⟩) (Kd.R_mono HO225.out (fun k_ hk => (⟨hk, hk.2⟩ : _ ∧ k_ ≠ gb216))) (fun _ hk => hk.2) (.slice Ao16 t217.length co16)) (fun _ hk => hk.2) (.slice Ao18 t220.length co18)) (fun _ hk => hk.2) (.slice Ao20 t223.length co20)) (fun _ hk => ⟨hk.1.1.1.1.2, ⟨hk.1.1.1.2, ⟨hk.1.1.2, hk.1.2⟩⟩⟩)⟩
              have n4_ : Aside0 ((((w15.setCell ⟨gb216, 3, none⟩ (.slice Ao16 t217.length co16)).setCell ⟨gb216, 4, none⟩ (.slice Ao18 t220.length co18)).setCell ⟨gb216, 5, none⟩ (.slice Ao20 t223.length co20)).heap[gb216]? = some (.cells #[.int .i64 ((rd_T41 l0 x8_1).f0), .string ((rd_T41 l0 x8_1).f1), .int .i64 ((rd_T41 l0 x8_1).f2), .slice Ao16 t217.length co16, .slice Ao18 t220.length co18, .slice Ao20 t223.length co20] 41 (0, 0))) := ⟨by (with_reducible repeat (first | refine blk_drewN ?_ _ | refine blk_drew ?_ | refine blk_alloc ?_ _)); refine blk_put (cs := #[.int .i64 ((rd_T41 l0 x8_1).f0), .string ((rd_T41 l0 x8_1).f1), .int .i64 ((rd_T41 l0 x8_1).f2), .slice Ao16 t217.length co16, .slice Ao18 t220.length co18, .slice A215_5 ((rd_T41 l0 x8_1).f5).length c215_5]) ?_ 5 _ rfl; (with_reducible repeat (first | refine blk_drewN ?_ _ | refine blk_drew ?_ | refine blk_alloc ?_ _)); refine blk_put (cs := #[.int .i64 ((rd_T41 l0 x8_1).f0), .string ((rd_T41 l0 x8_1).f1), .int .i64 ((rd_T41 l0 x8_1).f2), .slice Ao16 t217.length co16, .slice A215_4 ((rd_T41 l0 x8_1).f4).length c215_4, .slice A215_5 ((rd_T41 l0 x8_1).f5).length c215_5]) ?_ 4 _ rfl; (with_reducible repeat (first | refine blk_drewN ?_ _ | refine blk_drew ?_ | refine blk_alloc ?_ _)); refine blk_put (cs := #[.int .i64 ((rd_T41 l0 x8_1).f0), .string ((rd_T41 l0 x8_1).f1), .int .i64 ((rd_T41 l0 x8_1).f2), .slice A215_3 ((rd_T41 l0 x8_1).f3).length c215_3, .slice A215_4 ((rd_T41 l0 x8_1).f4).length c215_4, .slice A215_5 ((rd_T41 l0 x8_1).f5).length c215_5]) ?_ 3 _ rfl; (with_reducible repeat (first | refine blk_drewN ?_ _ | refine blk_drew ?_ | refine blk_alloc ?_ _)); exact BK216.out⟩
              have n5_ : Aside0 (Below w.heap.size w (((w15.setCell ⟨gb216, 3, none⟩ (.slice Ao16 t217.length co16)).setCell ⟨gb216, 4, none⟩ (.slice Ao18 t220.length co18)).setCell ⟨gb216, 5, none⟩ (.slice Ao20 t223.length co20))) := ⟨z_28⟩
              (try clear HO_3)
              (try clear HO219)
              (try clear HO222)
              (try clear HO225)
              (try clear BK216)
              (try clear HB)
              generalize (((w15.setCell ⟨gb216, 3, none⟩ (.slice Ao16 t217.length co16)).setCell ⟨gb216, 4, none⟩ (.slice Ao18 t220.length co18)).setCell ⟨gb216, 5, none⟩ (.slice Ao20 t223.length co20)) = w22 at n0_ n1_ n2_ n3_ n4_ n5_ ⊢; have HO_3 := n0_; have HO219 := n1_; have HO222 := n2_; have HO225 := n3_; have BK216 := n4_; have HB := n5_; clear n0_ n1_ n2_ n3_ n4_ n5_; obtain ⟨hcz23_0, hcz23_1, hcz23_2, hcz23_3, hcz23_4, hcz23_5⟩ := blkc6 BK216.out; obtain ⟨hfz23_0, hfz23_1, hfz23_2, hfz23_3, hfz23_4, hfz23_5⟩ := blkf6 BK216.out
              try go_wp2_with (first | ((with_reducible refine gate_builtin (b := .append) (xs := #[.tmp 24, .tmp 26]) rfl ?_); at_builtin; refine Kd.R_append k41 (w0 := w) w.heap.size rfl (.tmp 24) (.tmp 26) 22 41 (.agg #[(.int .i64 0), (.string ⟨#[]⟩), (.int .i64 0), (.slice none 0 0), (.slice none 0 0), (.slice none 0 0)]) 104 rfl Try.underlying22 info41 rfl (by decide) (by omega) u3 x3_1 (⟨(rd_T41 l0 x8_1).f0, (rd_T41 l0 x8_1).f1, (rd_T41 l0 x8_1).f2, t217, t220, t223⟩ : S41) [.int .i64 ((rd_T41 l0 x8_1).f0), .string ((rd_T41 l0 x8_1).f1), .int .i64 ((rd_T41 l0 x8_1).f2), .slice Ao16 t217.length co16, .slice Ao18 t220.length co18, .slice Ao20 t223.length co20] (fun k_ => k_ ≠ gb216) (fun k_ => ((fun k_ => k_ ≠ gb216)) k_ ∧ some k_ ≠ (u3 : Value).ownBlock) rfl rfl ?aP (fun _ hk => hk) ?aF ?aO ?aB ?aS ?aL ?_; (case aP => exact k41_mkM _ _ _ (⟨(rd_T41 l0 x8_1).f0, (rd_T41 l0 x8_1).f1, (rd_T41 l0 x8_1).f2, t217, t220, t223⟩ : S41) (Kd.R_mono (Kd.R_types (Kd.R_apart' (HO219.out) (Kd.R_typed HO_3.out) (by decide)) BK216.out (by decide)) (fun k_ hk => ⟨hk.2, hk.1.2⟩)) (Kd.R_mono (HO222.out) (fun k_ hk => ⟨hk.2.2.2, hk.1⟩)) (Kd.R_mono (HO225.out) (fun k_ hk => ⟨hk.2.2.2, hk.1⟩))); (case aB => exact (z_28)); (case aF => exact (fun k_ hk => Kd.freshB (g := gb216) (o := .cells #[.int .i64 ((rd_T41 l0 x8_1).f0), .string ((rd_T41 l0 x8_1).f1), .int .i64 ((rd_T41 l0 x8_1).f2), .slice Ao16 t217.length co16, .slice Ao18 t220.length co18, .slice Ao20 t223.length co20] 41 (0, 0)) (z_29) k_ hk)); (case aO => exact (by (with_reducible repeat (first | apply Kd.R_alloc | apply Kd.R_drewN | apply Kd.R_drew)); exact Kd.R_mono HO_3.out (fun _ hk => hk.2.2.2))); (case aS => exact (below_size (z_28))); (case aL => have := LMc8.out; omega); intro v227 w24 ho hb hg hat; rw [← Ny226.out] at ho; have n0_ := A_0 (blk_grown (g := gb216) (o := .cells #[.int .i64 ((rd_T41 l0 x8_1).f0), .string ((rd_T41 l0 x8_1).f1), .int .i64 ((rd_T41 l0 x8_1).f2), .slice Ao16 t217.length co16, .slice Ao18 t220.length co18, .slice Ao20 t223.length co20] 41 (0, 0)) (z_29) hg (Kd.R_away HO_3.out (fun _ hk => hk.2.2.2))); have n1_ := A_0 (hb); have n2_ := A_0 (ho); clear BK216; clear HB; clear HO_3; clear HO219; clear HO222; clear HO225; have BK216 := n0_; have HB := n1_; have HO228 := n2_; clear n0_ n1_ n2_; clear ho hb hg hat))
              go_roundg k1
              case measure => have := HK1.out; omega
              case rel => exact ⟨(y226), (wrap64 (x8_1 + 1)), (z_8), H', ⟨by have := HK1.out; omega⟩, ⟨by (with_reducible repeat (first | apply Kd.R_alloc | apply Kd.R_drewN | apply Kd.R_drew)); exact Kd.R_mono HO228.out (fun _ hk => trivial)⟩, ⟨z_28⟩⟩
            · rw [if_neg c8] at H
              exact z_15
          · rw [if_neg c4] at H
            exact z_15
        · rw [if_neg c3] at H
          exact z_15
      · rw [if_neg c2] at H
        have c2b0 : decide (x8_1 < (l0.length : Int)) = false := decide_eq_false c2; clear c2; obtain rfl := Option.some.inj H
        go_wp2
        go_ret
        exact ⟨_, z_16, z_23, z_6⟩
end Go.Proofs.Ytobkdmmnbnpemaa.K
