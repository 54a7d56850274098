/- The chapter's example, walked by hand. -/
import Derived.Test.YtobkdmmnbnpemaaXWE0
import Derived.Deep.RegionHeld3
namespace Go.Proofs.Ytobkdmmnbnpemaa.K
open Go.RowKit Go.Proofs.YtobkdmmnbnpemaaW.PrintWords Go.Proofs.YtobkdmmnbnpemaaW.PrintLast Go.Proofs.YtobkdmmnbnpemaaW.PrintMore
attribute [local go_sem] max2_int min2_int max_two min_two max_three min_three max_four min_four
set_option linter.unusedVariables false
set_option linter.unusedSimpArgs false
theorem text_sX {W : World} {gA gB gC gD : Nat} (hD : W.heap[gD]? = some (.cells #[.int .i64 4, .string ⟨#[]⟩, .int .i64 0, .slice (some ⟨gC, 0, none⟩) 1 1, .slice none 0 0, .slice none 0 0] 41 (0, 0))) (hC : W.heap[gC]? = some (.cells #[.int .i64 5, .int .i64 0, .string ⟨#[]⟩, .int .i64 2, .slice (some ⟨gA, 0, none⟩) 2 2] 38 (0, 0))) (hA : W.heap[gA]? = some (.cells #[.int .i64 1, .int .i64 1, .string ⟨#[]⟩, .int .i64 0, .slice none 0 0, .int .i64 5, .int .i64 0, .string ⟨#[]⟩, .int .i64 2, .slice (some ⟨gB, 0, none⟩) 2 2] 38 (0, 0))) (h : W.heap[gB]? = some (.cells #[.int .i64 1, .int .i64 2, .string ⟨#[]⟩, .int .i64 0, .slice none 0 0, .int .i64 1, .int .i64 3, .string ⟨#[]⟩, .int .i64 0, .slice none 0 0] 38 (0, 0))) :
    Calls Try.prog 16 #[.slice (some ⟨gD, 0, none⟩) 1 1] W (TPost ⟨#[101, 109, 105, 116, 32, 49, 32, 45, 32, 40, 50, 32, 45, 32, 51, 41, 59, 10]⟩ 0 W) :=
  text_calls 1 (by omega) (fE 60) (stc_emit 60) [sX] 1 _ 1 tX W sX_text rfl (C_sX hD hC hA h) (by omega) (by omega) (by decide) sX_right _ 0 (.inr ⟨by decide, rfl, rfl⟩)
theorem expr_eX {W : World} {gA gB : Nat} (hA : W.heap[gA]? = some (.cells #[.int .i64 1, .int .i64 1, .string ⟨#[]⟩, .int .i64 0, .slice none 0 0, .int .i64 5, .int .i64 0, .string ⟨#[]⟩, .int .i64 2, .slice (some ⟨gB, 0, none⟩) 2 2] 38 (0, 0))) (h : W.heap[gB]? = some (.cells #[.int .i64 1, .int .i64 2, .string ⟨#[]⟩, .int .i64 0, .slice none 0 0, .int .i64 1, .int .i64 3, .string ⟨#[]⟩, .int .i64 0, .slice none 0 0] 38 (0, 0))) :
    Calls Try.prog 23 #[.agg #[.int .i64 5, .int .i64 0, .string ⟨#[]⟩, .int .i64 2, .slice (some ⟨gA, 0, none⟩) 2 2]] W fun e w' => e = .returned (.string ⟨#[49, 32, 45, 32, 40, 50, 32, 45, 32, 51, 41]⟩) ∧ Below W.heap.size W w' :=
  show_Expr.calls 60 5 0 ⟨#[]⟩ 2 (some ⟨gA, 0, none⟩) 2 [eN 1, eY] _ W (C_eX hA h) (by decide) eX_text
def AliveQ (w : World) (e : Ending) (w' : World) : Prop := e = .returned (.bool true) ∧ Below w.heap.size w w'
set_option maxHeartbeats 8000000 in
set_option maxRecDepth 100000 in
theorem alive_calls (w : World) : Calls Try.prog 18 #[] w (AliveQ w) := by
  have hu38 := Try.underlying38
  have hu41 := Try.underlying41
  have HB := Aside0.mk (Below.refl w.heap.size w)
  go_enter Try.func18, Try.ntmps18
  go_upto_region 2 with fail
  go_cut [2] (fun s2 wx => ∃ ge gA gB, s2 = .pointer (some ⟨ge, 0, none⟩) ∧ wx.heap[ge]? = some (.cells #[.int .i64 5, .int .i64 0, .string ⟨#[]⟩, .int .i64 2, .slice (some ⟨gA, 0, none⟩) 2 2] 38 (0, 0)) ∧ wx.heap[gA]? = some (.cells #[.int .i64 1, .int .i64 1, .string ⟨#[]⟩, .int .i64 0, .slice none 0 0, .int .i64 5, .int .i64 0, .string ⟨#[]⟩, .int .i64 2, .slice (some ⟨gB, 0, none⟩) 2 2] 38 (0, 0)) ∧ wx.heap[gB]? = some (.cells #[.int .i64 1, .int .i64 2, .string ⟨#[]⟩, .int .i64 0, .slice none 0 0, .int .i64 1, .int .i64 3, .string ⟨#[]⟩, .int .i64 0, .slice none 0 0] 38 (0, 0)) ∧ Below w.heap.size w wx)
  case first =>
    go_region_held3 (fun w' => w'.cell? ⟨w.heap.size, 0, none⟩ = some (.int .i64 1) ∧ w'.cell? ⟨w.heap.size, 1, none⟩ = some (.int .i64 1) ∧ w'.cell? ⟨w.heap.size, 2, none⟩ = some (.string ⟨#[]⟩) ∧ w'.cell? ⟨w.heap.size, 3, none⟩ = some (.int .i64 0) ∧ w'.cell? ⟨w.heap.size, 4, none⟩ = some (.slice none 0 0) ∧ w'.cell? ⟨w.heap.size, 5, none⟩ = some (.int .i64 1) ∧ w'.cell? ⟨w.heap.size, 6, none⟩ = some (.int .i64 2) ∧ w'.cell? ⟨w.heap.size, 7, none⟩ = some (.string ⟨#[]⟩) ∧ w'.cell? ⟨w.heap.size, 8, none⟩ = some (.int .i64 0) ∧ w'.cell? ⟨w.heap.size, 9, none⟩ = some (.slice none 0 0) ∧ w'.cell? ⟨w.heap.size, 10, none⟩ = some (.int .i64 1) ∧ w'.cell? ⟨w.heap.size, 11, none⟩ = some (.int .i64 3) ∧ w'.cell? ⟨w.heap.size, 12, none⟩ = some (.string ⟨#[]⟩) ∧ w'.cell? ⟨w.heap.size, 13, none⟩ = some (.int .i64 0) ∧ w'.cell? ⟨w.heap.size, 14, none⟩ = some (.slice none 0 0)) (go_keep) (fail)
    all_goals (go_wp2_with fail; go_meet; exact ⟨_, _, _, rfl, (by repeat (first | exact blk_new' (by simp) | refine blk_drewN ?_ _ | refine blk_drew ?_ | refine blk_alloc ?_ _)), (by repeat (first | exact blk_new' (by simp) | refine blk_drewN ?_ _ | refine blk_drew ?_ | refine blk_alloc ?_ _)), (by repeat (first | exact blk_new' (by simp) | refine blk_drewN ?_ _ | refine blk_drew ?_ | refine blk_alloc ?_ _)), (by repeat (first | (with_reducible first | exact HB.out | apply below_alloc | apply pw_below_drewN | apply below_drew1) | exact HB.out))⟩)
  case rest =>
    obtain ⟨ge, gA, gB, rfl, h1, h2, h3, h4⟩ := hcut
    have HE := Aside0.mk h1
    have HA := Aside0.mk h2
    have HBB := Aside0.mk h3
    clear HB
    have HB := Aside0.mk h4
    have hz0 : wc.cell? ⟨ge, 0, none⟩ = some (.int .i64 5) := (blk_cell h1 0).trans rfl
    have hz1 : wc.cell? ⟨ge, 1, none⟩ = some (.int .i64 0) := (blk_cell h1 1).trans rfl
    have hz2 : wc.cell? ⟨ge, 2, none⟩ = some (.string ⟨#[]⟩) := (blk_cell h1 2).trans rfl
    have hz3 : wc.cell? ⟨ge, 3, none⟩ = some (.int .i64 2) := (blk_cell h1 3).trans rfl
    have hz4 : wc.cell? ⟨ge, 4, none⟩ = some (.slice (some ⟨gA, 0, none⟩) 2 2) := (blk_cell h1 4).trans rfl
    clear h1 h2 h3 h4
    go_wp2_with fail
    (with_reducible refine (text_sX (gD := wc.heap.size + 1) (gC := wc.heap.size) (blk_new' (by simp)) (blk_alloc (blk_new _ _) _) (blk_alloc (blk_alloc HA.out _) _) (blk_alloc (blk_alloc HBB.out _) _)).mono ?_)
    rintro e w5 ⟨rfl, hb5⟩
    have n0_ := Aside0.mk (below_step (by repeat (first | (with_reducible first | exact HB.out | apply below_alloc | apply pw_below_drewN | apply below_drew1) | exact HB.out)) hb5)
    have n1_ := Aside0.mk (blk_below (blk_alloc (blk_alloc HE.out _) _) hb5)
    have n2_ := Aside0.mk (blk_below (blk_alloc (blk_alloc HA.out _) _) hb5)
    have n3_ := Aside0.mk (blk_below (blk_alloc (blk_alloc HBB.out _) _) hb5)
    clear HB HE HA HBB hb5 hz0 hz1 hz2 hz3 hz4
    have HB := n0_
    have HE := n1_
    have HA := n2_
    have HBB := n3_
    clear n0_ n1_ n2_ n3_
    go_wp2_with fail
    (with_reducible refine (show_Sign.calls 60 9 ⟨#[60, 60]⟩ 6 _ shl_sign).mono ?_)
    rintro e w6 ⟨rfl, hb5⟩
    have n0_ := Aside0.mk (below_step (by repeat (first | (with_reducible first | exact HB.out | apply below_alloc | apply pw_below_drewN | apply below_drew1) | exact HB.out)) hb5)
    have n1_ := Aside0.mk (blk_below HE.out hb5)
    have n2_ := Aside0.mk (blk_below HA.out hb5)
    have n3_ := Aside0.mk (blk_below HBB.out hb5)
    clear HB HE HA HBB hb5
    have HB := n0_
    have HE := n1_
    have HA := n2_
    have HBB := n3_
    clear n0_ n1_ n2_ n3_
    obtain ⟨hz0, hz1, hz2, hz3, hz4⟩ := blkc5 HE.out
    go_wp2_with fail
    (with_reducible refine (expr_eX HA.out HBB.out).mono ?_)
    rintro e w7 ⟨rfl, hb5⟩
    have n0_ := Aside0.mk (below_step (by repeat (first | (with_reducible first | exact HB.out | apply below_alloc | apply pw_below_drewN | apply below_drew1) | exact HB.out)) hb5)
    clear HB hb5
    have HB := n0_
    go_wp2
    go_ret
    exact ⟨rfl, by repeat (first | (with_reducible first | exact HB.out | apply below_alloc | apply pw_below_drewN | apply below_drew1) | exact HB.out)⟩
end Go.Proofs.Ytobkdmmnbnpemaa.K
