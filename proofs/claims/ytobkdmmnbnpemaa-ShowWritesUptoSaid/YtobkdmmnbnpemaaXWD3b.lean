/- The reference's Expr, walked by hand. -/
import Derived.Test.YtobkdmmnbnpemaaXWD3a
import Derived.Lib.Hide
import Derived.Deep.RegionHeld3
import Derived.Outline
namespace Go.Proofs.Ytobkdmmnbnpemaa.K
open Go.RowKit Go.Proofs.YtobkdmmnbnpemaaW.PrintWords Go.Proofs.YtobkdmmnbnpemaaW.PrintLast Go.Proofs.YtobkdmmnbnpemaaW.PrintMore
attribute [local go_sem] max2_int min2_int max_two min_two max_three min_three max_four min_four
set_option linter.unusedVariables false
set_option linter.unusedSimpArgs false
set_option maxHeartbeats 8000000 in
set_option maxRecDepth 100000 in
theorem ref_k5b (K d : Nat) (RC0 : RefC (refE K d)) (BC0 : BrkC (refE K d)) (a1 : Int) (a2 : ByteArray) (l : List S38) (L : Nat) (A : Option Addr) (c : Nat) (x : ByteArray) (w : World) (hL : l.length = L) (hC : Kd.C k38 w A l.length l) (hc : L ≤ c)  (h0 : 2 ≤ l.length) (sg : ByteArray) (lv : Int) (hsg : outriderref05_Sign.f 18 = some (sg, lv))  (h : (refE K d (rd_T38 l 0)).bind (fun x => (refE K d (rd_T38 l 1)).bind fun y => szd (⟨#[109, 97, 120, 40]⟩ ++ x ++ ⟨#[44, 32]⟩ ++ y ++ ⟨#[41]⟩)) = some x) :
    Calls Try.prog 24 #[.agg #[.int .i64 5, .int .i64 a1, .string a2, .int .i64 18, .slice A L c]] w (XPost x w) := by
  obtain ⟨y0, hy0, h⟩ := Option.bind_eq_some_iff.mp h
  obtain ⟨y1, hy1, h⟩ := Option.bind_eq_some_iff.mp h
  have hys0 := refE_sz K d _ _ hy0
  have hys1 := refE_sz K d _ _ hy1
  obtain ⟨rfl, hs⟩ := szd_get h
  clear h
  have hu38 := Try.underlying38
  have HB := Aside0.mk (Below.refl w.heap.size w)
  have HC := Aside0.mk hC
  have HL := Aside0.mk hL
  have HCC := Aside0.mk hc
  have HY0 := Aside0.mk hy0
  have HY1 := Aside0.mk hy1
  have RC := Aside0.mk RC0
  have BC := Aside0.mk BC0
  have HSG := Aside0.mk hsg
  have e0_q : (0 : Int) < (l.length : Int) := by have := HL.out; omega
  obtain ⟨ad0, A0, c0, e0_E, hx00, hx01, hx02, hx03, hx04, e0_l, e0_C⟩ := at_T38 HC.out 0 (by decide) e0_q
  subst e0_E
  (try rw [show ((0 : Int)).toNat = 0 from rfl] at hx00)
  (try rw [show 0 * 5 = 0 from rfl] at hx00)
  (try rw [Addr.add_zero'] at hx00)
  (try rw [show ((0 : Int)).toNat = 0 from rfl] at hx01)
  (try rw [show 0 * 5 = 0 from rfl] at hx01)
  (try rw [Addr.add_zero'] at hx01)
  (try rw [show ((0 : Int)).toNat = 0 from rfl] at hx02)
  (try rw [show 0 * 5 = 0 from rfl] at hx02)
  (try rw [Addr.add_zero'] at hx02)
  (try rw [show ((0 : Int)).toNat = 0 from rfl] at hx03)
  (try rw [show 0 * 5 = 0 from rfl] at hx03)
  (try rw [Addr.add_zero'] at hx03)
  (try rw [show ((0 : Int)).toNat = 0 from rfl] at hx04)
  (try rw [show 0 * 5 = 0 from rfl] at hx04)
  (try rw [Addr.add_zero'] at hx04)
  have HC0 := Aside0.mk e0_C
  have HL0 := Aside0.mk e0_l
  clear e0_C e0_l
  have e0_p := eq_true e0_q
  rw [HL.out] at e0_p
  have e0_n : (0 < L) = True := eq_true (by have := HL.out; omega)
  have e1_q : (1 : Int) < (l.length : Int) := by have := HL.out; omega
  obtain ⟨ad1, A1, c1, e1_E, hx10, hx11, hx12, hx13, hx14, e1_l, e1_C⟩ := at_T38 HC.out 1 (by decide) e1_q
  have e1_E' := Option.some.inj e1_E
  subst e1_E'
  clear e1_E
  (try rw [show ((1 : Int)).toNat = 1 from rfl] at hx10)
  (try rw [show 1 * 5 = 5 from rfl] at hx10)
  (try rw [show ((1 : Int)).toNat = 1 from rfl] at hx11)
  (try rw [show 1 * 5 = 5 from rfl] at hx11)
  (try rw [show ((1 : Int)).toNat = 1 from rfl] at hx12)
  (try rw [show 1 * 5 = 5 from rfl] at hx12)
  (try rw [show ((1 : Int)).toNat = 1 from rfl] at hx13)
  (try rw [show 1 * 5 = 5 from rfl] at hx13)
  (try rw [show ((1 : Int)).toNat = 1 from rfl] at hx14)
  (try rw [show 1 * 5 = 5 from rfl] at hx14)
  have HC1 := Aside0.mk e1_C
  have HL1 := Aside0.mk e1_l
  clear e1_C e1_l
  have e1_p := eq_true e1_q
  rw [HL.out] at e1_p
  have e1_n : (1 < L) = True := eq_true (by have := HL.out; omega)
  replace hx10 : w.cell? ⟨ad0.block, ad0.off + 5, none⟩ = some (.int .i64 (rd_T38 l 1).f0) := hx10
  replace hx11 : w.cell? ⟨ad0.block, ad0.off + 5 + 1, none⟩ = some (.int .i64 (rd_T38 l 1).f1) := hx11
  replace hx12 : w.cell? ⟨ad0.block, ad0.off + 5 + 2, none⟩ = some (.string (rd_T38 l 1).f2) := hx12
  replace hx13 : w.cell? ⟨ad0.block, ad0.off + 5 + 3, none⟩ = some (.int .i64 (rd_T38 l 1).f3) := hx13
  replace hx14 : w.cell? ⟨ad0.block, ad0.off + 5 + 4, none⟩ = some (.slice A1 (rd_T38 l 1).f4.length c1) := hx14
  clear hy0 hy1 hL hC hc RC0 BC0 hsg e0_q e1_q h0
  go_enter Try.func24, Try.ntmps24
  go_upto_region 15 with (first | ((with_reducible refine gate_dst (N := 1) rfl ?_); refine box_event ?hg (N := 1) ?hd (cs := #[.int .i64 5, .int .i64 a1, .string a2, .int .i64 18, .slice (some ad0) L c]) (t := 38) ?hr ?_; (case hd => rfl); (case hg => rfl); (case hr => first | (go_simp; done) | (go_simp; rfl)); intro gb hg w2 hbox hb; have n0_ := Aside0.mk (below_step HB.out hb); have n3_ := Aside0.mk hbox; clear HB hb hbox hg; have HB := n0_; have BK := n3_; clear n0_ n3_; obtain ⟨hcz0, hcz1, hcz2, hcz3, hcz4⟩ := blkc5 BK.out; obtain ⟨hfz0, hfz1, hfz2, hfz3, hfz4⟩ := blkf5 BK.out; replace hx00 := (HB.out.cell (World.block_lt_of_cell? w _ hx00)).trans hx00; replace hx01 := (HB.out.cell (World.block_lt_of_cell? w _ hx01)).trans hx01; replace hx02 := (HB.out.cell (World.block_lt_of_cell? w _ hx02)).trans hx02; replace hx03 := (HB.out.cell (World.block_lt_of_cell? w _ hx03)).trans hx03; replace hx04 := (HB.out.cell (World.block_lt_of_cell? w _ hx04)).trans hx04; replace hx10 := (HB.out.cell (World.block_lt_of_cell? w _ hx10)).trans hx10; replace hx11 := (HB.out.cell (World.block_lt_of_cell? w _ hx11)).trans hx11; replace hx12 := (HB.out.cell (World.block_lt_of_cell? w _ hx12)).trans hx12; replace hx13 := (HB.out.cell (World.block_lt_of_cell? w _ hx13)).trans hx13; replace hx14 := (HB.out.cell (World.block_lt_of_cell? w _ hx14)).trans hx14))
  go_cut [4, 5] (fun s4 s5 wx => ∃ g0 g1, s4 = .pointer (some ⟨g0, 0, none⟩) ∧ s5 = .pointer (some ⟨g1, 0, none⟩) ∧ Aside0 (wx.heap[g0]? = some (.cells #[.int .i64 (rd_T38 l 0).f0, .int .i64 (rd_T38 l 0).f1, .string (rd_T38 l 0).f2, .int .i64 (rd_T38 l 0).f3, .slice A0 (rd_T38 l 0).f4.length c0] 38 (0, 0))) ∧ Aside0 (wx.heap[g1]? = some (.cells #[.int .i64 (rd_T38 l 1).f0, .int .i64 (rd_T38 l 1).f1, .string (rd_T38 l 1).f2, .int .i64 (rd_T38 l 1).f3, .slice A1 (rd_T38 l 1).f4.length c1] 38 (0, 0))) ∧ Aside0 (wx.heap[gb]? = some (.cells #[.int .i64 5, .int .i64 a1, .string a2, .int .i64 18, .slice (some ad0) L c] 38 (0, 0))) ∧ Aside0 (Below w.heap.size w wx))
  case first =>
    go_region_held3 (fun w' => w'.cell? ⟨gb, 4, none⟩ = some (.slice (some ad0) L c) ∧ w'.cell? ad0 = some (.int .i64 (rd_T38 l 0).f0) ∧ w'.cell? ⟨ad0.block, ad0.off + 1, none⟩ = some (.int .i64 (rd_T38 l 0).f1) ∧ w'.cell? ⟨ad0.block, ad0.off + 2, none⟩ = some (.string (rd_T38 l 0).f2) ∧ w'.cell? ⟨ad0.block, ad0.off + 3, none⟩ = some (.int .i64 (rd_T38 l 0).f3) ∧ w'.cell? ⟨ad0.block, ad0.off + 4, none⟩ = some (.slice A0 (rd_T38 l 0).f4.length c0) ∧ w'.cell? ⟨ad0.block, ad0.off + 5, none⟩ = some (.int .i64 (rd_T38 l 1).f0) ∧ w'.cell? ⟨ad0.block, ad0.off + 5 + 1, none⟩ = some (.int .i64 (rd_T38 l 1).f1) ∧ w'.cell? ⟨ad0.block, ad0.off + 5 + 2, none⟩ = some (.string (rd_T38 l 1).f2) ∧ w'.cell? ⟨ad0.block, ad0.off + 5 + 3, none⟩ = some (.int .i64 (rd_T38 l 1).f3) ∧ w'.cell? ⟨ad0.block, ad0.off + 5 + 4, none⟩ = some (.slice A1 (rd_T38 l 1).f4.length c1)) (go_keep) (fail)
    all_goals (go_wp2_with fail; go_meet; exact ⟨_, _, rfl, rfl, ⟨(by (with_reducible repeat (first | refine blk_drewN ?_ _ | refine blk_drew ?_ | exact blk_newk (by simp) | refine blk_alloc ?_ _)); try exact BK.out)⟩, ⟨(by (with_reducible repeat (first | refine blk_drewN ?_ _ | refine blk_drew ?_ | exact blk_newk (by simp) | refine blk_alloc ?_ _)); try exact BK.out)⟩, ⟨(by (with_reducible repeat (first | refine blk_drewN ?_ _ | refine blk_drew ?_ | exact blk_newk (by simp) | refine blk_alloc ?_ _)); try exact BK.out)⟩, ⟨by repeat (first | (with_reducible first | exact HB.out | apply below_alloc | apply pw_below_drewN | apply below_drew1) | exact HB.out)⟩⟩)
  case rest =>
    obtain ⟨g0, g1, rfl, rfl, BE0, BE1, BKN, HBN⟩ := hcut
    clear HB BK hcz0 hfz0 hcz1 hfz1 hcz2 hfz2 hcz3 hfz3 hcz4 hfz4 hx00 hx01 hx02 hx03 hx04 hx10 hx11 hx12 hx13 hx14
    have HB := HBN
    have BK := BKN
    clear HBN BKN
    obtain ⟨hcz0, hcz1, hcz2, hcz3, hcz4⟩ := blkc5 BK.out
    obtain ⟨hfz0, hfz1, hfz2, hfz3, hfz4⟩ := blkf5 BK.out
    go_wp2_with fail
    (with_reducible refine (outriderref05_Sign.calls 18 sg lv _ HSG.out).mono ?_)
    rintro e w5 ⟨rfl, hd5⟩
    have hb5 := hd5.below
    have n0_ := Aside0.mk (below_step (by repeat (first | (with_reducible first | exact HB.out | apply below_alloc | apply pw_below_drewN | apply below_drew1) | exact HB.out)) hb5)
    have n1_ := Aside0.mk (blk_below (show _ = some (.cells #[.int .i64 (rd_T38 l 0).f0, .int .i64 (rd_T38 l 0).f1, .string (rd_T38 l 0).f2, .int .i64 (rd_T38 l 0).f3, .slice A0 (rd_T38 l 0).f4.length c0] 38 (0, 0)) from (by (with_reducible repeat (first | refine blk_drewN ?_ _ | refine blk_drew ?_ | refine blk_alloc ?_ _)); exact BE0.out)) hb5)
    have n2_ := Aside0.mk (blk_below (show _ = some (.cells #[.int .i64 (rd_T38 l 1).f0, .int .i64 (rd_T38 l 1).f1, .string (rd_T38 l 1).f2, .int .i64 (rd_T38 l 1).f3, .slice A1 (rd_T38 l 1).f4.length c1] 38 (0, 0)) from (by (with_reducible repeat (first | refine blk_drewN ?_ _ | refine blk_drew ?_ | refine blk_alloc ?_ _)); exact BE1.out)) hb5)
    have n3_ := Aside0.mk (blk_below (show _ = some (.cells #[.int .i64 5, .int .i64 a1, .string a2, .int .i64 18, .slice (some ad0) L c] 38 (0, 0)) from (by (with_reducible repeat (first | refine blk_drewN ?_ _ | refine blk_drew ?_ | refine blk_alloc ?_ _)); exact BK.out)) hb5)
    clear HB BE0 BE1 BK hb5 hd5 hcz0 hfz0 hcz1 hfz1 hcz2 hfz2 hcz3 hfz3 hcz4 hfz4
    have HB := n0_
    have BE0 := n1_
    have BE1 := n2_
    have BK := n3_
    clear n0_ n1_ n2_ n3_
    obtain ⟨hcz0, hcz1, hcz2, hcz3, hcz4⟩ := blkc5 BK.out
    obtain ⟨hfz0, hfz1, hfz2, hfz3, hfz4⟩ := blkf5 BK.out
    obtain ⟨kb00_, kb01_, kb02_, kb03_, kb04_⟩ := blkc5 BE0.out
    obtain ⟨kb10_, kb11_, kb12_, kb13_, kb14_⟩ := blkc5 BE1.out
    have z0_ : (9223372036854775807 < 4 + y0.size) = False := eq_false (by omega)
    have z1_ : (9223372036854775807 < 4 + y0.size + 2) = False := eq_false (by omega)
    have z2_ : (9223372036854775807 < 4 + y0.size + 2 + y1.size) = False := eq_false (by omega)
    have z3_ : (9223372036854775807 < 4 + y0.size + 2 + y1.size + 1) = False := eq_false (by omega)
    go_wp2
    go_region_held3 (fun w' => w'.cell? ⟨g0, 0, none⟩ = some (.int .i64 (rd_T38 l 0).f0) ∧ w'.cell? ⟨g0, 1, none⟩ = some (.int .i64 (rd_T38 l 0).f1) ∧ w'.cell? ⟨g0, 2, none⟩ = some (.string (rd_T38 l 0).f2) ∧ w'.cell? ⟨g0, 3, none⟩ = some (.int .i64 (rd_T38 l 0).f3) ∧ w'.cell? ⟨g0, 4, none⟩ = some (.slice A0 (rd_T38 l 0).f4.length c0) ∧ w'.cell? ⟨g1, 0, none⟩ = some (.int .i64 (rd_T38 l 1).f0) ∧ w'.cell? ⟨g1, 1, none⟩ = some (.int .i64 (rd_T38 l 1).f1) ∧ w'.cell? ⟨g1, 2, none⟩ = some (.string (rd_T38 l 1).f2) ∧ w'.cell? ⟨g1, 3, none⟩ = some (.int .i64 (rd_T38 l 1).f3) ∧ w'.cell? ⟨g1, 4, none⟩ = some (.slice A1 (rd_T38 l 1).f4.length c1)) (go_keep) (first | (go_at_call 24; (with_reducible refine (RC.out.use (rd_T38 l 0).f0 (rd_T38 l 0).f1 (rd_T38 l 0).f2 (rd_T38 l 0).f3 (rd_T38 l 0).f4 (rd_T38 l 0).f4.length A0 c0 y0 _ (show _ = some _ from by rw [eta38]; exact HY0.out) rfl (by (with_reducible repeat (first | refine Kd.C_alloc ?_ _ | refine Kd.C_drewN ?_ _ | refine Kd.C_drew ?_)); exact Kd.C_below HC0.out HB.out) HL0.out).mono ?_); rintro e w6 ⟨rfl, hb7⟩; have b0_ := blk_below (show _ = some (.cells #[.int .i64 (rd_T38 l 0).f0, .int .i64 (rd_T38 l 0).f1, .string (rd_T38 l 0).f2, .int .i64 (rd_T38 l 0).f3, .slice A0 (rd_T38 l 0).f4.length c0] 38 (0, 0)) from (by (with_reducible repeat (first | refine blk_drewN ?_ _ | refine blk_drew ?_ | refine blk_alloc ?_ _)); exact BE0.out)) hb7; have kb00_ : w6.cell? ⟨g0, 0, none⟩ = some (.int .i64 (rd_T38 l 0).f0) := (blk_cell b0_ 0).trans rfl; have kb01_ : w6.cell? ⟨g0, 1, none⟩ = some (.int .i64 (rd_T38 l 0).f1) := (blk_cell b0_ 1).trans rfl; have kb02_ : w6.cell? ⟨g0, 2, none⟩ = some (.string (rd_T38 l 0).f2) := (blk_cell b0_ 2).trans rfl; have kb03_ : w6.cell? ⟨g0, 3, none⟩ = some (.int .i64 (rd_T38 l 0).f3) := (blk_cell b0_ 3).trans rfl; have kb04_ : w6.cell? ⟨g0, 4, none⟩ = some (.slice A0 (rd_T38 l 0).f4.length c0) := (blk_cell b0_ 4).trans rfl; have b1_ := blk_below (show _ = some (.cells #[.int .i64 (rd_T38 l 1).f0, .int .i64 (rd_T38 l 1).f1, .string (rd_T38 l 1).f2, .int .i64 (rd_T38 l 1).f3, .slice A1 (rd_T38 l 1).f4.length c1] 38 (0, 0)) from (by (with_reducible repeat (first | refine blk_drewN ?_ _ | refine blk_drew ?_ | refine blk_alloc ?_ _)); exact BE1.out)) hb7; have kb10_ : w6.cell? ⟨g1, 0, none⟩ = some (.int .i64 (rd_T38 l 1).f0) := (blk_cell b1_ 0).trans rfl; have kb11_ : w6.cell? ⟨g1, 1, none⟩ = some (.int .i64 (rd_T38 l 1).f1) := (blk_cell b1_ 1).trans rfl; have kb12_ : w6.cell? ⟨g1, 2, none⟩ = some (.string (rd_T38 l 1).f2) := (blk_cell b1_ 2).trans rfl; have kb13_ : w6.cell? ⟨g1, 3, none⟩ = some (.int .i64 (rd_T38 l 1).f3) := (blk_cell b1_ 3).trans rfl; have kb14_ : w6.cell? ⟨g1, 4, none⟩ = some (.slice A1 (rd_T38 l 1).f4.length c1) := (blk_cell b1_ 4).trans rfl; have n0_ := Aside0.mk (below_step (by repeat (first | (with_reducible first | exact HB.out | apply below_alloc | apply pw_below_drewN | apply below_drew1) | exact HB.out)) hb7); have n1_ := Aside0.mk b0_; have n2_ := Aside0.mk b1_; clear HB BE0 BE1 hb7 b0_ b1_; have HB := n0_; have BE0 := n1_; have BE1 := n2_; clear n0_ n1_ n2_) | (go_at_call 24; (with_reducible refine (RC.out.use (rd_T38 l 1).f0 (rd_T38 l 1).f1 (rd_T38 l 1).f2 (rd_T38 l 1).f3 (rd_T38 l 1).f4 (rd_T38 l 1).f4.length A1 c1 y1 _ (show _ = some _ from by rw [eta38]; exact HY1.out) rfl (by (with_reducible repeat (first | refine Kd.C_alloc ?_ _ | refine Kd.C_drewN ?_ _ | refine Kd.C_drew ?_)); exact Kd.C_below HC1.out HB.out) HL1.out).mono ?_); rintro e w6 ⟨rfl, hb7⟩; have b0_ := blk_below (show _ = some (.cells #[.int .i64 (rd_T38 l 0).f0, .int .i64 (rd_T38 l 0).f1, .string (rd_T38 l 0).f2, .int .i64 (rd_T38 l 0).f3, .slice A0 (rd_T38 l 0).f4.length c0] 38 (0, 0)) from (by (with_reducible repeat (first | refine blk_drewN ?_ _ | refine blk_drew ?_ | refine blk_alloc ?_ _)); exact BE0.out)) hb7; have kb00_ : w6.cell? ⟨g0, 0, none⟩ = some (.int .i64 (rd_T38 l 0).f0) := (blk_cell b0_ 0).trans rfl; have kb01_ : w6.cell? ⟨g0, 1, none⟩ = some (.int .i64 (rd_T38 l 0).f1) := (blk_cell b0_ 1).trans rfl; have kb02_ : w6.cell? ⟨g0, 2, none⟩ = some (.string (rd_T38 l 0).f2) := (blk_cell b0_ 2).trans rfl; have kb03_ : w6.cell? ⟨g0, 3, none⟩ = some (.int .i64 (rd_T38 l 0).f3) := (blk_cell b0_ 3).trans rfl; have kb04_ : w6.cell? ⟨g0, 4, none⟩ = some (.slice A0 (rd_T38 l 0).f4.length c0) := (blk_cell b0_ 4).trans rfl; have b1_ := blk_below (show _ = some (.cells #[.int .i64 (rd_T38 l 1).f0, .int .i64 (rd_T38 l 1).f1, .string (rd_T38 l 1).f2, .int .i64 (rd_T38 l 1).f3, .slice A1 (rd_T38 l 1).f4.length c1] 38 (0, 0)) from (by (with_reducible repeat (first | refine blk_drewN ?_ _ | refine blk_drew ?_ | refine blk_alloc ?_ _)); exact BE1.out)) hb7; have kb10_ : w6.cell? ⟨g1, 0, none⟩ = some (.int .i64 (rd_T38 l 1).f0) := (blk_cell b1_ 0).trans rfl; have kb11_ : w6.cell? ⟨g1, 1, none⟩ = some (.int .i64 (rd_T38 l 1).f1) := (blk_cell b1_ 1).trans rfl; have kb12_ : w6.cell? ⟨g1, 2, none⟩ = some (.string (rd_T38 l 1).f2) := (blk_cell b1_ 2).trans rfl; have kb13_ : w6.cell? ⟨g1, 3, none⟩ = some (.int .i64 (rd_T38 l 1).f3) := (blk_cell b1_ 3).trans rfl; have kb14_ : w6.cell? ⟨g1, 4, none⟩ = some (.slice A1 (rd_T38 l 1).f4.length c1) := (blk_cell b1_ 4).trans rfl; have n0_ := Aside0.mk (below_step (by repeat (first | (with_reducible first | exact HB.out | apply below_alloc | apply pw_below_drewN | apply below_drew1) | exact HB.out)) hb7); have n1_ := Aside0.mk b0_; have n2_ := Aside0.mk b1_; clear HB BE0 BE1 hb7 b0_ b1_; have HB := n0_; have BE0 := n1_; have BE1 := n2_; clear n0_ n1_ n2_))
    all_goals (go_wp2; go_ret; exact ⟨rfl, by repeat (first | (with_reducible first | exact HB.out | apply below_alloc | apply pw_below_drewN | apply below_drew1) | exact HB.out)⟩)
end Go.Proofs.Ytobkdmmnbnpemaa.K
