/- The reference's Expr, walked by hand. -/
import Derived.Test.YtobkdmmnbnpemaaXWD1
import Derived.Lib.Hide
import Derived.Deep.RegionHeld3
import Derived.Outline
namespace Go.Proofs.Ytobkdmmnbnpemaa.K
open Go.RowKit Go.Proofs.YtobkdmmnbnpemaaW.PrintWords Go.Proofs.YtobkdmmnbnpemaaW.PrintLast Go.Proofs.YtobkdmmnbnpemaaW.PrintMore
attribute [local go_sem] max2_int min2_int max_two min_two max_three min_three max_four min_four
set_option linter.unusedVariables false
set_option linter.unusedSimpArgs false
theorem refE_sz (K : Nat) : ∀ (d : Nat) (e : S38) (y : ByteArray), refE K d e = some y → y.size ≤ 1000000000
  | 0, e, y, h => by simp [refE] at h
  | d + 1, e, y, h => by
    unfold refE at h
    by_cases q1 : e.f0 = 1
    · rw [if_pos q1] at h
      obtain ⟨_, _, h⟩ := Option.bind_eq_some_iff.mp h
      exact (szd_get h).2
    rw [if_neg q1] at h
    by_cases q2 : e.f0 = 2
    · rw [if_pos q2] at h
      exact (szd_get h).2
    rw [if_neg q2] at h
    by_cases q3 : e.f4.length = 0
    · rw [if_pos q3] at h
      simp at h
    rw [if_neg q3] at h
    by_cases q4 : e.f0 = 3
    · rw [if_pos q4] at h
      obtain ⟨_, _, h⟩ := Option.bind_eq_some_iff.mp h
      exact (szd_get h).2
    rw [if_neg q4] at h
    by_cases q5 : e.f0 = 4
    · rw [if_pos q5] at h
      obtain ⟨_, _, h⟩ := Option.bind_eq_some_iff.mp h
      exact (szd_get h).2
    rw [if_neg q5] at h
    by_cases q6 : e.f4.length = 1 ∨ e.f0 ≠ 5
    · rw [if_pos q6] at h
      simp at h
    rw [if_neg q6] at h
    obtain ⟨sg, _, h⟩ := Option.bind_eq_some_iff.mp h
    by_cases q7 : e.f3 = 17
    · rw [if_pos q7] at h
      obtain ⟨_, _, h⟩ := Option.bind_eq_some_iff.mp h
      obtain ⟨_, _, h⟩ := Option.bind_eq_some_iff.mp h
      exact (szd_get h).2
    rw [if_neg q7] at h
    by_cases q8 : e.f3 = 18
    · rw [if_pos q8] at h
      obtain ⟨_, _, h⟩ := Option.bind_eq_some_iff.mp h
      obtain ⟨_, _, h⟩ := Option.bind_eq_some_iff.mp h
      exact (szd_get h).2
    rw [if_neg q8] at h
    split at h
    · obtain ⟨_, _, h⟩ := Option.bind_eq_some_iff.mp h
      obtain ⟨_, _, h⟩ := Option.bind_eq_some_iff.mp h
      exact (szd_get h).2
    · simp at h
theorem refB_sz {K d : Nat} {e : S38} {n : Int} {y : ByteArray} (h : refB (refE K d) e n = some y) : y.size ≤ 1000000000 := by
  unfold refB at h
  obtain ⟨_, _, h⟩ := Option.bind_eq_some_iff.mp h
  obtain ⟨z, hz, h⟩ := Option.bind_eq_some_iff.mp h
  split at h
  · exact (szd_get h).2
  · have := Option.some.inj h; subst this; exact refE_sz K d _ _ hz
theorem BrkC.use {f : S38 → Option ByteArray} (h : BrkC f) : ∀ (a0 a1 : Int) (a2 : ByteArray) (a3 : Int) (l : List S38) (L : Nat) (A : Option Addr) (c : Nat) (least : Int) (x : ByteArray) (w : World), refB f ⟨a0, a1, a2, a3, l⟩ least = some x → (∀ y, f ⟨a0, a1, a2, a3, l⟩ = some y → y.size ≤ 1000000000) → l.length = L → Kd.C k38 w A l.length l → L ≤ c →
  Calls Try.prog 44 #[.agg #[.int .i64 a0, .int .i64 a1, .string a2, .int .i64 a3, .slice A L c], .int .i64 least] w (XPost x w) := h
set_option maxHeartbeats 8000000 in
set_option maxRecDepth 100000 in
theorem ref_k1 (K : Nat) (a1 : Int) (a2 : ByteArray) (a3 : Int) (l : List S38) (L : Nat) (A : Option Addr) (c : Nat) (x : ByteArray) (w : World) (hL : l.length = L) (hC : Kd.C k38 w A l.length l) (hc : L ≤ c) (h : (outriderref01_Text.f K a1).bind szd = some x) :
    Calls Try.prog 24 #[.agg #[.int .i64 1, .int .i64 a1, .string a2, .int .i64 a3, .slice A L c]] w (XPost x w) := by
  obtain ⟨y, hy, h⟩ := Option.bind_eq_some_iff.mp h
  obtain ⟨rfl, hs⟩ := szd_get h
  clear h
  have hu38 := Try.underlying38
  have HB := Aside0.mk (Below.refl w.heap.size w)
  have HC := Aside0.mk hC
  have HL := Aside0.mk hL
  have HCC := Aside0.mk hc
  have HY := Aside0.mk hy
  clear hy hL hC hc
  go_enter Try.func24, Try.ntmps24
  go_wp2_with (first | ((with_reducible refine gate_dst (N := 1) rfl ?_); refine box_event ?hg (N := 1) ?hd (cs := #[.int .i64 1, .int .i64 a1, .string a2, .int .i64 a3, .slice A L c]) (t := 38) ?hr ?_; (case hd => rfl); (case hg => rfl); (case hr => first | (go_simp; done) | (go_simp; rfl)); intro gb hg w2 hbox hb; have n0_ := Aside0.mk (below_step HB.out hb); have n3_ := Aside0.mk hbox; clear HB hb hbox hg; have HB := n0_; have BK := n3_; clear n0_ n3_; obtain ⟨hcz0, hcz1, hcz2, hcz3, hcz4⟩ := blkc5 BK.out; obtain ⟨hfz0, hfz1, hfz2, hfz3, hfz4⟩ := blkf5 BK.out))
  (with_reducible refine (outriderref01_Text.calls K a1 x _ HY.out).mono ?_)
  rintro e w5 ⟨rfl, hb5⟩
  have n0_ := Aside0.mk (below_step (by repeat (first | (with_reducible first | exact HB.out | apply below_alloc | apply pw_below_drewN | apply below_drew1) | exact HB.out)) hb5)
  clear HB hb5
  have HB := n0_
  go_wp2
  go_ret
  exact ⟨rfl, by repeat (first | (with_reducible first | exact HB.out | apply below_alloc | apply pw_below_drewN | apply below_drew1) | exact HB.out)⟩
set_option maxHeartbeats 8000000 in
set_option maxRecDepth 100000 in
theorem ref_k2 (a1 : Int) (a2 : ByteArray) (a3 : Int) (l : List S38) (L : Nat) (A : Option Addr) (c : Nat) (x : ByteArray) (w : World) (hL : l.length = L) (hC : Kd.C k38 w A l.length l) (hc : L ≤ c) (h : szd a2 = some x) :
    Calls Try.prog 24 #[.agg #[.int .i64 2, .int .i64 a1, .string a2, .int .i64 a3, .slice A L c]] w (XPost x w) := by
  obtain ⟨rfl, hs⟩ := szd_get h
  clear h
  have hu38 := Try.underlying38
  have HB := Aside0.mk (Below.refl w.heap.size w)
  have HC := Aside0.mk hC
  have HL := Aside0.mk hL
  have HCC := Aside0.mk hc
  clear hL hC hc
  go_enter Try.func24, Try.ntmps24
  go_wp2_with (first | ((with_reducible refine gate_dst (N := 1) rfl ?_); refine box_event ?hg (N := 1) ?hd (cs := #[.int .i64 2, .int .i64 a1, .string a2, .int .i64 a3, .slice A L c]) (t := 38) ?hr ?_; (case hd => rfl); (case hg => rfl); (case hr => first | (go_simp; done) | (go_simp; rfl)); intro gb hg w2 hbox hb; have n0_ := Aside0.mk (below_step HB.out hb); have n3_ := Aside0.mk hbox; clear HB hb hbox hg; have HB := n0_; have BK := n3_; clear n0_ n3_; obtain ⟨hcz0, hcz1, hcz2, hcz3, hcz4⟩ := blkc5 BK.out; obtain ⟨hfz0, hfz1, hfz2, hfz3, hfz4⟩ := blkf5 BK.out))
  go_ret
  exact ⟨rfl, by repeat (first | (with_reducible first | exact HB.out | apply below_alloc | apply pw_below_drewN | apply below_drew1) | exact HB.out)⟩
set_option maxHeartbeats 8000000 in
set_option maxRecDepth 100000 in
theorem ref_k3 (K d : Nat) (RC0 : RefC (refE K d)) (a1 : Int) (a2 : ByteArray) (a3 : Int) (l : List S38) (L : Nat) (A : Option Addr) (c : Nat) (x : ByteArray) (w : World) (hL : l.length = L) (hC : Kd.C k38 w A l.length l) (hc : L ≤ c) (h0 : l.length ≠ 0) (h : (refE K d (rd_T38 l 0)).bind (fun y => szd (⟨#[109, 91]⟩ ++ y ++ ⟨#[93]⟩)) = some x) :
    Calls Try.prog 24 #[.agg #[.int .i64 3, .int .i64 a1, .string a2, .int .i64 a3, .slice A L c]] w (XPost x w) := by
  obtain ⟨y, hy, h⟩ := Option.bind_eq_some_iff.mp h
  have hys := refE_sz K d _ _ hy
  obtain ⟨rfl, hs⟩ := szd_get h
  clear h
  have hu38 := Try.underlying38
  have HB := Aside0.mk (Below.refl w.heap.size w)
  have HC := Aside0.mk hC
  have HL := Aside0.mk hL
  have HCC := Aside0.mk hc
  have HY0 := Aside0.mk hy
  have RC := Aside0.mk RC0
  have e0_q : (0 : Int) < (l.length : Int) := by have := HL.out; omega
  obtain ⟨ad0, A0, c0, e0_E, hx00, hx01, hx02, hx03, hx04, e0_l, e0_C⟩ := at_T38 HC.out 0 (by decide) e0_q
  subst e0_E
  (try rw [show ((0 : Int)).toNat = 0 from rfl] at hx00)
  (try rw [show 0 * 5 = 0 from rfl] at hx00)
  (try rw [Addr.add_zero'] at hx00)
  (try rw [show ((0 : Int)).toNat = 0 from rfl] at hx01)
  (try rw [show 0 * 5 = 0 from rfl] at hx01)
  (try rw [Addr.add_zero'] at hx01)
  (try rw [show ((0 : Int)).toNat = 0 from rfl] at hx02)
  (try rw [show 0 * 5 = 0 from rfl] at hx02)
  (try rw [Addr.add_zero'] at hx02)
  (try rw [show ((0 : Int)).toNat = 0 from rfl] at hx03)
  (try rw [show 0 * 5 = 0 from rfl] at hx03)
  (try rw [Addr.add_zero'] at hx03)
  (try rw [show ((0 : Int)).toNat = 0 from rfl] at hx04)
  (try rw [show 0 * 5 = 0 from rfl] at hx04)
  (try rw [Addr.add_zero'] at hx04)
  have HC0 := Aside0.mk e0_C
  have HL0 := Aside0.mk e0_l
  clear e0_C e0_l
  have e0_p := eq_true e0_q
  rw [HL.out] at e0_p
  have e0_n : (0 < L) = True := eq_true (by have := HL.out; omega)
  clear hy hL hC hc RC0 e0_q h0
  go_enter Try.func24, Try.ntmps24
  go_wp2_with (first | ((with_reducible refine gate_dst (N := 1) rfl ?_); refine box_event ?hg (N := 1) ?hd (cs := #[.int .i64 3, .int .i64 a1, .string a2, .int .i64 a3, .slice (some ad0) L c]) (t := 38) ?hr ?_; (case hd => rfl); (case hg => rfl); (case hr => first | (go_simp; done) | (go_simp; rfl)); intro gb hg w2 hbox hb; have n0_ := Aside0.mk (below_step HB.out hb); have n3_ := Aside0.mk hbox; clear HB hb hbox hg; have HB := n0_; have BK := n3_; clear n0_ n3_; obtain ⟨hcz0, hcz1, hcz2, hcz3, hcz4⟩ := blkc5 BK.out; obtain ⟨hfz0, hfz1, hfz2, hfz3, hfz4⟩ := blkf5 BK.out; replace hx00 := (HB.out.cell (World.block_lt_of_cell? w _ hx00)).trans hx00; replace hx01 := (HB.out.cell (World.block_lt_of_cell? w _ hx01)).trans hx01; replace hx02 := (HB.out.cell (World.block_lt_of_cell? w _ hx02)).trans hx02; replace hx03 := (HB.out.cell (World.block_lt_of_cell? w _ hx03)).trans hx03; replace hx04 := (HB.out.cell (World.block_lt_of_cell? w _ hx04)).trans hx04))
  (with_reducible refine (RC.out.use (rd_T38 l 0).f0 (rd_T38 l 0).f1 (rd_T38 l 0).f2 (rd_T38 l 0).f3 (rd_T38 l 0).f4 (rd_T38 l 0).f4.length A0 c0 y _ (show _ = some _ from by rw [eta38]; exact HY0.out) rfl (by (with_reducible repeat (first | refine Kd.C_alloc ?_ _ | refine Kd.C_drewN ?_ _ | refine Kd.C_drew ?_)); exact Kd.C_below HC0.out HB.out) HL0.out).mono ?_)
  rintro e w5 ⟨rfl, hb5⟩
  have n0_ := Aside0.mk (below_step (by repeat (first | (with_reducible first | exact HB.out | apply below_alloc | apply pw_below_drewN | apply below_drew1) | exact HB.out)) hb5)
  clear HB hb5
  have HB := n0_
  go_wp2
  go_ret
  exact ⟨rfl, by repeat (first | (with_reducible first | exact HB.out | apply below_alloc | apply pw_below_drewN | apply below_drew1) | exact HB.out)⟩
set_option maxHeartbeats 8000000 in
set_option maxRecDepth 100000 in
theorem ref_k4a (K d : Nat) (BC0 : BrkC (refE K d)) (a1 : Int) (a2 : ByteArray) (l : List S38) (L : Nat) (A : Option Addr) (c : Nat) (x : ByteArray) (w : World) (hL : l.length = L) (hC : Kd.C k38 w A l.length l) (hc : L ≤ c)  (h0 : l.length ≠ 0) (h : (refB (refE K d) (rd_T38 l 0) 99).bind (fun y => szd (⟨#[126]⟩ ++ y)) = some x) :
    Calls Try.prog 24 #[.agg #[.int .i64 4, .int .i64 a1, .string a2, .int .i64 20, .slice A L c]] w (XPost x w) := by
  obtain ⟨y, hy, h⟩ := Option.bind_eq_some_iff.mp h
  have hys := refB_sz hy
  obtain ⟨rfl, hs⟩ := szd_get h
  clear h
  have hu38 := Try.underlying38
  have HB := Aside0.mk (Below.refl w.heap.size w)
  have HC := Aside0.mk hC
  have HL := Aside0.mk hL
  have HCC := Aside0.mk hc
  have HY0 := Aside0.mk hy
  have BC := Aside0.mk BC0
  have e0_q : (0 : Int) < (l.length : Int) := by have := HL.out; omega
  obtain ⟨ad0, A0, c0, e0_E, hx00, hx01, hx02, hx03, hx04, e0_l, e0_C⟩ := at_T38 HC.out 0 (by decide) e0_q
  subst e0_E
  (try rw [show ((0 : Int)).toNat = 0 from rfl] at hx00)
  (try rw [show 0 * 5 = 0 from rfl] at hx00)
  (try rw [Addr.add_zero'] at hx00)
  (try rw [show ((0 : Int)).toNat = 0 from rfl] at hx01)
  (try rw [show 0 * 5 = 0 from rfl] at hx01)
  (try rw [Addr.add_zero'] at hx01)
  (try rw [show ((0 : Int)).toNat = 0 from rfl] at hx02)
  (try rw [show 0 * 5 = 0 from rfl] at hx02)
  (try rw [Addr.add_zero'] at hx02)
  (try rw [show ((0 : Int)).toNat = 0 from rfl] at hx03)
  (try rw [show 0 * 5 = 0 from rfl] at hx03)
  (try rw [Addr.add_zero'] at hx03)
  (try rw [show ((0 : Int)).toNat = 0 from rfl] at hx04)
  (try rw [show 0 * 5 = 0 from rfl] at hx04)
  (try rw [Addr.add_zero'] at hx04)
  have HC0 := Aside0.mk e0_C
  have HL0 := Aside0.mk e0_l
  clear e0_C e0_l
  have e0_p := eq_true e0_q
  rw [HL.out] at e0_p
  have e0_n : (0 < L) = True := eq_true (by have := HL.out; omega)
  clear hy hL hC hc BC0 e0_q h0
  go_enter Try.func24, Try.ntmps24
  go_wp2_with (first | ((with_reducible refine gate_dst (N := 1) rfl ?_); refine box_event ?hg (N := 1) ?hd (cs := #[.int .i64 4, .int .i64 a1, .string a2, .int .i64 20, .slice (some ad0) L c]) (t := 38) ?hr ?_; (case hd => rfl); (case hg => rfl); (case hr => first | (go_simp; done) | (go_simp; rfl)); intro gb hg w2 hbox hb; have n0_ := Aside0.mk (below_step HB.out hb); have n3_ := Aside0.mk hbox; clear HB hb hbox hg; have HB := n0_; have BK := n3_; clear n0_ n3_; obtain ⟨hcz0, hcz1, hcz2, hcz3, hcz4⟩ := blkc5 BK.out; obtain ⟨hfz0, hfz1, hfz2, hfz3, hfz4⟩ := blkf5 BK.out; replace hx00 := (HB.out.cell (World.block_lt_of_cell? w _ hx00)).trans hx00; replace hx01 := (HB.out.cell (World.block_lt_of_cell? w _ hx01)).trans hx01; replace hx02 := (HB.out.cell (World.block_lt_of_cell? w _ hx02)).trans hx02; replace hx03 := (HB.out.cell (World.block_lt_of_cell? w _ hx03)).trans hx03; replace hx04 := (HB.out.cell (World.block_lt_of_cell? w _ hx04)).trans hx04))
  (with_reducible refine (BC.out.use (rd_T38 l 0).f0 (rd_T38 l 0).f1 (rd_T38 l 0).f2 (rd_T38 l 0).f3 (rd_T38 l 0).f4 (rd_T38 l 0).f4.length A0 c0 99 y _ (show _ = some _ from by rw [eta38]; exact HY0.out) (fun z hz => refE_sz K d _ _ hz) rfl (by (with_reducible repeat (first | refine Kd.C_alloc ?_ _ | refine Kd.C_drewN ?_ _ | refine Kd.C_drew ?_)); exact Kd.C_below HC0.out HB.out) HL0.out).mono ?_)
  rintro e w5 ⟨rfl, hb5⟩
  have n0_ := Aside0.mk (below_step (by repeat (first | (with_reducible first | exact HB.out | apply below_alloc | apply pw_below_drewN | apply below_drew1) | exact HB.out)) hb5)
  clear HB hb5
  have HB := n0_
  go_wp2
  go_ret
  exact ⟨rfl, by repeat (first | (with_reducible first | exact HB.out | apply below_alloc | apply pw_below_drewN | apply below_drew1) | exact HB.out)⟩
set_option maxHeartbeats 8000000 in
set_option maxRecDepth 100000 in
theorem ref_k4b (K d : Nat) (BC0 : BrkC (refE K d)) (a1 : Int) (a2 : ByteArray) (l : List S38) (L : Nat) (A : Option Addr) (c : Nat) (x : ByteArray) (w : World) (hL : l.length = L) (hC : Kd.C k38 w A l.length l) (hc : L ≤ c)  (h0 : l.length ≠ 0) (h : (refB (refE K d) (rd_T38 l 0) 99).bind (fun y => szd (⟨#[45]⟩ ++ y)) = some x) :
    Calls Try.prog 24 #[.agg #[.int .i64 4, .int .i64 a1, .string a2, .int .i64 19, .slice A L c]] w (XPost x w) := by
  obtain ⟨y, hy, h⟩ := Option.bind_eq_some_iff.mp h
  have hys := refB_sz hy
  obtain ⟨rfl, hs⟩ := szd_get h
  clear h
  have hu38 := Try.underlying38
  have HB := Aside0.mk (Below.refl w.heap.size w)
  have HC := Aside0.mk hC
  have HL := Aside0.mk hL
  have HCC := Aside0.mk hc
  have HY0 := Aside0.mk hy
  have BC := Aside0.mk BC0
  have e0_q : (0 : Int) < (l.length : Int) := by have := HL.out; omega
  obtain ⟨ad0, A0, c0, e0_E, hx00, hx01, hx02, hx03, hx04, e0_l, e0_C⟩ := at_T38 HC.out 0 (by decide) e0_q
  subst e0_E
  (try rw [show ((0 : Int)).toNat = 0 from rfl] at hx00)
  (try rw [show 0 * 5 = 0 from rfl] at hx00)
  (try rw [Addr.add_zero'] at hx00)
  (try rw [show ((0 : Int)).toNat = 0 from rfl] at hx01)
  (try rw [show 0 * 5 = 0 from rfl] at hx01)
  (try rw [Addr.add_zero'] at hx01)
  (try rw [show ((0 : Int)).toNat = 0 from rfl] at hx02)
  (try rw [show 0 * 5 = 0 from rfl] at hx02)
  (try rw [Addr.add_zero'] at hx02)
  (try rw [show ((0 : Int)).toNat = 0 from rfl] at hx03)
  (try rw [show 0 * 5 = 0 from rfl] at hx03)
  (try rw [Addr.add_zero'] at hx03)
  (try rw [show ((0 : Int)).toNat = 0 from rfl] at hx04)
  (try rw [show 0 * 5 = 0 from rfl] at hx04)
  (try rw [Addr.add_zero'] at hx04)
  have HC0 := Aside0.mk e0_C
  have HL0 := Aside0.mk e0_l
  clear e0_C e0_l
  have e0_p := eq_true e0_q
  rw [HL.out] at e0_p
  have e0_n : (0 < L) = True := eq_true (by have := HL.out; omega)
  clear hy hL hC hc BC0 e0_q h0
  go_enter Try.func24, Try.ntmps24
  go_wp2_with (first | ((with_reducible refine gate_dst (N := 1) rfl ?_); refine box_event ?hg (N := 1) ?hd (cs := #[.int .i64 4, .int .i64 a1, .string a2, .int .i64 19, .slice (some ad0) L c]) (t := 38) ?hr ?_; (case hd => rfl); (case hg => rfl); (case hr => first | (go_simp; done) | (go_simp; rfl)); intro gb hg w2 hbox hb; have n0_ := Aside0.mk (below_step HB.out hb); have n3_ := Aside0.mk hbox; clear HB hb hbox hg; have HB := n0_; have BK := n3_; clear n0_ n3_; obtain ⟨hcz0, hcz1, hcz2, hcz3, hcz4⟩ := blkc5 BK.out; obtain ⟨hfz0, hfz1, hfz2, hfz3, hfz4⟩ := blkf5 BK.out; replace hx00 := (HB.out.cell (World.block_lt_of_cell? w _ hx00)).trans hx00; replace hx01 := (HB.out.cell (World.block_lt_of_cell? w _ hx01)).trans hx01; replace hx02 := (HB.out.cell (World.block_lt_of_cell? w _ hx02)).trans hx02; replace hx03 := (HB.out.cell (World.block_lt_of_cell? w _ hx03)).trans hx03; replace hx04 := (HB.out.cell (World.block_lt_of_cell? w _ hx04)).trans hx04))
  (with_reducible refine (BC.out.use (rd_T38 l 0).f0 (rd_T38 l 0).f1 (rd_T38 l 0).f2 (rd_T38 l 0).f3 (rd_T38 l 0).f4 (rd_T38 l 0).f4.length A0 c0 99 y _ (show _ = some _ from by rw [eta38]; exact HY0.out) (fun z hz => refE_sz K d _ _ hz) rfl (by (with_reducible repeat (first | refine Kd.C_alloc ?_ _ | refine Kd.C_drewN ?_ _ | refine Kd.C_drew ?_)); exact Kd.C_below HC0.out HB.out) HL0.out).mono ?_)
  rintro e w5 ⟨rfl, hb5⟩
  have n0_ := Aside0.mk (below_step (by repeat (first | (with_reducible first | exact HB.out | apply below_alloc | apply pw_below_drewN | apply below_drew1) | exact HB.out)) hb5)
  clear HB hb5
  have HB := n0_
  go_wp2
  go_ret
  exact ⟨rfl, by repeat (first | (with_reducible first | exact HB.out | apply below_alloc | apply pw_below_drewN | apply below_drew1) | exact HB.out)⟩
set_option maxHeartbeats 8000000 in
set_option maxRecDepth 100000 in
theorem ref_k4c (K d : Nat) (BC0 : BrkC (refE K d)) (a1 : Int) (a2 : ByteArray) (a3 : Int) (l : List S38) (L : Nat) (A : Option Addr) (c : Nat) (x : ByteArray) (w : World) (hL : l.length = L) (hC : Kd.C k38 w A l.length l) (hc : L ≤ c) (n20 : a3 ≠ 20) (n19 : a3 ≠ 19) (h0 : l.length ≠ 0) (h : (refB (refE K d) (rd_T38 l 0) 99).bind (fun y => szd (⟨#[33]⟩ ++ y)) = some x) :
    Calls Try.prog 24 #[.agg #[.int .i64 4, .int .i64 a1, .string a2, .int .i64 a3, .slice A L c]] w (XPost x w) := by
  obtain ⟨y, hy, h⟩ := Option.bind_eq_some_iff.mp h
  have hys := refB_sz hy
  obtain ⟨rfl, hs⟩ := szd_get h
  clear h
  have n1 : (a3 == 19) = false := beq_eq_false_iff_ne.2 n19
  have n2 : (a3 == 20) = false := beq_eq_false_iff_ne.2 n20
  clear n19 n20
  have hu38 := Try.underlying38
  have HB := Aside0.mk (Below.refl w.heap.size w)
  have HC := Aside0.mk hC
  have HL := Aside0.mk hL
  have HCC := Aside0.mk hc
  have HY0 := Aside0.mk hy
  have BC := Aside0.mk BC0
  have e0_q : (0 : Int) < (l.length : Int) := by have := HL.out; omega
  obtain ⟨ad0, A0, c0, e0_E, hx00, hx01, hx02, hx03, hx04, e0_l, e0_C⟩ := at_T38 HC.out 0 (by decide) e0_q
  subst e0_E
  (try rw [show ((0 : Int)).toNat = 0 from rfl] at hx00)
  (try rw [show 0 * 5 = 0 from rfl] at hx00)
  (try rw [Addr.add_zero'] at hx00)
  (try rw [show ((0 : Int)).toNat = 0 from rfl] at hx01)
  (try rw [show 0 * 5 = 0 from rfl] at hx01)
  (try rw [Addr.add_zero'] at hx01)
  (try rw [show ((0 : Int)).toNat = 0 from rfl] at hx02)
  (try rw [show 0 * 5 = 0 from rfl] at hx02)
  (try rw [Addr.add_zero'] at hx02)
  (try rw [show ((0 : Int)).toNat = 0 from rfl] at hx03)
  (try rw [show 0 * 5 = 0 from rfl] at hx03)
  (try rw [Addr.add_zero'] at hx03)
  (try rw [show ((0 : Int)).toNat = 0 from rfl] at hx04)
  (try rw [show 0 * 5 = 0 from rfl] at hx04)
  (try rw [Addr.add_zero'] at hx04)
  have HC0 := Aside0.mk e0_C
  have HL0 := Aside0.mk e0_l
  clear e0_C e0_l
  have e0_p := eq_true e0_q
  rw [HL.out] at e0_p
  have e0_n : (0 < L) = True := eq_true (by have := HL.out; omega)
  clear hy hL hC hc BC0 e0_q h0
  go_enter Try.func24, Try.ntmps24
  go_wp2_with (first | ((with_reducible refine gate_dst (N := 1) rfl ?_); refine box_event ?hg (N := 1) ?hd (cs := #[.int .i64 4, .int .i64 a1, .string a2, .int .i64 a3, .slice (some ad0) L c]) (t := 38) ?hr ?_; (case hd => rfl); (case hg => rfl); (case hr => first | (go_simp; done) | (go_simp; rfl)); intro gb hg w2 hbox hb; have n0_ := Aside0.mk (below_step HB.out hb); have n3_ := Aside0.mk hbox; clear HB hb hbox hg; have HB := n0_; have BK := n3_; clear n0_ n3_; obtain ⟨hcz0, hcz1, hcz2, hcz3, hcz4⟩ := blkc5 BK.out; obtain ⟨hfz0, hfz1, hfz2, hfz3, hfz4⟩ := blkf5 BK.out; replace hx00 := (HB.out.cell (World.block_lt_of_cell? w _ hx00)).trans hx00; replace hx01 := (HB.out.cell (World.block_lt_of_cell? w _ hx01)).trans hx01; replace hx02 := (HB.out.cell (World.block_lt_of_cell? w _ hx02)).trans hx02; replace hx03 := (HB.out.cell (World.block_lt_of_cell? w _ hx03)).trans hx03; replace hx04 := (HB.out.cell (World.block_lt_of_cell? w _ hx04)).trans hx04))
  (with_reducible refine (BC.out.use (rd_T38 l 0).f0 (rd_T38 l 0).f1 (rd_T38 l 0).f2 (rd_T38 l 0).f3 (rd_T38 l 0).f4 (rd_T38 l 0).f4.length A0 c0 99 y _ (show _ = some _ from by rw [eta38]; exact HY0.out) (fun z hz => refE_sz K d _ _ hz) rfl (by (with_reducible repeat (first | refine Kd.C_alloc ?_ _ | refine Kd.C_drewN ?_ _ | refine Kd.C_drew ?_)); exact Kd.C_below HC0.out HB.out) HL0.out).mono ?_)
  rintro e w5 ⟨rfl, hb5⟩
  have n0_ := Aside0.mk (below_step (by repeat (first | (with_reducible first | exact HB.out | apply below_alloc | apply pw_below_drewN | apply below_drew1) | exact HB.out)) hb5)
  clear HB hb5
  have HB := n0_
  go_wp2
  go_ret
  exact ⟨rfl, by repeat (first | (with_reducible first | exact HB.out | apply below_alloc | apply pw_below_drewN | apply below_drew1) | exact HB.out)⟩
end Go.Proofs.Ytobkdmmnbnpemaa.K
