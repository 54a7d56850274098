/- The reference's `may`, walked by hand. -/
import Derived.Test.YtobkdmmnbnpemaaXTM0
import Derived.Lib.Hide
namespace Go.Proofs.Ytobkdmmnbnpemaa.K
open Go.RowKit Go.Proofs.YtobkdmmnbnpemaaW.PrintWords Go.Proofs.YtobkdmmnbnpemaaW.PrintLast Go.Proofs.YtobkdmmnbnpemaaW.PrintMore
attribute [local go_sem] max2_int min2_int max_two min_two max_three min_three max_four min_four
set_option linter.unusedVariables false
set_option linter.unusedSimpArgs false
def MayC (b : Nat) : Prop := ∀ (s : S41) (A3 A4 A5 : Option Addr) (c3 c4 c5 : Nat) (r : Bool) (w : World) (bl : Int), bl = 12 - (b : Int) → cntS s ≤ 1000000 →
  Kd.C k38 w A3 s.f3.length s.f3 → s.f3.length ≤ c3 → Kd.C k41 w A4 s.f4.length s.f4 → s.f4.length ≤ c4 → Kd.C k41 w A5 s.f5.length s.f5 → s.f5.length ≤ c5 → fitSt (fitB b) s = r →
  Calls Try.prog 41 #[.agg #[.int .i64 s.f0, .string s.f1, .int .i64 s.f2, .slice A3 s.f3.length c3, .slice A4 s.f4.length c4, .slice A5 s.f5.length c5], .int .i64 bl] w fun e w' => e = .returned (.bool r) ∧ Below w.heap.size w w'
theorem MayC.use {b : Nat} (h : MayC b) (s : S41) (A3 A4 A5 : Option Addr) (c3 c4 c5 : Nat) (r : Bool) (w : World) (bl : Int) (h0 : bl = 12 - (b : Int)) (h1 : cntS s ≤ 1000000)
  (h2 : Kd.C k38 w A3 s.f3.length s.f3) (h3 : s.f3.length ≤ c3) (h4 : Kd.C k41 w A4 s.f4.length s.f4) (h5 : s.f4.length ≤ c4) (h6 : Kd.C k41 w A5 s.f5.length s.f5) (h7 : s.f5.length ≤ c5) (h8 : fitSt (fitB b) s = r) :
  Calls Try.prog 41 #[.agg #[.int .i64 s.f0, .string s.f1, .int .i64 s.f2, .slice A3 s.f3.length c3, .slice A4 s.f4.length c4, .slice A5 s.f5.length c5], .int .i64 bl] w fun e w' => e = .returned (.bool r) ∧ Below w.heap.size w w' :=
  h s A3 A4 A5 c3 c4 c5 r w bl h0 h1 h2 h3 h4 h5 h6 h7 h8
theorem cnt_drop38 (l : List S38) : ∀ i, cntL (l.drop i) ≤ cntL l := by
  induction l with
  | nil => intro i; simp [cntL]
  | cons x xs ih =>
    intro i
    cases i with
    | zero => exact Nat.le_refl _
    | succ i => have := ih i; simp only [List.drop_succ_cons, cntL]; omega
theorem cnt_drop41 (l : List S41) : ∀ i, cntB (l.drop i) ≤ cntB l := by
  induction l with
  | nil => intro i; simp [cntB]
  | cons x xs ih =>
    intro i
    cases i with
    | zero => exact Nat.le_refl _
    | succ i => have := ih i; simp only [List.drop_succ_cons, cntB]; omega
set_option maxHeartbeats 8000000 in
set_option maxRecDepth 100000 in
theorem may_step (b : Nat) (hb12 : b ≤ 12) (IH : 0 < b → MayC (b - 1)) (k : Int) (f1 : ByteArray) (f2 : Int) (l3 : List S38) (l4 l5 : List S41) (A3 A4 A5 : Option Addr) (c3 c4 c5 : Nat) (r : Bool) (w : World) (bl : Int) (hbl : bl = 12 - (b : Int))
    (hcnt : cntL l3 + (cntB l4 + cntB l5) ≤ 1000000) (hC3 : Kd.C k38 w A3 l3.length l3) (hc3 : l3.length ≤ c3) (hC4 : Kd.C k41 w A4 l4.length l4) (hc4 : l4.length ≤ c4) (hC5 : Kd.C k41 w A5 l5.length l5) (hc5 : l5.length ≤ c5) (hr : fitSt (fitB b) ⟨k, f1, f2, l3, l4, l5⟩ = r) :
    Calls Try.prog 41 #[.agg #[.int .i64 k, .string f1, .int .i64 f2, .slice A3 l3.length c3, .slice A4 l4.length c4, .slice A5 l5.length c5], .int .i64 bl] w fun e w' => e = .returned (.bool r) ∧ Below w.heap.size w w' := by
  have hu41 := Try.underlying41
  have hu38 := Try.underlying38
  have HB := Aside0.mk (Below.refl w.heap.size w)
  have HC3 := Aside0.mk hC3
  have HC4 := Aside0.mk hC4
  have HC5 := Aside0.mk hC5
  have HR := Aside0.mk hr
  have HBL := Aside0.mk hbl
  have HB12 := Aside0.mk hb12
  have HIH := Aside0.mk IH
  have HCN := Aside0.mk hcnt
  have HC := Aside0.mk (show l3.length ≤ c3 ∧ l4.length ≤ c4 ∧ l5.length ≤ c5 from ⟨hc3, hc4, hc5⟩)
  clear hC3 hC4 hC5 hr hbl hb12 IH hcnt hc3 hc4 hc5
  go_enter Try.func41, Try.ntmps41
  go_upto_block 0 with (first | ((with_reducible refine gate_dst (N := 2) rfl ?_); (try (refine gate_guard (by rfl) ?_; dsimp only)); refine box_event ?hg (N := 2) ?hd (cs := #[.int .i64 k, .string f1, .int .i64 f2, .slice A3 l3.length c3, .slice A4 l4.length c4, .slice A5 l5.length c5]) (t := 41) ?hr ?_; (case hd => rfl); (case hg => rfl); (case hr => first | (go_simp; done) | (go_simp; rfl)); intro sb hg ws hbox hb; have n0_ := Aside0.mk (below_step (by repeat (first | (with_reducible first | exact HB.out | apply below_alloc | apply pw_below_drewN | apply below_drew1) | exact HB.out)) hb); have n1_ := Aside0.mk hbox; have n2_ := Aside0.mk (show w.heap.size ≤ sb by rw [hg]; exact below_size (by repeat (first | (with_reducible first | exact HB.out | apply below_alloc | apply pw_below_drewN | apply below_drew1) | exact HB.out))); clear HB hb hbox hg; have HB := n0_; have BS := n1_; have GS := n2_; clear n0_ n1_ n2_; obtain ⟨⟨sz0, sz1, sz2, sz3, sz4, sz5⟩, sf0, sf1, sf2, sf3, sf4, sf5⟩ := six BS.out) | ((with_reducible refine gate_dst (N := 5) rfl ?_); (try (refine gate_guard (by rfl) ?_; dsimp only)); refine box_event ?hg (N := 5) ?hd (cs := #[.int .i64 0, .string (⟨#[]⟩ : ByteArray), .int .i64 0, .slice none 0 0, .slice none 0 0, .slice none 0 0]) (t := 41) ?hr ?_; (case hd => rfl); (case hg => rfl); (case hr => first | (go_simp; done) | (go_simp; rfl)); intro xb hg wx hbox hb; have n0_ := Aside0.mk (below_step (by repeat (first | (with_reducible first | exact HB.out | apply below_alloc | apply pw_below_drewN | apply below_drew1 | refine below_set ?_ GS.out) | exact HB.out)) hb); have n1_ := Aside0.mk hbox; have n2_ := Aside0.mk (show w.heap.size ≤ xb by rw [hg]; exact below_size (by repeat (first | (with_reducible first | exact HB.out | apply below_alloc | apply pw_below_drewN | apply below_drew1 | refine below_set ?_ GS.out) | exact HB.out))); have n3_ := Aside0.mk (show sb ≠ xb by rw [hg]; exact Nat.ne_of_lt (blk_lt (g := sb) (o := .cells #[.int .i64 k, .string f1, .int .i64 f2, .slice A3 l3.length c3, .slice A4 l4.length c4, .slice A5 l5.length c5] 41 (0, 0)) (by (with_reducible repeat (first | refine blk_drewN ?_ _ | refine blk_drew ?_ | refine blk_alloc ?_ _)); exact BS.out))); have n4_ := Aside0.mk (blk_below (g := sb) (o := .cells #[.int .i64 k, .string f1, .int .i64 f2, .slice A3 l3.length c3, .slice A4 l4.length c4, .slice A5 l5.length c5] 41 (0, 0)) (by (with_reducible repeat (first | refine blk_drewN ?_ _ | refine blk_drew ?_ | refine blk_alloc ?_ _)); exact BS.out) hb); clear sz0 sz1 sz2 sz3 sz4 sz5 sf0 sf1 sf2 sf3 sf4 sf5; clear HB BS hb hbox hg; have HB := n0_; have BX := n1_; have GX := n2_; have NS := n3_; have BS := n4_; clear n0_ n1_ n2_ n3_ n4_; have hns := NS.out; have hnx := Ne.symm NS.out; obtain ⟨⟨sz0, sz1, sz2, sz3, sz4, sz5⟩, sf0, sf1, sf2, sf3, sf4, sf5⟩ := six BS.out; obtain ⟨⟨xz0, xz1, xz2, xz3, xz4, xz5⟩, xf0, xf1, xf2, xf3, xf4, xf5⟩ := six BX.out))
  generalize hq : World.setCell _ ⟨xb, 5, none⟩ _ = wt
  have n0_ : Aside0 (wt.heap[sb]? = some (.cells #[.int .i64 k, .string f1, .int .i64 f2, .slice A3 l3.length c3, .slice A4 l4.length c4, .slice A5 l5.length c5] 41 (0, 0))) := ⟨by rw [← hq]; (with_reducible repeat (first | refine blk_drewN ?_ _ | refine blk_drew ?_ | refine blk_alloc ?_ _)); refine blk_far ?_ hns _; (with_reducible repeat (first | refine blk_drewN ?_ _ | refine blk_drew ?_ | refine blk_alloc ?_ _)); refine blk_far ?_ hns _; (with_reducible repeat (first | refine blk_drewN ?_ _ | refine blk_drew ?_ | refine blk_alloc ?_ _)); refine blk_far ?_ hns _; (with_reducible repeat (first | refine blk_drewN ?_ _ | refine blk_drew ?_ | refine blk_alloc ?_ _)); refine blk_far ?_ hns _; (with_reducible repeat (first | refine blk_drewN ?_ _ | refine blk_drew ?_ | refine blk_alloc ?_ _)); refine blk_far ?_ hns _; (with_reducible repeat (first | refine blk_drewN ?_ _ | refine blk_drew ?_ | refine blk_alloc ?_ _)); refine blk_far ?_ hns _; exact BS.out⟩
  have n1_ : Aside0 (wt.heap[xb]? = some (.cells #[.int .i64 k, .string (⟨#[]⟩ : ByteArray), .int .i64 0, .slice none 0 0, .slice none 0 0, .slice none 0 0] 41 (0, 0))) := ⟨by rw [← hq]; (with_reducible repeat (first | refine blk_drewN ?_ _ | refine blk_drew ?_ | refine blk_alloc ?_ _)); refine blk_put (cs := #[.int .i64 k, .string (⟨#[]⟩ : ByteArray), .int .i64 0, .slice none 0 0, .slice none 0 0, .slice none 0 0]) ?_ 5 _ rfl; (with_reducible repeat (first | refine blk_drewN ?_ _ | refine blk_drew ?_ | refine blk_alloc ?_ _)); refine blk_put (cs := #[.int .i64 k, .string (⟨#[]⟩ : ByteArray), .int .i64 0, .slice none 0 0, .slice none 0 0, .slice none 0 0]) ?_ 4 _ rfl; (with_reducible repeat (first | refine blk_drewN ?_ _ | refine blk_drew ?_ | refine blk_alloc ?_ _)); refine blk_put (cs := #[.int .i64 k, .string (⟨#[]⟩ : ByteArray), .int .i64 0, .slice none 0 0, .slice none 0 0, .slice none 0 0]) ?_ 3 _ rfl; (with_reducible repeat (first | refine blk_drewN ?_ _ | refine blk_drew ?_ | refine blk_alloc ?_ _)); refine blk_put (cs := #[.int .i64 k, .string (⟨#[]⟩ : ByteArray), .int .i64 0, .slice none 0 0, .slice none 0 0, .slice none 0 0]) ?_ 2 _ rfl; (with_reducible repeat (first | refine blk_drewN ?_ _ | refine blk_drew ?_ | refine blk_alloc ?_ _)); refine blk_put (cs := #[.int .i64 k, .string (⟨#[]⟩ : ByteArray), .int .i64 0, .slice none 0 0, .slice none 0 0, .slice none 0 0]) ?_ 1 _ rfl; (with_reducible repeat (first | refine blk_drewN ?_ _ | refine blk_drew ?_ | refine blk_alloc ?_ _)); refine blk_put (cs := #[.int .i64 0, .string (⟨#[]⟩ : ByteArray), .int .i64 0, .slice none 0 0, .slice none 0 0, .slice none 0 0]) ?_ 0 _ rfl; exact BX.out⟩
  have n2_ : Aside0 (Below w.heap.size w wt) := ⟨by rw [← hq]; exact (by repeat (first | (with_reducible first | exact HB.out | apply below_alloc | apply pw_below_drewN | apply below_drew1 | refine below_set ?_ GS.out | refine below_set ?_ GX.out) | exact HB.out))⟩
  clear hq BS BX HB
  clear sz0 sz1 sz2 sz3 sz4 sz5 sf0 sf1 sf2 sf3 sf4 sf5
  clear xz0 xz1 xz2 xz3 xz4 xz5 xf0 xf1 xf2 xf3 xf4 xf5
  have BS := n0_
  have BX := n1_
  have HB := n2_
  clear n0_ n1_ n2_
  obtain ⟨⟨sz0, sz1, sz2, sz3, sz4, sz5⟩, sf0, sf1, sf2, sf3, sf4, sf5⟩ := six BS.out
  obtain ⟨⟨xz0, xz1, xz2, xz3, xz4, xz5⟩, xf0, xf1, xf2, xf3, xf4, xf5⟩ := six BX.out
  go_cut [6, 7, 8] (fun v6 v7 v8 wc => ∃ (x6 x7 x8 : Int) (xn : ByteArray) (xc : Int), v6 = .int .i64 x6 ∧ v7 = .int .i64 x7 ∧ v8 = .int .i64 x8 ∧ Aside0 (KR k f2 f1 l4.length l5.length x6 x7 x8 xn xc) ∧ Aside0 (wc.heap[sb]? = some (.cells #[.int .i64 k, .string f1, .int .i64 f2, .slice A3 l3.length c3, .slice A4 l4.length c4, .slice A5 l5.length c5] 41 (0, 0))) ∧ Aside0 (wc.heap[xb]? = some (.cells #[.int .i64 k, .string xn, .int .i64 xc, .slice none 0 0, .slice none 0 0, .slice none 0 0] 41 (0, 0))) ∧ Aside0 (Below w.heap.size w wc))
  case first =>
    by_cases hk : ∃ j : Int, (1 ≤ j ∧ j ≤ 9) ∧ k = j
    · obtain ⟨j, ⟨j1, j9⟩, rfl⟩ := hk
      have hj : k = 1 ∨ k = 2 ∨ k = 3 ∨ k = 4 ∨ k = 5 ∨ k = 6 ∨ k = 7 ∨ k = 8 ∨ k = 9 := by omega
      clear j1 j9
      rcases hj with rfl | rfl | rfl | rfl | rfl | rfl | rfl | rfl | rfl
      · obtain ⟨nb, hnb⟩ : ∃ nb, nameB (lst f1) = nb := ⟨_, rfl⟩
        have HN := Aside0.mk hnb
        clear hnb
        cases nb with
        | true =>
          go_wp2_with (first | (go_at_call 64; (with_reducible refine (rname_L f1 true _ HN.out).mono ?_); rintro e wn ⟨rfl, hb⟩; have n0_ := Aside0.mk (below_step (by repeat (first | (with_reducible first | exact HB.out | apply below_alloc | apply pw_below_drewN | apply below_drew1 | refine below_set ?_ GS.out | refine below_set ?_ GX.out) | exact HB.out)) hb); have n1_ := Aside0.mk (blk_below (g := sb) (o := .cells #[.int .i64 1, .string f1, .int .i64 f2, .slice A3 l3.length c3, .slice A4 l4.length c4, .slice A5 l5.length c5] 41 (0, 0)) (by (with_reducible repeat (first | refine blk_drewN ?_ _ | refine blk_drew ?_ | refine blk_alloc ?_ _)); refine blk_far ?_ hns _; (with_reducible repeat (first | refine blk_drewN ?_ _ | refine blk_drew ?_ | refine blk_alloc ?_ _)); exact BS.out) hb); have n2_ := Aside0.mk (blk_below (g := xb) (o := .cells #[.int .i64 1, .string f1, .int .i64 0, .slice none 0 0, .slice none 0 0, .slice none 0 0] 41 (0, 0)) (by (with_reducible repeat (first | refine blk_drewN ?_ _ | refine blk_drew ?_ | refine blk_alloc ?_ _)); refine blk_put (cs := #[.int .i64 1, .string (⟨#[]⟩ : ByteArray), .int .i64 0, .slice none 0 0, .slice none 0 0, .slice none 0 0]) ?_ 1 _ rfl; (with_reducible repeat (first | refine blk_drewN ?_ _ | refine blk_drew ?_ | refine blk_alloc ?_ _)); exact BX.out) hb); clear HB BS BX hb; clear sz0 sz1 sz2 sz3 sz4 sz5 sf0 sf1 sf2 sf3 sf4 sf5; clear xz0 xz1 xz2 xz3 xz4 xz5 xf0 xf1 xf2 xf3 xf4 xf5; have HB := n0_; have BS := n1_; have BX := n2_; clear n0_ n1_ n2_; obtain ⟨⟨sz0, sz1, sz2, sz3, sz4, sz5⟩, sf0, sf1, sf2, sf3, sf4, sf5⟩ := six BS.out; obtain ⟨⟨xz0, xz1, xz2, xz3, xz4, xz5⟩, xf0, xf1, xf2, xf3, xf4, xf5⟩ := six BX.out))
          go_meet
          exact ⟨1, 0, 0, f1, 0, rfl, rfl, rfl, ⟨⟨1, true, rfl, rfl, rfl, rfl, rfl, rfl, fun _ => HN.out⟩⟩, ⟨by (with_reducible repeat (first | refine blk_drewN ?_ _ | refine blk_drew ?_ | refine blk_alloc ?_ _)); exact BS.out⟩, ⟨by (with_reducible repeat (first | refine blk_drewN ?_ _ | refine blk_drew ?_ | refine blk_alloc ?_ _)); exact BX.out⟩, ⟨by repeat (first | (with_reducible first | exact HB.out | apply below_alloc | apply pw_below_drewN | apply below_drew1 | refine below_set ?_ GS.out | refine below_set ?_ GX.out) | exact HB.out)⟩⟩
        | false =>
          go_wp2_with (first | (go_at_call 64; (with_reducible refine (rname_L f1 false _ HN.out).mono ?_); rintro e wn ⟨rfl, hb⟩; have n0_ := Aside0.mk (below_step (by repeat (first | (with_reducible first | exact HB.out | apply below_alloc | apply pw_below_drewN | apply below_drew1 | refine below_set ?_ GS.out | refine below_set ?_ GX.out) | exact HB.out)) hb); have n1_ := Aside0.mk (blk_below (g := sb) (o := .cells #[.int .i64 1, .string f1, .int .i64 f2, .slice A3 l3.length c3, .slice A4 l4.length c4, .slice A5 l5.length c5] 41 (0, 0)) (by (with_reducible repeat (first | refine blk_drewN ?_ _ | refine blk_drew ?_ | refine blk_alloc ?_ _)); refine blk_far ?_ hns _; (with_reducible repeat (first | refine blk_drewN ?_ _ | refine blk_drew ?_ | refine blk_alloc ?_ _)); exact BS.out) hb); have n2_ := Aside0.mk (blk_below (g := xb) (o := .cells #[.int .i64 1, .string f1, .int .i64 0, .slice none 0 0, .slice none 0 0, .slice none 0 0] 41 (0, 0)) (by (with_reducible repeat (first | refine blk_drewN ?_ _ | refine blk_drew ?_ | refine blk_alloc ?_ _)); refine blk_put (cs := #[.int .i64 1, .string (⟨#[]⟩ : ByteArray), .int .i64 0, .slice none 0 0, .slice none 0 0, .slice none 0 0]) ?_ 1 _ rfl; (with_reducible repeat (first | refine blk_drewN ?_ _ | refine blk_drew ?_ | refine blk_alloc ?_ _)); exact BX.out) hb); clear HB BS BX hb; clear sz0 sz1 sz2 sz3 sz4 sz5 sf0 sf1 sf2 sf3 sf4 sf5; clear xz0 xz1 xz2 xz3 xz4 xz5 xf0 xf1 xf2 xf3 xf4 xf5; have HB := n0_; have BS := n1_; have BX := n2_; clear n0_ n1_ n2_; obtain ⟨⟨sz0, sz1, sz2, sz3, sz4, sz5⟩, sf0, sf1, sf2, sf3, sf4, sf5⟩ := six BS.out; obtain ⟨⟨xz0, xz1, xz2, xz3, xz4, xz5⟩, xf0, xf1, xf2, xf3, xf4, xf5⟩ := six BX.out))
          go_ret
          have e := HR.out
          rw [fitSt_no (by unfold headB; show (_ && ((true == nameB (lst f1)) && _) && _ && _ && _) = false; rw [HN.out]; simp)] at e
          subst e
          exact ⟨rfl, by repeat (first | (with_reducible first | exact HB.out | apply below_alloc | apply pw_below_drewN | apply below_drew1 | refine below_set ?_ GS.out | refine below_set ?_ GX.out) | exact HB.out)⟩
      · obtain ⟨nb, hnb⟩ : ∃ nb, nameB (lst f1) = nb := ⟨_, rfl⟩
        have HN := Aside0.mk hnb
        clear hnb
        cases nb with
        | true =>
          go_wp2_with (first | (go_at_call 64; (with_reducible refine (rname_L f1 true _ HN.out).mono ?_); rintro e wn ⟨rfl, hb⟩; have n0_ := Aside0.mk (below_step (by repeat (first | (with_reducible first | exact HB.out | apply below_alloc | apply pw_below_drewN | apply below_drew1 | refine below_set ?_ GS.out | refine below_set ?_ GX.out) | exact HB.out)) hb); have n1_ := Aside0.mk (blk_below (g := sb) (o := .cells #[.int .i64 2, .string f1, .int .i64 f2, .slice A3 l3.length c3, .slice A4 l4.length c4, .slice A5 l5.length c5] 41 (0, 0)) (by (with_reducible repeat (first | refine blk_drewN ?_ _ | refine blk_drew ?_ | refine blk_alloc ?_ _)); refine blk_far ?_ hns _; (with_reducible repeat (first | refine blk_drewN ?_ _ | refine blk_drew ?_ | refine blk_alloc ?_ _)); exact BS.out) hb); have n2_ := Aside0.mk (blk_below (g := xb) (o := .cells #[.int .i64 2, .string f1, .int .i64 0, .slice none 0 0, .slice none 0 0, .slice none 0 0] 41 (0, 0)) (by (with_reducible repeat (first | refine blk_drewN ?_ _ | refine blk_drew ?_ | refine blk_alloc ?_ _)); refine blk_put (cs := #[.int .i64 2, .string (⟨#[]⟩ : ByteArray), .int .i64 0, .slice none 0 0, .slice none 0 0, .slice none 0 0]) ?_ 1 _ rfl; (with_reducible repeat (first | refine blk_drewN ?_ _ | refine blk_drew ?_ | refine blk_alloc ?_ _)); exact BX.out) hb); clear HB BS BX hb; clear sz0 sz1 sz2 sz3 sz4 sz5 sf0 sf1 sf2 sf3 sf4 sf5; clear xz0 xz1 xz2 xz3 xz4 xz5 xf0 xf1 xf2 xf3 xf4 xf5; have HB := n0_; have BS := n1_; have BX := n2_; clear n0_ n1_ n2_; obtain ⟨⟨sz0, sz1, sz2, sz3, sz4, sz5⟩, sf0, sf1, sf2, sf3, sf4, sf5⟩ := six BS.out; obtain ⟨⟨xz0, xz1, xz2, xz3, xz4, xz5⟩, xf0, xf1, xf2, xf3, xf4, xf5⟩ := six BX.out))
          go_meet
          exact ⟨1, 0, 0, f1, 0, rfl, rfl, rfl, ⟨⟨1, true, rfl, rfl, rfl, rfl, rfl, rfl, fun _ => HN.out⟩⟩, ⟨by (with_reducible repeat (first | refine blk_drewN ?_ _ | refine blk_drew ?_ | refine blk_alloc ?_ _)); exact BS.out⟩, ⟨by (with_reducible repeat (first | refine blk_drewN ?_ _ | refine blk_drew ?_ | refine blk_alloc ?_ _)); exact BX.out⟩, ⟨by repeat (first | (with_reducible first | exact HB.out | apply below_alloc | apply pw_below_drewN | apply below_drew1 | refine below_set ?_ GS.out | refine below_set ?_ GX.out) | exact HB.out)⟩⟩
        | false =>
          go_wp2_with (first | (go_at_call 64; (with_reducible refine (rname_L f1 false _ HN.out).mono ?_); rintro e wn ⟨rfl, hb⟩; have n0_ := Aside0.mk (below_step (by repeat (first | (with_reducible first | exact HB.out | apply below_alloc | apply pw_below_drewN | apply below_drew1 | refine below_set ?_ GS.out | refine below_set ?_ GX.out) | exact HB.out)) hb); have n1_ := Aside0.mk (blk_below (g := sb) (o := .cells #[.int .i64 2, .string f1, .int .i64 f2, .slice A3 l3.length c3, .slice A4 l4.length c4, .slice A5 l5.length c5] 41 (0, 0)) (by (with_reducible repeat (first | refine blk_drewN ?_ _ | refine blk_drew ?_ | refine blk_alloc ?_ _)); refine blk_far ?_ hns _; (with_reducible repeat (first | refine blk_drewN ?_ _ | refine blk_drew ?_ | refine blk_alloc ?_ _)); exact BS.out) hb); have n2_ := Aside0.mk (blk_below (g := xb) (o := .cells #[.int .i64 2, .string f1, .int .i64 0, .slice none 0 0, .slice none 0 0, .slice none 0 0] 41 (0, 0)) (by (with_reducible repeat (first | refine blk_drewN ?_ _ | refine blk_drew ?_ | refine blk_alloc ?_ _)); refine blk_put (cs := #[.int .i64 2, .string (⟨#[]⟩ : ByteArray), .int .i64 0, .slice none 0 0, .slice none 0 0, .slice none 0 0]) ?_ 1 _ rfl; (with_reducible repeat (first | refine blk_drewN ?_ _ | refine blk_drew ?_ | refine blk_alloc ?_ _)); exact BX.out) hb); clear HB BS BX hb; clear sz0 sz1 sz2 sz3 sz4 sz5 sf0 sf1 sf2 sf3 sf4 sf5; clear xz0 xz1 xz2 xz3 xz4 xz5 xf0 xf1 xf2 xf3 xf4 xf5; have HB := n0_; have BS := n1_; have BX := n2_; clear n0_ n1_ n2_; obtain ⟨⟨sz0, sz1, sz2, sz3, sz4, sz5⟩, sf0, sf1, sf2, sf3, sf4, sf5⟩ := six BS.out; obtain ⟨⟨xz0, xz1, xz2, xz3, xz4, xz5⟩, xf0, xf1, xf2, xf3, xf4, xf5⟩ := six BX.out))
          go_ret
          have e := HR.out
          rw [fitSt_no (by unfold headB; show (_ && ((true == nameB (lst f1)) && _) && _ && _ && _) = false; rw [HN.out]; simp)] at e
          subst e
          exact ⟨rfl, by repeat (first | (with_reducible first | exact HB.out | apply below_alloc | apply pw_below_drewN | apply below_drew1 | refine below_set ?_ GS.out | refine below_set ?_ GX.out) | exact HB.out)⟩
      · go_wp2_with fail
        go_meet
        exact ⟨2, 0, 0, (⟨#[]⟩ : ByteArray), 0, rfl, rfl, rfl, ⟨⟨2, false, rfl, rfl, rfl, rfl, rfl, rfl, (by simp)⟩⟩, ⟨by (with_reducible repeat (first | refine blk_drewN ?_ _ | refine blk_drew ?_ | refine blk_alloc ?_ _)); exact BS.out⟩, ⟨by (with_reducible repeat (first | refine blk_drewN ?_ _ | refine blk_drew ?_ | refine blk_alloc ?_ _)); exact BX.out⟩, ⟨by repeat (first | (with_reducible first | exact HB.out | apply below_alloc | apply pw_below_drewN | apply below_drew1 | refine below_set ?_ GS.out | refine below_set ?_ GX.out) | exact HB.out)⟩⟩
      · go_wp2_with fail
        go_meet
        exact ⟨1, 0, 0, (⟨#[]⟩ : ByteArray), 0, rfl, rfl, rfl, ⟨⟨1, false, rfl, rfl, rfl, rfl, rfl, rfl, (by simp)⟩⟩, ⟨by (with_reducible repeat (first | refine blk_drewN ?_ _ | refine blk_drew ?_ | refine blk_alloc ?_ _)); exact BS.out⟩, ⟨by (with_reducible repeat (first | refine blk_drewN ?_ _ | refine blk_drew ?_ | refine blk_alloc ?_ _)); exact BX.out⟩, ⟨by repeat (first | (with_reducible first | exact HB.out | apply below_alloc | apply pw_below_drewN | apply below_drew1 | refine below_set ?_ GS.out | refine below_set ?_ GX.out) | exact HB.out)⟩⟩
      · go_wp2_with fail
        go_meet
        exact ⟨1, 0, 0, (⟨#[]⟩ : ByteArray), f2, rfl, rfl, rfl, ⟨⟨1, false, rfl, rfl, rfl, rfl, rfl, rfl, (by simp)⟩⟩, ⟨by (with_reducible repeat (first | refine blk_drewN ?_ _ | refine blk_drew ?_ | refine blk_alloc ?_ _)); refine blk_far ?_ hns _; (with_reducible repeat (first | refine blk_drewN ?_ _ | refine blk_drew ?_ | refine blk_alloc ?_ _)); exact BS.out⟩, ⟨by (with_reducible repeat (first | refine blk_drewN ?_ _ | refine blk_drew ?_ | refine blk_alloc ?_ _)); refine blk_put (cs := #[.int .i64 5, .string (⟨#[]⟩ : ByteArray), .int .i64 0, .slice none 0 0, .slice none 0 0, .slice none 0 0]) ?_ 2 _ rfl; (with_reducible repeat (first | refine blk_drewN ?_ _ | refine blk_drew ?_ | refine blk_alloc ?_ _)); exact BX.out⟩, ⟨by repeat (first | (with_reducible first | exact HB.out | apply below_alloc | apply pw_below_drewN | apply below_drew1 | refine below_set ?_ GS.out | refine below_set ?_ GX.out) | exact HB.out)⟩⟩
      · go_wp2_with fail
        go_quiet (fail)
        go_wp2
        go_meet
        exact ⟨1, l4.length, l5.length, (⟨#[]⟩ : ByteArray), 0, rfl, rfl, rfl, ⟨⟨1, false, rfl, rfl, rfl, rfl, rfl, rfl, (by simp)⟩⟩, ⟨by (with_reducible repeat (first | refine blk_drewN ?_ _ | refine blk_drew ?_ | refine blk_alloc ?_ _)); exact BS.out⟩, ⟨by (with_reducible repeat (first | refine blk_drewN ?_ _ | refine blk_drew ?_ | refine blk_alloc ?_ _)); exact BX.out⟩, ⟨by repeat (first | (with_reducible first | exact HB.out | apply below_alloc | apply pw_below_drewN | apply below_drew1 | refine below_set ?_ GS.out | refine below_set ?_ GX.out) | exact HB.out)⟩⟩
      · go_wp2_with fail
        go_meet
        exact ⟨1, l4.length, 0, (⟨#[]⟩ : ByteArray), 0, rfl, rfl, rfl, ⟨⟨1, false, rfl, rfl, rfl, rfl, rfl, rfl, (by simp)⟩⟩, ⟨by (with_reducible repeat (first | refine blk_drewN ?_ _ | refine blk_drew ?_ | refine blk_alloc ?_ _)); exact BS.out⟩, ⟨by (with_reducible repeat (first | refine blk_drewN ?_ _ | refine blk_drew ?_ | refine blk_alloc ?_ _)); exact BX.out⟩, ⟨by repeat (first | (with_reducible first | exact HB.out | apply below_alloc | apply pw_below_drewN | apply below_drew1 | refine below_set ?_ GS.out | refine below_set ?_ GX.out) | exact HB.out)⟩⟩
      · go_wp2_with fail
        go_meet
        exact ⟨1, 0, 0, (⟨#[]⟩ : ByteArray), 0, rfl, rfl, rfl, ⟨⟨1, false, rfl, rfl, rfl, rfl, rfl, rfl, (by simp)⟩⟩, ⟨by (with_reducible repeat (first | refine blk_drewN ?_ _ | refine blk_drew ?_ | refine blk_alloc ?_ _)); exact BS.out⟩, ⟨by (with_reducible repeat (first | refine blk_drewN ?_ _ | refine blk_drew ?_ | refine blk_alloc ?_ _)); exact BX.out⟩, ⟨by repeat (first | (with_reducible first | exact HB.out | apply below_alloc | apply pw_below_drewN | apply below_drew1 | refine below_set ?_ GS.out | refine below_set ?_ GX.out) | exact HB.out)⟩⟩
      · go_wp2_with fail
        go_meet
        exact ⟨0, 0, 0, (⟨#[]⟩ : ByteArray), 0, rfl, rfl, rfl, ⟨⟨0, false, rfl, rfl, rfl, rfl, rfl, rfl, (by simp)⟩⟩, ⟨by (with_reducible repeat (first | refine blk_drewN ?_ _ | refine blk_drew ?_ | refine blk_alloc ?_ _)); exact BS.out⟩, ⟨by (with_reducible repeat (first | refine blk_drewN ?_ _ | refine blk_drew ?_ | refine blk_alloc ?_ _)); exact BX.out⟩, ⟨by repeat (first | (with_reducible first | exact HB.out | apply below_alloc | apply pw_below_drewN | apply below_drew1 | refine below_set ?_ GS.out | refine below_set ?_ GX.out) | exact HB.out)⟩⟩
    · have e1 : (k == 1) = false := beq_eq_false_iff_ne.2 fun e => hk ⟨1, by omega, e⟩
      have e2 : (k == 2) = false := beq_eq_false_iff_ne.2 fun e => hk ⟨2, by omega, e⟩
      have e3 : (k == 3) = false := beq_eq_false_iff_ne.2 fun e => hk ⟨3, by omega, e⟩
      have e4 : (k == 4) = false := beq_eq_false_iff_ne.2 fun e => hk ⟨4, by omega, e⟩
      have e5 : (k == 5) = false := beq_eq_false_iff_ne.2 fun e => hk ⟨5, by omega, e⟩
      have e6 : (k == 6) = false := beq_eq_false_iff_ne.2 fun e => hk ⟨6, by omega, e⟩
      have e7 : (k == 7) = false := beq_eq_false_iff_ne.2 fun e => hk ⟨7, by omega, e⟩
      have e8 : (k == 8) = false := beq_eq_false_iff_ne.2 fun e => hk ⟨8, by omega, e⟩
      have e9 : (k == 9) = false := beq_eq_false_iff_ne.2 fun e => hk ⟨9, by omega, e⟩
      go_wp2_with fail
      go_ret
      have hw : wantS k = none := by unfold wantS; simp [beq_eq_false_iff_ne.1 e1, beq_eq_false_iff_ne.1 e2, beq_eq_false_iff_ne.1 e3, beq_eq_false_iff_ne.1 e4, beq_eq_false_iff_ne.1 e5, beq_eq_false_iff_ne.1 e6, beq_eq_false_iff_ne.1 e7, beq_eq_false_iff_ne.1 e8, beq_eq_false_iff_ne.1 e9]
      have e := HR.out
      rw [fitSt_no (by unfold headB; simp only [hw])] at e
      subst e
      exact ⟨rfl, by repeat (first | (with_reducible first | exact HB.out | apply below_alloc | apply pw_below_drewN | apply below_drew1 | refine below_set ?_ GS.out | refine below_set ?_ GX.out) | exact HB.out)⟩
  case rest =>
    clear BS BX HB
    clear sz0 sz1 sz2 sz3 sz4 sz5 sf0 sf1 sf2 sf3 sf4 sf5
    clear xz0 xz1 xz2 xz3 xz4 xz5 xf0 xf1 xf2 xf3 xf4 xf5
    obtain ⟨x6, x7, x8, xn, xc, rfl, rfl, rfl, HKR, BS, BX, HB⟩ := hcut
    obtain ⟨⟨sz0, sz1, sz2, sz3, sz4, sz5⟩, sf0, sf1, sf2, sf3, sf4, sf5⟩ := six BS.out
    obtain ⟨⟨xz0, xz1, xz2, xz3, xz4, xz5⟩, xf0, xf1, xf2, xf3, xf4, xf5⟩ := six BX.out
    go_upto_region 22 with (fail)
    go_cut [108] (fun v108 wx => ∃ B : Bool, v108 = .bool B ∧ Aside0 (badM xn f1 xc f2 l3.length l4.length l5.length x6 x7 x8 bl k = B) ∧ wc = wx)
    case first =>
      obtain ⟨q0, p0⟩ : ∃ q, (xn.toList != f1.toList) = q := ⟨_, rfl⟩
      have d0 : (xn.toList == f1.toList) = !q0 := by rw [← p0]; simp [bne]
      cases q0 with
      | true =>
        (try simp only [Bool.not_true, Bool.not_false] at d0)
        go_wp2_with fail
        go_meet
        exact ⟨_, rfl, ⟨by simp only [badM, p0, Bool.true_or, Bool.false_or, Bool.or_true, Bool.or_false, Bool.true_and, Bool.false_and]⟩, rfl⟩
      | false =>
        (try simp only [Bool.not_true, Bool.not_false] at d0)
        obtain ⟨q1, p1⟩ : ∃ q, (xc != f2) = q := ⟨_, rfl⟩
        have d1 : (xc == f2) = !q1 := by rw [← p1]; simp [bne]
        cases q1 with
        | true =>
          (try simp only [Bool.not_true, Bool.not_false] at d1)
          go_wp2_with fail
          go_meet
          exact ⟨_, rfl, ⟨by simp only [badM, p0, p1, Bool.true_or, Bool.false_or, Bool.or_true, Bool.or_false, Bool.true_and, Bool.false_and]⟩, rfl⟩
        | false =>
          (try simp only [Bool.not_true, Bool.not_false] at d1)
          obtain ⟨q2, p2⟩ : ∃ q, (decide (f2 < 0)) = q := ⟨_, rfl⟩
          cases q2 with
          | true =>
            go_wp2_with fail
            go_meet
            exact ⟨_, rfl, ⟨by simp only [badM, p0, p1, p2, Bool.true_or, Bool.false_or, Bool.or_true, Bool.or_false, Bool.true_and, Bool.false_and]⟩, rfl⟩
          | false =>
            obtain ⟨q3, p3⟩ : ∃ q, (decide (255 < f2)) = q := ⟨_, rfl⟩
            cases q3 with
            | true =>
              go_wp2_with fail
              go_meet
              exact ⟨_, rfl, ⟨by simp only [badM, p0, p1, p2, p3, Bool.true_or, Bool.false_or, Bool.or_true, Bool.or_false, Bool.true_and, Bool.false_and]⟩, rfl⟩
            | false =>
              obtain ⟨q4, p4⟩ : ∃ q, ((l3.length : Int) != x6) = q := ⟨_, rfl⟩
              have d4 : ((l3.length : Int) == x6) = !q4 := by rw [← p4]; simp [bne]
              cases q4 with
              | true =>
                (try simp only [Bool.not_true, Bool.not_false] at d4)
                go_wp2_with fail
                go_meet
                exact ⟨_, rfl, ⟨by simp only [badM, p0, p1, p2, p3, p4, Bool.true_or, Bool.false_or, Bool.or_true, Bool.or_false, Bool.true_and, Bool.false_and]⟩, rfl⟩
              | false =>
                (try simp only [Bool.not_true, Bool.not_false] at d4)
                obtain ⟨q5, p5⟩ : ∃ q, ((l4.length : Int) != x7) = q := ⟨_, rfl⟩
                have d5 : ((l4.length : Int) == x7) = !q5 := by rw [← p5]; simp [bne]
                cases q5 with
                | true =>
                  (try simp only [Bool.not_true, Bool.not_false] at d5)
                  go_wp2_with fail
                  go_meet
                  exact ⟨_, rfl, ⟨by simp only [badM, p0, p1, p2, p3, p4, p5, Bool.true_or, Bool.false_or, Bool.or_true, Bool.or_false, Bool.true_and, Bool.false_and]⟩, rfl⟩
                | false =>
                  (try simp only [Bool.not_true, Bool.not_false] at d5)
                  obtain ⟨q6, p6⟩ : ∃ q, ((l5.length : Int) != x8) = q := ⟨_, rfl⟩
                  have d6 : ((l5.length : Int) == x8) = !q6 := by rw [← p6]; simp [bne]
                  cases q6 with
                  | true =>
                    (try simp only [Bool.not_true, Bool.not_false] at d6)
                    go_wp2_with fail
                    go_meet
                    exact ⟨_, rfl, ⟨by simp only [badM, p0, p1, p2, p3, p4, p5, p6, Bool.true_or, Bool.false_or, Bool.or_true, Bool.or_false, Bool.true_and, Bool.false_and]⟩, rfl⟩
                  | false =>
                    (try simp only [Bool.not_true, Bool.not_false] at d6)
                    obtain ⟨q7, p7⟩ : ∃ q, (decide (12 ≤ bl)) = q := ⟨_, rfl⟩
                    cases q7 with
                    | true =>
                      obtain ⟨q8, p8⟩ : ∃ q, (k == 6) = q := ⟨_, rfl⟩
                      have d8 : (k != 6) = !q8 := by rw [← p8]; simp [bne]
                      cases q8 with
                      | true =>
                        (try simp only [Bool.not_true, Bool.not_false] at d8)
                        go_wp2_with fail
                        go_meet
                        exact ⟨_, rfl, ⟨by simp only [badM, p0, p1, p2, p3, p4, p5, p6, p7, p8, Bool.true_or, Bool.false_or, Bool.or_true, Bool.or_false, Bool.true_and, Bool.false_and]⟩, rfl⟩
                      | false =>
                        (try simp only [Bool.not_true, Bool.not_false] at d8)
                        obtain ⟨q9, p9⟩ : ∃ q, (k == 7) = q := ⟨_, rfl⟩
                        have d9 : (k != 7) = !q9 := by rw [← p9]; simp [bne]
                        cases q9 with
                        | true =>
                          (try simp only [Bool.not_true, Bool.not_false] at d9)
                          go_wp2_with fail
                          go_meet
                          exact ⟨_, rfl, ⟨by simp only [badM, p0, p1, p2, p3, p4, p5, p6, p7, p8, p9, Bool.true_or, Bool.false_or, Bool.or_true, Bool.or_false, Bool.true_and, Bool.false_and]⟩, rfl⟩
                        | false =>
                          (try simp only [Bool.not_true, Bool.not_false] at d9)
                          go_wp2_with fail
                          go_meet
                          exact ⟨_, rfl, ⟨by simp only [badM, p0, p1, p2, p3, p4, p5, p6, p7, p8, p9, Bool.true_or, Bool.false_or, Bool.or_true, Bool.or_false, Bool.true_and, Bool.false_and]⟩, rfl⟩
                    | false =>
                      go_wp2_with fail
                      go_meet
                      exact ⟨_, rfl, ⟨by simp only [badM, p0, p1, p2, p3, p4, p5, p6, p7, Bool.true_or, Bool.false_or, Bool.or_true, Bool.or_false, Bool.true_and, Bool.false_and]⟩, rfl⟩
    case rest =>
      obtain ⟨B, rfl, HBAD, rfl⟩ := hcut
      have hsays := badM_says k f2 f1 l3 l4 l5 x6 x7 x8 xn xc bl b HBL.out HB12.out HKR.out
      cases B with
      | true =>
        have e := HR.out
        rw [hsays.1 HBAD.out] at e
        subst e
        clear hsays
        go_wp2
        go_ret
        exact ⟨rfl, by repeat (first | (with_reducible first | exact HB.out | apply below_alloc | apply pw_below_drewN | apply below_drew1 | refine below_set ?_ GS.out | refine below_set ?_ GX.out) | exact HB.out)⟩
      | false =>
        obtain ⟨hh, hb0, rfl, rfl, rfl⟩ := hsays.2 HBAD.out
        have hfin := fin_eq b ⟨k, f1, f2, l3, l4, l5⟩ hh hb0
        have HR1 := Aside0.mk (hfin.symm.trans HR.out)
        have hemp : loopsB k = false → l4 = [] ∧ l5 = [] := head_empty (s := ⟨k, f1, f2, l3, l4, l5⟩) hh
        have HLB := Aside0.mk (show (0 < b) ∨ (l4 = [] ∧ l5 = []) from by
          cases hl : loopsB k with
          | true => exact .inl (hb0 hl)
          | false => exact .inr (hemp hl))
        clear hh hb0 hfin HR hsays hemp HBAD HKR
        go_wp2
        go_loopw [9] (fun v wr => ∃ i : Int, v = .int .i64 i ∧ 0 ≤ i ∧ i ≤ (l3.length : Int) ∧ Aside0 (((l3.drop i.toNat).all okA && (l4.all (fitSt (fitB (b - 1))) && l5.all (fitSt (fitB (b - 1))))) = r) ∧ Aside0 (wr.heap[sb]? = some (.cells #[.int .i64 k, .string f1, .int .i64 f2, .slice A3 l3.length c3, .slice A4 l4.length c4, .slice A5 l5.length c5] 41 (0, 0))) ∧ Aside0 (wr.heap[xb]? = some (.cells #[.int .i64 k, .string xn, .int .i64 xc, .slice none 0 0, .slice none 0 0, .slice none 0 0] 41 (0, 0))) ∧ Aside0 (Below w.heap.size w wr)) (fun v _ => l3.length - (intOf v).toNat)
        case atStart => exact ⟨0, rfl, Int.le_refl _, by omega, ⟨HR1.out⟩, ⟨by (with_reducible repeat (first | refine blk_drewN ?_ _ | refine blk_drew ?_ | refine blk_alloc ?_ _)); exact BS.out⟩, ⟨by (with_reducible repeat (first | refine blk_drewN ?_ _ | refine blk_drew ?_ | refine blk_alloc ?_ _)); exact BX.out⟩, ⟨by repeat (first | (with_reducible first | exact HB.out | apply below_alloc | apply pw_below_drewN | apply below_drew1 | refine below_set ?_ GS.out | refine below_set ?_ GX.out) | exact HB.out)⟩⟩
        case round =>
          clear BS BX HB HR1
          clear sz0 sz1 sz2 sz3 sz4 sz5 sf0 sf1 sf2 sf3 sf4 sf5
          clear xz0 xz1 xz2 xz3 xz4 xz5 xf0 xf1 xf2 xf3 xf4 xf5
          obtain ⟨i, rfl, hi0, hi1, HRi, BS, BX, HB⟩ := hrel
          obtain ⟨⟨sz0, sz1, sz2, sz3, sz4, sz5⟩, sf0, sf1, sf2, sf3, sf4, sf5⟩ := six BS.out
          obtain ⟨⟨xz0, xz1, xz2, xz3, xz4, xz5⟩, xf0, xf1, xf2, xf3, xf4, xf5⟩ := six BX.out
          by_cases hlt : i < (l3.length : Int)
          · have hb0 : decide (i < (l3.length : Int)) = true := decide_eq_true hlt
            have hdr := drop_rd38 l3 i hi0 hlt
            have HCN1 := Aside0.mk (show cntE (rd_T38 l3 i) ≤ 1000000 from by
              have z := cnt_drop38 l3 i.toNat
              rw [hdr] at z
              simp only [cntL] at z
              have := HCN.out
              omega)
            have HR0 := HRi.out
            rw [hdr, List.all_cons, Bool.and_assoc] at HR0
            obtain ⟨ad, A, c, eA, hx0, hx1, hx2, hx3, hx4, hl4, hi4⟩ := at_T38 (HC3.out) i hi0 hlt
            subst eA
            have HCE0 := Aside0.mk hi4
            have HLE := Aside0.mk hl4
            have HX := Aside0.mk (show _ ∧ _ ∧ _ ∧ _ ∧ _ from ⟨hx0, hx1, hx2, hx3, hx4⟩)
            replace hx0 := (HB.out.cell (World.block_lt_of_cell? w _ hx0)).trans hx0
            replace hx1 := (HB.out.cell (World.block_lt_of_cell? w _ hx1)).trans hx1
            replace hx2 := (HB.out.cell (World.block_lt_of_cell? w _ hx2)).trans hx2
            replace hx3 := (HB.out.cell (World.block_lt_of_cell? w _ hx3)).trans hx3
            replace hx4 := (HB.out.cell (World.block_lt_of_cell? w _ hx4)).trans hx4
            have p1 := eq_true hi0
            have p2 := eq_true hlt
            have hwi : wrap64 (i + 1) = i + 1 := by have := HCN.out; have := len_cntL l3; unfold wrap64; omega
            clear hdr hi4 hl4 HRi
            by_cases hd : deepE (rd_T38 l3 i) ≤ 48
            · have d1 : decide ((48 : Int) < ((min (deepE (rd_T38 l3 i)) 100 : Nat) : Int)) = false := decide_eq_false (by omega)
              obtain ⟨fb, hfb⟩ : ∃ fb, fitE (rd_T38 l3 i) = fb := ⟨_, rfl⟩
              have HF := Aside0.mk hfb
              have hok : okA (rd_T38 l3 i) = fb := by unfold okA; rw [decide_eq_true hd, hfb, Bool.true_and]
              rw [hok] at HR0
              have HR2 := Aside0.mk HR0
              clear HR0 hok hfb hd
              cases fb with
              | true =>
                go_wp2_with (first | (go_at_call 65; (with_reducible refine (deep_L (rd_T38 l3 i) A c _ (Kd.C_below HCE0.out (by repeat (first | (with_reducible first | exact HB.out | apply below_alloc | apply pw_below_drewN | apply below_drew1 | refine below_set ?_ GS.out | refine below_set ?_ GX.out) | exact HB.out))) HLE.out HCN1.out).mono ?_); rintro e wd ⟨rfl, hb⟩; have n0_ := Aside0.mk (below_step (by repeat (first | (with_reducible first | exact HB.out | apply below_alloc | apply pw_below_drewN | apply below_drew1 | refine below_set ?_ GS.out | refine below_set ?_ GX.out) | exact HB.out)) hb); have n1_ := Aside0.mk (blk_below (g := sb) (o := .cells #[.int .i64 k, .string f1, .int .i64 f2, .slice (some ad) l3.length c3, .slice A4 l4.length c4, .slice A5 l5.length c5] 41 (0, 0)) (by (with_reducible repeat (first | refine blk_drewN ?_ _ | refine blk_drew ?_ | refine blk_alloc ?_ _)); exact BS.out) hb); have n2_ := Aside0.mk (blk_below (g := xb) (o := .cells #[.int .i64 k, .string xn, .int .i64 xc, .slice none 0 0, .slice none 0 0, .slice none 0 0] 41 (0, 0)) (by (with_reducible repeat (first | refine blk_drewN ?_ _ | refine blk_drew ?_ | refine blk_alloc ?_ _)); exact BX.out) hb); clear HB BS BX hb; clear sz0 sz1 sz2 sz3 sz4 sz5 sf0 sf1 sf2 sf3 sf4 sf5; clear xz0 xz1 xz2 xz3 xz4 xz5 xf0 xf1 xf2 xf3 xf4 xf5; have HB := n0_; have BS := n1_; have BX := n2_; clear n0_ n1_ n2_; obtain ⟨⟨sz0, sz1, sz2, sz3, sz4, sz5⟩, sf0, sf1, sf2, sf3, sf4, sf5⟩ := six BS.out; obtain ⟨⟨xz0, xz1, xz2, xz3, xz4, xz5⟩, xf0, xf1, xf2, xf3, xf4, xf5⟩ := six BX.out; obtain ⟨hx0, hx1, hx2, hx3, hx4⟩ := HX.out; replace hx0 := (HB.out.cell (World.block_lt_of_cell? w _ hx0)).trans hx0; replace hx1 := (HB.out.cell (World.block_lt_of_cell? w _ hx1)).trans hx1; replace hx2 := (HB.out.cell (World.block_lt_of_cell? w _ hx2)).trans hx2; replace hx3 := (HB.out.cell (World.block_lt_of_cell? w _ hx3)).trans hx3; replace hx4 := (HB.out.cell (World.block_lt_of_cell? w _ hx4)).trans hx4) | (go_at_call 66; (with_reducible refine (fits_L (rd_T38 l3 i) A c _ (Kd.C_below HCE0.out (by repeat (first | (with_reducible first | exact HB.out | apply below_alloc | apply pw_below_drewN | apply below_drew1 | refine below_set ?_ GS.out | refine below_set ?_ GX.out) | exact HB.out))) HLE.out HCN1.out true HF.out).mono ?_); rintro e wf ⟨rfl, hb⟩; have n0_ := Aside0.mk (below_step (by repeat (first | (with_reducible first | exact HB.out | apply below_alloc | apply pw_below_drewN | apply below_drew1 | refine below_set ?_ GS.out | refine below_set ?_ GX.out) | exact HB.out)) hb); have n1_ := Aside0.mk (blk_below (g := sb) (o := .cells #[.int .i64 k, .string f1, .int .i64 f2, .slice (some ad) l3.length c3, .slice A4 l4.length c4, .slice A5 l5.length c5] 41 (0, 0)) (by (with_reducible repeat (first | refine blk_drewN ?_ _ | refine blk_drew ?_ | refine blk_alloc ?_ _)); exact BS.out) hb); have n2_ := Aside0.mk (blk_below (g := xb) (o := .cells #[.int .i64 k, .string xn, .int .i64 xc, .slice none 0 0, .slice none 0 0, .slice none 0 0] 41 (0, 0)) (by (with_reducible repeat (first | refine blk_drewN ?_ _ | refine blk_drew ?_ | refine blk_alloc ?_ _)); exact BX.out) hb); clear HB BS BX hb; clear sz0 sz1 sz2 sz3 sz4 sz5 sf0 sf1 sf2 sf3 sf4 sf5; clear xz0 xz1 xz2 xz3 xz4 xz5 xf0 xf1 xf2 xf3 xf4 xf5; have HB := n0_; have BS := n1_; have BX := n2_; clear n0_ n1_ n2_; obtain ⟨⟨sz0, sz1, sz2, sz3, sz4, sz5⟩, sf0, sf1, sf2, sf3, sf4, sf5⟩ := six BS.out; obtain ⟨⟨xz0, xz1, xz2, xz3, xz4, xz5⟩, xf0, xf1, xf2, xf3, xf4, xf5⟩ := six BX.out; obtain ⟨hx0, hx1, hx2, hx3, hx4⟩ := HX.out; replace hx0 := (HB.out.cell (World.block_lt_of_cell? w _ hx0)).trans hx0; replace hx1 := (HB.out.cell (World.block_lt_of_cell? w _ hx1)).trans hx1; replace hx2 := (HB.out.cell (World.block_lt_of_cell? w _ hx2)).trans hx2; replace hx3 := (HB.out.cell (World.block_lt_of_cell? w _ hx3)).trans hx3; replace hx4 := (HB.out.cell (World.block_lt_of_cell? w _ hx4)).trans hx4))
                go_roundw
                case rel => exact ⟨i + 1, (by simp only [hwi]), by omega, by omega, ⟨by have := HR2.out; rw [Bool.true_and] at this; exact this⟩, ⟨by (with_reducible repeat (first | refine blk_drewN ?_ _ | refine blk_drew ?_ | refine blk_alloc ?_ _)); exact BS.out⟩, ⟨by (with_reducible repeat (first | refine blk_drewN ?_ _ | refine blk_drew ?_ | refine blk_alloc ?_ _)); exact BX.out⟩, ⟨by repeat (first | (with_reducible first | exact HB.out | apply below_alloc | apply pw_below_drewN | apply below_drew1 | refine below_set ?_ GS.out | refine below_set ?_ GX.out) | exact HB.out)⟩⟩
                case measure => simp only [hwi, intOf]; omega
              | false =>
                go_wp2_with (first | (go_at_call 65; (with_reducible refine (deep_L (rd_T38 l3 i) A c _ (Kd.C_below HCE0.out (by repeat (first | (with_reducible first | exact HB.out | apply below_alloc | apply pw_below_drewN | apply below_drew1 | refine below_set ?_ GS.out | refine below_set ?_ GX.out) | exact HB.out))) HLE.out HCN1.out).mono ?_); rintro e wd ⟨rfl, hb⟩; have n0_ := Aside0.mk (below_step (by repeat (first | (with_reducible first | exact HB.out | apply below_alloc | apply pw_below_drewN | apply below_drew1 | refine below_set ?_ GS.out | refine below_set ?_ GX.out) | exact HB.out)) hb); have n1_ := Aside0.mk (blk_below (g := sb) (o := .cells #[.int .i64 k, .string f1, .int .i64 f2, .slice (some ad) l3.length c3, .slice A4 l4.length c4, .slice A5 l5.length c5] 41 (0, 0)) (by (with_reducible repeat (first | refine blk_drewN ?_ _ | refine blk_drew ?_ | refine blk_alloc ?_ _)); exact BS.out) hb); have n2_ := Aside0.mk (blk_below (g := xb) (o := .cells #[.int .i64 k, .string xn, .int .i64 xc, .slice none 0 0, .slice none 0 0, .slice none 0 0] 41 (0, 0)) (by (with_reducible repeat (first | refine blk_drewN ?_ _ | refine blk_drew ?_ | refine blk_alloc ?_ _)); exact BX.out) hb); clear HB BS BX hb; clear sz0 sz1 sz2 sz3 sz4 sz5 sf0 sf1 sf2 sf3 sf4 sf5; clear xz0 xz1 xz2 xz3 xz4 xz5 xf0 xf1 xf2 xf3 xf4 xf5; have HB := n0_; have BS := n1_; have BX := n2_; clear n0_ n1_ n2_; obtain ⟨⟨sz0, sz1, sz2, sz3, sz4, sz5⟩, sf0, sf1, sf2, sf3, sf4, sf5⟩ := six BS.out; obtain ⟨⟨xz0, xz1, xz2, xz3, xz4, xz5⟩, xf0, xf1, xf2, xf3, xf4, xf5⟩ := six BX.out; obtain ⟨hx0, hx1, hx2, hx3, hx4⟩ := HX.out; replace hx0 := (HB.out.cell (World.block_lt_of_cell? w _ hx0)).trans hx0; replace hx1 := (HB.out.cell (World.block_lt_of_cell? w _ hx1)).trans hx1; replace hx2 := (HB.out.cell (World.block_lt_of_cell? w _ hx2)).trans hx2; replace hx3 := (HB.out.cell (World.block_lt_of_cell? w _ hx3)).trans hx3; replace hx4 := (HB.out.cell (World.block_lt_of_cell? w _ hx4)).trans hx4) | (go_at_call 66; (with_reducible refine (fits_L (rd_T38 l3 i) A c _ (Kd.C_below HCE0.out (by repeat (first | (with_reducible first | exact HB.out | apply below_alloc | apply pw_below_drewN | apply below_drew1 | refine below_set ?_ GS.out | refine below_set ?_ GX.out) | exact HB.out))) HLE.out HCN1.out false HF.out).mono ?_); rintro e wf ⟨rfl, hb⟩; have n0_ := Aside0.mk (below_step (by repeat (first | (with_reducible first | exact HB.out | apply below_alloc | apply pw_below_drewN | apply below_drew1 | refine below_set ?_ GS.out | refine below_set ?_ GX.out) | exact HB.out)) hb); have n1_ := Aside0.mk (blk_below (g := sb) (o := .cells #[.int .i64 k, .string f1, .int .i64 f2, .slice (some ad) l3.length c3, .slice A4 l4.length c4, .slice A5 l5.length c5] 41 (0, 0)) (by (with_reducible repeat (first | refine blk_drewN ?_ _ | refine blk_drew ?_ | refine blk_alloc ?_ _)); exact BS.out) hb); have n2_ := Aside0.mk (blk_below (g := xb) (o := .cells #[.int .i64 k, .string xn, .int .i64 xc, .slice none 0 0, .slice none 0 0, .slice none 0 0] 41 (0, 0)) (by (with_reducible repeat (first | refine blk_drewN ?_ _ | refine blk_drew ?_ | refine blk_alloc ?_ _)); exact BX.out) hb); clear HB BS BX hb; clear sz0 sz1 sz2 sz3 sz4 sz5 sf0 sf1 sf2 sf3 sf4 sf5; clear xz0 xz1 xz2 xz3 xz4 xz5 xf0 xf1 xf2 xf3 xf4 xf5; have HB := n0_; have BS := n1_; have BX := n2_; clear n0_ n1_ n2_; obtain ⟨⟨sz0, sz1, sz2, sz3, sz4, sz5⟩, sf0, sf1, sf2, sf3, sf4, sf5⟩ := six BS.out; obtain ⟨⟨xz0, xz1, xz2, xz3, xz4, xz5⟩, xf0, xf1, xf2, xf3, xf4, xf5⟩ := six BX.out; obtain ⟨hx0, hx1, hx2, hx3, hx4⟩ := HX.out; replace hx0 := (HB.out.cell (World.block_lt_of_cell? w _ hx0)).trans hx0; replace hx1 := (HB.out.cell (World.block_lt_of_cell? w _ hx1)).trans hx1; replace hx2 := (HB.out.cell (World.block_lt_of_cell? w _ hx2)).trans hx2; replace hx3 := (HB.out.cell (World.block_lt_of_cell? w _ hx3)).trans hx3; replace hx4 := (HB.out.cell (World.block_lt_of_cell? w _ hx4)).trans hx4))
                go_ret
                have e := HR2.out
                rw [Bool.false_and] at e
                subst e
                exact ⟨rfl, by repeat (first | (with_reducible first | exact HB.out | apply below_alloc | apply pw_below_drewN | apply below_drew1 | refine below_set ?_ GS.out | refine below_set ?_ GX.out) | exact HB.out)⟩
            · have d1 : decide ((48 : Int) < ((min (deepE (rd_T38 l3 i)) 100 : Nat) : Int)) = true := decide_eq_true (by omega)
              have hok : okA (rd_T38 l3 i) = false := by unfold okA; rw [decide_eq_false hd, Bool.false_and]
              rw [hok] at HR0
              have HR2 := Aside0.mk HR0
              clear HR0 hok hd
              go_wp2_with (first | (go_at_call 65; (with_reducible refine (deep_L (rd_T38 l3 i) A c _ (Kd.C_below HCE0.out (by repeat (first | (with_reducible first | exact HB.out | apply below_alloc | apply pw_below_drewN | apply below_drew1 | refine below_set ?_ GS.out | refine below_set ?_ GX.out) | exact HB.out))) HLE.out HCN1.out).mono ?_); rintro e wd ⟨rfl, hb⟩; have n0_ := Aside0.mk (below_step (by repeat (first | (with_reducible first | exact HB.out | apply below_alloc | apply pw_below_drewN | apply below_drew1 | refine below_set ?_ GS.out | refine below_set ?_ GX.out) | exact HB.out)) hb); have n1_ := Aside0.mk (blk_below (g := sb) (o := .cells #[.int .i64 k, .string f1, .int .i64 f2, .slice (some ad) l3.length c3, .slice A4 l4.length c4, .slice A5 l5.length c5] 41 (0, 0)) (by (with_reducible repeat (first | refine blk_drewN ?_ _ | refine blk_drew ?_ | refine blk_alloc ?_ _)); exact BS.out) hb); have n2_ := Aside0.mk (blk_below (g := xb) (o := .cells #[.int .i64 k, .string xn, .int .i64 xc, .slice none 0 0, .slice none 0 0, .slice none 0 0] 41 (0, 0)) (by (with_reducible repeat (first | refine blk_drewN ?_ _ | refine blk_drew ?_ | refine blk_alloc ?_ _)); exact BX.out) hb); clear HB BS BX hb; clear sz0 sz1 sz2 sz3 sz4 sz5 sf0 sf1 sf2 sf3 sf4 sf5; clear xz0 xz1 xz2 xz3 xz4 xz5 xf0 xf1 xf2 xf3 xf4 xf5; have HB := n0_; have BS := n1_; have BX := n2_; clear n0_ n1_ n2_; obtain ⟨⟨sz0, sz1, sz2, sz3, sz4, sz5⟩, sf0, sf1, sf2, sf3, sf4, sf5⟩ := six BS.out; obtain ⟨⟨xz0, xz1, xz2, xz3, xz4, xz5⟩, xf0, xf1, xf2, xf3, xf4, xf5⟩ := six BX.out; obtain ⟨hx0, hx1, hx2, hx3, hx4⟩ := HX.out; replace hx0 := (HB.out.cell (World.block_lt_of_cell? w _ hx0)).trans hx0; replace hx1 := (HB.out.cell (World.block_lt_of_cell? w _ hx1)).trans hx1; replace hx2 := (HB.out.cell (World.block_lt_of_cell? w _ hx2)).trans hx2; replace hx3 := (HB.out.cell (World.block_lt_of_cell? w _ hx3)).trans hx3; replace hx4 := (HB.out.cell (World.block_lt_of_cell? w _ hx4)).trans hx4))
              go_ret
              have e := HR2.out
              rw [Bool.false_and] at e
              subst e
              exact ⟨rfl, by repeat (first | (with_reducible first | exact HB.out | apply below_alloc | apply pw_below_drewN | apply below_drew1 | refine below_set ?_ GS.out | refine below_set ?_ GX.out) | exact HB.out)⟩
          · have hb0 : decide (i < (l3.length : Int)) = false := decide_eq_false hlt
            have HR1 : Aside0 ((l4.all (fitSt (fitB (b - 1))) && l5.all (fitSt (fitB (b - 1)))) = r) := ⟨by have := HRi.out; rw [List.drop_eq_nil_of_le (by omega)] at this; exact this⟩
            clear HRi hlt hi0 hi1
            go_wp2
            go_loopw [10] (fun v wr => ∃ i : Int, v = .int .i64 i ∧ 0 ≤ i ∧ i ≤ (l4.length : Int) ∧ Aside0 (((l4.drop i.toNat).all (fitSt (fitB (b - 1))) && l5.all (fitSt (fitB (b - 1)))) = r) ∧ Aside0 (wr.heap[sb]? = some (.cells #[.int .i64 k, .string f1, .int .i64 f2, .slice A3 l3.length c3, .slice A4 l4.length c4, .slice A5 l5.length c5] 41 (0, 0))) ∧ Aside0 (wr.heap[xb]? = some (.cells #[.int .i64 k, .string xn, .int .i64 xc, .slice none 0 0, .slice none 0 0, .slice none 0 0] 41 (0, 0))) ∧ Aside0 (Below w.heap.size w wr)) (fun v _ => l4.length - (intOf v).toNat)
            case atStart => exact ⟨0, rfl, Int.le_refl _, by omega, ⟨HR1.out⟩, ⟨by (with_reducible repeat (first | refine blk_drewN ?_ _ | refine blk_drew ?_ | refine blk_alloc ?_ _)); exact BS.out⟩, ⟨by (with_reducible repeat (first | refine blk_drewN ?_ _ | refine blk_drew ?_ | refine blk_alloc ?_ _)); exact BX.out⟩, ⟨by repeat (first | (with_reducible first | exact HB.out | apply below_alloc | apply pw_below_drewN | apply below_drew1 | refine below_set ?_ GS.out | refine below_set ?_ GX.out) | exact HB.out)⟩⟩
            case round =>
              clear BS BX HB HR1
              clear sz0 sz1 sz2 sz3 sz4 sz5 sf0 sf1 sf2 sf3 sf4 sf5
              clear xz0 xz1 xz2 xz3 xz4 xz5 xf0 xf1 xf2 xf3 xf4 xf5
              obtain ⟨i, rfl, hi0, hi1, HRi, BS, BX, HB⟩ := hrel
              obtain ⟨⟨sz0, sz1, sz2, sz3, sz4, sz5⟩, sf0, sf1, sf2, sf3, sf4, sf5⟩ := six BS.out
              obtain ⟨⟨xz0, xz1, xz2, xz3, xz4, xz5⟩, xf0, xf1, xf2, xf3, xf4, xf5⟩ := six BX.out
              by_cases hlt : i < (l4.length : Int)
              · have hb0 : decide (i < (l4.length : Int)) = true := decide_eq_true hlt
                have hdr := drop_rd41 l4 i hi0 hlt
                have HCN1 := Aside0.mk (show cntS (rd_T41 l4 i) ≤ 1000000 from by
                  have z := cnt_drop41 l4 i.toNat
                  rw [hdr] at z
                  simp only [cntB] at z
                  have := HCN.out
                  omega)
                have HB0 := Aside0.mk (show 0 < b from by
                  rcases HLB.out with h | ⟨h1, h2⟩
                  · exact h
                  · rw [h1] at hlt; simp at hlt; omega)
                have HR0 := HRi.out
                rw [hdr, List.all_cons, Bool.and_assoc] at HR0
                obtain ⟨ad, B3, d3, B4, d4, B5, d5, eA, hx0, hx1, hx2, hx3, hx4, hx5, hl3, hi3, hl4, hi4, hl5, hi5⟩ := at_T41 HC4.out i hi0 hlt
                subst eA
                have HLE := Aside0.mk (show _ ∧ _ ∧ _ from ⟨hl3, hl4, hl5⟩)
                have HCE := Aside0.mk (show _ ∧ _ ∧ _ from ⟨hi3, hi4, hi5⟩)
                replace hx0 := (HB.out.cell (World.block_lt_of_cell? w _ hx0)).trans hx0
                replace hx1 := (HB.out.cell (World.block_lt_of_cell? w _ hx1)).trans hx1
                replace hx2 := (HB.out.cell (World.block_lt_of_cell? w _ hx2)).trans hx2
                replace hx3 := (HB.out.cell (World.block_lt_of_cell? w _ hx3)).trans hx3
                replace hx4 := (HB.out.cell (World.block_lt_of_cell? w _ hx4)).trans hx4
                replace hx5 := (HB.out.cell (World.block_lt_of_cell? w _ hx5)).trans hx5
                have p1 := eq_true hi0
                have p2 := eq_true hlt
                obtain ⟨fb, hfb⟩ : ∃ fb, fitSt (fitB (b - 1)) (rd_T41 l4 i) = fb := ⟨_, rfl⟩
                have HF := Aside0.mk hfb
                rw [hfb] at HR0
                have HR2 := Aside0.mk HR0
                have hwi : wrap64 (i + 1) = i + 1 := by have := HCN.out; have := len_cntB l4; unfold wrap64; omega
                have hw : wrap64 (bl + 1) = bl + 1 := by have := HBL.out; have := HB12.out; unfold wrap64; omega
                clear hdr hi3 hi4 hi5 hl3 hl4 hl5 HRi HR0 hfb
                cases fb with
                | true =>
                  go_wp2_with (first | (go_at_call 41; (with_reducible refine ((HIH.out HB0.out).use (rd_T41 l4 i) B3 B4 B5 d3 d4 d5 true _ _ (by have := HBL.out; have := HB0.out; omega) HCN1.out (Kd.C_below HCE.out.1 (by repeat (first | (with_reducible first | exact HB.out | apply below_alloc | apply pw_below_drewN | apply below_drew1 | refine below_set ?_ GS.out | refine below_set ?_ GX.out) | exact HB.out))) HLE.out.1 (Kd.C_below HCE.out.2.1 (by repeat (first | (with_reducible first | exact HB.out | apply below_alloc | apply pw_below_drewN | apply below_drew1 | refine below_set ?_ GS.out | refine below_set ?_ GX.out) | exact HB.out))) HLE.out.2.1 (Kd.C_below HCE.out.2.2 (by repeat (first | (with_reducible first | exact HB.out | apply below_alloc | apply pw_below_drewN | apply below_drew1 | refine below_set ?_ GS.out | refine below_set ?_ GX.out) | exact HB.out))) HLE.out.2.2 HF.out).mono ?_); rintro e wf ⟨rfl, hb⟩; have n0_ := Aside0.mk (below_step (by repeat (first | (with_reducible first | exact HB.out | apply below_alloc | apply pw_below_drewN | apply below_drew1 | refine below_set ?_ GS.out | refine below_set ?_ GX.out) | exact HB.out)) hb); have n1_ := Aside0.mk (blk_below (g := sb) (o := .cells #[.int .i64 k, .string f1, .int .i64 f2, .slice A3 l3.length c3, .slice (some ad) l4.length c4, .slice A5 l5.length c5] 41 (0, 0)) (by (with_reducible repeat (first | refine blk_drewN ?_ _ | refine blk_drew ?_ | refine blk_alloc ?_ _)); exact BS.out) hb); have n2_ := Aside0.mk (blk_below (g := xb) (o := .cells #[.int .i64 k, .string xn, .int .i64 xc, .slice none 0 0, .slice none 0 0, .slice none 0 0] 41 (0, 0)) (by (with_reducible repeat (first | refine blk_drewN ?_ _ | refine blk_drew ?_ | refine blk_alloc ?_ _)); exact BX.out) hb); clear HB BS BX hb; clear sz0 sz1 sz2 sz3 sz4 sz5 sf0 sf1 sf2 sf3 sf4 sf5; clear xz0 xz1 xz2 xz3 xz4 xz5 xf0 xf1 xf2 xf3 xf4 xf5; have HB := n0_; have BS := n1_; have BX := n2_; clear n0_ n1_ n2_; obtain ⟨⟨sz0, sz1, sz2, sz3, sz4, sz5⟩, sf0, sf1, sf2, sf3, sf4, sf5⟩ := six BS.out; obtain ⟨⟨xz0, xz1, xz2, xz3, xz4, xz5⟩, xf0, xf1, xf2, xf3, xf4, xf5⟩ := six BX.out))
                  go_roundw
                  case rel => exact ⟨i + 1, (by simp only [hwi]), by omega, by omega, ⟨by have := HR2.out; rw [Bool.true_and] at this; exact this⟩, ⟨by (with_reducible repeat (first | refine blk_drewN ?_ _ | refine blk_drew ?_ | refine blk_alloc ?_ _)); exact BS.out⟩, ⟨by (with_reducible repeat (first | refine blk_drewN ?_ _ | refine blk_drew ?_ | refine blk_alloc ?_ _)); exact BX.out⟩, ⟨by repeat (first | (with_reducible first | exact HB.out | apply below_alloc | apply pw_below_drewN | apply below_drew1 | refine below_set ?_ GS.out | refine below_set ?_ GX.out) | exact HB.out)⟩⟩
                  case measure => simp only [hwi, intOf]; omega
                | false =>
                  go_wp2_with (first | (go_at_call 41; (with_reducible refine ((HIH.out HB0.out).use (rd_T41 l4 i) B3 B4 B5 d3 d4 d5 false _ _ (by have := HBL.out; have := HB0.out; omega) HCN1.out (Kd.C_below HCE.out.1 (by repeat (first | (with_reducible first | exact HB.out | apply below_alloc | apply pw_below_drewN | apply below_drew1 | refine below_set ?_ GS.out | refine below_set ?_ GX.out) | exact HB.out))) HLE.out.1 (Kd.C_below HCE.out.2.1 (by repeat (first | (with_reducible first | exact HB.out | apply below_alloc | apply pw_below_drewN | apply below_drew1 | refine below_set ?_ GS.out | refine below_set ?_ GX.out) | exact HB.out))) HLE.out.2.1 (Kd.C_below HCE.out.2.2 (by repeat (first | (with_reducible first | exact HB.out | apply below_alloc | apply pw_below_drewN | apply below_drew1 | refine below_set ?_ GS.out | refine below_set ?_ GX.out) | exact HB.out))) HLE.out.2.2 HF.out).mono ?_); rintro e wf ⟨rfl, hb⟩; have n0_ := Aside0.mk (below_step (by repeat (first | (with_reducible first | exact HB.out | apply below_alloc | apply pw_below_drewN | apply below_drew1 | refine below_set ?_ GS.out | refine below_set ?_ GX.out) | exact HB.out)) hb); have n1_ := Aside0.mk (blk_below (g := sb) (o := .cells #[.int .i64 k, .string f1, .int .i64 f2, .slice A3 l3.length c3, .slice (some ad) l4.length c4, .slice A5 l5.length c5] 41 (0, 0)) (by (with_reducible repeat (first | refine blk_drewN ?_ _ | refine blk_drew ?_ | refine blk_alloc ?_ _)); exact BS.out) hb); have n2_ := Aside0.mk (blk_below (g := xb) (o := .cells #[.int .i64 k, .string xn, .int .i64 xc, .slice none 0 0, .slice none 0 0, .slice none 0 0] 41 (0, 0)) (by (with_reducible repeat (first | refine blk_drewN ?_ _ | refine blk_drew ?_ | refine blk_alloc ?_ _)); exact BX.out) hb); clear HB BS BX hb; clear sz0 sz1 sz2 sz3 sz4 sz5 sf0 sf1 sf2 sf3 sf4 sf5; clear xz0 xz1 xz2 xz3 xz4 xz5 xf0 xf1 xf2 xf3 xf4 xf5; have HB := n0_; have BS := n1_; have BX := n2_; clear n0_ n1_ n2_; obtain ⟨⟨sz0, sz1, sz2, sz3, sz4, sz5⟩, sf0, sf1, sf2, sf3, sf4, sf5⟩ := six BS.out; obtain ⟨⟨xz0, xz1, xz2, xz3, xz4, xz5⟩, xf0, xf1, xf2, xf3, xf4, xf5⟩ := six BX.out))
                  go_ret
                  have e := HR2.out
                  rw [Bool.false_and] at e
                  subst e
                  exact ⟨rfl, by repeat (first | (with_reducible first | exact HB.out | apply below_alloc | apply pw_below_drewN | apply below_drew1 | refine below_set ?_ GS.out | refine below_set ?_ GX.out) | exact HB.out)⟩
              · have hb0 : decide (i < (l4.length : Int)) = false := decide_eq_false hlt
                have HR1 : Aside0 (l5.all (fitSt (fitB (b - 1))) = r) := ⟨by have := HRi.out; rw [List.drop_eq_nil_of_le (by omega)] at this; exact this⟩
                clear HRi hlt hi0 hi1
                go_wp2
                go_loopw [11] (fun v wr => ∃ i : Int, v = .int .i64 i ∧ 0 ≤ i ∧ i ≤ (l5.length : Int) ∧ Aside0 (((l5.drop i.toNat).all (fitSt (fitB (b - 1))) && true) = r) ∧ Aside0 (wr.heap[sb]? = some (.cells #[.int .i64 k, .string f1, .int .i64 f2, .slice A3 l3.length c3, .slice A4 l4.length c4, .slice A5 l5.length c5] 41 (0, 0))) ∧ Aside0 (wr.heap[xb]? = some (.cells #[.int .i64 k, .string xn, .int .i64 xc, .slice none 0 0, .slice none 0 0, .slice none 0 0] 41 (0, 0))) ∧ Aside0 (Below w.heap.size w wr)) (fun v _ => l5.length - (intOf v).toNat)
                case atStart => exact ⟨0, rfl, Int.le_refl _, by omega, ⟨by rw [Bool.and_true]; exact HR1.out⟩, ⟨by (with_reducible repeat (first | refine blk_drewN ?_ _ | refine blk_drew ?_ | refine blk_alloc ?_ _)); exact BS.out⟩, ⟨by (with_reducible repeat (first | refine blk_drewN ?_ _ | refine blk_drew ?_ | refine blk_alloc ?_ _)); exact BX.out⟩, ⟨by repeat (first | (with_reducible first | exact HB.out | apply below_alloc | apply pw_below_drewN | apply below_drew1 | refine below_set ?_ GS.out | refine below_set ?_ GX.out) | exact HB.out)⟩⟩
                case round =>
                  clear BS BX HB HR1
                  clear sz0 sz1 sz2 sz3 sz4 sz5 sf0 sf1 sf2 sf3 sf4 sf5
                  clear xz0 xz1 xz2 xz3 xz4 xz5 xf0 xf1 xf2 xf3 xf4 xf5
                  obtain ⟨i, rfl, hi0, hi1, HRi, BS, BX, HB⟩ := hrel
                  obtain ⟨⟨sz0, sz1, sz2, sz3, sz4, sz5⟩, sf0, sf1, sf2, sf3, sf4, sf5⟩ := six BS.out
                  obtain ⟨⟨xz0, xz1, xz2, xz3, xz4, xz5⟩, xf0, xf1, xf2, xf3, xf4, xf5⟩ := six BX.out
                  by_cases hlt : i < (l5.length : Int)
                  · have hb0 : decide (i < (l5.length : Int)) = true := decide_eq_true hlt
                    have hdr := drop_rd41 l5 i hi0 hlt
                    have HCN1 := Aside0.mk (show cntS (rd_T41 l5 i) ≤ 1000000 from by
                      have z := cnt_drop41 l5 i.toNat
                      rw [hdr] at z
                      simp only [cntB] at z
                      have := HCN.out
                      omega)
                    have HB0 := Aside0.mk (show 0 < b from by
                      rcases HLB.out with h | ⟨h1, h2⟩
                      · exact h
                      · rw [h2] at hlt; simp at hlt; omega)
                    have HR0 := HRi.out
                    rw [hdr, List.all_cons, Bool.and_assoc] at HR0
                    obtain ⟨ad, B3, d3, B4, d4, B5, d5, eA, hx0, hx1, hx2, hx3, hx4, hx5, hl3, hi3, hl4, hi4, hl5, hi5⟩ := at_T41 HC5.out i hi0 hlt
                    subst eA
                    have HLE := Aside0.mk (show _ ∧ _ ∧ _ from ⟨hl3, hl4, hl5⟩)
                    have HCE := Aside0.mk (show _ ∧ _ ∧ _ from ⟨hi3, hi4, hi5⟩)
                    replace hx0 := (HB.out.cell (World.block_lt_of_cell? w _ hx0)).trans hx0
                    replace hx1 := (HB.out.cell (World.block_lt_of_cell? w _ hx1)).trans hx1
                    replace hx2 := (HB.out.cell (World.block_lt_of_cell? w _ hx2)).trans hx2
                    replace hx3 := (HB.out.cell (World.block_lt_of_cell? w _ hx3)).trans hx3
                    replace hx4 := (HB.out.cell (World.block_lt_of_cell? w _ hx4)).trans hx4
                    replace hx5 := (HB.out.cell (World.block_lt_of_cell? w _ hx5)).trans hx5
                    have p1 := eq_true hi0
                    have p2 := eq_true hlt
                    obtain ⟨fb, hfb⟩ : ∃ fb, fitSt (fitB (b - 1)) (rd_T41 l5 i) = fb := ⟨_, rfl⟩
                    have HF := Aside0.mk hfb
                    rw [hfb] at HR0
                    have HR2 := Aside0.mk HR0
                    have hwi : wrap64 (i + 1) = i + 1 := by have := HCN.out; have := len_cntB l5; unfold wrap64; omega
                    have hw : wrap64 (bl + 1) = bl + 1 := by have := HBL.out; have := HB12.out; unfold wrap64; omega
                    clear hdr hi3 hi4 hi5 hl3 hl4 hl5 HRi HR0 hfb
                    cases fb with
                    | true =>
                      go_wp2_with (first | (go_at_call 41; (with_reducible refine ((HIH.out HB0.out).use (rd_T41 l5 i) B3 B4 B5 d3 d4 d5 true _ _ (by have := HBL.out; have := HB0.out; omega) HCN1.out (Kd.C_below HCE.out.1 (by repeat (first | (with_reducible first | exact HB.out | apply below_alloc | apply pw_below_drewN | apply below_drew1 | refine below_set ?_ GS.out | refine below_set ?_ GX.out) | exact HB.out))) HLE.out.1 (Kd.C_below HCE.out.2.1 (by repeat (first | (with_reducible first | exact HB.out | apply below_alloc | apply pw_below_drewN | apply below_drew1 | refine below_set ?_ GS.out | refine below_set ?_ GX.out) | exact HB.out))) HLE.out.2.1 (Kd.C_below HCE.out.2.2 (by repeat (first | (with_reducible first | exact HB.out | apply below_alloc | apply pw_below_drewN | apply below_drew1 | refine below_set ?_ GS.out | refine below_set ?_ GX.out) | exact HB.out))) HLE.out.2.2 HF.out).mono ?_); rintro e wf ⟨rfl, hb⟩; have n0_ := Aside0.mk (below_step (by repeat (first | (with_reducible first | exact HB.out | apply below_alloc | apply pw_below_drewN | apply below_drew1 | refine below_set ?_ GS.out | refine below_set ?_ GX.out) | exact HB.out)) hb); have n1_ := Aside0.mk (blk_below (g := sb) (o := .cells #[.int .i64 k, .string f1, .int .i64 f2, .slice A3 l3.length c3, .slice A4 l4.length c4, .slice (some ad) l5.length c5] 41 (0, 0)) (by (with_reducible repeat (first | refine blk_drewN ?_ _ | refine blk_drew ?_ | refine blk_alloc ?_ _)); exact BS.out) hb); have n2_ := Aside0.mk (blk_below (g := xb) (o := .cells #[.int .i64 k, .string xn, .int .i64 xc, .slice none 0 0, .slice none 0 0, .slice none 0 0] 41 (0, 0)) (by (with_reducible repeat (first | refine blk_drewN ?_ _ | refine blk_drew ?_ | refine blk_alloc ?_ _)); exact BX.out) hb); clear HB BS BX hb; clear sz0 sz1 sz2 sz3 sz4 sz5 sf0 sf1 sf2 sf3 sf4 sf5; clear xz0 xz1 xz2 xz3 xz4 xz5 xf0 xf1 xf2 xf3 xf4 xf5; have HB := n0_; have BS := n1_; have BX := n2_; clear n0_ n1_ n2_; obtain ⟨⟨sz0, sz1, sz2, sz3, sz4, sz5⟩, sf0, sf1, sf2, sf3, sf4, sf5⟩ := six BS.out; obtain ⟨⟨xz0, xz1, xz2, xz3, xz4, xz5⟩, xf0, xf1, xf2, xf3, xf4, xf5⟩ := six BX.out))
                      go_roundw
                      case rel => exact ⟨i + 1, (by simp only [hwi]), by omega, by omega, ⟨by have := HR2.out; rw [Bool.true_and] at this; exact this⟩, ⟨by (with_reducible repeat (first | refine blk_drewN ?_ _ | refine blk_drew ?_ | refine blk_alloc ?_ _)); exact BS.out⟩, ⟨by (with_reducible repeat (first | refine blk_drewN ?_ _ | refine blk_drew ?_ | refine blk_alloc ?_ _)); exact BX.out⟩, ⟨by repeat (first | (with_reducible first | exact HB.out | apply below_alloc | apply pw_below_drewN | apply below_drew1 | refine below_set ?_ GS.out | refine below_set ?_ GX.out) | exact HB.out)⟩⟩
                      case measure => simp only [hwi, intOf]; omega
                    | false =>
                      go_wp2_with (first | (go_at_call 41; (with_reducible refine ((HIH.out HB0.out).use (rd_T41 l5 i) B3 B4 B5 d3 d4 d5 false _ _ (by have := HBL.out; have := HB0.out; omega) HCN1.out (Kd.C_below HCE.out.1 (by repeat (first | (with_reducible first | exact HB.out | apply below_alloc | apply pw_below_drewN | apply below_drew1 | refine below_set ?_ GS.out | refine below_set ?_ GX.out) | exact HB.out))) HLE.out.1 (Kd.C_below HCE.out.2.1 (by repeat (first | (with_reducible first | exact HB.out | apply below_alloc | apply pw_below_drewN | apply below_drew1 | refine below_set ?_ GS.out | refine below_set ?_ GX.out) | exact HB.out))) HLE.out.2.1 (Kd.C_below HCE.out.2.2 (by repeat (first | (with_reducible first | exact HB.out | apply below_alloc | apply pw_below_drewN | apply below_drew1 | refine below_set ?_ GS.out | refine below_set ?_ GX.out) | exact HB.out))) HLE.out.2.2 HF.out).mono ?_); rintro e wf ⟨rfl, hb⟩; have n0_ := Aside0.mk (below_step (by repeat (first | (with_reducible first | exact HB.out | apply below_alloc | apply pw_below_drewN | apply below_drew1 | refine below_set ?_ GS.out | refine below_set ?_ GX.out) | exact HB.out)) hb); have n1_ := Aside0.mk (blk_below (g := sb) (o := .cells #[.int .i64 k, .string f1, .int .i64 f2, .slice A3 l3.length c3, .slice A4 l4.length c4, .slice (some ad) l5.length c5] 41 (0, 0)) (by (with_reducible repeat (first | refine blk_drewN ?_ _ | refine blk_drew ?_ | refine blk_alloc ?_ _)); exact BS.out) hb); have n2_ := Aside0.mk (blk_below (g := xb) (o := .cells #[.int .i64 k, .string xn, .int .i64 xc, .slice none 0 0, .slice none 0 0, .slice none 0 0] 41 (0, 0)) (by (with_reducible repeat (first | refine blk_drewN ?_ _ | refine blk_drew ?_ | refine blk_alloc ?_ _)); exact BX.out) hb); clear HB BS BX hb; clear sz0 sz1 sz2 sz3 sz4 sz5 sf0 sf1 sf2 sf3 sf4 sf5; clear xz0 xz1 xz2 xz3 xz4 xz5 xf0 xf1 xf2 xf3 xf4 xf5; have HB := n0_; have BS := n1_; have BX := n2_; clear n0_ n1_ n2_; obtain ⟨⟨sz0, sz1, sz2, sz3, sz4, sz5⟩, sf0, sf1, sf2, sf3, sf4, sf5⟩ := six BS.out; obtain ⟨⟨xz0, xz1, xz2, xz3, xz4, xz5⟩, xf0, xf1, xf2, xf3, xf4, xf5⟩ := six BX.out))
                      go_ret
                      have e := HR2.out
                      rw [Bool.false_and] at e
                      subst e
                      exact ⟨rfl, by repeat (first | (with_reducible first | exact HB.out | apply below_alloc | apply pw_below_drewN | apply below_drew1 | refine below_set ?_ GS.out | refine below_set ?_ GX.out) | exact HB.out)⟩
                  · have hb0 : decide (i < (l5.length : Int)) = false := decide_eq_false hlt
                    have HR1 : Aside0 (true = r) := ⟨by have := HRi.out; rw [List.drop_eq_nil_of_le (by omega)] at this; exact this⟩
                    clear HRi hlt hi0 hi1
                    go_wp2
                    go_ret
                    have e := HR1.out
                    subst e
                    exact ⟨rfl, by repeat (first | (with_reducible first | exact HB.out | apply below_alloc | apply pw_below_drewN | apply below_drew1 | refine below_set ?_ GS.out | refine below_set ?_ GX.out) | exact HB.out)⟩
theorem may_ok : ∀ b, b ≤ 12 → MayC b
  | 0, h => by
    intro s A3 A4 A5 c3 c4 c5 r w bl hbl hc h3 i3 h4 i4 h5 i5 hr
    rw [cntS_eq] at hc
    exact may_step 0 h (fun z => absurd z (Nat.lt_irrefl 0)) s.f0 s.f1 s.f2 s.f3 s.f4 s.f5 A3 A4 A5 c3 c4 c5 r w bl hbl hc h3 i3 h4 i4 h5 i5 (by rw [eta41]; exact hr)
  | b + 1, h => by
    intro s A3 A4 A5 c3 c4 c5 r w bl hbl hc h3 i3 h4 i4 h5 i5 hr
    rw [cntS_eq] at hc
    exact may_step (b + 1) h (fun _ => may_ok b (by omega)) s.f0 s.f1 s.f2 s.f3 s.f4 s.f5 A3 A4 A5 c3 c4 c5 r w bl hbl hc h3 i3 h4 i4 h5 i5 (by rw [eta41]; exact hr)
end Go.Proofs.Ytobkdmmnbnpemaa.K
