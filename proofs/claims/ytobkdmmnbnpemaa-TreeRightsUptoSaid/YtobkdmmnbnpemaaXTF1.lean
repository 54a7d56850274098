/- The reference's `fits`, walked by hand; what its callees answer. -/
import Derived.Test.YtobkdmmnbnpemaaXTPR1
import Derived.Test.YtobkdmmnbnpemaaXTPL1
import Derived.Test.YtobkdmmnbnpemaaXTY1
import Derived.Lib.Hide
namespace Go.Proofs.Ytobkdmmnbnpemaa.K
open Go.RowKit Go.Proofs.YtobkdmmnbnpemaaW.PrintWords Go.Proofs.YtobkdmmnbnpemaaW.PrintLast Go.Proofs.YtobkdmmnbnpemaaW.PrintMore
attribute [local go_sem] max2_int min2_int max_two min_two max_three min_three max_four min_four
set_option linter.unusedVariables false
set_option linter.unusedSimpArgs false
theorem rname_any (s : ByteArray) : ∃ k, outriderref03_Name.f k s = some (nameB (lst s)) := by
  by_cases h : s.size ≤ 140737488351232
  · exact rname_ok s h
  · have hlen := lst_len s
    refine ⟨0, ?_⟩
    unfold outriderref03_Name.f
    rw [if_neg (by omega)]
    cases hl : lst s with
    | nil => rw [hl] at hlen; simp at hlen; omega
    | cons c l =>
      rw [hl] at hlen
      have hnb : nameB (c :: l) = (decide ((c :: l).length ≤ 12) && (letB c && (!wordsB (c :: l) && l.all anB))) := rfl
      rw [hnb, decide_eq_false (by omega)]
      rfl
theorem rname_L (s : ByteArray) (b : Bool) (w : World) (h : nameB (lst s) = b) : Calls Try.prog 64 #[.string s] w fun e w' => e = .returned (.bool b) ∧ Below w.heap.size w w' := by
  subst h
  obtain ⟨k, hk⟩ := rname_any s
  exact outriderref03_Name.calls k s _ w hk
theorem fivf {w : World} {g : Nat} {t : TypeId} {a0 a1 a2 a3 a4 : Value} (h : w.heap[g]? = some (.cells #[a0, a1, a2, a3, a4] t (0, 0))) :
    (w.cell? ⟨g, 0, none⟩ = some a0 ∧ w.cell? ⟨g, 1, none⟩ = some a1 ∧ w.cell? ⟨g, 2, none⟩ = some a2 ∧ w.cell? ⟨g, 3, none⟩ = some a3 ∧ w.cell? ⟨g, 4, none⟩ = some a4) ∧
    w.frozen? ⟨g, 0, none⟩ = false ∧ w.frozen? ⟨g, 1, none⟩ = false ∧ w.frozen? ⟨g, 2, none⟩ = false ∧ w.frozen? ⟨g, 3, none⟩ = false ∧ w.frozen? ⟨g, 4, none⟩ = false :=
  ⟨⟨blk_cell h 0, blk_cell h 1, blk_cell h 2, blk_cell h 3, blk_cell h 4⟩, blk_frozen h 0, blk_frozen h 1, blk_frozen h 2, blk_frozen h 3, blk_frozen h 4⟩
theorem lst_tl (s : ByteArray) : s.toList = lst s := toList_eq s
theorem emp_tl : (⟨#[]⟩ : ByteArray).toList = [] := by rw [lst_tl]; rfl
def KF (a b : Int) (c : ByteArray) (f : Int) (xb : Int) (xc : ByteArray) (xf x4 : Int) : Prop :=
  ∃ W : Nat, wantE a = some W ∧ x4 = W ∧ xb = (if a = 1 then b else 0) ∧ xc = (if a = 2 then c else ⟨#[]⟩) ∧ xf = (if a = 4 ∨ a = 5 then f else 0)
def badF (b xb : Int) (c xc : ByteArray) (f xf n x4 : Int) : Bool := (xb != b) || ((xc.toList != c.toList) || ((xf != f) || ((n != x4) || decide (b < 0))))
def badG (a : Int) (nb : Bool) (f : Int) : Bool := ((a == 2) && !nb) || (((a == 4) && (decide (f < 19) || decide (21 < f))) || ((a == 5) && (decide (f < 1) || decide (18 < f))))
theorem bad_says (a b : Int) (c : ByteArray) (f : Int) (l : List S38) (xb : Int) (xc : ByteArray) (xf x4 : Int) (h : KF a b c f xb xc xf x4) :
    fitE ⟨a, b, c, f, l⟩ = (!(badF b xb c xc f xf l.length x4) && (!(badG a (nameB (lst c)) f) && l.all fitE)) := by
  obtain ⟨W, hw, e4, eb, ec, ef⟩ := h
  have hL : ∀ l : List S38, fitL l = l.all fitE := by
    intro l
    induction l with
    | nil => rfl
    | cons x xs ih => rw [List.all_cons, ← ih]; rfl
  have p1 : (wantE a == some l.length) = !((l.length : Int) != x4) := by
    rw [hw, e4]
    by_cases z : l.length = W
    · rw [z]; simp
    · rw [bne_iff_ne.2 (by omega)]
      exact beq_eq_false_iff_ne.2 fun e => z (Option.some.inj e).symm
  have p2 : numB a b = (!(xb != b) && !(decide (b < 0))) := by
    unfold numB
    by_cases z : a = 1
    · rw [if_pos z] at eb ⊢
      rw [eb]
      by_cases y : b < 0
      · rw [decide_eq_false (by omega), decide_eq_true y]; simp
      · rw [decide_eq_true (by omega), decide_eq_false y]; simp
    · rw [if_neg z] at eb ⊢
      rw [eb]
      by_cases y : b = 0
      · rw [y]; rfl
      · rw [beq_eq_false_iff_ne.2 y, bne_iff_ne.2 (fun e => y e.symm)]; rfl
  have p3 : nmB a c = (!(xc.toList != c.toList) && !((a == 2) && !(nameB (lst c)))) := by
    unfold nmB
    by_cases z : a = 2
    · rw [if_pos z] at ec ⊢
      rw [ec, z]
      simp
    · rw [if_neg z] at ec ⊢
      rw [ec, beq_eq_false_iff_ne.2 z, emp_tl]
      by_cases y : c.toList = []
      · rw [y]; rfl
      · rw [beq_eq_false_iff_ne.2 y, bne_iff_ne.2 (fun e => y e.symm)]; rfl
  have p4 : opB a f = (!(xf != f) && (!((a == 4) && (decide (f < 19) || decide (21 < f))) && !((a == 5) && (decide (f < 1) || decide (18 < f))))) := by
    unfold opB
    by_cases z : a = 4
    · subst z
      rw [if_pos rfl]
      rw [if_pos (.inl rfl)] at ef
      rw [ef]
      by_cases y1 : f < 19 <;> by_cases y2 : 21 < f <;> simp [y1, y2] <;> omega
    · rw [if_neg z]
      by_cases z5 : a = 5
      · subst z5
        rw [if_pos rfl]
        rw [if_pos (.inr rfl)] at ef
        rw [ef]
        by_cases y1 : f < 1 <;> by_cases y2 : 18 < f <;> simp [y1, y2] <;> omega
      · rw [if_neg z5]
        rw [if_neg (by omega)] at ef
        rw [ef, beq_eq_false_iff_ne.2 z, beq_eq_false_iff_ne.2 z5]
        by_cases y : f = 0
        · rw [y]; rfl
        · rw [beq_eq_false_iff_ne.2 y, bne_iff_ne.2 (fun e => y e.symm)]; rfl
  show ((wantE a == some l.length) && (fieldsB a b c f && fitL l)) = _
  unfold fieldsB badF badG
  rw [p1, p2, p3, p4, hL]
  cases (xb != b) <;> cases decide (b < 0) <;> cases (xc.toList != c.toList) <;> cases ((a == 2) && !(nameB (lst c))) <;> cases (xf != f) <;> cases ((a == 4) && (decide (f < 19) || decide (21 < f))) <;> cases ((a == 5) && (decide (f < 1) || decide (18 < f))) <;> cases ((l.length : Int) != x4) <;> rfl
def FitC (n : Nat) : Prop := ∀ (e : S38) (A : Option Addr) (cp : Nat) (r : Bool) (w : World), cntE e ≤ n → Kd.C k38 w A e.f4.length e.f4 → e.f4.length ≤ cp → fitE e = r →
  Calls Try.prog 66 #[.agg #[.int .i64 e.f0, .int .i64 e.f1, .string e.f2, .int .i64 e.f3, .slice A e.f4.length cp]] w fun e w' => e = .returned (.bool r) ∧ Below w.heap.size w w'
theorem FitC.use {n : Nat} (h : FitC n) (e : S38) (A : Option Addr) (cp : Nat) (r : Bool) (w : World) (h0 : cntE e ≤ n) (h1 : Kd.C k38 w A e.f4.length e.f4) (h2 : e.f4.length ≤ cp) (h3 : fitE e = r) :
  Calls Try.prog 66 #[.agg #[.int .i64 e.f0, .int .i64 e.f1, .string e.f2, .int .i64 e.f3, .slice A e.f4.length cp]] w fun e w' => e = .returned (.bool r) ∧ Below w.heap.size w w' := h e A cp r w h0 h1 h2 h3
theorem cnt_dropE (l : List S38) : ∀ i, cntL (l.drop i) ≤ cntL l := by
  induction l with
  | nil => intro i; simp [cntL]
  | cons x xs ih =>
    intro i
    cases i with
    | zero => exact Nat.le_refl _
    | succ i => have := ih i; simp only [List.drop_succ_cons, cntL]; omega
set_option maxHeartbeats 8000000 in
set_option maxRecDepth 100000 in
theorem fits_step (n : Nat) (hn : n ≤ 1000000) (IH : FitC n) (a b : Int) (c : ByteArray) (f : Int) (l : List S38) (A : Option Addr) (cp : Nat) (r : Bool) (w : World) (hcnt : cntL l ≤ n) (hC : Kd.C k38 w A l.length l) (hc : l.length ≤ cp) (hr : fitE ⟨a, b, c, f, l⟩ = r) :
    Calls Try.prog 66 #[.agg #[.int .i64 a, .int .i64 b, .string c, .int .i64 f, .slice A l.length cp]] w fun e w' => e = .returned (.bool r) ∧ Below w.heap.size w w' := by
  have hu38 := Try.underlying38
  have HB := Aside0.mk (Below.refl w.heap.size w)
  have HC := Aside0.mk hC
  have HL := Aside0.mk hc
  have HR := Aside0.mk hr
  have HN := Aside0.mk (show cntL l ≤ n ∧ n ≤ 1000000 from ⟨hcnt, hn⟩)
  have HIH := Aside0.mk IH
  clear hC hc hr hcnt hn IH
  go_enter Try.func66, Try.ntmps66
  go_upto_block 0 with (first | ((with_reducible refine gate_dst (N := 1) rfl ?_); (try (refine gate_guard (by rfl) ?_; dsimp only)); refine box_event ?hg (N := 1) ?hd (cs := #[.int .i64 a, .int .i64 b, .string c, .int .i64 f, .slice A l.length cp]) (t := 38) ?hr ?_; (case hd => rfl); (case hg => rfl); (case hr => first | (go_simp; done) | (go_simp; rfl)); intro sb hg ws hbox hb; have n0_ := Aside0.mk (below_step (by repeat (first | (with_reducible first | exact HB.out | apply below_alloc | apply pw_below_drewN | apply below_drew1) | exact HB.out)) hb); have n1_ := Aside0.mk hbox; have n2_ := Aside0.mk (show w.heap.size ≤ sb by rw [hg]; exact below_size (by repeat (first | (with_reducible first | exact HB.out | apply below_alloc | apply pw_below_drewN | apply below_drew1) | exact HB.out))); clear HB hb hbox hg; have HB := n0_; have BS := n1_; have GS := n2_; clear n0_ n1_ n2_; obtain ⟨⟨sz0, sz1, sz2, sz3, sz4⟩, sf0, sf1, sf2, sf3, sf4⟩ := fivf BS.out) | ((with_reducible refine gate_dst (N := 3) rfl ?_); (try (refine gate_guard (by rfl) ?_; dsimp only)); refine box_event ?hg (N := 3) ?hd (cs := #[.int .i64 0, .int .i64 0, .string (⟨#[]⟩ : ByteArray), .int .i64 0, .slice none 0 0]) (t := 38) ?hr ?_; (case hd => rfl); (case hg => rfl); (case hr => first | (go_simp; done) | (go_simp; rfl)); intro xbk hg wx hbox hb; have n0_ := Aside0.mk (below_step (by repeat (first | (with_reducible first | exact HB.out | apply below_alloc | apply pw_below_drewN | apply below_drew1 | refine below_set ?_ GS.out) | exact HB.out)) hb); have n1_ := Aside0.mk hbox; have n2_ := Aside0.mk (show w.heap.size ≤ xbk by rw [hg]; exact below_size (by repeat (first | (with_reducible first | exact HB.out | apply below_alloc | apply pw_below_drewN | apply below_drew1 | refine below_set ?_ GS.out) | exact HB.out))); have n3_ := Aside0.mk (show sb ≠ xbk by rw [hg]; exact Nat.ne_of_lt (blk_lt (g := sb) (o := .cells #[.int .i64 a, .int .i64 b, .string c, .int .i64 f, .slice A l.length cp] 38 (0, 0)) (by (with_reducible repeat (first | refine blk_drewN ?_ _ | refine blk_drew ?_ | refine blk_alloc ?_ _)); exact BS.out))); have n4_ := Aside0.mk (blk_below (g := sb) (o := .cells #[.int .i64 a, .int .i64 b, .string c, .int .i64 f, .slice A l.length cp] 38 (0, 0)) (by (with_reducible repeat (first | refine blk_drewN ?_ _ | refine blk_drew ?_ | refine blk_alloc ?_ _)); exact BS.out) hb); clear sz0 sz1 sz2 sz3 sz4 sf0 sf1 sf2 sf3 sf4; clear HB BS hb hbox hg; have HB := n0_; have BX := n1_; have GX := n2_; have NS := n3_; have BS := n4_; clear n0_ n1_ n2_ n3_ n4_; have hns := NS.out; have hnx := Ne.symm NS.out; obtain ⟨⟨sz0, sz1, sz2, sz3, sz4⟩, sf0, sf1, sf2, sf3, sf4⟩ := fivf BS.out; obtain ⟨⟨xz0, xz1, xz2, xz3, xz4⟩, xf0, xf1, xf2, xf3, xf4⟩ := fivf BX.out))
  generalize hq : World.setCell _ ⟨xbk, 4, none⟩ _ = wt
  have n0_ : Aside0 (wt.heap[sb]? = some (.cells #[.int .i64 a, .int .i64 b, .string c, .int .i64 f, .slice A l.length cp] 38 (0, 0))) := ⟨by rw [← hq]; (with_reducible repeat (first | refine blk_drewN ?_ _ | refine blk_drew ?_ | refine blk_alloc ?_ _)); refine blk_far ?_ hns _; (with_reducible repeat (first | refine blk_drewN ?_ _ | refine blk_drew ?_ | refine blk_alloc ?_ _)); refine blk_far ?_ hns _; (with_reducible repeat (first | refine blk_drewN ?_ _ | refine blk_drew ?_ | refine blk_alloc ?_ _)); refine blk_far ?_ hns _; (with_reducible repeat (first | refine blk_drewN ?_ _ | refine blk_drew ?_ | refine blk_alloc ?_ _)); refine blk_far ?_ hns _; (with_reducible repeat (first | refine blk_drewN ?_ _ | refine blk_drew ?_ | refine blk_alloc ?_ _)); refine blk_far ?_ hns _; exact BS.out⟩
  have n1_ : Aside0 (wt.heap[xbk]? = some (.cells #[.int .i64 a, .int .i64 0, .string (⟨#[]⟩ : ByteArray), .int .i64 0, .slice none 0 0] 38 (0, 0))) := ⟨by rw [← hq]; (with_reducible repeat (first | refine blk_drewN ?_ _ | refine blk_drew ?_ | refine blk_alloc ?_ _)); refine blk_put (cs := #[.int .i64 a, .int .i64 0, .string (⟨#[]⟩ : ByteArray), .int .i64 0, .slice none 0 0]) ?_ 4 _ rfl; (with_reducible repeat (first | refine blk_drewN ?_ _ | refine blk_drew ?_ | refine blk_alloc ?_ _)); refine blk_put (cs := #[.int .i64 a, .int .i64 0, .string (⟨#[]⟩ : ByteArray), .int .i64 0, .slice none 0 0]) ?_ 3 _ rfl; (with_reducible repeat (first | refine blk_drewN ?_ _ | refine blk_drew ?_ | refine blk_alloc ?_ _)); refine blk_put (cs := #[.int .i64 a, .int .i64 0, .string (⟨#[]⟩ : ByteArray), .int .i64 0, .slice none 0 0]) ?_ 2 _ rfl; (with_reducible repeat (first | refine blk_drewN ?_ _ | refine blk_drew ?_ | refine blk_alloc ?_ _)); refine blk_put (cs := #[.int .i64 a, .int .i64 0, .string (⟨#[]⟩ : ByteArray), .int .i64 0, .slice none 0 0]) ?_ 1 _ rfl; (with_reducible repeat (first | refine blk_drewN ?_ _ | refine blk_drew ?_ | refine blk_alloc ?_ _)); refine blk_put (cs := #[.int .i64 0, .int .i64 0, .string (⟨#[]⟩ : ByteArray), .int .i64 0, .slice none 0 0]) ?_ 0 _ rfl; exact BX.out⟩
  have n2_ : Aside0 (Below w.heap.size w wt) := ⟨by rw [← hq]; exact (by repeat (first | (with_reducible first | exact HB.out | apply below_alloc | apply pw_below_drewN | apply below_drew1 | refine below_set ?_ GS.out | refine below_set ?_ GX.out) | exact HB.out))⟩
  clear hq BS BX HB
  clear sz0 sz1 sz2 sz3 sz4 sf0 sf1 sf2 sf3 sf4
  clear xz0 xz1 xz2 xz3 xz4 xf0 xf1 xf2 xf3 xf4
  have BS := n0_
  have BX := n1_
  have HB := n2_
  clear n0_ n1_ n2_
  obtain ⟨⟨sz0, sz1, sz2, sz3, sz4⟩, sf0, sf1, sf2, sf3, sf4⟩ := fivf BS.out
  obtain ⟨⟨xz0, xz1, xz2, xz3, xz4⟩, xf0, xf1, xf2, xf3, xf4⟩ := fivf BX.out
  go_cut [4] (fun v4 wc => ∃ (x4 xb : Int) (xc : ByteArray) (xf : Int), v4 = .int .i64 x4 ∧ Aside0 (KF a b c f xb xc xf x4) ∧ Aside0 (wc.heap[sb]? = some (.cells #[.int .i64 a, .int .i64 b, .string c, .int .i64 f, .slice A l.length cp] 38 (0, 0))) ∧ Aside0 (wc.heap[xbk]? = some (.cells #[.int .i64 a, .int .i64 xb, .string xc, .int .i64 xf, .slice none 0 0] 38 (0, 0))) ∧ Aside0 (Below w.heap.size w wc))
  case first =>
    by_cases hk : ∃ j : Int, (1 ≤ j ∧ j ≤ 5) ∧ a = j
    · obtain ⟨j, ⟨j1, j9⟩, rfl⟩ := hk
      have hj : a = 1 ∨ a = 2 ∨ a = 3 ∨ a = 4 ∨ a = 5 := by omega
      clear j1 j9
      rcases hj with rfl | rfl | rfl | rfl | rfl
      · go_wp2_with fail
        go_meet
        exact ⟨0, b, (⟨#[]⟩ : ByteArray), 0, rfl, ⟨⟨0, rfl, rfl, rfl, rfl, rfl⟩⟩, ⟨by (with_reducible repeat (first | refine blk_drewN ?_ _ | refine blk_drew ?_ | refine blk_alloc ?_ _)); refine blk_far ?_ hns _; (with_reducible repeat (first | refine blk_drewN ?_ _ | refine blk_drew ?_ | refine blk_alloc ?_ _)); exact BS.out⟩, ⟨by (with_reducible repeat (first | refine blk_drewN ?_ _ | refine blk_drew ?_ | refine blk_alloc ?_ _)); refine blk_put (cs := #[.int .i64 1, .int .i64 0, .string (⟨#[]⟩ : ByteArray), .int .i64 0, .slice none 0 0]) ?_ 1 _ rfl; (with_reducible repeat (first | refine blk_drewN ?_ _ | refine blk_drew ?_ | refine blk_alloc ?_ _)); exact BX.out⟩, ⟨by repeat (first | (with_reducible first | exact HB.out | apply below_alloc | apply pw_below_drewN | apply below_drew1 | refine below_set ?_ GS.out | refine below_set ?_ GX.out) | exact HB.out)⟩⟩
      · go_wp2_with fail
        go_meet
        exact ⟨0, 0, c, 0, rfl, ⟨⟨0, rfl, rfl, rfl, rfl, rfl⟩⟩, ⟨by (with_reducible repeat (first | refine blk_drewN ?_ _ | refine blk_drew ?_ | refine blk_alloc ?_ _)); refine blk_far ?_ hns _; (with_reducible repeat (first | refine blk_drewN ?_ _ | refine blk_drew ?_ | refine blk_alloc ?_ _)); exact BS.out⟩, ⟨by (with_reducible repeat (first | refine blk_drewN ?_ _ | refine blk_drew ?_ | refine blk_alloc ?_ _)); refine blk_put (cs := #[.int .i64 2, .int .i64 0, .string (⟨#[]⟩ : ByteArray), .int .i64 0, .slice none 0 0]) ?_ 2 _ rfl; (with_reducible repeat (first | refine blk_drewN ?_ _ | refine blk_drew ?_ | refine blk_alloc ?_ _)); exact BX.out⟩, ⟨by repeat (first | (with_reducible first | exact HB.out | apply below_alloc | apply pw_below_drewN | apply below_drew1 | refine below_set ?_ GS.out | refine below_set ?_ GX.out) | exact HB.out)⟩⟩
      · go_wp2_with fail
        go_meet
        exact ⟨1, 0, (⟨#[]⟩ : ByteArray), 0, rfl, ⟨⟨1, rfl, rfl, rfl, rfl, rfl⟩⟩, ⟨by (with_reducible repeat (first | refine blk_drewN ?_ _ | refine blk_drew ?_ | refine blk_alloc ?_ _)); exact BS.out⟩, ⟨by (with_reducible repeat (first | refine blk_drewN ?_ _ | refine blk_drew ?_ | refine blk_alloc ?_ _)); exact BX.out⟩, ⟨by repeat (first | (with_reducible first | exact HB.out | apply below_alloc | apply pw_below_drewN | apply below_drew1 | refine below_set ?_ GS.out | refine below_set ?_ GX.out) | exact HB.out)⟩⟩
      · go_wp2_with fail
        go_meet
        exact ⟨1, 0, (⟨#[]⟩ : ByteArray), f, rfl, ⟨⟨1, rfl, rfl, rfl, rfl, rfl⟩⟩, ⟨by (with_reducible repeat (first | refine blk_drewN ?_ _ | refine blk_drew ?_ | refine blk_alloc ?_ _)); refine blk_far ?_ hns _; (with_reducible repeat (first | refine blk_drewN ?_ _ | refine blk_drew ?_ | refine blk_alloc ?_ _)); exact BS.out⟩, ⟨by (with_reducible repeat (first | refine blk_drewN ?_ _ | refine blk_drew ?_ | refine blk_alloc ?_ _)); refine blk_put (cs := #[.int .i64 4, .int .i64 0, .string (⟨#[]⟩ : ByteArray), .int .i64 0, .slice none 0 0]) ?_ 3 _ rfl; (with_reducible repeat (first | refine blk_drewN ?_ _ | refine blk_drew ?_ | refine blk_alloc ?_ _)); exact BX.out⟩, ⟨by repeat (first | (with_reducible first | exact HB.out | apply below_alloc | apply pw_below_drewN | apply below_drew1 | refine below_set ?_ GS.out | refine below_set ?_ GX.out) | exact HB.out)⟩⟩
      · go_wp2_with fail
        go_meet
        exact ⟨2, 0, (⟨#[]⟩ : ByteArray), f, rfl, ⟨⟨2, rfl, rfl, rfl, rfl, rfl⟩⟩, ⟨by (with_reducible repeat (first | refine blk_drewN ?_ _ | refine blk_drew ?_ | refine blk_alloc ?_ _)); refine blk_far ?_ hns _; (with_reducible repeat (first | refine blk_drewN ?_ _ | refine blk_drew ?_ | refine blk_alloc ?_ _)); exact BS.out⟩, ⟨by (with_reducible repeat (first | refine blk_drewN ?_ _ | refine blk_drew ?_ | refine blk_alloc ?_ _)); refine blk_put (cs := #[.int .i64 5, .int .i64 0, .string (⟨#[]⟩ : ByteArray), .int .i64 0, .slice none 0 0]) ?_ 3 _ rfl; (with_reducible repeat (first | refine blk_drewN ?_ _ | refine blk_drew ?_ | refine blk_alloc ?_ _)); exact BX.out⟩, ⟨by repeat (first | (with_reducible first | exact HB.out | apply below_alloc | apply pw_below_drewN | apply below_drew1 | refine below_set ?_ GS.out | refine below_set ?_ GX.out) | exact HB.out)⟩⟩
    · have e1 : (a == 1) = false := beq_eq_false_iff_ne.2 fun e => hk ⟨1, by omega, e⟩
      have e2 : (a == 2) = false := beq_eq_false_iff_ne.2 fun e => hk ⟨2, by omega, e⟩
      have e3 : (a == 3) = false := beq_eq_false_iff_ne.2 fun e => hk ⟨3, by omega, e⟩
      have e4 : (a == 4) = false := beq_eq_false_iff_ne.2 fun e => hk ⟨4, by omega, e⟩
      have e5 : (a == 5) = false := beq_eq_false_iff_ne.2 fun e => hk ⟨5, by omega, e⟩
      go_wp2_with fail
      go_ret
      have hw : wantE a = none := by unfold wantE; simp [beq_eq_false_iff_ne.1 e1, beq_eq_false_iff_ne.1 e2, beq_eq_false_iff_ne.1 e3, beq_eq_false_iff_ne.1 e4, beq_eq_false_iff_ne.1 e5]
      have e := HR.out
      simp only [fitE, hw] at e
      have e' : false = r := e
      subst e'
      exact ⟨rfl, by repeat (first | (with_reducible first | exact HB.out | apply below_alloc | apply pw_below_drewN | apply below_drew1 | refine below_set ?_ GS.out | refine below_set ?_ GX.out) | exact HB.out)⟩
  case rest =>
    clear BS BX HB
    clear sz0 sz1 sz2 sz3 sz4 sf0 sf1 sf2 sf3 sf4
    clear xz0 xz1 xz2 xz3 xz4 xf0 xf1 xf2 xf3 xf4
    obtain ⟨x4, xb, xc, xf, rfl, HK, BS, BX, HB⟩ := hcut
    obtain ⟨⟨sz0, sz1, sz2, sz3, sz4⟩, sf0, sf1, sf2, sf3, sf4⟩ := fivf BS.out
    obtain ⟨⟨xz0, xz1, xz2, xz3, xz4⟩, xf0, xf1, xf2, xf3, xf4⟩ := fivf BX.out
    have hs := bad_says a b c f l xb xc xf x4 HK.out
    rw [HR.out] at hs
    have HS := Aside0.mk hs
    clear hs HR HK
    go_upto_region 15 with (fail)
    go_cut [63] (fun v63 wx => ∃ B : Bool, v63 = .bool B ∧ Aside0 (badF b xb c xc f xf l.length x4 = B) ∧ wc = wx)
    case first =>
      obtain ⟨q0, p0⟩ : ∃ q, (xb != b) = q := ⟨_, rfl⟩
      have d0 : (xb == b) = !q0 := by rw [← p0]; simp [bne]
      cases q0 with
      | true =>
        (try simp only [Bool.not_true, Bool.not_false] at d0)
        go_wp2_with fail
        go_meet
        exact ⟨_, rfl, ⟨by simp only [badF, p0, Bool.true_or, Bool.false_or, Bool.or_true, Bool.or_false]⟩, rfl⟩
      | false =>
        (try simp only [Bool.not_true, Bool.not_false] at d0)
        obtain ⟨q1, p1⟩ : ∃ q, (xc.toList != c.toList) = q := ⟨_, rfl⟩
        have d1 : (xc.toList == c.toList) = !q1 := by rw [← p1]; simp [bne]
        cases q1 with
        | true =>
          (try simp only [Bool.not_true, Bool.not_false] at d1)
          go_wp2_with fail
          go_meet
          exact ⟨_, rfl, ⟨by simp only [badF, p0, p1, Bool.true_or, Bool.false_or, Bool.or_true, Bool.or_false]⟩, rfl⟩
        | false =>
          (try simp only [Bool.not_true, Bool.not_false] at d1)
          obtain ⟨q2, p2⟩ : ∃ q, (xf != f) = q := ⟨_, rfl⟩
          have d2 : (xf == f) = !q2 := by rw [← p2]; simp [bne]
          cases q2 with
          | true =>
            (try simp only [Bool.not_true, Bool.not_false] at d2)
            go_wp2_with fail
            go_meet
            exact ⟨_, rfl, ⟨by simp only [badF, p0, p1, p2, Bool.true_or, Bool.false_or, Bool.or_true, Bool.or_false]⟩, rfl⟩
          | false =>
            (try simp only [Bool.not_true, Bool.not_false] at d2)
            obtain ⟨q3, p3⟩ : ∃ q, ((l.length : Int) != x4) = q := ⟨_, rfl⟩
            have d3 : ((l.length : Int) == x4) = !q3 := by rw [← p3]; simp [bne]
            cases q3 with
            | true =>
              (try simp only [Bool.not_true, Bool.not_false] at d3)
              go_wp2_with fail
              go_meet
              exact ⟨_, rfl, ⟨by simp only [badF, p0, p1, p2, p3, Bool.true_or, Bool.false_or, Bool.or_true, Bool.or_false]⟩, rfl⟩
            | false =>
              (try simp only [Bool.not_true, Bool.not_false] at d3)
              obtain ⟨q4, p4⟩ : ∃ q, (decide (b < 0)) = q := ⟨_, rfl⟩
              cases q4 with
              | true =>
                go_wp2_with fail
                go_meet
                exact ⟨_, rfl, ⟨by simp only [badF, p0, p1, p2, p3, p4, Bool.true_or, Bool.false_or, Bool.or_true, Bool.or_false]⟩, rfl⟩
              | false =>
                go_wp2_with fail
                go_meet
                exact ⟨_, rfl, ⟨by simp only [badF, p0, p1, p2, p3, p4, Bool.true_or, Bool.false_or, Bool.or_true, Bool.or_false]⟩, rfl⟩
    case rest =>
      obtain ⟨B, rfl, HBAD, rfl⟩ := hcut
      cases B with
      | true =>
        have e := HS.out
        rw [HBAD.out, Bool.not_true, Bool.false_and] at e
        subst e
        go_wp2
        go_ret
        exact ⟨rfl, by repeat (first | (with_reducible first | exact HB.out | apply below_alloc | apply pw_below_drewN | apply below_drew1 | refine below_set ?_ GS.out | refine below_set ?_ GX.out) | exact HB.out)⟩
      | false =>
        have HS2 := Aside0.mk (show r = (!(badG a (nameB (lst c)) f) && l.all fitE) from by have e := HS.out; rw [HBAD.out] at e; exact e)
        clear HS HBAD BX
        clear xz0 xz1 xz2 xz3 xz4 xf0 xf1 xf2 xf3 xf4
        obtain ⟨nb, hnb⟩ : ∃ nb, nameB (lst c) = nb := ⟨_, rfl⟩
        have HNB := Aside0.mk hnb
        rw [hnb] at HS2
        clear hnb
        go_upto_region 17 with (fail)
        go_cut [102] (fun v102 wx => ∃ B : Bool, v102 = .bool B ∧ Aside0 (badG a nb f = B) ∧ Aside0 (wx.heap[sb]? = some (.cells #[.int .i64 a, .int .i64 b, .string c, .int .i64 f, .slice A l.length cp] 38 (0, 0))) ∧ Aside0 (Below w.heap.size w wx))
        case first =>
          by_cases h2 : a = 2
          · subst h2
            cases nb with
            | true =>
              go_wp2_with (first | (go_at_call 64; (with_reducible refine (rname_L c true _ HNB.out).mono ?_); rintro e wn ⟨rfl, hb⟩; have n0_ := Aside0.mk (below_step (by repeat (first | (with_reducible first | exact HB.out | apply below_alloc | apply pw_below_drewN | apply below_drew1 | refine below_set ?_ GS.out | refine below_set ?_ GX.out) | exact HB.out)) hb); have n1_ := Aside0.mk (blk_below (g := sb) (o := .cells #[.int .i64 2, .int .i64 b, .string c, .int .i64 f, .slice A l.length cp] 38 (0, 0)) (by (with_reducible repeat (first | refine blk_drewN ?_ _ | refine blk_drew ?_ | refine blk_alloc ?_ _)); exact BS.out) hb); clear HB BS hb; clear sz0 sz1 sz2 sz3 sz4 sf0 sf1 sf2 sf3 sf4; have HB := n0_; have BS := n1_; clear n0_ n1_; obtain ⟨⟨sz0, sz1, sz2, sz3, sz4⟩, sf0, sf1, sf2, sf3, sf4⟩ := fivf BS.out))
              go_meet
              exact ⟨_, rfl, ⟨by simp only [badG, Bool.not_true]; rfl⟩, ⟨by (with_reducible repeat (first | refine blk_drewN ?_ _ | refine blk_drew ?_ | refine blk_alloc ?_ _)); exact BS.out⟩, ⟨by repeat (first | (with_reducible first | exact HB.out | apply below_alloc | apply pw_below_drewN | apply below_drew1 | refine below_set ?_ GS.out | refine below_set ?_ GX.out) | exact HB.out)⟩⟩
            | false =>
              go_wp2_with (first | (go_at_call 64; (with_reducible refine (rname_L c false _ HNB.out).mono ?_); rintro e wn ⟨rfl, hb⟩; have n0_ := Aside0.mk (below_step (by repeat (first | (with_reducible first | exact HB.out | apply below_alloc | apply pw_below_drewN | apply below_drew1 | refine below_set ?_ GS.out | refine below_set ?_ GX.out) | exact HB.out)) hb); have n1_ := Aside0.mk (blk_below (g := sb) (o := .cells #[.int .i64 2, .int .i64 b, .string c, .int .i64 f, .slice A l.length cp] 38 (0, 0)) (by (with_reducible repeat (first | refine blk_drewN ?_ _ | refine blk_drew ?_ | refine blk_alloc ?_ _)); exact BS.out) hb); clear HB BS hb; clear sz0 sz1 sz2 sz3 sz4 sf0 sf1 sf2 sf3 sf4; have HB := n0_; have BS := n1_; clear n0_ n1_; obtain ⟨⟨sz0, sz1, sz2, sz3, sz4⟩, sf0, sf1, sf2, sf3, sf4⟩ := fivf BS.out))
              go_meet
              exact ⟨_, rfl, ⟨by simp only [badG, Bool.not_false]; rfl⟩, ⟨by (with_reducible repeat (first | refine blk_drewN ?_ _ | refine blk_drew ?_ | refine blk_alloc ?_ _)); exact BS.out⟩, ⟨by repeat (first | (with_reducible first | exact HB.out | apply below_alloc | apply pw_below_drewN | apply below_drew1 | refine below_set ?_ GS.out | refine below_set ?_ GX.out) | exact HB.out)⟩⟩
          have g2 : (a == 2) = false := beq_eq_false_iff_ne.2 h2
          by_cases h4 : a = 4
          · subst h4
            by_cases y1 : f < 19
            · have t1 := decide_eq_true y1
              go_wp2_with fail
              go_meet
              exact ⟨_, rfl, ⟨by simp only [badG, t1]; rfl⟩, ⟨by (with_reducible repeat (first | refine blk_drewN ?_ _ | refine blk_drew ?_ | refine blk_alloc ?_ _)); exact BS.out⟩, ⟨by repeat (first | (with_reducible first | exact HB.out | apply below_alloc | apply pw_below_drewN | apply below_drew1 | refine below_set ?_ GS.out | refine below_set ?_ GX.out) | exact HB.out)⟩⟩
            have t1 := decide_eq_false y1
            by_cases y2 : 21 < f
            · have t2 := decide_eq_true y2
              go_wp2_with fail
              go_meet
              exact ⟨_, rfl, ⟨by simp only [badG, t1, t2]; rfl⟩, ⟨by (with_reducible repeat (first | refine blk_drewN ?_ _ | refine blk_drew ?_ | refine blk_alloc ?_ _)); exact BS.out⟩, ⟨by repeat (first | (with_reducible first | exact HB.out | apply below_alloc | apply pw_below_drewN | apply below_drew1 | refine below_set ?_ GS.out | refine below_set ?_ GX.out) | exact HB.out)⟩⟩
            have t2 := decide_eq_false y2
            go_wp2_with fail
            go_meet
            exact ⟨_, rfl, ⟨by simp only [badG, t1, t2]; rfl⟩, ⟨by (with_reducible repeat (first | refine blk_drewN ?_ _ | refine blk_drew ?_ | refine blk_alloc ?_ _)); exact BS.out⟩, ⟨by repeat (first | (with_reducible first | exact HB.out | apply below_alloc | apply pw_below_drewN | apply below_drew1 | refine below_set ?_ GS.out | refine below_set ?_ GX.out) | exact HB.out)⟩⟩
          have g4 : (a == 4) = false := beq_eq_false_iff_ne.2 h4
          by_cases h5 : a = 5
          · subst h5
            by_cases y1 : f < 1
            · have t1 := decide_eq_true y1
              go_wp2_with fail
              go_meet
              exact ⟨_, rfl, ⟨by simp only [badG, t1]; rfl⟩, ⟨by (with_reducible repeat (first | refine blk_drewN ?_ _ | refine blk_drew ?_ | refine blk_alloc ?_ _)); exact BS.out⟩, ⟨by repeat (first | (with_reducible first | exact HB.out | apply below_alloc | apply pw_below_drewN | apply below_drew1 | refine below_set ?_ GS.out | refine below_set ?_ GX.out) | exact HB.out)⟩⟩
            have t1 := decide_eq_false y1
            by_cases y2 : 18 < f
            · have t2 := decide_eq_true y2
              go_wp2_with fail
              go_meet
              exact ⟨_, rfl, ⟨by simp only [badG, t1, t2]; rfl⟩, ⟨by (with_reducible repeat (first | refine blk_drewN ?_ _ | refine blk_drew ?_ | refine blk_alloc ?_ _)); exact BS.out⟩, ⟨by repeat (first | (with_reducible first | exact HB.out | apply below_alloc | apply pw_below_drewN | apply below_drew1 | refine below_set ?_ GS.out | refine below_set ?_ GX.out) | exact HB.out)⟩⟩
            have t2 := decide_eq_false y2
            go_wp2_with fail
            go_meet
            exact ⟨_, rfl, ⟨by simp only [badG, t1, t2]; rfl⟩, ⟨by (with_reducible repeat (first | refine blk_drewN ?_ _ | refine blk_drew ?_ | refine blk_alloc ?_ _)); exact BS.out⟩, ⟨by repeat (first | (with_reducible first | exact HB.out | apply below_alloc | apply pw_below_drewN | apply below_drew1 | refine below_set ?_ GS.out | refine below_set ?_ GX.out) | exact HB.out)⟩⟩
          have g5 : (a == 5) = false := beq_eq_false_iff_ne.2 h5
          go_wp2_with fail
          go_meet
          exact ⟨_, rfl, ⟨by simp only [badG, g2, g4, g5]; rfl⟩, ⟨by (with_reducible repeat (first | refine blk_drewN ?_ _ | refine blk_drew ?_ | refine blk_alloc ?_ _)); exact BS.out⟩, ⟨by repeat (first | (with_reducible first | exact HB.out | apply below_alloc | apply pw_below_drewN | apply below_drew1 | refine below_set ?_ GS.out | refine below_set ?_ GX.out) | exact HB.out)⟩⟩
        case rest =>
          clear BS HB
          clear sz0 sz1 sz2 sz3 sz4 sf0 sf1 sf2 sf3 sf4
          obtain ⟨B, rfl, HBG, BS, HB⟩ := hcut
          obtain ⟨⟨sz0, sz1, sz2, sz3, sz4⟩, sf0, sf1, sf2, sf3, sf4⟩ := fivf BS.out
          cases B with
          | true =>
            have e := HS2.out
            rw [HBG.out, Bool.not_true, Bool.false_and] at e
            subst e
            go_wp2
            go_ret
            exact ⟨rfl, by repeat (first | (with_reducible first | exact HB.out | apply below_alloc | apply pw_below_drewN | apply below_drew1 | refine below_set ?_ GS.out | refine below_set ?_ GX.out) | exact HB.out)⟩
          | false =>
            have HR1 := Aside0.mk (show l.all fitE = r from by have e := HS2.out; rw [HBG.out] at e; exact e.symm)
            clear HS2 HBG
            go_wp2
            go_loopw [5] (fun v wr => ∃ i : Int, v = .int .i64 i ∧ 0 ≤ i ∧ i ≤ (l.length : Int) ∧ Aside0 ((l.drop i.toNat).all fitE = r) ∧ Aside0 (wr.heap[sb]? = some (.cells #[.int .i64 a, .int .i64 b, .string c, .int .i64 f, .slice A l.length cp] 38 (0, 0))) ∧ Aside0 (Below w.heap.size w wr)) (fun v _ => l.length - (intOf v).toNat)
            case atStart => exact ⟨0, rfl, Int.le_refl _, by omega, HR1, ⟨by (with_reducible repeat (first | refine blk_drewN ?_ _ | refine blk_drew ?_ | refine blk_alloc ?_ _)); exact BS.out⟩, ⟨by repeat (first | (with_reducible first | exact HB.out | apply below_alloc | apply pw_below_drewN | apply below_drew1 | refine below_set ?_ GS.out | refine below_set ?_ GX.out) | exact HB.out)⟩⟩
            case round =>
              clear BS HB HR1
              clear sz0 sz1 sz2 sz3 sz4 sf0 sf1 sf2 sf3 sf4
              obtain ⟨i, rfl, hi0, hi1, HRi, BS, HB⟩ := hrel
              obtain ⟨⟨sz0, sz1, sz2, sz3, sz4⟩, sf0, sf1, sf2, sf3, sf4⟩ := fivf BS.out
              by_cases hlt : i < (l.length : Int)
              · have hb0 : decide (i < (l.length : Int)) = true := decide_eq_true hlt
                have hdr := drop_rd38 l i hi0 hlt
                have HCN1 := Aside0.mk (show cntE (rd_T38 l i) ≤ n from by
                  have z := cnt_dropE l i.toNat
                  rw [hdr] at z
                  simp only [cntL] at z
                  have := HN.out.1
                  omega)
                have HR0 := HRi.out
                rw [hdr, List.all_cons] at HR0
                obtain ⟨ad, A4, c4, eA, hx0, hx1, hx2, hx3, hx4, hl4, hi4⟩ := at_T38 HC.out i hi0 hlt
                subst eA
                have HCE := Aside0.mk hi4
                have HLE := Aside0.mk hl4
                replace hx0 := (HB.out.cell (World.block_lt_of_cell? w _ hx0)).trans hx0
                replace hx1 := (HB.out.cell (World.block_lt_of_cell? w _ hx1)).trans hx1
                replace hx2 := (HB.out.cell (World.block_lt_of_cell? w _ hx2)).trans hx2
                replace hx3 := (HB.out.cell (World.block_lt_of_cell? w _ hx3)).trans hx3
                replace hx4 := (HB.out.cell (World.block_lt_of_cell? w _ hx4)).trans hx4
                have p1 := eq_true hi0
                have p2 := eq_true hlt
                obtain ⟨fb, hfb⟩ : ∃ fb, fitE (rd_T38 l i) = fb := ⟨_, rfl⟩
                have HF := Aside0.mk hfb
                rw [hfb] at HR0
                have HR2 := Aside0.mk HR0
                have hwi : wrap64 (i + 1) = i + 1 := by have := HN.out; have := len_cntL l; unfold wrap64; omega
                clear hdr hi4 hl4 HRi HR0 hfb
                cases fb with
                | true =>
                  go_wp2_with (first | (go_at_call 66; (with_reducible refine (HIH.out.use (rd_T38 l i) A4 c4 true _ HCN1.out (Kd.C_below HCE.out (by repeat (first | (with_reducible first | exact HB.out | apply below_alloc | apply pw_below_drewN | apply below_drew1 | refine below_set ?_ GS.out | refine below_set ?_ GX.out) | exact HB.out))) HLE.out HF.out).mono ?_); rintro e wf ⟨rfl, hb⟩; have n0_ := Aside0.mk (below_step (by repeat (first | (with_reducible first | exact HB.out | apply below_alloc | apply pw_below_drewN | apply below_drew1 | refine below_set ?_ GS.out | refine below_set ?_ GX.out) | exact HB.out)) hb); have n1_ := Aside0.mk (blk_below (g := sb) (o := .cells #[.int .i64 a, .int .i64 b, .string c, .int .i64 f, .slice (some ad) l.length cp] 38 (0, 0)) (by (with_reducible repeat (first | refine blk_drewN ?_ _ | refine blk_drew ?_ | refine blk_alloc ?_ _)); exact BS.out) hb); clear HB BS hb; clear sz0 sz1 sz2 sz3 sz4 sf0 sf1 sf2 sf3 sf4; have HB := n0_; have BS := n1_; clear n0_ n1_; obtain ⟨⟨sz0, sz1, sz2, sz3, sz4⟩, sf0, sf1, sf2, sf3, sf4⟩ := fivf BS.out))
                  go_roundw
                  case rel => exact ⟨i + 1, (by simp only [hwi]), by omega, by omega, ⟨by have := HR2.out; rw [Bool.true_and] at this; exact this⟩, ⟨by (with_reducible repeat (first | refine blk_drewN ?_ _ | refine blk_drew ?_ | refine blk_alloc ?_ _)); exact BS.out⟩, ⟨by repeat (first | (with_reducible first | exact HB.out | apply below_alloc | apply pw_below_drewN | apply below_drew1 | refine below_set ?_ GS.out | refine below_set ?_ GX.out) | exact HB.out)⟩⟩
                  case measure => simp only [hwi, intOf]; omega
                | false =>
                  go_wp2_with (first | (go_at_call 66; (with_reducible refine (HIH.out.use (rd_T38 l i) A4 c4 false _ HCN1.out (Kd.C_below HCE.out (by repeat (first | (with_reducible first | exact HB.out | apply below_alloc | apply pw_below_drewN | apply below_drew1 | refine below_set ?_ GS.out | refine below_set ?_ GX.out) | exact HB.out))) HLE.out HF.out).mono ?_); rintro e wf ⟨rfl, hb⟩; have n0_ := Aside0.mk (below_step (by repeat (first | (with_reducible first | exact HB.out | apply below_alloc | apply pw_below_drewN | apply below_drew1 | refine below_set ?_ GS.out | refine below_set ?_ GX.out) | exact HB.out)) hb); have n1_ := Aside0.mk (blk_below (g := sb) (o := .cells #[.int .i64 a, .int .i64 b, .string c, .int .i64 f, .slice (some ad) l.length cp] 38 (0, 0)) (by (with_reducible repeat (first | refine blk_drewN ?_ _ | refine blk_drew ?_ | refine blk_alloc ?_ _)); exact BS.out) hb); clear HB BS hb; clear sz0 sz1 sz2 sz3 sz4 sf0 sf1 sf2 sf3 sf4; have HB := n0_; have BS := n1_; clear n0_ n1_; obtain ⟨⟨sz0, sz1, sz2, sz3, sz4⟩, sf0, sf1, sf2, sf3, sf4⟩ := fivf BS.out))
                  go_ret
                  have e := HR2.out
                  rw [Bool.false_and] at e
                  subst e
                  exact ⟨rfl, by repeat (first | (with_reducible first | exact HB.out | apply below_alloc | apply pw_below_drewN | apply below_drew1 | refine below_set ?_ GS.out | refine below_set ?_ GX.out) | exact HB.out)⟩
              · have hb0 : decide (i < (l.length : Int)) = false := decide_eq_false hlt
                have HR1 : Aside0 (true = r) := ⟨by have := HRi.out; rw [List.drop_eq_nil_of_le (by omega)] at this; exact this⟩
                clear HRi hlt hi0 hi1
                go_wp2
                go_ret
                have e := HR1.out
                subst e
                exact ⟨rfl, by repeat (first | (with_reducible first | exact HB.out | apply below_alloc | apply pw_below_drewN | apply below_drew1 | refine below_set ?_ GS.out | refine below_set ?_ GX.out) | exact HB.out)⟩
theorem fits_n : ∀ n, n ≤ 1000000 → FitC n
  | 0, _ => by
    intro e A cp r w h
    obtain ⟨a, b, c, f, l⟩ := e
    simp only [cntE] at h
    omega
  | n + 1, hn => by
    intro e A cp r w h hC hc hr
    have hcnt : cntL e.f4 ≤ n := by
      obtain ⟨a, b, c, f, l⟩ := e
      simp only [cntE] at h
      show cntL l ≤ n
      omega
    exact fits_step n (by omega) (fits_n n (by omega)) e.f0 e.f1 e.f2 e.f3 e.f4 A cp r w hcnt hC hc (by rw [eta38]; exact hr)
theorem fits_L (e : S38) (A : Option Addr) (c : Nat) (w : World) (hC : Kd.C k38 w A e.f4.length e.f4) (hc : e.f4.length ≤ c) (h : cntE e ≤ 1000000) (b : Bool) (hb : fitE e = b) :
    Calls Try.prog 66 #[.agg #[.int .i64 e.f0, .int .i64 e.f1, .string e.f2, .int .i64 e.f3, .slice A e.f4.length c]] w fun r w' => r = .returned (.bool b) ∧ Below w.heap.size w w' :=
  fits_n 1000000 (Nat.le_refl _) e A c b w h hC hc hb
end Go.Proofs.Ytobkdmmnbnpemaa.K
