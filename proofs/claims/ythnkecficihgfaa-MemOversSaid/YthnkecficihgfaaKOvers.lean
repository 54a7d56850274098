/- MemOvers walked. -/
import Derived.Test.YthnkecficihgfaaKLays
import Derived.Test.YthnkecficihgfaaK4
import Derived.Test.YthnkecficihgfaaOpen3
namespace Go.Proofs.Ythnkecficihgfaa.KL
open Go.RowKit Go.Proofs.YthnkecficihgfaaW.PrintWords Go.Proofs.YthnkecficihgfaaW.PrintLast Go.Proofs.YthnkecficihgfaaW.PrintMore Go.Proofs.Ythnkecficihgfaa.K Go.Proofs.Ythnkecficihgfaa.O
attribute [local go_sem] max2_int min2_int max_two min_two max_three min_three max_four min_four
set_option linter.unusedVariables false
set_option linter.unusedSimpArgs false

/-! ### the document's answers -/
def overS (sets : List S47) (p : Int) : Int × Bool := if p < 0 then (0, false) else if p ≥ 64 then (0, false) else PureA.lastL sets p
theorem over_val (sets : List S47) (p : Int) (h : sets.length ≤ 1000000) : Ev (fun k => outriderref13_Over.f k sets p) (overS sets p) := by
  unfold outriderref13_Over.f overS
  by_cases c1 : p < 0
  · simp only [if_pos c1]; exact Ev.now _
  · simp only [if_neg c1]
    by_cases c2 : p ≥ 64
    · simp only [if_pos c2]; exact Ev.now _
    · simp only [if_neg c2]
      exact Ev.bind (PureA.last_val sets p h) (Ev.now _)
def allS (sets : List S47) : Nat → List S47
  | 0 => []
  | i + 1 => if (PureA.lastL sets (i : Int)).2 = true then allS sets i ++ [(⟨(i : Int), (PureA.lastL sets (i : Int)).1⟩ : S47)] else allS sets i
theorem allS_len (sets : List S47) : ∀ i, (allS sets i).length ≤ i
  | 0 => by simp [allS]
  | i + 1 => by
    have := allS_len sets i
    unfold allS
    split
    · simp; omega
    · omega
theorem all_l0 (sets : List S47) (h : sets.length ≤ 1000000) (d : Nat) : ∀ i : Nat, i + d = 64 → Ev (fun k => outriderref13_All.l0 k sets (allS sets i) (i : Int)) (allS sets 64) := by
  induction d with
  | zero =>
    intro i hi
    obtain rfl : i = 64 := by omega
    refine ⟨1, fun k hk => ?_⟩
    obtain ⟨k, rfl⟩ : ∃ m, k = m + 1 := ⟨k - 1, by omega⟩
    show outriderref13_All.l0 (k + 1) _ _ _ = _
    rw [outriderref13_All.l0, if_neg (by omega)]
  | succ d ih =>
    intro i hi
    have hl := allS_len sets i
    have h2 := ih (i + 1) (by omega)
    have e : allS sets (i + 1) = if (PureA.lastL sets (i : Int)).2 = true then allS sets i ++ [(⟨(i : Int), (PureA.lastL sets (i : Int)).1⟩ : S47)] else allS sets i := rfl
    rw [e] at h2
    refine Ev.step (f := fun k => (outriderref13_last.f k sets (i : Int)).bind fun t => if t.2 = true then outriderref13_All.l0 k sets (allS sets i ++ [(⟨(i : Int), t.1⟩ : S47)]) ((i + 1 : Nat) : Int) else outriderref13_All.l0 k sets (allS sets i) ((i + 1 : Nat) : Int)) (fun k => ?_) (Ev.bind (PureA.last_val sets (i : Int) h) ?_)
    · rw [outriderref13_All.l0, if_pos (by omega)]
      congr 1
      funext t
      rw [PureA.w64 _ (by omega)]
      by_cases c : t.2 = true
      · rw [if_pos c, if_pos c, if_pos (by omega)]
        rfl
      · rw [if_neg c, if_neg c]
        rfl
    · by_cases c : (PureA.lastL sets (i : Int)).2 = true
      · simp only [if_pos c] at h2 ⊢; exact h2
      · simp only [if_neg c] at h2 ⊢; exact h2
theorem all_val (sets : List S47) (h : sets.length ≤ 1000000) : Ev (fun k => outriderref13_All.f k sets) (allS sets 64) :=
  Ev.congr (fun _ => rfl) (all_l0 sets h 64 0 (by omega))

/-- What was set and the overlay tell the same of each place. -/
def Link (sets : List S47) (o : Ov) : Prop := ∀ p : Nat, p < 64 → PureA.lastL sets (p : Int) = if o.has.getD p false = true then (o.val.getD p 0, true) else (0, false)
theorem link_none : Link [] Ov.none := by
  intro p hp
  have : Ov.none.has.getD p false = false := by
    simp only [Ov.none, List.getD_eq_getElem?_getD, List.getElem?_replicate]
    split <;> rfl
  rw [this]
  rfl
theorem link_put {sets : List S47} {o : Ov} (h : Link sets o) (hok : o.ok) (a : Nat) (ha : a < 64) (v : Int) : Link (sets ++ [(⟨(a : Int), v⟩ : S47)]) (o.put a v) := by
  intro p hp
  obtain ⟨h1, h2⟩ := hok
  rw [PureA.lastL_snoc]
  simp only [Ov.put]
  by_cases e : a = p
  · subst e
    rw [if_pos rfl]
    simp [List.getD_eq_getElem?_getD, h1, h2, ha]
  · rw [if_neg (by omega), h p hp]
    simp [List.getD_eq_getElem?_getD, List.getElem?_set_ne e]
theorem link_row {sets : List S47} {o : Ov} (h : Link sets o) : ∀ i, i ≤ 64 → allS sets i = o.row i
  | 0, _ => rfl
  | i + 1, hi => by
    have ih := link_row h i (by omega)
    have hp := h i (by omega)
    unfold allS Ov.row
    rw [hp, ih]
    by_cases c : o.has.getD i false = true
    · simp only [if_pos c, if_true]
    · simp only [if_neg c, Bool.false_eq_true, if_false]
theorem row_count (o : Ov) (h : o.has.length = 64) : ∀ i, i ≤ 64 → (o.row i).length = ((o.has.take i).filter id).length
  | 0, _ => by simp [Ov.row]
  | i + 1, hi => by
    have ih := row_count o h i (by omega)
    have hl : i < o.has.length := by omega
    have hg : o.has.getD i false = o.has[i] := by simp [List.getD_eq_getElem?_getD, hl]
    unfold Ov.row
    rw [List.take_succ_eq_append_getElem hl, hg, List.filter_append, List.length_append]
    cases o.has[i]
    · simp [ih]
    · simp [ih]
theorem row_many (o : Ov) (h : o.ok) : o.many = ((o.row 64).length : Int) := by
  rw [row_count o h.1 64 (by omega), List.take_of_length_le (by have := h.1; omega)]
  rfl

theorem get_over {sets : List S47} {o : Ov} (b : Nat) (p : Int) (w : World) (hl : Link sets o) (h : Holds w b o) :
    Calls Try.prog 20 #[.pointer (some ⟨b, 0, none⟩), .int .i64 p] w fun e w' => e = .returned (.tuple #[.int .i64 (overS sets p).1, .bool (overS sets p).2]) ∧ w = w' := by
  unfold overS
  by_cases c1 : p < 0
  · rw [if_pos c1]; exact get_far b o p w h (.inl c1)
  · rw [if_neg c1]
    by_cases c2 : p ≥ 64
    · rw [if_pos c2]; exact get_far b o p w h (.inr c2)
    · rw [if_neg c2]
      obtain ⟨a, rfl⟩ := Int.eq_ofNat_of_zero_le (Int.not_lt.mp c1)
      have ha : a < 64 := by omega
      have hg := get_in b o a w h ha
      rw [hl a ha]
      cases hb : o.has.getD a false
      · rw [hb] at hg; exact hg
      · rw [hb] at hg; exact hg
theorem len_row (b : Nat) (o : Ov) (w : World) (h : Holds w b o) :
    Calls Try.prog 24 #[.pointer (some ⟨b, 0, none⟩)] w fun e w' => e = .returned (.int .i64 ((o.row 64).length : Int)) ∧ w = w' := by
  have := len_calls b o w h
  rw [row_many o h.2] at this
  exact this

def ORel (l : List S44) (w : World) (bo : Nat) (v4 v5 : Value) (w' : World) : Prop :=
  ∃ (i : Nat) (sets : List S47) (o : Ov), i ≤ l.length ∧ v5 = .int .i64 i ∧ Aside0 (sets.length ≤ i) ∧ Aside0 (Link sets o) ∧ Aside0 (Holds w' bo o) ∧ Aside0 (Below w.heap.size w w') ∧ Aside0 (Kd.R k47 47 w' w.heap.size (fun _ => True) v4 sets)

set_option maxHeartbeats 400000 in
theorem overs_big (A0 : Option Addr) (c0 n : Nat) (w : World) (h : 500 < n) :
    Calls Try.prog 6 #[.slice A0 n c0] w (TruePost w) := by
  have h' : (500 : Int) < n := by omega
  go_enter Try.func6, Try.ntmps6
  go_wp2
  go_ret
  exact ⟨rfl, Below.refl _ _⟩

set_option maxHeartbeats 2000000 in
set_option maxRecDepth 100000 in
theorem overs_main (A0 : Option Addr) (c0 : Nat) (l : List S44) (w : World) (hr0 : Kd.C k44 w A0 l.length l) (hc0 : l.length ≤ c0) (h0 : l.length ≤ 500) :
    Calls Try.prog 6 #[.slice A0 l.length c0] w (TruePost w) := by
  have HR0 := Aside0.mk hr0
  clear hr0 hc0
  have HB := Aside0.mk (Below.refl w.heap.size w)
  have h0' : ¬ (500 : Int) < l.length := by omega
  go_enter Try.func6, Try.ntmps6
  go_wp2_with (first | ((with_reducible refine gate_dst (N := 3) rfl ?_); refine box_event ?hg (N := 3) ?hd (cs := Ov.none.cells) (t := 42) ?hr ?_; (case hd => rfl); (case hg => rfl); (case hr => (have hz := zero42; generalize Ov.none.cells = Z at *; first | (go_simp; done) | (go_simp; rfl))); intro bo hg w6 hbox hb; have n1_ := Aside0.mk (below_step HB.out hb); have n2_ := Aside0.mk (show Holds w6 bo Ov.none from ⟨hbox, none_ok⟩); have n3_ := Aside0.mk ((by rw [hg]; exact below_size HB.out) : w.heap.size ≤ bo); clear HB; have HB := n1_; have HH := n2_; have GB := n3_; clear n1_ n2_ n3_ hb hbox hg))
  go_loopw [4, 5] (fun v4 v5 w' => ORel l w bo v4 v5 w') (fun _ v5 _ => l.length - (intOf v5).toNat)
  case atStart => exact ⟨0, [], Ov.none, Nat.zero_le _, rfl, ⟨Nat.le_refl _⟩, ⟨link_none⟩, HH, HB, ⟨Kd.R_nil _ _ _ _ _⟩⟩
  case round =>
    clear HH HB
    unfold ORel at hrel
    obtain ⟨i, sets, o, hi, rfl, SL, LK, HH, HB, HO⟩ := hrel
    by_cases hlt : i < l.length
    · have p118 : 0 ≤ (i : Int) := by omega
      have q118 : (i : Int) < l.length := by omega
      obtain ⟨ad, e118, hx0, hx1, hx2⟩ := at_T44 HR0.out i p118 q118
      cases e118
      replace hx0 := (HB.out.cell (World.block_lt_of_cell? w _ hx0)).trans hx0
      replace hx1 := (HB.out.cell (World.block_lt_of_cell? w _ hx1)).trans hx1
      replace hx2 := (HB.out.cell (World.block_lt_of_cell? w _ hx2)).trans hx2
      simp only [Int.toNat_natCast] at hx0 hx1 hx2
      generalize rd_T44 l (i : Int) = c at *
      obtain ⟨cK, cAt, cVal⟩ := c
      simp only at hx0 hx1 hx2
      have gbo := blk_lt HH.out.1
      cases q0 : ((wrap64 (cK.tmod 3 + 3)).tmod 3 == 0) with
      | true =>
        by_cases k1 : 0 ≤ cAt ∧ cAt < 64
        · obtain ⟨k1, k2⟩ := k1
          obtain ⟨a, rfl⟩ := Int.eq_ofNat_of_zero_le k1
          have ha : a < 64 := by omega
          go_wp2_with fail
          refine (set_in bo o a cVal _ ⟨blk_alloc HH.out.1 _, HH.out.2⟩ ha).mono ?_
          intro e w1 hs
          obtain ⟨he, hh, hg⟩ := hs
          subst he
          have hbx := blk_grown (blk_new wr (.cells #[.int .i64 cK, .int .i64 (a : Int), .int .i64 cVal] 44 (0, 0))) hg (fun e_ => by injection e_ with e_; omega)
          have hc1 := (blk_cell hbx 1).trans rfl
          have hc2 := (blk_cell hbx 2).trans rfl
          have n1_ := Aside0.mk hh
          have n2_ := Aside0.mk (pw_below_grown (below_alloc HB.out _) (some bo) (below_size (below_alloc HB.out _)) hg (fun k e => by injection e with e; subst e; exact GB.out))
          have n3_ := Aside0.mk (Kd.R_mono (ok' := fun _ => True) (Kd.R_grown (Kd.R_types (Kd.R_alloc HO.out _) (blk_alloc HH.out.1 _) (by decide)) hg (fun k hk e_ => by injection e_ with e_; exact hk.2 e_)) (fun _ _ => trivial))
          have hlk := Aside0.mk (link_put LK.out HH.out.2 a ha cVal)
          have hsl := Aside0.mk (show (sets ++ [(⟨(a : Int), cVal⟩ : S47)]).length ≤ i + 1 by have := SL.out; simp; omega)
          have hlim := SL.out
          clear HH HB HO LK hh hg hbx SL
          have HH := n1_
          have HB := n2_
          have HO := n3_
          have LK := hlk
          have SL := hsl
          clear n1_ n2_ n3_ hlk hsl
          go_wp2_with (first | ((with_reducible refine gate_builtin (b := .append) (xs := #[.tmp 50, .tmp 56]) rfl ?_); at_builtin; refine Kd.R_append k47 (w0 := w) w.heap.size rfl (.tmp 50) (.tmp 56) 22 47 (.agg #[(.int .i64 0), (.int .i64 0)]) 16 rfl Try.underlying22 info47 rfl (by decide) (by omega) u4 sets (⟨(a : Int), cVal⟩ : S47) [.int .i64 a, .int .i64 cVal] (fun _ => True) (fun _ => False) rfl rfl ?aP (fun _ hk => hk.elim) ?aF ?aO ?aB ?aS ?aL ?_; (case aP => exact k47_mkM _ _ _ (⟨(a : Int), cVal⟩ : S47)); (case aB => exact (by repeat (first | (with_reducible first | exact HB.out | apply below_alloc | apply pw_below_drewN | apply below_drew1) | exact HB.out))); (case aF => exact (fun _ _ => trivial)); (case aO => exact (by (with_reducible repeat (first | apply Kd.R_alloc | apply Kd.R_drewN | apply Kd.R_drew)); exact HO.out)); (case aS => exact (below_size (by repeat (first | (with_reducible first | exact HB.out | apply below_alloc | apply pw_below_drewN | apply below_drew1) | exact HB.out)))); (case aL => omega); intro v132 w7 ho hb hg hat; have n0_ := Aside0.mk (hb); have n1_ := Aside0.mk (ho); have n2_ := Aside0.mk (show Holds w7 bo (o.put a cVal) from ⟨blk_grown HH.out.1 hg (Kd.R_ne HO.out HH.out.1 (by decide)), HH.out.2⟩); clear HB HO HH; have HB := n0_; have HO := n1_; have HH := n2_; clear n0_ n1_ n2_; clear ho hb hg hat))
          go_wp2_with fail
          obtain ⟨As, cs_, es⟩ := Kd.R_slice HO.out
          (first | subst es | cases es)
          obtain ⟨ka, hka⟩ := (all_val (sets ++ [(⟨(a : Int), cVal⟩ : S47)]) (by have := SL.out; omega)).rounds
          rw [link_row LK.out 64 (Nat.le_refl _)] at hka
          refine (outriderref13_All.calls ka _ _ (sets ++ [(⟨(a : Int), cVal⟩ : S47)]) _ _ (Kd.R_reads' HO.out).2.2 (Kd.R_reads' HO.out).2.1 hka).mono ?_
          intro e wa hs
          obtain ⟨va, he, hR, hb⟩ := hs
          subst he
          have n1_ := Aside0.mk (show Holds wa bo (o.put a cVal) from ⟨blk_below HH.out.1 hb, HH.out.2⟩)
          have n2_ := Aside0.mk (below_step HB.out hb)
          have n3_ := Aside0.mk (Kd.R_below HO.out hb)
          have HA := Aside0.mk hR
          obtain ⟨Aa, ca, ea⟩ := Kd.R_slice hR
          subst ea
          clear HH HB HO hb hR hka
          have HH := n1_
          have HB := n2_
          have HO := n3_
          clear n1_ n2_ n3_
          go_wp2_with fail
          refine (len_row bo (o.put a cVal) _ HH.out).mono ?_
          intro e wl hs
          obtain ⟨he, hw⟩ := hs
          subst he
          subst hw
          go_wp2_with fail
          refine (cells_calls bo (o.put a cVal) _ HH.out).mono ?_
          intro e wb hs
          obtain ⟨vb, he, hR, hb⟩ := hs
          subst he
          obtain ⟨Ab, cb, eb⟩ := Kd.R_slice hR
          subst eb
          have n1_ := Aside0.mk (show Holds wb bo (o.put a cVal) from ⟨blk_below HH.out.1 hb, HH.out.2⟩)
          have n2_ := Aside0.mk (below_step HB.out hb)
          have n3_ := Aside0.mk (Kd.R_below HO.out hb)
          have n4_ := Aside0.mk (Kd.R_below HA.out hb)
          have HC := Aside0.mk hR
          clear HH HB HO HA hb hR
          have HH := n1_
          have HB := n2_
          have HO := n3_
          have HA := n4_
          clear n1_ n2_ n3_ n4_
          go_wp2_with fail
          obtain ⟨ks, hks⟩ := (PureA.same_same ((o.put a cVal).row 64) (by have := (o.put a cVal).row_len 64; omega)).rounds
          refine (outriderref13_Same.calls ks _ _ ((o.put a cVal).row 64) _ _ ((o.put a cVal).row 64) true _ (Kd.R_reads' HC.out).2.2 (Kd.R_reads' HC.out).2.1 (Kd.R_reads' HA.out).2.2 (Kd.R_reads' HA.out).2.1 hks).mono ?_
          intro e wc hs
          obtain ⟨he, hd⟩ := hs
          subst he
          have hb := hd.below
          have n1_ := Aside0.mk (show Holds wc bo (o.put a cVal) from ⟨blk_below HH.out.1 hb, HH.out.2⟩)
          have n2_ := Aside0.mk (below_step HB.out hb)
          have n3_ := Aside0.mk (Kd.R_below HO.out hb)
          clear HH HB HO HA HC hb hd hks
          have HH := n1_
          have HB := n2_
          have HO := n3_
          clear n1_ n2_ n3_
          go_wp2
          go_roundw
          case rel => exact ⟨i + 1, (sets ++ [(⟨(a : Int), cVal⟩ : S47)]), (o.put a cVal), by omega, by go_num, ⟨by have := SL.out; omega⟩, LK, HH, HB, ⟨by have h := HO.out; rw [List.length_append] at h; exact h⟩⟩
          case measure => simp [intOf]; omega
        · have kk : cAt < 0 ∨ 64 ≤ cAt := by omega
          have hset := Lib.hid (fun w' => set_far bo cAt cVal w' kk)
          have n1_ := Aside0.mk (show Holds (wr.alloc (.cells #[.int .i64 cK, .int .i64 cAt, .int .i64 cVal] 44 (0, 0))) bo o from ⟨blk_alloc HH.out.1 _, HH.out.2⟩)
          have n2_ := Aside0.mk (below_alloc HB.out (.cells #[.int .i64 cK, .int .i64 cAt, .int .i64 cVal] 44 (0, 0)))
          have n3_ := Aside0.mk (Kd.R_alloc HO.out (.cells #[.int .i64 cK, .int .i64 cAt, .int .i64 cVal] 44 (0, 0)))
          clear HH HB HO
          have HH := n1_
          have HB := n2_
          have HO := n3_
          clear n1_ n2_ n3_ k1
          by_cases k3 : cAt < 0
          · have k4 : ¬ 0 ≤ cAt := by omega
            clear kk
            go_wp2_with fail
            refine (hset.out _).mono ?_
            intro e w1 hs
            obtain ⟨he, hw⟩ := hs
            subst he
            subst hw
            go_wp2_with fail
            obtain ⟨As, cs_, es⟩ := Kd.R_slice HO.out
            (first | subst es | cases es)
            obtain ⟨ka, hka⟩ := (all_val sets (by have := SL.out; omega)).rounds
            rw [link_row LK.out 64 (Nat.le_refl _)] at hka
            refine (outriderref13_All.calls ka _ _ sets _ _ (Kd.R_reads' HO.out).2.2 (Kd.R_reads' HO.out).2.1 hka).mono ?_
            intro e wa hs
            obtain ⟨va, he, hR, hb⟩ := hs
            subst he
            have n1_ := Aside0.mk (show Holds wa bo o from ⟨blk_below HH.out.1 hb, HH.out.2⟩)
            have n2_ := Aside0.mk (below_step HB.out hb)
            have n3_ := Aside0.mk (Kd.R_below HO.out hb)
            have HA := Aside0.mk hR
            obtain ⟨Aa, ca, ea⟩ := Kd.R_slice hR
            subst ea
            clear HH HB HO hb hR hka
            have HH := n1_
            have HB := n2_
            have HO := n3_
            clear n1_ n2_ n3_
            go_wp2_with fail
            refine (len_row bo o _ HH.out).mono ?_
            intro e wl hs
            obtain ⟨he, hw⟩ := hs
            subst he
            subst hw
            go_wp2_with fail
            refine (cells_calls bo o _ HH.out).mono ?_
            intro e wb hs
            obtain ⟨vb, he, hR, hb⟩ := hs
            subst he
            obtain ⟨Ab, cb, eb⟩ := Kd.R_slice hR
            subst eb
            have n1_ := Aside0.mk (show Holds wb bo o from ⟨blk_below HH.out.1 hb, HH.out.2⟩)
            have n2_ := Aside0.mk (below_step HB.out hb)
            have n3_ := Aside0.mk (Kd.R_below HO.out hb)
            have n4_ := Aside0.mk (Kd.R_below HA.out hb)
            have HC := Aside0.mk hR
            clear HH HB HO HA hb hR
            have HH := n1_
            have HB := n2_
            have HO := n3_
            have HA := n4_
            clear n1_ n2_ n3_ n4_
            go_wp2_with fail
            obtain ⟨ks, hks⟩ := (PureA.same_same (o.row 64) (by have := o.row_len 64; omega)).rounds
            refine (outriderref13_Same.calls ks _ _ (o.row 64) _ _ (o.row 64) true _ (Kd.R_reads' HC.out).2.2 (Kd.R_reads' HC.out).2.1 (Kd.R_reads' HA.out).2.2 (Kd.R_reads' HA.out).2.1 hks).mono ?_
            intro e wc hs
            obtain ⟨he, hd⟩ := hs
            subst he
            have hb := hd.below
            have n1_ := Aside0.mk (show Holds wc bo o from ⟨blk_below HH.out.1 hb, HH.out.2⟩)
            have n2_ := Aside0.mk (below_step HB.out hb)
            have n3_ := Aside0.mk (Kd.R_below HO.out hb)
            clear HH HB HO HA HC hb hd hks
            have HH := n1_
            have HB := n2_
            have HO := n3_
            clear n1_ n2_ n3_
            go_wp2
            go_roundw
            case rel => exact ⟨i + 1, sets, o, by omega, by go_num, ⟨by have := SL.out; omega⟩, LK, HH, HB, HO⟩
            case measure => simp [intOf]; omega
          · have k4 : 64 ≤ cAt := by omega
            have k5 : ¬ cAt < 64 := by omega
            have k6 : 0 ≤ cAt := by omega
            clear kk k3
            go_wp2_with fail
            refine (hset.out _).mono ?_
            intro e w1 hs
            obtain ⟨he, hw⟩ := hs
            subst he
            subst hw
            go_wp2_with fail
            obtain ⟨As, cs_, es⟩ := Kd.R_slice HO.out
            (first | subst es | cases es)
            obtain ⟨ka, hka⟩ := (all_val sets (by have := SL.out; omega)).rounds
            rw [link_row LK.out 64 (Nat.le_refl _)] at hka
            refine (outriderref13_All.calls ka _ _ sets _ _ (Kd.R_reads' HO.out).2.2 (Kd.R_reads' HO.out).2.1 hka).mono ?_
            intro e wa hs
            obtain ⟨va, he, hR, hb⟩ := hs
            subst he
            have n1_ := Aside0.mk (show Holds wa bo o from ⟨blk_below HH.out.1 hb, HH.out.2⟩)
            have n2_ := Aside0.mk (below_step HB.out hb)
            have n3_ := Aside0.mk (Kd.R_below HO.out hb)
            have HA := Aside0.mk hR
            obtain ⟨Aa, ca, ea⟩ := Kd.R_slice hR
            subst ea
            clear HH HB HO hb hR hka
            have HH := n1_
            have HB := n2_
            have HO := n3_
            clear n1_ n2_ n3_
            go_wp2_with fail
            refine (len_row bo o _ HH.out).mono ?_
            intro e wl hs
            obtain ⟨he, hw⟩ := hs
            subst he
            subst hw
            go_wp2_with fail
            refine (cells_calls bo o _ HH.out).mono ?_
            intro e wb hs
            obtain ⟨vb, he, hR, hb⟩ := hs
            subst he
            obtain ⟨Ab, cb, eb⟩ := Kd.R_slice hR
            subst eb
            have n1_ := Aside0.mk (show Holds wb bo o from ⟨blk_below HH.out.1 hb, HH.out.2⟩)
            have n2_ := Aside0.mk (below_step HB.out hb)
            have n3_ := Aside0.mk (Kd.R_below HO.out hb)
            have n4_ := Aside0.mk (Kd.R_below HA.out hb)
            have HC := Aside0.mk hR
            clear HH HB HO HA hb hR
            have HH := n1_
            have HB := n2_
            have HO := n3_
            have HA := n4_
            clear n1_ n2_ n3_ n4_
            go_wp2_with fail
            obtain ⟨ks, hks⟩ := (PureA.same_same (o.row 64) (by have := o.row_len 64; omega)).rounds
            refine (outriderref13_Same.calls ks _ _ (o.row 64) _ _ (o.row 64) true _ (Kd.R_reads' HC.out).2.2 (Kd.R_reads' HC.out).2.1 (Kd.R_reads' HA.out).2.2 (Kd.R_reads' HA.out).2.1 hks).mono ?_
            intro e wc hs
            obtain ⟨he, hd⟩ := hs
            subst he
            have hb := hd.below
            have n1_ := Aside0.mk (show Holds wc bo o from ⟨blk_below HH.out.1 hb, HH.out.2⟩)
            have n2_ := Aside0.mk (below_step HB.out hb)
            have n3_ := Aside0.mk (Kd.R_below HO.out hb)
            clear HH HB HO HA HC hb hd hks
            have HH := n1_
            have HB := n2_
            have HO := n3_
            clear n1_ n2_ n3_
            go_wp2
            go_roundw
            case rel => exact ⟨i + 1, sets, o, by omega, by go_num, ⟨by have := SL.out; omega⟩, LK, HH, HB, HO⟩
            case measure => simp [intOf]; omega
      | false =>
        cases q1 : ((wrap64 (cK.tmod 3 + 3)).tmod 3 == 1) with
        | true =>
          go_wp2_with fail
          refine (get_over bo cAt _ LK.out ⟨blk_alloc HH.out.1 _, HH.out.2⟩).mono ?_
          intro e w1 hs
          obtain ⟨he, hw⟩ := hs
          subst he
          subst hw
          have n1_ := Aside0.mk (show Holds (wr.alloc (.cells #[.int .i64 cK, .int .i64 cAt, .int .i64 cVal] 44 (0, 0))) bo o from ⟨blk_alloc HH.out.1 _, HH.out.2⟩)
          have n2_ := Aside0.mk (below_alloc HB.out (.cells #[.int .i64 cK, .int .i64 cAt, .int .i64 cVal] 44 (0, 0)))
          have n3_ := Aside0.mk (Kd.R_alloc HO.out (.cells #[.int .i64 cK, .int .i64 cAt, .int .i64 cVal] 44 (0, 0)))
          clear HH HB HO
          have HH := n1_
          have HB := n2_
          have HO := n3_
          clear n1_ n2_ n3_
          go_wp2_with fail
          obtain ⟨As0, cs0_, es0⟩ := Kd.R_slice HO.out
          (first | subst es0 | cases es0)
          obtain ⟨kv, hkv⟩ := (over_val sets cAt (by have := SL.out; omega)).rounds
          refine (outriderref13_Over.calls kv _ _ sets cAt (overS sets cAt).1 (overS sets cAt).2 _ (Kd.R_reads' HO.out).2.2 (Kd.R_reads' HO.out).2.1 hkv).mono ?_
          intro e w1 hs
          obtain ⟨he, hd⟩ := hs
          subst he
          have hb := hd.below
          have n1_ := Aside0.mk (show Holds w1 bo o from ⟨blk_below HH.out.1 hb, HH.out.2⟩)
          have n2_ := Aside0.mk (below_step HB.out hb)
          have n3_ := Aside0.mk (Kd.R_below HO.out hb)
          clear HH HB HO hb hd hkv
          have HH := n1_
          have HB := n2_
          have HO := n3_
          clear n1_ n2_ n3_
          generalize (overS sets cAt).1 = ov1 at *
          generalize (overS sets cAt).2 = ov2 at *
          go_wp2_with fail
          obtain ⟨As, cs_, es⟩ := Kd.R_slice HO.out
          (first | subst es | cases es)
          obtain ⟨ka, hka⟩ := (all_val sets (by have := SL.out; omega)).rounds
          rw [link_row LK.out 64 (Nat.le_refl _)] at hka
          refine (outriderref13_All.calls ka _ _ sets _ _ (Kd.R_reads' HO.out).2.2 (Kd.R_reads' HO.out).2.1 hka).mono ?_
          intro e wa hs
          obtain ⟨va, he, hR, hb⟩ := hs
          subst he
          have n1_ := Aside0.mk (show Holds wa bo o from ⟨blk_below HH.out.1 hb, HH.out.2⟩)
          have n2_ := Aside0.mk (below_step HB.out hb)
          have n3_ := Aside0.mk (Kd.R_below HO.out hb)
          have HA := Aside0.mk hR
          obtain ⟨Aa, ca, ea⟩ := Kd.R_slice hR
          subst ea
          clear HH HB HO hb hR hka
          have HH := n1_
          have HB := n2_
          have HO := n3_
          clear n1_ n2_ n3_
          go_wp2_with fail
          refine (len_row bo o _ HH.out).mono ?_
          intro e wl hs
          obtain ⟨he, hw⟩ := hs
          subst he
          subst hw
          go_wp2_with fail
          refine (cells_calls bo o _ HH.out).mono ?_
          intro e wb hs
          obtain ⟨vb, he, hR, hb⟩ := hs
          subst he
          obtain ⟨Ab, cb, eb⟩ := Kd.R_slice hR
          subst eb
          have n1_ := Aside0.mk (show Holds wb bo o from ⟨blk_below HH.out.1 hb, HH.out.2⟩)
          have n2_ := Aside0.mk (below_step HB.out hb)
          have n3_ := Aside0.mk (Kd.R_below HO.out hb)
          have n4_ := Aside0.mk (Kd.R_below HA.out hb)
          have HC := Aside0.mk hR
          clear HH HB HO HA hb hR
          have HH := n1_
          have HB := n2_
          have HO := n3_
          have HA := n4_
          clear n1_ n2_ n3_ n4_
          go_wp2_with fail
          obtain ⟨ks, hks⟩ := (PureA.same_same (o.row 64) (by have := o.row_len 64; omega)).rounds
          refine (outriderref13_Same.calls ks _ _ (o.row 64) _ _ (o.row 64) true _ (Kd.R_reads' HC.out).2.2 (Kd.R_reads' HC.out).2.1 (Kd.R_reads' HA.out).2.2 (Kd.R_reads' HA.out).2.1 hks).mono ?_
          intro e wc hs
          obtain ⟨he, hd⟩ := hs
          subst he
          have hb := hd.below
          have n1_ := Aside0.mk (show Holds wc bo o from ⟨blk_below HH.out.1 hb, HH.out.2⟩)
          have n2_ := Aside0.mk (below_step HB.out hb)
          have n3_ := Aside0.mk (Kd.R_below HO.out hb)
          clear HH HB HO HA HC hb hd hks
          have HH := n1_
          have HB := n2_
          have HO := n3_
          clear n1_ n2_ n3_
          go_wp2
          go_roundw
          case rel => exact ⟨i + 1, sets, o, by omega, by go_num, ⟨by have := SL.out; omega⟩, LK, HH, HB, HO⟩
          case measure => simp [intOf]; omega
        | false =>
          go_wp2_with fail
          refine (clear_calls bo o _ ⟨blk_alloc HH.out.1 _, HH.out.2⟩).mono ?_
          intro e w1 hs
          obtain ⟨he, hh, hg⟩ := hs
          subst he
          have n1_ := Aside0.mk hh
          have n2_ := Aside0.mk (pw_below_grown (below_alloc HB.out _) (some bo) (below_size (below_alloc HB.out _)) hg (fun k e => by injection e with e; subst e; exact GB.out))
          have n3_ := Aside0.mk (Kd.R_nil k47 47 w1 w.heap.size (fun _ => True))
          have hlk := Aside0.mk link_none
          have hsl := Aside0.mk (Nat.zero_le (i + 1))
          clear HH HB HO LK hh hg SL
          have HH := n1_
          have HB := n2_
          have HO := n3_
          have LK := hlk
          have SL : Aside0 (([] : List S47).length ≤ i + 1) := hsl
          clear n1_ n2_ n3_ hlk hsl
          go_wp2_with fail
          obtain ⟨As, cs_, es⟩ := Kd.R_slice HO.out
          (first | subst es | cases es)
          obtain ⟨ka, hka⟩ := (all_val ([] : List S47) (by have := SL.out; omega)).rounds
          rw [link_row LK.out 64 (Nat.le_refl _)] at hka
          refine (outriderref13_All.calls ka _ _ ([] : List S47) _ _ (Kd.R_reads' HO.out).2.2 (Kd.R_reads' HO.out).2.1 hka).mono ?_
          intro e wa hs
          obtain ⟨va, he, hR, hb⟩ := hs
          subst he
          have n1_ := Aside0.mk (show Holds wa bo Ov.none from ⟨blk_below HH.out.1 hb, HH.out.2⟩)
          have n2_ := Aside0.mk (below_step HB.out hb)
          have n3_ := Aside0.mk (Kd.R_below HO.out hb)
          have HA := Aside0.mk hR
          obtain ⟨Aa, ca, ea⟩ := Kd.R_slice hR
          subst ea
          clear HH HB HO hb hR hka
          have HH := n1_
          have HB := n2_
          have HO := n3_
          clear n1_ n2_ n3_
          go_wp2_with fail
          refine (len_row bo Ov.none _ HH.out).mono ?_
          intro e wl hs
          obtain ⟨he, hw⟩ := hs
          subst he
          subst hw
          go_wp2_with fail
          refine (cells_calls bo Ov.none _ HH.out).mono ?_
          intro e wb hs
          obtain ⟨vb, he, hR, hb⟩ := hs
          subst he
          obtain ⟨Ab, cb, eb⟩ := Kd.R_slice hR
          subst eb
          have n1_ := Aside0.mk (show Holds wb bo Ov.none from ⟨blk_below HH.out.1 hb, HH.out.2⟩)
          have n2_ := Aside0.mk (below_step HB.out hb)
          have n3_ := Aside0.mk (Kd.R_below HO.out hb)
          have n4_ := Aside0.mk (Kd.R_below HA.out hb)
          have HC := Aside0.mk hR
          clear HH HB HO HA hb hR
          have HH := n1_
          have HB := n2_
          have HO := n3_
          have HA := n4_
          clear n1_ n2_ n3_ n4_
          go_wp2_with fail
          obtain ⟨ks, hks⟩ := (PureA.same_same (Ov.none.row 64) (by have := Ov.none.row_len 64; omega)).rounds
          refine (outriderref13_Same.calls ks _ _ (Ov.none.row 64) _ _ (Ov.none.row 64) true _ (Kd.R_reads' HC.out).2.2 (Kd.R_reads' HC.out).2.1 (Kd.R_reads' HA.out).2.2 (Kd.R_reads' HA.out).2.1 hks).mono ?_
          intro e wc hs
          obtain ⟨he, hd⟩ := hs
          subst he
          have hb := hd.below
          have n1_ := Aside0.mk (show Holds wc bo Ov.none from ⟨blk_below HH.out.1 hb, HH.out.2⟩)
          have n2_ := Aside0.mk (below_step HB.out hb)
          have n3_ := Aside0.mk (Kd.R_below HO.out hb)
          clear HH HB HO HA HC hb hd hks
          have HH := n1_
          have HB := n2_
          have HO := n3_
          clear n1_ n2_ n3_
          go_wp2
          go_roundw
          case rel => exact ⟨i + 1, ([] : List S47), Ov.none, by omega, by go_num, ⟨by have := SL.out; omega⟩, LK, HH, HB, HO⟩
          case measure => simp [intOf]; omega
    · have e : i = l.length := by omega
      subst e
      go_wp2_with fail
      obtain ⟨ka, hka⟩ := PureA.alive_val.rounds
      refine (outriderlaw13_alive.calls ka true _ hka).mono ?_
      intro e w3 hs
      obtain ⟨he, hb⟩ := hs
      subst he
      have n1_ := Aside0.mk (below_step HB.out hb)
      clear HH HB HO LK SL hb hka
      go_wp2
      go_ret
      exact ⟨rfl, n1_.out⟩

theorem overs_calls (A0 : Option Addr) (c0 : Nat) (l : List S44) (w : World) (hr0 : Kd.C k44 w A0 l.length l) (hc0 : l.length ≤ c0) :
    Calls Try.prog 6 #[.slice A0 l.length c0] w fun e w' => e = .returned (.bool true) ∧ Below w.heap.size w w' := by
  have h : Calls Try.prog 6 #[.slice A0 l.length c0] w (TruePost w) := by
    by_cases k1 : 500 < l.length
    · exact overs_big _ _ _ w k1
    · exact overs_main A0 c0 l w hr0 hc0 (by omega)
  exact h.mono fun e w' h => h
end Go.Proofs.Ythnkecficihgfaa.KL
