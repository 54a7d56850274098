/- The small functions of the parser's reader. -/
import Derived.Test.YtobkdmmnbnpemaaXJP0
import Derived.Test.YtobkdmmnbnpemaaXJE0
namespace Go.Proofs.Ytobkdmmnbnpemaa.K
open Go.RowKit Go.Proofs.YtobkdmmnbnpemaaW.PrintWords Go.Proofs.YtobkdmmnbnpemaaW.PrintLast Go.Proofs.YtobkdmmnbnpemaaW.PrintMore
attribute [local go_sem] max2_int min2_int max_two min_two max_three min_three max_four min_four
set_option linter.unusedVariables false
set_option linter.unusedSimpArgs false
theorem RD.alloc {W : World} {g : Nat} {A : Option Addr} {c : Nat} {T : List S58} {s : PSt} (h : RD W g A c T s) (o : Obj) : RD (W.alloc o) g A c T s := h.below (below_alloc (Below.refl _ _) o)
theorem RD.drewN {W : World} {g : Nat} {A : Option Addr} {c : Nat} {T : List S58} {s : PSt} (h : RD W g A c T s) (m : Nat) : RD (W.drewN m) g A c T s := h.below (pw_below_drewN (Below.refl _ _) m)
theorem RD.drew {W : World} {g : Nat} {A : Option Addr} {c : Nat} {T : List S58} {s : PSt} (h : RD W g A c T s) : RD W.drew g A c T s := h.below (below_drew (Below.refl _ _))
theorem RD.set1 {W : World} {g : Nat} {A : Option Addr} {c : Nat} {T : List S58} {a n q b : Int} (h : RD W g A c T ⟨a, n, q, b⟩) (v : Int) : RD (W.setCell ⟨g, 1, none⟩ (.int .i64 v)) g A c T ⟨v, n, q, b⟩ := ⟨blk_put h.bk 1 _ rfl, Kd.F_far h.tk (fun _ hk => hk) _⟩
theorem RD.set2 {W : World} {g : Nat} {A : Option Addr} {c : Nat} {T : List S58} {a n q b : Int} (h : RD W g A c T ⟨a, n, q, b⟩) (v : Int) : RD (W.setCell ⟨g, 2, none⟩ (.int .i64 v)) g A c T ⟨a, v, q, b⟩ := ⟨blk_put h.bk 2 _ rfl, Kd.F_far h.tk (fun _ hk => hk) _⟩
theorem RD.set3 {W : World} {g : Nat} {A : Option Addr} {c : Nat} {T : List S58} {a n q b : Int} (h : RD W g A c T ⟨a, n, q, b⟩) (v : Int) : RD (W.setCell ⟨g, 3, none⟩ (.int .i64 v)) g A c T ⟨a, n, v, b⟩ := ⟨blk_put h.bk 3 _ rfl, Kd.F_far h.tk (fun _ hk => hk) _⟩
theorem RD.set4 {W : World} {g : Nat} {A : Option Addr} {c : Nat} {T : List S58} {a n q b : Int} (h : RD W g A c T ⟨a, n, q, b⟩) (v : Int) : RD (W.setCell ⟨g, 4, none⟩ (.int .i64 v)) g A c T ⟨a, n, q, v⟩ := ⟨blk_put h.bk 4 _ rfl, Kd.F_far h.tk (fun _ hk => hk) _⟩
theorem RD.cells {W : World} {g : Nat} {A : Option Addr} {c : Nat} {T : List S58} {a n q b : Int} (h : RD W g A c T ⟨a, n, q, b⟩) : (W.cell? ⟨g, 0, none⟩ = some (.slice A T.length c) ∧ W.cell? ⟨g, 1, none⟩ = some (.int .i64 a) ∧ W.cell? ⟨g, 2, none⟩ = some (.int .i64 n) ∧ W.cell? ⟨g, 3, none⟩ = some (.int .i64 q) ∧ W.cell? ⟨g, 4, none⟩ = some (.int .i64 b)) ∧
    W.frozen? ⟨g, 0, none⟩ = false ∧ W.frozen? ⟨g, 1, none⟩ = false ∧ W.frozen? ⟨g, 2, none⟩ = false ∧ W.frozen? ⟨g, 3, none⟩ = false ∧ W.frozen? ⟨g, 4, none⟩ = false :=
  ⟨⟨blk_cell h.bk 0, blk_cell h.bk 1, blk_cell h.bk 2, blk_cell h.bk 3, blk_cell h.bk 4⟩, blk_frozen h.bk 0, blk_frozen h.bk 1, blk_frozen h.bk 2, blk_frozen h.bk 3, blk_frozen h.bk 4⟩
theorem RD.lt {W : World} {g : Nat} {A : Option Addr} {c : Nat} {T : List S58} {s : PSt} (h : RD W g A c T s) : g < W.heap.size := blk_lt h.bk
theorem RD.max {W : World} {g : Nat} {A : Option Addr} {c : Nat} {T : List S58} {s : PSt} (h : RD W g A c T s) : T.length ≤ 9223372036854775807 := Kd.F_max h.tk
theorem give_A (er t0 : Int) (t1 : ByteArray) (t2 t3 : Int) (w : World) : Calls Try.prog 76 #[.int .i64 er, .agg #[.int .i64 t0, .string t1, .int .i64 t2, .int .i64 t3]] w fun e w' => e = .panicked [stopV er t3] ∧ Below w.heap.size w w' := give_L er ⟨t0, t1, t2, t3⟩ w
def isB (t : S58) (s : ByteArray) : Bool := ((t.f0 == 4) || (t.f0 == 3)) && (t.f1.toList == s.toList)
def PPost (w : World) (g : Nat) (A : Option Addr) (c : Nat) (T : List S58) (r : Except (Int × Int) (Value × PSt)) (e : Ending) (w' : World) : Prop :=
  KeepBut w w' g none ∧ match r with
  | .ok (v, s) => e = .returned v ∧ RD w' g A c T s
  | .error (er, at_) => e = .panicked [stopV er at_]
set_option maxHeartbeats 4000000 in
set_option maxRecDepth 100000 in
theorem is_L (g : Nat) (A : Option Addr) (c : Nat) (T : List S58) (a n q b : Int) (w : World) (s : ByteArray) (h : RD w g A c T ⟨a, n, q, b⟩) (h0 : 0 ≤ a) (h1 : a < T.length) (r : Bool) (hr : isB (rd_T58 T a) s = r) :
    Calls Try.prog 103 #[.pointer (some ⟨g, 0, none⟩), .string s] w fun e w' => e = .returned (.bool r) ∧ Below w.heap.size w w' := by
  have HB := A_0 (Below.refl w.heap.size w); have HX := A_0 h; have HR := A_0 hr; clear hr h; generalize ht : rd_T58 T a = t at HR; have HT := A_0 ht; clear ht; obtain ⟨t0, t1, t2, t3⟩ := t
  go_enter Try.func103, Try.ntmps103
  go_upto_region 2 with (first | (go_at_call 46; (with_reducible refine (now_L g A c T ⟨a, n, q, b⟩ _ HX.out h0 h1).mono ?_); rintro e wn ⟨rfl, hb⟩; have n0_ := A_0 (below_step HB.out hb); clear HB hb; have HB := n0_; clear n0_; rw [HT.out]; unfold tokV; dsimp only))
  have e := HR.out; unfold isB at e; dsimp only at e; by_cases q4 : t0 = 4
  · subst q4
    by_cases qs : t1.toList = s.toList
    · have e1 : (t1.toList == s.toList) = true := beq_iff_eq.2 qs
      rw [e1] at e; have e' : true = r := e; subst e'
      go_wp2
      go_ret
      exact z_32
    · have e1 : (t1.toList == s.toList) = false := beq_eq_false_iff_ne.2 qs
      rw [e1] at e; have e' : false = r := e; subst e'
      go_wp2
      go_ret
      exact z_32
  have d4 : (t0 == 4) = false := beq_eq_false_iff_ne.2 q4; by_cases q3 : t0 = 3
  · subst q3
    by_cases qs : t1.toList = s.toList
    · have e1 : (t1.toList == s.toList) = true := beq_iff_eq.2 qs
      rw [e1] at e; have e' : true = r := e; subst e'
      go_wp2
      go_ret
      exact z_32
    · have e1 : (t1.toList == s.toList) = false := beq_eq_false_iff_ne.2 qs
      rw [e1] at e; have e' : false = r := e; subst e'
      go_wp2
      go_ret
      exact z_32
  have d3 : (t0 == 3) = false := beq_eq_false_iff_ne.2 q3; rw [d4, d3] at e; have e' : false = r := e; subst e'
  go_wp2
  go_ret
  exact z_32
def wantP (T : List S58) (a n q b : Int) (s : ByteArray) : Except (Int × Int) (Value × PSt) := if isB (rd_T58 T a) s = true then .ok (tokV (rd_T58 T a), ⟨a + 1, n, q, b⟩) else .error (40, (rd_T58 T a).f3)
def kindP (T : List S58) (a n q b : Int) (k : Int) : Except (Int × Int) (Value × PSt) := if (rd_T58 T a).f0 = k then .ok (tokV (rd_T58 T a), ⟨a + 1, n, q, b⟩) else .error (40, (rd_T58 T a).f3)
theorem RD.far {W : World} {g : Nat} {A : Option Addr} {c : Nat} {T : List S58} {s : PSt} (h : RD W g A c T s) {p : Addr} (hp : p.block ≠ g) (hT : W.heap.size ≤ p.block ∨ True) (u : Value) (ht : Kd.F k58 (W.setCell p u) (fun k => k ≠ g) A T.length T) : RD (W.setCell p u) g A c T s := ⟨blk_far h.bk (Ne.symm hp) _, ht⟩
theorem four {w : World} {g : Nat} {t : TypeId} {a0 a1 a2 a3 : Value} (h : w.heap[g]? = some (.cells #[a0, a1, a2, a3] t (0, 0))) :
    (w.cell? ⟨g, 0, none⟩ = some a0 ∧ w.cell? ⟨g, 1, none⟩ = some a1 ∧ w.cell? ⟨g, 2, none⟩ = some a2 ∧ w.cell? ⟨g, 3, none⟩ = some a3) ∧ w.frozen? ⟨g, 0, none⟩ = false ∧ w.frozen? ⟨g, 1, none⟩ = false ∧ w.frozen? ⟨g, 2, none⟩ = false ∧ w.frozen? ⟨g, 3, none⟩ = false :=
  ⟨⟨blk_cell h 0, blk_cell h 1, blk_cell h 2, blk_cell h 3⟩, blk_frozen h 0, blk_frozen h 1, blk_frozen h 2, blk_frozen h 3⟩
structure RB (w W : World) (g : Nat) (A : Option Addr) (c : Nat) (T : List S58) (s : PSt) : Prop where
  rd : RD W g A c T s
  kp : KeepBut w W g none
theorem RB.below {w W W1 : World} {g : Nat} {A : Option Addr} {c : Nat} {T : List S58} {s : PSt} (h : RB w W g A c T s) (b : Below W.heap.size W W1) : RB w W1 g A c T s := ⟨h.rd.below b, h.kp.trans (KeepBut.of_below b g none) (.inl rfl)⟩
set_option maxHeartbeats 4000000 in
set_option maxRecDepth 100000 in
theorem want_L (g : Nat) (A : Option Addr) (c : Nat) (T : List S58) (a n q b : Int) (w : World) (s : ByteArray) (h : RD w g A c T ⟨a, n, q, b⟩) (h0 : 0 ≤ a) (h1 : a < T.length) :
    Calls Try.prog 73 #[.pointer (some ⟨g, 0, none⟩), .string s] w (PPost w g A c T (wantP T a n q b s)) := by
  have HX := A_0 h; have HK := A_0 (KeepBut.refl w g none); have hmx := h.max; clear h; obtain ⟨⟨hz0, hz1, hz2, hz3, hz4⟩, hf0, hf1, hf2, hf3, hf4⟩ := HX.out.cells; have hw : wrap64 (a + 1) = a + 1 := by unfold wrap64; omega
  have hgs : g ≠ w.heap.size := Nat.ne_of_lt HX.out.lt; have hgs' : w.heap.size ≠ g := Ne.symm hgs; have HT0 := A_0 HX.out.tk
  go_enter Try.func73, Try.ntmps73
  go_upto_region 1 with fail
  go_cut [5] (fun v5 wx => ∃ tb : Nat, v5 = .pointer (some ⟨tb, 0, none⟩) ∧ w.heap.size < tb ∧ Aside0 (wx.heap[tb]? = some (.cells #[.int .i64 (rd_T58 T a).f0, .string (rd_T58 T a).f1, .int .i64 (rd_T58 T a).f2, .int .i64 (rd_T58 T a).f3] 58 (0, 0))) ∧ Aside0 (wx.heap[w.heap.size]? = some (.cells #[.int .i64 0, .string (⟨#[]⟩ : ByteArray), .int .i64 0, .int .i64 0] 58 (0, 0))) ∧ Aside0 (RD wx g A c T ⟨a, n, q, b⟩) ∧ Aside0 (KeepBut w wx g none))
  case first =>
    go_wp2_with (first | (go_at_call 46; (with_reducible refine (now_L g A c T ⟨a, n, q, b⟩ _ (z_33) h0 h1).mono ?_); rintro e wn ⟨rfl, hb⟩; unfold tokV; have n0_ := A_0 (RD.below (z_33) hb); have n1_ := A_0 ((show KeepBut w _ g none from z_34).trans (KeepBut.of_below hb g none) (.inl rfl)); have n2_ := A_0 (blk_below (g := w.heap.size) (o := .cells #[.int .i64 0, .string (⟨#[]⟩ : ByteArray), .int .i64 0, .int .i64 0] 58 (0, 0)) (by first | exact blk_new w _ | exact BR.out) hb); clear hz0 hz1 hz2 hz3 hz4 hf0 hf1 hf2 hf3 hf4; clear HX HK hb; have HX := n0_; have HK := n1_; have BR := n2_; clear n0_ n1_ n2_; obtain ⟨⟨hz0, hz1, hz2, hz3, hz4⟩, hf0, hf1, hf2, hf3, hf4⟩ := HX.out.cells))
    go_meet
    exact z_35
  case rest =>
    clear HX HK; clear hz0 hz1 hz2 hz3 hz4 hf0 hf1 hf2 hf3 hf4; obtain ⟨tb, rfl, htb, BT, BR, HX, HK⟩ := hcut; have htn : tb ≠ w.heap.size := Nat.ne_of_gt htb; have htn' : w.heap.size ≠ tb := Nat.ne_of_lt htb; have htg : tb ≠ g := z_36; have htg' : g ≠ tb := Ne.symm htg; obtain ⟨⟨hz0, hz1, hz2, hz3, hz4⟩, hf0, hf1, hf2, hf3, hf4⟩ := HX.out.cells; have tz := four BT.out; have rz := four BR.out; by_cases hq : isB (rd_T58 T a) s = true
    · have HP := A_0 (show wantP T a n q b s = _ from if_pos hq)
      have HQ := A_0 hq
      skip
      clear hq
      go_wp2_with (first | (go_at_call 103; (with_reducible refine (is_L g A c T a n q b _ s HX.out h0 h1 true HQ.out).mono ?_); rintro e wn ⟨rfl, hb⟩; have n0_ := A_0 (RD.below HX.out hb); have n1_ := A_0 (HK.out.trans (KeepBut.of_below hb g none) (.inl rfl)); have n2_ := A_0 (blk_below BR.out hb); have n3_ := A_0 (blk_below BT.out hb); clear hz0 hz1 hz2 hz3 hz4 hf0 hf1 hf2 hf3 hf4; clear tz rz; clear HX HK BR BT hb; have HX := n0_; have HK := n1_; have BR := n2_; have BT := n3_; clear n0_ n1_ n2_ n3_; obtain ⟨⟨hz0, hz1, hz2, hz3, hz4⟩, hf0, hf1, hf2, hf3, hf4⟩ := HX.out.cells; have tz := four BT.out; have rz := four BR.out))
      generalize hq : World.setCell _ ⟨w.heap.size, 3, none⟩ _ = wt; have BR2 : wt.heap[w.heap.size]? = some (.cells #[.int .i64 (rd_T58 T a).f0, .string (rd_T58 T a).f1, .int .i64 (rd_T58 T a).f2, .int .i64 (rd_T58 T a).f3] 58 (0, 0)) := z_37; have HK2 : KeepBut w wt g none := by rw [← hq]; (repeat (refine keep_far ?_ (Nat.le_refl _) _)); exact HK.out.set_ _ _
      have HX2 : RD wt g A c T ⟨a + 1, n, q, b⟩ := ⟨by rw [← hq]; have z := (HX.out.set1 (a + 1)).bk; (repeat (refine blk_far ?_ hgs _)); exact z, Kd.F_keep HT0.out HK2 (fun _ h => h)⟩; obtain ⟨⟨wz0, wz1, wz2, wz3⟩, _⟩ := four BR2; refine bodyPost_ret (v := .agg #[.int .i64 (rd_T58 T a).f0, .string (rd_T58 T a).f1, .int .i64 (rd_T58 T a).f2, .int .i64 (rd_T58 T a).f3]) (by simp [results, Try.results73, go_sem, wz0, wz1, wz2, wz3]) rfl (by rw [HP.out]; exact ⟨HK2, rfl, HX2⟩)
    · have HP := A_0 (show wantP T a n q b s = _ from if_neg hq)
      have HQ := A_0 (Bool.eq_false_iff.2 hq)
      skip
      clear hq
      go_wp2_with (first | (go_at_call 103; (with_reducible refine (is_L g A c T a n q b _ s HX.out h0 h1 false HQ.out).mono ?_); rintro e wn ⟨rfl, hb⟩; have n0_ := A_0 (RD.below HX.out hb); have n1_ := A_0 (HK.out.trans (KeepBut.of_below hb g none) (.inl rfl)); have n2_ := A_0 (blk_below BR.out hb); have n3_ := A_0 (blk_below BT.out hb); clear hz0 hz1 hz2 hz3 hz4 hf0 hf1 hf2 hf3 hf4; clear tz rz; clear HX HK BR BT hb; have HX := n0_; have HK := n1_; have BR := n2_; have BT := n3_; clear n0_ n1_ n2_ n3_; obtain ⟨⟨hz0, hz1, hz2, hz3, hz4⟩, hf0, hf1, hf2, hf3, hf4⟩ := HX.out.cells; have tz := four BT.out; have rz := four BR.out) | (go_at_call 76; (with_reducible refine (give_A 40 _ _ _ _ _).mono ?_); rintro e wn ⟨rfl, hb⟩; have n1_ := A_0 ((show KeepBut w _ g none from z_34).trans (KeepBut.of_below hb g none) (.inl rfl)); clear HK hb; have HK := n1_; clear n1_))
      exact z_38
set_option maxHeartbeats 4000000 in
set_option maxRecDepth 100000 in
theorem kind_L (g : Nat) (A : Option Addr) (c : Nat) (T : List S58) (a n q b : Int) (w : World) (k : Int) (h : RD w g A c T ⟨a, n, q, b⟩) (h0 : 0 ≤ a) (h1 : a < T.length) :
    Calls Try.prog 105 #[.pointer (some ⟨g, 0, none⟩), .int .i64 k] w (PPost w g A c T (kindP T a n q b k)) := by
  have HX := A_0 h; have HK := A_0 (KeepBut.refl w g none); have hmx := h.max; clear h; obtain ⟨⟨hz0, hz1, hz2, hz3, hz4⟩, hf0, hf1, hf2, hf3, hf4⟩ := HX.out.cells; have hw : wrap64 (a + 1) = a + 1 := by unfold wrap64; omega
  have hgs : g ≠ w.heap.size := Nat.ne_of_lt HX.out.lt; have hgs' : w.heap.size ≠ g := Ne.symm hgs; have HT0 := A_0 HX.out.tk
  go_enter Try.func105, Try.ntmps105
  go_upto_region 1 with fail
  go_cut [5] (fun v5 wx => ∃ tb : Nat, v5 = .pointer (some ⟨tb, 0, none⟩) ∧ w.heap.size < tb ∧ Aside0 (wx.heap[tb]? = some (.cells #[.int .i64 (rd_T58 T a).f0, .string (rd_T58 T a).f1, .int .i64 (rd_T58 T a).f2, .int .i64 (rd_T58 T a).f3] 58 (0, 0))) ∧ Aside0 (wx.heap[w.heap.size]? = some (.cells #[.int .i64 0, .string (⟨#[]⟩ : ByteArray), .int .i64 0, .int .i64 0] 58 (0, 0))) ∧ Aside0 (RD wx g A c T ⟨a, n, q, b⟩) ∧ Aside0 (KeepBut w wx g none))
  case first =>
    go_wp2_with (first | (go_at_call 46; (with_reducible refine (now_L g A c T ⟨a, n, q, b⟩ _ (z_33) h0 h1).mono ?_); rintro e wn ⟨rfl, hb⟩; unfold tokV; have n0_ := A_0 (RD.below (z_33) hb); have n1_ := A_0 ((show KeepBut w _ g none from z_34).trans (KeepBut.of_below hb g none) (.inl rfl)); have n2_ := A_0 (blk_below (g := w.heap.size) (o := .cells #[.int .i64 0, .string (⟨#[]⟩ : ByteArray), .int .i64 0, .int .i64 0] 58 (0, 0)) (by first | exact blk_new w _ | exact BR.out) hb); clear hz0 hz1 hz2 hz3 hz4 hf0 hf1 hf2 hf3 hf4; clear HX HK hb; have HX := n0_; have HK := n1_; have BR := n2_; clear n0_ n1_ n2_; obtain ⟨⟨hz0, hz1, hz2, hz3, hz4⟩, hf0, hf1, hf2, hf3, hf4⟩ := HX.out.cells))
    go_meet
    exact z_35
  case rest =>
    clear HX HK; clear hz0 hz1 hz2 hz3 hz4 hf0 hf1 hf2 hf3 hf4; obtain ⟨tb, rfl, htb, BT, BR, HX, HK⟩ := hcut; have htn : tb ≠ w.heap.size := Nat.ne_of_gt htb; have htn' : w.heap.size ≠ tb := Nat.ne_of_lt htb; have htg : tb ≠ g := z_36; have htg' : g ≠ tb := Ne.symm htg; obtain ⟨⟨hz0, hz1, hz2, hz3, hz4⟩, hf0, hf1, hf2, hf3, hf4⟩ := HX.out.cells; have tz := four BT.out; have rz := four BR.out; by_cases hq : (rd_T58 T a).f0 = k
    · have HP := A_0 (show kindP T a n q b k = _ from if_pos hq)
      have HQ := A_0 hq; have d1 : ((rd_T58 T a).f0 != k) = false := bne_eq_false_iff_eq.2 hq; clear hq
      go_wp2_with (first | fail)
      generalize hq : World.setCell _ ⟨w.heap.size, 3, none⟩ _ = wt; have BR2 : wt.heap[w.heap.size]? = some (.cells #[.int .i64 (rd_T58 T a).f0, .string (rd_T58 T a).f1, .int .i64 (rd_T58 T a).f2, .int .i64 (rd_T58 T a).f3] 58 (0, 0)) := z_37; have HK2 : KeepBut w wt g none := by rw [← hq]; (repeat (refine keep_far ?_ (Nat.le_refl _) _)); exact HK.out.set_ _ _
      have HX2 : RD wt g A c T ⟨a + 1, n, q, b⟩ := ⟨by rw [← hq]; have z := (HX.out.set1 (a + 1)).bk; (repeat (refine blk_far ?_ hgs _)); exact z, Kd.F_keep HT0.out HK2 (fun _ h => h)⟩; obtain ⟨⟨wz0, wz1, wz2, wz3⟩, _⟩ := four BR2; refine bodyPost_ret (v := .agg #[.int .i64 (rd_T58 T a).f0, .string (rd_T58 T a).f1, .int .i64 (rd_T58 T a).f2, .int .i64 (rd_T58 T a).f3]) (by simp [results, Try.results105, go_sem, wz0, wz1, wz2, wz3]) rfl (by rw [HP.out]; exact ⟨HK2, rfl, HX2⟩)
    · have HP := A_0 (show kindP T a n q b k = _ from if_neg hq)
      have HQ := A_0 (hq); have d1 : ((rd_T58 T a).f0 != k) = true := bne_iff_ne.2 hq; clear hq
      go_wp2_with (first | (go_at_call 76; (with_reducible refine (give_A 40 _ _ _ _ _).mono ?_); rintro e wn ⟨rfl, hb⟩; have n1_ := A_0 ((show KeepBut w _ g none from z_34).trans (KeepBut.of_below hb g none) (.inl rfl)); clear HK hb; have HK := n1_; clear n1_))
      exact z_38
theorem PPost.ok {w w' : World} {g : Nat} {A : Option Addr} {c : Nat} {T : List S58} {v : Value} {s : PSt} {e : Ending} (h : PPost w g A c T (.ok (v, s)) e w') : e = .returned v ∧ RD w' g A c T s ∧ KeepBut w w' g none := ⟨h.2.1, h.2.2, h.1⟩
theorem PPost.err {w w' : World} {g : Nat} {A : Option Addr} {c : Nat} {T : List S58} {er at_ : Int} {e : Ending} (h : PPost w g A c T (.error (er, at_)) e w') : e = .panicked [stopV er at_] ∧ KeepBut w w' g none := ⟨h.2, h.1⟩
def unitV : Value := .tuple #[]
def madeP (n0 n q b : Int) (t3 : Int) : Except (Int × Int) (Value × PSt) := if 600 < n + 1 then .error (42, t3) else .ok (unitV, ⟨n0, n + 1, q, b⟩)
def enterP (a n q b : Int) (t3 : Int) : Except (Int × Int) (Value × PSt) := if 48 < q + 1 then .error (41, t3) else .ok (unitV, ⟨a, n, q + 1, b⟩)
def deeperP (a n q b : Int) (t3 : Int) : Except (Int × Int) (Value × PSt) := if 12 < b + 1 then .error (41, t3) else .ok (unitV, ⟨a, n, q, b + 1⟩)
def leaveP (T : List S58) (a n q b : Int) (s : ByteArray) : Except (Int × Int) (Value × PSt) := if isB (rd_T58 T a) s = true then .ok (unitV, ⟨a + 1, n, q - 1, b⟩) else .error (40, (rd_T58 T a).f3)
def tookP (T : List S58) (a n q b : Int) (s : ByteArray) : Except (Int × Int) (Value × PSt) := .ok (.bool (isB (rd_T58 T a) s), ⟨if isB (rd_T58 T a) s = true then a + 1 else a, n, q, b⟩)
set_option maxHeartbeats 4000000 in
set_option maxRecDepth 100000 in
theorem made_L (g : Nat) (A : Option Addr) (c : Nat) (T : List S58) (a n q b : Int) (w : World) (t0 : Int) (t1 : ByteArray) (t2 t3 : Int) (h : RD w g A c T ⟨a, n, q, b⟩) (hv0 : 0 ≤ n) (hv1 : n ≤ 600) :
    Calls Try.prog 77 #[.pointer (some ⟨g, 0, none⟩), .agg #[.int .i64 t0, .string t1, .int .i64 t2, .int .i64 t3]] w (PPost w g A c T (madeP a n q b t3)) := by
  have HX := A_0 h; have HK := A_0 (KeepBut.refl w g none); have hmx := h.max; clear h; obtain ⟨⟨hz0, hz1, hz2, hz3, hz4⟩, hf0, hf1, hf2, hf3, hf4⟩ := HX.out.cells; have hw : wrap64 (n + 1) = n + 1 := by unfold wrap64; omega
  have hgs : g ≠ w.heap.size := Nat.ne_of_lt HX.out.lt; have hgs' : w.heap.size ≠ g := Ne.symm hgs; by_cases hq : 600 < n + 1
  · have HP := A_0 (show madeP a n q b t3 = _ from if_pos hq)
    have d1 := decide_eq_true hq; clear hq
    go_enter Try.func77, Try.ntmps77
    go_wp2_with (first | ((with_reducible refine gate_dst (N := 3) rfl ?_); (try (refine gate_guard (by rfl) ?_; dsimp only)); refine box_event ?hg (N := 3) ?hd (cs := #[.int .i64 t0, .string t1, .int .i64 t2, .int .i64 t3]) (t := 58) ?hr ?_; (case hd => rfl); (case hg => rfl); (case hr => first | (go_simp; done) | (go_simp; rfl)); intro tb hg wb hbox hb; have n0_ := A_0 (RD.below (z_33) hb); have n1_ := A_0 ((show KeepBut w _ g none from z_34).trans (KeepBut.of_below hb g none) (.inl rfl)); have n2_ := A_0 hbox; have n3_ := A_0 (show tb ≠ g by rw [hg]; exact z_39); clear hz0 hz1 hz2 hz3 hz4 hf0 hf1 hf2 hf3 hf4; clear HX HK hb hbox hg; have HX := n0_; have HK := n1_; have BT := n2_; have htg := n3_.out; have htg' := Ne.symm n3_.out; clear n0_ n1_ n2_ n3_; obtain ⟨⟨hz0, hz1, hz2, hz3, hz4⟩, hf0, hf1, hf2, hf3, hf4⟩ := HX.out.cells; have tz := four BT.out) | (go_at_call 76; (with_reducible refine (give_A 42 _ _ _ _ _).mono ?_); rintro e wn ⟨rfl, hb⟩; have n1_ := A_0 ((show KeepBut w _ g none from z_34).trans (KeepBut.of_below hb g none) (.inl rfl)); clear HK hb; have HK := n1_; clear n1_))
    exact z_38
  · have HP := A_0 (show madeP a n q b t3 = _ from if_neg hq)
    have d1 := decide_eq_false hq; clear hq
    go_enter Try.func77, Try.ntmps77
    go_wp2_with (first | ((with_reducible refine gate_dst (N := 3) rfl ?_); (try (refine gate_guard (by rfl) ?_; dsimp only)); refine box_event ?hg (N := 3) ?hd (cs := #[.int .i64 t0, .string t1, .int .i64 t2, .int .i64 t3]) (t := 58) ?hr ?_; (case hd => rfl); (case hg => rfl); (case hr => first | (go_simp; done) | (go_simp; rfl)); intro tb hg wb hbox hb; have n0_ := A_0 (RD.below (z_33) hb); have n1_ := A_0 ((show KeepBut w _ g none from z_34).trans (KeepBut.of_below hb g none) (.inl rfl)); have n2_ := A_0 hbox; have n3_ := A_0 (show tb ≠ g by rw [hg]; exact z_39); clear hz0 hz1 hz2 hz3 hz4 hf0 hf1 hf2 hf3 hf4; clear HX HK hb hbox hg; have HX := n0_; have HK := n1_; have BT := n2_; have htg := n3_.out; have htg' := Ne.symm n3_.out; clear n0_ n1_ n2_ n3_; obtain ⟨⟨hz0, hz1, hz2, hz3, hz4⟩, hf0, hf1, hf2, hf3, hf4⟩ := HX.out.cells; have tz := four BT.out))
    refine bodyPost_end (results_none rfl _ _ _) rfl ?_
    rw [HP.out]; exact z_40
set_option maxHeartbeats 4000000 in
set_option maxRecDepth 100000 in
theorem enter_L (g : Nat) (A : Option Addr) (c : Nat) (T : List S58) (a n q b : Int) (w : World) (t0 : Int) (t1 : ByteArray) (t2 t3 : Int) (h : RD w g A c T ⟨a, n, q, b⟩) (hv0 : 0 ≤ q) (hv1 : q ≤ 48) :
    Calls Try.prog 106 #[.pointer (some ⟨g, 0, none⟩), .agg #[.int .i64 t0, .string t1, .int .i64 t2, .int .i64 t3]] w (PPost w g A c T (enterP a n q b t3)) := by
  have HX := A_0 h; have HK := A_0 (KeepBut.refl w g none); have hmx := h.max; clear h; obtain ⟨⟨hz0, hz1, hz2, hz3, hz4⟩, hf0, hf1, hf2, hf3, hf4⟩ := HX.out.cells; have hw : wrap64 (q + 1) = q + 1 := by unfold wrap64; omega
  have hgs : g ≠ w.heap.size := Nat.ne_of_lt HX.out.lt; have hgs' : w.heap.size ≠ g := Ne.symm hgs; by_cases hq : 48 < q + 1
  · have HP := A_0 (show enterP a n q b t3 = _ from if_pos hq)
    have d1 := decide_eq_true hq; clear hq
    go_enter Try.func106, Try.ntmps106
    go_wp2_with (first | ((with_reducible refine gate_dst (N := 3) rfl ?_); (try (refine gate_guard (by rfl) ?_; dsimp only)); refine box_event ?hg (N := 3) ?hd (cs := #[.int .i64 t0, .string t1, .int .i64 t2, .int .i64 t3]) (t := 58) ?hr ?_; (case hd => rfl); (case hg => rfl); (case hr => first | (go_simp; done) | (go_simp; rfl)); intro tb hg wb hbox hb; have n0_ := A_0 (RD.below (z_33) hb); have n1_ := A_0 ((show KeepBut w _ g none from z_34).trans (KeepBut.of_below hb g none) (.inl rfl)); have n2_ := A_0 hbox; have n3_ := A_0 (show tb ≠ g by rw [hg]; exact z_39); clear hz0 hz1 hz2 hz3 hz4 hf0 hf1 hf2 hf3 hf4; clear HX HK hb hbox hg; have HX := n0_; have HK := n1_; have BT := n2_; have htg := n3_.out; have htg' := Ne.symm n3_.out; clear n0_ n1_ n2_ n3_; obtain ⟨⟨hz0, hz1, hz2, hz3, hz4⟩, hf0, hf1, hf2, hf3, hf4⟩ := HX.out.cells; have tz := four BT.out) | (go_at_call 76; (with_reducible refine (give_A 41 _ _ _ _ _).mono ?_); rintro e wn ⟨rfl, hb⟩; have n1_ := A_0 ((show KeepBut w _ g none from z_34).trans (KeepBut.of_below hb g none) (.inl rfl)); clear HK hb; have HK := n1_; clear n1_))
    exact z_38
  · have HP := A_0 (show enterP a n q b t3 = _ from if_neg hq)
    have d1 := decide_eq_false hq; clear hq
    go_enter Try.func106, Try.ntmps106
    go_wp2_with (first | ((with_reducible refine gate_dst (N := 3) rfl ?_); (try (refine gate_guard (by rfl) ?_; dsimp only)); refine box_event ?hg (N := 3) ?hd (cs := #[.int .i64 t0, .string t1, .int .i64 t2, .int .i64 t3]) (t := 58) ?hr ?_; (case hd => rfl); (case hg => rfl); (case hr => first | (go_simp; done) | (go_simp; rfl)); intro tb hg wb hbox hb; have n0_ := A_0 (RD.below (z_33) hb); have n1_ := A_0 ((show KeepBut w _ g none from z_34).trans (KeepBut.of_below hb g none) (.inl rfl)); have n2_ := A_0 hbox; have n3_ := A_0 (show tb ≠ g by rw [hg]; exact z_39); clear hz0 hz1 hz2 hz3 hz4 hf0 hf1 hf2 hf3 hf4; clear HX HK hb hbox hg; have HX := n0_; have HK := n1_; have BT := n2_; have htg := n3_.out; have htg' := Ne.symm n3_.out; clear n0_ n1_ n2_ n3_; obtain ⟨⟨hz0, hz1, hz2, hz3, hz4⟩, hf0, hf1, hf2, hf3, hf4⟩ := HX.out.cells; have tz := four BT.out))
    refine bodyPost_end (results_none rfl _ _ _) rfl ?_
    rw [HP.out]; exact z_40
set_option maxHeartbeats 4000000 in
set_option maxRecDepth 100000 in
theorem deeper_L (g : Nat) (A : Option Addr) (c : Nat) (T : List S58) (a n q b : Int) (w : World) (t0 : Int) (t1 : ByteArray) (t2 t3 : Int) (h : RD w g A c T ⟨a, n, q, b⟩) (hv0 : 0 ≤ b) (hv1 : b ≤ 12) :
    Calls Try.prog 128 #[.pointer (some ⟨g, 0, none⟩), .agg #[.int .i64 t0, .string t1, .int .i64 t2, .int .i64 t3]] w (PPost w g A c T (deeperP a n q b t3)) := by
  have HX := A_0 h; have HK := A_0 (KeepBut.refl w g none); have hmx := h.max; clear h; obtain ⟨⟨hz0, hz1, hz2, hz3, hz4⟩, hf0, hf1, hf2, hf3, hf4⟩ := HX.out.cells; have hw : wrap64 (b + 1) = b + 1 := by unfold wrap64; omega
  have hgs : g ≠ w.heap.size := Nat.ne_of_lt HX.out.lt; have hgs' : w.heap.size ≠ g := Ne.symm hgs; by_cases hq : 12 < b + 1
  · have HP := A_0 (show deeperP a n q b t3 = _ from if_pos hq)
    have d1 := decide_eq_true hq; clear hq
    go_enter Try.func128, Try.ntmps128
    go_wp2_with (first | ((with_reducible refine gate_dst (N := 3) rfl ?_); (try (refine gate_guard (by rfl) ?_; dsimp only)); refine box_event ?hg (N := 3) ?hd (cs := #[.int .i64 t0, .string t1, .int .i64 t2, .int .i64 t3]) (t := 58) ?hr ?_; (case hd => rfl); (case hg => rfl); (case hr => first | (go_simp; done) | (go_simp; rfl)); intro tb hg wb hbox hb; have n0_ := A_0 (RD.below (z_33) hb); have n1_ := A_0 ((show KeepBut w _ g none from z_34).trans (KeepBut.of_below hb g none) (.inl rfl)); have n2_ := A_0 hbox; have n3_ := A_0 (show tb ≠ g by rw [hg]; exact z_39); clear hz0 hz1 hz2 hz3 hz4 hf0 hf1 hf2 hf3 hf4; clear HX HK hb hbox hg; have HX := n0_; have HK := n1_; have BT := n2_; have htg := n3_.out; have htg' := Ne.symm n3_.out; clear n0_ n1_ n2_ n3_; obtain ⟨⟨hz0, hz1, hz2, hz3, hz4⟩, hf0, hf1, hf2, hf3, hf4⟩ := HX.out.cells; have tz := four BT.out) | (go_at_call 76; (with_reducible refine (give_A 41 _ _ _ _ _).mono ?_); rintro e wn ⟨rfl, hb⟩; have n1_ := A_0 ((show KeepBut w _ g none from z_34).trans (KeepBut.of_below hb g none) (.inl rfl)); clear HK hb; have HK := n1_; clear n1_))
    exact z_38
  · have HP := A_0 (show deeperP a n q b t3 = _ from if_neg hq)
    have d1 := decide_eq_false hq; clear hq
    go_enter Try.func128, Try.ntmps128
    go_wp2_with (first | ((with_reducible refine gate_dst (N := 3) rfl ?_); (try (refine gate_guard (by rfl) ?_; dsimp only)); refine box_event ?hg (N := 3) ?hd (cs := #[.int .i64 t0, .string t1, .int .i64 t2, .int .i64 t3]) (t := 58) ?hr ?_; (case hd => rfl); (case hg => rfl); (case hr => first | (go_simp; done) | (go_simp; rfl)); intro tb hg wb hbox hb; have n0_ := A_0 (RD.below (z_33) hb); have n1_ := A_0 ((show KeepBut w _ g none from z_34).trans (KeepBut.of_below hb g none) (.inl rfl)); have n2_ := A_0 hbox; have n3_ := A_0 (show tb ≠ g by rw [hg]; exact z_39); clear hz0 hz1 hz2 hz3 hz4 hf0 hf1 hf2 hf3 hf4; clear HX HK hb hbox hg; have HX := n0_; have HK := n1_; have BT := n2_; have htg := n3_.out; have htg' := Ne.symm n3_.out; clear n0_ n1_ n2_ n3_; obtain ⟨⟨hz0, hz1, hz2, hz3, hz4⟩, hf0, hf1, hf2, hf3, hf4⟩ := HX.out.cells; have tz := four BT.out))
    refine bodyPost_end (results_none rfl _ _ _) rfl ?_
    rw [HP.out]; exact z_40
set_option maxHeartbeats 4000000 in
set_option maxRecDepth 100000 in
theorem leave_L (g : Nat) (A : Option Addr) (c : Nat) (T : List S58) (a n q b : Int) (w : World) (s : ByteArray) (h : RD w g A c T ⟨a, n, q, b⟩) (h0 : 0 ≤ a) (h1 : a < T.length) (hv0 : 1 ≤ q) (hv1 : q ≤ 100) :
    Calls Try.prog 107 #[.pointer (some ⟨g, 0, none⟩), .string s] w (PPost w g A c T (leaveP T a n q b s)) := by
  have HX := A_0 h; have HK := A_0 (KeepBut.refl w g none); have hmx := h.max; clear h; obtain ⟨⟨hz0, hz1, hz2, hz3, hz4⟩, hf0, hf1, hf2, hf3, hf4⟩ := HX.out.cells; have hw : wrap64 (q - 1) = q - 1 := by unfold wrap64; omega
  by_cases hq : isB (rd_T58 T a) s = true
  · have HP := A_0 (show leaveP T a n q b s = _ from if_pos hq)
    have HQ := A_0 hq; clear hq
    go_enter Try.func107, Try.ntmps107
    go_wp2_with (first | (go_at_call 73; (with_reducible refine (want_L g A c T a n q b _ s (z_33) h0 h1).mono ?_); intro e wn hp; unfold wantP at hp; rw [if_pos HQ.out] at hp; obtain ⟨rfl, hx, hk⟩ := hp.ok; have n0_ := A_0 hx; have n1_ := A_0 ((show KeepBut w _ g none from z_34).trans hk (.inl rfl)); clear hz0 hz1 hz2 hz3 hz4 hf0 hf1 hf2 hf3 hf4; clear HX HK hx hk hp; have HX := n0_; have HK := n1_; clear n0_ n1_; obtain ⟨⟨hz0, hz1, hz2, hz3, hz4⟩, hf0, hf1, hf2, hf3, hf4⟩ := HX.out.cells))
    refine bodyPost_end (results_none rfl _ _ _) rfl ?_
    rw [HP.out]; exact z_40
  · have HP := A_0 (show leaveP T a n q b s = _ from if_neg hq)
    have HQ := A_0 hq; clear hq
    go_enter Try.func107, Try.ntmps107
    go_wp2_with (first | (go_at_call 73; (with_reducible refine (want_L g A c T a n q b _ s (z_33) h0 h1).mono ?_); intro e wn hp; unfold wantP at hp; rw [if_neg HQ.out] at hp; obtain ⟨rfl, hk⟩ := hp.err; have n1_ := A_0 ((show KeepBut w _ g none from z_34).trans hk (.inl rfl)); clear HK hk hp; have HK := n1_; clear n1_))
    exact z_38
set_option maxHeartbeats 4000000 in
set_option maxRecDepth 100000 in
theorem took_L (g : Nat) (A : Option Addr) (c : Nat) (T : List S58) (a n q b : Int) (w : World) (s : ByteArray) (h : RD w g A c T ⟨a, n, q, b⟩) (h0 : 0 ≤ a) (h1 : a < T.length) :
    Calls Try.prog 129 #[.pointer (some ⟨g, 0, none⟩), .string s] w (PPost w g A c T (tookP T a n q b s)) := by
  have HX := A_0 h; have HK := A_0 (KeepBut.refl w g none); have hmx := h.max; clear h; obtain ⟨⟨hz0, hz1, hz2, hz3, hz4⟩, hf0, hf1, hf2, hf3, hf4⟩ := HX.out.cells; have hw : wrap64 (a + 1) = a + 1 := by unfold wrap64; omega
  by_cases hq : isB (rd_T58 T a) s = true
  · have HP := A_0 (show tookP T a n q b s = .ok (.bool true, ⟨a + 1, n, q, b⟩) from by unfold tookP; rw [hq]; rfl)
    have HQ := A_0 hq; clear hq
    go_enter Try.func129, Try.ntmps129
    go_wp2_with (first | (go_at_call 103; (with_reducible refine (is_L g A c T a n q b _ s (z_33) h0 h1 true HQ.out).mono ?_); rintro e wn ⟨rfl, hb⟩; have n0_ := A_0 (RD.below (z_33) hb); have n1_ := A_0 ((show KeepBut w _ g none from z_34).trans (KeepBut.of_below hb g none) (.inl rfl)); clear hz0 hz1 hz2 hz3 hz4 hf0 hf1 hf2 hf3 hf4; clear HX HK hb; have HX := n0_; have HK := n1_; clear n0_ n1_; obtain ⟨⟨hz0, hz1, hz2, hz3, hz4⟩, hf0, hf1, hf2, hf3, hf4⟩ := HX.out.cells))
    go_ret
    rw [HP.out]; exact z_40
  · have hq' := Bool.eq_false_iff.2 hq
    have HP := A_0 (show tookP T a n q b s = .ok (.bool false, ⟨a, n, q, b⟩) from by unfold tookP; rw [hq']; rfl)
    have HQ := A_0 hq'; clear hq hq'
    go_enter Try.func129, Try.ntmps129
    go_wp2_with (first | (go_at_call 103; (with_reducible refine (is_L g A c T a n q b _ s (z_33) h0 h1 false HQ.out).mono ?_); rintro e wn ⟨rfl, hb⟩; have n0_ := A_0 (RD.below (z_33) hb); have n1_ := A_0 ((show KeepBut w _ g none from z_34).trans (KeepBut.of_below hb g none) (.inl rfl)); clear hz0 hz1 hz2 hz3 hz4 hf0 hf1 hf2 hf3 hf4; clear HX HK hb; have HX := n0_; have HK := n1_; clear n0_ n1_; obtain ⟨⟨hz0, hz1, hz2, hz3, hz4⟩, hf0, hf1, hf2, hf3, hf4⟩ := HX.out.cells))
    go_ret
    rw [HP.out]; exact z_40
end Go.Proofs.Ytobkdmmnbnpemaa.K
