/- Texts of the claim, one behind the other. -/
import Derived.Test.YtobkdmmnbnpemaaXIB06
import Derived.Test.YtobkdmmnbnpemaaXIB05
import Derived.Test.YtobkdmmnbnpemaaXIB00
set_option maxHeartbeats 16000000
set_option maxRecDepth 100000
namespace Go.Proofs.Ytobkdmmnbnpemaa.K
open Go.RowKit Go.Proofs.YtobkdmmnbnpemaaW.PrintWords Go.Proofs.YtobkdmmnbnpemaaW.PrintLast Go.Proofs.YtobkdmmnbnpemaaW.PrintMore
attribute [local go_sem] max2_int min2_int max_two min_two max_three min_three max_four min_four
set_option linter.unusedVariables false
set_option linter.unusedSimpArgs false
theorem RD.alloc {W : World} {g : Nat} {A : Option Addr} {c : Nat} {T : List S58} {s : PSt} (h : RD W g A c T s) (o : Obj) : RD (W.alloc o) g A c T s := h.below (below_alloc (xbr _ _) o)
theorem RD.drewN {W : World} {g : Nat} {A : Option Addr} {c : Nat} {T : List S58} {s : PSt} (h : RD W g A c T s) (m : Nat) : RD (W.drewN m) g A c T s := h.below (pw_below_drewN (xbr _ _) m)
theorem RD.drew {W : World} {g : Nat} {A : Option Addr} {c : Nat} {T : List S58} {s : PSt} (h : RD W g A c T s) : RD W.drew g A c T s := h.below (below_drew (xbr _ _))
theorem RD.set1 {W : World} {g : Nat} {A : Option Addr} {c : Nat} {T : List S58} {a n q b : Int} (h : RD W g A c T ⟨a, n, q, b⟩) (v : Int) : RD (W.setCell ⟨g, 1, none⟩ (.int .i64 v)) g A c T ⟨v, n, q, b⟩ := ⟨blk_put h.bk 1 _ rfl, Kd.F_far h.tk (fun _ hk => hk) _⟩
theorem RD.set2 {W : World} {g : Nat} {A : Option Addr} {c : Nat} {T : List S58} {a n q b : Int} (h : RD W g A c T ⟨a, n, q, b⟩) (v : Int) : RD (W.setCell ⟨g, 2, none⟩ (.int .i64 v)) g A c T ⟨a, v, q, b⟩ := ⟨blk_put h.bk 2 _ rfl, Kd.F_far h.tk (fun _ hk => hk) _⟩
theorem RD.set3 {W : World} {g : Nat} {A : Option Addr} {c : Nat} {T : List S58} {a n q b : Int} (h : RD W g A c T ⟨a, n, q, b⟩) (v : Int) : RD (W.setCell ⟨g, 3, none⟩ (.int .i64 v)) g A c T ⟨a, n, v, b⟩ := ⟨blk_put h.bk 3 _ rfl, Kd.F_far h.tk (fun _ hk => hk) _⟩
theorem RD.set4 {W : World} {g : Nat} {A : Option Addr} {c : Nat} {T : List S58} {a n q b : Int} (h : RD W g A c T ⟨a, n, q, b⟩) (v : Int) : RD (W.setCell ⟨g, 4, none⟩ (.int .i64 v)) g A c T ⟨a, n, q, v⟩ := ⟨blk_put h.bk 4 _ rfl, Kd.F_far h.tk (fun _ hk => hk) _⟩
theorem RD.cells {W : World} {g : Nat} {A : Option Addr} {c : Nat} {T : List S58} {a n q b : Int} (h : RD W g A c T ⟨a, n, q, b⟩) : (W.cell? ⟨g, 0, none⟩ = some (.slice A T.length c) ∧ W.cell? ⟨g, 1, none⟩ = some (.int .i64 a) ∧ W.cell? ⟨g, 2, none⟩ = some (.int .i64 n) ∧ W.cell? ⟨g, 3, none⟩ = some (.int .i64 q) ∧ W.cell? ⟨g, 4, none⟩ = some (.int .i64 b)) ∧
  W.frozen? ⟨g, 0, none⟩ = false ∧ W.frozen? ⟨g, 1, none⟩ = false ∧ W.frozen? ⟨g, 2, none⟩ = false ∧ W.frozen? ⟨g, 3, none⟩ = false ∧ W.frozen? ⟨g, 4, none⟩ = false :=
 ⟨⟨xbc h.bk 0, xbc h.bk 1, xbc h.bk 2, xbc h.bk 3, xbc h.bk 4⟩, xbz h.bk 0, xbz h.bk 1, xbz h.bk 2, xbz h.bk 3, xbz h.bk 4⟩
theorem RD.lt {W : World} {g : Nat} {A : Option Addr} {c : Nat} {T : List S58} {s : PSt} (h : RD W g A c T s) : g < W.heap.size := blk_lt h.bk
theorem RD.max {W : World} {g : Nat} {A : Option Addr} {c : Nat} {T : List S58} {s : PSt} (h : RD W g A c T s) : T.length ≤ 9223372036854775807 := Kd.F_max h.tk
theorem give_A (er t0 : Int) (t1 : ByteArray) (t2 t3 : Int) (w : World) : Calls Try.prog 76 #[.int .i64 er, .agg #[.int .i64 t0, .string t1, .int .i64 t2, .int .i64 t3]] w fun e w' => e = .panicked [stopV er t3] ∧ Below w.heap.size w w' := give_L er ⟨t0, t1, t2, t3⟩ w
def isB (t : S58) (s : ByteArray) : Bool := ((t.f0 == 4) || (t.f0 == 3)) && (t.f1.toList == s.toList)
def PPost (w : World) (g : Nat) (A : Option Addr) (c : Nat) (T : List S58) (r : Except (Int × Int) (Value × PSt)) (e : Ending) (w' : World) : Prop :=
 KeepBut w w' g none ∧ match r with
 | .ok (v, s) => e = .returned v ∧ RD w' g A c T s
 | .error (er, at_) => e = .panicked [stopV er at_]
theorem is_L (g : Nat) (A : Option Addr) (c : Nat) (T : List S58) (a n q b : Int) (w : World) (s : ByteArray) (h : RD w g A c T ⟨a, n, q, b⟩) (h0 : 0 ≤ a) (h1 : a < T.length) (r : Bool) (hr : isB (rd_T58 T a) s = r) :
  Calls Try.prog 103 #[.pointer (some ⟨g, 0, none⟩), .string s] w fun e w' => e = .returned (.bool r) ∧ Below w.heap.size w w' := by
 have HB := A_0 (xbr w.heap.size w); have HX := A_0 h; have HR := A_0 hr; clear hr h; generalize ht : rd_T58 T a = t at HR; have HT := A_0 ht; clear ht; obtain ⟨t0, t1, t2, t3⟩ := t
 go_enter Try.func103, Try.ntmps103
 go_upto_region 2 with (first | (go_at_call 46; (with_reducible refine (now_L g A c T ⟨a, n, q, b⟩ _ HX.out h0 h1).mono ?_); rintro e wn ⟨rfl, hb⟩; replace HB := A_0 (xbs HB.out hb); clear hb; rw [HT.out]; unfold tokV; dsimp only))
 have e := HR.out; unfold isB at e; dsimp only at e; by_cases q4 : t0 = 4
 ·subst q4
  by_cases qs : t1.toList = s.toList
  ·have e1 : (t1.toList == s.toList) = true := beq_iff_eq.2 qs
   rw [e1] at e; have e' : true = r := e; subst e'
   go_wp2
   go_ret
   exact z_13
  ·have e1 : (t1.toList == s.toList) = false := beq_eq_false_iff_ne.2 qs
   rw [e1] at e; have e' : false = r := e; subst e'
   go_wp2
   go_ret
   exact z_13
 have d4 : (t0 == 4) = false := beq_eq_false_iff_ne.2 q4; by_cases q3 : t0 = 3
 ·subst q3
  by_cases qs : t1.toList = s.toList
  ·have e1 : (t1.toList == s.toList) = true := beq_iff_eq.2 qs
   rw [e1] at e; have e' : true = r := e; subst e'
   go_wp2
   go_ret
   exact z_13
  ·have e1 : (t1.toList == s.toList) = false := beq_eq_false_iff_ne.2 qs
   rw [e1] at e; have e' : false = r := e; subst e'
   go_wp2
   go_ret
   exact z_13
 have d3 : (t0 == 3) = false := beq_eq_false_iff_ne.2 q3; rw [d4, d3] at e; have e' : false = r := e; subst e'
 go_wp2
 go_ret
 exact z_13
def wantP (T : List S58) (a n q b : Int) (s : ByteArray) : Except (Int × Int) (Value × PSt) := if isB (rd_T58 T a) s = true then .ok (tokV (rd_T58 T a), ⟨a + 1, n, q, b⟩) else .error (40, (rd_T58 T a).f3)
def kindP (T : List S58) (a n q b : Int) (k : Int) : Except (Int × Int) (Value × PSt) := if (rd_T58 T a).f0 = k then .ok (tokV (rd_T58 T a), ⟨a + 1, n, q, b⟩) else .error (40, (rd_T58 T a).f3)
theorem RD.far {W : World} {g : Nat} {A : Option Addr} {c : Nat} {T : List S58} {s : PSt} (h : RD W g A c T s) {p : Addr} (hp : p.block ≠ g) (hT : W.heap.size ≤ p.block ∨ True) (u : Value) (ht : Kd.F k58 (W.setCell p u) (fun k => k ≠ g) A T.length T) : RD (W.setCell p u) g A c T s := ⟨blk_far h.bk (Ne.symm hp) _, ht⟩
theorem four {w : World} {g : Nat} {t : TypeId} {a0 a1 a2 a3 : Value} (h : w.heap[g]? = some (.cells #[a0, a1, a2, a3] t (0, 0))) :
  (w.cell? ⟨g, 0, none⟩ = some a0 ∧ w.cell? ⟨g, 1, none⟩ = some a1 ∧ w.cell? ⟨g, 2, none⟩ = some a2 ∧ w.cell? ⟨g, 3, none⟩ = some a3) ∧ w.frozen? ⟨g, 0, none⟩ = false ∧ w.frozen? ⟨g, 1, none⟩ = false ∧ w.frozen? ⟨g, 2, none⟩ = false ∧ w.frozen? ⟨g, 3, none⟩ = false :=
 ⟨⟨xbc h 0, xbc h 1, xbc h 2, xbc h 3⟩, xbz h 0, xbz h 1, xbz h 2, xbz h 3⟩
structure RB (w W : World) (g : Nat) (A : Option Addr) (c : Nat) (T : List S58) (s : PSt) : Prop where
 rd : RD W g A c T s
 kp : KeepBut w W g none
theorem RB.below {w W W1 : World} {g : Nat} {A : Option Addr} {c : Nat} {T : List S58} {s : PSt} (h : RB w W g A c T s) (b : Below W.heap.size W W1) : RB w W1 g A c T s := ⟨h.rd.below b, h.kp.trans (KeepBut.of_below b g none) (.inl rfl)⟩
theorem want_L (g : Nat) (A : Option Addr) (c : Nat) (T : List S58) (a n q b : Int) (w : World) (s : ByteArray) (h : RD w g A c T ⟨a, n, q, b⟩) (h0 : 0 ≤ a) (h1 : a < T.length) :
  Calls Try.prog 73 #[.pointer (some ⟨g, 0, none⟩), .string s] w (PPost w g A c T (wantP T a n q b s)) := by
 have HX := A_0 h; have HK := A_0 (KeepBut.refl w g none); have hmx := h.max; clear h; obtain ⟨⟨hz0, hz1, hz2, hz3, hz4⟩, hf0, hf1, hf2, hf3, hf4⟩ := HX.out.cells; have hw : wrap64 (a + 1) = a + 1 := by unfold wrap64; omega
 have hgs : g ≠ w.heap.size := xnl HX.out.lt; have hgs' : w.heap.size ≠ g := Ne.symm hgs; have HT0 := A_0 HX.out.tk
 go_enter Try.func73, Try.ntmps73
 go_upto_region 1 with fail
 go_cut [5] (fun v5 wx => ∃ tb : Nat, v5 = .pointer (some ⟨tb, 0, none⟩) ∧ w.heap.size < tb ∧ Aside0 (wx.heap[tb]? = some (b58 (rd_T58 T a).f0 (rd_T58 T a).f1 (rd_T58 T a).f2 (rd_T58 T a).f3)) ∧ Aside0 (wx.heap[w.heap.size]? = some (b58 0 ⟨#[]⟩ 0 0)) ∧ Aside0 (RD wx g A c T ⟨a, n, q, b⟩) ∧ Aside0 (KeepBut w wx g none))
 case first =>
  go_wp2_with (first | (go_at_call 46; (with_reducible refine (now_L g A c T ⟨a, n, q, b⟩ _ (z_61) h0 h1).mono ?_); rintro e wn ⟨rfl, hb⟩; unfold tokV; replace HX := A_0 (RD.below (z_61) hb); replace HK := A_0 ((show KeepBut w _ g none from z_62).trans (KeepBut.of_below hb g none) (.inl rfl)); have BR := A_0 (blk_below (g := w.heap.size) (o := b58 0 ⟨#[]⟩ 0 0) (by first | exact blk_new w _ | exact BR.out) hb); clear hz0 hz1 hz2 hz3 hz4 hf0 hf1 hf2 hf3 hf4 hb; obtain ⟨⟨hz0, hz1, hz2, hz3, hz4⟩, hf0, hf1, hf2, hf3, hf4⟩ := HX.out.cells))
  go_meet
  exact z_63
 case rest =>
  clear HX HK; clear hz0 hz1 hz2 hz3 hz4 hf0 hf1 hf2 hf3 hf4; obtain ⟨tb, rfl, htb, BT, BR, HX, HK⟩ := hcut; have htn : tb ≠ w.heap.size := Nat.ne_of_gt htb; have htn' : w.heap.size ≠ tb := xnl htb; have htg : tb ≠ g := z_64; have htg' : g ≠ tb := Ne.symm htg; obtain ⟨⟨hz0, hz1, hz2, hz3, hz4⟩, hf0, hf1, hf2, hf3, hf4⟩ := HX.out.cells; have tz := four BT.out; have rz := four BR.out; by_cases hq : isB (rd_T58 T a) s = true
  ·have HP := A_0 (show wantP T a n q b s = _ from if_pos hq)
   have HQ := A_0 hq
   skip
   clear hq
   go_wp2_with (first | (go_at_call 103; (with_reducible refine (is_L g A c T a n q b _ s HX.out h0 h1 true HQ.out).mono ?_); rintro e wn ⟨rfl, hb⟩; replace HX := A_0 (RD.below HX.out hb); replace HK := xk1 HK hb; replace BR := xk4 BR hb; replace BT := xk4 BT hb; clear hz0 hz1 hz2 hz3 hz4 hf0 hf1 hf2 hf3 hf4 tz rz hb; obtain ⟨⟨hz0, hz1, hz2, hz3, hz4⟩, hf0, hf1, hf2, hf3, hf4⟩ := HX.out.cells; have tz := four BT.out; have rz := four BR.out))
   generalize hq : World.setCell _ ⟨w.heap.size, 3, none⟩ _ = wt; have BR2 : wt.heap[w.heap.size]? = some (b58 (rd_T58 T a).f0 (rd_T58 T a).f1 (rd_T58 T a).f2 (rd_T58 T a).f3) := z_65; have HK2 : KeepBut w wt g none := by rw [← hq]; (repeat (refine keep_far ?_ (xlr _) _)); exact HK.out.set_ _ _
   have HX2 : RD wt g A c T ⟨a + 1, n, q, b⟩ := ⟨by rw [← hq]; have z := (HX.out.set1 (a + 1)).bk; (repeat (refine blk_far ?_ hgs _)); exact z, Kd.F_keep HT0.out HK2 (fun _ h => h)⟩; obtain ⟨⟨wz0, wz1, wz2, wz3⟩, _⟩ := four BR2; refine bodyPost_ret (v := .agg #[.int .i64 (rd_T58 T a).f0, .string (rd_T58 T a).f1, .int .i64 (rd_T58 T a).f2, .int .i64 (rd_T58 T a).f3]) (by simp [results, Try.results73, go_sem, wz0, wz1, wz2, wz3]) rfl (by rw [HP.out]; exact ⟨HK2, rfl, HX2⟩)
  ·have HP := A_0 (show wantP T a n q b s = _ from if_neg hq)
   have HQ := A_0 (Bool.eq_false_iff.2 hq)
   skip
   clear hq
   go_wp2_with (first | (go_at_call 103; (with_reducible refine (is_L g A c T a n q b _ s HX.out h0 h1 false HQ.out).mono ?_); rintro e wn ⟨rfl, hb⟩; replace HX := A_0 (RD.below HX.out hb); replace HK := xk1 HK hb; replace BR := xk4 BR hb; replace BT := xk4 BT hb; clear hz0 hz1 hz2 hz3 hz4 hf0 hf1 hf2 hf3 hf4 tz rz hb; obtain ⟨⟨hz0, hz1, hz2, hz3, hz4⟩, hf0, hf1, hf2, hf3, hf4⟩ := HX.out.cells; have tz := four BT.out; have rz := four BR.out) | (go_at_call 76; (with_reducible refine (give_A 40 _ _ _ _ _).mono ?_); rintro e wn ⟨rfl, hb⟩; replace HK := A_0 ((show KeepBut w _ g none from z_62).trans (KeepBut.of_below hb g none) (.inl rfl)); clear hb))
   exact z_66
theorem kind_L (g : Nat) (A : Option Addr) (c : Nat) (T : List S58) (a n q b : Int) (w : World) (k : Int) (h : RD w g A c T ⟨a, n, q, b⟩) (h0 : 0 ≤ a) (h1 : a < T.length) :
  Calls Try.prog 105 #[.pointer (some ⟨g, 0, none⟩), .int .i64 k] w (PPost w g A c T (kindP T a n q b k)) := by
 have HX := A_0 h; have HK := A_0 (KeepBut.refl w g none); have hmx := h.max; clear h; obtain ⟨⟨hz0, hz1, hz2, hz3, hz4⟩, hf0, hf1, hf2, hf3, hf4⟩ := HX.out.cells; have hw : wrap64 (a + 1) = a + 1 := by unfold wrap64; omega
 have hgs : g ≠ w.heap.size := xnl HX.out.lt; have hgs' : w.heap.size ≠ g := Ne.symm hgs; have HT0 := A_0 HX.out.tk
 go_enter Try.func105, Try.ntmps105
 go_upto_region 1 with fail
 go_cut [5] (fun v5 wx => ∃ tb : Nat, v5 = .pointer (some ⟨tb, 0, none⟩) ∧ w.heap.size < tb ∧ Aside0 (wx.heap[tb]? = some (b58 (rd_T58 T a).f0 (rd_T58 T a).f1 (rd_T58 T a).f2 (rd_T58 T a).f3)) ∧ Aside0 (wx.heap[w.heap.size]? = some (b58 0 ⟨#[]⟩ 0 0)) ∧ Aside0 (RD wx g A c T ⟨a, n, q, b⟩) ∧ Aside0 (KeepBut w wx g none))
 case first =>
  go_wp2_with (first | (go_at_call 46; (with_reducible refine (now_L g A c T ⟨a, n, q, b⟩ _ (z_61) h0 h1).mono ?_); rintro e wn ⟨rfl, hb⟩; unfold tokV; replace HX := A_0 (RD.below (z_61) hb); replace HK := A_0 ((show KeepBut w _ g none from z_62).trans (KeepBut.of_below hb g none) (.inl rfl)); have BR := A_0 (blk_below (g := w.heap.size) (o := b58 0 ⟨#[]⟩ 0 0) (by first | exact blk_new w _ | exact BR.out) hb); clear hz0 hz1 hz2 hz3 hz4 hf0 hf1 hf2 hf3 hf4 hb; obtain ⟨⟨hz0, hz1, hz2, hz3, hz4⟩, hf0, hf1, hf2, hf3, hf4⟩ := HX.out.cells))
  go_meet
  exact z_63
 case rest =>
  clear HX HK; clear hz0 hz1 hz2 hz3 hz4 hf0 hf1 hf2 hf3 hf4; obtain ⟨tb, rfl, htb, BT, BR, HX, HK⟩ := hcut; have htn : tb ≠ w.heap.size := Nat.ne_of_gt htb; have htn' : w.heap.size ≠ tb := xnl htb; have htg : tb ≠ g := z_64; have htg' : g ≠ tb := Ne.symm htg; obtain ⟨⟨hz0, hz1, hz2, hz3, hz4⟩, hf0, hf1, hf2, hf3, hf4⟩ := HX.out.cells; have tz := four BT.out; have rz := four BR.out; by_cases hq : (rd_T58 T a).f0 = k
  ·have HP := A_0 (show kindP T a n q b k = _ from if_pos hq)
   have HQ := A_0 hq; have d1 : ((rd_T58 T a).f0 != k) = false := bne_eq_false_iff_eq.2 hq; clear hq
   go_wp2_with (first | fail)
   generalize hq : World.setCell _ ⟨w.heap.size, 3, none⟩ _ = wt; have BR2 : wt.heap[w.heap.size]? = some (b58 (rd_T58 T a).f0 (rd_T58 T a).f1 (rd_T58 T a).f2 (rd_T58 T a).f3) := z_65; have HK2 : KeepBut w wt g none := by rw [← hq]; (repeat (refine keep_far ?_ (xlr _) _)); exact HK.out.set_ _ _
   have HX2 : RD wt g A c T ⟨a + 1, n, q, b⟩ := ⟨by rw [← hq]; have z := (HX.out.set1 (a + 1)).bk; (repeat (refine blk_far ?_ hgs _)); exact z, Kd.F_keep HT0.out HK2 (fun _ h => h)⟩; obtain ⟨⟨wz0, wz1, wz2, wz3⟩, _⟩ := four BR2; refine bodyPost_ret (v := .agg #[.int .i64 (rd_T58 T a).f0, .string (rd_T58 T a).f1, .int .i64 (rd_T58 T a).f2, .int .i64 (rd_T58 T a).f3]) (by simp [results, Try.results105, go_sem, wz0, wz1, wz2, wz3]) rfl (by rw [HP.out]; exact ⟨HK2, rfl, HX2⟩)
  ·have HP := A_0 (show kindP T a n q b k = _ from if_neg hq)
   have HQ := A_0 (hq); have d1 : ((rd_T58 T a).f0 != k) = true := bne_iff_ne.2 hq; clear hq
   go_wp2_with (first | (go_at_call 76; (with_reducible refine (give_A 40 _ _ _ _ _).mono ?_); rintro e wn ⟨rfl, hb⟩; replace HK := A_0 ((show KeepBut w _ g none from z_62).trans (KeepBut.of_below hb g none) (.inl rfl)); clear hb))
   exact z_66
theorem PPost.ok {w w' : World} {g : Nat} {A : Option Addr} {c : Nat} {T : List S58} {v : Value} {s : PSt} {e : Ending} (h : PPost w g A c T (.ok (v, s)) e w') : e = .returned v ∧ RD w' g A c T s ∧ KeepBut w w' g none := ⟨h.2.1, h.2.2, h.1⟩
theorem PPost.err {w w' : World} {g : Nat} {A : Option Addr} {c : Nat} {T : List S58} {er at_ : Int} {e : Ending} (h : PPost w g A c T (.error (er, at_)) e w') : e = .panicked [stopV er at_] ∧ KeepBut w w' g none := ⟨h.2, h.1⟩
def unitV : Value := .tuple #[]
def madeP (n0 n q b : Int) (t3 : Int) : Except (Int × Int) (Value × PSt) := if 600 < n + 1 then .error (42, t3) else .ok (unitV, ⟨n0, n + 1, q, b⟩)
def enterP (a n q b : Int) (t3 : Int) : Except (Int × Int) (Value × PSt) := if 48 < q + 1 then .error (41, t3) else .ok (unitV, ⟨a, n, q + 1, b⟩)
def deeperP (a n q b : Int) (t3 : Int) : Except (Int × Int) (Value × PSt) := if 12 < b + 1 then .error (41, t3) else .ok (unitV, ⟨a, n, q, b + 1⟩)
def leaveP (T : List S58) (a n q b : Int) (s : ByteArray) : Except (Int × Int) (Value × PSt) := if isB (rd_T58 T a) s = true then .ok (unitV, ⟨a + 1, n, q - 1, b⟩) else .error (40, (rd_T58 T a).f3)
def tookP (T : List S58) (a n q b : Int) (s : ByteArray) : Except (Int × Int) (Value × PSt) := .ok (.bool (isB (rd_T58 T a) s), ⟨if isB (rd_T58 T a) s = true then a + 1 else a, n, q, b⟩)
theorem made_L (g : Nat) (A : Option Addr) (c : Nat) (T : List S58) (a n q b : Int) (w : World) (t0 : Int) (t1 : ByteArray) (t2 t3 : Int) (h : RD w g A c T ⟨a, n, q, b⟩) (hv0 : 0 ≤ n) (hv1 : n ≤ 600) :
  Calls Try.prog 77 #[.pointer (some ⟨g, 0, none⟩), .agg #[.int .i64 t0, .string t1, .int .i64 t2, .int .i64 t3]] w (PPost w g A c T (madeP a n q b t3)) := by
 have HX := A_0 h; have HK := A_0 (KeepBut.refl w g none); have hmx := h.max; clear h; obtain ⟨⟨hz0, hz1, hz2, hz3, hz4⟩, hf0, hf1, hf2, hf3, hf4⟩ := HX.out.cells; have hw : wrap64 (n + 1) = n + 1 := by unfold wrap64; omega
 have hgs : g ≠ w.heap.size := xnl HX.out.lt; have hgs' : w.heap.size ≠ g := Ne.symm hgs; by_cases hq : 600 < n + 1
 ·have HP := A_0 (show madeP a n q b t3 = _ from if_pos hq)
  have d1 := xdt hq; clear hq
  go_enter Try.func77, Try.ntmps77
  go_wp2_with (first | ((with_reducible refine gate_dst (N := 3) rfl ?_); refine bx (a58 t0 t1 t2 t3) 58 ?_; intro tb hg wb hbox hb; replace HK := A_0 ((show KeepBut w _ g none from z_62).trans (KeepBut.of_below hb g none) (.inl rfl)); have BT := A_0 hbox; have htg := (show tb ≠ g by rw [hg]; exact z_67); have htg' := Ne.symm htg; replace HX := A_0 (RD.below (z_61) hb); clear hz0 hz1 hz2 hz3 hz4 hf0 hf1 hf2 hf3 hf4 hb hbox hg; obtain ⟨⟨hz0, hz1, hz2, hz3, hz4⟩, hf0, hf1, hf2, hf3, hf4⟩ := HX.out.cells; have tz := four BT.out) | (go_at_call 76; (with_reducible refine (give_A 42 _ _ _ _ _).mono ?_); rintro e wn ⟨rfl, hb⟩; replace HK := A_0 ((show KeepBut w _ g none from z_62).trans (KeepBut.of_below hb g none) (.inl rfl)); clear hb))
  exact z_66
 ·have HP := A_0 (show madeP a n q b t3 = _ from if_neg hq)
  have d1 := xdf hq; clear hq
  go_enter Try.func77, Try.ntmps77
  go_wp2_with (first | ((with_reducible refine gate_dst (N := 3) rfl ?_); refine bx (a58 t0 t1 t2 t3) 58 ?_; intro tb hg wb hbox hb; replace HK := A_0 ((show KeepBut w _ g none from z_62).trans (KeepBut.of_below hb g none) (.inl rfl)); have BT := A_0 hbox; have htg := (show tb ≠ g by rw [hg]; exact z_67); have htg' := Ne.symm htg; replace HX := A_0 (RD.below (z_61) hb); clear hz0 hz1 hz2 hz3 hz4 hf0 hf1 hf2 hf3 hf4 hb hbox hg; obtain ⟨⟨hz0, hz1, hz2, hz3, hz4⟩, hf0, hf1, hf2, hf3, hf4⟩ := HX.out.cells; have tz := four BT.out))
  refine bodyPost_end (results_none rfl _ _ _) rfl ?_
  rw [HP.out]; exact z_68
theorem enter_L (g : Nat) (A : Option Addr) (c : Nat) (T : List S58) (a n q b : Int) (w : World) (t0 : Int) (t1 : ByteArray) (t2 t3 : Int) (h : RD w g A c T ⟨a, n, q, b⟩) (hv0 : 0 ≤ q) (hv1 : q ≤ 48) :
  Calls Try.prog 106 #[.pointer (some ⟨g, 0, none⟩), .agg #[.int .i64 t0, .string t1, .int .i64 t2, .int .i64 t3]] w (PPost w g A c T (enterP a n q b t3)) := by
 have HX := A_0 h; have HK := A_0 (KeepBut.refl w g none); have hmx := h.max; clear h; obtain ⟨⟨hz0, hz1, hz2, hz3, hz4⟩, hf0, hf1, hf2, hf3, hf4⟩ := HX.out.cells; have hw : wrap64 (q + 1) = q + 1 := by unfold wrap64; omega
 have hgs : g ≠ w.heap.size := xnl HX.out.lt; have hgs' : w.heap.size ≠ g := Ne.symm hgs; by_cases hq : 48 < q + 1
 ·have HP := A_0 (show enterP a n q b t3 = _ from if_pos hq)
  have d1 := xdt hq; clear hq
  go_enter Try.func106, Try.ntmps106
  go_wp2_with (first | ((with_reducible refine gate_dst (N := 3) rfl ?_); refine bx (a58 t0 t1 t2 t3) 58 ?_; intro tb hg wb hbox hb; replace HK := A_0 ((show KeepBut w _ g none from z_62).trans (KeepBut.of_below hb g none) (.inl rfl)); have BT := A_0 hbox; have htg := (show tb ≠ g by rw [hg]; exact z_67); have htg' := Ne.symm htg; replace HX := A_0 (RD.below (z_61) hb); clear hz0 hz1 hz2 hz3 hz4 hf0 hf1 hf2 hf3 hf4 hb hbox hg; obtain ⟨⟨hz0, hz1, hz2, hz3, hz4⟩, hf0, hf1, hf2, hf3, hf4⟩ := HX.out.cells; have tz := four BT.out) | (go_at_call 76; (with_reducible refine (give_A 41 _ _ _ _ _).mono ?_); rintro e wn ⟨rfl, hb⟩; replace HK := A_0 ((show KeepBut w _ g none from z_62).trans (KeepBut.of_below hb g none) (.inl rfl)); clear hb))
  exact z_66
 ·have HP := A_0 (show enterP a n q b t3 = _ from if_neg hq)
  have d1 := xdf hq; clear hq
  go_enter Try.func106, Try.ntmps106
  go_wp2_with (first | ((with_reducible refine gate_dst (N := 3) rfl ?_); refine bx (a58 t0 t1 t2 t3) 58 ?_; intro tb hg wb hbox hb; replace HK := A_0 ((show KeepBut w _ g none from z_62).trans (KeepBut.of_below hb g none) (.inl rfl)); have BT := A_0 hbox; have htg := (show tb ≠ g by rw [hg]; exact z_67); have htg' := Ne.symm htg; replace HX := A_0 (RD.below (z_61) hb); clear hz0 hz1 hz2 hz3 hz4 hf0 hf1 hf2 hf3 hf4 hb hbox hg; obtain ⟨⟨hz0, hz1, hz2, hz3, hz4⟩, hf0, hf1, hf2, hf3, hf4⟩ := HX.out.cells; have tz := four BT.out))
  refine bodyPost_end (results_none rfl _ _ _) rfl ?_
  rw [HP.out]; exact z_68
theorem deeper_L (g : Nat) (A : Option Addr) (c : Nat) (T : List S58) (a n q b : Int) (w : World) (t0 : Int) (t1 : ByteArray) (t2 t3 : Int) (h : RD w g A c T ⟨a, n, q, b⟩) (hv0 : 0 ≤ b) (hv1 : b ≤ 12) :
  Calls Try.prog 128 #[.pointer (some ⟨g, 0, none⟩), .agg #[.int .i64 t0, .string t1, .int .i64 t2, .int .i64 t3]] w (PPost w g A c T (deeperP a n q b t3)) := by
 have HX := A_0 h; have HK := A_0 (KeepBut.refl w g none); have hmx := h.max; clear h; obtain ⟨⟨hz0, hz1, hz2, hz3, hz4⟩, hf0, hf1, hf2, hf3, hf4⟩ := HX.out.cells; have hw : wrap64 (b + 1) = b + 1 := by unfold wrap64; omega
 have hgs : g ≠ w.heap.size := xnl HX.out.lt; have hgs' : w.heap.size ≠ g := Ne.symm hgs; by_cases hq : 12 < b + 1
 ·have HP := A_0 (show deeperP a n q b t3 = _ from if_pos hq)
  have d1 := xdt hq; clear hq
  go_enter Try.func128, Try.ntmps128
  go_wp2_with (first | ((with_reducible refine gate_dst (N := 3) rfl ?_); refine bx (a58 t0 t1 t2 t3) 58 ?_; intro tb hg wb hbox hb; replace HK := A_0 ((show KeepBut w _ g none from z_62).trans (KeepBut.of_below hb g none) (.inl rfl)); have BT := A_0 hbox; have htg := (show tb ≠ g by rw [hg]; exact z_67); have htg' := Ne.symm htg; replace HX := A_0 (RD.below (z_61) hb); clear hz0 hz1 hz2 hz3 hz4 hf0 hf1 hf2 hf3 hf4 hb hbox hg; obtain ⟨⟨hz0, hz1, hz2, hz3, hz4⟩, hf0, hf1, hf2, hf3, hf4⟩ := HX.out.cells; have tz := four BT.out) | (go_at_call 76; (with_reducible refine (give_A 41 _ _ _ _ _).mono ?_); rintro e wn ⟨rfl, hb⟩; replace HK := A_0 ((show KeepBut w _ g none from z_62).trans (KeepBut.of_below hb g none) (.inl rfl)); clear hb))
  exact z_66
 ·have HP := A_0 (show deeperP a n q b t3 = _ from if_neg hq)
  have d1 := xdf hq; clear hq
  go_enter Try.func128, Try.ntmps128
  go_wp2_with (first | ((with_reducible refine gate_dst (N := 3) rfl ?_); refine bx (a58 t0 t1 t2 t3) 58 ?_; intro tb hg wb hbox hb; replace HK := A_0 ((show KeepBut w _ g none from z_62).trans (KeepBut.of_below hb g none) (.inl rfl)); have BT := A_0 hbox; have htg := (show tb ≠ g by rw [hg]; exact z_67); have htg' := Ne.symm htg; replace HX := A_0 (RD.below (z_61) hb); clear hz0 hz1 hz2 hz3 hz4 hf0 hf1 hf2 hf3 hf4 hb hbox hg; obtain ⟨⟨hz0, hz1, hz2, hz3, hz4⟩, hf0, hf1, hf2, hf3, hf4⟩ := HX.out.cells; have tz := four BT.out))
  refine bodyPost_end (results_none rfl _ _ _) rfl ?_
  rw [HP.out]; exact z_68
theorem leave_L (g : Nat) (A : Option Addr) (c : Nat) (T : List S58) (a n q b : Int) (w : World) (s : ByteArray) (h : RD w g A c T ⟨a, n, q, b⟩) (h0 : 0 ≤ a) (h1 : a < T.length) (hv0 : 1 ≤ q) (hv1 : q ≤ 100) :
  Calls Try.prog 107 #[.pointer (some ⟨g, 0, none⟩), .string s] w (PPost w g A c T (leaveP T a n q b s)) := by
 have HX := A_0 h; have HK := A_0 (KeepBut.refl w g none); have hmx := h.max; clear h; obtain ⟨⟨hz0, hz1, hz2, hz3, hz4⟩, hf0, hf1, hf2, hf3, hf4⟩ := HX.out.cells; have hw : wrap64 (q - 1) = q - 1 := by unfold wrap64; omega
 by_cases hq : isB (rd_T58 T a) s = true
 ·have HP := A_0 (show leaveP T a n q b s = _ from if_pos hq)
  have HQ := A_0 hq; clear hq
  go_enter Try.func107, Try.ntmps107
  go_wp2_with (first | (go_at_call 73; (with_reducible refine (want_L g A c T a n q b _ s (z_61) h0 h1).mono ?_); intro e wn hp; unfold wantP at hp; rw [if_pos HQ.out] at hp; obtain ⟨rfl, hx, hk⟩ := hp.ok; replace HX := A_0 hx; replace HK := A_0 ((show KeepBut w _ g none from z_62).trans hk (.inl rfl)); clear hz0 hz1 hz2 hz3 hz4 hf0 hf1 hf2 hf3 hf4 hx hk hp; obtain ⟨⟨hz0, hz1, hz2, hz3, hz4⟩, hf0, hf1, hf2, hf3, hf4⟩ := HX.out.cells))
  refine bodyPost_end (results_none rfl _ _ _) rfl ?_
  rw [HP.out]; exact z_68
 ·have HP := A_0 (show leaveP T a n q b s = _ from if_neg hq)
  have HQ := A_0 hq; clear hq
  go_enter Try.func107, Try.ntmps107
  go_wp2_with (first | (go_at_call 73; (with_reducible refine (want_L g A c T a n q b _ s (z_61) h0 h1).mono ?_); intro e wn hp; unfold wantP at hp; rw [if_neg HQ.out] at hp; obtain ⟨rfl, hk⟩ := hp.err; replace HK := A_0 ((show KeepBut w _ g none from z_62).trans hk (.inl rfl)); clear hk hp))
  exact z_66
theorem took_L (g : Nat) (A : Option Addr) (c : Nat) (T : List S58) (a n q b : Int) (w : World) (s : ByteArray) (h : RD w g A c T ⟨a, n, q, b⟩) (h0 : 0 ≤ a) (h1 : a < T.length) :
  Calls Try.prog 129 #[.pointer (some ⟨g, 0, none⟩), .string s] w (PPost w g A c T (tookP T a n q b s)) := by
 have HX := A_0 h; have HK := A_0 (KeepBut.refl w g none); have hmx := h.max; clear h; obtain ⟨⟨hz0, hz1, hz2, hz3, hz4⟩, hf0, hf1, hf2, hf3, hf4⟩ := HX.out.cells; have hw : wrap64 (a + 1) = a + 1 := by unfold wrap64; omega
 by_cases hq : isB (rd_T58 T a) s = true
 ·have HP := A_0 (show tookP T a n q b s = .ok (.bool true, ⟨a + 1, n, q, b⟩) from by unfold tookP; rw [hq]; rfl)
  have HQ := A_0 hq; clear hq
  go_enter Try.func129, Try.ntmps129
  go_wp2_with (first | (go_at_call 103; (with_reducible refine (is_L g A c T a n q b _ s (z_61) h0 h1 true HQ.out).mono ?_); rintro e wn ⟨rfl, hb⟩; replace HX := A_0 (RD.below (z_61) hb); replace HK := A_0 ((show KeepBut w _ g none from z_62).trans (KeepBut.of_below hb g none) (.inl rfl)); clear hz0 hz1 hz2 hz3 hz4 hf0 hf1 hf2 hf3 hf4 hb; obtain ⟨⟨hz0, hz1, hz2, hz3, hz4⟩, hf0, hf1, hf2, hf3, hf4⟩ := HX.out.cells))
  go_ret
  rw [HP.out]; exact z_68
 ·have hq' := Bool.eq_false_iff.2 hq
  have HP := A_0 (show tookP T a n q b s = .ok (.bool false, ⟨a, n, q, b⟩) from by unfold tookP; rw [hq']; rfl)
  have HQ := A_0 hq'; clear hq hq'
  go_enter Try.func129, Try.ntmps129
  go_wp2_with (first | (go_at_call 103; (with_reducible refine (is_L g A c T a n q b _ s (z_61) h0 h1 false HQ.out).mono ?_); rintro e wn ⟨rfl, hb⟩; replace HX := A_0 (RD.below (z_61) hb); replace HK := A_0 ((show KeepBut w _ g none from z_62).trans (KeepBut.of_below hb g none) (.inl rfl)); clear hz0 hz1 hz2 hz3 hz4 hf0 hf1 hf2 hf3 hf4 hb; obtain ⟨⟨hz0, hz1, hz2, hz3, hz4⟩, hf0, hf1, hf2, hf3, hf4⟩ := HX.out.cells))
  go_ret
  rw [HP.out]; exact z_68
theorem C_own {α : Type} {d : Kd α} {W : World} {base e n : Nat} {v : Value} {xs : List α} {cs : List Value} (h : W.ownsRow base e d.sz v n cs) (hr : Reps (d.K W) d.sz xs cs) (hn : xs.length = n) (hs : 0 < d.sz) :
  ∃ A c, v = .slice A n c ∧ d.C W A n xs ∧ n ≤ c := by
 obtain ⟨hl, h⟩ := h; subst hn; rcases h with ⟨rfl, h0⟩ | ⟨b, cap, cur, rfl, hb, hh, hc, hm, hz, ht⟩
 ·have : xs = [] := List.eq_nil_of_length_eq_zero h0
  subst this; exact ⟨none, 0, rfl, ⟨rfl, by simp, fun h => absurd h (by simp)⟩, xlr _⟩
 ·refine ⟨some ⟨b, 0, none⟩, cap, rfl, ⟨rfl, by unfold maxLen at hm; omega, fun _ => ⟨⟨b, 0, none⟩, rfl, fun j p hj => ⟨_, ?_, hr.2 j p hj, fun i u hi => ?_⟩⟩⟩, hc⟩
  ·have hlt : j < xs.length := (List.getElem?_eq_some_iff.1 hj).1
   have h1 : j * d.sz + d.sz ≤ cs.length := by rw [hr.1, ← Nat.succ_mul]; exact Nat.mul_le_mul_right _ hlt
   rw [List.length_take, List.length_drop]; omega
  ·have hp : (⟨b, 0, none⟩ : Addr).add (j * d.sz + i) = ⟨b, 0 + (j * d.sz + i), none⟩ := by unfold Addr.add; split <;> simp_all
   have hlt : j < xs.length := (List.getElem?_eq_some_iff.1 hj).1; rw [hp, Nat.zero_add, xbc hh]
   have hi2 : i < d.sz := by
    rcases Nat.lt_or_ge i d.sz with q | q
    ·exact q
    ·rw [List.getElem?_eq_none (by rw [List.length_take]; omega)] at hi; simp at hi
   have hk : j * d.sz + i < xs.length * d.sz := by
    have : (j + 1) * d.sz ≤ xs.length * d.sz := Nat.mul_le_mul_right _ hlt; rw [Nat.succ_mul] at this
    omega
   rw [List.getElem?_take_of_lt hi2, List.getElem?_drop, ← ht, List.getElem?_take_of_lt hk] at hi; rw [← hi, Array.getElem?_toList]
theorem own_step {W W1 : World} {base e sz n : Nat} {v : Value} {cs : List Value} (h : W.ownsRow base e sz v n cs) (hb : ∀ k, v.ownBlock = some k → W1.heap[k]? = W.heap[k]?) : W1.ownsRow base e sz v n cs := by
 obtain ⟨hl, h⟩ := h; refine ⟨hl, ?_⟩; rcases h with h | ⟨b, cap, cur, rfl, h1, hh, h2⟩
 ·exact .inl h
 ·exact .inr ⟨b, cap, cur, rfl, h1, (hb b rfl).trans hh, h2⟩
theorem own_lt {W : World} {base e sz n : Nat} {v : Value} {cs : List Value} (h : W.ownsRow base e sz v n cs) (k : Nat) (hk : v.ownBlock = some k) : k < W.heap.size := by
 obtain ⟨hl, h⟩ := h; rcases h with ⟨rfl, _⟩ | ⟨b, cap, cur, rfl, h1, hh, h2⟩
 ·simp [Value.ownBlock] at hk
 ·simp only [Value.ownBlock, Option.some.injEq] at hk
  subst hk; exact blk_lt hh
theorem F_own {α : Type} {d : Kd α} {W : World} {base e n : Nat} {ok : Nat → Prop} {v : Value} {xs : List α} {cs : List Value} (h : W.ownsRow base e d.sz v n cs) (hg : ∀ k, v.ownBlock = some k → ok k) (hr : Foot (fun W => Reps (d.K W) d.sz xs cs) W ok) (hn : xs.length = n) (hs : 0 < d.sz) :
  ∃ A c, v = .slice A n c ∧ Kd.F d W ok A n xs ∧ n ≤ c := by
 obtain ⟨A, c, e1, _, hc⟩ := C_own h (hr W (fun _ _ _ => rfl)) hn hs; refine ⟨A, c, e1, fun W' hW => ?_, hc⟩; have h' := own_step (W1 := W') h (fun k hk => hW k (hg k hk) (own_lt h k hk)); obtain ⟨A', c', e2, hC, _⟩ := C_own h' (hr W' hW) hn hs; rw [e1] at e2; injection e2 with e3 _ _; rw [e3]; exact hC
structure PV where
 x : S38
 A : Option Addr
 c : Nat
 d : Int
def PV.ecs (p : PV) : List Value := [.int .i64 p.x.f0, .int .i64 p.x.f1, .string p.x.f2, .int .i64 p.x.f3, .slice p.A p.x.f4.length p.c]
def PV.cs (p : PV) : List Value := p.ecs ++ [.int .i64 p.d]
def PV.val (p : PV) : Value := .agg #[.int .i64 p.x.f0, .int .i64 p.x.f1, .string p.x.f2, .int .i64 p.x.f3, .slice p.A p.x.f4.length p.c, .int .i64 p.d]
def PV.ok (W : World) (ok : Nat → Prop) (p : PV) : Prop := Kd.F k38 W ok p.A p.x.f4.length p.x.f4 ∧ p.x.f4.length ≤ p.c
theorem PV.ok.keep {W W1 : World} {g : Nat} {ok : Nat → Prop} {p : PV} (h : p.ok W ok) (hk : KeepBut W W1 g none) (hg : ∀ k, ok k → k ≠ g) : p.ok W1 ok := ⟨Kd.F_keep h.1 hk hg, h.2⟩
theorem PV.ok.step {W W1 : World} {ok : Nat → Prop} {p : PV} (h : p.ok W ok) (hm : ∀ k, ok k → k < W.heap.size → W1.heap[k]? = W.heap[k]?) : p.ok W1 ok := ⟨Kd.F_step h.1 hm, h.2⟩
theorem PV.ok.mono {W : World} {ok ok' : Nat → Prop} {p : PV} (h : p.ok W ok) (hm : ∀ k, ok k → ok' k) : p.ok W ok' := ⟨Kd.F_mono h.1 hm, h.2⟩
theorem PV.ok.bound {W : World} {ok : Nat → Prop} {p : PV} (h : p.ok W ok) : p.ok W (fun k => ok k ∧ k < W.heap.size) := ⟨Kd.F_bound h.1, h.2⟩
theorem reps_parts {W : World} {ok : Nat → Prop} : ∀ ps : List PV, (∀ p ∈ ps, p.ok W ok) → Foot (fun W => Reps (k38.K W) 5 (ps.map (·.x)) (ps.flatMap PV.ecs)) W ok
 | [], _ => fun W' _ => Reps.none _ _
 | p :: ps, h => fun W' hW => by
  have hp := h p (List.mem_cons_self ..); have ih := reps_parts ps (fun q hq => h q (List.mem_cons_of_mem _ hq)) W' hW; exact Reps.c5 (k38_mk W' p.x hp.2 (hp.1 W' hW)) ih
def zV38 : Value := .agg #[.int .i64 0, .int .i64 0, .string (⟨#[]⟩ : ByteArray), .int .i64 0, .slice none 0 0]
theorem inf38 : (Try.prog.info? 38).map (fun i => (i.zero, i.size, i.bytes)) = some (some zV38, 5, 64) := by kernel_rfl
theorem sixc {w : World} {g : Nat} {t : TypeId} {a0 a1 a2 a3 a4 a5 : Value} (h : w.heap[g]? = some (.cells #[a0, a1, a2, a3, a4, a5] t (0, 0))) :
  (w.cell? ⟨g, 0, none⟩ = some a0 ∧ w.cell? ⟨g, 1, none⟩ = some a1 ∧ w.cell? ⟨g, 2, none⟩ = some a2 ∧ w.cell? ⟨g, 3, none⟩ = some a3 ∧ w.cell? ⟨g, 4, none⟩ = some a4 ∧ w.cell? ⟨g, 5, none⟩ = some a5) ∧
  w.frozen? ⟨g, 0, none⟩ = false ∧ w.frozen? ⟨g, 1, none⟩ = false ∧ w.frozen? ⟨g, 2, none⟩ = false ∧ w.frozen? ⟨g, 3, none⟩ = false ∧ w.frozen? ⟨g, 4, none⟩ = false ∧ w.frozen? ⟨g, 5, none⟩ = false :=
 ⟨⟨xbc h 0, xbc h 1, xbc h 2, xbc h 3, xbc h 4, xbc h 5⟩, xbz h 0, xbz h 1, xbz h 2, xbz h 3, xbz h 4, xbz h 5⟩
def deepP : List PV → Int → Int
 | [], m => m
 | p :: ps, m => deepP ps (max m (p.d + 1))
def nodeP (a n q b t3 : Int) (k nm : Int) (s : ByteArray) (op : Int) (ps : List PV) : Except (Int × Int) ((S38 × Int) × PSt) :=
 if 48 < deepP ps 1 then .error (41, t3) else if 600 < n + 1 then .error (42, t3) else .ok ((⟨k, nm, s, op, ps.map (·.x)⟩, deepP ps 1), ⟨a, n + 1, q, b⟩)
def PPartO (O : World → Nat → Prop) (w : World) (g : Nat) (A : Option Addr) (c : Nat) (T : List S58) (r : Except (Int × Int) ((S38 × Int) × PSt)) (e : Ending) (w' : World) : Prop :=
 KeepBut w w' g none ∧ match r with
 | .ok (x, s) => ∃ p : PV, p.x = x.1 ∧ p.d = x.2 ∧ e = .returned p.val ∧ p.ok w' (O w') ∧ RD w' g A c T s
 | .error (er, at_) => e = .panicked [stopV er at_]
def newO (w w' : World) (k : Nat) : Prop := w.heap.size ≤ k ∧ k < w'.heap.size
def PPart (w : World) (g : Nat) (A : Option Addr) (c : Nat) (T : List S58) (r : Except (Int × Int) ((S38 × Int) × PSt)) (e : Ending) (w' : World) : Prop := PPartO (newO w) w g A c T r e w'
theorem PPartO.ok {O : World → Nat → Prop} {w w' : World} {g : Nat} {A : Option Addr} {c : Nat} {T : List S58} {x : S38 × Int} {s : PSt} {e : Ending} (h : PPartO O w g A c T (.ok (x, s)) e w') : ∃ p : PV, e = .returned p.val ∧ (p.x, p.d) = x ∧ p.ok w' (O w') ∧ RD w' g A c T s ∧ KeepBut w w' g none := by
 obtain ⟨h1, p, h2, h3, h4, h5, h6⟩ := h; exact ⟨p, h4, by rw [h2, h3], h5, h6, h1⟩
theorem PPartO.err {O : World → Nat → Prop} {w w' : World} {g : Nat} {A : Option Addr} {c : Nat} {T : List S58} {er at_ : Int} {e : Ending} (h : PPartO O w g A c T (.error (er, at_)) e w') : e = .panicked [stopV er at_] ∧ KeepBut w w' g none := ⟨h.2, h.1⟩
def PRow (w : World) (Q : Option Addr) (ps : List PV) : Prop := ∀ (j : Int) (p : PV), 0 ≤ j → ps[j.toNat]? = some p → ∃ ad, Q = some ad ∧ w.cell? (ad.add (j.toNat * 6)) = some (.int .i64 p.x.f0) ∧ w.cell? ⟨(ad.add (j.toNat * 6)).block, (ad.add (j.toNat * 6)).off + 1, none⟩ = some (.int .i64 p.x.f1) ∧ w.cell? ⟨(ad.add (j.toNat * 6)).block, (ad.add (j.toNat * 6)).off + 2, none⟩ = some (.string p.x.f2) ∧
 w.cell? ⟨(ad.add (j.toNat * 6)).block, (ad.add (j.toNat * 6)).off + 3, none⟩ = some (.int .i64 p.x.f3) ∧ w.cell? ⟨(ad.add (j.toNat * 6)).block, (ad.add (j.toNat * 6)).off + 4, none⟩ = some (.slice p.A p.x.f4.length p.c) ∧ w.cell? ⟨(ad.add (j.toNat * 6)).block, (ad.add (j.toNat * 6)).off + 5, none⟩ = some (.int .i64 p.d)
theorem deepP_ge : ∀ (ps : List PV) (m : Int), m ≤ deepP ps m
 | [], m => Int.le_refl _
 | p :: ps, m => Int.le_trans (Int.le_max_left m (p.d + 1)) (deepP_ge ps _)
theorem deepP_le : ∀ (ps : List PV) (m : Int), m ≤ 60 → (∀ p ∈ ps, p.d ≤ 48) → deepP ps m ≤ 60
 | [], m, h, _ => h
 | p :: ps, m, h, hp => deepP_le ps _ (by have := hp p (List.mem_cons_self ..); omega) (fun q hq => hp q (List.mem_cons_of_mem _ hq))
theorem deepP_app : ∀ (ps : List PV) (p : PV) (m : Int), deepP (ps ++ [p]) m = max (deepP ps m) (p.d + 1)
 | [], p, m => rfl
 | q :: ps, p, m => deepP_app ps p _
theorem own_slc {W : World} {base : Nat} {e : TypeId} {size n : Nat} {v : Value} {xs : List Value} (h : W.ownsRow base e size v n xs) : ∃ A c, v = .slice A n c := by
 rcases h.2 with ⟨rfl, rfl⟩ | ⟨b, cap, cur, rfl, _⟩
 ·exact ⟨none, 0, rfl⟩
 ·exact ⟨_, cap, rfl⟩
theorem take_snoc {α : Type} (l : List α) (i : Nat) (x : α) (h : l[i]? = some x) : l.take (i + 1) = l.take i ++ [x] := by
 rw [List.take_add_one, h]
 rfl
theorem five_ {w : World} {g : Nat} {t : TypeId} {a0 a1 a2 a3 a4 : Value} (h : w.heap[g]? = some (.cells #[a0, a1, a2, a3, a4] t (0, 0))) :
  (w.cell? ⟨g, 0, none⟩ = some a0 ∧ w.cell? ⟨g, 1, none⟩ = some a1 ∧ w.cell? ⟨g, 2, none⟩ = some a2 ∧ w.cell? ⟨g, 3, none⟩ = some a3 ∧ w.cell? ⟨g, 4, none⟩ = some a4) ∧
  w.frozen? ⟨g, 0, none⟩ = false ∧ w.frozen? ⟨g, 1, none⟩ = false ∧ w.frozen? ⟨g, 2, none⟩ = false ∧ w.frozen? ⟨g, 3, none⟩ = false ∧ w.frozen? ⟨g, 4, none⟩ = false :=
 ⟨⟨xbc h 0, xbc h 1, xbc h 2, xbc h 3, xbc h 4⟩, xbz h 0, xbz h 1, xbz h 2, xbz h 3, xbz h 4⟩
theorem node_L (okp : Nat → Prop) (g : Nat) (A : Option Addr) (c : Nat) (T : List S58) (a n q b : Int) (w : World) (t0 : Int) (t1 : ByteArray) (t2 t3 : Int) (k nm : Int) (s : ByteArray) (op : Int) (Q : Option Addr) (L Lc : Nat) (ps : List PV)
  (h : RD w g A c T ⟨a, n, q, b⟩) (hn0 : 0 ≤ n) (hn1 : n ≤ 600) (hL : ps.length = L) (hL2 : L ≤ 2) (hQ : PRow w Q ps) (hokg : ∀ k, okp k → k ≠ g) (hok : ∀ p ∈ ps, p.ok w okp ∧ 0 ≤ p.d ∧ p.d ≤ 48) :
  Calls Try.prog 127 #[.pointer (some ⟨g, 0, none⟩), .agg #[.int .i64 t0, .string t1, .int .i64 t2, .int .i64 t3], .agg #[.int .i64 k, .int .i64 nm, .string s, .int .i64 op, .slice none 0 0], .slice Q L Lc] w (PPartO (fun w' k => okp k ∨ newO w w' k) w g A c T (nodeP a n q b t3 k nm s op ps)) := by
 have hu137 := Try.underlying137; have hu38 := Try.underlying38; have HB := A_0 (xbr w.heap.size w); have HX := A_0 h; have HQ := A_0 hQ; have HO := A_0 hok; have HOG := A_0 hokg; have HL := A_0 hL; have HN := A_0 (show 0 ≤ n ∧ n ≤ 600 from ⟨hn0, hn1⟩); have HLT := A_0 h.lt; clear h hQ hok hokg hL hn0 hn1
 go_enter Try.func127, Try.ntmps127
 go_upto_region 2 with (first | ((with_reducible refine gate_dst (N := 5) rfl ?_); refine bx (a58 t0 t1 t2 t3) 58 ?_; intro tb hg wt hbox hb; have Bt := A_0 hbox; have Gt := A_0 (show w.heap.size ≤ tb by rw [hg]; exact z_155); replace HB := A_0 (xbs (z_12) hb); clear hb hbox hg; have tz := four Bt.out) | ((with_reducible refine gate_dst (N := 6) rfl ?_); refine bx (a38 k nm s op none 0 0) 38 ?_; intro eb hg we hbox hb; have Be := A_0 hbox; have Ge := A_0 (show w.heap.size ≤ eb by rw [hg]; exact z_155); replace HB := A_0 (xbs (z_12) hb); have het := (show eb ≠ tb by rw [hg]; exact z_72); have hte := Ne.symm het; replace Bt := xk4 Bt hb; clear hb hbox hg; replace tz := four Bt.out; have ez := five_ Be.out) | ((with_reducible refine gate_dst (N := 8) rfl ?_); refine bx #[.int .i64 0, .int .i64 0, .string (⟨#[]⟩ : ByteArray), .int .i64 0, .slice none 0 0, .int .i64 0] 137 ?_; intro rb hg wr hbox hb; have Br := A_0 hbox; have Gr := A_0 (show w.heap.size ≤ rb by rw [hg]; exact z_155); replace HB := A_0 (xbs (z_12) hb); have hrt := (show rb ≠ tb by rw [hg]; exact z_72); have htr := Ne.symm hrt; replace Bt := xk4 Bt hb; have hre := (show rb ≠ eb by rw [hg]; exact Ne.symm (xnl (blk_lt Be.out))); have her := Ne.symm hre; replace Be := xk4 Be hb; clear hb hbox hg; replace tz := four Bt.out; replace ez := five_ Be.out; have rz := sixc Br.out) | ((with_reducible refine gate_dst (N := 9) rfl ?_); refine bx #[.int .i64 0, .int .i64 0, .string (⟨#[]⟩ : ByteArray), .int .i64 0, .slice none 0 0, .int .i64 0] 137 ?_; intro pb hg wp hbox hb; have Bp := A_0 hbox; have Gp := A_0 (show w.heap.size ≤ pb by rw [hg]; exact z_155); replace HB := A_0 (xbs (z_12) hb); have hpt := (show pb ≠ tb by rw [hg]; exact z_72); have htp := Ne.symm hpt; replace Bt := xk4 Bt hb; have hpe := (show pb ≠ eb by rw [hg]; exact Ne.symm (xnl (blk_lt Be.out))); have hep := Ne.symm hpe; replace Be := xk4 Be hb; have hpr := (show pb ≠ rb by rw [hg]; exact z_79); have hrp := Ne.symm hpr; replace Br := xk4 Br hb; clear hb hbox hg; replace tz := four Bt.out; replace ez := five_ Be.out; replace rz := sixc Br.out; have pz := sixc Bp.out))
 generalize hq : World.setCell _ ⟨pb, 5, none⟩ _ = wt; replace Bt : Aside0 (wt.heap[tb]? = some (b58 t0 t1 t2 t3)) := ⟨by rw [← hq]; (repeat (refine blk_far ?_ htp _)); exact Bt.out⟩; replace Br : Aside0 (wt.heap[rb]? = some (.cells #[.int .i64 0, .int .i64 0, .string (⟨#[]⟩ : ByteArray), .int .i64 0, .slice none 0 0, .int .i64 0] 137 (0, 0))) := ⟨by rw [← hq]; (repeat (refine blk_far ?_ hrp _)); exact Br.out⟩; replace Bp : Aside0 (wt.heap[pb]? = some (.cells #[.int .i64 k, .int .i64 nm, .string s, .int .i64 op, .slice none 0 0, .int .i64 1] 137 (0, 0))) := ⟨z_84⟩; replace HB : Aside0 (Below w.heap.size w wt) := ⟨by rw [← hq]; (repeat (refine below_set ?_ Gp.out)); exact HB.out⟩; clear tz ez rz pz hq Be; have hgp : pb ≠ g := by have := Gp.out; have := HLT.out; omega
 have hgr : rb ≠ g := by have := Gr.out; have := HLT.out; omega
 have hgt : tb ≠ g := by have := Gt.out; have := HLT.out; omega
 go_wp2
 go_loopw [16] (fun v16 wr => ∃ (j : Int) (v : Value), v16 = .int .i64 j ∧ 0 ≤ j ∧ j ≤ (L : Int) ∧ Aside0 (wr.heap[pb]? = some (.cells #[.int .i64 k, .int .i64 nm, .string s, .int .i64 op, v, .int .i64 (deepP (ps.take j.toNat) 1)] 137 (0, 0))) ∧ Aside0 (wr.ownsRow w.heap.size 38 5 v j.toNat ((ps.take j.toNat).flatMap PV.ecs)) ∧ Aside0 (wr.heap[tb]? = some (b58 t0 t1 t2 t3)) ∧ Aside0 (wr.heap[rb]? = some (.cells #[.int .i64 0, .int .i64 0, .string (⟨#[]⟩ : ByteArray), .int .i64 0, .slice none 0 0, .int .i64 0] 137 (0, 0))) ∧ Aside0 (Below w.heap.size w wr)) (fun v _ => L - (intOf v).toNat)
 case atStart => exact ⟨0, .slice none 0 0, rfl, Int.le_refl _, by omega, Bp, ⟨⟨rfl, .inl ⟨rfl, rfl⟩⟩⟩, Bt, Br, HB⟩
 case round =>
  clear Bp Bt Br HB; obtain ⟨j, v, rfl, hj0, hj1, Bp, HW, Bt, Br, HB⟩ := hrel; have tz := four Bt.out; have rz := sixc Br.out; have pz := sixc Bp.out; by_cases hlt : j < (L : Int)
  ·have hb0 := xdt hlt
   have hjl : j.toNat < ps.length := by have := HL.out; omega
   obtain ⟨p, hp⟩ : ∃ p, ps[j.toNat]? = some p := ⟨_, List.getElem?_eq_getElem hjl⟩; obtain ⟨ad, rfl, hx0, hx1, hx2, hx3, hx4, hx5⟩ := HQ.out j p hj0 hp; replace hx0 := (HB.out.cell (xqb w _ hx0)).trans hx0; replace hx1 := (HB.out.cell (xqb w _ hx1)).trans hx1; replace hx2 := (HB.out.cell (xqb w _ hx2)).trans hx2; replace hx3 := (HB.out.cell (xqb w _ hx3)).trans hx3; replace hx4 := (HB.out.cell (xqb w _ hx4)).trans hx4; replace hx5 := (HB.out.cell (xqb w _ hx5)).trans hx5; have hmem : p ∈ ps := List.mem_of_getElem? hp; have hpo := HO.out p hmem; have hpd : wrap64 (p.d + 1) = p.d + 1 := by unfold wrap64; omega
   have hwj : wrap64 (j + 1) = j + 1 := by unfold wrap64; omega
   have p1 := eq_true hj0; have p2 := eq_true hlt; have HDE := A_0 (show (if deepP (ps.take j.toNat) 1 < p.d + 1 then p.d + 1 else deepP (ps.take j.toNat) 1) = deepP (ps.take (j + 1).toNat) 1 from by rw [show (j + 1).toNat = j.toNat + 1 by omega, take_snoc ps _ p hp, deepP_app]; split <;> omega)
   have HFM := A_0 (show (ps.take j.toNat).flatMap PV.ecs ++ p.ecs = (ps.take (j + 1).toNat).flatMap PV.ecs from by rw [show (j + 1).toNat = j.toNat + 1 by omega, take_snoc ps _ p hp]; simp)
   clear hmem hpo hp; generalize hdj : deepP (ps.take j.toNat) 1 = dj at *; go_upto_region 5 with (first | ((with_reducible refine gate_dst (N := 11) rfl ?_); refine bx #[.int .i64 0, .int .i64 0, .string (⟨#[]⟩ : ByteArray), .int .i64 0, .slice none 0 0, .int .i64 0] 137 ?_; intro xb hg wx hbox hb; have n0_ := A_0 (xbs (z_12) hb); have n2_ := A_0 hbox; have n3_ := A_0 (show w.heap.size ≤ xb by rw [hg]; exact z_155); have m0_ := xk4 Bt hb; have k0_ := A_0 (show xb ≠ tb by rw [hg]; exact z_72); have m1_ := xk4 Br hb; have k1_ := A_0 (show xb ≠ rb by rw [hg]; exact z_79); have m2_ := xk4 Bp hb; have k2_ := A_0 (show xb ≠ pb by rw [hg]; exact Ne.symm (xnl (blk_lt Bp.out))); clear tz; clear Bt; clear rz; clear Br; clear pz; clear Bp; have o_ := A_0 (own_step HW.out (fun k hk => hb.block k (own_lt HW.out k hk))); clear HW; have HW := o_; clear o_; clear HB hb hbox hg; have HB := n0_; have Bx := n2_; have Gx := n3_; clear n0_ n2_ n3_; have Bt := m0_; have hxt := k0_.out; have htx := Ne.symm k0_.out; clear m0_ k0_; have tz := four Bt.out; have Br := m1_; have hxr := k1_.out; have hrx := Ne.symm k1_.out; clear m1_ k1_; have rz := sixc Br.out; have Bp := m2_; have hxp := k2_.out; have hpx := Ne.symm k2_.out; clear m2_ k2_; have pz := sixc Bp.out; have xz := sixc Bx.out))
   generalize hq : World.setCell _ ⟨xb, 5, none⟩ _ = wu; have n0_ : Aside0 (wu.heap[tb]? = some (b58 t0 t1 t2 t3)) := ⟨by rw [← hq]; (repeat (refine blk_far ?_ htx _)); exact Bt.out⟩; have n1_ : Aside0 (wu.heap[rb]? = some (.cells #[.int .i64 0, .int .i64 0, .string (⟨#[]⟩ : ByteArray), .int .i64 0, .slice none 0 0, .int .i64 0] 137 (0, 0))) := ⟨by rw [← hq]; (repeat (refine blk_far ?_ hrx _)); exact Br.out⟩; have n2_ : Aside0 (wu.heap[pb]? = some (.cells #[.int .i64 k, .int .i64 nm, .string s, .int .i64 op, v, .int .i64 dj] 137 (0, 0))) := ⟨by rw [← hq]; (repeat (refine blk_far ?_ hpx _)); exact Bp.out⟩; have n3_ : Aside0 (Below w.heap.size w wu) := ⟨by rw [← hq]; (repeat (refine below_set ?_ Gx.out)); exact HB.out⟩; have n4_ : Aside0 (wu.heap[xb]? = some (.cells #[.int .i64 p.x.f0, .int .i64 p.x.f1, .string p.x.f2, .int .i64 p.x.f3, .slice p.A p.x.f4.length p.c, .int .i64 p.d] 137 (0, 0))) := ⟨by rw [← hq]; apply p6_5; apply p6_4; apply p6_3; apply p6_2; apply p6_1; apply p6_0; exact Bx.out⟩
   have n5_ : Aside0 (wu.ownsRow w.heap.size 38 5 v j.toNat ((ps.take j.toNat).flatMap PV.ecs)) := ⟨by
    have ho := own_ne HW.out Bx.out (by decide); rw [← hq]; refine own_step HW.out fun k hk => ?_; have hkx : k ≠ xb := fun e => ho (by rw [hk, e])
    (repeat (rw [Below.heap_setCell _ _ _ k hkx]))⟩
   clear tz rz pz xz hq Bt Br Bp Bx HB HW; have Bt := n0_; have Br := n1_; have Bp := n2_; have HB := n3_; have Bx := n4_; have HW := n5_; clear n0_ n1_ n2_ n3_ n4_ n5_; have tz := four Bt.out; have rz := sixc Br.out; have pz := sixc Bp.out; have xz := sixc Bx.out
   go_wp2_with (first | ((with_reducible refine gate_builtin (b := .append) (xs := #[.tmp 22, .tmp 25]) rfl ?_); at_builtin; refine print_append_cells (w0 := w) w.heap.size rfl (.tmp 22) (.tmp 25) 36 38 zV38 5 64 rfl Try.underlying36 inf38 rfl (by decide) (by decide) v j.toNat ((ps.take j.toNat).flatMap PV.ecs) p.ecs rfl rfl rfl ?ax HW.out HB.out (below_size HB.out) ?aL ?_; (case ax => intro u hu; simp only [PV.ecs, List.mem_cons, List.not_mem_nil, or_false] at hu; rcases hu with rfl | rfl | rfl | rfl | rfl <;> rfl); (case aL => omega); intro v1 w1 ho1 hb1 hg1 hat; obtain ⟨A1, c1, rfl⟩ := own_slc ho1; replace Bt := A_0 (blk_grown Bt.out hg1 (own_ne HW.out Bt.out (by decide))); replace Br := A_0 (blk_grown Br.out hg1 (own_ne HW.out Br.out (by decide))); replace Bp := A_0 (blk_grown Bp.out hg1 (own_ne HW.out Bp.out (by decide))); replace Bx := A_0 (blk_grown Bx.out hg1 (own_ne HW.out Bx.out (by decide))); replace HW := A_0 ho1; replace HB := A_0 hb1; clear ho1 hb1 hg1 hat; replace tz := four Bt.out; replace rz := sixc Br.out; replace pz := sixc Bp.out; replace xz := sixc Bx.out))
   go_roundw
   case rel =>
    refine ⟨j + 1, .slice A1 (j.toNat + 1) c1, (by simp only [hwj]), by omega, by omega, ⟨?_⟩, ⟨?_⟩, ⟨?_⟩, ⟨?_⟩, ⟨?_⟩⟩
    ·rw [← HDE.out]
     refine blk_put (cs := #[.int .i64 k, .int .i64 nm, .string s, .int .i64 op, (.slice A1 (j.toNat + 1) c1), .int .i64 dj]) ?_ 5 _ (by rfl)
     apply p6_4
     exact Bp.out
    ·rw [← HFM.out, show (j + 1).toNat = j.toNat + 1 by omega]
     have ho := own_ne HW.out Bp.out (by decide); refine own_step HW.out fun k hk => ?_; have hkx : k ≠ pb := fun e => ho (by rw [hk, e])
     (repeat (rw [Below.heap_setCell _ _ _ k hkx]))
    ·(repeat (refine blk_far ?_ htp _)); exact Bt.out
    ·(repeat (refine blk_far ?_ hrp _)); exact Br.out
    ·(repeat (refine below_set ?_ Gp.out)); exact HB.out
   case measure => simp only [hwj, intOf]; omega
  ·have hb0 := xdf hlt
   have hjL : j.toNat = ps.length := by have := HL.out; omega
   rw [hjL, List.take_length] at Bp HW; have hLp : L = ps.length := HL.out.symm; obtain ⟨Av, cv, rfl⟩ := own_slc HW.out; have HDG := A_0 (show 1 ≤ deepP ps 1 ∧ deepP ps 1 ≤ 60 from ⟨deepP_ge ps 1, deepP_le ps 1 (by omega) (fun p hp => (HO.out p hp).2.2)⟩); have HX1 := A_0 (HX.out.below HB.out); have HK := A_0 (KeepBut.of_below HB.out g none); clear pz; have pz := sixc Bp.out; by_cases hd : 48 < deepP ps 1
   ·have d1 := xdt hd
    have HP := A_0 (show nodeP a n q b t3 k nm s op ps = _ from if_pos hd); clear hd
    go_wp2_with (first | (go_at_call 76; (with_reducible refine (give_A 41 _ _ _ _ _).mono ?_); rintro e wn ⟨rfl, hb⟩; replace HK := xk1 HK hb; clear hb))
    exact z_66
   have d1 := xdf hd; have HP0 := A_0 (show nodeP a n q b t3 k nm s op ps = (if 600 < n + 1 then .error (42, t3) else .ok ((⟨k, nm, s, op, ps.map (·.x)⟩, deepP ps 1), ⟨a, n + 1, q, b⟩)) from if_neg hd)
   clear hd; by_cases hm : 600 < n + 1
   ·have HP := A_0 (HP0.out.trans (if_pos hm))
    have HM := A_0 (show madeP a n q b t3 = _ from if_pos hm); clear hm
    go_wp2_with (first | (go_at_call 77; (with_reducible refine (made_L g A c T a n q b _ t0 t1 t2 t3 HX1.out HN.out.1 HN.out.2).mono ?_); intro e wn hp; rw [HM.out] at hp; obtain ⟨rfl, hk⟩ := hp.err; replace HK := xk3 HK hk; clear hk hp))
    exact z_66
   ·have HP := A_0 (HP0.out.trans (if_neg hm))
    have HM := A_0 (show madeP a n q b t3 = _ from if_neg hm); clear hm
    go_wp2_with (first | (go_at_call 77; (with_reducible refine (made_L g A c T a n q b _ t0 t1 t2 t3 HX1.out HN.out.1 HN.out.2).mono ?_); intro e wn hp; rw [HM.out] at hp; obtain ⟨rfl, hx, hk⟩ := hp.ok; replace HK := xk3 HK hk; replace HX1 := A_0 hx; replace Br := A_0 (hk.blk Br.out hgr (by simp)); replace Bp := A_0 (hk.blk Bp.out hgp (by simp)); replace HW := A_0 (own_step HW.out (fun z hz => hk.2 z (own_lt HW.out z hz) (by have := own_base HW.out z hz; have := HLT.out; omega) (by simp))); clear tz hk hp hx; replace rz := sixc Br.out; replace pz := sixc Bp.out))
    generalize hq : World.setCell _ ⟨rb, 5, none⟩ _ = wu; have b1 : wu.heap[rb]? = some (.cells #[.int .i64 k, .int .i64 nm, .string s, .int .i64 op, (.slice Av ps.length cv), .int .i64 (deepP ps 1)] 137 (0, 0)) := z_97; have b2 : KeepBut w wu g none := by rw [← hq]; (repeat (refine keep_far ?_ Gr.out _)); exact HK.out
    have b3 : wu.ownsRow w.heap.size 38 5 (.slice Av ps.length cv) ps.length (ps.flatMap PV.ecs) := by
     have ho := own_ne HW.out Br.out (by decide); rw [← hq]; refine own_step HW.out fun z hz => ?_; have hkx : z ≠ rb := fun e => ho (by rw [hz, e])
     (repeat (rw [Below.heap_setCell _ _ _ z hkx]))
    have b4 : RD wu g A c T ⟨a, n + 1, q, b⟩ := ⟨by rw [← hq]; (repeat (refine blk_far ?_ (Ne.symm hgr) _)); exact HX1.out.bk, Kd.F_keep HX.out.tk b2 (fun _ h => h)⟩; obtain ⟨A', c', e', hF, hc'⟩ := F_own (d := k38) (ok := fun k => okp k ∨ newO w wu k) b3 (fun z hz => .inr ⟨own_base b3 z hz, own_lt b3 z hz⟩) (reps_parts ps (fun p hp => ((HO.out p hp).1.keep b2 HOG.out).mono (fun _ h => .inl h))) (by simp) (by decide); injection e' with e1 e2 e3; subst e1 e3; obtain ⟨⟨wz0, wz1, wz2, wz3, wz4, wz5⟩, _⟩ := sixc b1; refine bodyPost_ret (v := PV.val ⟨⟨k, nm, s, op, ps.map (·.x)⟩, Av, cv, deepP ps 1⟩) (by simp [results, Try.results127, go_sem, wz0, wz1, wz2, wz3, wz4, wz5, PV.val]) rfl ?_
    rw [HP.out]; exact ⟨b2, ⟨⟨k, nm, s, op, ps.map (·.x)⟩, Av, cv, deepP ps 1⟩, rfl, rfl, rfl, ⟨by simpa using hF, by simpa using hc'⟩, b4⟩
abbrev Res := Except (Int × Int) ((S38 × Int) × PSt)
def deepQ : List (S38 × Int) → Int → Int
 | [], m => m
 | p :: ps, m => deepQ ps (max m (p.2 + 1))
def nodeQ (s : PSt) (t3 : Int) (k nm : Int) (st : ByteArray) (op : Int) (ps : List (S38 × Int)) : Res :=
 if 48 < deepQ ps 1 then .error (41, t3) else if 600 < s.nodes + 1 then .error (42, t3) else .ok ((⟨k, nm, st, op, ps.map (·.1)⟩, deepQ ps 1), ⟨s.at_, s.nodes + 1, s.op, s.bl⟩)
def PV.pr (p : PV) : S38 × Int := (p.x, p.d)
theorem deepQ_eq : ∀ (ps : List PV) (m : Int), deepP ps m = deepQ (ps.map PV.pr) m
 | [], m => rfl
 | p :: ps, m => deepQ_eq ps _
theorem nodeQ_eq (a n q b t3 k nm : Int) (st : ByteArray) (op : Int) (ps : List PV) : nodeP a n q b t3 k nm st op ps = nodeQ ⟨a, n, q, b⟩ t3 k nm st op (ps.map PV.pr) := by
 unfold nodeP nodeQ; rw [deepQ_eq, List.map_map]
 rfl
def goodS (T : List S58) (s : PSt) : Prop := (0 ≤ s.at_ ∧ s.at_ < T.length) ∧ 0 ≤ s.nodes ∧ s.nodes ≤ 600
instance (T : List S58) (s : PSt) : Decidable (goodS T s) := by unfold goodS; infer_instance
def OneC (T : List S58) (f : PSt → Option Res) : Prop := ∀ (s : PSt) (r : Res) (g : Nat) (A : Option Addr) (c : Nat) (w : World), f s = some r → RD w g A c T s → Calls Try.prog 126 #[.pointer (some ⟨g, 0, none⟩)] w (PPart w g A c T r)
theorem OneC.use {T : List S58} {f : PSt → Option Res} (h : OneC T f) (s : PSt) (r : Res) (g : Nat) (A : Option Addr) (c : Nat) (w : World) (h1 : f s = some r) (h2 : RD w g A c T s) : Calls Try.prog 126 #[.pointer (some ⟨g, 0, none⟩)] w (PPart w g A c T r) := h s r g A c w h1 h2
def AboC (T : List S58) (f : Int → PSt → Option Res) : Prop := ∀ (least : Int) (s : PSt) (r : Res) (g : Nat) (A : Option Addr) (c : Nat) (w : World), f least s = some r → RD w g A c T s → Calls Try.prog 104 #[.pointer (some ⟨g, 0, none⟩), .int .i64 least] w (PPart w g A c T r)
theorem AboC.use {T : List S58} {f : Int → PSt → Option Res} (h : AboC T f) (least : Int) (s : PSt) (r : Res) (g : Nat) (A : Option Addr) (c : Nat) (w : World) (h1 : f least s = some r) (h2 : RD w g A c T s) : Calls Try.prog 104 #[.pointer (some ⟨g, 0, none⟩), .int .i64 least] w (PPart w g A c T r) := h least s r g A c w h1 h2
theorem rank_some (x : ByteArray) : ∃ p, tree_Rank.f x = some p := by
 unfold tree_Rank.f; by_cases c0 : x.toList = ([124] : List UInt8)
 ·exact ⟨_, if_pos c0⟩
 rw [if_neg c0]; by_cases c1 : x.toList = ([94] : List UInt8)
 ·exact ⟨_, if_pos c1⟩
 rw [if_neg c1]; by_cases c2 : x.toList = ([38] : List UInt8)
 ·exact ⟨_, if_pos c2⟩
 rw [if_neg c2]; by_cases c3 : x.toList = ([61, 61] : List UInt8)
 ·exact ⟨_, if_pos c3⟩
 rw [if_neg c3]; by_cases c4 : x.toList = ([33, 61] : List UInt8)
 ·exact ⟨_, if_pos c4⟩
 rw [if_neg c4]; by_cases c5 : x.toList = ([60] : List UInt8)
 ·exact ⟨_, if_pos c5⟩
 rw [if_neg c5]; by_cases c6 : x.toList = ([60, 61] : List UInt8)
 ·exact ⟨_, if_pos c6⟩
 rw [if_neg c6]; by_cases c7 : x.toList = ([62] : List UInt8)
 ·exact ⟨_, if_pos c7⟩
 rw [if_neg c7]; by_cases c8 : x.toList = ([62, 61] : List UInt8)
 ·exact ⟨_, if_pos c8⟩
 rw [if_neg c8]; by_cases c9 : x.toList = ([60, 60] : List UInt8)
 ·exact ⟨_, if_pos c9⟩
 rw [if_neg c9]; by_cases c10 : x.toList = ([62, 62] : List UInt8)
 ·exact ⟨_, if_pos c10⟩
 rw [if_neg c10]; by_cases c11 : x.toList = ([43] : List UInt8)
 ·exact ⟨_, if_pos c11⟩
 rw [if_neg c11]; by_cases c12 : x.toList = ([45] : List UInt8)
 ·exact ⟨_, if_pos c12⟩
 rw [if_neg c12]; by_cases c13 : x.toList = ([42] : List UInt8)
 ·exact ⟨_, if_pos c13⟩
 rw [if_neg c13]; by_cases c14 : x.toList = ([47] : List UInt8)
 ·exact ⟨_, if_pos c14⟩
 rw [if_neg c14]; by_cases c15 : x.toList = ([37] : List UInt8)
 ·exact ⟨_, if_pos c15⟩
 rw [if_neg c15]; exact ⟨_, rfl⟩
def rankOf (t : S58) : Int × Int := if t.f0 = 4 then (tree_Rank.f t.f1).getD (0, 0) else (0, 0)
theorem rank_L (x : ByteArray) (w : World) : Calls Try.prog 21 #[.string x] w fun e w' => e = .returned (.tuple #[.int .i64 ((tree_Rank.f x).getD (0, 0)).1, .int .i64 ((tree_Rank.f x).getD (0, 0)).2]) ∧ Below w.heap.size w w' := by
 obtain ⟨⟨r1, r2⟩, h⟩ := rank_some x; rw [h]; exact (tree_Rank.calls x r1 r2 w h).mono fun e w' ⟨h1, h2⟩ => ⟨h1, h2.below⟩
def loopF (T : List S58) (ab : Int → PSt → Option Res) (least : Int) : Nat → (S38 × Int) → PSt → Option Res
  | 0, _, _ => none
  | k + 1, p, s => if goodS T s ∧ (0 ≤ p.2 ∧ p.2 ≤ 48) ∧ 0 ≤ (rankOf (rd_T58 T s.at_)).1 ∧ (rankOf (rd_T58 T s.at_)).1 ≤ 100 then
      (if (rankOf (rd_T58 T s.at_)).1 < least ∨ (rankOf (rd_T58 T s.at_)).1 = 0 then some (.ok (p, s)) else
        match ab ((rankOf (rd_T58 T s.at_)).1 + 1) ⟨s.at_ + 1, s.nodes, s.op, s.bl⟩ with
        | none => none
        | some (.error e) => some (.error e)
        | some (.ok (p2, s2)) => if (0 ≤ p2.2 ∧ p2.2 ≤ 48) ∧ 0 ≤ s2.nodes ∧ s2.nodes ≤ 600 then
            (match nodeQ s2 (rd_T58 T s.at_).f3 5 0 ⟨#[]⟩ (rankOf (rd_T58 T s.at_)).2 [p, p2] with
            | .error e => some (.error e)
            | .ok (p3, s3) => loopF T ab least k p3 s3) else none)
    else none
def stepF (T : List S58) (onF : PSt → Option Res) (ab : Int → PSt → Option Res) (K : Nat) (least : Int) (s : PSt) : Option Res :=
 match onF s with
 | none => none
 | some (.error e) => some (.error e)
 | some (.ok (p, s1)) => loopF T ab least K p s1
theorem PRow.two {W : World} {qb : Nat} {p y : PV} (h : W.heap[qb]? = some (.cells #[.int .i64 p.x.f0, .int .i64 p.x.f1, .string p.x.f2, .int .i64 p.x.f3, .slice p.A p.x.f4.length p.c, .int .i64 p.d, .int .i64 y.x.f0, .int .i64 y.x.f1, .string y.x.f2, .int .i64 y.x.f3, .slice y.A y.x.f4.length y.c, .int .i64 y.d] 137 (0, 0))) : PRow W (some ⟨qb, 0, none⟩) [p, y] := by
 intro j z hj hz
 have h2 : j.toNat = 0 ∨ j.toNat = 1 := by
  rcases Nat.lt_or_ge j.toNat 2 with q | q
  ·omega
  ·rw [List.getElem?_eq_none (by simpa using q)] at hz; cases hz
 rcases h2 with e | e
 ·rw [e] at hz ⊢
  injection hz with hz; subst hz; exact z_70
 ·rw [e] at hz ⊢
  injection hz with hz; subst hz; exact ⟨_, rfl, xbc h 6, xbc h 7, xbc h 8, xbc h 9, xbc h 10, xbc h 11⟩
theorem above_step (T : List S58) (onF : PSt → Option Res) (OC0 : OneC T onF) (ab : Int → PSt → Option Res) (AC0 : AboC T ab) (K : Nat) : AboC T (stepF T onF ab K) := by
 intro least s r g A c w h hrd; unfold stepF at h; obtain ⟨a, n, q, b⟩ := s; have HT0 := A_0 hrd.tk; have hmx := hrd.max; have Bg : Aside0 (w.heap[g]? = some (b79 A T.length c a n q b)) := ⟨hrd.bk⟩; have HK := A_0 (KeepBut.refl w g none); have HLT := A_0 hrd.lt; have OC := A_0 OC0; have AC := A_0 AC0; clear hrd OC0 AC0; have gz := five_ Bg.out; rcases hon : onF ⟨a, n, q, b⟩ with _ | r1
 ·rw [hon] at h; cases h
 rw [hon] at h; have HON := A_0 hon; clear hon
 go_enter Try.func104, Try.ntmps104
 go_wp2_with (first | ((with_reducible refine gate_dst (N := 4) rfl ?_); refine bx #[.int .i64 0, .int .i64 0, .string (⟨#[]⟩ : ByteArray), .int .i64 0, .slice none 0 0, .int .i64 0] 137 ?_; intro rb hg wr hbox hb; have Br := A_0 hbox; have Gr := A_0 (show w.heap.size ≤ rb by rw [hg]; exact keep_size HK.out); replace HK := xk1 HK hb; have hrg := (show rb ≠ g by rw [hg]; exact z_71); have hgr := Ne.symm hrg; replace Bg := xk4 Bg hb; clear hb hbox hg; replace gz := five_ Bg.out; have rz := sixc Br.out))
 have HSZ := A_0 (show w.heap.size ≤ wr.heap.size ∧ rb < wr.heap.size from ⟨keep_size HK.out, blk_lt Br.out⟩)
 (with_reducible refine (OC.out.use ⟨a, n, q, b⟩ r1 g A c _ HON.out (⟨Bg.out, Kd.F_keep HT0.out HK.out (fun _ h => h)⟩ : RD _ g A c T _)).mono ?_)
 intro e wn hp; rcases r1 with ⟨er, at_⟩ | ⟨p0, s1⟩
 ·obtain ⟨rfl, hk⟩ := PPartO.err hp
  have h' := xsi h; subst h'; exact z_77
 obtain ⟨p, rfl, hpx, hpo, hx, hk⟩ := PPartO.ok hp; clear hp HON; subst hpx; have HL := A_0 h; clear h; obtain ⟨a1, n1, q1, b1⟩ := s1; unfold PV.val; replace Bg : Aside0 (wn.heap[g]? = some (b79 A T.length c a1 n1 q1 b1)) := ⟨hx.bk⟩; replace Br := xk2 hk Br hrg; replace HK := xk3 HK hk; clear gz rz hk hx; have gz := five_ Bg.out; have rz := sixc Br.out; have Ep : Aside0 (∃ op_ : Nat → Prop, PV.ok wn op_ p ∧ ∀ k, op_ k → w.heap.size ≤ k ∧ k ≠ rb) := ⟨⟨_, hpo, fun k hk => by have := hk.1; have := HSZ.out; omega⟩⟩
 clear HSZ hpo
 go_wp2_with (first | ((with_reducible refine gate_dst (N := 5) rfl ?_); refine bx #[.int .i64 0, .int .i64 0, .string (⟨#[]⟩ : ByteArray), .int .i64 0, .slice none 0 0, .int .i64 0] 137 ?_; intro lb hg wl hbox hb; replace Ep : Aside0 (∃ op_ : Nat → Prop, PV.ok wl op_ p ∧ ∀ k, op_ k → w.heap.size ≤ k ∧ k ≠ rb ∧ k ≠ lb) := ⟨z_78⟩; have Bl := A_0 hbox; have Gl := A_0 (show w.heap.size ≤ lb by rw [hg]; exact keep_size HK.out); replace HK := xk1 HK hb; have hlg := (show lb ≠ g by rw [hg]; exact z_71); have hgl := Ne.symm hlg; replace Bg := xk4 Bg hb; have hlr := (show lb ≠ rb by rw [hg]; exact z_79); have hrl := Ne.symm hlr; replace Br := xk4 Br hb; clear hb hbox hg; replace gz := five_ Bg.out; replace rz := sixc Br.out; have lz := sixc Bl.out))
 generalize hq_ : World.setCell _ ⟨lb, 5, none⟩ _ = wt; have e0_ : Aside0 (∃ op_ : Nat → Prop, PV.ok wt op_ p ∧ ∀ k, op_ k → w.heap.size ≤ k ∧ k ≠ rb ∧ k ≠ lb) := ⟨by obtain ⟨op_, h1, h2⟩ := Ep.out; exact z_156⟩; clear Ep; have Ep := e0_; clear e0_; have hq := hq_; clear hq_; replace Bg : Aside0 (wt.heap[g]? = some (b79 A T.length c a1 n1 q1 b1)) := ⟨by rw [← hq]; refine bf6 ?_ hgl; exact Bg.out⟩; replace Br : Aside0 (wt.heap[rb]? = some (.cells #[.int .i64 0, .int .i64 0, .string (⟨#[]⟩ : ByteArray), .int .i64 0, .slice none 0 0, .int .i64 0] 137 (0, 0))) := ⟨by rw [← hq]; refine bf6 ?_ hrl; exact Br.out⟩; replace Bl : Aside0 (wt.heap[lb]? = some (.cells #[.int .i64 p.x.f0, .int .i64 p.x.f1, .string p.x.f2, .int .i64 p.x.f3, .slice p.A p.x.f4.length p.c, .int .i64 p.d] 137 (0, 0))) := ⟨by rw [← hq]; apply p6_5; apply p6_4; apply p6_3; apply p6_2; apply p6_1; apply p6_0; exact Bl.out⟩; replace HK : Aside0 (KeepBut w wt g none) := ⟨by rw [← hq]; refine kf6 ?_ Gl.out; exact HK.out⟩; clear hq; replace gz := five_ Bg.out; replace rz := sixc Br.out; replace lz := sixc Bl.out
 go_loopg [6] K (fun kq v6 wq => ∃ (p : PV) (a n q b : Int), Aside0 (loopF T ab least kq (p.x, p.d) ⟨a, n, q, b⟩ = some r) ∧ Aside0 (kq ≤ K) ∧ Aside0 (wq.heap[g]? = some (b79 A T.length c a n q b)) ∧ Aside0 (wq.heap[rb]? = some (.cells #[.int .i64 0, .int .i64 0, .string (⟨#[]⟩ : ByteArray), .int .i64 0, .slice none 0 0, .int .i64 0] 137 (0, 0))) ∧ Aside0 (wq.heap[lb]? = some (.cells #[.int .i64 p.x.f0, .int .i64 p.x.f1, .string p.x.f2, .int .i64 p.x.f3, .slice p.A p.x.f4.length p.c, .int .i64 p.d] 137 (0, 0))) ∧ Aside0 (∃ op_ : Nat → Prop, PV.ok wq op_ p ∧ ∀ k, op_ k → w.heap.size ≤ k ∧ k ≠ rb ∧ k ≠ lb) ∧ Aside0 (KeepBut w wq g none))
 case atStart => exact ⟨p, a1, n1, q1, b1, HL, ⟨xlr _⟩, Bg, Br, Bl, Ep, HK⟩
 case round =>
  clear gz rz lz Bg Br Bl Ep HK HL; obtain ⟨p, a, n, q, b, HL, HK1, Bg, Br, Bl, Ep, HK⟩ := hrel; have gz := five_ Bg.out; have rz := sixc Br.out; have lz := sixc Bl.out; cases gk with
  | zero => exact absurd HL.out (by simp [loopF])
  | succ k1 =>
   have h := HL.out; clear HL; unfold loopF at h; by_cases hg : goodS T ⟨a, n, q, b⟩ ∧ (0 ≤ p.d ∧ p.d ≤ 48) ∧ 0 ≤ (rankOf (rd_T58 T a)).1 ∧ (rankOf (rd_T58 T a)).1 ≤ 100
   rotate_left
   ·rw [if_neg hg] at h; cases h
   rw [if_pos hg] at h; obtain ⟨⟨⟨h0, h1⟩, hn0, hn1⟩, ⟨hd0, hd1⟩, hr0, hr1⟩ := hg; dsimp only at h h0 h1 hn0 hn1; have hwa : wrap64 (a + 1) = a + 1 := by unfold wrap64; omega
   have HL := A_0 h; clear h; generalize ht : rd_T58 T a = t at *; have HTK := A_0 ht; clear ht
   go_wp2_with fail
   (with_reducible refine (now_L g A c T ⟨a, n, q, b⟩ _ (⟨Bg.out, Kd.F_keep HT0.out HK.out (fun _ h => h)⟩ : RD _ g A c T _) h0 h1).mono ?_)
   rintro e wn ⟨rfl, hb⟩; rw [HTK.out]; unfold tokV; replace Ep : Aside0 (∃ op_ : Nat → Prop, PV.ok wn op_ p ∧ ∀ k, op_ k → w.heap.size ≤ k ∧ k ≠ rb ∧ k ≠ lb) := ⟨z_92⟩; replace Bg := xk4 Bg hb; replace Br := xk4 Br hb; replace Bl := xk4 Bl hb; replace HK := xk1 HK hb; clear hb; replace gz := five_ Bg.out; replace rz := sixc Br.out; replace lz := sixc Bl.out; go_upto_region 4 with (first | ((with_reducible refine gate_dst (N := 6) rfl ?_); refine bx (a58 0 ⟨#[]⟩ 0 0) 58 ?_; intro tb hg wt hbox hb; replace Ep : Aside0 (∃ op_ : Nat → Prop, PV.ok wt op_ p ∧ ∀ k, op_ k → w.heap.size ≤ k ∧ k ≠ rb ∧ k ≠ lb ∧ k ≠ tb) := ⟨z_78⟩; have Bt := A_0 hbox; have Gt := A_0 (show w.heap.size ≤ tb by rw [hg]; exact keep_size HK.out); replace HK := xk1 HK hb; have htg := (show tb ≠ g by rw [hg]; exact z_71); have hgt := Ne.symm htg; replace Bg := xk4 Bg hb; have htr := (show tb ≠ rb by rw [hg]; exact z_79); have hrt := Ne.symm htr; replace Br := xk4 Br hb; have htl := (show tb ≠ lb by rw [hg]; exact Ne.symm (xnl (blk_lt Bl.out))); have hlt := Ne.symm htl; replace Bl := xk4 Bl hb; clear hb hbox hg; replace gz := five_ Bg.out; replace rz := sixc Br.out; replace lz := sixc Bl.out; have tz := four Bt.out))
   generalize hq_ : World.setCell _ ⟨tb, 3, none⟩ _ = wu; have e0_ : Aside0 (∃ op_ : Nat → Prop, PV.ok wu op_ p ∧ ∀ k, op_ k → w.heap.size ≤ k ∧ k ≠ rb ∧ k ≠ lb ∧ k ≠ tb) := ⟨by obtain ⟨op_, h1, h2⟩ := Ep.out; exact z_133⟩; clear Ep; have Ep := e0_; clear e0_; have hq := hq_; clear hq_; replace Bg : Aside0 (wu.heap[g]? = some (b79 A T.length c a n q b)) := ⟨z_103⟩; replace Br : Aside0 (wu.heap[rb]? = some (.cells #[.int .i64 0, .int .i64 0, .string (⟨#[]⟩ : ByteArray), .int .i64 0, .slice none 0 0, .int .i64 0] 137 (0, 0))) := ⟨z_104⟩; replace Bl : Aside0 (wu.heap[lb]? = some (.cells #[.int .i64 p.x.f0, .int .i64 p.x.f1, .string p.x.f2, .int .i64 p.x.f3, .slice p.A p.x.f4.length p.c, .int .i64 p.d] 137 (0, 0))) := ⟨by rw [← hq]; refine bf4 ?_ hlt; exact Bl.out⟩; replace Bt : Aside0 (wu.heap[tb]? = some (b58 t.f0 t.f1 t.f2 t.f3)) := ⟨z_105⟩; replace HK : Aside0 (KeepBut w wu g none) := ⟨z_106⟩; clear hq; replace gz := five_ Bg.out; replace rz := sixc Br.out; replace lz := sixc Bl.out; replace tz := four Bt.out
   go_upto_if 16 with (fail)
   generalize hrk : rankOf t = rk at *
   go_cut [7, 8] (fun v7 v8 wx => v7 = .int .i64 rk.1 ∧ v8 = .int .i64 rk.2 ∧ Aside0 (wx.heap[g]? = some (b79 A T.length c a n q b)) ∧ Aside0 (wx.heap[rb]? = some (.cells #[.int .i64 0, .int .i64 0, .string (⟨#[]⟩ : ByteArray), .int .i64 0, .slice none 0 0, .int .i64 0] 137 (0, 0))) ∧ Aside0 (wx.heap[lb]? = some (.cells #[.int .i64 p.x.f0, .int .i64 p.x.f1, .string p.x.f2, .int .i64 p.x.f3, .slice p.A p.x.f4.length p.c, .int .i64 p.d] 137 (0, 0))) ∧ Aside0 (wx.heap[tb]? = some (b58 t.f0 t.f1 t.f2 t.f3)) ∧ Aside0 (∃ op_ : Nat → Prop, PV.ok wx op_ p ∧ ∀ k, op_ k → w.heap.size ≤ k ∧ k ≠ rb ∧ k ≠ lb ∧ k ≠ tb) ∧ Aside0 (KeepBut w wx g none))
   case first =>
    by_cases h4 : t.f0 = 4
    ·have d4 : (t.f0 == 4) = true := beq_iff_eq.2 h4
     have hrr : rk = (tree_Rank.f t.f1).getD (0, 0) := by rw [← hrk]; unfold rankOf; rw [if_pos h4]
     go_wp2_with fail
     (with_reducible refine (rank_L t.f1 _).mono ?_)
     rintro e wn ⟨rfl, hb⟩; replace Ep : Aside0 (∃ op_ : Nat → Prop, PV.ok wn op_ p ∧ ∀ k, op_ k → w.heap.size ≤ k ∧ k ≠ rb ∧ k ≠ lb ∧ k ≠ tb) := ⟨z_92⟩; replace Bg := xk4 Bg hb; replace Br := xk4 Br hb; replace Bl := xk4 Bl hb; replace Bt := xk4 Bt hb; replace HK := xk1 HK hb; clear hb; replace gz := five_ Bg.out; replace rz := sixc Br.out; replace lz := sixc Bl.out; replace tz := four Bt.out
     go_wp2_with fail
     go_meet
     exact ⟨by rw [hrr], by rw [hrr], Bg, Br, Bl, Bt, Ep, HK⟩
    ·have d4 : (t.f0 == 4) = false := beq_eq_false_iff_ne.2 h4
     have hrr : rk = (0, 0) := by rw [← hrk]; unfold rankOf; rw [if_neg h4]
     go_wp2_with fail
     go_meet
     exact ⟨by rw [hrr], by rw [hrr], Bg, Br, Bl, Bt, Ep, HK⟩
   case rest =>
    clear gz rz lz tz Bg Br Bl Bt Ep HK hrk; obtain ⟨rfl, rfl, Bg, Br, Bl, Bt, Ep, HK⟩ := hcut; have gz := five_ Bg.out; have rz := sixc Br.out; have lz := sixc Bl.out; have tz := four Bt.out; have h := HL.out; clear HL; obtain ⟨rk1, rk2⟩ := rk; dsimp only at h hr0 hr1 ⊢; by_cases hst : rk1 < least ∨ rk1 = 0
    ·rw [if_pos hst] at h
     have h' := xsi h; subst h'
     have HF : Aside0 ((decide (rk1 < least) = true) ∨ (decide (rk1 < least) = false ∧ (rk1 == 0) = true)) := ⟨by
      by_cases z : rk1 < least
      ·exact .inl (xdt z)
      ·exact .inr ⟨xdf z, beq_iff_eq.2 (by omega)⟩⟩
     clear h hst; go_upto_region 6 with (fail)
     go_cut [29] (fun v29 wx => v29 = .bool true ∧ wc = wx)
     case first =>
      rcases HF.out with z | ⟨z1, z2⟩
      ·go_wp2_with fail
       go_meet
       exact ⟨rfl, rfl⟩
      ·go_wp2_with fail
       go_meet
       exact ⟨rfl, rfl⟩
     case rest =>
      obtain ⟨rfl, rfl⟩ := hcut
      go_wp2_with fail
      generalize hq_ : World.setCell _ ⟨rb, 5, none⟩ _ = wv; have e0_ : Aside0 (∃ op_ : Nat → Prop, PV.ok wv op_ p ∧ ∀ k, op_ k → w.heap.size ≤ k ∧ k ≠ rb ∧ k ≠ lb ∧ k ≠ tb) := ⟨z_108⟩; clear Ep; have Ep := e0_; clear e0_; have hq := hq_; clear hq_; replace Bg : Aside0 (wv.heap[g]? = some (b79 A T.length c a n q b)) := ⟨z_95⟩; replace Br : Aside0 (wv.heap[rb]? = some (.cells #[.int .i64 p.x.f0, .int .i64 p.x.f1, .string p.x.f2, .int .i64 p.x.f3, .slice p.A p.x.f4.length p.c, .int .i64 p.d] 137 (0, 0))) := ⟨z_97⟩; replace Bl : Aside0 (wv.heap[lb]? = some (.cells #[.int .i64 p.x.f0, .int .i64 p.x.f1, .string p.x.f2, .int .i64 p.x.f3, .slice p.A p.x.f4.length p.c, .int .i64 p.d] 137 (0, 0))) := ⟨by rw [← hq]; refine bf6 ?_ hlr; exact Bl.out⟩; replace Bt : Aside0 (wv.heap[tb]? = some (b58 t.f0 t.f1 t.f2 t.f3)) := ⟨z_96⟩; replace HK : Aside0 (KeepBut w wv g none) := ⟨z_99⟩; clear hq; replace gz := five_ Bg.out; replace rz := sixc Br.out; replace lz := sixc Bl.out; replace tz := four Bt.out; refine bodyPost_ret (v := p.val) (by simp [results, Try.results104, go_sem, rz, PV.val]) rfl ?_; obtain ⟨op_, h1, h2⟩ := Ep.out; exact z_109
    ·rw [if_neg hst] at h
     have z1 := xdf (show ¬ rk1 < least by omega)
     have z2 : (rk1 == 0) = false := beq_eq_false_iff_ne.2 (by omega); have hwr : wrap64 (rk1 + 1) = rk1 + 1 := by unfold wrap64; omega
     clear hst
     go_wp2_with fail
     generalize hq_ : World.setCell _ ⟨g, 1, none⟩ _ = wv; have e0_ : Aside0 (∃ op_ : Nat → Prop, PV.ok wv op_ p ∧ ∀ k, op_ k → w.heap.size ≤ k ∧ k ≠ rb ∧ k ≠ lb ∧ k ≠ tb) := ⟨z_102⟩; clear Ep; have Ep := e0_; clear e0_; have hq := hq_; clear hq_; replace Bg : Aside0 (wv.heap[g]? = some (b79 A T.length c (a + 1) n q b)) := ⟨z_73⟩; replace Br : Aside0 (wv.heap[rb]? = some (.cells #[.int .i64 0, .int .i64 0, .string (⟨#[]⟩ : ByteArray), .int .i64 0, .slice none 0 0, .int .i64 0] 137 (0, 0))) := ⟨z_75⟩; replace Bl : Aside0 (wv.heap[lb]? = some (.cells #[.int .i64 p.x.f0, .int .i64 p.x.f1, .string p.x.f2, .int .i64 p.x.f3, .slice p.A p.x.f4.length p.c, .int .i64 p.d] 137 (0, 0))) := ⟨by rw [← hq]; refine blk_far ?_ hlg _; exact Bl.out⟩; replace Bt : Aside0 (wv.heap[tb]? = some (b58 t.f0 t.f1 t.f2 t.f3)) := ⟨z_74⟩; replace HK : Aside0 (KeepBut w wv g none) := ⟨z_76⟩; clear hq; replace gz := five_ Bg.out; replace rz := sixc Br.out; replace lz := sixc Bl.out; replace tz := four Bt.out; have HSZ := A_0 (show w.heap.size ≤ wv.heap.size ∧ rb < wv.heap.size ∧ lb < wv.heap.size ∧ tb < wv.heap.size from ⟨keep_size HK.out, blk_lt Br.out, blk_lt Bl.out, blk_lt Bt.out⟩); rcases hab : ab (rk1 + 1) ⟨a + 1, n, q, b⟩ with _ | r1
     ·rw [hab] at h; cases h
     rw [hab] at h; have HAB := A_0 hab; clear hab
     (with_reducible refine (AC.out.use (rk1 + 1) ⟨a + 1, n, q, b⟩ r1 g A c _ HAB.out (⟨Bg.out, Kd.F_keep HT0.out HK.out (fun _ h => h)⟩ : RD _ g A c T _)).mono ?_)
     intro e wn hp; rcases r1 with ⟨er, at_⟩ | ⟨p2, s2⟩
     ·obtain ⟨rfl, hk⟩ := PPartO.err hp
      have h' := xsi h; subst h'; exact z_77
     obtain ⟨y, rfl, hpy, hpo, hx, hk⟩ := PPartO.ok hp; clear hp HAB; subst hpy; dsimp only at h; obtain ⟨a2, n2, q2, b2⟩ := s2; dsimp only at h; unfold PV.val; replace Ep : Aside0 (∃ op_ : Nat → Prop, PV.ok wn op_ p ∧ ∀ k, op_ k → w.heap.size ≤ k ∧ k ≠ rb ∧ k ≠ lb ∧ k ≠ tb) := ⟨z_86⟩; replace Bg : Aside0 (wn.heap[g]? = some (b79 A T.length c a2 n2 q2 b2)) := ⟨hx.bk⟩; replace Br := xk2 hk Br hrg; replace Bl := xk2 hk Bl hlg; replace Bt := xk2 hk Bt htg; replace HK := xk3 HK hk; clear gz rz lz tz hk hx; have gz := five_ Bg.out; have rz := sixc Br.out; have lz := sixc Bl.out; have tz := four Bt.out; have Ey : Aside0 (∃ op_ : Nat → Prop, PV.ok wn op_ y ∧ ∀ k, op_ k → w.heap.size ≤ k ∧ k ≠ rb ∧ k ≠ lb ∧ k ≠ tb) := ⟨⟨_, hpo, fun k hk => by have := hk.1; have := HSZ.out; omega⟩⟩
     clear HSZ hpo; by_cases hg2 : (0 ≤ y.d ∧ y.d ≤ 48) ∧ 0 ≤ n2 ∧ n2 ≤ 600
     rotate_left
     ·rw [if_neg hg2] at h; cases h
     rw [if_pos hg2] at h; obtain ⟨⟨hy0, hy1⟩, hm0, hm1⟩ := hg2; have HL := A_0 h; clear h; go_upto_region 10 with (first | ((with_reducible refine gate_dst (N := 9) rfl ?_); refine bx #[.int .i64 0, .int .i64 0, .string (⟨#[]⟩ : ByteArray), .int .i64 0, .slice none 0 0, .int .i64 0] 137 ?_; intro yb hg wy hbox hb; replace Ep : Aside0 (∃ op_ : Nat → Prop, PV.ok wy op_ p ∧ ∀ k, op_ k → w.heap.size ≤ k ∧ k ≠ rb ∧ k ≠ lb ∧ k ≠ tb ∧ k ≠ yb) := ⟨z_78⟩; replace Ey : Aside0 (∃ op_ : Nat → Prop, PV.ok wy op_ y ∧ ∀ k, op_ k → w.heap.size ≤ k ∧ k ≠ rb ∧ k ≠ lb ∧ k ≠ tb ∧ k ≠ yb) := ⟨z_87⟩; have By := A_0 hbox; have Gy := A_0 (show w.heap.size ≤ yb by rw [hg]; exact keep_size HK.out); replace HK := xk1 HK hb; have hyg := (show yb ≠ g by rw [hg]; exact z_71); have hgy := Ne.symm hyg; replace Bg := xk4 Bg hb; have hyr := (show yb ≠ rb by rw [hg]; exact z_79); have hry := Ne.symm hyr; replace Br := xk4 Br hb; have hyl := (show yb ≠ lb by rw [hg]; exact Ne.symm (xnl (blk_lt Bl.out))); have hly := Ne.symm hyl; replace Bl := xk4 Bl hb; have hyt := (show yb ≠ tb by rw [hg]; exact z_72); have hty := Ne.symm hyt; replace Bt := xk4 Bt hb; clear hb hbox hg; replace gz := five_ Bg.out; replace rz := sixc Br.out; replace lz := sixc Bl.out; replace tz := four Bt.out; have yz := sixc By.out))
     generalize hq_ : World.setCell _ ⟨yb, 5, none⟩ _ = wx; have e0_ : Aside0 (∃ op_ : Nat → Prop, PV.ok wx op_ p ∧ ∀ k, op_ k → w.heap.size ≤ k ∧ k ≠ rb ∧ k ≠ lb ∧ k ≠ tb ∧ k ≠ yb) := ⟨z_88⟩; have e1_ : Aside0 (∃ op_ : Nat → Prop, PV.ok wx op_ y ∧ ∀ k, op_ k → w.heap.size ≤ k ∧ k ≠ rb ∧ k ≠ lb ∧ k ≠ tb ∧ k ≠ yb) := ⟨z_89⟩; clear Ep Ey; have Ep := e0_; clear e0_; have Ey := e1_; clear e1_; have hq := hq_; clear hq_; replace Bg : Aside0 (wx.heap[g]? = some (b79 A T.length c a2 n2 q2 b2)) := ⟨by rw [← hq]; refine bf6 ?_ hgy; exact Bg.out⟩; replace Br : Aside0 (wx.heap[rb]? = some (.cells #[.int .i64 0, .int .i64 0, .string (⟨#[]⟩ : ByteArray), .int .i64 0, .slice none 0 0, .int .i64 0] 137 (0, 0))) := ⟨by rw [← hq]; refine bf6 ?_ hry; exact Br.out⟩; replace Bl : Aside0 (wx.heap[lb]? = some (.cells #[.int .i64 p.x.f0, .int .i64 p.x.f1, .string p.x.f2, .int .i64 p.x.f3, .slice p.A p.x.f4.length p.c, .int .i64 p.d] 137 (0, 0))) := ⟨by rw [← hq]; refine bf6 ?_ hly; exact Bl.out⟩; replace Bt : Aside0 (wx.heap[tb]? = some (b58 t.f0 t.f1 t.f2 t.f3)) := ⟨by rw [← hq]; refine bf6 ?_ hty; exact Bt.out⟩; replace By : Aside0 (wx.heap[yb]? = some (.cells #[.int .i64 y.x.f0, .int .i64 y.x.f1, .string y.x.f2, .int .i64 y.x.f3, .slice y.A y.x.f4.length y.c, .int .i64 y.d] 137 (0, 0))) := ⟨by rw [← hq]; apply p6_5; apply p6_4; apply p6_3; apply p6_2; apply p6_1; apply p6_0; exact By.out⟩; replace HK : Aside0 (KeepBut w wx g none) := ⟨by rw [← hq]; refine kf6 ?_ Gy.out; exact HK.out⟩; clear hq; replace gz := five_ Bg.out; replace rz := sixc Br.out; replace lz := sixc Bl.out; replace tz := four Bt.out; replace yz := sixc By.out
     go_wp2_with fail
     generalize hqa : World.alloc wx _ = wz; have hb : Below wx.heap.size wx wz := z_91; have HPR := A_0 (show PRow wz (some ⟨wx.heap.size, 0, none⟩) [p, y] from PRow.two (by rw [← hqa]; exact blk_new _ _)); clear hqa; replace Ep : Aside0 (∃ op_ : Nat → Prop, PV.ok wz op_ p ∧ ∀ k, op_ k → w.heap.size ≤ k ∧ k ≠ rb ∧ k ≠ lb ∧ k ≠ tb ∧ k ≠ yb) := ⟨z_92⟩; replace Ey : Aside0 (∃ op_ : Nat → Prop, PV.ok wz op_ y ∧ ∀ k, op_ k → w.heap.size ≤ k ∧ k ≠ rb ∧ k ≠ lb ∧ k ≠ tb ∧ k ≠ yb) := ⟨by obtain ⟨op_, h1, h2⟩ := Ey.out; exact z_93⟩; replace Bg := xk4 Bg hb; replace Br := xk4 Br hb; replace Bl := xk4 Bl hb; replace Bt := xk4 Bt hb; replace By := xk4 By hb; replace HK := xk1 HK hb; clear hb; replace gz := five_ Bg.out; replace rz := sixc Br.out; replace lz := sixc Bl.out; replace tz := four Bt.out; replace yz := sixc By.out; have HSZ := A_0 (show w.heap.size ≤ wz.heap.size ∧ rb < wz.heap.size ∧ lb < wz.heap.size ∧ tb < wz.heap.size ∧ yb < wz.heap.size from ⟨keep_size HK.out, blk_lt Br.out, blk_lt Bl.out, blk_lt Bt.out, blk_lt By.out⟩); obtain ⟨o1, hp1, hc1⟩ := Ep.out; obtain ⟨o2, hp2, hc2⟩ := Ey.out; have HCC := A_0 (show (∀ k, o1 k → w.heap.size ≤ k ∧ k ≠ rb ∧ k ≠ lb ∧ k ≠ tb ∧ k ≠ yb) ∧ (∀ k, o2 k → w.heap.size ≤ k ∧ k ≠ rb ∧ k ≠ lb ∧ k ≠ tb ∧ k ≠ yb) from ⟨hc1, hc2⟩)
     have hN := node_L (fun k => o1 k ∨ o2 k) g A c T a2 n2 q2 b2 wz t.f0 t.f1 t.f2 t.f3 5 0 ⟨#[]⟩ rk2 (some ⟨wx.heap.size, 0, none⟩) 2 2 [p, y] (⟨Bg.out, Kd.F_keep HT0.out HK.out (fun _ h => h)⟩ : RD _ g A c T _) hm0 hm1 rfl (by omega) HPR.out
      (fun k hk => by have := HLT.out; rcases hk with z | z; (have := hc1 k z; omega); (have := hc2 k z; omega))
      (fun z hz => by
       rcases List.mem_cons.1 hz with e | e
       ·subst e; exact ⟨hp1.mono (fun _ h => .inl h), hd0, hd1⟩
       ·rcases List.mem_cons.1 e with e | e
        ·subst e; exact ⟨hp2.mono (fun _ h => .inr h), hy0, hy1⟩
        ·cases e)
     rw [nodeQ_eq, show [p, y].map PV.pr = [(p.x, p.d), (y.x, y.d)] from rfl] at hN; clear Ep Ey hp1 hp2 hc1 hc2 HPR; have h := HL.out; clear HL; rcases hres : nodeQ ⟨a2, n2, q2, b2⟩ t.f3 5 0 ⟨#[]⟩ rk2 [(p.x, p.d), (y.x, y.d)] with ⟨er, at_⟩ | ⟨p3, s3⟩
     ·rw [hres] at hN h
      have HN := A_0 hN; clear hN
      (with_reducible refine HN.out.mono ?_)
      intro e wn hp; obtain ⟨rfl, hk⟩ := hp.err; have h' := xsi h; subst h'; exact z_77
     rw [hres] at hN h; have HN := A_0 hN; have HL := A_0 h; clear hN h hres
     (with_reducible refine HN.out.mono ?_)
     intro e wn hp; obtain ⟨z, rfl, hpz, hpo, hx, hk⟩ := hp.ok; clear hp HN; subst hpz; obtain ⟨a3, n3, q3, b3⟩ := s3; unfold PV.val; replace Bg : Aside0 (wn.heap[g]? = some (b79 A T.length c a3 n3 q3 b3)) := ⟨hx.bk⟩; replace Br := xk2 hk Br hrg; replace Bl := xk2 hk Bl hlg; replace Bt := xk2 hk Bt htg; replace By := xk2 hk By hyg; replace HK := xk3 HK hk; clear hk hx; replace gz := five_ Bg.out; replace rz := sixc Br.out; replace lz := sixc Bl.out; replace tz := four Bt.out; replace yz := sixc By.out
     have Ez : Aside0 (∃ op_ : Nat → Prop, PV.ok wn op_ z ∧ ∀ k, op_ k → w.heap.size ≤ k ∧ k ≠ rb ∧ k ≠ lb ∧ k ≠ tb ∧ k ≠ yb) := ⟨⟨_, hpo, fun k hk => by
      have := HSZ.out; rcases hk with (hk | hk) | hk
      ·exact HCC.out.1 k hk
      ·exact HCC.out.2 k hk
      ·have := hk.1; omega⟩⟩
     clear HSZ hpo HCC
     go_wp2_with fail
     generalize hq_ : World.setCell _ ⟨lb, 5, none⟩ _ = wo; have e0_ : Aside0 (∃ op_ : Nat → Prop, PV.ok wo op_ z ∧ ∀ k, op_ k → w.heap.size ≤ k ∧ k ≠ rb ∧ k ≠ lb ∧ k ≠ tb ∧ k ≠ yb) := ⟨by obtain ⟨op_, h1, h2⟩ := Ez.out; exact z_156⟩; clear Ez; have Ez := e0_; clear e0_; have hq := hq_; clear hq_; replace Bg : Aside0 (wo.heap[g]? = some (b79 A T.length c a3 n3 q3 b3)) := ⟨by rw [← hq]; refine bf6 ?_ hgl; exact Bg.out⟩; replace Br : Aside0 (wo.heap[rb]? = some (.cells #[.int .i64 0, .int .i64 0, .string (⟨#[]⟩ : ByteArray), .int .i64 0, .slice none 0 0, .int .i64 0] 137 (0, 0))) := ⟨by rw [← hq]; refine bf6 ?_ hrl; exact Br.out⟩; replace Bl : Aside0 (wo.heap[lb]? = some (.cells #[.int .i64 z.x.f0, .int .i64 z.x.f1, .string z.x.f2, .int .i64 z.x.f3, .slice z.A z.x.f4.length z.c, .int .i64 z.d] 137 (0, 0))) := ⟨by rw [← hq]; apply p6_5; apply p6_4; apply p6_3; apply p6_2; apply p6_1; apply p6_0; exact Bl.out⟩; replace Bt : Aside0 (wo.heap[tb]? = some (b58 t.f0 t.f1 t.f2 t.f3)) := ⟨by rw [← hq]; refine bf6 ?_ htl; exact Bt.out⟩; replace By : Aside0 (wo.heap[yb]? = some (.cells #[.int .i64 y.x.f0, .int .i64 y.x.f1, .string y.x.f2, .int .i64 y.x.f3, .slice y.A y.x.f4.length y.c, .int .i64 y.d] 137 (0, 0))) := ⟨by rw [← hq]; refine bf6 ?_ hyl; exact By.out⟩; replace HK : Aside0 (KeepBut w wo g none) := ⟨by rw [← hq]; refine kf6 ?_ Gl.out; exact HK.out⟩; clear hq; replace gz := five_ Bg.out; replace rz := sixc Br.out; replace lz := sixc Bl.out; replace tz := four Bt.out; replace yz := sixc By.out
     go_roundg k1
     case measure => have := HK1.out; omega
     case rel => exact ⟨z, a3, n3, q3, b3, HL, ⟨by have := HK1.out; omega⟩, Bg, Br, Bl, ⟨by obtain ⟨op_, h1, h2⟩ := Ez.out; exact z_135⟩, HK⟩
end Go.Proofs.Ytobkdmmnbnpemaa.K
