/- ShowExprs: the law's function walked by hand. -/
import Derived.Test.YtobkdmmnbnpemaaXEM2
import Derived.Test.YtobkdmmnbnpemaaXEPX3
import Derived.Test.YtobkdmmnbnpemaaXED4
import Derived.Test.YtobkdmmnbnpemaaXEE1
namespace Go.Proofs.Ytobkdmmnbnpemaa.K
open Go.RowKit Go.Proofs.YtobkdmmnbnpemaaW.PrintWords Go.Proofs.YtobkdmmnbnpemaaW.PrintLast Go.Proofs.YtobkdmmnbnpemaaW.PrintMore
attribute [local go_sem] max2_int min2_int max_two min_two max_three min_three max_four min_four
set_option linter.unusedVariables false
set_option linter.unusedSimpArgs false
def sEm (e : S38) : S41 := ⟨4, ⟨#[]⟩, 0, [e], [], []⟩
theorem cnt_em (e : S38) : cntB [sEm e] = 1 + cntE e := by simp only [sEm, cntB, cntS, cntL]; omega
theorem right_em (e : S38) : rightB [sEm e] = (fitE e && (decide (deepE e ≤ 48) && decide (cntE e ≤ 599))) := by
  rw [rightB_eq, cnt_em]
  have h : fitB 13 [sEm e] = (fitE e && decide (deepE e ≤ 48)) := by
    show [sEm e].all (fitSt (fitB 12)) = _
    rw [List.all_cons, List.all_nil, Bool.and_true]
    have hh : headB (sEm e) = true := by
      have e0 : (⟨#[]⟩ : ByteArray).toList = [] := by rw [lst_toList]; rfl
      unfold headB sEm
      simp [wantS, nameB, cellB, loopsB, lst, e0]
    have hl : loopsB (sEm e).f0 = false := rfl
    unfold fitSt
    rw [hh, hl]
    show (true && (fitL [e] && (decide (deepL [e] ≤ 48) && (!false || _)))) = _
    have hd : deepL [e] = deepE e := by simp only [deepL]; omega
    rw [hd]
    simp only [fitL, Bool.and_true, Bool.true_and, Bool.not_false, Bool.true_or]
  rw [h, Bool.and_assoc]
  congr 2
  exact decide_eq_decide.2 (by omega)
structure XF (w W : World) (e : S38) (A : Option Addr) (c eb gA gL : Nat) : Prop where
  be : W.heap[eb]? = some (.cells #[.int .i64 e.f0, .int .i64 e.f1, .string e.f2, .int .i64 e.f3, .slice A e.f4.length c] 38 (0, 0))
  ba : W.heap[gA]? = some (.cells #[.int .i64 e.f0, .int .i64 e.f1, .string e.f2, .int .i64 e.f3, .slice A e.f4.length c] 38 (0, 0))
  bl : W.heap[gL]? = some (.cells #[.int .i64 4, .string ⟨#[]⟩, .int .i64 0, .slice (some ⟨gA, 0, none⟩) 1 1, .slice none 0 0, .slice none 0 0] 41 (0, 0))
  hb : Below w.heap.size w W
  hc : k38.C W A e.f4.length e.f4
  hl : e.f4.length ≤ c
theorem XF.below {w W W1 : World} {e : S38} {A : Option Addr} {c eb gA gL : Nat} (h : XF w W e A c eb gA gL) (b : Below W.heap.size W W1) : XF w W1 e A c eb gA gL :=
  ⟨blk_below h.be b, blk_below h.ba b, blk_below h.bl b, below_step h.hb b, Kd.C_below h.hc b, h.hl⟩
theorem XF.c41 {w W : World} {e : S38} {A : Option Addr} {c eb gA gL : Nat} (h : XF w W e A c eb gA gL) : k41.C W (some ⟨gL, 0, none⟩) 1 [sEm e] :=
  C_blk (cs := [.int .i64 4, .string ⟨#[]⟩, .int .i64 0, .slice (some ⟨gA, 0, none⟩) 1 1, .slice none 0 0, .slice none 0 0]) h.bl (Reps.c6 (k41_mk W (sEm e) (A3 := some ⟨gA, 0, none⟩) (c3 := 1) (A4 := none) (c4 := 0) (A5 := none) (c5 := 0) (Nat.le_refl _)
    (C_blk (cs := [.int .i64 e.f0, .int .i64 e.f1, .string e.f2, .int .i64 e.f3, .slice A e.f4.length c]) h.ba (Reps.c5 (k38_mk W e (A4 := A) (c4 := c) h.hl h.hc) (Reps.none _ _)) (by show 1 ≤ _; omega))
    (Nat.le_refl _) (Kd.C_nil _ _) (Nat.le_refl _) (Kd.C_nil _ _)) (Reps.none _ _)) (by show 1 ≤ _; omega)
theorem five {w : World} {g : Nat} {t : TypeId} {a0 a1 a2 a3 a4 : Value} (h : w.heap[g]? = some (.cells #[a0, a1, a2, a3, a4] t (0, 0))) :
    w.cell? ⟨g, 0, none⟩ = some a0 ∧ w.cell? ⟨g, 1, none⟩ = some a1 ∧ w.cell? ⟨g, 2, none⟩ = some a2 ∧ w.cell? ⟨g, 3, none⟩ = some a3 ∧ w.cell? ⟨g, 4, none⟩ = some a4 :=
  ⟨blk_cell h 0, blk_cell h 1, blk_cell h 2, blk_cell h 3, blk_cell h 4⟩
theorem great_X {w W : World} {e : S38} {A : Option Addr} {c eb gA gL : Nat} (h : XF w W e A c eb gA gL) (hn : cntE e ≤ 300000) (b : Bool) (hb : decide (5000 < 1 + cntE e) = b) :
    Calls Try.prog 15 #[.slice (some ⟨gL, 0, none⟩) 1 1] W fun r w' => r = .returned (.bool b) ∧ Below W.heap.size W w' :=
  great_L [sEm e] (some ⟨gL, 0, none⟩) 1 W h.c41 (Nat.le_refl _) (by rw [cnt_em]; omega) b (by rw [cnt_em]; exact hb)
theorem rright_X {w W : World} {e : S38} {A : Option Addr} {c eb gA gL : Nat} (h : XF w W e A c eb gA gL) (hn : cntE e ≤ 300000) (b : Bool) (hb : rightB [sEm e] = b) :
    Calls Try.prog 22 #[.slice (some ⟨gL, 0, none⟩) 1 1] W fun r w' => r = .returned (.bool b) ∧ Below W.heap.size W w' :=
  rright_L [sEm e] (some ⟨gL, 0, none⟩) 1 W h.c41 (Nat.le_refl _) (by rw [cnt_em]; omega) b hb
theorem bad_X {w W : World} {e : S38} {A : Option Addr} {c eb gA gL : Nat} (h : XF w W e A c eb gA gL) (hb : rightB [sEm e] = false) :
    Calls Try.prog 16 #[.slice (some ⟨gL, 0, none⟩) 1 1] W (TPost ⟨#[]⟩ 43 W) :=
  text_bad [sEm e] 1 (some ⟨gL, 0, none⟩) 1 W rfl h.c41 (Nat.le_refl _) hb
def lineE (t : ByteArray) : List UInt8 := [101, 109, 105, 116, 32] ++ (lst t ++ [59, 10])
theorem line_em (t : ByteArray) : lineB 0 [⟨#[101, 109, 105, 116, 32]⟩, t, ⟨#[59]⟩] = lineE t := by
  unfold lineB lineE
  show [] ++ ((([⟨#[101, 109, 105, 116, 32]⟩, t, ⟨#[59]⟩] : List ByteArray).map lst).flatten ++ [10]) = _
  simp only [List.map_cons, List.map_nil, List.flatten_cons, List.flatten_nil, List.append_nil, List.nil_append, List.append_assoc]
  rfl
theorem lineE_len (t : ByteArray) : (lineE t).length = t.size + 7 := by
  unfold lineE
  rw [← lst_len]
  simp only [List.length_append, List.length_cons, List.length_nil]
  omega
theorem lineE_bs (t : ByteArray) : bs (lineE t) = ((⟨#[101, 109, 105, 116, 32]⟩ : ByteArray) ++ t) ++ (⟨#[59, 10]⟩ : ByteArray) := by
  have e : t = bs (lst t) := by apply ByteArray.ext; simp [bs, lst]
  have e2 : ((⟨#[101, 109, 105, 116, 32]⟩ : ByteArray) ++ bs (lst t)) ++ (⟨#[59, 10]⟩ : ByteArray) = (bs [101, 109, 105, 116, 32] ++ bs (lst t)) ++ bs [59, 10] := rfl
  rw [show ((⟨#[101, 109, 105, 116, 32]⟩ : ByteArray) ++ t) ++ (⟨#[59, 10]⟩ : ByteArray) = ((⟨#[101, 109, 105, 116, 32]⟩ : ByteArray) ++ bs (lst t)) ++ (⟨#[59, 10]⟩ : ByteArray) from by rw [← e], e2, bs_app, bs_app]
  unfold lineE
  rw [List.append_assoc]
theorem text_X {w W : World} {e : S38} {A : Option Addr} {c eb gA gL : Nat} (h : XF w W e A c eb gA gL) (hb : rightB [sEm e] = true) (s : ByteArray) (er : Int)
    (hres : (8185 < (txt e).size ∧ s = ⟨#[]⟩ ∧ er = 30) ∨ (¬ 8185 < (txt e).size ∧ s = ((⟨#[101, 109, 105, 116, 32]⟩ : ByteArray) ++ txt e) ++ (⟨#[59, 10]⟩ : ByteArray) ∧ er = 0)) :
    Calls Try.prog 16 #[.slice (some ⟨gL, 0, none⟩) 1 1] W (TPost s er W) := by
  have hb' := hb
  rw [right_em] at hb'
  simp only [Bool.and_eq_true, decide_eq_true_eq] at hb'
  obtain ⟨h1, h2, h3⟩ := hb'
  obtain ⟨K, hK⟩ := ex_txt e (by omega) h1
  have hsz := txt_size e h1
  have hx := hK K (Nat.le_refl _)
  have hsb : sB (fE K) 0 [sEm e] = some (lineE (txt e)) := by
    show ((fE K 0 (sEm e)).bind fun a => (some ([] : List UInt8)).bind fun b => some (a ++ b)) = _
    have e1 : fE K 0 (sEm e) = some (lineE (txt e)) := by
      unfold fE sEm
      rw [if_pos ⟨rfl, by simp⟩]
      show ((argsT K [e]).bind fun xs => head1 xs _) = _
      have e2 : argsT K [e] = some [txt e] := by
        show ((exT K e).bind fun x => (some ([] : List ByteArray)).bind fun xs => some (x :: xs)) = _
        rw [hx]
        rfl
      rw [e2, Option.bind_some]
      show some (lineB 0 _) = _
      rw [line_em]
    rw [e1]
    show some (lineE (txt e) ++ []) = _
    rw [List.append_nil]
  have hlen := lineE_len (txt e)
  refine text_calls 1 (by omega) (fE K) (stc_emit K) [sEm e] 1 _ 1 (lineE (txt e)) W hsb rfl h.c41 (by omega) (by omega) (by omega) hb s er ?_
  rcases hres with ⟨q, e1, e2⟩ | ⟨q, e1, e2⟩
  · exact .inl ⟨by omega, e1, e2⟩
  · exact .inr ⟨by omega, by rw [e1, lineE_bs], e2⟩
theorem expr_X {w W : World} {e : S38} {A : Option Addr} {c eb gA gL : Nat} (h : XF w W e A c eb gA gL) (hf : fitE e = true) (hn : cntE e ≤ 599) :
    Calls Try.prog 23 #[.agg #[.int .i64 e.f0, .int .i64 e.f1, .string e.f2, .int .i64 e.f3, .slice A e.f4.length c]] W fun r w' => r = .returned (.string (txt e)) ∧ Below W.heap.size W w' := by
  obtain ⟨K, hK⟩ := ex_txt e (by omega) hf
  exact show_Expr.calls K e.f0 e.f1 e.f2 e.f3 A c e.f4 _ W h.hc h.hl (hK K (Nat.le_refl _))
theorem rexpr_X {w W : World} {e : S38} {A : Option Addr} {c eb gA gL : Nat} (h : XF w W e A c eb gA gL) (hf : fitE e = true) (hn : cntE e ≤ 599) (hd : deepE e ≤ 48) :
    Calls Try.prog 24 #[.agg #[.int .i64 e.f0, .int .i64 e.f1, .string e.f2, .int .i64 e.f3, .slice A e.f4.length c]] W fun r w' => r = .returned (.string (txt e)) ∧ Below W.heap.size W w' :=
  (ref_ok 100 48).use e.f0 e.f1 e.f2 e.f3 e.f4 e.f4.length A c (txt e) W (by rw [eta38]; exact ref_txt 48 e hd (by omega) hf) rfl h.hc h.hl
theorem alive_X (W : World) : Calls Try.prog 18 #[] W fun r w' => r = .returned (.bool true) ∧ Below W.heap.size W w' := alive_calls W
set_option maxHeartbeats 8000000 in
set_option maxRecDepth 100000 in
theorem exprs_walk (e : S38) (A : Option Addr) (c : Nat) (w : World) (hC : Kd.C k38 w A e.f4.length e.f4) (hc : e.f4.length ≤ c) (hn : cntE e ≤ 300000) :
    Calls Try.prog 5 #[.agg #[.int .i64 e.f0, .int .i64 e.f1, .string e.f2, .int .i64 e.f3, .slice A e.f4.length c]] w fun r w' => r = .returned (.bool true) ∧ Below w.heap.size w w' := by
  have hu38 := Try.underlying38
  have hu41 := Try.underlying41
  have HB := Aside0.mk (Below.refl w.heap.size w)
  have HC := Aside0.mk hC
  have HL := Aside0.mk hc
  have HN := Aside0.mk hn
  clear hC hc hn
  go_enter Try.func5, Try.ntmps5
  go_upto_region 1 with fail
  go_cut [3] (fun v3 wx => ∃ gA gL, v3 = .slice (some ⟨gL, 0, none⟩) 1 1 ∧ Aside0 (XF w wx e A c w.heap.size gA gL))
  case first =>
    go_wp2_with fail
    go_meet
    exact ⟨w.heap.size + 1, w.heap.size + 1 + 1, rfl, ⟨blk_alloc (blk_alloc (blk_new w _) _) _, blk_alloc (blk_new' (by simp)) _, blk_new' (by simp), below_alloc (below_alloc (below_alloc HB.out _) _) _, Kd.C_alloc (Kd.C_alloc (Kd.C_alloc HC.out _) _) _, HL.out⟩⟩
  case rest =>
    obtain ⟨gA, gL, rfl, HX⟩ := hcut
    clear HB HC HL
    obtain ⟨hz0, hz1, hz2, hz3, hz4⟩ := five HX.out.be
    by_cases q0 : 5000 < 1 + cntE e
    · go_wp2_with (first | (go_at_call 15; (with_reducible refine (great_X HX.out HN.out true (decide_eq_true q0)).mono ?_); rintro r wn ⟨rfl, hb⟩; have n0_ := Aside0.mk (HX.out.below hb); clear HX hb; have HX := n0_; clear n0_; obtain ⟨hz0, hz1, hz2, hz3, hz4⟩ := five HX.out.be))
      go_ret
      exact ⟨rfl, HX.out.hb⟩
    by_cases q1 : rightB [sEm e] = true
    · have hr := q1
      rw [right_em] at hr
      simp only [Bool.and_eq_true, decide_eq_true_eq] at hr
      obtain ⟨r1, r2, r3⟩ := hr
      have hts := txt_size e r1
      have HR := Aside0.mk (show fitE e = true ∧ deepE e ≤ 48 ∧ cntE e ≤ 599 ∧ rightB [sEm e] = true ∧ (¬ 5000 < 1 + cntE e) from ⟨r1, r2, r3, q1, q0⟩)
      have hs1 : (9223372036854775807 < 5 + (txt e).size) = False := eq_false (by omega)
      have hs2 : (9223372036854775807 < 5 + (txt e).size + 2) = False := eq_false (by omega)
      have hse : ((txt e).toList == (txt e).toList) = true := beq_self_eq_true _
      by_cases q2 : 8185 < (txt e).size
      · have hq : decide ((8185 : Int) < ((txt e).size : Int)) = true := decide_eq_true (by omega)
        have HT := Aside0.mk q2
        clear q0 q1 q2 r1 r2 r3 hts
        go_wp2_with (first | (go_at_call 15; (with_reducible refine (great_X HX.out HN.out false (decide_eq_false HR.out.2.2.2.2)).mono ?_); rintro r wn ⟨rfl, hb⟩; have n0_ := Aside0.mk (HX.out.below hb); clear HX hb; have HX := n0_; clear n0_; obtain ⟨hz0, hz1, hz2, hz3, hz4⟩ := five HX.out.be) | (go_at_call 16; (with_reducible refine (text_X HX.out HR.out.2.2.2.1 ⟨#[]⟩ 30 (.inl ⟨HT.out, rfl, rfl⟩)).mono ?_); rintro r wn ⟨rfl, hb⟩; have n0_ := Aside0.mk (HX.out.below hb); clear HX hb; have HX := n0_; clear n0_; obtain ⟨hz0, hz1, hz2, hz3, hz4⟩ := five HX.out.be) | (go_at_call 22; (with_reducible refine (rright_X HX.out HN.out true HR.out.2.2.2.1).mono ?_); rintro r wn ⟨rfl, hb⟩; have n0_ := Aside0.mk (HX.out.below hb); clear HX hb; have HX := n0_; clear n0_; obtain ⟨hz0, hz1, hz2, hz3, hz4⟩ := five HX.out.be) | (go_at_call 23; (with_reducible refine (expr_X HX.out HR.out.1 HR.out.2.2.1).mono ?_); rintro r wn ⟨rfl, hb⟩; have n0_ := Aside0.mk (HX.out.below hb); clear HX hb; have HX := n0_; clear n0_; obtain ⟨hz0, hz1, hz2, hz3, hz4⟩ := five HX.out.be) | (go_at_call 24; (with_reducible refine (rexpr_X HX.out HR.out.1 HR.out.2.2.1 HR.out.2.1).mono ?_); rintro r wn ⟨rfl, hb⟩; have n0_ := Aside0.mk (HX.out.below hb); clear HX hb; have HX := n0_; clear n0_; obtain ⟨hz0, hz1, hz2, hz3, hz4⟩ := five HX.out.be) | (go_at_call 18; (with_reducible refine (alive_X _).mono ?_); rintro r wn ⟨rfl, hb⟩; have n0_ := Aside0.mk (HX.out.below hb); clear HX hb; have HX := n0_; clear n0_; obtain ⟨hz0, hz1, hz2, hz3, hz4⟩ := five HX.out.be))
        go_ret
        exact ⟨rfl, HX.out.hb⟩
      · have hq : decide ((8185 : Int) < ((txt e).size : Int)) = false := decide_eq_false (by omega)
        have hsf : ((((⟨#[101, 109, 105, 116, 32]⟩ : ByteArray) ++ txt e) ++ (⟨#[59, 10]⟩ : ByteArray)).toList == (((⟨#[101, 109, 105, 116, 32]⟩ : ByteArray) ++ txt e) ++ (⟨#[59, 10]⟩ : ByteArray)).toList) = true := beq_self_eq_true _
        have HT := Aside0.mk q2
        clear q0 q1 q2 r1 r2 r3 hts
        go_wp2_with (first | (go_at_call 15; (with_reducible refine (great_X HX.out HN.out false (decide_eq_false HR.out.2.2.2.2)).mono ?_); rintro r wn ⟨rfl, hb⟩; have n0_ := Aside0.mk (HX.out.below hb); clear HX hb; have HX := n0_; clear n0_; obtain ⟨hz0, hz1, hz2, hz3, hz4⟩ := five HX.out.be) | (go_at_call 16; (with_reducible refine (text_X HX.out HR.out.2.2.2.1 (((⟨#[101, 109, 105, 116, 32]⟩ : ByteArray) ++ txt e) ++ (⟨#[59, 10]⟩ : ByteArray)) 0 (.inr ⟨HT.out, rfl, rfl⟩)).mono ?_); rintro r wn ⟨rfl, hb⟩; have n0_ := Aside0.mk (HX.out.below hb); clear HX hb; have HX := n0_; clear n0_; obtain ⟨hz0, hz1, hz2, hz3, hz4⟩ := five HX.out.be) | (go_at_call 22; (with_reducible refine (rright_X HX.out HN.out true HR.out.2.2.2.1).mono ?_); rintro r wn ⟨rfl, hb⟩; have n0_ := Aside0.mk (HX.out.below hb); clear HX hb; have HX := n0_; clear n0_; obtain ⟨hz0, hz1, hz2, hz3, hz4⟩ := five HX.out.be) | (go_at_call 23; (with_reducible refine (expr_X HX.out HR.out.1 HR.out.2.2.1).mono ?_); rintro r wn ⟨rfl, hb⟩; have n0_ := Aside0.mk (HX.out.below hb); clear HX hb; have HX := n0_; clear n0_; obtain ⟨hz0, hz1, hz2, hz3, hz4⟩ := five HX.out.be) | (go_at_call 24; (with_reducible refine (rexpr_X HX.out HR.out.1 HR.out.2.2.1 HR.out.2.1).mono ?_); rintro r wn ⟨rfl, hb⟩; have n0_ := Aside0.mk (HX.out.below hb); clear HX hb; have HX := n0_; clear n0_; obtain ⟨hz0, hz1, hz2, hz3, hz4⟩ := five HX.out.be) | (go_at_call 18; (with_reducible refine (alive_X _).mono ?_); rintro r wn ⟨rfl, hb⟩; have n0_ := Aside0.mk (HX.out.below hb); clear HX hb; have HX := n0_; clear n0_; obtain ⟨hz0, hz1, hz2, hz3, hz4⟩ := five HX.out.be))
        go_ret
        exact ⟨rfl, HX.out.hb⟩
    · have HR := Aside0.mk (show rightB [sEm e] = false ∧ ¬ 5000 < 1 + cntE e from ⟨Bool.eq_false_iff.2 q1, q0⟩)
      clear q0 q1
      go_wp2_with (first | (go_at_call 15; (with_reducible refine (great_X HX.out HN.out false (decide_eq_false HR.out.2)).mono ?_); rintro r wn ⟨rfl, hb⟩; have n0_ := Aside0.mk (HX.out.below hb); clear HX hb; have HX := n0_; clear n0_; obtain ⟨hz0, hz1, hz2, hz3, hz4⟩ := five HX.out.be) | (go_at_call 16; (with_reducible refine (bad_X HX.out HR.out.1).mono ?_); rintro r wn ⟨rfl, hb⟩; have n0_ := Aside0.mk (HX.out.below hb); clear HX hb; have HX := n0_; clear n0_; obtain ⟨hz0, hz1, hz2, hz3, hz4⟩ := five HX.out.be) | (go_at_call 22; (with_reducible refine (rright_X HX.out HN.out false HR.out.1).mono ?_); rintro r wn ⟨rfl, hb⟩; have n0_ := Aside0.mk (HX.out.below hb); clear HX hb; have HX := n0_; clear n0_; obtain ⟨hz0, hz1, hz2, hz3, hz4⟩ := five HX.out.be) | (go_at_call 18; (with_reducible refine (alive_X _).mono ?_); rintro r wn ⟨rfl, hb⟩; have n0_ := Aside0.mk (HX.out.below hb); clear HX hb; have HX := n0_; clear n0_; obtain ⟨hz0, hz1, hz2, hz3, hz4⟩ := five HX.out.be))
      go_ret
      exact ⟨rfl, HX.out.hb⟩
end Go.Proofs.Ytobkdmmnbnpemaa.K
