/- Texts of the claim, one behind the other. -/
import Derived.Test.YtobkdmmnbnpemaaXIB15
import Derived.Test.YtobkdmmnbnpemaaXIB06
import Derived.Test.YtobkdmmnbnpemaaXIB13
set_option maxHeartbeats 16000000
set_option maxRecDepth 100000
namespace Go.Proofs.Ytobkdmmnbnpemaa.K
open Go.RowKit Go.Proofs.YtobkdmmnbnpemaaW.PrintWords
set_option linter.unusedVariables false
set_option linter.unusedSimpArgs false
theorem lx_between (f : Int) (h0 : 1 ≤ f) (h1 : f ≤ 16) : LX (32 :: (lst (sgR f).1 ++ [32])) [sgT (lst (sgR f).1)] AnyR ∧ (tree_Rank.f (sgR f).1 = some ((sgR f).2, f)) := by
 have hb : ∀ x : List UInt8, ∀ c l, x = c :: l → (!Lx.blankB c && (Lx.c8 c != 35 && (!Lx.digB c && !Lx.letB c))) = true → (∀ r, Lx.findSign Lx.signsL (x ++ 32 :: r) = some x) → LX (32 :: (x ++ [32])) [sgT x] AnyR := by
  intro x c l hx h hf r _
  have e1 : toks ((32 :: (x ++ [32])) ++ r) = toks (x ++ 32 :: r) := by
   rw [List.cons_append, List.append_assoc]; exact toks_skip rfl
  rw [e1, lx_sign (P := fun r => ∃ m, r = 32 :: m) c l hx h (fun r ⟨m, hm⟩ => by rw [hm]; exact hf m) (32 :: r) ⟨r, rfl⟩]
  congr 1
  exact toks_skip rfl
 have hc : f = 1 ∨ f = 2 ∨ f = 3 ∨ f = 4 ∨ f = 5 ∨ f = 6 ∨ f = 7 ∨ f = 8 ∨ f = 9 ∨ f = 10 ∨ f = 11 ∨ f = 12 ∨ f = 13 ∨ f = 14 ∨ f = 15 ∨ f = 16 := by omega
 rcases hc with e | e | e | e | e | e | e | e | e | e | e | e | e | e | e | e <;> subst e <;>
  exact ⟨hb _ _ _ rfl (by decide) (fun r => rfl), by kernel_rfl⟩
theorem lst_ap2 (a b : ByteArray) : lst (a ++ b) = lst a ++ lst b := by unfold lst; simp
def brK (rk least : Int) (t : List Lx.Tok) : List Lx.Tok := if rk < least then ([sgT [40]] ++ t) ++ [sgT [41]] else t
def oneK (f : Int) : List UInt8 := if f = 19 then [45] else if f = 20 then [126] else [33]
def tkA (a b : Int) (c : ByteArray) (f : Int) (l : List S38) (ts : List (List Lx.Tok)) : List Lx.Tok :=
 if a = 1 then [⟨1, textB b, b⟩] else if a = 2 then [⟨2, lst c, 0⟩]
 else match l, ts with
 | [x], [t] => if a = 3 then ([wdT [109], sgT [91]] ++ t) ++ [sgT [93]] else [sgT (oneK f)] ++ brK (rkE x) 9 t
 | [x, y], [t, u] => if f = 17 then ((([wdT [109, 105, 110], sgT [40]] ++ t) ++ [sgT [44]]) ++ u) ++ [sgT [41]] else if f = 18 then ((([wdT [109, 97, 120], sgT [40]] ++ t) ++ [sgT [44]]) ++ u) ++ [sgT [41]]
  else (brK (rkE x) (sgR f).2 t ++ [sgT (lst (sgR f).1)]) ++ brK (rkE y) ((sgR f).2 + 1) u
 | _, _ => []
mutual
def tkE : S38 → List Lx.Tok
 | ⟨a, b, c, f, l⟩ => tkA a b c f l (tkL l)
def tkL : List S38 → List (List Lx.Tok)
 | [] => []
 | x :: xs => tkE x :: tkL xs
end
mutual
def rgE : S38 → Bool
 | ⟨a, b, c, f, l⟩ => decide (b ≤ bigI) && rgL l
def rgL : List S38 → Bool
 | [] => true
 | x :: xs => rgE x && rgL xs
end
theorem rg_open {a b : Int} {c : ByteArray} {f : Int} {l : List S38} (h : rgE ⟨a, b, c, f, l⟩ = true) : b ≤ bigI ∧ rgL l = true := by
 simp only [rgE, Bool.and_eq_true, decide_eq_true_eq] at h; exact h
theorem rgL_cons {x : S38} {l : List S38} (h : rgL (x :: l) = true) : rgE x = true ∧ rgL l = true := by
 simpa only [rgL, Bool.and_eq_true] using h
def Starts (x : List UInt8) : Prop := ∃ c m, x = c :: m ∧ c ≠ 61
theorem Starts.ne {x : List UInt8} (h : Starts x) (r : List UInt8) : NeR (x ++ r) := by
 obtain ⟨c, m, rfl, h⟩ := h; exact .inr ⟨c, m ++ r, rfl, h⟩
theorem Starts.app {x : List UInt8} (h : Starts x) (r : List UInt8) : Starts (x ++ r) := by
 obtain ⟨c, m, rfl, h⟩ := h; exact ⟨c, m ++ r, rfl, h⟩
theorem sep1 (c : UInt8) (h : sepC c = true) : ∀ r : List UInt8, AnyR r → SepR ([c] ++ r) := fun r _ => SepR.mk c r h
theorem lx_mid (x : List UInt8) (c : UInt8) (l : List UInt8) (hx : x = c :: l) (h : (!Lx.blankB c && (Lx.c8 c != 35 && (!Lx.digB c && !Lx.letB c))) = true) (hf : ∀ r, Lx.findSign Lx.signsL (x ++ 32 :: r) = some x) : LX (32 :: (x ++ [32])) [sgT x] AnyR := by
 intro r _
 have e1 : toks ((32 :: (x ++ [32])) ++ r) = toks (x ++ 32 :: r) := by
  rw [List.cons_append, List.append_assoc]; exact toks_skip rfl
 rw [e1, lx_sign (P := fun r => ∃ m, r = 32 :: m) c l hx h (fun r ⟨m, hm⟩ => by rw [hm]; exact hf m) (32 :: r) ⟨r, rfl⟩]
 congr 1
 exact toks_skip rfl
theorem br_LX {t : ByteArray} {ts : List Lx.Tok} (rk L : Int) (h : LX (lst t) ts SepR) (hs : Starts (lst t)) : LX (lst (brT rk L t)) (brK rk L ts) SepR ∧ Starts (lst (brT rk L t)) := by
 unfold brT brK; by_cases c : rk < L
 ·rw [if_pos c, if_pos c, lst_ap2, lst_ap2]
  exact ⟨((lx_lp.app h (fun _ _ => trivial)).app lx_rp (sep1 41 rfl)).imp (fun _ _ => trivial), 40, _, rfl, by decide⟩
 ·rw [if_neg c, if_neg c]
  exact ⟨h, hs⟩
theorem one_LX (f : Int) : LX (lst (oneT f)) [sgT (oneK f)] NeR ∧ Starts (lst (oneT f)) := by
 unfold oneT oneK
 split
 ·exact ⟨lx_mi.imp (fun _ _ => trivial), 45, _, rfl, by decide⟩
 split
 ·exact ⟨lx_ti.imp (fun _ _ => trivial), 126, _, rfl, by decide⟩
 ·exact ⟨lx_no, 33, _, rfl, by decide⟩
theorem lx_m : LX (lst ⟨#[109, 91]⟩) [wdT [109], sgT [91]] AnyR := (lx_word 109 [] (by decide)).app lx_lb (sep1 91 rfl)
theorem lx_min : LX (lst ⟨#[109, 105, 110, 40]⟩) [wdT [109, 105, 110], sgT [40]] AnyR := (lx_word 109 [105, 110] (by decide)).app lx_lp (sep1 40 rfl)
theorem lx_max : LX (lst ⟨#[109, 97, 120, 40]⟩) [wdT [109, 97, 120], sgT [40]] AnyR := (lx_word 109 [97, 120] (by decide)).app lx_lp (sep1 40 rfl)
theorem lx_cmb : LX (lst ⟨#[44, 32]⟩) [sgT [44]] AnyR := lx_cm.app (lx_blank 1) (fun _ _ => trivial)
theorem let_ne {c : UInt8} (h : Lx.letB c = true) : c ≠ 61 := fun e => by subst e; revert h; decide
theorem dig_ne {c : UInt8} (h : Lx.digB c = true) : c ≠ 61 := fun e => by subst e; revert h; decide
theorem txt_LX : ∀ (n : Nat) (e : S38), cntE e ≤ n → fitE e = true → rgE e = true → LX (lst (txt e)) (tkE e) SepR ∧ Starts (lst (txt e))
 | 0, ⟨a, b, c, f, l⟩, hn, h, hg => by simp only [cntE] at hn; omega
 | n + 1, ⟨a, b, c, f, l⟩, hn, h, hg => by
  simp only [cntE] at hn; obtain ⟨g0, g1⟩ := rg_open hg; rcases fit_cases a b c f l h with ⟨rfl, rfl, hb⟩ | ⟨rfl, rfl, hnm⟩ | ⟨rfl, x, rfl, hx⟩ | ⟨rfl, x, rfl, hx, h0, h1⟩ | ⟨rfl, x, y, rfl, hx, hy, h0, h1⟩
  ·show LX (lst (bs (textB b))) [⟨1, textB b, b⟩] SepR ∧ Starts (lst (bs (textB b)))
   rw [lst_bs]; obtain ⟨_, hd, d, m, e⟩ := text_parse b hb g0; exact ⟨lx_num b hb g0, d, m, e, dig_ne (hd d (by rw [e]; exact List.mem_cons_self ..))⟩
  ·show LX (lst c) [⟨2, lst c, 0⟩] SepR ∧ Starts (lst c)
   obtain ⟨h1, d, m, e, h2⟩ := lx_name hnm; exact ⟨h1, d, m, e, let_ne h2⟩
  ·simp only [cntL] at hn
   obtain ⟨ih, is⟩ := txt_LX n x (by omega) hx (rgL_cons g1).1; show LX (lst ((⟨#[109, 91]⟩ ++ txt x) ++ ⟨#[93]⟩)) (([wdT [109], sgT [91]] ++ tkE x) ++ [sgT [93]]) SepR ∧ Starts (lst ((⟨#[109, 91]⟩ ++ txt x) ++ ⟨#[93]⟩)); rw [lst_ap2, lst_ap2]; exact ⟨((lx_m.app ih (fun _ _ => trivial)).app lx_rb (sep1 93 rfl)).imp (fun _ _ => trivial), 109, _, rfl, by decide⟩
  ·simp only [cntL] at hn
   obtain ⟨ih, is⟩ := txt_LX n x (by omega) hx (rgL_cons g1).1; obtain ⟨jh, js⟩ := br_LX (rkE x) 9 ih is; show LX (lst (oneT f ++ brT (rkE x) 9 (txt x))) ([sgT (oneK f)] ++ brK (rkE x) 9 (tkE x)) SepR ∧ Starts (lst (oneT f ++ brT (rkE x) 9 (txt x))); rw [lst_ap2]; exact ⟨(one_LX f).1.app jh (fun r _ => js.ne r), (one_LX f).2.app _⟩
  ·simp only [cntL] at hn
   obtain ⟨ih, is⟩ := txt_LX n x (by omega) hx (rgL_cons g1).1; obtain ⟨ih2, is2⟩ := txt_LX n y (by omega) hy (rgL_cons (rgL_cons g1).2).1
   have e1 : txt ⟨5, b, c, f, [x, y]⟩ = if f = 17 then (((⟨#[109, 105, 110, 40]⟩ ++ txt x) ++ ⟨#[44, 32]⟩) ++ txt y) ++ ⟨#[41]⟩ else if f = 18 then (((⟨#[109, 97, 120, 40]⟩ ++ txt x) ++ ⟨#[44, 32]⟩) ++ txt y) ++ ⟨#[41]⟩
    else (((brT (rkE x) (sgR f).2 (txt x) ++ ⟨#[32]⟩) ++ (sgR f).1) ++ ⟨#[32]⟩) ++ brT (rkE y) ((sgR f).2 + 1) (txt y) := rfl
   have e2 : tkE ⟨5, b, c, f, [x, y]⟩ = if f = 17 then ((([wdT [109, 105, 110], sgT [40]] ++ tkE x) ++ [sgT [44]]) ++ tkE y) ++ [sgT [41]] else if f = 18 then ((([wdT [109, 97, 120], sgT [40]] ++ tkE x) ++ [sgT [44]]) ++ tkE y) ++ [sgT [41]]
    else (brK (rkE x) (sgR f).2 (tkE x) ++ [sgT (lst (sgR f).1)]) ++ brK (rkE y) ((sgR f).2 + 1) (tkE y) := rfl
   rw [e1, e2]; by_cases q : f = 17
   ·rw [if_pos q, if_pos q]
    simp only [lst_ap2]; exact ⟨((((lx_min.app ih (fun _ _ => trivial)).app lx_cmb (fun r _ => SepR.mk 44 _ rfl)).app ih2 (fun _ _ => trivial)).app lx_rp (sep1 41 rfl)).imp (fun _ _ => trivial), 109, _, rfl, by decide⟩
   rw [if_neg q, if_neg q]; by_cases q2 : f = 18
   ·rw [if_pos q2, if_pos q2]
    simp only [lst_ap2]; exact ⟨((((lx_max.app ih (fun _ _ => trivial)).app lx_cmb (fun r _ => SepR.mk 44 _ rfl)).app ih2 (fun _ _ => trivial)).app lx_rp (sep1 41 rfl)).imp (fun _ _ => trivial), 109, _, rfl, by decide⟩
   rw [if_neg q2, if_neg q2]; obtain ⟨j1, s1⟩ := br_LX (rkE x) (sgR f).2 ih is; obtain ⟨j2, s2⟩ := br_LX (rkE y) ((sgR f).2 + 1) ih2 is2; have hbt := (lx_between f h0 (by omega)).1
   have e3 : lst ((((brT (rkE x) (sgR f).2 (txt x) ++ ⟨#[32]⟩) ++ (sgR f).1) ++ ⟨#[32]⟩) ++ brT (rkE y) ((sgR f).2 + 1) (txt y)) = (lst (brT (rkE x) (sgR f).2 (txt x)) ++ (32 :: (lst (sgR f).1 ++ [32]))) ++ lst (brT (rkE y) ((sgR f).2 + 1) (txt y)) := by
    simp only [lst_ap2, List.append_assoc, List.cons_append]
    rfl
   rw [e3]; exact ⟨(j1.app hbt (fun r _ => SepR.mk 32 _ rfl)).app j2 (fun _ _ => trivial), (s1.app _).app _⟩
theorem txt_lx (e : S38) (h : fitE e = true) (hg : rgE e = true) : LX (lst (txt e)) (tkE e) SepR := (txt_LX _ e (xlr _) h hg).1
def tk0 : List S38 → List Lx.Tok
 | [] => []
 | x :: _ => tkE x
def tk1 : List S38 → List Lx.Tok
 | _ :: y :: _ => tkE y
 | _ => []
def tkEls (l5 : List S41) (s E H : List Lx.Tok) : List Lx.Tok :=
 if l5.length = 0 then s
 else if l5.length = 1 ∧ (rd_T41 l5 0).f0 = 6 then (s ++ [wdT [101, 108, 115, 101]]) ++ H
 else ((s ++ [wdT [101, 108, 115, 101], sgT [123]]) ++ E) ++ [sgT [125]]
def tkOne (k : Int) (f1 : ByteArray) (f2 : Int) (l3 : List S38) (B : List Lx.Tok) (l5 : List S41) (E H : List Lx.Tok) : List Lx.Tok :=
 if k = 1 then ((([wdT [118, 97, 114]] ++ [⟨2, lst f1, 0⟩]) ++ [sgT [61]]) ++ tk0 l3) ++ [sgT [59]]
 else if k = 2 then (([⟨2, lst f1, 0⟩] ++ [sgT [61]]) ++ tk0 l3) ++ [sgT [59]]
 else if k = 3 then ((([wdT [109], sgT [91]] ++ tk0 l3) ++ [sgT [93], sgT [61]]) ++ tk1 l3) ++ [sgT [59]]
 else if k = 4 then ([wdT [101, 109, 105, 116]] ++ tk0 l3) ++ [sgT [59]]
 else if k = 8 then ([wdT [102, 97, 105, 108]] ++ tk0 l3) ++ [sgT [59]]
 else if k = 5 then (([wdT [105, 110, 116, 111]] ++ [⟨1, textB f2, f2⟩]) ++ tk0 l3) ++ [sgT [59]]
 else if k = 9 then [wdT [115, 116, 111, 112], sgT [59]]
 else if k = 7 then ((([wdT [119, 104, 105, 108, 101], sgT [40]] ++ tk0 l3) ++ [sgT [41], sgT [123]]) ++ B) ++ [sgT [125]]
 else tkEls l5 (((([wdT [105, 102], sgT [40]] ++ tk0 l3) ++ [sgT [41], sgT [123]]) ++ B) ++ [sgT [125]]) E H
mutual
def tkS : S41 → List Lx.Tok
 | ⟨k, f1, f2, l3, l4, l5⟩ => tkOne k f1 f2 l3 (tkB l4) l5 (tkB l5) (tkH l5)
def tkB : List S41 → List Lx.Tok
 | [] => []
 | x :: xs => tkS x ++ tkB xs
def tkH : List S41 → List Lx.Tok
 | [] => []
 | x :: _ => tkS x
end
mutual
def rgS : S41 → Bool
 | ⟨k, f1, f2, l3, l4, l5⟩ => rgL l3 && (rgB l4 && rgB l5)
def rgB : List S41 → Bool
 | [] => true
 | x :: xs => rgS x && rgB xs
end
abbrev LXA (x : List UInt8) (ts : List Lx.Tok) : Prop := LX x ts AnyR
theorem any_ {P : List UInt8 → Prop} {y : List UInt8} : ∀ r, P r → AnyR (y ++ r) := fun _ _ => trivial
theorem lx_var : LXA (lst ⟨#[118, 97, 114, 32]⟩) [wdT [118, 97, 114]] := (lx_word 118 [97, 114] (by decide)).app (lx_blank 1) (fun r _ => SepR.mk 32 r rfl)
theorem lx_emit : LXA (lst ⟨#[101, 109, 105, 116, 32]⟩) [wdT [101, 109, 105, 116]] := (lx_word 101 [109, 105, 116] (by decide)).app (lx_blank 1) (fun r _ => SepR.mk 32 r rfl)
theorem lx_fail : LXA (lst ⟨#[102, 97, 105, 108, 32]⟩) [wdT [102, 97, 105, 108]] := (lx_word 102 [97, 105, 108] (by decide)).app (lx_blank 1) (fun r _ => SepR.mk 32 r rfl)
theorem lx_into : LXA (lst ⟨#[105, 110, 116, 111, 32]⟩) [wdT [105, 110, 116, 111]] := (lx_word 105 [110, 116, 111] (by decide)).app (lx_blank 1) (fun r _ => SepR.mk 32 r rfl)
theorem lx_eq : LXA (lst ⟨#[32, 61, 32]⟩) [sgT [61]] := lx_mid [61] 61 [] rfl (by decide) (fun r => rfl)
theorem lx_end : LXA (lst ⟨#[59, 10]⟩) [sgT [59]] := lx_sc.app lx_nl any_
theorem lx_me : LXA (lst ⟨#[93, 32, 61, 32]⟩) [sgT [93], sgT [61]] := lx_rb.app lx_eq any_
theorem lx_stop : LXA (lst ⟨#[115, 116, 111, 112, 59, 10]⟩) [wdT [115, 116, 111, 112], sgT [59]] := (lx_word 115 [116, 111, 112] (by decide)).app lx_end (fun r _ => SepR.mk 59 _ rfl)
theorem lx_wh : LXA (lst ⟨#[119, 104, 105, 108, 101, 32, 40]⟩) [wdT [119, 104, 105, 108, 101], sgT [40]] := ((lx_word 119 [104, 105, 108, 101] (by decide)).app (lx_blank 1) (fun r (_ : AnyR r) => SepR.mk 32 r rfl)).app lx_lp any_
theorem lx_if : LXA (lst ⟨#[105, 102, 32, 40]⟩) [wdT [105, 102], sgT [40]] := ((lx_word 105 [102] (by decide)).app (lx_blank 1) (fun r (_ : AnyR r) => SepR.mk 32 r rfl)).app lx_lp any_
theorem lx_do : LXA (lst ⟨#[41, 32, 123, 10]⟩) [sgT [41], sgT [123]] := ((lx_rp.app (lx_blank 1) any_).app lx_lc any_).app lx_nl any_
theorem lx_sh : LXA (lst ⟨#[125, 10]⟩) [sgT [125]] := lx_rc.app lx_nl any_
theorem lx_el : LXA (lst ⟨#[32, 101, 108, 115, 101, 32]⟩) [wdT [101, 108, 115, 101]] := ((lx_blank 1).app (lx_word 101 [108, 115, 101] (by decide)) any_).app (lx_blank 1) (fun r _ => SepR.mk 32 r rfl)
theorem lx_elb : LXA (lst ⟨#[32, 101, 108, 115, 101, 32, 123, 10]⟩) [wdT [101, 108, 115, 101], sgT [123]] := (lx_el.app lx_lc any_).app lx_nl any_
theorem lx_sp : LXA (lst ⟨#[32]⟩) [] := lx_blank 1
theorem lx_bl (n : Nat) : LXA (lst (blB n)) [] := by
 unfold blB; rw [lst_bs]; exact lx_blank _
theorem lx_a0 {l : List S38} (h : l.all okA = true) (hg : rgL l = true) (hl : 1 ≤ l.length) : LX (lst (arg0 l)) (tk0 l) SepR := by
 cases l with
 | nil => simp at hl
 | cons x xs =>
  rw [List.all_cons, Bool.and_eq_true] at h; exact txt_lx x (okA_open h.1).1 (rgL_cons hg).1
theorem lx_a1 {l : List S38} (h : l.all okA = true) (hg : rgL l = true) (hl : 2 ≤ l.length) : LX (lst (arg1 l)) (tk1 l) SepR := by
 match l, hl with
 | x :: y :: xs, _ =>
  simp only [List.all_cons, Bool.and_eq_true] at h; exact txt_lx y (okA_open h.2.1).1 (rgL_cons (rgL_cons hg).2).1
theorem semi (r : List UInt8) (h : AnyR r) : SepR (lst ⟨#[59, 10]⟩ ++ r) := SepR.mk 59 _ rfl
theorem els_LX {l5 : List S41} {n : Nat} {s E H : ByteArray} {ts te th : List Lx.Tok} (hs : LXA (lst s) ts) (hE : LXA (lst E) te) (hH : LXA (lst H) th) : LXA (lst (elsT l5 n s E H)) (tkEls l5 ts te th) := by
 unfold elsT tkEls; by_cases c : l5.length = 0
 ·rw [if_pos c, if_pos c, lst_ap2]
  have := hs.app lx_nl any_; rw [List.append_nil] at this; exact this
 rw [if_neg c, if_neg c]; by_cases c2 : l5.length = 1 ∧ (rd_T41 l5 0).f0 = 6
 ·rw [if_pos c2, if_pos c2, lst_ap2, lst_ap2]
  exact (hs.app lx_el any_).app hH any_
 ·rw [if_neg c2, if_neg c2, lst_ap2, lst_ap2, lst_ap2, lst_ap2]
  have := (((hs.app lx_elb any_).app hE any_).app (lx_bl n) any_).app lx_sh any_; rw [List.append_nil] at this; exact this
theorem bytes_nil {s : ByteArray} (h : (s.toList == ([] : List UInt8)) = true) : s = ⟨#[]⟩ := by
 rw [beq_iff_eq, toList_eq] at h; rw [← bs_lst s]; show bs s.data.toList = _; rw [h]
 rfl
theorem head_cases (k : Int) (f1 : ByteArray) (f2 : Int) (l3 : List S38) (l4 l5 : List S41) (h : headB ⟨k, f1, f2, l3, l4, l5⟩ = true) :
  ((k = 1 ∨ k = 2) ∧ (∃ x, l3 = [x]) ∧ nameB (lst f1) = true ∧ f2 = 0 ∧ l4 = [] ∧ l5 = []) ∨
  (k = 3 ∧ (∃ x y, l3 = [x, y]) ∧ f1 = ⟨#[]⟩ ∧ f2 = 0 ∧ l4 = [] ∧ l5 = []) ∨
  ((k = 4 ∨ k = 8) ∧ (∃ x, l3 = [x]) ∧ f1 = ⟨#[]⟩ ∧ f2 = 0 ∧ l4 = [] ∧ l5 = []) ∨
  (k = 5 ∧ (∃ x, l3 = [x]) ∧ f1 = ⟨#[]⟩ ∧ (0 ≤ f2 ∧ f2 ≤ 255) ∧ l4 = [] ∧ l5 = []) ∨
  (k = 9 ∧ l3 = [] ∧ f1 = ⟨#[]⟩ ∧ f2 = 0 ∧ l4 = [] ∧ l5 = []) ∨
  (k = 7 ∧ (∃ x, l3 = [x]) ∧ f1 = ⟨#[]⟩ ∧ f2 = 0 ∧ l5 = []) ∨
  (k = 6 ∧ (∃ x, l3 = [x]) ∧ f1 = ⟨#[]⟩ ∧ f2 = 0) := by
 unfold headB at h; dsimp only at h; cases hw : wantS k with
 | none => rw [hw] at h; cases h
 | some p =>
  obtain ⟨W, nm⟩ := p; rw [hw] at h; simp only [Bool.and_eq_true, beq_iff_eq, Bool.or_eq_true, List.isEmpty_iff] at h; obtain ⟨⟨⟨⟨h1, h2, h3⟩, h4⟩, h5⟩, h6⟩ := h
  have hb : nm = false → f1 = ⟨#[]⟩ := fun e => by
   rcases h3 with z | z
   ·rw [e] at z; cases z
   ·exact bytes_nil (beq_iff_eq.2 z)
  have hc : k ≠ 5 → f2 = 0 := fun e => by
   unfold cellB at h4; rw [if_neg e, beq_iff_eq] at h4; exact h4
  have hl : loopsB k = false → l4 = [] := fun e => by
   rcases h5 with z | z
   ·rw [e] at z; cases z
   ·exact z
  have he : k ≠ 6 → l5 = [] := fun e => by
   rcases h6 with z | z
   ·exact absurd z e
   ·exact z
  unfold wantS at hw; by_cases c : k = 1
  ·subst c
   rw [if_pos rfl] at hw; injection hw with hw; injection hw with w1 w2; subst w1 w2; exact .inl ⟨.inl rfl, List.length_eq_one_iff.1 h1, h2.symm, hc (by decide), hl (by decide), he (by decide)⟩
  rw [if_neg c] at hw; by_cases c : k = 2
  ·subst c
   rw [if_pos rfl] at hw; injection hw with hw; injection hw with w1 w2; subst w1 w2; exact .inl ⟨.inr rfl, List.length_eq_one_iff.1 h1, h2.symm, hc (by decide), hl (by decide), he (by decide)⟩
  rw [if_neg c] at hw; by_cases c : k = 3
  ·subst c
   rw [if_pos rfl] at hw; injection hw with hw; injection hw with w1 w2; subst w1 w2; exact .inr (.inl ⟨rfl, two_of _ h1, hb rfl, hc (by decide), hl (by decide), he (by decide)⟩)
  rw [if_neg c] at hw; by_cases c : k = 4
  ·subst c
   rw [if_pos rfl] at hw; injection hw with hw; injection hw with w1 w2; subst w1 w2; exact .inr (.inr (.inl ⟨.inl rfl, List.length_eq_one_iff.1 h1, hb rfl, hc (by decide), hl (by decide), he (by decide)⟩))
  rw [if_neg c] at hw; by_cases c : k = 8
  ·subst c
   rw [if_pos rfl] at hw; injection hw with hw; injection hw with w1 w2; subst w1 w2; exact .inr (.inr (.inl ⟨.inr rfl, List.length_eq_one_iff.1 h1, hb rfl, hc (by decide), hl (by decide), he (by decide)⟩))
  rw [if_neg c] at hw; by_cases c : k = 5
  ·subst c
   rw [if_pos rfl] at hw; injection hw with hw; injection hw with w1 w2; subst w1 w2; refine .inr (.inr (.inr (.inl ⟨rfl, List.length_eq_one_iff.1 h1, hb rfl, ?_, hl (by decide), he (by decide)⟩))); unfold cellB at h4; rw [if_pos rfl] at h4
   simpa using h4
  rw [if_neg c] at hw; by_cases c : k = 6
  ·subst c
   rw [if_pos rfl] at hw; injection hw with hw; injection hw with w1 w2; subst w1 w2; exact .inr (.inr (.inr (.inr (.inr (.inr ⟨rfl, List.length_eq_one_iff.1 h1, hb rfl, hc (by decide)⟩)))))
  rw [if_neg c] at hw; by_cases c : k = 7
  ·subst c
   rw [if_pos rfl] at hw; injection hw with hw; injection hw with w1 w2; subst w1 w2; exact .inr (.inr (.inr (.inr (.inr (.inl ⟨rfl, List.length_eq_one_iff.1 h1, hb rfl, hc (by decide), he (by decide)⟩)))))
  rw [if_neg c] at hw; by_cases c : k = 9
  ·subst c
   rw [if_pos rfl] at hw; injection hw with hw; injection hw with w1 w2; subst w1 w2; exact .inr (.inr (.inr (.inr (.inl ⟨rfl, List.eq_nil_of_length_eq_zero h1, hb rfl, hc (by decide), hl (by decide), he (by decide)⟩))))
  rw [if_neg c] at hw; cases hw
theorem want_len {s : S41} (h : headB s = true) : (s.f0 = 1 ∨ s.f0 = 2 ∨ s.f0 = 4 ∨ s.f0 = 5 ∨ s.f0 = 6 ∨ s.f0 = 7 ∨ s.f0 = 8 → s.f3.length = 1) ∧ (s.f0 = 3 → s.f3.length = 2) ∧ (s.f0 = 1 ∨ s.f0 = 2 ∨ s.f0 = 3 ∨ s.f0 = 4 ∨ s.f0 = 5 ∨ s.f0 = 6 ∨ s.f0 = 7 ∨ s.f0 = 8 ∨ s.f0 = 9) ∧ (s.f0 = 5 → 0 ≤ s.f2 ∧ s.f2 ≤ 255) ∧ (s.f0 = 1 ∨ s.f0 = 2 → nameB (lst s.f1) = true) ∧ (s.f0 = 9 → s.f3 = []) := by
 obtain ⟨k, f1, f2, l3, l4, l5⟩ := s; rcases head_cases _ _ _ _ _ _ h with ⟨hk, ⟨x, rfl⟩, hnm, _⟩ | ⟨rfl, ⟨x, y, rfl⟩, _⟩ | ⟨hk, ⟨x, rfl⟩, _⟩ | ⟨rfl, ⟨x, rfl⟩, _, h25, _⟩ | ⟨rfl, rfl, _⟩ | ⟨rfl, ⟨x, rfl⟩, _⟩ | ⟨rfl, ⟨x, rfl⟩, _⟩
 ·rcases hk with rfl | rfl <;> simp [hnm]
 ·simp
 ·rcases hk with rfl | rfl <;> simp
 ·simp [h25]
 ·simp
 ·simp
 ·simp
theorem one_LX_S {s : S41} (n : Nat) {B E H : ByteArray} {tb te th : List Lx.Tok} (h : headB s = true) (ha : s.f3.all okA = true) (hg : rgL s.f3 = true) (hB : LXA (lst B) tb) (hE : LXA (lst E) te) (hH : LXA (lst H) th) :
  LXA (lst (oneA s.f0 s.f1 s.f2 s.f3 n B s.f5 E H)) (tkOne s.f0 s.f1 s.f2 s.f3 tb s.f5 te th) := by
 obtain ⟨w1, w2, w3, w4, w5, w6⟩ := want_len h; unfold oneA tkOne; by_cases c : s.f0 = 1
 ·rw [if_pos c, if_pos c]
  simp only [lst_ap2]; exact ((((lx_var.app (lx_name (w5 (.inl c))).1 any_).app lx_eq (fun r _ => SepR.mk 32 _ rfl)).app (lx_a0 ha hg (z_166)) any_).app lx_end semi)
 rw [if_neg c, if_neg c]; by_cases c : s.f0 = 2
 ·rw [if_pos c, if_pos c]
  simp only [lst_ap2]; exact ((((lx_name (w5 (.inr c))).1).app lx_eq (fun r _ => SepR.mk 32 _ rfl)).app (lx_a0 ha hg (z_166)) any_).app lx_end semi
 rw [if_neg c, if_neg c]; by_cases c : s.f0 = 3
 ·rw [if_pos c, if_pos c]
  simp only [lst_ap2]; exact (((lx_m.app (lx_a0 ha hg (by rw [w2 c]; decide)) any_).app lx_me (fun r _ => SepR.mk 93 _ rfl)).app (lx_a1 ha hg (by rw [w2 c]; exact xlr _)) any_).app lx_end semi
 rw [if_neg c, if_neg c]; by_cases c : s.f0 = 4
 ·rw [if_pos c, if_pos c]
  simp only [lst_ap2]; exact (lx_emit.app (lx_a0 ha hg (z_166)) any_).app lx_end semi
 rw [if_neg c, if_neg c]; by_cases c : s.f0 = 8
 ·rw [if_pos c, if_pos c]
  simp only [lst_ap2]; exact (lx_fail.app (lx_a0 ha hg (z_166)) any_).app lx_end semi
 rw [if_neg c, if_neg c]; by_cases c : s.f0 = 5
 ·rw [if_pos c, if_pos c]
  simp only [lst_ap2, lst_bs]; have := ((((lx_into.app (lx_num s.f2 (w4 c).1 (by unfold bigI; have := (w4 c).2; omega)) any_).app lx_sp (fun r _ => SepR.mk 32 _ rfl)).app (lx_a0 ha hg (z_166)) any_).app lx_end semi); rw [List.append_nil] at this; exact this
 rw [if_neg c, if_neg c]; by_cases c : s.f0 = 9
 ·rw [if_pos c, if_pos c]
  exact lx_stop
 rw [if_neg c, if_neg c]; by_cases c : s.f0 = 7
 ·rw [if_pos c, if_pos c]
  simp only [lst_ap2]; have := ((((lx_wh.app (lx_a0 ha hg (z_166)) any_).app lx_do (fun r _ => SepR.mk 41 _ rfl)).app hB any_).app (lx_bl n) any_).app lx_sh any_; rw [List.append_nil] at this; exact this
 rw [if_neg c, if_neg c]; have h6 : s.f0 = 6 := by omega
 refine els_LX ?_ hE hH
 simp only [lst_ap2]; have := ((((lx_if.app (lx_a0 ha hg (by rw [w1 (by simp [h6])]; exact xlr _)) any_).app lx_do (fun r _ => SepR.mk 41 _ rfl)).app hB any_).app (lx_bl n) any_).app lx_rc any_; rw [List.append_nil] at this; exact this
def At (T : List S58) : Int → List Lx.Tok → Prop
 | _, [] => True
 | i, t :: ts => ((0 ≤ i ∧ i < T.length) ∧ (rd_T58 T i).f0 = t.kd ∧ (rd_T58 T i).f1 = bs t.tx ∧ (rd_T58 T i).f2 = t.nm) ∧ At T (i + 1) ts
theorem at_app {T : List S58} : ∀ {ts us : List Lx.Tok} {i : Int}, At T i (ts ++ us) → At T i ts ∧ At T (i + (ts.length : Int)) us
 | [], us, i, h => ⟨trivial, by simpa using h⟩
 | t :: ts, us, i, h => by
  obtain ⟨h0, h1⟩ := h; obtain ⟨h2, h3⟩ := at_app h1; refine ⟨⟨h0, h2⟩, ?_⟩; have e : i + (((t :: ts).length : Nat) : Int) = i + 1 + (ts.length : Int) := by simp only [List.length_cons]; omega
  rw [e]; exact h3
theorem at_len {T : List S58} : ∀ {ts : List Lx.Tok} {i : Int}, At T i ts → ts ≠ [] → 0 ≤ i ∧ i + (ts.length : Int) ≤ T.length
 | [], i, h, hn => absurd rfl hn
 | t :: ts, i, h, hn => by
  obtain ⟨⟨h0, _⟩, h1⟩ := h; cases ts with
  | nil => simp only [List.length_cons, List.length_nil]; omega
  | cons u us =>
   have := at_len h1 (by simp); simp only [List.length_cons] at this ⊢
   omega
theorem isB_at {T : List S58} {i : Int} {t : Lx.Tok} {ts : List Lx.Tok} (h : At T i (t :: ts)) (x : List UInt8) : isB (rd_T58 T i) (bs x) = (((t.kd == 4) || (t.kd == 3)) && (t.tx == x)) := by
 obtain ⟨_, h1, h2, _⟩ := h.1; unfold isB; rw [h1, h2, bs_toList, bs_toList]
section
variable {α β : Type} {T : List S58} {s : PSt}
theorem want_at {x : List UInt8} {ts : List Lx.Tok} {t : Lx.Tok} (ht : t = sgT x) {k : S58 → PSt → Option (Except Er α)} (h : At T s.at_ (t :: ts)) : wantK T s (bs x) k = k (rd_T58 T s.at_) ⟨s.at_ + 1, s.nodes, s.op, s.bl⟩ := by
 subst ht; unfold wantK; rw [if_pos h.1.1, if_pos]; rw [isB_at h]; simp [sgT]
theorem leave_at {x : List UInt8} {ts : List Lx.Tok} {t : Lx.Tok} (ht : t = sgT x) {k : PSt → Option (Except Er α)} (h : At T s.at_ (t :: ts)) (h0 : 1 ≤ s.op) (h1 : s.op ≤ 100) : leaveK T s (bs x) k = k ⟨s.at_ + 1, s.nodes, s.op - 1, s.bl⟩ := by
 subst ht; unfold leaveK; rw [if_pos ⟨h.1.1, h0, h1⟩, if_pos]; rw [isB_at h]; simp [sgT]
theorem enter_at {t3 : Int} {k : PSt → Option (Except Er α)} (h0 : 0 ≤ s.op) (h1 : s.op + 1 ≤ 48) : enterK s t3 k = k ⟨s.at_, s.nodes, s.op + 1, s.bl⟩ := by
 unfold enterK; rw [if_pos ⟨h0, by omega⟩, if_neg (by omega)]
theorem open_at {k : PSt → Option (Except Er α)} (h0 : 1 ≤ s.op) (h1 : s.op ≤ 100) : openK s k = k ⟨s.at_, s.nodes, s.op - 1, s.bl⟩ := by
 unfold openK; rw [if_pos ⟨h0, h1⟩]
theorem ex_at {o : Option (Except Er (β × PSt))} {p : β} {s' : PSt} {k : β → PSt → Option (Except Er α)} (h : o = some (.ok (p, s'))) : exK o k = k p s' := by
 rw [h]; rfl
theorem node_at {t3 k nm op : Int} {st : ByteArray} {ps : List (S38 × Int)} {d : Int} (h0 : 0 ≤ s.nodes) (h1 : s.nodes + 1 ≤ 600) (hp : ∀ p ∈ ps, 0 ≤ p.2 ∧ p.2 ≤ 48) (hd : deepQ ps 1 = d) (hd1 : d ≤ 48) :
  nodeK s t3 k nm st op ps = some (.ok ((⟨k, nm, st, op, ps.map (·.1)⟩, d), ⟨s.at_, s.nodes + 1, s.op, s.bl⟩)) := by
 unfold nodeK nodeQ; rw [if_pos ⟨⟨h0, by omega⟩, hp⟩, hd, if_neg (by omega), if_neg (by omega)]
end
theorem fit_full (a b : Int) (c : ByteArray) (f : Int) (l : List S38) (h : fitE ⟨a, b, c, f, l⟩ = true) :
  (a = 1 ∧ l = [] ∧ 0 ≤ b ∧ c = ⟨#[]⟩ ∧ f = 0) ∨ (a = 2 ∧ l = [] ∧ nameB (lst c) = true ∧ b = 0 ∧ f = 0) ∨ (a = 3 ∧ (∃ x, l = [x] ∧ fitE x = true) ∧ b = 0 ∧ c = ⟨#[]⟩ ∧ f = 0) ∨ (a = 4 ∧ (∃ x, l = [x] ∧ fitE x = true) ∧ (19 ≤ f ∧ f ≤ 21) ∧ b = 0 ∧ c = ⟨#[]⟩) ∨ (a = 5 ∧ (∃ x y, l = [x, y] ∧ fitE x = true ∧ fitE y = true) ∧ (1 ≤ f ∧ f ≤ 18) ∧ b = 0 ∧ c = ⟨#[]⟩) := by
 have hc := fit_cases a b c f l h; simp only [fitE, Bool.and_eq_true, beq_iff_eq] at h; obtain ⟨_, hf, _⟩ := h; unfold fieldsB at hf; simp only [Bool.and_eq_true] at hf; obtain ⟨h1, h2, h3⟩ := hf; rcases hc with ⟨rfl, e, hb⟩ | ⟨rfl, e, hnm⟩ | ⟨rfl, x, e, hx⟩ | ⟨rfl, x, e, hx, g0, g1⟩ | ⟨rfl, x, y, e, hx, hy, g0, g1⟩
 ·exact .inl ⟨rfl, e, hb, bytes_nil h2, beq_iff_eq.1 h3⟩
 ·exact .inr (.inl ⟨rfl, e, hnm, beq_iff_eq.1 h1, beq_iff_eq.1 h3⟩)
 ·exact .inr (.inr (.inl ⟨rfl, ⟨x, e, hx⟩, beq_iff_eq.1 h1, bytes_nil h2, beq_iff_eq.1 h3⟩))
 ·exact .inr (.inr (.inr (.inl ⟨rfl, ⟨x, e, hx⟩, ⟨g0, g1⟩, beq_iff_eq.1 h1, bytes_nil h2⟩)))
 ·exact .inr (.inr (.inr (.inr ⟨rfl, ⟨x, y, e, hx, hy⟩, ⟨g0, g1⟩, beq_iff_eq.1 h1, bytes_nil h2⟩)))
structure Fit (m : Int) (e : S38) (s : PSt) : Prop where
 fit : fitE e = true
 deep : deepE e ≤ 48
 op0 : 0 ≤ s.op
 op1 : s.op + (deepE e : Int) ≤ m
 n0 : 0 ≤ s.nodes
 n1 : s.nodes + (cntE e : Int) ≤ 600
def aft (s : PSt) (len cnt : Nat) : PSt := ⟨s.at_ + (len : Int), s.nodes + (cnt : Int), s.op, s.bl⟩
def rkT (T : List S58) (i : Int) : Int := (rankOf (rd_T58 T i)).1
def AP (T : List S58) (h : Nat) (e : S38) : Prop := ∀ s, Fit 49 e s → At T s.at_ (brK (rkE e) 9 (tkE e)) → 2 * (brK (rkE e) 9 (tkE e)).length ≤ h + 1 →
 (exG T h).1 s = some (.ok ((e, (deepE e : Int)), aft s (brK (rkE e) 9 (tkE e)).length (cntE e)))
def BP (m : Int) (T : List S58) (h : Nat) (e : S38) (lv : Int) : Prop := ∀ (s : PSt) (least : Int) (K : Nat), Fit m e s → At T s.at_ (brK (rkE e) lv (tkE e)) → 2 * (brK (rkE e) lv (tkE e)).length ≤ h + 1 → 1 ≤ least → least ≤ lv → lv ≤ 9 →
 (brK (rkE e) lv (tkE e)).length ≤ K → s.at_ + ((brK (rkE e) lv (tkE e)).length : Int) < T.length → rkT T (s.at_ + ((brK (rkE e) lv (tkE e)).length : Int)) ≤ lv →
 ∃ K', K ≤ K' + (brK (rkE e) lv (tkE e)).length - 1 ∧ stepF T (exG T h).1 (exG T h).2 K least s = loopF T (exG T h).2 least K' (e, (deepE e : Int)) (aft s (brK (rkE e) lv (tkE e)).length (cntE e))
def CP (m : Int) (T : List S58) (h : Nat) (e : S38) (lv : Int) : Prop := ∀ (s : PSt), Fit m e s → At T s.at_ (brK (rkE e) lv (tkE e)) → 2 * (brK (rkE e) lv (tkE e)).length ≤ h → 1 ≤ lv → lv ≤ 9 →
 s.at_ + ((brK (rkE e) lv (tkE e)).length : Int) < T.length → 0 ≤ rkT T (s.at_ + ((brK (rkE e) lv (tkE e)).length : Int)) → rkT T (s.at_ + ((brK (rkE e) lv (tkE e)).length : Int)) < lv →
 (exG T h).2 lv s = some (.ok ((e, (deepE e : Int)), aft s (brK (rkE e) lv (tkE e)).length (cntE e)))
theorem brK_ne (rk lv : Int) {ts : List Lx.Tok} (h : ts ≠ []) : brK rk lv ts ≠ [] := by
 unfold brK
 split
 ·simp
 ·exact h
theorem one_le_len {ts : List Lx.Tok} (h : ts ≠ []) : 1 ≤ ts.length := by cases ts with
 | nil => exact absurd rfl h
 | cons _ _ => simp
theorem tkE_ne {e : S38} (h : fitE e = true) : tkE e ≠ [] := by
 obtain ⟨a, b, c, f, l⟩ := e; rcases fit_cases a b c f l h with ⟨rfl, rfl, hb⟩ | ⟨rfl, rfl, hnm⟩ | ⟨rfl, x, rfl, hx⟩ | ⟨rfl, x, rfl, hx, h0, h1⟩ | ⟨rfl, x, y, rfl, hx, hy, h0, h1⟩
 ·show [_] ≠ []; simp
 ·show [_] ≠ []; simp
 ·show (([wdT [109], sgT [91]] ++ tkE x) ++ [sgT [93]]) ≠ []; simp
 ·show ([sgT (oneK f)] ++ brK (rkE x) 9 (tkE x)) ≠ []; simp
 ·have e2 : tkE ⟨5, b, c, f, [x, y]⟩ = if f = 17 then ((([wdT [109, 105, 110], sgT [40]] ++ tkE x) ++ [sgT [44]]) ++ tkE y) ++ [sgT [41]] else if f = 18 then ((([wdT [109, 97, 120], sgT [40]] ++ tkE x) ++ [sgT [44]]) ++ tkE y) ++ [sgT [41]]
    else (brK (rkE x) (sgR f).2 (tkE x) ++ [sgT (lst (sgR f).1)]) ++ brK (rkE y) ((sgR f).2 + 1) (tkE y) := rfl
  rw [e2]
  split
  ·simp
  split
  ·simp
  ·simp
theorem rk_pos {e : S38} (h : fitE e = true) : 1 ≤ rkE e ∧ (rkE e < 9 → ∃ b c f x y, e = ⟨5, b, c, f, [x, y]⟩ ∧ 1 ≤ f ∧ f ≤ 16 ∧ rkE e = (sgR f).2) := by
 obtain ⟨a, b, c, f, l⟩ := e; rcases fit_cases a b c f l h with ⟨rfl, rfl, hb⟩ | ⟨rfl, rfl, hnm⟩ | ⟨rfl, x, rfl, hx⟩ | ⟨rfl, x, rfl, hx, h0, h1⟩ | ⟨rfl, x, y, rfl, hx, hy, h0, h1⟩
 ·have e : rkE ⟨1, b, c, f, []⟩ = 10 := rfl
  rw [e]; exact z_167
 ·have e : rkE ⟨2, b, c, f, []⟩ = 10 := rfl
  rw [e]; exact z_167
 ·have e : rkE ⟨3, b, c, f, [x]⟩ = 10 := rfl
  rw [e]; exact z_167
 ·have e : rkE ⟨4, b, c, f, [x]⟩ = 9 := rfl
  rw [e]; exact z_167
 ·have e : rkE ⟨5, b, c, f, [x, y]⟩ = if f = 17 then 10 else if f = 18 then 10 else (sgR f).2 := rfl
  rw [e]; by_cases q : f = 17
  ·rw [if_pos q]; exact z_167
  rw [if_neg q]; by_cases q2 : f = 18
  ·rw [if_pos q2]; exact z_167
  rw [if_neg q2]; obtain ⟨_, _, s1, s2, _⟩ := sign_facts f h0 (by omega); exact ⟨s1, fun _ => ⟨b, c, f, x, y, rfl, h0, by omega, rfl⟩⟩
theorem tk_open {e : S38} (h : fitE e = true) : brK (rkE e) 1 (tkE e) = tkE e := by
 unfold brK; rw [if_neg (by have := (rk_pos h).1; omega)]
theorem deep_pos (e : S38) : 1 ≤ deepE e ∧ 1 ≤ cntE e := by
 obtain ⟨a, b, c, f, l⟩ := e; simp only [deepE, cntE]
 omega
theorem C_of_B {m : Int} {T : List S58} {h : Nat} {e : S38} {lv : Int} (hf : fitE e = true) (hB : BP m T h e lv) : CP m T (h + 1) e lv := by
 intro s F hA hh h1 h9 hN r0 hr; have hne := one_le_len (brK_ne (rkE e) lv (tkE_ne hf)); have hl := at_len hA (brK_ne _ _ (tkE_ne hf)); obtain ⟨K', hK, hs⟩ := hB s lv (T.length + 1) F hA (by omega) h1 (Int.le_refl _) h9 (by omega) hN (by omega); show stepF T (exG T h).1 (exG T h).2 (T.length + 1) lv s = _; rw [hs]; obtain ⟨k, rfl⟩ : ∃ k, K' = k + 1 := ⟨K' - 1, by omega⟩
 rw [loopF]; have F1 := F.n0; have F2 := F.n1; have F3 := F.deep; generalize brK (rkE e) lv (tkE e) = tk at *; have hr' : (rankOf (rd_T58 T (aft s tk.length (cntE e)).at_)).1 < lv := hr; have hr0 : 0 ≤ (rankOf (rd_T58 T (aft s tk.length (cntE e)).at_)).1 := r0; rw [if_pos, if_pos (.inl hr')]; refine ⟨⟨⟨?_, ?_⟩, ?_, ?_⟩, ⟨?_, ?_⟩, hr0, by omega⟩
 ·show 0 ≤ s.at_ + _; omega
 ·exact hN
 ·show 0 ≤ s.nodes + _; omega
 ·show s.nodes + _ ≤ 600; omega
 ·show (0 : Int) ≤ (deepE e : Int); omega
 ·show (deepE e : Int) ≤ 48; omega
theorem st_eq {a a' n n' o o' b : Int} (h1 : a = a') (h2 : n = n') (h3 : o = o') : (⟨a, n, o, b⟩ : PSt) = ⟨a', n', o', b⟩ := by rw [h1, h2, h3]
theorem res_eq {e e' : S38} {d d' : Int} {a a' n n' o o' b : Int} (h0 : e = e') (hd : d = d') (h1 : a = a') (h2 : n = n') (h3 : o = o') : (some (.ok ((e, d), ⟨a, n, o, b⟩)) : Option Res) = some (.ok ((e', d'), ⟨a', n', o', b⟩)) := by rw [h0, hd, h1, h2, h3]
def IH (T : List S58) (n : Nat) : Prop := ∀ e, cntE e ≤ n → fitE e = true → ∀ h, AP T h e ∧ ∀ lv, 1 ≤ lv → lv ≤ 9 → BP 49 T h e lv
theorem IH.ch {T : List S58} {n : Nat} (hI : IH T n) {e : S38} (hn : cntE e ≤ n) (hf : fitE e = true) (h : Nat) (lv : Int) : CP 49 T h e lv := by
 intro s F hA hh h1 h9 hN r0 hr; cases h with
 | zero =>
  have := one_le_len (brK_ne (rkE e) lv (tkE_ne hf))
  omega
 | succ k => exact C_of_B hf ((hI e hn hf k).2 lv h1 h9) s F hA hh h1 h9 hN r0 hr
theorem rk_sign {T : List S58} {i : Int} {x : List UInt8} {ts : List Lx.Tok} (h : At T i (sgT x :: ts)) (hx : tree_Rank.f (bs x) = some (0, 0)) : rkT T i = 0 := by
 obtain ⟨_, h1, h2, _⟩ := h.1; unfold rkT rankOf; rw [h1, h2, if_pos (show (sgT x).kd = 4 from rfl)]; show ((tree_Rank.f (bs x)).getD (0, 0)).1 = 0; rw [hx]
 rfl
theorem rk_rp : tree_Rank.f (bs [41]) = some (0, 0) := by kernel_rfl
theorem rk_rb : tree_Rank.f (bs [93]) = some (0, 0) := by kernel_rfl
theorem rk_cm : tree_Rank.f (bs [44]) = some (0, 0) := by kernel_rfl
theorem rk_sc : tree_Rank.f (bs [59]) = some (0, 0) := by kernel_rfl
theorem in_at {T : List S58} {n : Nat} (hI : IH T n) {e : S38} (hn : cntE e ≤ n) (hf : fitE e = true) {h : Nat} {s : PSt} (F : Fit 49 e s) (hA : At T s.at_ (tkE e)) (hh : 2 * (tkE e).length ≤ h) {x : List UInt8} {ts : List Lx.Tok} (hx : tree_Rank.f (bs x) = some (0, 0)) (hN : At T (s.at_ + ((tkE e).length : Int)) (sgT x :: ts)) :
  (exG T h).2 1 s = some (.ok ((e, (deepE e : Int)), aft s (tkE e).length (cntE e))) := by
 have hC := hI.ch hn hf h 1 s F; rw [tk_open hf] at hC; have hr := rk_sign hN hx; exact hC hA hh (by decide) (by decide) hN.1.1.2 (by omega) (by omega)
theorem A_prim {T : List S58} {n : Nat} (hI : IH T n) (e : S38) (hn : cntE e ≤ n + 1) (hf : fitE e = true) (hr : ¬ rkE e < 9) (h : Nat) : AP T h e := by
 intro s F hA hh; have hbk : brK (rkE e) 9 (tkE e) = tkE e := by unfold brK; rw [if_neg hr]
 rw [hbk] at hA hh ⊢; have hl1 := one_le_len (tkE_ne hf); obtain ⟨k, rfl⟩ : ∃ k, h = k + 1 := ⟨h - 1, by omega⟩
 show valS T (exG T k).1 (exG T k).2 s = _; have F0 := F.op0; have F1 := F.op1; have F2 := F.n0; have F3 := F.n1; have F4 := F.deep; obtain ⟨a, b, c, f, l⟩ := e; unfold valS; rcases fit_full a b c f l hf with ⟨rfl, rfl, hb, rfl, rfl⟩ | ⟨rfl, rfl, hnm, rfl, rfl⟩ | ⟨rfl, ⟨x, rfl, hx⟩, rfl, rfl, rfl⟩ | ⟨rfl, ⟨x, rfl, hx⟩, hfr, rfl, rfl⟩ | ⟨rfl, ⟨x, y, rfl, hx, hy⟩, hfr, rfl, rfl⟩
 ·have hA' : At T s.at_ [⟨1, textB b, b⟩] := hA
  obtain ⟨g0, g1, g2, g3⟩ := hA'.1; rw [if_pos g0, if_pos g1, g3]; refine (node_at (d := 1) (s := ⟨s.at_ + 1, s.nodes, s.op, s.bl⟩) F2 (by simp only [cntE, cntL] at F3; show s.nodes + 1 ≤ 600; omega) (fun p hp => by simp at hp) rfl (by decide)).trans ?_
  exact res_eq rfl rfl rfl rfl rfl
 ·have hA' : At T s.at_ [⟨2, lst c, 0⟩] := hA
  obtain ⟨g0, g1, g2, g3⟩ := hA'.1; rw [if_pos g0, if_neg (by rw [g1]; show ¬ (2 : Int) = 1; decide), if_pos g1, g2]; refine (node_at (d := 1) (s := ⟨s.at_ + 1, s.nodes, s.op, s.bl⟩) F2 (by simp only [cntE, cntL] at F3; show s.nodes + 1 ≤ 600; omega) (fun p hp => by simp at hp) rfl (by decide)).trans ?_
  refine res_eq ?_ rfl rfl rfl rfl
  show (⟨2, 0, bs (lst c), 0, []⟩ : S38) = _; rw [bs_lst]
 ·have e1 : tkE ⟨3, 0, ⟨#[]⟩, 0, [x]⟩ = ([wdT [109], sgT [91]] ++ tkE x) ++ [sgT [93]] := rfl
  rw [e1] at hA hh ⊢; simp only [cntE, cntL, deepE, deepL] at hn F1 F3 F4; simp only [List.length_append, List.length_cons, List.length_nil] at hh ⊢; obtain ⟨a1, a3⟩ := at_app hA; obtain ⟨a1, a2⟩ := at_app a1; obtain ⟨g0, g1, g2, g3⟩ := a1.1; have a1' : At T (s.at_ + 1) [sgT [91]] := a1.2; rw [if_pos g0, if_neg (by rw [g1]; show ¬ (3 : Int) = 1; decide), if_neg (by rw [g1]; show ¬ (3 : Int) = 2; decide), if_neg (z_168), if_pos (z_169)]; refine (want_at (x := [91]) (s := ⟨s.at_ + 1, s.nodes, s.op, s.bl⟩) rfl a1').trans ?_; refine (enter_at (s := ⟨s.at_ + 1 + 1, s.nodes, s.op, s.bl⟩) F0 (by show s.op + 1 ≤ 48; have := (deep_pos x).1; omega)).trans ?_; have e2 : s.at_ + (([wdT [109], sgT [91]].length : Nat) : Int) = s.at_ + 1 + 1 := z_170; rw [e2] at a2; have e3 : s.at_ + (((([wdT [109], sgT [91]] ++ tkE x).length : Nat)) : Int) = s.at_ + 1 + 1 + ((tkE x).length : Int) := z_171; rw [e3] at a3; have hx1 := in_at hI (h := k) (s := ⟨s.at_ + 1 + 1, s.nodes, s.op + 1, s.bl⟩) (by omega) hx ⟨hx, by omega, z_148, z_172, F2, by show s.nodes + (cntE x : Int) ≤ 600; omega⟩ a2 (by omega) rk_rb a3
  refine (ex_at hx1).trans ?_
  refine (leave_at (x := [93]) (s := aft ⟨s.at_ + 1 + 1, s.nodes, s.op + 1, s.bl⟩ (tkE x).length (cntE x)) rfl a3 (z_173) (z_174)).trans ?_
  refine (node_at (d := (deepE ⟨3, 0, ⟨#[]⟩, 0, [x]⟩ : Int)) (z_175) (by show s.nodes + (cntE x : Int) + 1 ≤ 600; omega) (fun p hp => by rw [List.mem_singleton.1 hp]; show 0 ≤ (deepE x : Int) ∧ (deepE x : Int) ≤ 48; omega) (by show max 1 ((deepE x : Int) + 1) = _; simp only [deepE, deepL]; omega) (by simp only [deepE, deepL]; omega)).trans ?_
  refine res_eq rfl rfl ?_ ?_ ?_
  ·show s.at_ + 1 + 1 + ((tkE x).length : Int) + 1 = _; omega
  ·show s.nodes + (cntE x : Int) + 1 = _; simp only [cntE, cntL]; omega
  ·show s.op + 1 - 1 = s.op; omega
 ·have e1 : tkE ⟨4, 0, ⟨#[]⟩, f, [x]⟩ = [sgT (oneK f)] ++ brK (rkE x) 9 (tkE x) := rfl
  rw [e1] at hA hh ⊢; simp only [cntE, cntL, deepE, deepL] at hn F1 F3 F4; simp only [List.length_append, List.length_cons, List.length_nil] at hh ⊢; obtain ⟨a1, a2⟩ := at_app hA; obtain ⟨g0, g1, g2, g3⟩ := a1.1
  have hop : signOp (rd_T58 T s.at_) = some f := by
   unfold signOp; rw [show (⟨#[45]⟩ : ByteArray) = bs [45] from rfl, show (⟨#[126]⟩ : ByteArray) = bs [126] from rfl, show (⟨#[33]⟩ : ByteArray) = bs [33] from rfl, isB_at a1, isB_at a1, isB_at a1]; have hc : f = 19 ∨ f = 20 ∨ f = 21 := by omega
   rcases hc with e | e | e <;> subst e <;> decide
  have hno : ∀ z : List UInt8, z = [40] ∨ z = [109] ∨ z = [109, 105, 110] ∨ z = [109, 97, 120] → isB (rd_T58 T s.at_) (bs z) = false := by
   intro z hz; rw [isB_at a1]; have hc : f = 19 ∨ f = 20 ∨ f = 21 := by omega
   rcases hc with e | e | e <;> subst e <;> rcases hz with e | e | e | e <;> subst e <;> decide
  rw [if_pos g0, if_neg (by rw [g1]; show ¬ (4 : Int) = 1; decide), if_neg (by rw [g1]; show ¬ (4 : Int) = 2; decide), if_neg (by rw [show (⟨#[40]⟩ : ByteArray) = bs [40] from rfl, hno _ (.inl rfl)]; decide), if_neg (by rw [show (⟨#[109]⟩ : ByteArray) = bs [109] from rfl, hno _ (.inr (.inl rfl))]; decide), if_neg (by rw [show (⟨#[109, 105, 110]⟩ : ByteArray) = bs [109, 105, 110] from rfl, hno _ (.inr (.inr (.inl rfl)))]; decide), if_neg (by rw [show (⟨#[109, 97, 120]⟩ : ByteArray) = bs [109, 97, 120] from rfl, hno _ (.inr (.inr (.inr rfl)))]; decide)]; unfold signS; rw [if_pos g0, hop]; dsimp only; refine (enter_at (s := ⟨s.at_ + 1, s.nodes, s.op, s.bl⟩) F0 (by show s.op + 1 ≤ 48; have := (deep_pos x).1; omega)).trans ?_; have e2 : s.at_ + (([sgT (oneK f)].length : Nat) : Int) = s.at_ + 1 := rfl; rw [e2] at a2; have hx1 := (hI x (by omega) hx k).1 ⟨s.at_ + 1, s.nodes, s.op + 1, s.bl⟩ ⟨hx, by omega, z_148, z_172, F2, by show s.nodes + (cntE x : Int) ≤ 600; omega⟩ a2 (by omega)
  refine (ex_at hx1).trans ?_
  refine (open_at (z_173) (z_174)).trans ?_
  refine (node_at (d := (deepE ⟨4, 0, ⟨#[]⟩, f, [x]⟩ : Int)) (z_175) (by show s.nodes + (cntE x : Int) + 1 ≤ 600; omega) (fun p hp => by rw [List.mem_singleton.1 hp]; show 0 ≤ (deepE x : Int) ∧ (deepE x : Int) ≤ 48; omega) (by show max 1 ((deepE x : Int) + 1) = _; simp only [deepE, deepL]; omega) (by simp only [deepE, deepL]; omega)).trans ?_
  refine res_eq rfl rfl ?_ ?_ ?_
  ·show s.at_ + 1 + ((brK (rkE x) 9 (tkE x)).length : Int) = _; omega
  ·show s.nodes + (cntE x : Int) + 1 = _; simp only [cntE, cntL]; omega
  ·show s.op + 1 - 1 = s.op; omega
 ·have hf17 : f = 17 ∨ f = 18 := by
   rcases Int.lt_or_le f 17 with z | z
   ·exfalso
    apply hr
    have e : rkE ⟨5, 0, ⟨#[]⟩, f, [x, y]⟩ = if f = 17 then 10 else if f = 18 then 10 else (sgR f).2 := rfl; rw [e, if_neg (by omega), if_neg (by omega)]; have := (sign_facts f hfr.1 (by omega)).2.2.2.1
    omega
   ·omega
  obtain ⟨w, hw, e1⟩ : ∃ w : List UInt8, ((f = 17 ∧ w = [109, 105, 110]) ∨ (f = 18 ∧ w = [109, 97, 120])) ∧ tkE ⟨5, 0, ⟨#[]⟩, f, [x, y]⟩ = ((([wdT w, sgT [40]] ++ tkE x) ++ [sgT [44]]) ++ tkE y) ++ [sgT [41]] := by
   rcases hf17 with e | e
   ·subst e; exact ⟨_, .inl ⟨rfl, rfl⟩, rfl⟩
   ·subst e; exact ⟨_, .inr ⟨rfl, rfl⟩, rfl⟩
  rw [e1] at hA hh ⊢; simp only [cntE, cntL, deepE, deepL] at hn F1 F3 F4; simp only [List.length_append, List.length_cons, List.length_nil] at hh ⊢; obtain ⟨a1, a5⟩ := at_app hA; obtain ⟨a1, a4⟩ := at_app a1; obtain ⟨a1, a3⟩ := at_app a1; obtain ⟨a1, a2⟩ := at_app a1; obtain ⟨g0, g1, g2, g3⟩ := a1.1; have a1' : At T (s.at_ + 1) [sgT [40]] := a1.2
  have hcall : ∀ t3, callS T (exG T k).2 t3 f s = some (.ok ((⟨5, 0, ⟨#[]⟩, f, [x, y]⟩, (deepE ⟨5, 0, ⟨#[]⟩, f, [x, y]⟩ : Int)), aft s (0 + 1 + 1 + (tkE x).length + (0 + 1) + (tkE y).length + (0 + 1)) (cntE ⟨5, 0, ⟨#[]⟩, f, [x, y]⟩))) := by
   intro t3; unfold callS; rw [if_pos g0]; refine (want_at (x := [40]) (s := ⟨s.at_ + 1, s.nodes, s.op, s.bl⟩) rfl a1').trans ?_; refine (enter_at (s := ⟨s.at_ + 1 + 1, s.nodes, s.op, s.bl⟩) F0 (by show s.op + 1 ≤ 48; have := (deep_pos x).1; omega)).trans ?_; have e2 : s.at_ + (([wdT w, sgT [40]].length : Nat) : Int) = s.at_ + 1 + 1 := z_170; rw [e2] at a2; have e3 : s.at_ + ((([wdT w, sgT [40]] ++ tkE x).length : Nat) : Int) = s.at_ + 1 + 1 + ((tkE x).length : Int) := z_171; rw [e3] at a3; have e4 : s.at_ + (((([wdT w, sgT [40]] ++ tkE x) ++ [sgT [44]]).length : Nat) : Int) = s.at_ + 1 + 1 + ((tkE x).length : Int) + 1 := z_171; rw [e4] at a4; have e5 : s.at_ + ((((([wdT w, sgT [40]] ++ tkE x) ++ [sgT [44]]) ++ tkE y).length : Nat) : Int) = s.at_ + 1 + 1 + ((tkE x).length : Int) + 1 + ((tkE y).length : Int) := z_171; rw [e5] at a5; have hx1 := in_at hI (h := k) (s := ⟨s.at_ + 1 + 1, s.nodes, s.op + 1, s.bl⟩) (by omega) hx ⟨hx, by omega, z_148, z_172, F2, by show s.nodes + (cntE x : Int) ≤ 600; omega⟩ a2 (by omega) rk_cm a3
   refine (ex_at hx1).trans ?_
   refine (want_at (x := [44]) (s := aft ⟨s.at_ + 1 + 1, s.nodes, s.op + 1, s.bl⟩ (tkE x).length (cntE x)) rfl a3).trans ?_
   have hy1 := in_at hI (h := k) (s := ⟨s.at_ + 1 + 1 + ((tkE x).length : Int) + 1, s.nodes + (cntE x : Int), s.op + 1, s.bl⟩) (by omega) hy ⟨hy, by omega, z_148, by show s.op + 1 + (deepE y : Int) ≤ 49; omega, z_175, by show s.nodes + (cntE x : Int) + (cntE y : Int) ≤ 600; omega⟩ a4 (by omega) rk_rp a5
   refine (ex_at hy1).trans ?_
   refine (leave_at (x := [41]) (s := aft ⟨s.at_ + 1 + 1 + ((tkE x).length : Int) + 1, s.nodes + (cntE x : Int), s.op + 1, s.bl⟩ (tkE y).length (cntE y)) rfl a5 (z_173) (z_174)).trans ?_
   refine (node_at (d := (deepE ⟨5, 0, ⟨#[]⟩, f, [x, y]⟩ : Int)) (by show 0 ≤ s.nodes + (cntE x : Int) + (cntE y : Int); omega) (by show s.nodes + (cntE x : Int) + (cntE y : Int) + 1 ≤ 600; omega) (fun p hp => by
    rcases List.mem_cons.1 hp with e | e
    ·rw [e]; show 0 ≤ (deepE x : Int) ∧ (deepE x : Int) ≤ 48; omega
    ·rw [List.mem_singleton.1 e]; show 0 ≤ (deepE y : Int) ∧ (deepE y : Int) ≤ 48; omega) (by show max (max 1 ((deepE x : Int) + 1)) ((deepE y : Int) + 1) = _; simp only [deepE, deepL]; omega) (by simp only [deepE, deepL]; omega)).trans ?_
   refine res_eq rfl rfl ?_ ?_ ?_
   ·show s.at_ + 1 + 1 + ((tkE x).length : Int) + 1 + ((tkE y).length : Int) + 1 = _; omega
   ·show s.nodes + (cntE x : Int) + (cntE y : Int) + 1 = _; simp only [cntE, cntL]; omega
   ·show s.op + 1 - 1 = s.op; omega
  rcases hw with ⟨rfl, rfl⟩ | ⟨rfl, rfl⟩
  ·rw [if_pos g0, if_neg (by rw [g1]; show ¬ (3 : Int) = 1; decide), if_neg (by rw [g1]; show ¬ (3 : Int) = 2; decide), if_neg (z_168), if_neg (z_169), if_pos (by rw [show (⟨#[109, 105, 110]⟩ : ByteArray) = bs [109, 105, 110] from rfl, isB_at a1]; decide)]
   exact hcall _
  ·rw [if_pos g0, if_neg (by rw [g1]; show ¬ (3 : Int) = 1; decide), if_neg (by rw [g1]; show ¬ (3 : Int) = 2; decide), if_neg (z_168), if_neg (z_169), if_neg (by rw [show (⟨#[109, 105, 110]⟩ : ByteArray) = bs [109, 105, 110] from rfl, isB_at a1]; decide), if_pos (by rw [show (⟨#[109, 97, 120]⟩ : ByteArray) = bs [109, 97, 120] from rfl, isB_at a1]; decide)]
   exact hcall _
theorem B_two {T : List S58} {n : Nat} (hI : IH T n) (e : S38) (hn : cntE e ≤ n + 1) (hf : fitE e = true) (hr : rkE e < 9) (h : Nat) (lv : Int) (hlv : ¬ rkE e < lv) : BP 50 T h e lv := by
 intro s least K F hA hh l1 l2 l9 hK hN hR; obtain ⟨b, c, f, x, y, he, h0, h1, hrk⟩ := (rk_pos hf).2 hr; have hbk : brK (rkE e) lv (tkE e) = tkE e := by unfold brK; rw [if_neg hlv]
 rw [hbk] at hA hh hK hN hR ⊢; rw [hrk] at hlv hr; subst he; have F0 := F.op0; have F1 := F.op1; have F2 := F.n0; have F3 := F.n1; have F4 := F.deep
 obtain ⟨hx, hy, rfl, rfl⟩ : fitE x = true ∧ fitE y = true ∧ b = 0 ∧ c = ⟨#[]⟩ := by
  rcases fit_full 5 b c f [x, y] hf with ⟨h, _⟩ | ⟨h, _⟩ | ⟨h, _⟩ | ⟨h, _⟩ | ⟨_, ⟨x', y', e, hx, hy⟩, _, hb, hc⟩
  ·cases h
  ·cases h
  ·cases h
  ·cases h
  ·injection e with e1 e2
   injection e2 with e2 _; subst e1 e2; exact ⟨hx, hy, hb, hc⟩
 obtain ⟨_, _, s1, s2, _⟩ := sign_facts f h0 h1
 have e1 : tkE ⟨5, 0, ⟨#[]⟩, f, [x, y]⟩ = (brK (rkE x) (sgR f).2 (tkE x) ++ [sgT (lst (sgR f).1)]) ++ brK (rkE y) ((sgR f).2 + 1) (tkE y) := by
  have e2 : tkE ⟨5, 0, ⟨#[]⟩, f, [x, y]⟩ = if f = 17 then ((([wdT [109, 105, 110], sgT [40]] ++ tkE x) ++ [sgT [44]]) ++ tkE y) ++ [sgT [41]] else if f = 18 then ((([wdT [109, 97, 120], sgT [40]] ++ tkE x) ++ [sgT [44]]) ++ tkE y) ++ [sgT [41]]
    else (brK (rkE x) (sgR f).2 (tkE x) ++ [sgT (lst (sgR f).1)]) ++ brK (rkE y) ((sgR f).2 + 1) (tkE y) := rfl
  rw [e2, if_neg (by omega), if_neg (by omega)]
 rw [e1] at hA hh hK hN hR ⊢; simp only [cntE, cntL, deepE, deepL] at hn F1 F3 F4; have lx := one_le_len (brK_ne (rkE x) (sgR f).2 (tkE_ne hx)); have ly := one_le_len (brK_ne (rkE y) ((sgR f).2 + 1) (tkE_ne hy)); obtain ⟨a1, a3⟩ := at_app hA; obtain ⟨a1, a2⟩ := at_app a1; have IX := (hI x (by omega) hx h).2 (sgR f).2 s1 (by omega); have IY := hI.ch (e := y) (by omega) hy h ((sgR f).2 + 1); unfold BP at IX; unfold CP at IY; generalize brK (rkE x) (sgR f).2 (tkE x) = tx at *; generalize brK (rkE y) ((sgR f).2 + 1) (tkE y) = ty at *; simp only [List.length_append, List.length_cons, List.length_nil] at hh hK hN hR a3 ⊢; obtain ⟨g0, g1, g2, g3⟩ := a2.1
 have hrank : rankOf (rd_T58 T (s.at_ + (tx.length : Int))) = ((sgR f).2, f) := by
  unfold rankOf; rw [g1, g2, if_pos (show (sgT (lst (sgR f).1)).kd = 4 from rfl)]; show (tree_Rank.f (bs (lst (sgR f).1))).getD (0, 0) = _; rw [bs_lst, (lx_between f h0 h1).2]
  rfl
 obtain ⟨K1, hK1, hs1⟩ := IX s least K ⟨hx, by omega, F0, by omega, F2, by omega⟩ a1 (by omega) l1 (by omega) (by omega) (by omega) g0.2 (by unfold rkT; rw [hrank]; exact Int.le_refl _)
 rw [hs1]; obtain ⟨k1, rfl⟩ : ∃ k, K1 = k + 1 := ⟨K1 - 1, by omega⟩
 refine ⟨k1, by omega, ?_⟩
 have ea : (aft s tx.length (cntE x)).at_ = s.at_ + (tx.length : Int) := rfl; have en : (aft s tx.length (cntE x)).nodes = s.nodes + (cntE x : Int) := rfl; have eo : (aft s tx.length (cntE x)).op = s.op := rfl; have eb : (aft s tx.length (cntE x)).bl = s.bl := rfl
 conv => lhs; rw [loopF]
 rw [ea, en, eo, eb, hrank, if_pos, if_neg]
 ·have a3' : At T (s.at_ + (tx.length : Int) + 1) ty := by
   have e : s.at_ + ((tx.length + (0 + 1) : Nat) : Int) = s.at_ + (tx.length : Int) + 1 := by omega
   rw [← e]; exact a3
  have epos : s.at_ + (tx.length : Int) + 1 + (ty.length : Int) = s.at_ + ((tx.length + (0 + 1) + ty.length : Nat) : Int) := by omega
  have hr0 : 0 ≤ rkT T (s.at_ + ((tx.length + (0 + 1) + ty.length : Nat) : Int)) := by
   unfold rkT; rcases rankOf_bd (rd_T58 T (s.at_ + ((tx.length + (0 + 1) + ty.length : Nat) : Int))) with z | ⟨_, z, _⟩
   ·omega
   ·omega
  have hy1 := IY ⟨s.at_ + (tx.length : Int) + 1, s.nodes + (cntE x : Int), s.op, s.bl⟩ ⟨hy, by omega, F0, by show s.op + (deepE y : Int) ≤ 49; omega, z_175, by show s.nodes + (cntE x : Int) + (cntE y : Int) ≤ 600; omega⟩ a3' (by omega) (by omega) (by omega)
   (by show s.at_ + (tx.length : Int) + 1 + (ty.length : Int) < T.length; omega) (by show 0 ≤ rkT T (s.at_ + (tx.length : Int) + 1 + (ty.length : Int)); rw [epos]; exact hr0) (by show rkT T (s.at_ + (tx.length : Int) + 1 + (ty.length : Int)) < _; rw [epos]; omega)
  dsimp only; rw [hy1]; dsimp only; have en2 : (aft ⟨s.at_ + (tx.length : Int) + 1, s.nodes + (cntE x : Int), s.op, s.bl⟩ ty.length (cntE y)).nodes = s.nodes + (cntE x : Int) + (cntE y : Int) := rfl
  have hd : deepQ [(x, (deepE x : Int)), (y, (deepE y : Int))] 1 = (deepE ⟨5, 0, ⟨#[]⟩, f, [x, y]⟩ : Int) := by
   show max (max 1 ((deepE x : Int) + 1)) ((deepE y : Int) + 1) = _; simp only [deepE, deepL]
   omega
  have hd48 : ¬ 48 < (deepE ⟨5, 0, ⟨#[]⟩, f, [x, y]⟩ : Int) := by simp only [deepE, deepL]; omega
  rw [if_pos ⟨⟨by omega, by omega⟩, by rw [en2]; omega, by rw [en2]; omega⟩]
  unfold nodeQ; rw [hd, if_neg hd48, en2, if_neg (by omega)]; dsimp only
  congr 1
  refine st_eq ?_ ?_ rfl
  ·show s.at_ + (tx.length : Int) + 1 + (ty.length : Int) = _; omega
  ·simp only [cntE, cntL]; omega
 ·dsimp only; omega
 ·refine ⟨⟨⟨?_, ?_⟩, ?_, ?_⟩, ⟨?_, ?_⟩, ?_, ?_⟩
  ·rw [ea]; exact g0.1
  ·rw [ea]; exact g0.2
  ·rw [en]; omega
  ·rw [en]; omega
  ·show (0 : Int) ≤ (deepE x : Int); omega
  ·show (deepE x : Int) ≤ 48; omega
  ·show 0 ≤ (sgR f).2; omega
  ·show (sgR f).2 ≤ 100; omega
theorem A_br {T : List S58} {n : Nat} (hI : IH T n) (e : S38) (hn : cntE e ≤ n + 1) (hf : fitE e = true) (hr : rkE e < 9) (h : Nat) : AP T h e := by
 intro s F hA hh; have hbk : brK (rkE e) 9 (tkE e) = ([sgT [40]] ++ tkE e) ++ [sgT [41]] := by unfold brK; rw [if_pos hr]
 rw [hbk] at hA hh ⊢; simp only [List.length_append, List.length_cons, List.length_nil] at hh ⊢; obtain ⟨k, rfl⟩ : ∃ k, h = k + 1 := ⟨h - 1, by omega⟩
 show valS T (exG T k).1 (exG T k).2 s = _; have F0 := F.op0; have F1 := F.op1; have F2 := F.n0; have F3 := F.n1; have F4 := F.deep; have hl1 := one_le_len (tkE_ne hf)
 have hd2 : 2 ≤ deepE e := by
  obtain ⟨b, c, f, x, y, he, _⟩ := (rk_pos hf).2 hr; subst he; have := (deep_pos x).1; simp only [deepE, deepL]
  omega
 obtain ⟨a1, a3⟩ := at_app hA; obtain ⟨a1, a2⟩ := at_app a1; obtain ⟨g0, g1, g2, g3⟩ := a1.1; unfold valS; rw [if_pos g0, if_neg (by rw [g1]; show ¬ (4 : Int) = 1; decide), if_neg (by rw [g1]; show ¬ (4 : Int) = 2; decide), if_pos (z_168)]; refine (enter_at (s := ⟨s.at_ + 1, s.nodes, s.op, s.bl⟩) F0 (by show s.op + 1 ≤ 48; omega)).trans ?_; have e2 : s.at_ + (([sgT [40]].length : Nat) : Int) = s.at_ + 1 := rfl; rw [e2] at a2; have e3 : s.at_ + ((([sgT [40]] ++ tkE e).length : Nat) : Int) = s.at_ + 1 + ((tkE e).length : Int) := z_171; rw [e3] at a3; obtain ⟨k', rfl⟩ : ∃ k', k = k' + 1 := ⟨k - 1, by omega⟩
 have hC := C_of_B hf (B_two hI e hn hf hr k' 1 (by have := (rk_pos hf).1; omega)) ⟨s.at_ + 1, s.nodes, s.op + 1, s.bl⟩ ⟨hf, F4, z_148, by show s.op + 1 + (deepE e : Int) ≤ 50; omega, F2, F3⟩
 rw [tk_open hf] at hC; have hrk := rk_sign a3 rk_rp; have hx1 := hC a2 (by omega) (by decide) (by decide) a3.1.1.2 (by show 0 ≤ rkT T (s.at_ + 1 + _); rw [hrk]; decide) (by show rkT T (s.at_ + 1 + _) < 1; rw [hrk]; decide); refine (ex_at hx1).trans ?_; refine (leave_at (x := [41]) (s := aft ⟨s.at_ + 1, s.nodes, s.op + 1, s.bl⟩ (tkE e).length (cntE e)) rfl a3 (z_173) (z_174)).trans ?_; refine res_eq rfl rfl ?_ rfl ?_
 ·show s.at_ + 1 + ((tkE e).length : Int) + 1 = _; omega
 ·show s.op + 1 - 1 = s.op; omega
theorem ih_all (T : List S58) : ∀ n, IH T n
 | 0 => fun e hn hf h => by have := (deep_pos e).2; omega
 | n + 1 => fun e hn hf h => by
  have hI := ih_all T n
  have hAP : AP T h e := by
   by_cases hr : rkE e < 9
   ·exact A_br hI e hn hf hr h
   ·exact A_prim hI e hn hf hr h
  refine ⟨hAP, fun lv h1 h9 => ?_⟩
  by_cases hr : rkE e < 9 ∧ ¬ rkE e < lv
  ·intro s least K F
   exact B_two hI e hn hf hr.1 h lv hr.2 s least K ⟨F.fit, F.deep, F.op0, by have := F.op1; omega, F.n0, F.n1⟩
  ·have hbk : brK (rkE e) lv (tkE e) = brK (rkE e) 9 (tkE e) := by
    unfold brK; by_cases z : rkE e < lv
    ·rw [if_pos z, if_pos (by omega)]
    ·rw [if_neg z, if_neg (by omega)]
   intro s least K F hA hh l1 l2 l9 hK hN hR; have hne := one_le_len (brK_ne (rkE e) lv (tkE_ne hf)); refine ⟨K, by omega, ?_⟩
   rw [hbk] at hA hh ⊢; unfold stepF; rw [hAP s F hA hh]
theorem ex_ok {T : List S58} {e : S38} {s : PSt} (F : Fit 49 e s) (hA : At T s.at_ (tkE e)) {x : List UInt8} {ts : List Lx.Tok} (hx : tree_Rank.f (bs x) = some (0, 0)) (hN : At T (s.at_ + ((tkE e).length : Int)) (sgT x :: ts)) :
  ab0 T 1 s = some (.ok ((e, (deepE e : Int)), aft s (tkE e).length (cntE e))) := by
 have := at_len hA (tkE_ne F.fit); exact in_at (ih_all T (cntE e)) (xlr _) F.fit F hA (by omega) hx hN
section
variable {α β : Type} {T : List S58} {s : PSt}
theorem made_at {t3 : Int} {k : PSt → Option (Except Er α)} (h0 : 0 ≤ s.nodes) (h1 : s.nodes + 1 ≤ 600) : madeK s t3 k = k ⟨s.at_, s.nodes + 1, s.op, s.bl⟩ := by
 unfold madeK; rw [if_pos ⟨h0, by omega⟩, if_neg (by omega)]
theorem deeper_at {t3 : Int} {k : PSt → Option (Except Er α)} (h0 : 0 ≤ s.bl) (h1 : s.bl + 1 ≤ 12) : deeperK s t3 k = k ⟨s.at_, s.nodes, s.op, s.bl + 1⟩ := by
 unfold deeperK; rw [if_pos ⟨h0, by omega⟩, if_neg (by omega)]
theorem close_at {k : PSt → Option (Except Er α)} (h0 : 1 ≤ s.bl) (h1 : s.bl ≤ 100) : closeK s k = k ⟨s.at_, s.nodes, s.op, s.bl - 1⟩ := by
 unfold closeK; rw [if_pos ⟨h0, h1⟩]
theorem is_yes {x : ByteArray} {k1 k2 : Option (Except Er α)} (hg : 0 ≤ s.at_ ∧ s.at_ < T.length) (h : isB (rd_T58 T s.at_) x = true) : isK T s x k1 k2 = k1 := by
 unfold isK; rw [if_pos hg, if_pos h]
theorem is_no {x : ByteArray} {k1 k2 : Option (Except Er α)} (hg : 0 ≤ s.at_ ∧ s.at_ < T.length) (h : isB (rd_T58 T s.at_) x = false) : isK T s x k1 k2 = k2 := by
 unfold isK; rw [if_pos hg, if_neg (by rw [h]; decide)]
theorem kind_at {t : Lx.Tok} {ts : List Lx.Tok} {kd : Int} (ht : t.kd = kd) {k : S58 → PSt → Option (Except Er α)} (h : At T s.at_ (t :: ts)) : kindK T s kd k = k (rd_T58 T s.at_) ⟨s.at_ + 1, s.nodes, s.op, s.bl⟩ := by
 unfold kindK; rw [if_pos h.1.1, if_pos (by rw [h.1.2.1, ht])]
theorem end_at {t3 : Int} {x : S41} {ts : List Lx.Tok} (hx : ¬ (x.f0 = 6 ∨ x.f0 = 7)) (h : At T s.at_ (sgT [59] :: ts)) (h0 : 0 ≤ s.nodes) (h1 : s.nodes + 1 ≤ 600) : endS T t3 x s = some (.ok (x, ⟨s.at_ + 1, s.nodes + 1, s.op, s.bl⟩)) := by
 unfold endS; rw [if_neg hx]; exact (want_at (x := [59]) rfl h).trans (made_at h0 h1)
theorem end_at2 {t3 : Int} {x : S41} (hx : x.f0 = 6 ∨ x.f0 = 7) (h0 : 0 ≤ s.nodes) (h1 : s.nodes + 1 ≤ 600) : endS T t3 x s = some (.ok (x, ⟨s.at_, s.nodes + 1, s.op, s.bl⟩)) := by
 unfold endS; rw [if_pos hx]; exact made_at h0 h1
end
def notB (t : Lx.Tok) (x : List UInt8) : Prop := (((t.kd == 4) || (t.kd == 3)) && (t.tx == x)) = false
theorem tkS_head {x : S41} (h : headB x = true) : ∃ t ts, tkS x = t :: ts ∧ notB t [125] ∧ notB t [101, 108, 115, 101] ∧ t.kd ≠ 0 ∧ (x.f0 = 6 → t = wdT [105, 102]) := by
 obtain ⟨k, f1, f2, l3, l4, l5⟩ := x; have e : tkS ⟨k, f1, f2, l3, l4, l5⟩ = tkOne k f1 f2 l3 (tkB l4) l5 (tkB l5) (tkH l5) := rfl; rw [e]; rcases head_cases _ _ _ _ _ _ h with ⟨hk, _⟩ | ⟨rfl, _⟩ | ⟨hk, _⟩ | ⟨rfl, _⟩ | ⟨rfl, _⟩ | ⟨rfl, _⟩ | ⟨rfl, _⟩
 ·rcases hk with rfl | rfl
  ·exact ⟨wdT [118, 97, 114], _, rfl, by unfold notB; decide, by unfold notB; decide, by decide, fun h => absurd (show (1 : Int) = 6 from h) (by decide)⟩
  ·exact ⟨⟨2, lst f1, 0⟩, _, rfl, rfl, rfl, by show (2 : Int) ≠ 0; decide, fun h => absurd (show (2 : Int) = 6 from h) (by decide)⟩
 ·exact ⟨wdT [109], _, rfl, by unfold notB; decide, by unfold notB; decide, by decide, fun h => absurd (show (3 : Int) = 6 from h) (by decide)⟩
 ·rcases hk with rfl | rfl
  ·exact ⟨wdT [101, 109, 105, 116], _, rfl, by unfold notB; decide, by unfold notB; decide, by decide, fun h => absurd (show (4 : Int) = 6 from h) (by decide)⟩
  ·exact ⟨wdT [102, 97, 105, 108], _, rfl, by unfold notB; decide, by unfold notB; decide, by decide, fun h => absurd (show (8 : Int) = 6 from h) (by decide)⟩
 ·exact ⟨wdT [105, 110, 116, 111], _, rfl, by unfold notB; decide, by unfold notB; decide, by decide, fun h => absurd (show (5 : Int) = 6 from h) (by decide)⟩
 ·exact ⟨wdT [115, 116, 111, 112], _, rfl, by unfold notB; decide, by unfold notB; decide, by decide, fun h => absurd (show (9 : Int) = 6 from h) (by decide)⟩
 ·exact ⟨wdT [119, 104, 105, 108, 101], _, rfl, by unfold notB; decide, by unfold notB; decide, by decide, fun h => absurd (show (7 : Int) = 6 from h) (by decide)⟩
 ·have h6 : ∀ (B E H : List Lx.Tok), ∃ ts, tkOne 6 f1 f2 l3 B l5 E H = wdT [105, 102] :: ts := by
   intro B E H; show ∃ ts, tkEls l5 (((([wdT [105, 102], sgT [40]] ++ tk0 l3) ++ [sgT [41], sgT [123]]) ++ B) ++ [sgT [125]]) E H = _; unfold tkEls; by_cases c : l5.length = 0
   ·rw [if_pos c]; exact ⟨_, rfl⟩
   rw [if_neg c]; by_cases c2 : l5.length = 1 ∧ (rd_T41 l5 0).f0 = 6
   ·rw [if_pos c2]; exact ⟨_, rfl⟩
   ·rw [if_neg c2]; exact ⟨_, rfl⟩
  obtain ⟨ts, e2⟩ := h6 (tkB l4) (tkB l5) (tkH l5); exact ⟨_, ts, e2, by unfold notB; decide, by unfold notB; decide, by decide, fun _ => rfl⟩
theorem not_at {T : List S58} {i : Int} {t : Lx.Tok} {ts : List Lx.Tok} {x : List UInt8} (h : At T i (t :: ts)) (hn : notB t x) : isB (rd_T58 T i) (bs x) = false := by
 rw [isB_at h]; exact hn
structure SFit (b : Nat) (x : S41) (s : PSt) : Prop where
 fit : fitSt (fitB b) x = true
 op : s.op = 0
 bl0 : 0 ≤ s.bl
 bl1 : s.bl + (b : Int) ≤ 12
 n0 : 0 ≤ s.nodes
 n1 : s.nodes + ((cntS x + 1 : Nat) : Int) ≤ 600
def NxS (T : List S58) (i : Int) : Prop := (0 ≤ i ∧ i < T.length) ∧ isB (rd_T58 T i) (bs [101, 108, 115, 101]) = false
def SP (T : List S58) (h b : Nat) (x : S41) : Prop := ∀ s, SFit b x s → At T s.at_ (tkS x) → NxS T (s.at_ + ((tkS x).length : Int)) → (tkS x).length ≤ h → stG T (ab0 T) h s = some (.ok (x, aft s (tkS x).length (cntS x + 1)))
theorem tkS_len {x : S41} (h : headB x = true) : 1 ≤ (tkS x).length := by
 obtain ⟨t, ts, e, _⟩ := tkS_head h; rw [e]; simp
theorem tkB_len {b : Nat} : ∀ {l : List S41}, l.all (fitSt (fitB b)) = true → l.length ≤ (tkB l).length
 | [], _ => xlr _
 | x :: xs, h => by
  rw [List.all_cons, Bool.and_eq_true] at h; have h1 := tkS_len (fit_open h.1).1; have h2 := tkB_len h.2; simp only [tkB, List.length_append, List.length_cons]
  omega
theorem sres_eq {x x' : S41} {a a' n n' o o' b b' : Int} (h0 : x = x') (h1 : a = a') (h2 : n = n') (h3 : o = o') (h4 : b = b') : (some (.ok (x, ⟨a, n, o, b⟩)) : Option SRes) = some (.ok (x', ⟨a', n', o', b'⟩)) := by rw [h0, h1, h2, h3, h4]
theorem cntB_len (l : List S41) : l.length ≤ cntB l := len_cntB l
theorem body_ok {T : List S58} {h b : Nat} (hS : ∀ x, SP T h b x) : ∀ (l xs : List S41) (s : PSt) (K : Nat), l.all (fitSt (fitB b)) = true → s.op = 0 → 1 ≤ s.bl → s.bl + (b : Int) ≤ 12 → 0 ≤ s.nodes → s.nodes + ((cntB l : Nat) : Int) ≤ 600 →
  At T s.at_ (tkB l ++ [sgT [125]]) → l.length < K → xs.length + l.length < 1000 → (tkB l).length ≤ h →
  bodyL T (stG T (ab0 T) h) K xs s = some (.ok (xs ++ l, ⟨s.at_ + ((tkB l).length : Int) + 1, s.nodes + ((cntB l : Nat) : Int), s.op, s.bl - 1⟩))
 | [], xs, s, K, hf, ho, hb, hb1, hn, hn1, hA, hK, hx, hh => by
  obtain ⟨k, rfl⟩ : ∃ k, K = k + 1 := ⟨K - 1, by omega⟩
  have hA' : At T s.at_ [sgT [125]] := hA; rw [bodyL, if_pos ⟨hA'.1.1, by simpa using hx, hb, by omega⟩, if_pos (by rw [show (⟨#[125]⟩ : ByteArray) = bs [125] from rfl, isB_at hA']; decide), List.append_nil]
  simp only [tkB, cntB, List.length_nil]
  congr 3
  refine (show (⟨_, _, _, _⟩ : PSt) = ⟨_, _, _, _⟩ from ?_)
  congr 1
  ·omega
  ·omega
 | x :: l, xs, s, K, hf, ho, hb, hb1, hn, hn1, hA, hK, hx, hh => by
  obtain ⟨k, rfl⟩ : ∃ k, K = k + 1 := ⟨K - 1, by omega⟩
  rw [List.all_cons, Bool.and_eq_true] at hf; obtain ⟨hf1, hf2⟩ := hf; obtain ⟨t, ts, et, hnb, hne, _⟩ := tkS_head (fit_open hf1).1; simp only [tkB, cntB, List.length_append, List.length_cons, List.append_assoc] at hA hn1 hx hh hK ⊢; obtain ⟨a1, a2⟩ := at_app hA; have a1' := a1; rw [et] at a1'
  have hN : NxS T (s.at_ + ((tkS x).length : Int)) := by
   cases l with
   | nil =>
    have a2' : At T (s.at_ + ((tkS x).length : Int)) [sgT [125]] := a2; exact ⟨a2'.1.1, not_at a2' (by unfold notB; decide)⟩
   | cons y ys =>
    rw [List.all_cons, Bool.and_eq_true] at hf2; obtain ⟨t2, ts2, et2, _, hne2, _⟩ := tkS_head (fit_open hf2.1).1; simp only [tkB, List.append_assoc] at a2; obtain ⟨a3, _⟩ := at_app a2; rw [et2] at a3; exact ⟨a3.1.1, not_at a3 hne2⟩
  have hst := hS x s ⟨hf1, ho, by omega, hb1, hn, by omega⟩ a1 hN (by omega)
  rw [bodyL, if_pos ⟨a1'.1.1, by omega, hb, by omega⟩, if_neg (by rw [show (⟨#[125]⟩ : ByteArray) = bs [125] from rfl, not_at a1' hnb]; decide)]
  refine (ex_at hst).trans ?_
  refine (body_ok hS l (xs ++ [x]) (aft s (tkS x).length (cntS x + 1)) k hf2 ho hb hb1 (by show 0 ≤ s.nodes + ((cntS x + 1 : Nat) : Int); omega) (by show s.nodes + ((cntS x + 1 : Nat) : Int) + _ ≤ 600; omega) a2 (by omega) (z_171) (by omega)).trans ?_
  rw [List.append_assoc]; show some (Except.ok (xs ++ (x :: l), (⟨s.at_ + ((tkS x).length : Int) + ((tkB l).length : Int) + 1, s.nodes + ((cntS x + 1 : Nat) : Int) + ((cntB l : Nat) : Int), s.op, s.bl - 1⟩ : PSt))) = _
  congr 3
  refine (show (⟨_, _, _, _⟩ : PSt) = ⟨_, _, _, _⟩ from ?_)
  congr 1
  ·omega
  ·omega
theorem block_ok {T : List S58} {h b : Nat} (hS : ∀ x, SP T h b x) (l : List S41) (s : PSt) (hf : l.all (fitSt (fitB b)) = true) (ho : s.op = 0) (hb : 0 ≤ s.bl) (hb1 : s.bl + ((b + 1 : Nat) : Int) ≤ 12) (hn : 0 ≤ s.nodes) (hn1 : s.nodes + ((cntB l : Nat) : Int) ≤ 600)
  (hA : At T s.at_ (([sgT [123]] ++ tkB l) ++ [sgT [125]])) (hh : (tkB l).length ≤ h) :
  bodyS T (stG T (ab0 T) h) (T.length + 1) s = some (.ok (l, ⟨s.at_ + ((tkB l).length : Int) + 2, s.nodes + ((cntB l : Nat) : Int), s.op, s.bl⟩)) := by
 have hlen := at_len hA (by simp); have h1 := tkB_len hf; have h2 := cntB_len l; simp only [List.length_append, List.length_cons, List.length_nil] at hlen; have hA' : At T s.at_ (sgT [123] :: (tkB l ++ [sgT [125]])) := by simpa using hA
 unfold bodyS; refine (want_at (x := [123]) rfl hA').trans ?_; refine (deeper_at (s := ⟨s.at_ + 1, s.nodes, s.op, s.bl⟩) hb (by show s.bl + 1 ≤ 12; omega)).trans ?_; refine (body_ok hS l [] ⟨s.at_ + 1, s.nodes, s.op, s.bl + 1⟩ (T.length + 1) hf ho (by show 1 ≤ s.bl + 1; omega) (by show s.bl + 1 + (b : Int) ≤ 12; omega) hn hn1 hA'.2 (by omega) (by simp only [List.length_nil]; omega) hh).trans ?_; rw [List.nil_append]; show some (Except.ok (l, (⟨s.at_ + 1 + ((tkB l).length : Int) + 1, s.nodes + ((cntB l : Nat) : Int), s.op, s.bl + 1 - 1⟩ : PSt))) = _
 congr 3
 refine (show (⟨_, _, _, _⟩ : PSt) = ⟨_, _, _, _⟩ from ?_)
 congr 1
 ·omega
 ·omega
theorem okA_fit {x : S38} (h : [x].all okA = true) : fitE x = true ∧ deepE x ≤ 48 := by
 rw [List.all_cons, Bool.and_eq_true] at h; exact okA_open h.1
theorem test_ok {T : List S58} {x : S38} {s : PSt} (hx : fitE x = true) (hd : deepE x ≤ 48) (ho : s.op = 0) (hn : 0 ≤ s.nodes) (hn1 : s.nodes + ((cntE x : Nat) : Int) ≤ 600) {ts : List Lx.Tok} (hA : At T s.at_ (([sgT [40]] ++ tkE x) ++ (sgT [41] :: ts))) :
  testS T (ab0 T) s = some (.ok ((x, (deepE x : Int)), ⟨s.at_ + ((tkE x).length : Int) + 2, s.nodes + ((cntE x : Nat) : Int), s.op, s.bl⟩)) := by
 obtain ⟨a1, a3⟩ := at_app hA; obtain ⟨a1, a2⟩ := at_app a1; have e2 : s.at_ + (([sgT [40]].length : Nat) : Int) = s.at_ + 1 := rfl; rw [e2] at a2; have e3 : s.at_ + ((([sgT [40]] ++ tkE x).length : Nat) : Int) = s.at_ + 1 + ((tkE x).length : Int) := z_171; rw [e3] at a3; unfold testS; refine (want_at (x := [40]) rfl a1).trans ?_; refine (enter_at (s := ⟨s.at_ + 1, s.nodes, s.op, s.bl⟩) (by show 0 ≤ s.op; omega) (by show s.op + 1 ≤ 48; omega)).trans ?_; refine (ex_at (ex_ok (s := ⟨s.at_ + 1, s.nodes, s.op + 1, s.bl⟩) ⟨hx, hd, z_148, z_172, hn, hn1⟩ a2 rk_rp a3)).trans ?_; refine (leave_at (x := [41]) (s := aft ⟨s.at_ + 1, s.nodes, s.op + 1, s.bl⟩ (tkE x).length (cntE x)) rfl a3 (z_173) (z_174)).trans ?_; refine res_eq rfl rfl ?_ rfl ?_
 ·show s.at_ + 1 + ((tkE x).length : Int) + 1 = _; omega
 ·show s.op + 1 - 1 = s.op; omega
end Go.Proofs.Ytobkdmmnbnpemaa.K
