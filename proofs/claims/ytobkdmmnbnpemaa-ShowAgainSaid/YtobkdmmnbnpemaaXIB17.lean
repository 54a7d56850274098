/- Texts of the claim, one behind the other. -/
import Derived.Test.YtobkdmmnbnpemaaXIB16
import Derived.Test.YtobkdmmnbnpemaaXIB15
import Derived.Test.YtobkdmmnbnpemaaXIB05
import Derived.Test.YtobkdmmnbnpemaaXIB06
set_option maxHeartbeats 16000000
set_option maxRecDepth 100000
namespace Go.Proofs.Ytobkdmmnbnpemaa.K
open Go.RowKit Go.Proofs.YtobkdmmnbnpemaaW.PrintWords
set_option linter.unusedVariables false
set_option linter.unusedSimpArgs false
theorem toL_at {T : List S58} {i : Int} {t : Lx.Tok} {ts : List Lx.Tok} (h : At T i (t :: ts)) : (rd_T58 T i).f1.toList = t.tx := by
 rw [h.1.2.2.1, bs_toList]
theorem word_end {T : List S58} {h : Nat} {s s1 : PSt} {x : S41} {t : Lx.Tok} {ts us : List Lx.Tok} (hk : t.kd = 3) (hA : At T s.at_ (t :: ts)) (hx : ¬ (x.f0 = 6 ∨ x.f0 = 7)) (hw : wordS T (ab0 T) (stG T (ab0 T) h) (T.length + 1) s (rd_T58 T s.at_) = some (.ok (x, s1)))
  (hE : At T s1.at_ (sgT [59] :: us)) (h0 : 0 ≤ s1.nodes) (h1 : s1.nodes + 1 ≤ 600) : stG T (ab0 T) (h + 1) s = some (.ok (x, ⟨s1.at_ + 1, s1.nodes + 1, s1.op, s1.bl⟩)) := by
 show stmtS T (ab0 T) (wordS T (ab0 T) (stG T (ab0 T) h) (T.length + 1)) s = _; unfold stmtS; rw [if_pos hA.1.1, if_neg (by rw [hA.1.2.1, hk]; decide), if_pos (by rw [hA.1.2.1, hk])]; exact (ex_at hw).trans (end_at hx hE h0 h1)
theorem word_end2 {T : List S58} {h : Nat} {s s1 : PSt} {x : S41} {t : Lx.Tok} {ts : List Lx.Tok} (hk : t.kd = 3) (hA : At T s.at_ (t :: ts)) (hx : x.f0 = 6 ∨ x.f0 = 7) (hw : wordS T (ab0 T) (stG T (ab0 T) h) (T.length + 1) s (rd_T58 T s.at_) = some (.ok (x, s1)))
  (h0 : 0 ≤ s1.nodes) (h1 : s1.nodes + 1 ≤ 600) : stG T (ab0 T) (h + 1) s = some (.ok (x, ⟨s1.at_, s1.nodes + 1, s1.op, s1.bl⟩)) := by
 show stmtS T (ab0 T) (wordS T (ab0 T) (stG T (ab0 T) h) (T.length + 1)) s = _; unfold stmtS; rw [if_pos hA.1.1, if_neg (by rw [hA.1.2.1, hk]; decide), if_pos (by rw [hA.1.2.1, hk])]; exact (ex_at hw).trans (end_at2 hx h0 h1)
theorem exS_ok {T : List S58} {kd cl : Int} {nm : ByteArray} {x : S38} {s : PSt} (hx : fitE x = true) (hd : deepE x ≤ 48) (ho : s.op = 0) (hn : 0 ≤ s.nodes) (hn1 : s.nodes + ((cntE x : Nat) : Int) ≤ 600) (hA : At T s.at_ (tkE x)) {ts : List Lx.Tok} (hE : At T (s.at_ + ((tkE x).length : Int)) (sgT [59] :: ts)) :
  exS T (ab0 T) kd nm cl s = some (.ok (⟨kd, nm, cl, [x], [], []⟩, aft s (tkE x).length (cntE x))) := by
 unfold exS; exact ex_at (ex_ok ⟨hx, hd, by omega, by omega, hn, hn1⟩ hA rk_sc hE)
theorem word_chain {T : List S58} {st : PSt → Option SRes} {K : Nat} {s : PSt} {t : S58} {w : List UInt8} (hg : 0 ≤ s.at_ ∧ s.at_ < T.length) (ht : t.f1.toList = w) : wordS T (ab0 T) st K s t =
  if w = ([118, 97, 114] : List UInt8) then kindK T ⟨s.at_ + 1, s.nodes, s.op, s.bl⟩ 2 fun n s1 => wantK T s1 ⟨#[61]⟩ fun _ s2 => exS T (ab0 T) 1 n.f1 0 s2
  else if w = ([109] : List UInt8) then wantK T ⟨s.at_ + 1, s.nodes, s.op, s.bl⟩ ⟨#[91]⟩ fun o s1 => enterK s1 o.f3 fun s2 => exK (ab0 T 1 s2) fun p s3 => leaveK T s3 ⟨#[93]⟩ fun s4 => wantK T s4 ⟨#[61]⟩ fun _ s5 => exK (ab0 T 1 s5) fun y s6 => some (.ok (⟨3, ⟨#[]⟩, 0, [p.1, y.1], [], []⟩, s6))
  else if w = ([101, 109, 105, 116] : List UInt8) then exS T (ab0 T) 4 ⟨#[]⟩ 0 ⟨s.at_ + 1, s.nodes, s.op, s.bl⟩
  else if w = ([105, 110, 116, 111] : List UInt8) then kindK T ⟨s.at_ + 1, s.nodes, s.op, s.bl⟩ 1 fun n s1 => if 255 < n.f2 then some (.error (40, n.f3)) else exS T (ab0 T) 5 ⟨#[]⟩ n.f2 s1
  else if w = ([102, 97, 105, 108] : List UInt8) then exS T (ab0 T) 8 ⟨#[]⟩ 0 ⟨s.at_ + 1, s.nodes, s.op, s.bl⟩
  else if w = ([115, 116, 111, 112] : List UInt8) then some (.ok (⟨9, ⟨#[]⟩, 0, [], [], []⟩, ⟨s.at_ + 1, s.nodes, s.op, s.bl⟩))
  else if w = ([119, 104, 105, 108, 101] : List UInt8) then exK (testS T (ab0 T) ⟨s.at_ + 1, s.nodes, s.op, s.bl⟩) fun p s1 => exK (bodyS T st K s1) fun l s2 => some (.ok (⟨7, ⟨#[]⟩, 0, [p.1], l, []⟩, s2))
  else if w = ([105, 102] : List UInt8) then branchS T (ab0 T) st K ⟨s.at_ + 1, s.nodes, s.op, s.bl⟩
  else some (.error (40, t.f3)) := by
 unfold wordS; rw [if_pos hg, ht]
theorem els_at {T : List S58} {i : Int} {l5 : List S41} {B E H : List Lx.Tok} (h : At T i (tkEls l5 B E H)) : At T i B := by
 unfold tkEls at h; by_cases c : l5.length = 0
 ·rw [if_pos c] at h; exact h
 rw [if_neg c] at h; by_cases c2 : l5.length = 1 ∧ (rd_T41 l5 0).f0 = 6
 ·rw [if_pos c2] at h; exact (at_app (at_app h).1).1
 ·rw [if_neg c2] at h; exact (at_app (at_app (at_app h).1).1).1
theorem st_ok (T : List S58) : ∀ (h b : Nat) (x : S41), SP T h b x
 | 0, b, x => fun s F hA hN hh => by
  have := tkS_len (fit_open F.fit).1
  omega
 | h + 1, b, x => fun s F hA hN hh => by
  have hS := st_ok T h; have n0 := F.n0; have n1 := F.n1; have op := F.op; have bl0 := F.bl0; have bl1 := F.bl1; obtain ⟨hh1, ha, hbb, hf4, hf5⟩ := fit_open F.fit; clear F; obtain ⟨k, f1, f2, l3, l4, l5⟩ := x; have e0 : tkS ⟨k, f1, f2, l3, l4, l5⟩ = tkOne k f1 f2 l3 (tkB l4) l5 (tkB l5) (tkH l5) := rfl; rw [e0] at hA hN hh ⊢; dsimp only at ha hbb hf4 hf5; rcases head_cases _ _ _ _ _ _ hh1 with ⟨hk, ⟨x, rfl⟩, hnm, rfl, rfl, rfl⟩ | ⟨rfl, ⟨x, y, rfl⟩, rfl, rfl, rfl, rfl⟩ | ⟨hk, ⟨x, rfl⟩, rfl, rfl, rfl, rfl⟩ | ⟨rfl, ⟨x, rfl⟩, rfl, h25, rfl, rfl⟩ | ⟨rfl, rfl, rfl, rfl, rfl, rfl⟩ | ⟨rfl, ⟨x, rfl⟩, rfl, rfl, rfl⟩ | ⟨rfl, ⟨x, rfl⟩, rfl, rfl⟩
  ·obtain ⟨hx, hd⟩ := okA_fit ha
   simp only [cntS, cntL, cntB] at n1; rcases hk with rfl | rfl
   ·have e1 : tkOne 1 f1 0 [x] (tkB []) [] (tkB []) (tkH []) = ((([wdT [118, 97, 114]] ++ [⟨2, lst f1, 0⟩]) ++ [sgT [61]]) ++ tkE x) ++ [sgT [59]] := rfl
    rw [e1] at hA hN hh ⊢; obtain ⟨a1, a3⟩ := at_app hA; obtain ⟨a1, a2⟩ := at_app a1; have a1' : At T s.at_ [wdT [118, 97, 114], ⟨2, lst f1, 0⟩, sgT [61]] := a1; have g1 := a1'.2; have g2 := g1.2
    have q2 : At T (s.at_ + 1 + 1 + 1) (tkE x) := by
     have e : s.at_ + (((([wdT [118, 97, 114]] ++ [(⟨2, lst f1, 0⟩ : Lx.Tok)]) ++ [sgT [61]]).length : Nat) : Int) = s.at_ + 1 + 1 + 1 := z_171; rw [← e]; exact a2
    have q3 : At T (s.at_ + 1 + 1 + 1 + ((tkE x).length : Int)) [sgT [59]] := by
     have e : s.at_ + ((((([wdT [118, 97, 114]] ++ [(⟨2, lst f1, 0⟩ : Lx.Tok)]) ++ [sgT [61]]) ++ tkE x).length : Nat) : Int) = s.at_ + 1 + 1 + 1 + ((tkE x).length : Int) := z_171; rw [← e]; exact a3
    have hw : wordS T (ab0 T) (stG T (ab0 T) h) (T.length + 1) s (rd_T58 T s.at_) = some (.ok (⟨1, (rd_T58 T (s.at_ + 1)).f1, 0, [x], [], []⟩, aft ⟨s.at_ + 1 + 1 + 1, s.nodes, s.op, s.bl⟩ (tkE x).length (cntE x))) := by
     rw [word_chain (w := [118, 97, 114]) a1'.1.1 (toL_at a1'), if_pos rfl]; refine (kind_at (s := ⟨s.at_ + 1, s.nodes, s.op, s.bl⟩) rfl g1).trans ?_; refine (want_at (x := [61]) (s := ⟨s.at_ + 1 + 1, s.nodes, s.op, s.bl⟩) rfl g2).trans ?_; exact z_176
    refine (word_end rfl a1' (by show ¬ ((1 : Int) = 6 ∨ (1 : Int) = 7); decide) hw q3 (z_177) (z_178)).trans ?_
    refine sres_eq ?_ ?_ ?_ rfl rfl
    ·rw [g1.1.2.2.1]
     show (⟨1, bs (lst f1), 0, [x], [], []⟩ : S41) = _; rw [bs_lst]
    ·simp only [aft, List.length_append, List.length_cons, List.length_nil]; omega
    ·simp only [aft, cntS, cntL, cntB]; omega
   ·have e1 : tkOne 2 f1 0 [x] (tkB []) [] (tkB []) (tkH []) = (([⟨2, lst f1, 0⟩] ++ [sgT [61]]) ++ tkE x) ++ [sgT [59]] := rfl
    rw [e1] at hA hN hh ⊢; obtain ⟨a1, a3⟩ := at_app hA; obtain ⟨a1, a2⟩ := at_app a1; have a1' : At T s.at_ [⟨2, lst f1, 0⟩, sgT [61]] := a1; have g1 := a1'.2
    have q2 : At T (s.at_ + 1 + 1) (tkE x) := by
     have e : s.at_ + ((([(⟨2, lst f1, 0⟩ : Lx.Tok)] ++ [sgT [61]]).length : Nat) : Int) = s.at_ + 1 + 1 := z_171; rw [← e]; exact a2
    have q3 : At T (s.at_ + 1 + 1 + ((tkE x).length : Int)) [sgT [59]] := by
     have e : s.at_ + (((([(⟨2, lst f1, 0⟩ : Lx.Tok)] ++ [sgT [61]]) ++ tkE x).length : Nat) : Int) = s.at_ + 1 + 1 + ((tkE x).length : Int) := z_171; rw [← e]; exact a3
    show stmtS T (ab0 T) (wordS T (ab0 T) (stG T (ab0 T) h) (T.length + 1)) s = _; unfold stmtS; rw [if_pos a1'.1.1, if_pos (by rw [a1'.1.2.1])]; refine (want_at (x := [61]) (s := ⟨s.at_ + 1, s.nodes, s.op, s.bl⟩) rfl g1).trans ?_; refine (ex_at (ex_ok (s := ⟨s.at_ + 1 + 1, s.nodes, s.op, s.bl⟩) ⟨hx, hd, by show 0 ≤ s.op; omega, by show s.op + (deepE x : Int) ≤ 49; omega, n0, z_179⟩ q2 rk_sc q3)).trans ?_
    refine (end_at (s := aft ⟨s.at_ + 1 + 1, s.nodes, s.op, s.bl⟩ (tkE x).length (cntE x)) (by show ¬ ((2 : Int) = 6 ∨ (2 : Int) = 7); decide) q3 (z_177) (z_178)).trans ?_
    refine sres_eq ?_ ?_ ?_ rfl rfl
    ·rw [a1'.1.2.2.1]
     show (⟨2, bs (lst f1), 0, [x], [], []⟩ : S41) = _; rw [bs_lst]
    ·simp only [aft, List.length_append, List.length_cons, List.length_nil]; omega
    ·simp only [aft, cntS, cntL, cntB]; omega
  ·have hx : fitE x = true ∧ deepE x ≤ 48 := by
    simp only [List.all_cons, Bool.and_eq_true] at ha; exact okA_open ha.1
   have hy : fitE y = true ∧ deepE y ≤ 48 := by
    simp only [List.all_cons, Bool.and_eq_true] at ha; exact okA_open ha.2.1
   simp only [cntS, cntL, cntB] at n1; have e1 : tkOne 3 ⟨#[]⟩ 0 [x, y] (tkB []) [] (tkB []) (tkH []) = ((([wdT [109], sgT [91]] ++ tkE x) ++ [sgT [93], sgT [61]]) ++ tkE y) ++ [sgT [59]] := rfl; rw [e1] at hA hN hh ⊢; obtain ⟨a1, a5⟩ := at_app hA; obtain ⟨a1, a4⟩ := at_app a1; obtain ⟨a1, a3⟩ := at_app a1; obtain ⟨a1, a2⟩ := at_app a1; have g1 := a1.2
   have q2 : At T (s.at_ + 1 + 1) (tkE x) := by
    have e : s.at_ + (([wdT [109], sgT [91]].length : Nat) : Int) = s.at_ + 1 + 1 := z_171; rw [← e]; exact a2
   have q3 : At T (s.at_ + 1 + 1 + ((tkE x).length : Int)) [sgT [93], sgT [61]] := by
    have e : s.at_ + ((([wdT [109], sgT [91]] ++ tkE x).length : Nat) : Int) = s.at_ + 1 + 1 + ((tkE x).length : Int) := z_171; rw [← e]; exact a3
   have q4 : At T (s.at_ + 1 + 1 + ((tkE x).length : Int) + 1 + 1) (tkE y) := by
    have e : s.at_ + (((([wdT [109], sgT [91]] ++ tkE x) ++ [sgT [93], sgT [61]]).length : Nat) : Int) = s.at_ + 1 + 1 + ((tkE x).length : Int) + 1 + 1 := z_171; rw [← e]; exact a4
   have q5 : At T (s.at_ + 1 + 1 + ((tkE x).length : Int) + 1 + 1 + ((tkE y).length : Int)) [sgT [59]] := by
    have e : s.at_ + ((((([wdT [109], sgT [91]] ++ tkE x) ++ [sgT [93], sgT [61]]) ++ tkE y).length : Nat) : Int) = s.at_ + 1 + 1 + ((tkE x).length : Int) + 1 + 1 + ((tkE y).length : Int) := z_171; rw [← e]; exact a5
   have hw : wordS T (ab0 T) (stG T (ab0 T) h) (T.length + 1) s (rd_T58 T s.at_) = some (.ok (⟨3, ⟨#[]⟩, 0, [x, y], [], []⟩, ⟨s.at_ + 1 + 1 + ((tkE x).length : Int) + 1 + 1 + ((tkE y).length : Int), s.nodes + ((cntE x : Nat) : Int) + ((cntE y : Nat) : Int), s.op, s.bl⟩)) := by
    rw [word_chain (w := [109]) a1.1.1 (toL_at a1), if_neg (by decide), if_pos rfl]; refine (want_at (x := [91]) (s := ⟨s.at_ + 1, s.nodes, s.op, s.bl⟩) rfl g1).trans ?_; refine (enter_at (s := ⟨s.at_ + 1 + 1, s.nodes, s.op, s.bl⟩) (by show 0 ≤ s.op; omega) (by show s.op + 1 ≤ 48; omega)).trans ?_; refine (ex_at (ex_ok (s := ⟨s.at_ + 1 + 1, s.nodes, s.op + 1, s.bl⟩) ⟨hx.1, hx.2, z_148, z_172, n0, z_179⟩ q2 rk_rb q3)).trans ?_; refine (leave_at (x := [93]) (s := aft ⟨s.at_ + 1 + 1, s.nodes, s.op + 1, s.bl⟩ (tkE x).length (cntE x)) rfl q3 (z_173) (z_174)).trans ?_; refine (want_at (x := [61]) (s := ⟨s.at_ + 1 + 1 + ((tkE x).length : Int) + 1, s.nodes + ((cntE x : Nat) : Int), s.op + 1 - 1, s.bl⟩) rfl q3.2).trans ?_; refine (ex_at (ex_ok (s := ⟨s.at_ + 1 + 1 + ((tkE x).length : Int) + 1 + 1, s.nodes + ((cntE x : Nat) : Int), s.op + 1 - 1, s.bl⟩) ⟨hy.1, hy.2, by show 0 ≤ s.op + 1 - 1; omega, by show s.op + 1 - 1 + (deepE y : Int) ≤ 49; omega, z_177, by show s.nodes + ((cntE x : Nat) : Int) + ((cntE y : Nat) : Int) ≤ 600; omega⟩ q4 rk_sc q5)).trans ?_
    exact sres_eq rfl rfl rfl (by show s.op + 1 - 1 = s.op; omega) rfl
   refine (word_end rfl a1 (by show ¬ ((3 : Int) = 6 ∨ (3 : Int) = 7); decide) hw q5 (by show 0 ≤ s.nodes + ((cntE x : Nat) : Int) + ((cntE y : Nat) : Int); omega) (by show s.nodes + ((cntE x : Nat) : Int) + ((cntE y : Nat) : Int) + 1 ≤ 600; omega)).trans ?_
   refine sres_eq rfl ?_ ?_ rfl rfl
   ·simp only [List.length_append, List.length_cons, List.length_nil]; omega
   ·simp only [cntS, cntL, cntB]; omega
  ·obtain ⟨hx, hd⟩ := okA_fit ha
   simp only [cntS, cntL, cntB] at n1
   obtain ⟨w, hw0, e1⟩ : ∃ w : List UInt8, ((k = 4 ∧ w = [101, 109, 105, 116]) ∨ (k = 8 ∧ w = [102, 97, 105, 108])) ∧ tkOne k ⟨#[]⟩ 0 [x] (tkB []) [] (tkB []) (tkH []) = ([wdT w] ++ tkE x) ++ [sgT [59]] := by
    rcases hk with e | e
    ·subst e; exact ⟨_, .inl ⟨rfl, rfl⟩, rfl⟩
    ·subst e; exact ⟨_, .inr ⟨rfl, rfl⟩, rfl⟩
   rw [e1] at hA hN hh ⊢; obtain ⟨a1, a3⟩ := at_app hA; obtain ⟨a1, a2⟩ := at_app a1; have q2 : At T (s.at_ + 1) (tkE x) := a2
   have q3 : At T (s.at_ + 1 + ((tkE x).length : Int)) [sgT [59]] := by
    have e : s.at_ + ((([wdT w] ++ tkE x).length : Nat) : Int) = s.at_ + 1 + ((tkE x).length : Int) := z_171; rw [← e]; exact a3
   have hw : wordS T (ab0 T) (stG T (ab0 T) h) (T.length + 1) s (rd_T58 T s.at_) = some (.ok (⟨k, ⟨#[]⟩, 0, [x], [], []⟩, aft ⟨s.at_ + 1, s.nodes, s.op, s.bl⟩ (tkE x).length (cntE x))) := by
    rw [word_chain (w := w) a1.1.1 (toL_at a1)]; rcases hw0 with ⟨rfl, rfl⟩ | ⟨rfl, rfl⟩
    ·rw [if_neg (by decide), if_neg (by decide), if_pos rfl]
     exact z_176
    ·rw [if_neg (by decide), if_neg (by decide), if_neg (by decide), if_neg (by decide), if_pos rfl]
     exact z_176
   refine (word_end rfl a1 (by show ¬ (k = 6 ∨ k = 7); omega) hw q3 (z_177) (z_178)).trans ?_
   refine sres_eq rfl ?_ ?_ rfl rfl
   ·simp only [aft, List.length_append, List.length_cons, List.length_nil]; omega
   ·simp only [aft, cntS, cntL, cntB]; omega
  ·obtain ⟨hx, hd⟩ := okA_fit ha
   simp only [cntS, cntL, cntB] at n1; have e1 : tkOne 5 ⟨#[]⟩ f2 [x] (tkB []) [] (tkB []) (tkH []) = (([wdT [105, 110, 116, 111]] ++ [⟨1, textB f2, f2⟩]) ++ tkE x) ++ [sgT [59]] := rfl; rw [e1] at hA hN hh ⊢; obtain ⟨a1, a3⟩ := at_app hA; obtain ⟨a1, a2⟩ := at_app a1; have a1' : At T s.at_ [wdT [105, 110, 116, 111], ⟨1, textB f2, f2⟩] := a1; have g1 := a1'.2
   have q2 : At T (s.at_ + 1 + 1) (tkE x) := by
    have e : s.at_ + ((([wdT [105, 110, 116, 111]] ++ [(⟨1, textB f2, f2⟩ : Lx.Tok)]).length : Nat) : Int) = s.at_ + 1 + 1 := z_171; rw [← e]; exact a2
   have q3 : At T (s.at_ + 1 + 1 + ((tkE x).length : Int)) [sgT [59]] := by
    have e : s.at_ + (((([wdT [105, 110, 116, 111]] ++ [(⟨1, textB f2, f2⟩ : Lx.Tok)]) ++ tkE x).length : Nat) : Int) = s.at_ + 1 + 1 + ((tkE x).length : Int) := z_171; rw [← e]; exact a3
   have hw : wordS T (ab0 T) (stG T (ab0 T) h) (T.length + 1) s (rd_T58 T s.at_) = some (.ok (⟨5, ⟨#[]⟩, (rd_T58 T (s.at_ + 1)).f2, [x], [], []⟩, aft ⟨s.at_ + 1 + 1, s.nodes, s.op, s.bl⟩ (tkE x).length (cntE x))) := by
    rw [word_chain (w := [105, 110, 116, 111]) a1'.1.1 (toL_at a1'), if_neg (by decide), if_neg (by decide), if_neg (by decide), if_pos rfl]; refine (kind_at (s := ⟨s.at_ + 1, s.nodes, s.op, s.bl⟩) rfl g1).trans ?_; dsimp only; rw [if_neg (by rw [g1.1.2.2.2]; show ¬ 255 < f2; omega)]; exact z_176
   refine (word_end rfl a1' (by show ¬ ((5 : Int) = 6 ∨ (5 : Int) = 7); decide) hw q3 (z_177) (z_178)).trans ?_
   refine sres_eq ?_ ?_ ?_ rfl rfl
   ·rw [g1.1.2.2.2]
   ·simp only [aft, List.length_append, List.length_cons, List.length_nil]; omega
   ·simp only [aft, cntS, cntL, cntB]; omega
  ·simp only [cntS, cntL, cntB] at n1
   have e1 : tkOne 9 ⟨#[]⟩ 0 [] (tkB []) [] (tkB []) (tkH []) = [wdT [115, 116, 111, 112], sgT [59]] := rfl; rw [e1] at hA hN hh ⊢
   have hw : wordS T (ab0 T) (stG T (ab0 T) h) (T.length + 1) s (rd_T58 T s.at_) = some (.ok (⟨9, ⟨#[]⟩, 0, [], [], []⟩, ⟨s.at_ + 1, s.nodes, s.op, s.bl⟩)) := by
    rw [word_chain (w := [115, 116, 111, 112]) hA.1.1 (toL_at hA), if_neg (by decide), if_neg (by decide), if_neg (by decide), if_neg (by decide), if_neg (by decide), if_pos rfl]
   refine (word_end rfl hA (by show ¬ ((9 : Int) = 6 ∨ (9 : Int) = 7); decide) hw hA.2 n0 (by show s.nodes + 1 ≤ 600; omega)).trans ?_
   refine sres_eq rfl ?_ ?_ rfl rfl
   ·simp only [List.length_append, List.length_cons, List.length_nil]; omega
   ·simp only [cntS, cntL, cntB]; omega
  ·obtain ⟨hx, hd⟩ := okA_fit ha
   simp only [cntS, cntL, cntB] at n1; have hb0 := hbb (by decide : loopsB 7 = true); obtain ⟨b', rfl⟩ : ∃ b', b = b' + 1 := ⟨b - 1, by omega⟩
   rw [Nat.add_sub_cancel] at hf4; have e1 : tkOne 7 ⟨#[]⟩ 0 [x] (tkB l4) [] (tkB []) (tkH []) = ((([wdT [119, 104, 105, 108, 101], sgT [40]] ++ tkE x) ++ [sgT [41], sgT [123]]) ++ tkB l4) ++ [sgT [125]] := rfl; rw [e1] at hA hN hh ⊢; have hA' : At T s.at_ (wdT [119, 104, 105, 108, 101] :: (([sgT [40]] ++ tkE x) ++ (sgT [41] :: (([sgT [123]] ++ tkB l4) ++ [sgT [125]])))) := by simpa using hA
   have q1 := hA'.2
   have q2 : At T (s.at_ + 1 + ((tkE x).length : Int) + 2) (([sgT [123]] ++ tkB l4) ++ [sgT [125]]) := by
    obtain ⟨_, z⟩ := at_app q1; have z2 := z.2; have e : s.at_ + 1 + ((([sgT [40]] ++ tkE x).length : Nat) : Int) + 1 = s.at_ + 1 + ((tkE x).length : Int) + 2 := z_171; rw [← e]; exact z2
   simp only [List.length_append, List.length_cons, List.length_nil] at hh ⊢
   have hw : wordS T (ab0 T) (stG T (ab0 T) h) (T.length + 1) s (rd_T58 T s.at_) = some (.ok (⟨7, ⟨#[]⟩, 0, [x], l4, []⟩, ⟨s.at_ + 1 + ((tkE x).length : Int) + 2 + ((tkB l4).length : Int) + 2, s.nodes + ((cntE x : Nat) : Int) + ((cntB l4 : Nat) : Int), s.op, s.bl⟩)) := by
    rw [word_chain (w := [119, 104, 105, 108, 101]) hA'.1.1 (toL_at hA'), if_neg (by decide), if_neg (by decide), if_neg (by decide), if_neg (by decide), if_neg (by decide), if_neg (by decide), if_pos rfl]; refine (ex_at (test_ok (s := ⟨s.at_ + 1, s.nodes, s.op, s.bl⟩) hx hd op n0 (z_179) q1)).trans ?_; exact ex_at (block_ok (hS b') l4 ⟨s.at_ + 1 + ((tkE x).length : Int) + 2, s.nodes + ((cntE x : Nat) : Int), s.op, s.bl⟩ hf4 op bl0 (by show s.bl + ((b' + 1 : Nat) : Int) ≤ 12; omega) (z_177) (by show s.nodes + ((cntE x : Nat) : Int) + ((cntB l4 : Nat) : Int) ≤ 600; omega) q2 (by omega))
   refine (word_end2 rfl hA' (.inr rfl) hw (z_180) (by show s.nodes + ((cntE x : Nat) : Int) + ((cntB l4 : Nat) : Int) + 1 ≤ 600; omega)).trans ?_
   refine sres_eq rfl ?_ ?_ rfl rfl
   ·show s.at_ + 1 + ((tkE x).length : Int) + 2 + ((tkB l4).length : Int) + 2 = _; omega
   ·simp only [cntS, cntL, cntB]; omega
  ·obtain ⟨hx, hd⟩ := okA_fit ha
   simp only [cntS, cntL] at n1; have hb0 := hbb (by decide : loopsB 6 = true); obtain ⟨b', rfl⟩ : ∃ b', b = b' + 1 := ⟨b - 1, by omega⟩
   rw [Nat.add_sub_cancel] at hf4 hf5; have e1 : tkOne 6 ⟨#[]⟩ 0 [x] (tkB l4) l5 (tkB l5) (tkH l5) = tkEls l5 (((([wdT [105, 102], sgT [40]] ++ tkE x) ++ [sgT [41], sgT [123]]) ++ tkB l4) ++ [sgT [125]]) (tkB l5) (tkH l5) := rfl; rw [e1] at hA hN hh ⊢; have hbase := els_at hA; have hA' : At T s.at_ (wdT [105, 102] :: (([sgT [40]] ++ tkE x) ++ (sgT [41] :: (([sgT [123]] ++ tkB l4) ++ [sgT [125]])))) := by simpa using hbase
   have q1 := hA'.2
   have q2 : At T (s.at_ + 1 + ((tkE x).length : Int) + 2) (([sgT [123]] ++ tkB l4) ++ [sgT [125]]) := by
    obtain ⟨_, z⟩ := at_app q1; have z2 := z.2; have e : s.at_ + 1 + ((([sgT [40]] ++ tkE x).length : Nat) : Int) + 1 = s.at_ + 1 + ((tkE x).length : Int) + 2 := z_171; rw [← e]; exact z2
   have hbl : ((((([wdT [105, 102], sgT [40]] ++ tkE x) ++ [sgT [41], sgT [123]]) ++ tkB l4) ++ [sgT [125]]).length : Nat) = 5 + (tkE x).length + (tkB l4).length := z_171
   have hl4 : (tkB l4).length ≤ h := by
    have : ((((([wdT [105, 102], sgT [40]] ++ tkE x) ++ [sgT [41], sgT [123]]) ++ tkB l4) ++ [sgT [125]]).length : Nat) ≤ h + 1 := by
     refine Nat.le_trans ?_ hh
     unfold tkEls
     split
     ·exact xlr _
     split
     ·simp only [List.length_append]; omega
     ·simp only [List.length_append]; omega
    omega
   have hbr : ∀ (m : List S41) (at' n' : Int), (isK T ⟨s.at_ + 1 + ((tkE x).length : Int) + 2 + ((tkB l4).length : Int) + 2, s.nodes + ((cntE x : Nat) : Int) + ((cntB l4 : Nat) : Int), s.op, s.bl⟩ ⟨#[101, 108, 115, 101]⟩
     (isK T ⟨s.at_ + 1 + ((tkE x).length : Int) + 2 + ((tkB l4).length : Int) + 2 + 1, s.nodes + ((cntE x : Nat) : Int) + ((cntB l4 : Nat) : Int), s.op, s.bl⟩ ⟨#[105, 102]⟩
      (deeperK ⟨s.at_ + 1 + ((tkE x).length : Int) + 2 + ((tkB l4).length : Int) + 2 + 1, s.nodes + ((cntE x : Nat) : Int) + ((cntB l4 : Nat) : Int), s.op, s.bl⟩ (rd_T58 T (s.at_ + 1 + ((tkE x).length : Int) + 2 + ((tkB l4).length : Int) + 2 + 1)).f3 fun s3 => exK (stG T (ab0 T) h s3) fun y s4 => closeK s4 fun s5 => some (.ok (⟨6, ⟨#[]⟩, 0, [x], l4, [y]⟩, s5)))
      (exK (bodyS T (stG T (ab0 T) h) (T.length + 1) ⟨s.at_ + 1 + ((tkE x).length : Int) + 2 + ((tkB l4).length : Int) + 2 + 1, s.nodes + ((cntE x : Nat) : Int) + ((cntB l4 : Nat) : Int), s.op, s.bl⟩) fun m s3 => some (.ok (⟨6, ⟨#[]⟩, 0, [x], l4, m⟩, s3))))
     (some (.ok (⟨6, ⟨#[]⟩, 0, [x], l4, []⟩, ⟨s.at_ + 1 + ((tkE x).length : Int) + 2 + ((tkB l4).length : Int) + 2, s.nodes + ((cntE x : Nat) : Int) + ((cntB l4 : Nat) : Int), s.op, s.bl⟩))) : Option SRes) = some (.ok (⟨6, ⟨#[]⟩, 0, [x], l4, m⟩, ⟨at', n', s.op, s.bl⟩)) →
     0 ≤ n' → n' + 1 ≤ 600 → stG T (ab0 T) (h + 1) s = some (.ok (⟨6, ⟨#[]⟩, 0, [x], l4, m⟩, ⟨at', n' + 1, s.op, s.bl⟩)) := by
    intro m at' n' hr h0' h1'
    have hw : wordS T (ab0 T) (stG T (ab0 T) h) (T.length + 1) s (rd_T58 T s.at_) = some (.ok (⟨6, ⟨#[]⟩, 0, [x], l4, m⟩, ⟨at', n', s.op, s.bl⟩)) := by
     rw [word_chain (w := [105, 102]) hA'.1.1 (toL_at hA'), if_neg (by decide), if_neg (by decide), if_neg (by decide), if_neg (by decide), if_neg (by decide), if_neg (by decide), if_neg (by decide), if_pos rfl]; unfold branchS; refine (ex_at (test_ok (s := ⟨s.at_ + 1, s.nodes, s.op, s.bl⟩) hx hd op n0 (z_179) q1)).trans ?_; refine (ex_at (block_ok (hS b') l4 ⟨s.at_ + 1 + ((tkE x).length : Int) + 2, s.nodes + ((cntE x : Nat) : Int), s.op, s.bl⟩ hf4 op bl0 (by show s.bl + ((b' + 1 : Nat) : Int) ≤ 12; omega) (z_177) (by show s.nodes + ((cntE x : Nat) : Int) + ((cntB l4 : Nat) : Int) ≤ 600; omega) q2 hl4)).trans ?_; exact hr
    exact word_end2 rfl hA' (.inl rfl) hw h0' h1'
   by_cases c0 : l5.length = 0
   ·obtain rfl := List.eq_nil_of_length_eq_zero c0
    have e2 : tkEls [] (((([wdT [105, 102], sgT [40]] ++ tkE x) ++ [sgT [41], sgT [123]]) ++ tkB l4) ++ [sgT [125]]) (tkB []) (tkH []) = (((([wdT [105, 102], sgT [40]] ++ tkE x) ++ [sgT [41], sgT [123]]) ++ tkB l4) ++ [sgT [125]]) := rfl; rw [e2, hbl] at hN ⊢; have ep : s.at_ + ((5 + (tkE x).length + (tkB l4).length : Nat) : Int) = s.at_ + 1 + ((tkE x).length : Int) + 2 + ((tkB l4).length : Int) + 2 := by omega
    rw [ep] at hN; refine (hbr [] (s.at_ + 1 + ((tkE x).length : Int) + 2 + ((tkB l4).length : Int) + 2) (s.nodes + ((cntE x : Nat) : Int) + ((cntB l4 : Nat) : Int)) (is_no (s := ⟨s.at_ + 1 + ((tkE x).length : Int) + 2 + ((tkB l4).length : Int) + 2, s.nodes + ((cntE x : Nat) : Int) + ((cntB l4 : Nat) : Int), s.op, s.bl⟩) hN.1 hN.2) (by omega) (by omega)).trans ?_; refine sres_eq rfl ?_ ?_ rfl rfl
    ·omega
    ·simp only [cntS, cntL, cntB]; omega
   by_cases c1 : l5.length = 1 ∧ (rd_T41 l5 0).f0 = 6
   ·obtain ⟨y, rfl⟩ := List.length_eq_one_iff.1 c1.1
    have hy6 : y.f0 = 6 := c1.2
    have e2 : tkEls [y] (((([wdT [105, 102], sgT [40]] ++ tkE x) ++ [sgT [41], sgT [123]]) ++ tkB l4) ++ [sgT [125]]) (tkB [y]) (tkH [y]) = ((((([wdT [105, 102], sgT [40]] ++ tkE x) ++ [sgT [41], sgT [123]]) ++ tkB l4) ++ [sgT [125]]) ++ [wdT [101, 108, 115, 101]]) ++ tkS y := by
     unfold tkEls; rw [if_neg c0, if_pos c1]
     rfl
    rw [e2] at hA hN hh ⊢; rw [List.length_append, List.length_append, hbl] at hN hh ⊢; simp only [List.length_cons, List.length_nil] at hN hh ⊢; obtain ⟨a1, a2⟩ := at_app hA; obtain ⟨_, a1⟩ := at_app a1; rw [hbl] at a1; rw [List.length_append, hbl] at a2; have ep : s.at_ + ((5 + (tkE x).length + (tkB l4).length : Nat) : Int) = s.at_ + 1 + ((tkE x).length : Int) + 2 + ((tkB l4).length : Int) + 2 := by omega
    rw [ep] at a1; have ep2 : s.at_ + ((5 + (tkE x).length + (tkB l4).length + [wdT [101, 108, 115, 101]].length : Nat) : Int) = s.at_ + 1 + ((tkE x).length : Int) + 2 + ((tkB l4).length : Int) + 2 + 1 := z_170; rw [ep2] at a2; have hfy : fitSt (fitB b') y = true := by simpa using hf5
    obtain ⟨t, ts, et, _, _, _, ht⟩ := tkS_head (fit_open hfy).1; have a2' := a2; rw [et, ht hy6] at a2'; simp only [cntB] at n1
    have hsy := hS b' y ⟨s.at_ + 1 + ((tkE x).length : Int) + 2 + ((tkB l4).length : Int) + 2 + 1, s.nodes + ((cntE x : Nat) : Int) + ((cntB l4 : Nat) : Int), s.op, s.bl + 1⟩ ⟨hfy, op, by show 0 ≤ s.bl + 1; omega, by show s.bl + 1 + (b' : Int) ≤ 12; omega, z_180, by show s.nodes + ((cntE x : Nat) : Int) + ((cntB l4 : Nat) : Int) + ((cntS y + 1 : Nat) : Int) ≤ 600; omega⟩ a2 (by
     have e : s.at_ + ((5 + (tkE x).length + (tkB l4).length + (0 + 1) + (tkS y).length : Nat) : Int) = s.at_ + 1 + ((tkE x).length : Int) + 2 + ((tkB l4).length : Int) + 2 + 1 + ((tkS y).length : Int) := by omega
     rw [e] at hN; exact hN) (by omega)
    refine (hbr [y] (s.at_ + 1 + ((tkE x).length : Int) + 2 + ((tkB l4).length : Int) + 2 + 1 + ((tkS y).length : Int)) (s.nodes + ((cntE x : Nat) : Int) + ((cntB l4 : Nat) : Int) + ((cntS y + 1 : Nat) : Int)) ?_ (by omega) (by omega)).trans ?_
    ·refine (is_yes (s := ⟨s.at_ + 1 + ((tkE x).length : Int) + 2 + ((tkB l4).length : Int) + 2, s.nodes + ((cntE x : Nat) : Int) + ((cntB l4 : Nat) : Int), s.op, s.bl⟩) a1.1.1 (z_181)).trans ?_
     refine (is_yes (s := ⟨s.at_ + 1 + ((tkE x).length : Int) + 2 + ((tkB l4).length : Int) + 2 + 1, s.nodes + ((cntE x : Nat) : Int) + ((cntB l4 : Nat) : Int), s.op, s.bl⟩) a2'.1.1 (by rw [show (⟨#[105, 102]⟩ : ByteArray) = bs [105, 102] from rfl, isB_at a2']; decide)).trans ?_
     refine (deeper_at (s := ⟨s.at_ + 1 + ((tkE x).length : Int) + 2 + ((tkB l4).length : Int) + 2 + 1, s.nodes + ((cntE x : Nat) : Int) + ((cntB l4 : Nat) : Int), s.op, s.bl⟩) bl0 (by show s.bl + 1 ≤ 12; omega)).trans ?_
     refine (ex_at hsy).trans ?_
     refine (close_at (s := aft ⟨s.at_ + 1 + ((tkE x).length : Int) + 2 + ((tkB l4).length : Int) + 2 + 1, s.nodes + ((cntE x : Nat) : Int) + ((cntB l4 : Nat) : Int), s.op, s.bl + 1⟩ (tkS y).length (cntS y + 1)) (by show 1 ≤ s.bl + 1; omega) (by show s.bl + 1 ≤ 100; omega)).trans ?_
     exact sres_eq rfl rfl rfl rfl (by show s.bl + 1 - 1 = s.bl; omega)
    ·refine sres_eq rfl ?_ ?_ rfl rfl
     ·omega
     ·simp only [cntS, cntL, cntB]; omega
   ·have e2 : tkEls l5 (((([wdT [105, 102], sgT [40]] ++ tkE x) ++ [sgT [41], sgT [123]]) ++ tkB l4) ++ [sgT [125]]) (tkB l5) (tkH l5) = (((((([wdT [105, 102], sgT [40]] ++ tkE x) ++ [sgT [41], sgT [123]]) ++ tkB l4) ++ [sgT [125]]) ++ [wdT [101, 108, 115, 101], sgT [123]]) ++ tkB l5) ++ [sgT [125]] := by
     unfold tkEls; rw [if_neg c0, if_neg c1]
    rw [e2] at hA hN hh ⊢; rw [List.length_append, List.length_append, List.length_append, hbl] at hN hh ⊢; simp only [List.length_cons, List.length_nil] at hN hh ⊢; have hA2 : At T s.at_ ((((([wdT [105, 102], sgT [40]] ++ tkE x) ++ [sgT [41], sgT [123]]) ++ tkB l4) ++ [sgT [125]]) ++ (wdT [101, 108, 115, 101] :: (([sgT [123]] ++ tkB l5) ++ [sgT [125]]))) := by simpa using hA
    obtain ⟨_, a1⟩ := at_app hA2; rw [hbl] at a1; have ep : s.at_ + ((5 + (tkE x).length + (tkB l4).length : Nat) : Int) = s.at_ + 1 + ((tkE x).length : Int) + 2 + ((tkB l4).length : Int) + 2 := by omega
    rw [ep] at a1; have a2 := a1.2; have a2' : At T (s.at_ + 1 + ((tkE x).length : Int) + 2 + ((tkB l4).length : Int) + 2 + 1) (sgT [123] :: (tkB l5 ++ [sgT [125]])) := by simpa using a2
    have hbk := block_ok (hS b') l5 ⟨s.at_ + 1 + ((tkE x).length : Int) + 2 + ((tkB l4).length : Int) + 2 + 1, s.nodes + ((cntE x : Nat) : Int) + ((cntB l4 : Nat) : Int), s.op, s.bl⟩ hf5 op bl0 (by show s.bl + ((b' + 1 : Nat) : Int) ≤ 12; omega) (z_180) (by show s.nodes + ((cntE x : Nat) : Int) + ((cntB l4 : Nat) : Int) + ((cntB l5 : Nat) : Int) ≤ 600; omega) a2 (by omega); refine (hbr l5 (s.at_ + 1 + ((tkE x).length : Int) + 2 + ((tkB l4).length : Int) + 2 + 1 + ((tkB l5).length : Int) + 2) (s.nodes + ((cntE x : Nat) : Int) + ((cntB l4 : Nat) : Int) + ((cntB l5 : Nat) : Int)) ?_ (by omega) (by omega)).trans ?_
    ·refine (is_yes (s := ⟨s.at_ + 1 + ((tkE x).length : Int) + 2 + ((tkB l4).length : Int) + 2, s.nodes + ((cntE x : Nat) : Int) + ((cntB l4 : Nat) : Int), s.op, s.bl⟩) a1.1.1 (z_181)).trans ?_
     refine (is_no (s := ⟨s.at_ + 1 + ((tkE x).length : Int) + 2 + ((tkB l4).length : Int) + 2 + 1, s.nodes + ((cntE x : Nat) : Int) + ((cntB l4 : Nat) : Int), s.op, s.bl⟩) a2'.1.1 (by rw [show (⟨#[105, 102]⟩ : ByteArray) = bs [105, 102] from rfl, isB_at a2']; decide)).trans ?_
     exact ex_at hbk
    ·refine sres_eq rfl ?_ ?_ rfl rfl
     ·omega
     ·simp only [cntS, cntL]; omega
theorem pars_ok {T : List S58} (hE : (rd_T58 T ((T.length : Int) - 1)).f0 = 0) (hp : 0 < T.length) : ∀ (l xs : List S41) (s : PSt) (K : Nat), l.all (fitSt (fitB 12)) = true → s.op = 0 → s.bl = 0 → 0 ≤ s.nodes → s.nodes + ((cntB l : Nat) : Int) ≤ 600 →
  At T s.at_ (tkB l) → 0 ≤ s.at_ → s.at_ + ((tkB l).length : Int) = (T.length : Int) - 1 → l.length < K → xs.length + l.length < 1000 → parsF T (st0 T) K xs s = some (.ok (xs ++ l))
 | [], xs, s, K, hf, ho, hb, hn, hn1, hA, h0, hT, hK, hx => by
  obtain ⟨k, rfl⟩ : ∃ k, K = k + 1 := ⟨K - 1, by omega⟩
  simp only [tkB, List.length_nil] at hT; have e : s.at_ = (T.length : Int) - 1 := by omega
  rw [parsF, if_pos ⟨⟨h0, by omega⟩, by simpa using hx⟩, if_pos (by rw [e]; exact hE), List.append_nil]
 | x :: l, xs, s, K, hf, ho, hb, hn, hn1, hA, h0, hT, hK, hx => by
  obtain ⟨k, rfl⟩ : ∃ k, K = k + 1 := ⟨K - 1, by omega⟩
  rw [List.all_cons, Bool.and_eq_true] at hf; obtain ⟨hf1, hf2⟩ := hf; obtain ⟨t, ts, et, hnb, hne, hk0, _⟩ := tkS_head (fit_open hf1).1; simp only [tkB, cntB, List.length_append, List.length_cons] at hA hn1 hx hK hT ⊢; obtain ⟨a1, a2⟩ := at_app hA; have a1' := a1; rw [et] at a1'
  have hN : NxS T (s.at_ + ((tkS x).length : Int)) := by
   cases l with
   | nil =>
    simp only [tkB, List.length_nil] at hT; have e : s.at_ + ((tkS x).length : Int) = (T.length : Int) - 1 := by omega
    rw [e]; refine ⟨⟨by omega, by omega⟩, ?_⟩
    unfold isB; rw [hE]
    rfl
   | cons y ys =>
    rw [List.all_cons, Bool.and_eq_true] at hf2; obtain ⟨t2, ts2, et2, _, hne2, _⟩ := tkS_head (fit_open hf2.1).1; simp only [tkB] at a2; obtain ⟨a3, _⟩ := at_app a2; rw [et2] at a3; exact ⟨a3.1.1, not_at a3 hne2⟩
  have hst := st_ok T T.length 12 x s ⟨hf1, ho, by omega, by omega, hn, by omega⟩ a1 hN (by omega)
  have hst' : st0 T s = some (.ok (x, aft s (tkS x).length (cntS x + 1))) := hst; rw [parsF, if_pos ⟨a1'.1.1, by omega⟩, if_neg (by rw [a1'.1.2.1]; exact hk0), hst']
  dsimp only; refine (pars_ok hE hp l (xs ++ [x]) (aft s (tkS x).length (cntS x + 1)) k hf2 ho hb (by show 0 ≤ s.nodes + ((cntS x + 1 : Nat) : Int); omega) (by show s.nodes + ((cntS x + 1 : Nat) : Int) + _ ≤ 600; omega) a2 (by show 0 ≤ s.at_ + ((tkS x).length : Int); omega) (by show s.at_ + ((tkS x).length : Int) + _ = _; omega) (by omega) (z_171)).trans ?_; rw [List.append_assoc]
  rfl
theorem rd_get (T : List S58) (i : Nat) (h : i < T.length) : rd_T58 T (i : Int) = T[i] := by
 unfold rd_T58; rw [Int.toNat_natCast, List.getD_eq_getElem?_getD, List.getElem?_eq_getElem h]
 rfl
theorem at_map (n : Nat) (e : S58) : ∀ (ts : List (Lx.Tok × Nat)) (pre : List S58), At (pre ++ (ts.map (Lx.s33 n) ++ [e])) (pre.length : Int) (ts.map (·.1))
 | [], pre => trivial
 | t :: ts, pre => by
  have ih := at_map n e ts (pre ++ [Lx.s33 n t]); have e1 : (pre ++ [Lx.s33 n t]) ++ (ts.map (Lx.s33 n) ++ [e]) = pre ++ ((t :: ts).map (Lx.s33 n) ++ [e]) := by simp
  have e2 : (((pre ++ [Lx.s33 n t]).length : Nat) : Int) = (pre.length : Int) + 1 := by simp
  rw [e1, e2] at ih; have hl : pre.length < (pre ++ ((t :: ts).map (Lx.s33 n) ++ [e])).length := by simp
  have hg : (pre ++ ((t :: ts).map (Lx.s33 n) ++ [e]))[pre.length] = Lx.s33 n t := by
   rw [List.getElem_append_right (xlr _)]; simp
  refine ⟨⟨⟨by omega, by omega⟩, ?_⟩, ih⟩
  rw [rd_get _ _ hl, hg]; exact z_182
theorem par_toks {s : ByteArray} {l : List S41} (hf : l.all (fitSt (fitB 12)) = true) (hc : cntB l ≤ 600) (hs : s.size ≤ 8192) (ht : toks (lst s) = some (tkB l)) : parV s = .ok l := by
 unfold toks at ht; rw [show (lst s).length = s.size from lst_len s] at ht; have hcp := Lx.cutP_small s (by omega); rw [show Lx.lst s = lst s from rfl] at hcp; rcases hq : Lx.cutL (s.size + 1) (lst s) with ⟨ts, _ | ep⟩
 ·rw [hq] at ht hcp
  dsimp only at ht hcp; injection ht with ht; have hA := at_map s.size (Lx.endTok s.size) ts []; rw [List.nil_append, ht] at hA; have hlt : ts.length = (tkB l).length := by rw [← ht, List.length_map]
  have h1 := tkB_len hf; have h2 := cntB_len l; have hTl : (ts.map (Lx.s33 s.size) ++ [Lx.endTok s.size]).length = (tkB l).length + 1 := by simp [hlt]
  have hE : (rd_T58 (ts.map (Lx.s33 s.size) ++ [Lx.endTok s.size]) (((ts.map (Lx.s33 s.size) ++ [Lx.endTok s.size]).length : Int) - 1)).f0 = 0 := by
   have e : ((ts.map (Lx.s33 s.size) ++ [Lx.endTok s.size]).length : Int) - 1 = (ts.length : Int) := by rw [hTl, hlt]; omega
   rw [e]; have hlt2 : ts.length < (ts.map (Lx.s33 s.size) ++ [Lx.endTok s.size]).length := by simp
   have hg : (ts.map (Lx.s33 s.size) ++ [Lx.endTok s.size])[ts.length] = Lx.endTok s.size := by
    rw [List.getElem_append_right (by simp)]; simp
   rw [rd_get _ _ hlt2, hg]
   rfl
  have hp := pars_ok hE (by rw [hTl]; omega) l [] ⟨0, 0, 0, 0⟩ ((ts.map (Lx.s33 s.size) ++ [Lx.endTok s.size]).length + 1) hf rfl rfl (Int.le_refl _) (by show (0 : Int) + _ ≤ 600; omega) hA (Int.le_refl _) (by show (0 : Int) + _ = _; rw [hTl]; omega) (by rw [hTl]; omega) (by simp only [List.length_nil]; omega); have hr : parT (ts.map (Lx.s33 s.size) ++ [Lx.endTok s.size]) = some (.ok l) := hp; unfold parV; rw [hcp, if_neg (by simp), hr]
  rfl
 ·rw [hq] at ht
  simp at ht
theorem rgS_open {k : Int} {f1 : ByteArray} {f2 : Int} {l3 : List S38} {l4 l5 : List S41} (h : rgS ⟨k, f1, f2, l3, l4, l5⟩ = true) : rgL l3 = true ∧ rgB l4 = true ∧ rgB l5 = true := by
 simpa only [rgS, Bool.and_eq_true] using h
theorem rgB_cons {x : S41} {l : List S41} (h : rgB (x :: l) = true) : rgS x = true ∧ rgB l = true := by
 simpa only [rgB, Bool.and_eq_true] using h
theorem lines_LX (n : Nat) : ∀ (l : List S41), rgB l = true → (∀ x ∈ l, rgS x = true → LXA (lst (sTx x n)) (tkS x)) → LXA (lst (lTx l n)) (tkB l)
 | [], _, _ => by
  show LXA (lst ⟨#[]⟩) []; exact lx_blank 0
 | x :: xs, hg, h => by
  obtain ⟨g1, g2⟩ := rgB_cons hg; have h0 := h x (List.mem_cons_self ..) g1; have ih := lines_LX n xs g2 (fun s hs => h s (List.mem_cons_of_mem _ hs)); have e : lTx (x :: xs) n = (blB n ++ sTx x n) ++ lTx xs n := rfl; rw [e, lst_ap2, lst_ap2]; exact ((lx_bl n).app h0 any_).app ih any_
theorem head_LX (n : Nat) : ∀ (l : List S41), rgB l = true → (∀ x ∈ l, rgS x = true → LXA (lst (sTx x n)) (tkS x)) → LXA (lst (hTx l n)) (tkH l)
 | [], _, _ => by
  show LXA (lst ⟨#[]⟩) []; exact lx_blank 0
 | x :: xs, hg, h => h x (List.mem_cons_self ..) (rgB_cons hg).1
theorem st_LX : ∀ (b : Nat) (x : S41), fitSt (fitB b) x = true → rgS x = true → ∀ n, LXA (lst (sTx x n)) (tkS x)
 | 0, x, h, hg, n => by
  obtain ⟨h1, h2, h3, h4, h5⟩ := fit_open h
  have hl : loopsB x.f0 = false := by
   cases e : loopsB x.f0 with
   | false => rfl
   | true => exact absurd (h3 e) (by omega)
  obtain ⟨g1, g2⟩ := head_empty h1 hl; obtain ⟨k, f1, f2, l3, l4, l5⟩ := x; dsimp only at g1 g2; subst g1 g2; obtain ⟨r3, r4, r5⟩ := rgS_open hg; exact one_LX_S (s := ⟨k, f1, f2, l3, [], []⟩) n h1 h2 r3 (lines_LX (n + 1) [] rfl (fun x hx => by simp at hx)) (lines_LX (n + 1) [] rfl (fun x hx => by simp at hx)) (head_LX n [] rfl (fun x hx => by simp at hx))
 | b + 1, x, h, hg, n => by
  obtain ⟨h1, h2, h3, h4, h5⟩ := fit_open h; obtain ⟨k, f1, f2, l3, l4, l5⟩ := x; obtain ⟨r3, r4, r5⟩ := rgS_open hg; rw [Nat.add_sub_cancel] at h4 h5; rw [List.all_eq_true] at h4 h5; dsimp only at h4 h5; exact one_LX_S (s := ⟨k, f1, f2, l3, l4, l5⟩) n h1 h2 r3 (lines_LX (n + 1) l4 r4 (fun x hx hr => st_LX b x (h4 x hx) hr (n + 1))) (lines_LX (n + 1) l5 r5 (fun x hx hr => st_LX b x (h5 x hx) hr (n + 1))) (head_LX n l5 r5 (fun x hx hr => st_LX b x (h5 x hx) hr n))
theorem par_show {l : List S41} (h : rightB l = true) (hg : rgB l = true) (hs : (lTx l 0).size ≤ 8192) : parV (lTx l 0) = .ok l := by
 rw [rightB_eq, Bool.and_eq_true, decide_eq_true_eq] at h; have hf : l.all (fitSt (fitB 12)) = true := h.1; rw [List.all_eq_true] at hf; have hL := lines_LX 0 l hg (fun x hx hr => st_LX 12 x (hf x hx) hr 0) [] trivial; rw [List.append_nil, toks_nil] at hL; refine par_toks h.1 h.2 hs ?_; rw [hL]; simp
def PQ {α : Type} (o : Option (Except Er (α × PSt))) (Q : α → Prop) : Prop := ∀ x s, o = some (.ok (x, s)) → Q x
def NumT (T : List S58) : Prop := ∀ i, (rd_T58 T i).f2 ≤ bigI
section
variable {α β : Type} {T : List S58} {s : PSt} {Q : α → Prop}
theorem pq_none : PQ (none : Option (Except Er (α × PSt))) Q := fun x s h => by cases h
theorem pq_err {e : Er} : PQ (some (.error e) : Option (Except Er (α × PSt))) Q := fun x s h => by cases h
theorem pq_ok {x : α} (h : Q x) : PQ (some (.ok (x, s))) Q := fun y s' e => by injection e with e; injection e with e; injection e with e _; rw [← e]; exact h
theorem pq_want {tx : ByteArray} {k : S58 → PSt → Option (Except Er (α × PSt))} (h : ∀ t s', PQ (k t s') Q) : PQ (wantK T s tx k) Q := by
 unfold wantK
 split
 ·split
  ·exact h _ _
  ·exact pq_err
 ·exact pq_none
theorem pq_enter {t3 : Int} {k : PSt → Option (Except Er (α × PSt))} (h : ∀ s', PQ (k s') Q) : PQ (enterK s t3 k) Q := by
 unfold enterK
 split
 ·split
  ·exact pq_err
  ·exact h _
 ·exact pq_none
theorem pq_leave {tx : ByteArray} {k : PSt → Option (Except Er (α × PSt))} (h : ∀ s', PQ (k s') Q) : PQ (leaveK T s tx k) Q := by
 unfold leaveK
 split
 ·split
  ·exact h _
  ·exact pq_err
 ·exact pq_none
theorem pq_open {k : PSt → Option (Except Er (α × PSt))} (h : ∀ s', PQ (k s') Q) : PQ (openK s k) Q := by
 unfold openK
 split
 ·exact h _
 ·exact pq_none
theorem pq_close {k : PSt → Option (Except Er (α × PSt))} (h : ∀ s', PQ (k s') Q) : PQ (closeK s k) Q := by
 unfold closeK
 split
 ·exact h _
 ·exact pq_none
theorem pq_deeper {t3 : Int} {k : PSt → Option (Except Er (α × PSt))} (h : ∀ s', PQ (k s') Q) : PQ (deeperK s t3 k) Q := by
 unfold deeperK
 split
 ·split
  ·exact pq_err
  ·exact h _
 ·exact pq_none
theorem pq_made {t3 : Int} {k : PSt → Option (Except Er (α × PSt))} (h : ∀ s', PQ (k s') Q) : PQ (madeK s t3 k) Q := by
 unfold madeK
 split
 ·split
  ·exact pq_err
  ·exact h _
 ·exact pq_none
theorem pq_is {tx : ByteArray} {k1 k2 : Option (Except Er (α × PSt))} (h1 : PQ k1 Q) (h2 : PQ k2 Q) : PQ (isK T s tx k1 k2) Q := by
 unfold isK
 split
 ·split
  ·exact h1
  ·exact h2
 ·exact pq_none
theorem pq_kind {kd : Int} {k : S58 → PSt → Option (Except Er (α × PSt))} (h : ∀ i s', PQ (k (rd_T58 T i) s') Q) : PQ (kindK T s kd k) Q := by
 unfold kindK
 split
 ·split
  ·exact h _ _
  ·exact pq_err
 ·exact pq_none
theorem pq_ex {o : Option (Except Er (β × PSt))} {R : β → Prop} {k : β → PSt → Option (Except Er (α × PSt))} (ho : PQ o R) (h : ∀ x s', R x → PQ (k x s') Q) : PQ (exK o k) Q := by
 rcases o with _ | ⟨e⟩ | ⟨x, s'⟩
 ·exact pq_none
 ·exact pq_err
 ·exact h x s' (ho x s' rfl)
end
def RgP (p : S38 × Int) : Prop := rgE p.1 = true
theorem rgL_map : ∀ ps : List (S38 × Int), (∀ p ∈ ps, RgP p) → rgL (ps.map (·.1)) = true
 | [], _ => rfl
 | p :: ps, h => by
  simp only [List.map_cons, rgL, Bool.and_eq_true]; exact ⟨h p (List.mem_cons_self ..), rgL_map ps (fun q hq => h q (List.mem_cons_of_mem _ hq))⟩
theorem rg_mk {k nm op : Int} {st : ByteArray} {ps : List (S38 × Int)} (hn : nm ≤ bigI) (hp : ∀ p ∈ ps, RgP p) : rgE ⟨k, nm, st, op, ps.map (·.1)⟩ = true := by
 simp only [rgE, Bool.and_eq_true, decide_eq_true_eq]; exact ⟨hn, rgL_map ps hp⟩
theorem pq_nodeQ {s : PSt} {t3 k nm op : Int} {st : ByteArray} {ps : List (S38 × Int)} (hn : nm ≤ bigI) (hp : ∀ p ∈ ps, RgP p) : PQ (some (nodeQ s t3 k nm st op ps)) RgP := by
 unfold nodeQ
 split
 ·exact pq_err
 split
 ·exact pq_err
 ·exact pq_ok (rg_mk hn hp)
theorem pq_node {s : PSt} {t3 k nm op : Int} {st : ByteArray} {ps : List (S38 × Int)} (hn : nm ≤ bigI) (hp : ∀ p ∈ ps, RgP p) : PQ (nodeK s t3 k nm st op ps) RgP := by
 unfold nodeK
 split
 ·exact pq_nodeQ hn hp
 ·exact pq_none
theorem mem1 {p : S38 × Int} (h : RgP p) : ∀ q ∈ [p], RgP q := fun q hq => by rw [List.mem_singleton.1 hq]; exact h
theorem mem2 {p r : S38 × Int} (h : RgP p) (h2 : RgP r) : ∀ q ∈ [p, r], RgP q := fun q hq => by
 rcases List.mem_cons.1 hq with e | e
 ·rw [e]; exact h
 ·rw [List.mem_singleton.1 e]; exact h2
theorem big0 : (0 : Int) ≤ bigI := by decide
section
variable {T : List S58}
theorem pq_call {ab : Int → PSt → Option Res} (ha : ∀ l s, PQ (ab l s) RgP) (t3 op : Int) (s : PSt) : PQ (callS T ab t3 op s) RgP := by
 unfold callS
 split
 ·exact pq_want fun o s1 => pq_enter fun s2 => pq_ex (ha _ _) fun p s3 hp => pq_want fun _ s4 => pq_ex (ha _ _) fun y s5 hy => pq_leave fun s6 => pq_node big0 (mem2 hp hy)
 ·exact pq_none
theorem pq_sign {on : PSt → Option Res} (ho : ∀ s, PQ (on s) RgP) (s : PSt) : PQ (signS T on s) RgP := by
 unfold signS
 split
 ·split
  ·exact pq_err
  ·exact pq_enter fun s2 => pq_ex (ho _) fun p s3 hp => pq_open fun s4 => pq_node big0 (mem1 hp)
 ·exact pq_none
theorem pq_val (H : NumT T) {on : PSt → Option Res} {ab : Int → PSt → Option Res} (ho : ∀ s, PQ (on s) RgP) (ha : ∀ l s, PQ (ab l s) RgP) (s : PSt) : PQ (valS T on ab s) RgP := by
 unfold valS
 split
 ·split
  ·exact pq_node (H _) (fun p hp => by simp at hp)
  split
  ·exact pq_node big0 (fun p hp => by simp at hp)
  split
  ·exact pq_enter fun s2 => pq_ex (ha _ _) fun p s3 hp => pq_leave fun s4 => pq_ok hp
  split
  ·exact pq_want fun o s1 => pq_enter fun s2 => pq_ex (ha _ _) fun p s3 hp => pq_leave fun s4 => pq_node big0 (mem1 hp)
  split
  ·exact pq_call ha _ _ _
  split
  ·exact pq_call ha _ _ _
  ·exact pq_sign ho _
 ·exact pq_none
theorem pq_loop {ab : Int → PSt → Option Res} (ha : ∀ l s, PQ (ab l s) RgP) (least : Int) : ∀ (K : Nat) (p : S38 × Int) (s : PSt), RgP p → PQ (loopF T ab least K p s) RgP
 | 0, p, s, hp => pq_none
 | K + 1, p, s, hp => by
  rw [loopF]
  split
  ·split
   ·exact pq_ok hp
   ·split
    ·exact pq_none
    ·exact pq_err
    ·rename_i p2 s2 he
     split
     ·have hn := pq_nodeQ (s := s2) (t3 := (rd_T58 T s.at_).f3) (k := 5) (st := ⟨#[]⟩) (op := (rankOf (rd_T58 T s.at_)).2) (nm := 0) (ps := [p, p2]) big0 (mem2 hp (ha _ _ _ _ he))
      split
      ·exact pq_err
      ·rename_i p3 s3 h3
       exact pq_loop ha least K p3 s3 (hn p3 s3 (by rw [h3]))
     ·exact pq_none
  ·exact pq_none
theorem pq_step {on : PSt → Option Res} {ab : Int → PSt → Option Res} (ho : ∀ s, PQ (on s) RgP) (ha : ∀ l s, PQ (ab l s) RgP) (K : Nat) (least : Int) (s : PSt) : PQ (stepF T on ab K least s) RgP := by
 unfold stepF
 split
 ·exact pq_none
 ·exact pq_err
 ·rename_i p s1 h
  exact pq_loop ha least K p s1 (ho _ _ _ h)
theorem pq_exG (H : NumT T) : ∀ h, (∀ s, PQ ((exG T h).1 s) RgP) ∧ ∀ l s, PQ ((exG T h).2 l s) RgP
 | 0 => ⟨fun s => pq_none, fun l s => pq_none⟩
 | h + 1 => ⟨fun s => pq_val H (pq_exG H h).1 (pq_exG H h).2 s, fun l s => pq_step (pq_exG H h).1 (pq_exG H h).2 _ l s⟩
theorem pq_ab0 (H : NumT T) (l : Int) (s : PSt) : PQ (ab0 T l s) RgP := (pq_exG H _).2 l s
def RgS (x : S41) : Prop := rgS x = true
def RgB (l : List S41) : Prop := rgB l = true
theorem rgB_app : ∀ (l : List S41) (x : S41), RgB l → RgS x → RgB (l ++ [x])
 | [], x, h, hx => by
  show rgB [x] = true; simp only [rgB, Bool.and_true]; exact hx
 | y :: l, x, h, hx => by
  obtain ⟨h1, h2⟩ := rgB_cons h; have := rgB_app l x h2 hx; show rgB (y :: (l ++ [x])) = true; simp only [rgB, Bool.and_eq_true]; exact ⟨h1, this⟩
theorem rgS_mk {k cl : Int} {nm : ByteArray} {l3 : List S38} {l4 l5 : List S41} (h3 : rgL l3 = true) (h4 : RgB l4) (h5 : RgB l5) : RgS ⟨k, nm, cl, l3, l4, l5⟩ := by
 show rgS _ = true; simp only [rgS, Bool.and_eq_true]; exact ⟨h3, h4, h5⟩
theorem rgL1 {p : S38 × Int} (h : RgP p) : rgL [p.1] = true := by simp only [rgL, Bool.and_true]; exact h
theorem rgL2 {p q : S38 × Int} (h : RgP p) (h2 : RgP q) : rgL [p.1, q.1] = true := by
 simp only [rgL, Bool.and_true, Bool.and_eq_true]; exact ⟨h, h2⟩
theorem pq_exS {ab : Int → PSt → Option Res} (ha : ∀ l s, PQ (ab l s) RgP) (kd cl : Int) (nm : ByteArray) (s : PSt) : PQ (exS T ab kd nm cl s) RgS := by
 unfold exS; exact pq_ex (ha _ _) fun p s1 hp => pq_ok (rgS_mk (rgL1 hp) rfl rfl)
theorem pq_test {ab : Int → PSt → Option Res} (ha : ∀ l s, PQ (ab l s) RgP) (s : PSt) : PQ (testS T ab s) RgP := by
 unfold testS; exact pq_want fun o s1 => pq_enter fun s2 => pq_ex (ha _ _) fun p s3 hp => pq_leave fun s4 => pq_ok hp
theorem pq_bodyL {st : PSt → Option SRes} (hs : ∀ s, PQ (st s) RgS) : ∀ (K : Nat) (xs : List S41) (s : PSt), RgB xs → PQ (bodyL T st K xs s) RgB
 | 0, xs, s, h => pq_none
 | K + 1, xs, s, h => by
  rw [bodyL]
  split
  ·split
   ·exact pq_ok h
   ·exact pq_ex (hs _) fun x s1 hx => pq_bodyL hs K _ s1 (rgB_app xs x h hx)
  ·exact pq_none
theorem pq_body {st : PSt → Option SRes} (hs : ∀ s, PQ (st s) RgS) (K : Nat) (s : PSt) : PQ (bodyS T st K s) RgB := by
 unfold bodyS; exact pq_want fun t s1 => pq_deeper fun s2 => pq_bodyL hs K [] s2 rfl
theorem rgB1 {x : S41} (h : RgS x) : RgB [x] := rgB_app [] x rfl h
theorem pq_branch {ab : Int → PSt → Option Res} (ha : ∀ l s, PQ (ab l s) RgP) {st : PSt → Option SRes} (hs : ∀ s, PQ (st s) RgS) (K : Nat) (s : PSt) : PQ (branchS T ab st K s) RgS := by
 unfold branchS; exact pq_ex (pq_test ha _) fun p s1 hp => pq_ex (pq_body hs _ _) fun l s2 hl => pq_is (pq_is (pq_deeper fun s3 => pq_ex (hs _) fun x s4 hx => pq_close fun s5 => pq_ok (rgS_mk (rgL1 hp) hl (rgB1 hx))) (pq_ex (pq_body hs _ _) fun m s3 hm => pq_ok (rgS_mk (rgL1 hp) hl hm))) (pq_ok (rgS_mk (rgL1 hp) hl rfl))
theorem pq_word {ab : Int → PSt → Option Res} (ha : ∀ l s, PQ (ab l s) RgP) {st : PSt → Option SRes} (hs : ∀ s, PQ (st s) RgS) (K : Nat) (s : PSt) (t : S58) : PQ (wordS T ab st K s t) RgS := by
 unfold wordS
 split
 ·split
  ·exact pq_kind fun i s1 => pq_want fun _ s2 => pq_exS ha _ _ _ _
  split
  ·exact pq_want fun o s1 => pq_enter fun s2 => pq_ex (ha _ _) fun p s3 hp => pq_leave fun s4 => pq_want fun _ s5 => pq_ex (ha _ _) fun y s6 hy => pq_ok (rgS_mk (rgL2 hp hy) rfl rfl)
  split
  ·exact pq_exS ha _ _ _ _
  split
  ·refine pq_kind fun i s1 => ?_
   split
   ·exact pq_err
   ·exact pq_exS ha _ _ _ _
  split
  ·exact pq_exS ha _ _ _ _
  split
  ·exact pq_ok (rgS_mk rfl rfl rfl)
  split
  ·exact pq_ex (pq_test ha _) fun p s1 hp => pq_ex (pq_body hs _ _) fun l s2 hl => pq_ok (rgS_mk (rgL1 hp) hl rfl)
  split
  ·exact pq_branch ha hs _ _
  ·exact pq_err
 ·exact pq_none
theorem pq_end {t3 : Int} {x : S41} {s : PSt} (h : RgS x) : PQ (endS T t3 x s) RgS := by
 unfold endS
 split
 ·exact pq_made fun s1 => pq_ok h
 ·exact pq_want fun _ s1 => pq_made fun s2 => pq_ok h
theorem pq_stG {ab : Int → PSt → Option Res} (ha : ∀ l s, PQ (ab l s) RgP) : ∀ h s, PQ (stG T ab h s) RgS
 | 0, s => pq_none
 | h + 1, s => by
  show PQ (stmtS T ab (wordS T ab (stG T ab h) (T.length + 1)) s) RgS; unfold stmtS
  split
  ·split
   ·exact pq_want fun _ s1 => pq_ex (ha _ _) fun p s2 hp => pq_end (rgS_mk (rgL1 hp) rfl rfl)
   split
   ·exact pq_ex (pq_word ha (pq_stG ha h) _ _ _) fun x s1 hx => pq_end hx
   ·exact pq_err
  ·exact pq_none
theorem pq_pars {st : PSt → Option SRes} (hs : ∀ s, PQ (st s) RgS) : ∀ (K : Nat) (xs : List S41) (s : PSt), RgB xs → ∀ l, parsF T st K xs s = some (.ok l) → RgB l
 | 0, xs, s, h, l, e => by cases e
 | K + 1, xs, s, h, l, e => by
  rw [parsF] at e
  split at e
  ·split at e
   ·injection e with e; injection e with e; rw [← e]; exact h
   ·split at e
    ·cases e
    ·cases e
    ·rename_i x s1 hx
     exact pq_pars hs K _ s1 (rgB_app xs x h (hs _ _ _ hx)) l e
  ·cases e
end
theorem parse_big (t : ByteArray) : (Lx.parseP t).1 ≤ bigI := by
 unfold Lx.parseP
 split
 ·exact big0
 split
 ·exact big0
 ·unfold bigI; dsimp only; omega
theorem tok_big (c : UInt8) (l : List UInt8) (t : Lx.Tok) (h : Lx.tokL c l = .ok t) : t.nm ≤ bigI := by
 unfold Lx.tokL at h
 split at h
 ·split at h
  ·cases h
  ·split at h
   ·split at h
    ·cases h
    ·injection h with h; subst h; exact parse_big _
   ·injection h with h; subst h; exact parse_big _
 ·split at h
  ·split at h
   ·injection h with h; subst h; exact big0
   ·split at h
    ·cases h
    ·injection h with h; subst h; exact big0
  ·split at h
   ·injection h with h; subst h; exact big0
   ·cases h
theorem cut_big : ∀ (k : Nat) (l : List UInt8), ∀ x ∈ (Lx.cutL k l).1, x.1.nm ≤ bigI
 | 0, l, x, hx => by simp [Lx.cutL] at hx
 | k + 1, l, x, hx => by
  rw [Lx.cutL_succ] at hx; cases hc : Lx.skipL false l with
  | nil => rw [hc] at hx; simp at hx
  | cons c m =>
   rw [hc] at hx; dsimp only at hx; cases ht : Lx.tokL c m with
   | error ed => rw [ht] at hx; simp at hx
   | ok t =>
    rw [ht] at hx; dsimp only at hx; rcases List.mem_cons.1 hx with e | e
    ·rw [e]; exact tok_big c m t ht
    ·exact cut_big k _ x e
theorem num_T {s : ByteArray} {T : List S58} (h : Lx.cutP s = (T, 0, 0)) : NumT T := by
 obtain ⟨_, ts, hc, rfl, _⟩ := cut_form h; intro i; unfold rd_T58; rw [List.getD_eq_getElem?_getD]; cases hq : (ts.map (Lx.s33 s.size) ++ [Lx.endTok s.size])[i.toNat]? with
 | none => exact big0
 | some x =>
  have hm := List.mem_of_getElem? hq; show x.f2 ≤ bigI; rcases List.mem_append.1 hm with e | e
  ·obtain ⟨y, hy, rfl⟩ := List.mem_map.1 e
   have := cut_big (s.size + 1) (Lx.lst s) y (by rw [hc]; exact hy); exact this
  ·rw [List.mem_singleton.1 e]; exact big0
theorem par_rg {s : ByteArray} {l : List S41} (h : parV s = .ok l) : rgB l = true ∧ rightB l = true ∧ cntB l ≤ 600 := by
 rcases parV_cases s with ⟨a, e, h0, h1, h2, h3, h4⟩ | ⟨T, r, h0, H, h1, h2, h3⟩
 ·rw [h] at h4; cases h4
 ·rw [h] at h2
  subst h2; refine ⟨pq_pars (T := T) (st := st0 T) (fun s => pq_stG (fun l s => pq_ab0 (num_T h0) l s) _ s) _ [] _ rfl l h1, ?_, h3.2⟩; rw [rightB_eq, Bool.and_eq_true, decide_eq_true_eq]; exact ⟨h3.1, h3.2⟩
open Go.RowKit Go.Proofs.YtobkdmmnbnpemaaW.PrintWords Go.Proofs.YtobkdmmnbnpemaaW.PrintLast Go.Proofs.YtobkdmmnbnpemaaW.PrintMore
attribute [local go_sem] max2_int min2_int max_two min_two max_three min_three max_four min_four
def YP (w : World) (e : Ending) (w' : World) : Prop := e = .returned (.bool true) ∧ Below w.heap.size w w'
theorem again_err (s : ByteArray) (er a : Int) (hr : parV s = .error (er, a)) (he : er ≠ 0) (w : World) : Calls Try.prog 13 #[.string s] w (YP w) := by
 have d0 : (er != 0) = true := bne_iff_ne.2 he; have HP := Lib.hid (fun W => parse_V s W); rw [hr] at HP; have HB := A_0 (xbr w.heap.size w); clear he hr
 go_enter Try.func13, Try.ntmps13
 go_wp2_with fail
 (with_reducible refine (HP.out _).mono ?_)
 rintro r w1 hp; obtain ⟨rfl, hb⟩ := hp.err; replace HB := A_0 (xbs HB.out hb); clear hb hp HP
 go_wp2_with fail
 (with_reducible refine (alive_W _).mono ?_)
 rintro r w4 ⟨rfl, hb⟩; have n0_ := A_0 (xbs HB.out hb); clear HB hb
 go_wp2
 exact z_60
theorem again_long (s : ByteArray) (l : List S41) (hr : parV s = .ok l) (ht : TxtSays l ⟨#[]⟩ 30) (w : World) : Calls Try.prog 13 #[.string s] w (YP w) := by
 have HP := Lib.hid (fun W => parse_V s W); rw [hr] at HP; have HT := A_0 ht; have HB := A_0 (xbr w.heap.size w); clear hr ht
 go_enter Try.func13, Try.ntmps13
 go_wp2_with fail
 (with_reducible refine (HP.out _).mono ?_)
 rintro r w1 hp; obtain ⟨A1, c1, rfl, hF, hc, hb⟩ := hp.ok; have HF1 := A_0 (Kd.F_now hF); have HC1 := A_0 hc; replace HB := A_0 (xbs HB.out hb); clear hb hp HP hF hc
 go_wp2_with fail
 (with_reducible refine (text_L l A1 c1 _ HF1.out HC1.out _ _ HT.out).mono ?_)
 rintro r w2 ⟨rfl, hb⟩; replace HB := A_0 (xbs HB.out hb); clear hb HF1
 go_wp2_with fail
 (with_reducible refine (alive_W _).mono ?_)
 rintro r w4 ⟨rfl, hb⟩; have n0_ := A_0 (xbs HB.out hb); clear HB hb
 go_wp2
 exact z_60
theorem again_ok (s t : ByteArray) (l : List S41) (hr : parV s = .ok l) (ht : TxtSays l t 0) (hp : parV t = .ok l) (w : World) : Calls Try.prog 13 #[.string s] w (YP w) := by
 have HP := Lib.hid (fun W => parse_V s W); rw [hr] at HP; have HQ := Lib.hid (fun W => parse_V t W); rw [hp] at HQ; have HT := A_0 ht; have HB := A_0 (xbr w.heap.size w); have e1 : (t.toList == t.toList) = true := beq_self_eq_true _; clear hr ht hp
 go_enter Try.func13, Try.ntmps13
 go_wp2_with fail
 (with_reducible refine (HP.out _).mono ?_)
 rintro r w1 hp; obtain ⟨A1, c1, rfl, hF, hc, hb⟩ := hp.ok; have HF1 := A_0 (Kd.F_now hF); have HC1 := A_0 hc; replace HB := A_0 (xbs HB.out hb); clear hb hp HP hF hc
 go_wp2_with fail
 (with_reducible refine (text_L l A1 c1 _ HF1.out HC1.out _ _ HT.out).mono ?_)
 rintro r w2 ⟨rfl, hb⟩; replace HB := A_0 (xbs HB.out hb); replace HF1 := A_0 (Kd.C_below HF1.out hb); clear hb
 go_wp2_with fail
 (with_reducible refine (HQ.out _).mono ?_)
 rintro r w3 hp; obtain ⟨A2, c2, rfl, hF, hc, hb⟩ := hp.ok; have HF2 := A_0 (Kd.F_now hF); have HC2 := A_0 hc; replace HB := A_0 (xbs HB.out hb); replace HF1 := A_0 (Kd.C_below HF1.out hb); clear hb hp HQ hF hc
 go_wp2_with fail
 (with_reducible refine (text_L l A2 c2 _ HF2.out HC2.out _ _ HT.out).mono ?_)
 rintro r w4 ⟨rfl, hb⟩; replace HB := A_0 (xbs HB.out hb); replace HF1 := A_0 (Kd.C_below HF1.out hb); replace HF2 := A_0 (Kd.C_below HF2.out hb); clear hb
 go_wp2_with fail
 (with_reducible refine (same_L l l A1 c1 A2 c2 true w4 HF1.out HF2.out (eqSs_refl _)).mono ?_)
 rintro r w5 ⟨rfl, hb⟩; replace HB := A_0 (xbs HB.out hb); clear hb HF1 HF2
 go_wp2_with fail
 (with_reducible refine (alive_W _).mono ?_)
 rintro r w6 ⟨rfl, hb⟩; have n0_ := A_0 (xbs HB.out hb); clear HB hb
 go_wp2
 exact z_60
theorem again_walk (s : ByteArray) (w : World) : Calls Try.prog 13 #[.string s] w (YP w) := by
 have key : (∃ er a, parV s = .error (er, a) ∧ er ≠ 0) ∨ ∃ l, parV s = .ok l := by
  rcases parV_cases s with ⟨a, e, h, h1, h2, h3, h4⟩ | ⟨T, r, h, H, h1, h2, h3⟩
  ·exact .inl ⟨e, a, h4, h1⟩
  ·rcases r with ⟨er, at_⟩ | l
   ·obtain ⟨_, q3⟩ := h3
    dsimp only at q3; exact .inl ⟨er, at_, h2, by omega⟩
   ·exact .inr ⟨l, h2⟩
 rcases key with ⟨er, a, hr, he⟩ | ⟨l, hl⟩
 ·exact again_err s er a hr he w
 ·obtain ⟨hg, hr, _⟩ := par_rg hl
  by_cases q : 8192 < (lTx l 0).size
  ·exact again_long s l hl (.inr (.inl ⟨hr, q, rfl, rfl⟩)) w
  ·exact again_ok s (lTx l 0) l hl (.inr (.inr ⟨hr, q, rfl, rfl⟩)) (par_show hr hg (by omega)) w
end Go.Proofs.Ytobkdmmnbnpemaa.K
