/- Texts of the claim, one behind the other. -/
import Derived.Test.YtobkdmmnbnpemaaXBB16
import Derived.Test.YtobkdmmnbnpemaaXBB14
import Derived.Test.YtobkdmmnbnpemaaXBB06
import Derived.Test.YtobkdmmnbnpemaaXBB07
set_option maxHeartbeats 16000000
set_option maxRecDepth 100000
namespace Go.Proofs.Ytobkdmmnbnpemaa.K
open Go.RowKit Go.Proofs.YtobkdmmnbnpemaaW.PrintWords
set_option linter.unusedVariables false
set_option linter.unusedSimpArgs false
def At (T : List S58) : Int → List Lx.Tok → Prop
 | _, [] => True
 | i, t :: ts => ((0 ≤ i ∧ i < T.length) ∧ (rd_T58 T i).f0 = t.kd ∧ (rd_T58 T i).f1 = bs t.tx ∧ (rd_T58 T i).f2 = t.nm) ∧ At T (i + 1) ts
theorem at_app {T : List S58} : ∀ {ts us : List Lx.Tok} {i : Int}, At T i (ts ++ us) → At T i ts ∧ At T (i + (ts.length : Int)) us
 | [], us, i, h => ⟨trivial, by simpa using h⟩
 | t :: ts, us, i, h => by
  obtain ⟨h0, h1⟩ := h; obtain ⟨h2, h3⟩ := at_app h1; refine ⟨⟨h0, h2⟩, ?_⟩; have e : i + (((t :: ts).length : Nat) : Int) = i + 1 + (ts.length : Int) := by simp only [List.length_cons]; omega
  rw [e]; exact h3
theorem at_c {T : List S58} {us : List Lx.Tok} {i j : Int} (h : At T i us) (e : i = j := by (try simp only [List.length_append, List.length_cons, List.length_nil]); omega) : At T j us := e ▸ h
theorem at_len {T : List S58} : ∀ {ts : List Lx.Tok} {i : Int}, At T i ts → ts ≠ [] → 0 ≤ i ∧ i + (ts.length : Int) ≤ T.length
 | [], i, h, hn => absurd rfl hn
 | t :: ts, i, h, hn => by
  obtain ⟨⟨h0, _⟩, h1⟩ := h; cases ts with
  | nil => simp only [List.length_cons, List.length_nil]; omega
  | cons u us =>
   have := at_len h1 (by simp); simp only [List.length_cons] at this ⊢
   omega
theorem isB_at {T : List S58} {i : Int} {t : Lx.Tok} {ts : List Lx.Tok} (h : At T i (t :: ts)) (x : List UInt8) : isB (rd_T58 T i) (bs x) = (((t.kd == 4) || (t.kd == 3)) && (t.tx == x)) := by
 obtain ⟨_, h1, h2, _⟩ := h.1; unfold isB; rw [h1, h2, bs_toList, bs_toList]
section
variable {α β : Type} {T : List S58} {s : PSt}
theorem want_at {x : List UInt8} {ts : List Lx.Tok} {t : Lx.Tok} (ht : t = sgT x) {k : S58 → PSt → Option (Except Er α)} (h : At T s.at_ (t :: ts)) : wantK T s (bs x) k = k (rd_T58 T s.at_) ⟨s.at_ + 1, s.nodes, s.op, s.bl⟩ := by
 subst ht; unfold wantK; rw [if_pos h.1.1, if_pos]; rw [isB_at h]; simp [sgT]
theorem leave_at {x : List UInt8} {ts : List Lx.Tok} {t : Lx.Tok} (ht : t = sgT x) {k : PSt → Option (Except Er α)} (h : At T s.at_ (t :: ts)) (h0 : 1 ≤ s.op) (h1 : s.op ≤ 100) : leaveK T s (bs x) k = k ⟨s.at_ + 1, s.nodes, s.op - 1, s.bl⟩ := by
 subst ht; unfold leaveK; rw [if_pos ⟨h.1.1, h0, h1⟩, if_pos]; rw [isB_at h]; simp [sgT]
theorem enter_at {t3 : Int} {k : PSt → Option (Except Er α)} (h0 : 0 ≤ s.op) (h1 : s.op + 1 ≤ 48) : enterK s t3 k = k ⟨s.at_, s.nodes, s.op + 1, s.bl⟩ := by
 unfold enterK; rw [if_pos ⟨h0, by omega⟩, if_neg (by omega)]
theorem open_at {k : PSt → Option (Except Er α)} (h0 : 1 ≤ s.op) (h1 : s.op ≤ 100) : openK s k = k ⟨s.at_, s.nodes, s.op - 1, s.bl⟩ := by
 unfold openK; rw [if_pos ⟨h0, h1⟩]
theorem ex_at {o : Option (Except Er (β × PSt))} {p : β} {s' : PSt} {k : β → PSt → Option (Except Er α)} (h : o = some (.ok (p, s'))) : exK o k = k p s' := by
 rw [h]; rfl
theorem node_at {t3 k nm op : Int} {st : ByteArray} {ps : List (S38 × Int)} {d : Int} (h0 : 0 ≤ s.nodes) (h1 : s.nodes + 1 ≤ 600) (hp : ∀ p ∈ ps, 0 ≤ p.2 ∧ p.2 ≤ 48) (hd : deepQ ps 1 = d) (hd1 : d ≤ 48) :
  nodeK s t3 k nm st op ps = some (.ok ((⟨k, nm, st, op, ps.map (·.1)⟩, d), ⟨s.at_, s.nodes + 1, s.op, s.bl⟩)) := by
 unfold nodeK nodeQ; rw [if_pos ⟨⟨h0, by omega⟩, hp⟩, hd, if_neg (by omega), if_neg (by omega)]
end
theorem fit_full (a b : Int) (c : ByteArray) (f : Int) (l : List S38) (h : fitE ⟨a, b, c, f, l⟩ = true) :
  (a = 1 ∧ l = [] ∧ 0 ≤ b ∧ c = ⟨#[]⟩ ∧ f = 0) ∨ (a = 2 ∧ l = [] ∧ nameB (lst c) = true ∧ b = 0 ∧ f = 0) ∨ (a = 3 ∧ (∃ x, l = [x] ∧ fitE x = true) ∧ b = 0 ∧ c = ⟨#[]⟩ ∧ f = 0) ∨ (a = 4 ∧ (∃ x, l = [x] ∧ fitE x = true) ∧ (19 ≤ f ∧ f ≤ 21) ∧ b = 0 ∧ c = ⟨#[]⟩) ∨ (a = 5 ∧ (∃ x y, l = [x, y] ∧ fitE x = true ∧ fitE y = true) ∧ (1 ≤ f ∧ f ≤ 18) ∧ b = 0 ∧ c = ⟨#[]⟩) := by
 have hc := fit_cases a b c f l h; simp only [fitE, Bool.and_eq_true, beq_iff_eq] at h; obtain ⟨_, hf, _⟩ := h; unfold fieldsB at hf; simp only [Bool.and_eq_true] at hf; obtain ⟨h1, h2, h3⟩ := hf; rcases hc with ⟨rfl, e, hb⟩ | ⟨rfl, e, hnm⟩ | ⟨rfl, x, e, hx⟩ | ⟨rfl, x, e, hx, g0, g1⟩ | ⟨rfl, x, y, e, hx, hy, g0, g1⟩
 ·exact .inl ⟨rfl, e, hb, bytes_nil h2, beq_iff_eq.1 h3⟩
 ·exact .inr (.inl ⟨rfl, e, hnm, beq_iff_eq.1 h1, beq_iff_eq.1 h3⟩)
 ·exact .inr (.inr (.inl ⟨rfl, ⟨x, e, hx⟩, beq_iff_eq.1 h1, bytes_nil h2, beq_iff_eq.1 h3⟩))
 ·exact .inr (.inr (.inr (.inl ⟨rfl, ⟨x, e, hx⟩, ⟨g0, g1⟩, beq_iff_eq.1 h1, bytes_nil h2⟩)))
 ·exact .inr (.inr (.inr (.inr ⟨rfl, ⟨x, y, e, hx, hy⟩, ⟨g0, g1⟩, beq_iff_eq.1 h1, bytes_nil h2⟩)))
structure Fit (m : Int) (e : S38) (s : PSt) : Prop where
 fit : fitE e = true
 deep : deepE e ≤ 48
 op0 : 0 ≤ s.op
 op1 : s.op + (deepE e : Int) ≤ m
 n0 : 0 ≤ s.nodes
 n1 : s.nodes + (cntE e : Int) ≤ 600
def aft (s : PSt) (len cnt : Nat) : PSt := ⟨s.at_ + (len : Int), s.nodes + (cnt : Int), s.op, s.bl⟩
def rkT (T : List S58) (i : Int) : Int := (rankOf (rd_T58 T i)).1
def AP (T : List S58) (h : Nat) (e : S38) : Prop := ∀ s, Fit 49 e s → At T s.at_ (brK (rkE e) 9 (tkE e)) → 2 * (brK (rkE e) 9 (tkE e)).length ≤ h + 1 →
 (exG T h).1 s = some (.ok ((e, (deepE e : Int)), aft s (brK (rkE e) 9 (tkE e)).length (cntE e)))
def BP (m : Int) (T : List S58) (h : Nat) (e : S38) (lv : Int) : Prop := ∀ (s : PSt) (least : Int) (K : Nat), Fit m e s → At T s.at_ (brK (rkE e) lv (tkE e)) → 2 * (brK (rkE e) lv (tkE e)).length ≤ h + 1 → 1 ≤ least → least ≤ lv → lv ≤ 9 →
 (brK (rkE e) lv (tkE e)).length ≤ K → s.at_ + ((brK (rkE e) lv (tkE e)).length : Int) < T.length → rkT T (s.at_ + ((brK (rkE e) lv (tkE e)).length : Int)) ≤ lv →
 ∃ K', K ≤ K' + (brK (rkE e) lv (tkE e)).length - 1 ∧ stepF T (exG T h).1 (exG T h).2 K least s = loopF T (exG T h).2 least K' (e, (deepE e : Int)) (aft s (brK (rkE e) lv (tkE e)).length (cntE e))
def CP (m : Int) (T : List S58) (h : Nat) (e : S38) (lv : Int) : Prop := ∀ (s : PSt), Fit m e s → At T s.at_ (brK (rkE e) lv (tkE e)) → 2 * (brK (rkE e) lv (tkE e)).length ≤ h → 1 ≤ lv → lv ≤ 9 →
 s.at_ + ((brK (rkE e) lv (tkE e)).length : Int) < T.length → 0 ≤ rkT T (s.at_ + ((brK (rkE e) lv (tkE e)).length : Int)) → rkT T (s.at_ + ((brK (rkE e) lv (tkE e)).length : Int)) < lv →
 (exG T h).2 lv s = some (.ok ((e, (deepE e : Int)), aft s (brK (rkE e) lv (tkE e)).length (cntE e)))
theorem brK_ne (rk lv : Int) {ts : List Lx.Tok} (h : ts ≠ []) : brK rk lv ts ≠ [] := by
 unfold brK
 split
 ·simp
 ·exact h
theorem one_le_len {ts : List Lx.Tok} (h : ts ≠ []) : 1 ≤ ts.length := by cases ts with
 | nil => exact absurd rfl h
 | cons _ _ => simp
theorem tkE_ne {e : S38} (h : fitE e = true) : tkE e ≠ [] := by
 obtain ⟨a, b, c, f, l⟩ := e; rcases fit_cases a b c f l h with ⟨rfl, rfl, hb⟩ | ⟨rfl, rfl, hnm⟩ | ⟨rfl, x, rfl, hx⟩ | ⟨rfl, x, rfl, hx, h0, h1⟩ | ⟨rfl, x, y, rfl, hx, hy, h0, h1⟩
 ·show [_] ≠ []; simp
 ·show [_] ≠ []; simp
 ·show (([wdT [109], sgT [91]] ++ tkE x) ++ [sgT [93]]) ≠ []; simp
 ·show ([sgT (oneK f)] ++ brK (rkE x) 9 (tkE x)) ≠ []; simp
 ·have e2 : tkE ⟨5, b, c, f, [x, y]⟩ = if f = 17 then ((([wdT [109, 105, 110], sgT [40]] ++ tkE x) ++ [sgT [44]]) ++ tkE y) ++ [sgT [41]] else if f = 18 then ((([wdT [109, 97, 120], sgT [40]] ++ tkE x) ++ [sgT [44]]) ++ tkE y) ++ [sgT [41]]
    else (brK (rkE x) (sgR f).2 (tkE x) ++ [sgT (lst (sgR f).1)]) ++ brK (rkE y) ((sgR f).2 + 1) (tkE y) := rfl
  rw [e2]
  split
  ·simp
  split
  ·simp
  ·simp
theorem rk_pos {e : S38} (h : fitE e = true) : 1 ≤ rkE e ∧ (rkE e < 9 → ∃ b c f x y, e = ⟨5, b, c, f, [x, y]⟩ ∧ 1 ≤ f ∧ f ≤ 16 ∧ rkE e = (sgR f).2) := by
 obtain ⟨a, b, c, f, l⟩ := e; rcases fit_cases a b c f l h with ⟨rfl, rfl, hb⟩ | ⟨rfl, rfl, hnm⟩ | ⟨rfl, x, rfl, hx⟩ | ⟨rfl, x, rfl, hx, h0, h1⟩ | ⟨rfl, x, y, rfl, hx, hy, h0, h1⟩
 ·have e : rkE ⟨1, b, c, f, []⟩ = 10 := rfl
  rw [e]; exact z_170
 ·have e : rkE ⟨2, b, c, f, []⟩ = 10 := rfl
  rw [e]; exact z_170
 ·have e : rkE ⟨3, b, c, f, [x]⟩ = 10 := rfl
  rw [e]; exact z_170
 ·have e : rkE ⟨4, b, c, f, [x]⟩ = 9 := rfl
  rw [e]; exact z_170
 ·have e : rkE ⟨5, b, c, f, [x, y]⟩ = if f = 17 then 10 else if f = 18 then 10 else (sgR f).2 := rfl
  rw [e]; by_cases q : f = 17
  ·rw [if_pos q]; exact z_170
  rw [if_neg q]; by_cases q2 : f = 18
  ·rw [if_pos q2]; exact z_170
  rw [if_neg q2]; obtain ⟨_, _, s1, s2, _⟩ := sign_facts f h0 (by omega); exact ⟨s1, fun _ => ⟨b, c, f, x, y, rfl, h0, by omega, rfl⟩⟩
theorem tk_open {e : S38} (h : fitE e = true) : brK (rkE e) 1 (tkE e) = tkE e := by
 unfold brK; rw [if_neg (by have := (rk_pos h).1; omega)]
theorem deep_pos (e : S38) : 1 ≤ deepE e ∧ 1 ≤ cntE e := by
 obtain ⟨a, b, c, f, l⟩ := e; simp only [deepE, cntE]
 omega
theorem C_of_B {m : Int} {T : List S58} {h : Nat} {e : S38} {lv : Int} (hf : fitE e = true) (hB : BP m T h e lv) : CP m T (h + 1) e lv := by
 intro s F hA hh h1 h9 hN r0 hr; have hne := one_le_len (brK_ne (rkE e) lv (tkE_ne hf)); have hl := at_len hA (brK_ne _ _ (tkE_ne hf)); obtain ⟨K', hK, hs⟩ := hB s lv (T.length + 1) F hA (by omega) h1 (Int.le_refl _) h9 (by omega) hN (by omega); show stepF T (exG T h).1 (exG T h).2 (T.length + 1) lv s = _; rw [hs]; obtain ⟨k, rfl⟩ : ∃ k, K' = k + 1 := ⟨K' - 1, by omega⟩
 rw [loopF]; have F1 := F.n0; have F2 := F.n1; have F3 := F.deep; generalize brK (rkE e) lv (tkE e) = tk at *; have hr' : (rankOf (rd_T58 T (aft s tk.length (cntE e)).at_)).1 < lv := hr; have hr0 : 0 ≤ (rankOf (rd_T58 T (aft s tk.length (cntE e)).at_)).1 := r0; rw [if_pos, if_pos (.inl hr')]; refine ⟨⟨⟨?_, ?_⟩, ?_, ?_⟩, ⟨?_, ?_⟩, hr0, by omega⟩
 ·show 0 ≤ s.at_ + _; omega
 ·exact hN
 ·show 0 ≤ s.nodes + _; omega
 ·show s.nodes + _ ≤ 600; omega
 ·show (0 : Int) ≤ (deepE e : Int); omega
 ·show (deepE e : Int) ≤ 48; omega
theorem st_eq {a a' n n' o o' b : Int} (h1 : a = a') (h2 : n = n') (h3 : o = o') : (⟨a, n, o, b⟩ : PSt) = ⟨a', n', o', b⟩ := by rw [h1, h2, h3]
theorem res_eq {e e' : S38} {d d' : Int} {a a' n n' o o' b : Int} (h0 : e = e') (hd : d = d') (h1 : a = a') (h2 : n = n') (h3 : o = o') : (some (.ok ((e, d), ⟨a, n, o, b⟩)) : Option Res) = some (.ok ((e', d'), ⟨a', n', o', b⟩)) := by rw [h0, hd, h1, h2, h3]
def IH (T : List S58) (n : Nat) : Prop := ∀ e, cntE e ≤ n → fitE e = true → ∀ h, AP T h e ∧ ∀ lv, 1 ≤ lv → lv ≤ 9 → BP 49 T h e lv
theorem IH.ch {T : List S58} {n : Nat} (hI : IH T n) {e : S38} (hn : cntE e ≤ n) (hf : fitE e = true) (h : Nat) (lv : Int) : CP 49 T h e lv := by
 intro s F hA hh h1 h9 hN r0 hr; cases h with
 | zero =>
  have := one_le_len (brK_ne (rkE e) lv (tkE_ne hf))
  omega
 | succ k => exact C_of_B hf ((hI e hn hf k).2 lv h1 h9) s F hA hh h1 h9 hN r0 hr
theorem rk_sign {T : List S58} {i : Int} {x : List UInt8} {ts : List Lx.Tok} (h : At T i (sgT x :: ts)) (hx : tree_Rank.f (bs x) = some (0, 0)) : rkT T i = 0 := by
 obtain ⟨_, h1, h2, _⟩ := h.1; unfold rkT rankOf; rw [h1, h2, if_pos (show (sgT x).kd = 4 from rfl)]; show ((tree_Rank.f (bs x)).getD (0, 0)).1 = 0; rw [hx]
 rfl
theorem rk_rp : tree_Rank.f (bs [41]) = some (0, 0) := by kernel_rfl
theorem rk_rb : tree_Rank.f (bs [93]) = some (0, 0) := by kernel_rfl
theorem rk_cm : tree_Rank.f (bs [44]) = some (0, 0) := by kernel_rfl
theorem rk_sc : tree_Rank.f (bs [59]) = some (0, 0) := by kernel_rfl
theorem in_at {T : List S58} {n : Nat} (hI : IH T n) {e : S38} (hn : cntE e ≤ n) (hf : fitE e = true) {h : Nat} {s : PSt} (F : Fit 49 e s) (hA : At T s.at_ (tkE e)) (hh : 2 * (tkE e).length ≤ h) {x : List UInt8} {ts : List Lx.Tok} (hx : tree_Rank.f (bs x) = some (0, 0)) (hN : At T (s.at_ + ((tkE e).length : Int)) (sgT x :: ts)) :
  (exG T h).2 1 s = some (.ok ((e, (deepE e : Int)), aft s (tkE e).length (cntE e))) := by
 have hC := hI.ch hn hf h 1 s F; rw [tk_open hf] at hC; have hr := rk_sign hN hx; exact hC hA hh (by decide) (by decide) hN.1.1.2 (by omega) (by omega)
theorem A_prim {T : List S58} {n : Nat} (hI : IH T n) (e : S38) (hn : cntE e ≤ n + 1) (hf : fitE e = true) (hr : ¬ rkE e < 9) (h : Nat) : AP T h e := by
 intro s F hA hh; have hbk : brK (rkE e) 9 (tkE e) = tkE e := by unfold brK; rw [if_neg hr]
 rw [hbk] at hA hh ⊢; have hl1 := one_le_len (tkE_ne hf); obtain ⟨k, rfl⟩ : ∃ k, h = k + 1 := ⟨h - 1, by omega⟩
 show valS T (exG T k).1 (exG T k).2 s = _; have F0 := F.op0; have F1 := F.op1; have F2 := F.n0; have F3 := F.n1; have F4 := F.deep; obtain ⟨a, b, c, f, l⟩ := e; unfold valS; rcases fit_full a b c f l hf with ⟨rfl, rfl, hb, rfl, rfl⟩ | ⟨rfl, rfl, hnm, rfl, rfl⟩ | ⟨rfl, ⟨x, rfl, hx⟩, rfl, rfl, rfl⟩ | ⟨rfl, ⟨x, rfl, hx⟩, hfr, rfl, rfl⟩ | ⟨rfl, ⟨x, y, rfl, hx, hy⟩, hfr, rfl, rfl⟩
 ·have hA' : At T s.at_ [⟨1, textB b, b⟩] := hA
  obtain ⟨g0, g1, g2, g3⟩ := hA'.1; rw [if_pos g0, if_pos g1, g3]; refine (node_at (d := 1) (s := ⟨s.at_ + 1, s.nodes, s.op, s.bl⟩) F2 (by simp only [cntE, cntL] at F3; show s.nodes + 1 ≤ 600; omega) (fun p hp => by simp at hp) rfl (by decide)).trans ?_
  exact res_eq rfl rfl rfl rfl rfl
 ·have hA' : At T s.at_ [⟨2, lst c, 0⟩] := hA
  obtain ⟨g0, g1, g2, g3⟩ := hA'.1; rw [if_pos g0, if_neg (by rw [g1]; show ¬ (2 : Int) = 1; decide), if_pos g1, g2]; refine (node_at (d := 1) (s := ⟨s.at_ + 1, s.nodes, s.op, s.bl⟩) F2 (by simp only [cntE, cntL] at F3; show s.nodes + 1 ≤ 600; omega) (fun p hp => by simp at hp) rfl (by decide)).trans ?_
  refine res_eq ?_ rfl rfl rfl rfl
  show (⟨2, 0, bs (lst c), 0, []⟩ : S38) = _; rw [bs_lst]
 ·have e1 : tkE ⟨3, 0, ⟨#[]⟩, 0, [x]⟩ = ([wdT [109], sgT [91]] ++ tkE x) ++ [sgT [93]] := rfl
  rw [e1] at hA hh ⊢; simp only [cntE, cntL, deepE, deepL] at hn F1 F3 F4; simp only [List.length_append, List.length_cons, List.length_nil] at hh ⊢; obtain ⟨a1, a3⟩ := at_app hA; obtain ⟨a1, a2⟩ := at_app a1; obtain ⟨g0, g1, g2, g3⟩ := a1.1; have a1' : At T (s.at_ + 1) [sgT [91]] := a1.2; rw [if_pos g0, if_neg (by rw [g1]; show ¬ (3 : Int) = 1; decide), if_neg (by rw [g1]; show ¬ (3 : Int) = 2; decide), if_neg (z_171), if_pos (z_172)]; refine (want_at (x := [91]) (s := ⟨s.at_ + 1, s.nodes, s.op, s.bl⟩) rfl a1').trans ?_; refine (enter_at (s := ⟨s.at_ + 1 + 1, s.nodes, s.op, s.bl⟩) F0 (by show s.op + 1 ≤ 48; have := (deep_pos x).1; omega)).trans ?_; replace a2 := at_c (j := s.at_ + 1 + 1) a2; have e3 : s.at_ + (((([wdT [109], sgT [91]] ++ tkE x).length : Nat)) : Int) = s.at_ + 1 + 1 + ((tkE x).length : Int) := z_173; rw [e3] at a3; have hx1 := in_at hI (h := k) (s := ⟨s.at_ + 1 + 1, s.nodes, s.op + 1, s.bl⟩) (by omega) hx ⟨hx, by omega, z_151, z_174, F2, by show s.nodes + (cntE x : Int) ≤ 600; omega⟩ a2 (by omega) rk_rb a3
  refine (ex_at hx1).trans ?_
  refine (leave_at (x := [93]) (s := aft ⟨s.at_ + 1 + 1, s.nodes, s.op + 1, s.bl⟩ (tkE x).length (cntE x)) rfl a3 (z_175) (z_176)).trans ?_
  refine (node_at (d := (deepE ⟨3, 0, ⟨#[]⟩, 0, [x]⟩ : Int)) (z_177) (by show s.nodes + (cntE x : Int) + 1 ≤ 600; omega) (fun p hp => by rw [List.mem_singleton.1 hp]; show 0 ≤ (deepE x : Int) ∧ (deepE x : Int) ≤ 48; omega) (by show max 1 ((deepE x : Int) + 1) = _; simp only [deepE, deepL]; omega) (by simp only [deepE, deepL]; omega)).trans ?_
  refine res_eq rfl rfl ?_ ?_ ?_
  ·show s.at_ + 1 + 1 + ((tkE x).length : Int) + 1 = _; omega
  ·show s.nodes + (cntE x : Int) + 1 = _; simp only [cntE, cntL]; omega
  ·show s.op + 1 - 1 = s.op; omega
 ·have e1 : tkE ⟨4, 0, ⟨#[]⟩, f, [x]⟩ = [sgT (oneK f)] ++ brK (rkE x) 9 (tkE x) := rfl
  rw [e1] at hA hh ⊢; simp only [cntE, cntL, deepE, deepL] at hn F1 F3 F4; simp only [List.length_append, List.length_cons, List.length_nil] at hh ⊢; obtain ⟨a1, a2⟩ := at_app hA; obtain ⟨g0, g1, g2, g3⟩ := a1.1
  have hop : signOp (rd_T58 T s.at_) = some f := by
   unfold signOp; rw [show (⟨#[45]⟩ : ByteArray) = bs [45] from rfl, show (⟨#[126]⟩ : ByteArray) = bs [126] from rfl, show (⟨#[33]⟩ : ByteArray) = bs [33] from rfl, isB_at a1, isB_at a1, isB_at a1]; have hc : f = 19 ∨ f = 20 ∨ f = 21 := by omega
   rcases hc with e | e | e <;> subst e <;> decide
  have hno : ∀ z : List UInt8, z = [40] ∨ z = [109] ∨ z = [109, 105, 110] ∨ z = [109, 97, 120] → isB (rd_T58 T s.at_) (bs z) = false := by
   intro z hz; rw [isB_at a1]; have hc : f = 19 ∨ f = 20 ∨ f = 21 := by omega
   rcases hc with e | e | e <;> subst e <;> rcases hz with e | e | e | e <;> subst e <;> decide
  rw [if_pos g0, if_neg (by rw [g1]; show ¬ (4 : Int) = 1; decide), if_neg (by rw [g1]; show ¬ (4 : Int) = 2; decide), if_neg (by rw [show (⟨#[40]⟩ : ByteArray) = bs [40] from rfl, hno _ (.inl rfl)]; decide), if_neg (by rw [show (⟨#[109]⟩ : ByteArray) = bs [109] from rfl, hno _ (.inr (.inl rfl))]; decide), if_neg (by rw [show (⟨#[109, 105, 110]⟩ : ByteArray) = bs [109, 105, 110] from rfl, hno _ (.inr (.inr (.inl rfl)))]; decide), if_neg (by rw [show (⟨#[109, 97, 120]⟩ : ByteArray) = bs [109, 97, 120] from rfl, hno _ (.inr (.inr (.inr rfl)))]; decide)]; unfold signS; rw [if_pos g0, hop]; dsimp only; refine (enter_at (s := ⟨s.at_ + 1, s.nodes, s.op, s.bl⟩) F0 (by show s.op + 1 ≤ 48; have := (deep_pos x).1; omega)).trans ?_; have e2 : s.at_ + (([sgT (oneK f)].length : Nat) : Int) = s.at_ + 1 := rfl; rw [e2] at a2; have hx1 := (hI x (by omega) hx k).1 ⟨s.at_ + 1, s.nodes, s.op + 1, s.bl⟩ ⟨hx, by omega, z_151, z_174, F2, by show s.nodes + (cntE x : Int) ≤ 600; omega⟩ a2 (by omega)
  refine (ex_at hx1).trans ?_
  refine (open_at (z_175) (z_176)).trans ?_
  refine (node_at (d := (deepE ⟨4, 0, ⟨#[]⟩, f, [x]⟩ : Int)) (z_177) (by show s.nodes + (cntE x : Int) + 1 ≤ 600; omega) (fun p hp => by rw [List.mem_singleton.1 hp]; show 0 ≤ (deepE x : Int) ∧ (deepE x : Int) ≤ 48; omega) (by show max 1 ((deepE x : Int) + 1) = _; simp only [deepE, deepL]; omega) (by simp only [deepE, deepL]; omega)).trans ?_
  refine res_eq rfl rfl ?_ ?_ ?_
  ·show s.at_ + 1 + ((brK (rkE x) 9 (tkE x)).length : Int) = _; omega
  ·show s.nodes + (cntE x : Int) + 1 = _; simp only [cntE, cntL]; omega
  ·show s.op + 1 - 1 = s.op; omega
 ·have hf17 : f = 17 ∨ f = 18 := by
   rcases Int.lt_or_le f 17 with z | z
   ·exfalso
    apply hr
    have e : rkE ⟨5, 0, ⟨#[]⟩, f, [x, y]⟩ = if f = 17 then 10 else if f = 18 then 10 else (sgR f).2 := rfl; rw [e, if_neg (by omega), if_neg (by omega)]; have := (sign_facts f hfr.1 (by omega)).2.2.2.1
    omega
   ·omega
  obtain ⟨w, hw, e1⟩ : ∃ w : List UInt8, ((f = 17 ∧ w = [109, 105, 110]) ∨ (f = 18 ∧ w = [109, 97, 120])) ∧ tkE ⟨5, 0, ⟨#[]⟩, f, [x, y]⟩ = ((([wdT w, sgT [40]] ++ tkE x) ++ [sgT [44]]) ++ tkE y) ++ [sgT [41]] := by
   rcases hf17 with e | e
   ·subst e; exact ⟨_, .inl ⟨rfl, rfl⟩, rfl⟩
   ·subst e; exact ⟨_, .inr ⟨rfl, rfl⟩, rfl⟩
  rw [e1] at hA hh ⊢; simp only [cntE, cntL, deepE, deepL] at hn F1 F3 F4; simp only [List.length_append, List.length_cons, List.length_nil] at hh ⊢; obtain ⟨a1, a5⟩ := at_app hA; obtain ⟨a1, a4⟩ := at_app a1; obtain ⟨a1, a3⟩ := at_app a1; obtain ⟨a1, a2⟩ := at_app a1; obtain ⟨g0, g1, g2, g3⟩ := a1.1; have a1' : At T (s.at_ + 1) [sgT [40]] := a1.2
  have hcall : ∀ t3, callS T (exG T k).2 t3 f s = some (.ok ((⟨5, 0, ⟨#[]⟩, f, [x, y]⟩, (deepE ⟨5, 0, ⟨#[]⟩, f, [x, y]⟩ : Int)), aft s (0 + 1 + 1 + (tkE x).length + (0 + 1) + (tkE y).length + (0 + 1)) (cntE ⟨5, 0, ⟨#[]⟩, f, [x, y]⟩))) := by
   intro t3; unfold callS; rw [if_pos g0]; refine (want_at (x := [40]) (s := ⟨s.at_ + 1, s.nodes, s.op, s.bl⟩) rfl a1').trans ?_; refine (enter_at (s := ⟨s.at_ + 1 + 1, s.nodes, s.op, s.bl⟩) F0 (by show s.op + 1 ≤ 48; have := (deep_pos x).1; omega)).trans ?_; replace a2 := at_c (j := s.at_ + 1 + 1) a2; replace a3 := at_c (j := s.at_ + 1 + 1 + ((tkE x).length : Int)) a3; replace a4 := at_c (j := s.at_ + 1 + 1 + ((tkE x).length : Int) + 1) a4; replace a5 := at_c (j := s.at_ + 1 + 1 + ((tkE x).length : Int) + 1 + ((tkE y).length : Int)) a5; have hx1 := in_at hI (h := k) (s := ⟨s.at_ + 1 + 1, s.nodes, s.op + 1, s.bl⟩) (by omega) hx ⟨hx, by omega, z_151, z_174, F2, by show s.nodes + (cntE x : Int) ≤ 600; omega⟩ a2 (by omega) rk_cm a3
   refine (ex_at hx1).trans ?_
   refine (want_at (x := [44]) (s := aft ⟨s.at_ + 1 + 1, s.nodes, s.op + 1, s.bl⟩ (tkE x).length (cntE x)) rfl a3).trans ?_
   have hy1 := in_at hI (h := k) (s := ⟨s.at_ + 1 + 1 + ((tkE x).length : Int) + 1, s.nodes + (cntE x : Int), s.op + 1, s.bl⟩) (by omega) hy ⟨hy, by omega, z_151, by show s.op + 1 + (deepE y : Int) ≤ 49; omega, z_177, by show s.nodes + (cntE x : Int) + (cntE y : Int) ≤ 600; omega⟩ a4 (by omega) rk_rp a5
   refine (ex_at hy1).trans ?_
   refine (leave_at (x := [41]) (s := aft ⟨s.at_ + 1 + 1 + ((tkE x).length : Int) + 1, s.nodes + (cntE x : Int), s.op + 1, s.bl⟩ (tkE y).length (cntE y)) rfl a5 (z_175) (z_176)).trans ?_
   refine (node_at (d := (deepE ⟨5, 0, ⟨#[]⟩, f, [x, y]⟩ : Int)) (by show 0 ≤ s.nodes + (cntE x : Int) + (cntE y : Int); omega) (by show s.nodes + (cntE x : Int) + (cntE y : Int) + 1 ≤ 600; omega) (fun p hp => by
    rcases List.mem_cons.1 hp with e | e
    ·rw [e]; show 0 ≤ (deepE x : Int) ∧ (deepE x : Int) ≤ 48; omega
    ·rw [List.mem_singleton.1 e]; show 0 ≤ (deepE y : Int) ∧ (deepE y : Int) ≤ 48; omega) (by show max (max 1 ((deepE x : Int) + 1)) ((deepE y : Int) + 1) = _; simp only [deepE, deepL]; omega) (by simp only [deepE, deepL]; omega)).trans ?_
   refine res_eq rfl rfl ?_ ?_ ?_
   ·show s.at_ + 1 + 1 + ((tkE x).length : Int) + 1 + ((tkE y).length : Int) + 1 = _; omega
   ·show s.nodes + (cntE x : Int) + (cntE y : Int) + 1 = _; simp only [cntE, cntL]; omega
   ·show s.op + 1 - 1 = s.op; omega
  rcases hw with ⟨rfl, rfl⟩ | ⟨rfl, rfl⟩
  ·rw [if_pos g0, if_neg (by rw [g1]; show ¬ (3 : Int) = 1; decide), if_neg (by rw [g1]; show ¬ (3 : Int) = 2; decide), if_neg (z_171), if_neg (z_172), if_pos (by rw [show (⟨#[109, 105, 110]⟩ : ByteArray) = bs [109, 105, 110] from rfl, isB_at a1]; decide)]
   exact hcall _
  ·rw [if_pos g0, if_neg (by rw [g1]; show ¬ (3 : Int) = 1; decide), if_neg (by rw [g1]; show ¬ (3 : Int) = 2; decide), if_neg (z_171), if_neg (z_172), if_neg (by rw [show (⟨#[109, 105, 110]⟩ : ByteArray) = bs [109, 105, 110] from rfl, isB_at a1]; decide), if_pos (by rw [show (⟨#[109, 97, 120]⟩ : ByteArray) = bs [109, 97, 120] from rfl, isB_at a1]; decide)]
   exact hcall _
theorem B_two {T : List S58} {n : Nat} (hI : IH T n) (e : S38) (hn : cntE e ≤ n + 1) (hf : fitE e = true) (hr : rkE e < 9) (h : Nat) (lv : Int) (hlv : ¬ rkE e < lv) : BP 50 T h e lv := by
 intro s least K F hA hh l1 l2 l9 hK hN hR; obtain ⟨b, c, f, x, y, he, h0, h1, hrk⟩ := (rk_pos hf).2 hr; have hbk : brK (rkE e) lv (tkE e) = tkE e := by unfold brK; rw [if_neg hlv]
 rw [hbk] at hA hh hK hN hR ⊢; rw [hrk] at hlv hr; subst he; have F0 := F.op0; have F1 := F.op1; have F2 := F.n0; have F3 := F.n1; have F4 := F.deep
 obtain ⟨hx, hy, rfl, rfl⟩ : fitE x = true ∧ fitE y = true ∧ b = 0 ∧ c = ⟨#[]⟩ := by
  rcases fit_full 5 b c f [x, y] hf with ⟨h, _⟩ | ⟨h, _⟩ | ⟨h, _⟩ | ⟨h, _⟩ | ⟨_, ⟨x', y', e, hx, hy⟩, _, hb, hc⟩
  ·cases h
  ·cases h
  ·cases h
  ·cases h
  ·injection e with e1 e2
   injection e2 with e2 _; subst e1 e2; exact ⟨hx, hy, hb, hc⟩
 obtain ⟨_, _, s1, s2, _⟩ := sign_facts f h0 h1
 have e1 : tkE ⟨5, 0, ⟨#[]⟩, f, [x, y]⟩ = (brK (rkE x) (sgR f).2 (tkE x) ++ [sgT (lst (sgR f).1)]) ++ brK (rkE y) ((sgR f).2 + 1) (tkE y) := by
  have e2 : tkE ⟨5, 0, ⟨#[]⟩, f, [x, y]⟩ = if f = 17 then ((([wdT [109, 105, 110], sgT [40]] ++ tkE x) ++ [sgT [44]]) ++ tkE y) ++ [sgT [41]] else if f = 18 then ((([wdT [109, 97, 120], sgT [40]] ++ tkE x) ++ [sgT [44]]) ++ tkE y) ++ [sgT [41]]
    else (brK (rkE x) (sgR f).2 (tkE x) ++ [sgT (lst (sgR f).1)]) ++ brK (rkE y) ((sgR f).2 + 1) (tkE y) := rfl
  rw [e2, if_neg (by omega), if_neg (by omega)]
 rw [e1] at hA hh hK hN hR ⊢; simp only [cntE, cntL, deepE, deepL] at hn F1 F3 F4; have lx := one_le_len (brK_ne (rkE x) (sgR f).2 (tkE_ne hx)); have ly := one_le_len (brK_ne (rkE y) ((sgR f).2 + 1) (tkE_ne hy)); obtain ⟨a1, a3⟩ := at_app hA; obtain ⟨a1, a2⟩ := at_app a1; have IX := (hI x (by omega) hx h).2 (sgR f).2 s1 (by omega); have IY := hI.ch (e := y) (by omega) hy h ((sgR f).2 + 1); unfold BP at IX; unfold CP at IY; generalize brK (rkE x) (sgR f).2 (tkE x) = tx at *; generalize brK (rkE y) ((sgR f).2 + 1) (tkE y) = ty at *; simp only [List.length_append, List.length_cons, List.length_nil] at hh hK hN hR a3 ⊢; obtain ⟨g0, g1, g2, g3⟩ := a2.1
 have hrank : rankOf (rd_T58 T (s.at_ + (tx.length : Int))) = ((sgR f).2, f) := by
  unfold rankOf; rw [g1, g2, if_pos (show (sgT (lst (sgR f).1)).kd = 4 from rfl)]; show (tree_Rank.f (bs (lst (sgR f).1))).getD (0, 0) = _; rw [bs_lst, (lx_between f h0 h1).2]
  rfl
 obtain ⟨K1, hK1, hs1⟩ := IX s least K ⟨hx, by omega, F0, by omega, F2, by omega⟩ a1 (by omega) l1 (by omega) (by omega) (by omega) g0.2 (by unfold rkT; rw [hrank]; exact Int.le_refl _)
 rw [hs1]; obtain ⟨k1, rfl⟩ : ∃ k, K1 = k + 1 := ⟨K1 - 1, by omega⟩
 refine ⟨k1, by omega, ?_⟩
 have ea : (aft s tx.length (cntE x)).at_ = s.at_ + (tx.length : Int) := rfl; have en : (aft s tx.length (cntE x)).nodes = s.nodes + (cntE x : Int) := rfl; have eo : (aft s tx.length (cntE x)).op = s.op := rfl; have eb : (aft s tx.length (cntE x)).bl = s.bl := rfl
 conv => lhs; rw [loopF]
 rw [ea, en, eo, eb, hrank, if_pos, if_neg]
 ·have a3' : At T (s.at_ + (tx.length : Int) + 1) ty := by
   have e : s.at_ + ((tx.length + (0 + 1) : Nat) : Int) = s.at_ + (tx.length : Int) + 1 := by omega
   rw [← e]; exact a3
  have epos : s.at_ + (tx.length : Int) + 1 + (ty.length : Int) = s.at_ + ((tx.length + (0 + 1) + ty.length : Nat) : Int) := by omega
  have hr0 : 0 ≤ rkT T (s.at_ + ((tx.length + (0 + 1) + ty.length : Nat) : Int)) := by
   unfold rkT; rcases rankOf_bd (rd_T58 T (s.at_ + ((tx.length + (0 + 1) + ty.length : Nat) : Int))) with z | ⟨_, z, _⟩
   ·omega
   ·omega
  have hy1 := IY ⟨s.at_ + (tx.length : Int) + 1, s.nodes + (cntE x : Int), s.op, s.bl⟩ ⟨hy, by omega, F0, by show s.op + (deepE y : Int) ≤ 49; omega, z_177, by show s.nodes + (cntE x : Int) + (cntE y : Int) ≤ 600; omega⟩ a3' (by omega) (by omega) (by omega)
   (by show s.at_ + (tx.length : Int) + 1 + (ty.length : Int) < T.length; omega) (by show 0 ≤ rkT T (s.at_ + (tx.length : Int) + 1 + (ty.length : Int)); rw [epos]; exact hr0) (by show rkT T (s.at_ + (tx.length : Int) + 1 + (ty.length : Int)) < _; rw [epos]; omega)
  dsimp only; rw [hy1]; dsimp only; have en2 : (aft ⟨s.at_ + (tx.length : Int) + 1, s.nodes + (cntE x : Int), s.op, s.bl⟩ ty.length (cntE y)).nodes = s.nodes + (cntE x : Int) + (cntE y : Int) := rfl
  have hd : deepQ [(x, (deepE x : Int)), (y, (deepE y : Int))] 1 = (deepE ⟨5, 0, ⟨#[]⟩, f, [x, y]⟩ : Int) := by
   show max (max 1 ((deepE x : Int) + 1)) ((deepE y : Int) + 1) = _; simp only [deepE, deepL]
   omega
  have hd48 : ¬ 48 < (deepE ⟨5, 0, ⟨#[]⟩, f, [x, y]⟩ : Int) := by simp only [deepE, deepL]; omega
  rw [if_pos ⟨⟨by omega, by omega⟩, by rw [en2]; omega, by rw [en2]; omega⟩]
  unfold nodeQ; rw [hd, if_neg hd48, en2, if_neg (by omega)]; dsimp only
  congr 1
  refine st_eq ?_ ?_ rfl
  ·show s.at_ + (tx.length : Int) + 1 + (ty.length : Int) = _; omega
  ·simp only [cntE, cntL]; omega
 ·dsimp only; omega
 ·refine ⟨⟨⟨?_, ?_⟩, ?_, ?_⟩, ⟨?_, ?_⟩, ?_, ?_⟩
  ·rw [ea]; exact g0.1
  ·rw [ea]; exact g0.2
  ·rw [en]; omega
  ·rw [en]; omega
  ·show (0 : Int) ≤ (deepE x : Int); omega
  ·show (deepE x : Int) ≤ 48; omega
  ·show 0 ≤ (sgR f).2; omega
  ·show (sgR f).2 ≤ 100; omega
theorem A_br {T : List S58} {n : Nat} (hI : IH T n) (e : S38) (hn : cntE e ≤ n + 1) (hf : fitE e = true) (hr : rkE e < 9) (h : Nat) : AP T h e := by
 intro s F hA hh; have hbk : brK (rkE e) 9 (tkE e) = ([sgT [40]] ++ tkE e) ++ [sgT [41]] := by unfold brK; rw [if_pos hr]
 rw [hbk] at hA hh ⊢; simp only [List.length_append, List.length_cons, List.length_nil] at hh ⊢; obtain ⟨k, rfl⟩ : ∃ k, h = k + 1 := ⟨h - 1, by omega⟩
 show valS T (exG T k).1 (exG T k).2 s = _; have F0 := F.op0; have F1 := F.op1; have F2 := F.n0; have F3 := F.n1; have F4 := F.deep; have hl1 := one_le_len (tkE_ne hf)
 have hd2 : 2 ≤ deepE e := by
  obtain ⟨b, c, f, x, y, he, _⟩ := (rk_pos hf).2 hr; subst he; have := (deep_pos x).1; simp only [deepE, deepL]
  omega
 obtain ⟨a1, a3⟩ := at_app hA; obtain ⟨a1, a2⟩ := at_app a1; obtain ⟨g0, g1, g2, g3⟩ := a1.1; unfold valS; rw [if_pos g0, if_neg (by rw [g1]; show ¬ (4 : Int) = 1; decide), if_neg (by rw [g1]; show ¬ (4 : Int) = 2; decide), if_pos (z_171)]; refine (enter_at (s := ⟨s.at_ + 1, s.nodes, s.op, s.bl⟩) F0 (by show s.op + 1 ≤ 48; omega)).trans ?_; have e2 : s.at_ + (([sgT [40]].length : Nat) : Int) = s.at_ + 1 := rfl; rw [e2] at a2; replace a3 := at_c (j := s.at_ + 1 + ((tkE e).length : Int)) a3; obtain ⟨k', rfl⟩ : ∃ k', k = k' + 1 := ⟨k - 1, by omega⟩
 have hC := C_of_B hf (B_two hI e hn hf hr k' 1 (by have := (rk_pos hf).1; omega)) ⟨s.at_ + 1, s.nodes, s.op + 1, s.bl⟩ ⟨hf, F4, z_151, by show s.op + 1 + (deepE e : Int) ≤ 50; omega, F2, F3⟩
 rw [tk_open hf] at hC; have hrk := rk_sign a3 rk_rp; have hx1 := hC a2 (by omega) (by decide) (by decide) a3.1.1.2 (by show 0 ≤ rkT T (s.at_ + 1 + _); rw [hrk]; decide) (by show rkT T (s.at_ + 1 + _) < 1; rw [hrk]; decide); refine (ex_at hx1).trans ?_; refine (leave_at (x := [41]) (s := aft ⟨s.at_ + 1, s.nodes, s.op + 1, s.bl⟩ (tkE e).length (cntE e)) rfl a3 (z_175) (z_176)).trans ?_; refine res_eq rfl rfl ?_ rfl ?_
 ·show s.at_ + 1 + ((tkE e).length : Int) + 1 = _; omega
 ·show s.op + 1 - 1 = s.op; omega
theorem ih_all (T : List S58) : ∀ n, IH T n
 | 0 => fun e hn hf h => by have := (deep_pos e).2; omega
 | n + 1 => fun e hn hf h => by
  have hI := ih_all T n
  have hAP : AP T h e := by
   by_cases hr : rkE e < 9
   ·exact A_br hI e hn hf hr h
   ·exact A_prim hI e hn hf hr h
  refine ⟨hAP, fun lv h1 h9 => ?_⟩
  by_cases hr : rkE e < 9 ∧ ¬ rkE e < lv
  ·intro s least K F
   exact B_two hI e hn hf hr.1 h lv hr.2 s least K ⟨F.fit, F.deep, F.op0, by have := F.op1; omega, F.n0, F.n1⟩
  ·have hbk : brK (rkE e) lv (tkE e) = brK (rkE e) 9 (tkE e) := by
    unfold brK; by_cases z : rkE e < lv
    ·rw [if_pos z, if_pos (by omega)]
    ·rw [if_neg z, if_neg (by omega)]
   intro s least K F hA hh l1 l2 l9 hK hN hR; have hne := one_le_len (brK_ne (rkE e) lv (tkE_ne hf)); refine ⟨K, by omega, ?_⟩
   rw [hbk] at hA hh ⊢; unfold stepF; rw [hAP s F hA hh]
theorem ex_ok {T : List S58} {e : S38} {s : PSt} (F : Fit 49 e s) (hA : At T s.at_ (tkE e)) {x : List UInt8} {ts : List Lx.Tok} (hx : tree_Rank.f (bs x) = some (0, 0)) (hN : At T (s.at_ + ((tkE e).length : Int)) (sgT x :: ts)) :
  ab0 T 1 s = some (.ok ((e, (deepE e : Int)), aft s (tkE e).length (cntE e))) := by
 have := at_len hA (tkE_ne F.fit); exact in_at (ih_all T (cntE e)) (xlr _) F.fit F hA (by omega) hx hN
section
variable {α β : Type} {T : List S58} {s : PSt}
theorem made_at {t3 : Int} {k : PSt → Option (Except Er α)} (h0 : 0 ≤ s.nodes) (h1 : s.nodes + 1 ≤ 600) : madeK s t3 k = k ⟨s.at_, s.nodes + 1, s.op, s.bl⟩ := by
 unfold madeK; rw [if_pos ⟨h0, by omega⟩, if_neg (by omega)]
theorem deeper_at {t3 : Int} {k : PSt → Option (Except Er α)} (h0 : 0 ≤ s.bl) (h1 : s.bl + 1 ≤ 12) : deeperK s t3 k = k ⟨s.at_, s.nodes, s.op, s.bl + 1⟩ := by
 unfold deeperK; rw [if_pos ⟨h0, by omega⟩, if_neg (by omega)]
theorem close_at {k : PSt → Option (Except Er α)} (h0 : 1 ≤ s.bl) (h1 : s.bl ≤ 100) : closeK s k = k ⟨s.at_, s.nodes, s.op, s.bl - 1⟩ := by
 unfold closeK; rw [if_pos ⟨h0, h1⟩]
theorem is_yes {x : ByteArray} {k1 k2 : Option (Except Er α)} (hg : 0 ≤ s.at_ ∧ s.at_ < T.length) (h : isB (rd_T58 T s.at_) x = true) : isK T s x k1 k2 = k1 := by
 unfold isK; rw [if_pos hg, if_pos h]
theorem is_no {x : ByteArray} {k1 k2 : Option (Except Er α)} (hg : 0 ≤ s.at_ ∧ s.at_ < T.length) (h : isB (rd_T58 T s.at_) x = false) : isK T s x k1 k2 = k2 := by
 unfold isK; rw [if_pos hg, if_neg (by rw [h]; decide)]
theorem kind_at {t : Lx.Tok} {ts : List Lx.Tok} {kd : Int} (ht : t.kd = kd) {k : S58 → PSt → Option (Except Er α)} (h : At T s.at_ (t :: ts)) : kindK T s kd k = k (rd_T58 T s.at_) ⟨s.at_ + 1, s.nodes, s.op, s.bl⟩ := by
 unfold kindK; rw [if_pos h.1.1, if_pos (by rw [h.1.2.1, ht])]
theorem end_at {t3 : Int} {x : S41} {ts : List Lx.Tok} (hx : ¬ (x.f0 = 6 ∨ x.f0 = 7)) (h : At T s.at_ (sgT [59] :: ts)) (h0 : 0 ≤ s.nodes) (h1 : s.nodes + 1 ≤ 600) : endS T t3 x s = some (.ok (x, ⟨s.at_ + 1, s.nodes + 1, s.op, s.bl⟩)) := by
 unfold endS; rw [if_neg hx]; exact (want_at (x := [59]) rfl h).trans (made_at h0 h1)
theorem end_at2 {t3 : Int} {x : S41} (hx : x.f0 = 6 ∨ x.f0 = 7) (h0 : 0 ≤ s.nodes) (h1 : s.nodes + 1 ≤ 600) : endS T t3 x s = some (.ok (x, ⟨s.at_, s.nodes + 1, s.op, s.bl⟩)) := by
 unfold endS; rw [if_pos hx]; exact made_at h0 h1
end
def notB (t : Lx.Tok) (x : List UInt8) : Prop := (((t.kd == 4) || (t.kd == 3)) && (t.tx == x)) = false
theorem tkS_head {x : S41} (h : headB x = true) : ∃ t ts, tkS x = t :: ts ∧ notB t [125] ∧ notB t [101, 108, 115, 101] ∧ t.kd ≠ 0 ∧ (x.f0 = 6 → t = wdT [105, 102]) := by
 obtain ⟨k, f1, f2, l3, l4, l5⟩ := x; have e : tkS ⟨k, f1, f2, l3, l4, l5⟩ = tkOne k f1 f2 l3 (tkB l4) l5 (tkB l5) (tkH l5) := rfl; rw [e]; rcases head_cases _ _ _ _ _ _ h with ⟨hk, _⟩ | ⟨rfl, _⟩ | ⟨hk, _⟩ | ⟨rfl, _⟩ | ⟨rfl, _⟩ | ⟨rfl, _⟩ | ⟨rfl, _⟩
 ·rcases hk with rfl | rfl
  ·exact ⟨wdT [118, 97, 114], _, rfl, by unfold notB; decide, by unfold notB; decide, by decide, fun h => absurd (show (1 : Int) = 6 from h) (by decide)⟩
  ·exact ⟨⟨2, lst f1, 0⟩, _, rfl, rfl, rfl, by show (2 : Int) ≠ 0; decide, fun h => absurd (show (2 : Int) = 6 from h) (by decide)⟩
 ·exact ⟨wdT [109], _, rfl, by unfold notB; decide, by unfold notB; decide, by decide, fun h => absurd (show (3 : Int) = 6 from h) (by decide)⟩
 ·rcases hk with rfl | rfl
  ·exact ⟨wdT [101, 109, 105, 116], _, rfl, by unfold notB; decide, by unfold notB; decide, by decide, fun h => absurd (show (4 : Int) = 6 from h) (by decide)⟩
  ·exact ⟨wdT [102, 97, 105, 108], _, rfl, by unfold notB; decide, by unfold notB; decide, by decide, fun h => absurd (show (8 : Int) = 6 from h) (by decide)⟩
 ·exact ⟨wdT [105, 110, 116, 111], _, rfl, by unfold notB; decide, by unfold notB; decide, by decide, fun h => absurd (show (5 : Int) = 6 from h) (by decide)⟩
 ·exact ⟨wdT [115, 116, 111, 112], _, rfl, by unfold notB; decide, by unfold notB; decide, by decide, fun h => absurd (show (9 : Int) = 6 from h) (by decide)⟩
 ·exact ⟨wdT [119, 104, 105, 108, 101], _, rfl, by unfold notB; decide, by unfold notB; decide, by decide, fun h => absurd (show (7 : Int) = 6 from h) (by decide)⟩
 ·have h6 : ∀ (B E H : List Lx.Tok), ∃ ts, tkOne 6 f1 f2 l3 B l5 E H = wdT [105, 102] :: ts := by
   intro B E H; show ∃ ts, tkEls l5 (((([wdT [105, 102], sgT [40]] ++ tk0 l3) ++ [sgT [41], sgT [123]]) ++ B) ++ [sgT [125]]) E H = _; unfold tkEls; by_cases c : l5.length = 0
   ·rw [if_pos c]; exact ⟨_, rfl⟩
   rw [if_neg c]; by_cases c2 : l5.length = 1 ∧ (rd_T41 l5 0).f0 = 6
   ·rw [if_pos c2]; exact ⟨_, rfl⟩
   ·rw [if_neg c2]; exact ⟨_, rfl⟩
  obtain ⟨ts, e2⟩ := h6 (tkB l4) (tkB l5) (tkH l5); exact ⟨_, ts, e2, by unfold notB; decide, by unfold notB; decide, by decide, fun _ => rfl⟩
theorem not_at {T : List S58} {i : Int} {t : Lx.Tok} {ts : List Lx.Tok} {x : List UInt8} (h : At T i (t :: ts)) (hn : notB t x) : isB (rd_T58 T i) (bs x) = false := by
 rw [isB_at h]; exact hn
structure SFit (b : Nat) (x : S41) (s : PSt) : Prop where
 fit : fitSt (fitB b) x = true
 op : s.op = 0
 bl0 : 0 ≤ s.bl
 bl1 : s.bl + (b : Int) ≤ 12
 n0 : 0 ≤ s.nodes
 n1 : s.nodes + ((cntS x + 1 : Nat) : Int) ≤ 600
def NxS (T : List S58) (i : Int) : Prop := (0 ≤ i ∧ i < T.length) ∧ isB (rd_T58 T i) (bs [101, 108, 115, 101]) = false
def SP (T : List S58) (h b : Nat) (x : S41) : Prop := ∀ s, SFit b x s → At T s.at_ (tkS x) → NxS T (s.at_ + ((tkS x).length : Int)) → (tkS x).length ≤ h → stG T (ab0 T) h s = some (.ok (x, aft s (tkS x).length (cntS x + 1)))
theorem tkS_len {x : S41} (h : headB x = true) : 1 ≤ (tkS x).length := by
 obtain ⟨t, ts, e, _⟩ := tkS_head h; rw [e]; simp
theorem tkB_len {b : Nat} : ∀ {l : List S41}, l.all (fitSt (fitB b)) = true → l.length ≤ (tkB l).length
 | [], _ => xlr _
 | x :: xs, h => by
  rw [List.all_cons, Bool.and_eq_true] at h; have h1 := tkS_len (fit_open h.1).1; have h2 := tkB_len h.2; simp only [tkB, List.length_append, List.length_cons]
  omega
theorem sres_eq {x x' : S41} {a a' n n' o o' b b' : Int} (h0 : x = x') (h1 : a = a') (h2 : n = n') (h3 : o = o') (h4 : b = b') : (some (.ok (x, ⟨a, n, o, b⟩)) : Option SRes) = some (.ok (x', ⟨a', n', o', b'⟩)) := by rw [h0, h1, h2, h3, h4]
theorem cntB_len (l : List S41) : l.length ≤ cntB l := len_cntB l
theorem body_ok {T : List S58} {h b : Nat} (hS : ∀ x, SP T h b x) : ∀ (l xs : List S41) (s : PSt) (K : Nat), l.all (fitSt (fitB b)) = true → s.op = 0 → 1 ≤ s.bl → s.bl + (b : Int) ≤ 12 → 0 ≤ s.nodes → s.nodes + ((cntB l : Nat) : Int) ≤ 600 →
  At T s.at_ (tkB l ++ [sgT [125]]) → l.length < K → xs.length + l.length < 1000 → (tkB l).length ≤ h →
  bodyL T (stG T (ab0 T) h) K xs s = some (.ok (xs ++ l, ⟨s.at_ + ((tkB l).length : Int) + 1, s.nodes + ((cntB l : Nat) : Int), s.op, s.bl - 1⟩))
 | [], xs, s, K, hf, ho, hb, hb1, hn, hn1, hA, hK, hx, hh => by
  obtain ⟨k, rfl⟩ : ∃ k, K = k + 1 := ⟨K - 1, by omega⟩
  have hA' : At T s.at_ [sgT [125]] := hA; rw [bodyL, if_pos ⟨hA'.1.1, by simpa using hx, hb, by omega⟩, if_pos (by rw [show (⟨#[125]⟩ : ByteArray) = bs [125] from rfl, isB_at hA']; decide), List.append_nil]
  simp only [tkB, cntB, List.length_nil]
  congr 3
  refine (show (⟨_, _, _, _⟩ : PSt) = ⟨_, _, _, _⟩ from ?_)
  congr 1
  ·omega
  ·omega
 | x :: l, xs, s, K, hf, ho, hb, hb1, hn, hn1, hA, hK, hx, hh => by
  obtain ⟨k, rfl⟩ : ∃ k, K = k + 1 := ⟨K - 1, by omega⟩
  rw [List.all_cons, Bool.and_eq_true] at hf; obtain ⟨hf1, hf2⟩ := hf; obtain ⟨t, ts, et, hnb, hne, _⟩ := tkS_head (fit_open hf1).1; simp only [tkB, cntB, List.length_append, List.length_cons, List.append_assoc] at hA hn1 hx hh hK ⊢; obtain ⟨a1, a2⟩ := at_app hA; have a1' := a1; rw [et] at a1'
  have hN : NxS T (s.at_ + ((tkS x).length : Int)) := by
   cases l with
   | nil =>
    have a2' : At T (s.at_ + ((tkS x).length : Int)) [sgT [125]] := a2; exact ⟨a2'.1.1, not_at a2' (by unfold notB; decide)⟩
   | cons y ys =>
    rw [List.all_cons, Bool.and_eq_true] at hf2; obtain ⟨t2, ts2, et2, _, hne2, _⟩ := tkS_head (fit_open hf2.1).1; simp only [tkB, List.append_assoc] at a2; obtain ⟨a3, _⟩ := at_app a2; rw [et2] at a3; exact ⟨a3.1.1, not_at a3 hne2⟩
  have hst := hS x s ⟨hf1, ho, by omega, hb1, hn, by omega⟩ a1 hN (by omega)
  rw [bodyL, if_pos ⟨a1'.1.1, by omega, hb, by omega⟩, if_neg (by rw [show (⟨#[125]⟩ : ByteArray) = bs [125] from rfl, not_at a1' hnb]; decide)]
  refine (ex_at hst).trans ?_
  refine (body_ok hS l (xs ++ [x]) (aft s (tkS x).length (cntS x + 1)) k hf2 ho hb hb1 (by show 0 ≤ s.nodes + ((cntS x + 1 : Nat) : Int); omega) (by show s.nodes + ((cntS x + 1 : Nat) : Int) + _ ≤ 600; omega) a2 (by omega) (z_173) (by omega)).trans ?_
  rw [List.append_assoc]; show some (Except.ok (xs ++ (x :: l), (⟨s.at_ + ((tkS x).length : Int) + ((tkB l).length : Int) + 1, s.nodes + ((cntS x + 1 : Nat) : Int) + ((cntB l : Nat) : Int), s.op, s.bl - 1⟩ : PSt))) = _
  congr 3
  refine (show (⟨_, _, _, _⟩ : PSt) = ⟨_, _, _, _⟩ from ?_)
  congr 1
  ·omega
  ·omega
theorem block_ok {T : List S58} {h b : Nat} (hS : ∀ x, SP T h b x) (l : List S41) (s : PSt) (hf : l.all (fitSt (fitB b)) = true) (ho : s.op = 0) (hb : 0 ≤ s.bl) (hb1 : s.bl + ((b + 1 : Nat) : Int) ≤ 12) (hn : 0 ≤ s.nodes) (hn1 : s.nodes + ((cntB l : Nat) : Int) ≤ 600)
  (hA : At T s.at_ (([sgT [123]] ++ tkB l) ++ [sgT [125]])) (hh : (tkB l).length ≤ h) :
  bodyS T (stG T (ab0 T) h) (T.length + 1) s = some (.ok (l, ⟨s.at_ + ((tkB l).length : Int) + 2, s.nodes + ((cntB l : Nat) : Int), s.op, s.bl⟩)) := by
 have hlen := at_len hA (by simp); have h1 := tkB_len hf; have h2 := cntB_len l; simp only [List.length_append, List.length_cons, List.length_nil] at hlen; have hA' : At T s.at_ (sgT [123] :: (tkB l ++ [sgT [125]])) := by simpa using hA
 unfold bodyS; refine (want_at (x := [123]) rfl hA').trans ?_; refine (deeper_at (s := ⟨s.at_ + 1, s.nodes, s.op, s.bl⟩) hb (by show s.bl + 1 ≤ 12; omega)).trans ?_; refine (body_ok hS l [] ⟨s.at_ + 1, s.nodes, s.op, s.bl + 1⟩ (T.length + 1) hf ho (by show 1 ≤ s.bl + 1; omega) (by show s.bl + 1 + (b : Int) ≤ 12; omega) hn hn1 hA'.2 (by omega) (by simp only [List.length_nil]; omega) hh).trans ?_; rw [List.nil_append]; show some (Except.ok (l, (⟨s.at_ + 1 + ((tkB l).length : Int) + 1, s.nodes + ((cntB l : Nat) : Int), s.op, s.bl + 1 - 1⟩ : PSt))) = _
 congr 3
 refine (show (⟨_, _, _, _⟩ : PSt) = ⟨_, _, _, _⟩ from ?_)
 congr 1
 ·omega
 ·omega
theorem okA_fit {x : S38} (h : [x].all okA = true) : fitE x = true ∧ deepE x ≤ 48 := by
 rw [List.all_cons, Bool.and_eq_true] at h; exact okA_open h.1
theorem test_ok {T : List S58} {x : S38} {s : PSt} (hx : fitE x = true) (hd : deepE x ≤ 48) (ho : s.op = 0) (hn : 0 ≤ s.nodes) (hn1 : s.nodes + ((cntE x : Nat) : Int) ≤ 600) {ts : List Lx.Tok} (hA : At T s.at_ (([sgT [40]] ++ tkE x) ++ (sgT [41] :: ts))) :
  testS T (ab0 T) s = some (.ok ((x, (deepE x : Int)), ⟨s.at_ + ((tkE x).length : Int) + 2, s.nodes + ((cntE x : Nat) : Int), s.op, s.bl⟩)) := by
 obtain ⟨a1, a3⟩ := at_app hA; obtain ⟨a1, a2⟩ := at_app a1; have e2 : s.at_ + (([sgT [40]].length : Nat) : Int) = s.at_ + 1 := rfl; rw [e2] at a2; replace a3 := at_c (j := s.at_ + 1 + ((tkE x).length : Int)) a3; unfold testS; refine (want_at (x := [40]) rfl a1).trans ?_; refine (enter_at (s := ⟨s.at_ + 1, s.nodes, s.op, s.bl⟩) (by show 0 ≤ s.op; omega) (by show s.op + 1 ≤ 48; omega)).trans ?_; refine (ex_at (ex_ok (s := ⟨s.at_ + 1, s.nodes, s.op + 1, s.bl⟩) ⟨hx, hd, z_151, z_174, hn, hn1⟩ a2 rk_rp a3)).trans ?_; refine (leave_at (x := [41]) (s := aft ⟨s.at_ + 1, s.nodes, s.op + 1, s.bl⟩ (tkE x).length (cntE x)) rfl a3 (z_175) (z_176)).trans ?_; refine res_eq rfl rfl ?_ rfl ?_
 ·show s.at_ + 1 + ((tkE x).length : Int) + 1 = _; omega
 ·show s.op + 1 - 1 = s.op; omega
theorem toL_at {T : List S58} {i : Int} {t : Lx.Tok} {ts : List Lx.Tok} (h : At T i (t :: ts)) : (rd_T58 T i).f1.toList = t.tx := by
 rw [h.1.2.2.1, bs_toList]
theorem word_end {T : List S58} {h : Nat} {s s1 : PSt} {x : S41} {t : Lx.Tok} {ts us : List Lx.Tok} (hk : t.kd = 3) (hA : At T s.at_ (t :: ts)) (hx : ¬ (x.f0 = 6 ∨ x.f0 = 7)) (hw : wordS T (ab0 T) (stG T (ab0 T) h) (T.length + 1) s (rd_T58 T s.at_) = some (.ok (x, s1)))
  (hE : At T s1.at_ (sgT [59] :: us)) (h0 : 0 ≤ s1.nodes) (h1 : s1.nodes + 1 ≤ 600) : stG T (ab0 T) (h + 1) s = some (.ok (x, ⟨s1.at_ + 1, s1.nodes + 1, s1.op, s1.bl⟩)) := by
 show stmtS T (ab0 T) (wordS T (ab0 T) (stG T (ab0 T) h) (T.length + 1)) s = _; unfold stmtS; rw [if_pos hA.1.1, if_neg (by rw [hA.1.2.1, hk]; decide), if_pos (by rw [hA.1.2.1, hk])]; exact (ex_at hw).trans (end_at hx hE h0 h1)
theorem word_end2 {T : List S58} {h : Nat} {s s1 : PSt} {x : S41} {t : Lx.Tok} {ts : List Lx.Tok} (hk : t.kd = 3) (hA : At T s.at_ (t :: ts)) (hx : x.f0 = 6 ∨ x.f0 = 7) (hw : wordS T (ab0 T) (stG T (ab0 T) h) (T.length + 1) s (rd_T58 T s.at_) = some (.ok (x, s1)))
  (h0 : 0 ≤ s1.nodes) (h1 : s1.nodes + 1 ≤ 600) : stG T (ab0 T) (h + 1) s = some (.ok (x, ⟨s1.at_, s1.nodes + 1, s1.op, s1.bl⟩)) := by
 show stmtS T (ab0 T) (wordS T (ab0 T) (stG T (ab0 T) h) (T.length + 1)) s = _; unfold stmtS; rw [if_pos hA.1.1, if_neg (by rw [hA.1.2.1, hk]; decide), if_pos (by rw [hA.1.2.1, hk])]; exact (ex_at hw).trans (end_at2 hx h0 h1)
theorem exS_ok {T : List S58} {kd cl : Int} {nm : ByteArray} {x : S38} {s : PSt} (hx : fitE x = true) (hd : deepE x ≤ 48) (ho : s.op = 0) (hn : 0 ≤ s.nodes) (hn1 : s.nodes + ((cntE x : Nat) : Int) ≤ 600) (hA : At T s.at_ (tkE x)) {ts : List Lx.Tok} (hE : At T (s.at_ + ((tkE x).length : Int)) (sgT [59] :: ts)) :
  exS T (ab0 T) kd nm cl s = some (.ok (⟨kd, nm, cl, [x], [], []⟩, aft s (tkE x).length (cntE x))) := by
 unfold exS; exact ex_at (ex_ok ⟨hx, hd, by omega, by omega, hn, hn1⟩ hA rk_sc hE)
theorem word_chain {T : List S58} {st : PSt → Option SRes} {K : Nat} {s : PSt} {t : S58} {w : List UInt8} (hg : 0 ≤ s.at_ ∧ s.at_ < T.length) (ht : t.f1.toList = w) : wordS T (ab0 T) st K s t =
  if w = ([118, 97, 114] : List UInt8) then kindK T ⟨s.at_ + 1, s.nodes, s.op, s.bl⟩ 2 fun n s1 => wantK T s1 ⟨#[61]⟩ fun _ s2 => exS T (ab0 T) 1 n.f1 0 s2
  else if w = ([109] : List UInt8) then wantK T ⟨s.at_ + 1, s.nodes, s.op, s.bl⟩ ⟨#[91]⟩ fun o s1 => enterK s1 o.f3 fun s2 => exK (ab0 T 1 s2) fun p s3 => leaveK T s3 ⟨#[93]⟩ fun s4 => wantK T s4 ⟨#[61]⟩ fun _ s5 => exK (ab0 T 1 s5) fun y s6 => some (.ok (⟨3, ⟨#[]⟩, 0, [p.1, y.1], [], []⟩, s6))
  else if w = ([101, 109, 105, 116] : List UInt8) then exS T (ab0 T) 4 ⟨#[]⟩ 0 ⟨s.at_ + 1, s.nodes, s.op, s.bl⟩
  else if w = ([105, 110, 116, 111] : List UInt8) then kindK T ⟨s.at_ + 1, s.nodes, s.op, s.bl⟩ 1 fun n s1 => if 255 < n.f2 then some (.error (40, n.f3)) else exS T (ab0 T) 5 ⟨#[]⟩ n.f2 s1
  else if w = ([102, 97, 105, 108] : List UInt8) then exS T (ab0 T) 8 ⟨#[]⟩ 0 ⟨s.at_ + 1, s.nodes, s.op, s.bl⟩
  else if w = ([115, 116, 111, 112] : List UInt8) then some (.ok (⟨9, ⟨#[]⟩, 0, [], [], []⟩, ⟨s.at_ + 1, s.nodes, s.op, s.bl⟩))
  else if w = ([119, 104, 105, 108, 101] : List UInt8) then exK (testS T (ab0 T) ⟨s.at_ + 1, s.nodes, s.op, s.bl⟩) fun p s1 => exK (bodyS T st K s1) fun l s2 => some (.ok (⟨7, ⟨#[]⟩, 0, [p.1], l, []⟩, s2))
  else if w = ([105, 102] : List UInt8) then branchS T (ab0 T) st K ⟨s.at_ + 1, s.nodes, s.op, s.bl⟩
  else some (.error (40, t.f3)) := by
 unfold wordS; rw [if_pos hg, ht]
theorem els_at {T : List S58} {i : Int} {l5 : List S41} {B E H : List Lx.Tok} (h : At T i (tkEls l5 B E H)) : At T i B := by
 unfold tkEls at h; by_cases c : l5.length = 0
 ·rw [if_pos c] at h; exact h
 rw [if_neg c] at h; by_cases c2 : l5.length = 1 ∧ (rd_T41 l5 0).f0 = 6
 ·rw [if_pos c2] at h; exact (at_app (at_app h).1).1
 ·rw [if_neg c2] at h; exact (at_app (at_app (at_app h).1).1).1
theorem st_ok (T : List S58) : ∀ (h b : Nat) (x : S41), SP T h b x
 | 0, b, x => fun s F hA hN hh => by
  have := tkS_len (fit_open F.fit).1
  omega
 | h + 1, b, x => fun s F hA hN hh => by
  have hS := st_ok T h; have n0 := F.n0; have n1 := F.n1; have op := F.op; have bl0 := F.bl0; have bl1 := F.bl1; obtain ⟨hh1, ha, hbb, hf4, hf5⟩ := fit_open F.fit; clear F; obtain ⟨k, f1, f2, l3, l4, l5⟩ := x; have e0 : tkS ⟨k, f1, f2, l3, l4, l5⟩ = tkOne k f1 f2 l3 (tkB l4) l5 (tkB l5) (tkH l5) := rfl; rw [e0] at hA hN hh ⊢; dsimp only at ha hbb hf4 hf5; rcases head_cases _ _ _ _ _ _ hh1 with ⟨hk, ⟨x, rfl⟩, hnm, rfl, rfl, rfl⟩ | ⟨rfl, ⟨x, y, rfl⟩, rfl, rfl, rfl, rfl⟩ | ⟨hk, ⟨x, rfl⟩, rfl, rfl, rfl, rfl⟩ | ⟨rfl, ⟨x, rfl⟩, rfl, h25, rfl, rfl⟩ | ⟨rfl, rfl, rfl, rfl, rfl, rfl⟩ | ⟨rfl, ⟨x, rfl⟩, rfl, rfl, rfl⟩ | ⟨rfl, ⟨x, rfl⟩, rfl, rfl⟩
  ·obtain ⟨hx, hd⟩ := okA_fit ha
   simp only [cntS, cntL, cntB] at n1; rcases hk with rfl | rfl
   ·have e1 : tkOne 1 f1 0 [x] (tkB []) [] (tkB []) (tkH []) = ((([wdT [118, 97, 114]] ++ [⟨2, lst f1, 0⟩]) ++ [sgT [61]]) ++ tkE x) ++ [sgT [59]] := rfl
    rw [e1] at hA hN hh ⊢; obtain ⟨a1, a3⟩ := at_app hA; obtain ⟨a1, a2⟩ := at_app a1; have a1' : At T s.at_ [wdT [118, 97, 114], ⟨2, lst f1, 0⟩, sgT [61]] := a1; have g1 := a1'.2; have g2 := g1.2; have q2 : At T (s.at_ + 1 + 1 + 1) (tkE x) := at_c a2; have q3 : At T (s.at_ + 1 + 1 + 1 + ((tkE x).length : Int)) [sgT [59]] := at_c a3
    have hw : wordS T (ab0 T) (stG T (ab0 T) h) (T.length + 1) s (rd_T58 T s.at_) = some (.ok (⟨1, (rd_T58 T (s.at_ + 1)).f1, 0, [x], [], []⟩, aft ⟨s.at_ + 1 + 1 + 1, s.nodes, s.op, s.bl⟩ (tkE x).length (cntE x))) := by
     rw [word_chain (w := [118, 97, 114]) a1'.1.1 (toL_at a1'), if_pos rfl]; refine (kind_at (s := ⟨s.at_ + 1, s.nodes, s.op, s.bl⟩) rfl g1).trans ?_; refine (want_at (x := [61]) (s := ⟨s.at_ + 1 + 1, s.nodes, s.op, s.bl⟩) rfl g2).trans ?_; exact z_178
    refine (word_end rfl a1' (by show ¬ ((1 : Int) = 6 ∨ (1 : Int) = 7); decide) hw q3 (z_179) (z_180)).trans ?_
    refine sres_eq ?_ ?_ ?_ rfl rfl
    ·rw [g1.1.2.2.1]
     show (⟨1, bs (lst f1), 0, [x], [], []⟩ : S41) = _; rw [bs_lst]
    ·simp only [aft, List.length_append, List.length_cons, List.length_nil]; omega
    ·simp only [aft, cntS, cntL, cntB]; omega
   ·have e1 : tkOne 2 f1 0 [x] (tkB []) [] (tkB []) (tkH []) = (([⟨2, lst f1, 0⟩] ++ [sgT [61]]) ++ tkE x) ++ [sgT [59]] := rfl
    rw [e1] at hA hN hh ⊢; obtain ⟨a1, a3⟩ := at_app hA; obtain ⟨a1, a2⟩ := at_app a1; have a1' : At T s.at_ [⟨2, lst f1, 0⟩, sgT [61]] := a1; have g1 := a1'.2; have q2 : At T (s.at_ + 1 + 1) (tkE x) := at_c a2; have q3 : At T (s.at_ + 1 + 1 + ((tkE x).length : Int)) [sgT [59]] := at_c a3; show stmtS T (ab0 T) (wordS T (ab0 T) (stG T (ab0 T) h) (T.length + 1)) s = _; unfold stmtS; rw [if_pos a1'.1.1, if_pos (by rw [a1'.1.2.1])]; refine (want_at (x := [61]) (s := ⟨s.at_ + 1, s.nodes, s.op, s.bl⟩) rfl g1).trans ?_; refine (ex_at (ex_ok (s := ⟨s.at_ + 1 + 1, s.nodes, s.op, s.bl⟩) ⟨hx, hd, by show 0 ≤ s.op; omega, by show s.op + (deepE x : Int) ≤ 49; omega, n0, z_181⟩ q2 rk_sc q3)).trans ?_
    refine (end_at (s := aft ⟨s.at_ + 1 + 1, s.nodes, s.op, s.bl⟩ (tkE x).length (cntE x)) (by show ¬ ((2 : Int) = 6 ∨ (2 : Int) = 7); decide) q3 (z_179) (z_180)).trans ?_
    refine sres_eq ?_ ?_ ?_ rfl rfl
    ·rw [a1'.1.2.2.1]
     show (⟨2, bs (lst f1), 0, [x], [], []⟩ : S41) = _; rw [bs_lst]
    ·simp only [aft, List.length_append, List.length_cons, List.length_nil]; omega
    ·simp only [aft, cntS, cntL, cntB]; omega
  ·have hx : fitE x = true ∧ deepE x ≤ 48 := by
    simp only [List.all_cons, Bool.and_eq_true] at ha; exact okA_open ha.1
   have hy : fitE y = true ∧ deepE y ≤ 48 := by
    simp only [List.all_cons, Bool.and_eq_true] at ha; exact okA_open ha.2.1
   simp only [cntS, cntL, cntB] at n1; have e1 : tkOne 3 ⟨#[]⟩ 0 [x, y] (tkB []) [] (tkB []) (tkH []) = ((([wdT [109], sgT [91]] ++ tkE x) ++ [sgT [93], sgT [61]]) ++ tkE y) ++ [sgT [59]] := rfl; rw [e1] at hA hN hh ⊢; obtain ⟨a1, a5⟩ := at_app hA; obtain ⟨a1, a4⟩ := at_app a1; obtain ⟨a1, a3⟩ := at_app a1; obtain ⟨a1, a2⟩ := at_app a1; have g1 := a1.2; have q2 : At T (s.at_ + 1 + 1) (tkE x) := at_c a2; have q3 : At T (s.at_ + 1 + 1 + ((tkE x).length : Int)) [sgT [93], sgT [61]] := at_c a3; have q4 : At T (s.at_ + 1 + 1 + ((tkE x).length : Int) + 1 + 1) (tkE y) := at_c a4; have q5 : At T (s.at_ + 1 + 1 + ((tkE x).length : Int) + 1 + 1 + ((tkE y).length : Int)) [sgT [59]] := at_c a5
   have hw : wordS T (ab0 T) (stG T (ab0 T) h) (T.length + 1) s (rd_T58 T s.at_) = some (.ok (⟨3, ⟨#[]⟩, 0, [x, y], [], []⟩, ⟨s.at_ + 1 + 1 + ((tkE x).length : Int) + 1 + 1 + ((tkE y).length : Int), s.nodes + ((cntE x : Nat) : Int) + ((cntE y : Nat) : Int), s.op, s.bl⟩)) := by
    rw [word_chain (w := [109]) a1.1.1 (toL_at a1), if_neg (by decide), if_pos rfl]; refine (want_at (x := [91]) (s := ⟨s.at_ + 1, s.nodes, s.op, s.bl⟩) rfl g1).trans ?_; refine (enter_at (s := ⟨s.at_ + 1 + 1, s.nodes, s.op, s.bl⟩) (by show 0 ≤ s.op; omega) (by show s.op + 1 ≤ 48; omega)).trans ?_; refine (ex_at (ex_ok (s := ⟨s.at_ + 1 + 1, s.nodes, s.op + 1, s.bl⟩) ⟨hx.1, hx.2, z_151, z_174, n0, z_181⟩ q2 rk_rb q3)).trans ?_; refine (leave_at (x := [93]) (s := aft ⟨s.at_ + 1 + 1, s.nodes, s.op + 1, s.bl⟩ (tkE x).length (cntE x)) rfl q3 (z_175) (z_176)).trans ?_; refine (want_at (x := [61]) (s := ⟨s.at_ + 1 + 1 + ((tkE x).length : Int) + 1, s.nodes + ((cntE x : Nat) : Int), s.op + 1 - 1, s.bl⟩) rfl q3.2).trans ?_; refine (ex_at (ex_ok (s := ⟨s.at_ + 1 + 1 + ((tkE x).length : Int) + 1 + 1, s.nodes + ((cntE x : Nat) : Int), s.op + 1 - 1, s.bl⟩) ⟨hy.1, hy.2, by show 0 ≤ s.op + 1 - 1; omega, by show s.op + 1 - 1 + (deepE y : Int) ≤ 49; omega, z_179, by show s.nodes + ((cntE x : Nat) : Int) + ((cntE y : Nat) : Int) ≤ 600; omega⟩ q4 rk_sc q5)).trans ?_
    exact sres_eq rfl rfl rfl (by show s.op + 1 - 1 = s.op; omega) rfl
   refine (word_end rfl a1 (by show ¬ ((3 : Int) = 6 ∨ (3 : Int) = 7); decide) hw q5 (by show 0 ≤ s.nodes + ((cntE x : Nat) : Int) + ((cntE y : Nat) : Int); omega) (by show s.nodes + ((cntE x : Nat) : Int) + ((cntE y : Nat) : Int) + 1 ≤ 600; omega)).trans ?_
   refine sres_eq rfl ?_ ?_ rfl rfl
   ·simp only [List.length_append, List.length_cons, List.length_nil]; omega
   ·simp only [cntS, cntL, cntB]; omega
  ·obtain ⟨hx, hd⟩ := okA_fit ha
   simp only [cntS, cntL, cntB] at n1
   obtain ⟨w, hw0, e1⟩ : ∃ w : List UInt8, ((k = 4 ∧ w = [101, 109, 105, 116]) ∨ (k = 8 ∧ w = [102, 97, 105, 108])) ∧ tkOne k ⟨#[]⟩ 0 [x] (tkB []) [] (tkB []) (tkH []) = ([wdT w] ++ tkE x) ++ [sgT [59]] := by
    rcases hk with e | e
    ·subst e; exact ⟨_, .inl ⟨rfl, rfl⟩, rfl⟩
    ·subst e; exact ⟨_, .inr ⟨rfl, rfl⟩, rfl⟩
   rw [e1] at hA hN hh ⊢; obtain ⟨a1, a3⟩ := at_app hA; obtain ⟨a1, a2⟩ := at_app a1; have q2 : At T (s.at_ + 1) (tkE x) := a2; have q3 : At T (s.at_ + 1 + ((tkE x).length : Int)) [sgT [59]] := at_c a3
   have hw : wordS T (ab0 T) (stG T (ab0 T) h) (T.length + 1) s (rd_T58 T s.at_) = some (.ok (⟨k, ⟨#[]⟩, 0, [x], [], []⟩, aft ⟨s.at_ + 1, s.nodes, s.op, s.bl⟩ (tkE x).length (cntE x))) := by
    rw [word_chain (w := w) a1.1.1 (toL_at a1)]; rcases hw0 with ⟨rfl, rfl⟩ | ⟨rfl, rfl⟩
    ·rw [if_neg (by decide), if_neg (by decide), if_pos rfl]
     exact z_178
    ·rw [if_neg (by decide), if_neg (by decide), if_neg (by decide), if_neg (by decide), if_pos rfl]
     exact z_178
   refine (word_end rfl a1 (by show ¬ (k = 6 ∨ k = 7); omega) hw q3 (z_179) (z_180)).trans ?_
   refine sres_eq rfl ?_ ?_ rfl rfl
   ·simp only [aft, List.length_append, List.length_cons, List.length_nil]; omega
   ·simp only [aft, cntS, cntL, cntB]; omega
  ·obtain ⟨hx, hd⟩ := okA_fit ha
   simp only [cntS, cntL, cntB] at n1; have e1 : tkOne 5 ⟨#[]⟩ f2 [x] (tkB []) [] (tkB []) (tkH []) = (([wdT [105, 110, 116, 111]] ++ [⟨1, textB f2, f2⟩]) ++ tkE x) ++ [sgT [59]] := rfl; rw [e1] at hA hN hh ⊢; obtain ⟨a1, a3⟩ := at_app hA; obtain ⟨a1, a2⟩ := at_app a1; have a1' : At T s.at_ [wdT [105, 110, 116, 111], ⟨1, textB f2, f2⟩] := a1; have g1 := a1'.2; have q2 : At T (s.at_ + 1 + 1) (tkE x) := at_c a2; have q3 : At T (s.at_ + 1 + 1 + ((tkE x).length : Int)) [sgT [59]] := at_c a3
   have hw : wordS T (ab0 T) (stG T (ab0 T) h) (T.length + 1) s (rd_T58 T s.at_) = some (.ok (⟨5, ⟨#[]⟩, (rd_T58 T (s.at_ + 1)).f2, [x], [], []⟩, aft ⟨s.at_ + 1 + 1, s.nodes, s.op, s.bl⟩ (tkE x).length (cntE x))) := by
    rw [word_chain (w := [105, 110, 116, 111]) a1'.1.1 (toL_at a1'), if_neg (by decide), if_neg (by decide), if_neg (by decide), if_pos rfl]; refine (kind_at (s := ⟨s.at_ + 1, s.nodes, s.op, s.bl⟩) rfl g1).trans ?_; dsimp only; rw [if_neg (by rw [g1.1.2.2.2]; show ¬ 255 < f2; omega)]; exact z_178
   refine (word_end rfl a1' (by show ¬ ((5 : Int) = 6 ∨ (5 : Int) = 7); decide) hw q3 (z_179) (z_180)).trans ?_
   refine sres_eq ?_ ?_ ?_ rfl rfl
   ·rw [g1.1.2.2.2]
   ·simp only [aft, List.length_append, List.length_cons, List.length_nil]; omega
   ·simp only [aft, cntS, cntL, cntB]; omega
  ·simp only [cntS, cntL, cntB] at n1
   have e1 : tkOne 9 ⟨#[]⟩ 0 [] (tkB []) [] (tkB []) (tkH []) = [wdT [115, 116, 111, 112], sgT [59]] := rfl; rw [e1] at hA hN hh ⊢
   have hw : wordS T (ab0 T) (stG T (ab0 T) h) (T.length + 1) s (rd_T58 T s.at_) = some (.ok (⟨9, ⟨#[]⟩, 0, [], [], []⟩, ⟨s.at_ + 1, s.nodes, s.op, s.bl⟩)) := by
    rw [word_chain (w := [115, 116, 111, 112]) hA.1.1 (toL_at hA), if_neg (by decide), if_neg (by decide), if_neg (by decide), if_neg (by decide), if_neg (by decide), if_pos rfl]
   refine (word_end rfl hA (by show ¬ ((9 : Int) = 6 ∨ (9 : Int) = 7); decide) hw hA.2 n0 (by show s.nodes + 1 ≤ 600; omega)).trans ?_
   refine sres_eq rfl ?_ ?_ rfl rfl
   ·simp only [List.length_append, List.length_cons, List.length_nil]; omega
   ·simp only [cntS, cntL, cntB]; omega
  ·obtain ⟨hx, hd⟩ := okA_fit ha
   simp only [cntS, cntL, cntB] at n1; have hb0 := hbb (by decide : loopsB 7 = true); obtain ⟨b', rfl⟩ : ∃ b', b = b' + 1 := ⟨b - 1, by omega⟩
   rw [Nat.add_sub_cancel] at hf4; have e1 : tkOne 7 ⟨#[]⟩ 0 [x] (tkB l4) [] (tkB []) (tkH []) = ((([wdT [119, 104, 105, 108, 101], sgT [40]] ++ tkE x) ++ [sgT [41], sgT [123]]) ++ tkB l4) ++ [sgT [125]] := rfl; rw [e1] at hA hN hh ⊢; have hA' : At T s.at_ (wdT [119, 104, 105, 108, 101] :: (([sgT [40]] ++ tkE x) ++ (sgT [41] :: (([sgT [123]] ++ tkB l4) ++ [sgT [125]])))) := by simpa using hA
   have q1 := hA'.2
   have q2 : At T (s.at_ + 1 + ((tkE x).length : Int) + 2) (([sgT [123]] ++ tkB l4) ++ [sgT [125]]) := by
    obtain ⟨_, z⟩ := at_app q1; have z2 := z.2; have e : s.at_ + 1 + ((([sgT [40]] ++ tkE x).length : Nat) : Int) + 1 = s.at_ + 1 + ((tkE x).length : Int) + 2 := z_173; rw [← e]; exact z2
   simp only [List.length_append, List.length_cons, List.length_nil] at hh ⊢
   have hw : wordS T (ab0 T) (stG T (ab0 T) h) (T.length + 1) s (rd_T58 T s.at_) = some (.ok (⟨7, ⟨#[]⟩, 0, [x], l4, []⟩, ⟨s.at_ + 1 + ((tkE x).length : Int) + 2 + ((tkB l4).length : Int) + 2, s.nodes + ((cntE x : Nat) : Int) + ((cntB l4 : Nat) : Int), s.op, s.bl⟩)) := by
    rw [word_chain (w := [119, 104, 105, 108, 101]) hA'.1.1 (toL_at hA'), if_neg (by decide), if_neg (by decide), if_neg (by decide), if_neg (by decide), if_neg (by decide), if_neg (by decide), if_pos rfl]; refine (ex_at (test_ok (s := ⟨s.at_ + 1, s.nodes, s.op, s.bl⟩) hx hd op n0 (z_181) q1)).trans ?_; exact ex_at (block_ok (hS b') l4 ⟨s.at_ + 1 + ((tkE x).length : Int) + 2, s.nodes + ((cntE x : Nat) : Int), s.op, s.bl⟩ hf4 op bl0 (by show s.bl + ((b' + 1 : Nat) : Int) ≤ 12; omega) (z_179) (by show s.nodes + ((cntE x : Nat) : Int) + ((cntB l4 : Nat) : Int) ≤ 600; omega) q2 (by omega))
   refine (word_end2 rfl hA' (.inr rfl) hw (z_182) (by show s.nodes + ((cntE x : Nat) : Int) + ((cntB l4 : Nat) : Int) + 1 ≤ 600; omega)).trans ?_
   refine sres_eq rfl ?_ ?_ rfl rfl
   ·show s.at_ + 1 + ((tkE x).length : Int) + 2 + ((tkB l4).length : Int) + 2 = _; omega
   ·simp only [cntS, cntL, cntB]; omega
  ·obtain ⟨hx, hd⟩ := okA_fit ha
   simp only [cntS, cntL] at n1; have hb0 := hbb (by decide : loopsB 6 = true); obtain ⟨b', rfl⟩ : ∃ b', b = b' + 1 := ⟨b - 1, by omega⟩
   rw [Nat.add_sub_cancel] at hf4 hf5; have e1 : tkOne 6 ⟨#[]⟩ 0 [x] (tkB l4) l5 (tkB l5) (tkH l5) = tkEls l5 (((([wdT [105, 102], sgT [40]] ++ tkE x) ++ [sgT [41], sgT [123]]) ++ tkB l4) ++ [sgT [125]]) (tkB l5) (tkH l5) := rfl; rw [e1] at hA hN hh ⊢; have hbase := els_at hA; have hA' : At T s.at_ (wdT [105, 102] :: (([sgT [40]] ++ tkE x) ++ (sgT [41] :: (([sgT [123]] ++ tkB l4) ++ [sgT [125]])))) := by simpa using hbase
   have q1 := hA'.2
   have q2 : At T (s.at_ + 1 + ((tkE x).length : Int) + 2) (([sgT [123]] ++ tkB l4) ++ [sgT [125]]) := by
    obtain ⟨_, z⟩ := at_app q1; have z2 := z.2; have e : s.at_ + 1 + ((([sgT [40]] ++ tkE x).length : Nat) : Int) + 1 = s.at_ + 1 + ((tkE x).length : Int) + 2 := z_173; rw [← e]; exact z2
   have hbl : ((((([wdT [105, 102], sgT [40]] ++ tkE x) ++ [sgT [41], sgT [123]]) ++ tkB l4) ++ [sgT [125]]).length : Nat) = 5 + (tkE x).length + (tkB l4).length := z_173
   have hl4 : (tkB l4).length ≤ h := by
    have : ((((([wdT [105, 102], sgT [40]] ++ tkE x) ++ [sgT [41], sgT [123]]) ++ tkB l4) ++ [sgT [125]]).length : Nat) ≤ h + 1 := by
     refine Nat.le_trans ?_ hh
     unfold tkEls
     split
     ·exact xlr _
     split
     ·simp only [List.length_append]; omega
     ·simp only [List.length_append]; omega
    omega
   have hbr : ∀ (m : List S41) (at' n' : Int), (isK T ⟨s.at_ + 1 + ((tkE x).length : Int) + 2 + ((tkB l4).length : Int) + 2, s.nodes + ((cntE x : Nat) : Int) + ((cntB l4 : Nat) : Int), s.op, s.bl⟩ ⟨#[101, 108, 115, 101]⟩
     (isK T ⟨s.at_ + 1 + ((tkE x).length : Int) + 2 + ((tkB l4).length : Int) + 2 + 1, s.nodes + ((cntE x : Nat) : Int) + ((cntB l4 : Nat) : Int), s.op, s.bl⟩ ⟨#[105, 102]⟩
      (deeperK ⟨s.at_ + 1 + ((tkE x).length : Int) + 2 + ((tkB l4).length : Int) + 2 + 1, s.nodes + ((cntE x : Nat) : Int) + ((cntB l4 : Nat) : Int), s.op, s.bl⟩ (rd_T58 T (s.at_ + 1 + ((tkE x).length : Int) + 2 + ((tkB l4).length : Int) + 2 + 1)).f3 fun s3 => exK (stG T (ab0 T) h s3) fun y s4 => closeK s4 fun s5 => some (.ok (⟨6, ⟨#[]⟩, 0, [x], l4, [y]⟩, s5)))
      (exK (bodyS T (stG T (ab0 T) h) (T.length + 1) ⟨s.at_ + 1 + ((tkE x).length : Int) + 2 + ((tkB l4).length : Int) + 2 + 1, s.nodes + ((cntE x : Nat) : Int) + ((cntB l4 : Nat) : Int), s.op, s.bl⟩) fun m s3 => some (.ok (⟨6, ⟨#[]⟩, 0, [x], l4, m⟩, s3))))
     (some (.ok (⟨6, ⟨#[]⟩, 0, [x], l4, []⟩, ⟨s.at_ + 1 + ((tkE x).length : Int) + 2 + ((tkB l4).length : Int) + 2, s.nodes + ((cntE x : Nat) : Int) + ((cntB l4 : Nat) : Int), s.op, s.bl⟩))) : Option SRes) = some (.ok (⟨6, ⟨#[]⟩, 0, [x], l4, m⟩, ⟨at', n', s.op, s.bl⟩)) →
     0 ≤ n' → n' + 1 ≤ 600 → stG T (ab0 T) (h + 1) s = some (.ok (⟨6, ⟨#[]⟩, 0, [x], l4, m⟩, ⟨at', n' + 1, s.op, s.bl⟩)) := by
    intro m at' n' hr h0' h1'
    have hw : wordS T (ab0 T) (stG T (ab0 T) h) (T.length + 1) s (rd_T58 T s.at_) = some (.ok (⟨6, ⟨#[]⟩, 0, [x], l4, m⟩, ⟨at', n', s.op, s.bl⟩)) := by
     rw [word_chain (w := [105, 102]) hA'.1.1 (toL_at hA'), if_neg (by decide), if_neg (by decide), if_neg (by decide), if_neg (by decide), if_neg (by decide), if_neg (by decide), if_neg (by decide), if_pos rfl]; unfold branchS; refine (ex_at (test_ok (s := ⟨s.at_ + 1, s.nodes, s.op, s.bl⟩) hx hd op n0 (z_181) q1)).trans ?_; refine (ex_at (block_ok (hS b') l4 ⟨s.at_ + 1 + ((tkE x).length : Int) + 2, s.nodes + ((cntE x : Nat) : Int), s.op, s.bl⟩ hf4 op bl0 (by show s.bl + ((b' + 1 : Nat) : Int) ≤ 12; omega) (z_179) (by show s.nodes + ((cntE x : Nat) : Int) + ((cntB l4 : Nat) : Int) ≤ 600; omega) q2 hl4)).trans ?_; exact hr
    exact word_end2 rfl hA' (.inl rfl) hw h0' h1'
   by_cases c0 : l5.length = 0
   ·obtain rfl := List.eq_nil_of_length_eq_zero c0
    have e2 : tkEls [] (((([wdT [105, 102], sgT [40]] ++ tkE x) ++ [sgT [41], sgT [123]]) ++ tkB l4) ++ [sgT [125]]) (tkB []) (tkH []) = (((([wdT [105, 102], sgT [40]] ++ tkE x) ++ [sgT [41], sgT [123]]) ++ tkB l4) ++ [sgT [125]]) := rfl; rw [e2, hbl] at hN ⊢; have ep : s.at_ + ((5 + (tkE x).length + (tkB l4).length : Nat) : Int) = s.at_ + 1 + ((tkE x).length : Int) + 2 + ((tkB l4).length : Int) + 2 := by omega
    rw [ep] at hN; refine (hbr [] (s.at_ + 1 + ((tkE x).length : Int) + 2 + ((tkB l4).length : Int) + 2) (s.nodes + ((cntE x : Nat) : Int) + ((cntB l4 : Nat) : Int)) (is_no (s := ⟨s.at_ + 1 + ((tkE x).length : Int) + 2 + ((tkB l4).length : Int) + 2, s.nodes + ((cntE x : Nat) : Int) + ((cntB l4 : Nat) : Int), s.op, s.bl⟩) hN.1 hN.2) (by omega) (by omega)).trans ?_; refine sres_eq rfl ?_ ?_ rfl rfl
    ·omega
    ·simp only [cntS, cntL, cntB]; omega
   by_cases c1 : l5.length = 1 ∧ (rd_T41 l5 0).f0 = 6
   ·obtain ⟨y, rfl⟩ := List.length_eq_one_iff.1 c1.1
    have hy6 : y.f0 = 6 := c1.2
    have e2 : tkEls [y] (((([wdT [105, 102], sgT [40]] ++ tkE x) ++ [sgT [41], sgT [123]]) ++ tkB l4) ++ [sgT [125]]) (tkB [y]) (tkH [y]) = ((((([wdT [105, 102], sgT [40]] ++ tkE x) ++ [sgT [41], sgT [123]]) ++ tkB l4) ++ [sgT [125]]) ++ [wdT [101, 108, 115, 101]]) ++ tkS y := by
     unfold tkEls; rw [if_neg c0, if_pos c1]
     rfl
    rw [e2] at hA hN hh ⊢; rw [List.length_append, List.length_append, hbl] at hN hh ⊢; simp only [List.length_cons, List.length_nil] at hN hh ⊢; obtain ⟨a1, a2⟩ := at_app hA; obtain ⟨_, a1⟩ := at_app a1; rw [hbl] at a1; rw [List.length_append, hbl] at a2; replace a1 := at_c (j := s.at_ + 1 + ((tkE x).length : Int) + 2 + ((tkB l4).length : Int) + 2) a1; replace a2 := at_c (j := s.at_ + 1 + ((tkE x).length : Int) + 2 + ((tkB l4).length : Int) + 2 + 1) a2; have hfy : fitSt (fitB b') y = true := by simpa using hf5
    obtain ⟨t, ts, et, _, _, _, ht⟩ := tkS_head (fit_open hfy).1; have a2' := a2; rw [et, ht hy6] at a2'; simp only [cntB] at n1
    have hsy := hS b' y ⟨s.at_ + 1 + ((tkE x).length : Int) + 2 + ((tkB l4).length : Int) + 2 + 1, s.nodes + ((cntE x : Nat) : Int) + ((cntB l4 : Nat) : Int), s.op, s.bl + 1⟩ ⟨hfy, op, by show 0 ≤ s.bl + 1; omega, by show s.bl + 1 + (b' : Int) ≤ 12; omega, z_182, by show s.nodes + ((cntE x : Nat) : Int) + ((cntB l4 : Nat) : Int) + ((cntS y + 1 : Nat) : Int) ≤ 600; omega⟩ a2 (by
     have e : s.at_ + ((5 + (tkE x).length + (tkB l4).length + (0 + 1) + (tkS y).length : Nat) : Int) = s.at_ + 1 + ((tkE x).length : Int) + 2 + ((tkB l4).length : Int) + 2 + 1 + ((tkS y).length : Int) := by omega
     rw [e] at hN; exact hN) (by omega)
    refine (hbr [y] (s.at_ + 1 + ((tkE x).length : Int) + 2 + ((tkB l4).length : Int) + 2 + 1 + ((tkS y).length : Int)) (s.nodes + ((cntE x : Nat) : Int) + ((cntB l4 : Nat) : Int) + ((cntS y + 1 : Nat) : Int)) ?_ (by omega) (by omega)).trans ?_
    ·refine (is_yes (s := ⟨s.at_ + 1 + ((tkE x).length : Int) + 2 + ((tkB l4).length : Int) + 2, s.nodes + ((cntE x : Nat) : Int) + ((cntB l4 : Nat) : Int), s.op, s.bl⟩) a1.1.1 (z_183)).trans ?_
     refine (is_yes (s := ⟨s.at_ + 1 + ((tkE x).length : Int) + 2 + ((tkB l4).length : Int) + 2 + 1, s.nodes + ((cntE x : Nat) : Int) + ((cntB l4 : Nat) : Int), s.op, s.bl⟩) a2'.1.1 (by rw [show (⟨#[105, 102]⟩ : ByteArray) = bs [105, 102] from rfl, isB_at a2']; decide)).trans ?_
     refine (deeper_at (s := ⟨s.at_ + 1 + ((tkE x).length : Int) + 2 + ((tkB l4).length : Int) + 2 + 1, s.nodes + ((cntE x : Nat) : Int) + ((cntB l4 : Nat) : Int), s.op, s.bl⟩) bl0 (by show s.bl + 1 ≤ 12; omega)).trans ?_
     refine (ex_at hsy).trans ?_
     refine (close_at (s := aft ⟨s.at_ + 1 + ((tkE x).length : Int) + 2 + ((tkB l4).length : Int) + 2 + 1, s.nodes + ((cntE x : Nat) : Int) + ((cntB l4 : Nat) : Int), s.op, s.bl + 1⟩ (tkS y).length (cntS y + 1)) (by show 1 ≤ s.bl + 1; omega) (by show s.bl + 1 ≤ 100; omega)).trans ?_
     exact sres_eq rfl rfl rfl rfl (by show s.bl + 1 - 1 = s.bl; omega)
    ·refine sres_eq rfl ?_ ?_ rfl rfl
     ·omega
     ·simp only [cntS, cntL, cntB]; omega
   ·have e2 : tkEls l5 (((([wdT [105, 102], sgT [40]] ++ tkE x) ++ [sgT [41], sgT [123]]) ++ tkB l4) ++ [sgT [125]]) (tkB l5) (tkH l5) = (((((([wdT [105, 102], sgT [40]] ++ tkE x) ++ [sgT [41], sgT [123]]) ++ tkB l4) ++ [sgT [125]]) ++ [wdT [101, 108, 115, 101], sgT [123]]) ++ tkB l5) ++ [sgT [125]] := by
     unfold tkEls; rw [if_neg c0, if_neg c1]
    rw [e2] at hA hN hh ⊢; rw [List.length_append, List.length_append, List.length_append, hbl] at hN hh ⊢; simp only [List.length_cons, List.length_nil] at hN hh ⊢; have hA2 : At T s.at_ ((((([wdT [105, 102], sgT [40]] ++ tkE x) ++ [sgT [41], sgT [123]]) ++ tkB l4) ++ [sgT [125]]) ++ (wdT [101, 108, 115, 101] :: (([sgT [123]] ++ tkB l5) ++ [sgT [125]]))) := by simpa using hA
    obtain ⟨_, a1⟩ := at_app hA2; rw [hbl] at a1; replace a1 := at_c (j := s.at_ + 1 + ((tkE x).length : Int) + 2 + ((tkB l4).length : Int) + 2) a1; have a2 := a1.2; have a2' : At T (s.at_ + 1 + ((tkE x).length : Int) + 2 + ((tkB l4).length : Int) + 2 + 1) (sgT [123] :: (tkB l5 ++ [sgT [125]])) := by simpa using a2
    have hbk := block_ok (hS b') l5 ⟨s.at_ + 1 + ((tkE x).length : Int) + 2 + ((tkB l4).length : Int) + 2 + 1, s.nodes + ((cntE x : Nat) : Int) + ((cntB l4 : Nat) : Int), s.op, s.bl⟩ hf5 op bl0 (by show s.bl + ((b' + 1 : Nat) : Int) ≤ 12; omega) (z_182) (by show s.nodes + ((cntE x : Nat) : Int) + ((cntB l4 : Nat) : Int) + ((cntB l5 : Nat) : Int) ≤ 600; omega) a2 (by omega); refine (hbr l5 (s.at_ + 1 + ((tkE x).length : Int) + 2 + ((tkB l4).length : Int) + 2 + 1 + ((tkB l5).length : Int) + 2) (s.nodes + ((cntE x : Nat) : Int) + ((cntB l4 : Nat) : Int) + ((cntB l5 : Nat) : Int)) ?_ (by omega) (by omega)).trans ?_
    ·refine (is_yes (s := ⟨s.at_ + 1 + ((tkE x).length : Int) + 2 + ((tkB l4).length : Int) + 2, s.nodes + ((cntE x : Nat) : Int) + ((cntB l4 : Nat) : Int), s.op, s.bl⟩) a1.1.1 (z_183)).trans ?_
     refine (is_no (s := ⟨s.at_ + 1 + ((tkE x).length : Int) + 2 + ((tkB l4).length : Int) + 2 + 1, s.nodes + ((cntE x : Nat) : Int) + ((cntB l4 : Nat) : Int), s.op, s.bl⟩) a2'.1.1 (by rw [show (⟨#[105, 102]⟩ : ByteArray) = bs [105, 102] from rfl, isB_at a2']; decide)).trans ?_
     exact ex_at hbk
    ·refine sres_eq rfl ?_ ?_ rfl rfl
     ·omega
     ·simp only [cntS, cntL]; omega
theorem pars_ok {T : List S58} (hE : (rd_T58 T ((T.length : Int) - 1)).f0 = 0) (hp : 0 < T.length) : ∀ (l xs : List S41) (s : PSt) (K : Nat), l.all (fitSt (fitB 12)) = true → s.op = 0 → s.bl = 0 → 0 ≤ s.nodes → s.nodes + ((cntB l : Nat) : Int) ≤ 600 →
  At T s.at_ (tkB l) → 0 ≤ s.at_ → s.at_ + ((tkB l).length : Int) = (T.length : Int) - 1 → l.length < K → xs.length + l.length < 1000 → parsF T (st0 T) K xs s = some (.ok (xs ++ l))
 | [], xs, s, K, hf, ho, hb, hn, hn1, hA, h0, hT, hK, hx => by
  obtain ⟨k, rfl⟩ : ∃ k, K = k + 1 := ⟨K - 1, by omega⟩
  simp only [tkB, List.length_nil] at hT; have e : s.at_ = (T.length : Int) - 1 := by omega
  rw [parsF, if_pos ⟨⟨h0, by omega⟩, by simpa using hx⟩, if_pos (by rw [e]; exact hE), List.append_nil]
 | x :: l, xs, s, K, hf, ho, hb, hn, hn1, hA, h0, hT, hK, hx => by
  obtain ⟨k, rfl⟩ : ∃ k, K = k + 1 := ⟨K - 1, by omega⟩
  rw [List.all_cons, Bool.and_eq_true] at hf; obtain ⟨hf1, hf2⟩ := hf; obtain ⟨t, ts, et, hnb, hne, hk0, _⟩ := tkS_head (fit_open hf1).1; simp only [tkB, cntB, List.length_append, List.length_cons] at hA hn1 hx hK hT ⊢; obtain ⟨a1, a2⟩ := at_app hA; have a1' := a1; rw [et] at a1'
  have hN : NxS T (s.at_ + ((tkS x).length : Int)) := by
   cases l with
   | nil =>
    simp only [tkB, List.length_nil] at hT; have e : s.at_ + ((tkS x).length : Int) = (T.length : Int) - 1 := by omega
    rw [e]; refine ⟨⟨by omega, by omega⟩, ?_⟩
    unfold isB; rw [hE]
    rfl
   | cons y ys =>
    rw [List.all_cons, Bool.and_eq_true] at hf2; obtain ⟨t2, ts2, et2, _, hne2, _⟩ := tkS_head (fit_open hf2.1).1; simp only [tkB] at a2; obtain ⟨a3, _⟩ := at_app a2; rw [et2] at a3; exact ⟨a3.1.1, not_at a3 hne2⟩
  have hst := st_ok T T.length 12 x s ⟨hf1, ho, by omega, by omega, hn, by omega⟩ a1 hN (by omega)
  have hst' : st0 T s = some (.ok (x, aft s (tkS x).length (cntS x + 1))) := hst; rw [parsF, if_pos ⟨a1'.1.1, by omega⟩, if_neg (by rw [a1'.1.2.1]; exact hk0), hst']
  dsimp only; refine (pars_ok hE hp l (xs ++ [x]) (aft s (tkS x).length (cntS x + 1)) k hf2 ho hb (by show 0 ≤ s.nodes + ((cntS x + 1 : Nat) : Int); omega) (by show s.nodes + ((cntS x + 1 : Nat) : Int) + _ ≤ 600; omega) a2 (by show 0 ≤ s.at_ + ((tkS x).length : Int); omega) (by show s.at_ + ((tkS x).length : Int) + _ = _; omega) (by omega) (z_173)).trans ?_; rw [List.append_assoc]
  rfl
theorem rd_get (T : List S58) (i : Nat) (h : i < T.length) : rd_T58 T (i : Int) = T[i] := by
 unfold rd_T58; rw [Int.toNat_natCast, List.getD_eq_getElem?_getD, List.getElem?_eq_getElem h]
 rfl
theorem at_map (n : Nat) (e : S58) : ∀ (ts : List (Lx.Tok × Nat)) (pre : List S58), At (pre ++ (ts.map (Lx.s33 n) ++ [e])) (pre.length : Int) (ts.map (·.1))
 | [], pre => trivial
 | t :: ts, pre => by
  have ih := at_map n e ts (pre ++ [Lx.s33 n t]); have e1 : (pre ++ [Lx.s33 n t]) ++ (ts.map (Lx.s33 n) ++ [e]) = pre ++ ((t :: ts).map (Lx.s33 n) ++ [e]) := by simp
  have e2 : (((pre ++ [Lx.s33 n t]).length : Nat) : Int) = (pre.length : Int) + 1 := by simp
  rw [e1, e2] at ih; have hl : pre.length < (pre ++ ((t :: ts).map (Lx.s33 n) ++ [e])).length := by simp
  have hg : (pre ++ ((t :: ts).map (Lx.s33 n) ++ [e]))[pre.length] = Lx.s33 n t := by
   rw [List.getElem_append_right (xlr _)]; simp
  refine ⟨⟨⟨by omega, by omega⟩, ?_⟩, ih⟩
  rw [rd_get _ _ hl, hg]; exact z_184
theorem par_toks {s : ByteArray} {l : List S41} (hf : l.all (fitSt (fitB 12)) = true) (hc : cntB l ≤ 600) (hs : s.size ≤ 8192) (ht : toks (lst s) = some (tkB l)) : parV s = .ok l := by
 unfold toks at ht; rw [show (lst s).length = s.size from lst_len s] at ht; have hcp := Lx.cutP_small s (by omega); rw [show Lx.lst s = lst s from rfl] at hcp; rcases hq : Lx.cutL (s.size + 1) (lst s) with ⟨ts, _ | ep⟩
 ·rw [hq] at ht hcp
  dsimp only at ht hcp; injection ht with ht; have hA := at_map s.size (Lx.endTok s.size) ts []; rw [List.nil_append, ht] at hA; have hlt : ts.length = (tkB l).length := by rw [← ht, List.length_map]
  have h1 := tkB_len hf; have h2 := cntB_len l; have hTl : (ts.map (Lx.s33 s.size) ++ [Lx.endTok s.size]).length = (tkB l).length + 1 := by simp [hlt]
  have hE : (rd_T58 (ts.map (Lx.s33 s.size) ++ [Lx.endTok s.size]) (((ts.map (Lx.s33 s.size) ++ [Lx.endTok s.size]).length : Int) - 1)).f0 = 0 := by
   have e : ((ts.map (Lx.s33 s.size) ++ [Lx.endTok s.size]).length : Int) - 1 = (ts.length : Int) := by rw [hTl, hlt]; omega
   rw [e]; have hlt2 : ts.length < (ts.map (Lx.s33 s.size) ++ [Lx.endTok s.size]).length := by simp
   have hg : (ts.map (Lx.s33 s.size) ++ [Lx.endTok s.size])[ts.length] = Lx.endTok s.size := by
    rw [List.getElem_append_right (by simp)]; simp
   rw [rd_get _ _ hlt2, hg]
   rfl
  have hp := pars_ok hE (by rw [hTl]; omega) l [] ⟨0, 0, 0, 0⟩ ((ts.map (Lx.s33 s.size) ++ [Lx.endTok s.size]).length + 1) hf rfl rfl (Int.le_refl _) (by show (0 : Int) + _ ≤ 600; omega) hA (Int.le_refl _) (by show (0 : Int) + _ = _; rw [hTl]; omega) (by rw [hTl]; omega) (by simp only [List.length_nil]; omega); have hr : parT (ts.map (Lx.s33 s.size) ++ [Lx.endTok s.size]) = some (.ok l) := hp; unfold parV; rw [hcp, if_neg (by simp), hr]
  rfl
 ·rw [hq] at ht
  simp at ht
theorem rgS_open {k : Int} {f1 : ByteArray} {f2 : Int} {l3 : List S38} {l4 l5 : List S41} (h : rgS ⟨k, f1, f2, l3, l4, l5⟩ = true) : rgL l3 = true ∧ rgB l4 = true ∧ rgB l5 = true := by
 simpa only [rgS, Bool.and_eq_true] using h
theorem rgB_cons {x : S41} {l : List S41} (h : rgB (x :: l) = true) : rgS x = true ∧ rgB l = true := by
 simpa only [rgB, Bool.and_eq_true] using h
theorem lines_LX (n : Nat) : ∀ (l : List S41), rgB l = true → (∀ x ∈ l, rgS x = true → LXA (lst (sTx x n)) (tkS x)) → LXA (lst (lTx l n)) (tkB l)
 | [], _, _ => by
  show LXA (lst ⟨#[]⟩) []; exact lx_blank 0
 | x :: xs, hg, h => by
  obtain ⟨g1, g2⟩ := rgB_cons hg; have h0 := h x (List.mem_cons_self ..) g1; have ih := lines_LX n xs g2 (fun s hs => h s (List.mem_cons_of_mem _ hs)); have e : lTx (x :: xs) n = (blB n ++ sTx x n) ++ lTx xs n := rfl; rw [e, lst_ap2, lst_ap2]; exact ((lx_bl n).app h0 any_).app ih any_
theorem head_LX (n : Nat) : ∀ (l : List S41), rgB l = true → (∀ x ∈ l, rgS x = true → LXA (lst (sTx x n)) (tkS x)) → LXA (lst (hTx l n)) (tkH l)
 | [], _, _ => by
  show LXA (lst ⟨#[]⟩) []; exact lx_blank 0
 | x :: xs, hg, h => h x (List.mem_cons_self ..) (rgB_cons hg).1
theorem st_LX : ∀ (b : Nat) (x : S41), fitSt (fitB b) x = true → rgS x = true → ∀ n, LXA (lst (sTx x n)) (tkS x)
 | 0, x, h, hg, n => by
  obtain ⟨h1, h2, h3, h4, h5⟩ := fit_open h
  have hl : loopsB x.f0 = false := by
   cases e : loopsB x.f0 with
   | false => rfl
   | true => exact absurd (h3 e) (by omega)
  obtain ⟨g1, g2⟩ := head_empty h1 hl; obtain ⟨k, f1, f2, l3, l4, l5⟩ := x; dsimp only at g1 g2; subst g1 g2; obtain ⟨r3, r4, r5⟩ := rgS_open hg; exact one_LX_S (s := ⟨k, f1, f2, l3, [], []⟩) n h1 h2 r3 (lines_LX (n + 1) [] rfl (fun x hx => by simp at hx)) (lines_LX (n + 1) [] rfl (fun x hx => by simp at hx)) (head_LX n [] rfl (fun x hx => by simp at hx))
 | b + 1, x, h, hg, n => by
  obtain ⟨h1, h2, h3, h4, h5⟩ := fit_open h; obtain ⟨k, f1, f2, l3, l4, l5⟩ := x; obtain ⟨r3, r4, r5⟩ := rgS_open hg; rw [Nat.add_sub_cancel] at h4 h5; rw [List.all_eq_true] at h4 h5; dsimp only at h4 h5; exact one_LX_S (s := ⟨k, f1, f2, l3, l4, l5⟩) n h1 h2 r3 (lines_LX (n + 1) l4 r4 (fun x hx hr => st_LX b x (h4 x hx) hr (n + 1))) (lines_LX (n + 1) l5 r5 (fun x hx hr => st_LX b x (h5 x hx) hr (n + 1))) (head_LX n l5 r5 (fun x hx hr => st_LX b x (h5 x hx) hr n))
theorem par_show {l : List S41} (h : rightB l = true) (hg : rgB l = true) (hs : (lTx l 0).size ≤ 8192) : parV (lTx l 0) = .ok l := by
 rw [rightB_eq, Bool.and_eq_true, decide_eq_true_eq] at h; have hf : l.all (fitSt (fitB 12)) = true := h.1; rw [List.all_eq_true] at hf; have hL := lines_LX 0 l hg (fun x hx hr => st_LX 12 x (hf x hx) hr 0) [] trivial; rw [List.append_nil, toks_nil] at hL; refine par_toks h.1 h.2 hs ?_; rw [hL]; simp
theorem big0 : (0 : Int) ≤ bigI := by decide
theorem parse_big (t : ByteArray) : (Lx.parseP t).1 ≤ bigI := by
 unfold Lx.parseP
 split
 ·exact big0
 split
 ·exact big0
 ·unfold bigI; dsimp only; omega
theorem tok_big (c : UInt8) (l : List UInt8) (t : Lx.Tok) (h : Lx.tokL c l = .ok t) : t.nm ≤ bigI := by
 unfold Lx.tokL at h
 split at h
 ·split at h
  ·cases h
  ·split at h
   ·split at h
    ·cases h
    ·injection h with h; subst h; exact parse_big _
   ·injection h with h; subst h; exact parse_big _
 ·split at h
  ·split at h
   ·injection h with h; subst h; exact big0
   ·split at h
    ·cases h
    ·injection h with h; subst h; exact big0
  ·split at h
   ·injection h with h; subst h; exact big0
   ·cases h
theorem cut_big : ∀ (k : Nat) (l : List UInt8), ∀ x ∈ (Lx.cutL k l).1, x.1.nm ≤ bigI
 | 0, l, x, hx => by simp [Lx.cutL] at hx
 | k + 1, l, x, hx => by
  rw [Lx.cutL_succ] at hx; cases hc : Lx.skipL false l with
  | nil => rw [hc] at hx; simp at hx
  | cons c m =>
   rw [hc] at hx; dsimp only at hx; cases ht : Lx.tokL c m with
   | error ed => rw [ht] at hx; simp at hx
   | ok t =>
    rw [ht] at hx; dsimp only at hx; rcases List.mem_cons.1 hx with e | e
    ·rw [e]; exact tok_big c m t ht
    ·exact cut_big k _ x e
open Go.RowKit Go.Proofs.YtobkdmmnbnpemaaW.PrintWords Go.Proofs.YtobkdmmnbnpemaaW.PrintLast Go.Proofs.YtobkdmmnbnpemaaW.PrintMore
attribute [local go_sem] max2_int min2_int max_two min_two max_three min_three max_four min_four
def ZP (w : World) (e : Ending) (w' : World) : Prop := e = .returned (.bool true) ∧ Below w.heap.size w w'
theorem back_great (l : List S41) (A : Option Addr) (c : Nat) (w : World) (hC : Kd.C k41 w A l.length l) (hc : l.length ≤ c) (hn : cntB l ≤ 1000000) (q : 5000 < cntB l) : Calls Try.prog 12 #[.slice A l.length c] w (ZP w) := by
 have HG := Lib.hid (great_L l A c w hC hc hn true (xdt q)); have HB := A_0 (xbr w.heap.size w); clear hC hc hn q
 go_enter Try.func12, Try.ntmps12
 go_wp2_with fail
 (with_reducible refine HG.out.mono ?_)
 rintro r w1 ⟨rfl, hb⟩; have n0_ := A_0 (xbs HB.out hb); clear HB hb HG
 go_wp2
 exact z_63
theorem back_err (l : List S41) (A : Option Addr) (c : Nat) (w : World) (hC : Kd.C k41 w A l.length l) (hc : l.length ≤ c) (hn : cntB l ≤ 1000000) (q : ¬ 5000 < cntB l) (er : Int) (ht : TxtSays l ⟨#[]⟩ er) (b : Bool) (hr : rightB l = b) (h0 : er ≠ 0) (hb : b = (er == 30)) : Calls Try.prog 12 #[.slice A l.length c] w (ZP w) := by
 have HG := Lib.hid (great_L l A c w hC hc hn false (xdf q)); have HT := A_0 ht; have HC := A_0 hC; have HCC := A_0 hc; have HR := A_0 hr; have d0 := xnn h0; have HB := A_0 (xbr w.heap.size w); have hbb := xeb hb; clear hC hc hn q ht hr h0
 go_enter Try.func12, Try.ntmps12
 go_wp2_with fail
 (with_reducible refine HG.out.mono ?_)
 rintro r w1 ⟨rfl, hb⟩; replace HB := A_0 (xbs HB.out hb); replace HC := A_0 (Kd.C_below HC.out hb); clear hb HG
 go_wp2_with fail
 (with_reducible refine (text_L l A c _ HC.out HCC.out _ _ HT.out).mono ?_)
 rintro r w2 ⟨rfl, hb⟩; replace HB := A_0 (xbs HB.out hb); replace HC := A_0 (Kd.C_below HC.out hb); clear hb
 go_wp2_with fail
 (with_reducible refine (right_calls A c l _ HC.out HCC.out b HR.out).mono ?_)
 rintro r w3 ⟨rfl, hb⟩; replace HB := A_0 (xbs HB.out hb); clear hb HC
 go_wp2_with fail
 (with_reducible refine (alive_W _).mono ?_)
 rintro r w4 ⟨rfl, hb⟩; have n0_ := A_0 (xbs HB.out hb); clear HB hb
 go_wp2
 exact z_63
theorem back_ok (l : List S41) (A : Option Addr) (c : Nat) (w : World) (hC : Kd.C k41 w A l.length l) (hc : l.length ≤ c) (hn : cntB l ≤ 1000000) (q : ¬ 5000 < cntB l) (t : ByteArray) (ht : TxtSays l t 0) (hp : parV t = .ok l) : Calls Try.prog 12 #[.slice A l.length c] w (ZP w) := by
 have HG := Lib.hid (great_L l A c w hC hc hn false (xdf q)); have HT := A_0 ht; have HC := A_0 hC; have HCC := A_0 hc; have HP := Lib.hid (fun W => parse_V t W); rw [hp] at HP; have HB := A_0 (xbr w.heap.size w); clear hC hc hn q ht hp
 go_enter Try.func12, Try.ntmps12
 go_wp2_with fail
 (with_reducible refine HG.out.mono ?_)
 rintro r w1 ⟨rfl, hb⟩; replace HB := A_0 (xbs HB.out hb); replace HC := A_0 (Kd.C_below HC.out hb); clear hb HG
 go_wp2_with fail
 (with_reducible refine (text_L l A c _ HC.out HCC.out _ _ HT.out).mono ?_)
 rintro r w2 ⟨rfl, hb⟩; replace HB := A_0 (xbs HB.out hb); replace HC := A_0 (Kd.C_below HC.out hb); clear hb
 go_wp2_with fail
 (with_reducible refine (HP.out _).mono ?_)
 rintro r w3 hp; obtain ⟨A2, c2, rfl, hF, hc, hb⟩ := hp.ok; have HF2 := A_0 (Kd.F_now hF); replace HB := A_0 (xbs HB.out hb); replace HC := A_0 (Kd.C_below HC.out hb); clear hb hp HP hF hc
 go_wp2_with fail
 (with_reducible refine (same_L l l A c A2 c2 true w3 HC.out HF2.out (eqSs_refl _)).mono ?_)
 rintro r w5 ⟨rfl, hb⟩; replace HB := A_0 (xbs HB.out hb); clear hb HF2 HC
 go_wp2_with fail
 (with_reducible refine (alive_W _).mono ?_)
 rintro r w6 ⟨rfl, hb⟩; have n0_ := A_0 (xbs HB.out hb); clear HB hb
 go_wp2
 exact z_63
theorem back_walk (l : List S41) (A : Option Addr) (c : Nat) (w : World) (hC : Kd.C k41 w A l.length l) (hc : l.length ≤ c) (hn : cntB l ≤ 1000000) (hg : rgB l = true) : Calls Try.prog 12 #[.slice A l.length c] w (ZP w) := by
 by_cases q : 5000 < cntB l
 ·exact back_great l A c w hC hc hn q
 cases hr : rightB l with
 | false => exact back_err l A c w hC hc hn q 43 (.inl ⟨hr, rfl, rfl⟩) false hr (by decide) (by decide)
 | true =>
  by_cases q2 : 8192 < (lTx l 0).size
  ·exact back_err l A c w hC hc hn q 30 (.inr (.inl ⟨hr, q2, rfl, rfl⟩)) true hr (by decide) (by decide)
  ·exact back_ok l A c w hC hc hn q (lTx l 0) (.inr (.inr ⟨hr, q2, rfl, rfl⟩)) (par_show hr hg (by omega))
end Go.Proofs.Ytobkdmmnbnpemaa.K
