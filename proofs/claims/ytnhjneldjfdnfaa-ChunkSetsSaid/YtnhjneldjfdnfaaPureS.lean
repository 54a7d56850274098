/- The document's dealer is set as the code's: plain numbers. -/
import Derived.Test.YtnhjneldjfdnfaaR4
import Derived.Test.YtnhjneldjfdnfaaD5
import Derived.Test.YtnhjneldjfdnfaaPureR
namespace Go.Proofs.Ytnhjneldjfdnfaa.K
set_option linter.unusedVariables false
open Go.RowKit Go.Proofs.YtnhjneldjfdnfaaW.PrintWords Go.Proofs.YtnhjneldjfdnfaaW.PrintLast Go.Proofs.YtnhjneldjfdnfaaW.PrintMore

open Classical in
theorem rset_l0 (p sz wk n nx next : Int) (tn l : List Int) (hl : l.length ≤ 1000) :
    ∀ r a : Nat, a + r = l.length → outriderref16_Set.l0 (r + 1) next l a p sz wk n nx tn =
      if (∀ j : Nat, a ≤ j → j < l.length → 0 ≤ l.getD j 0 ∧ l.getD j 0 ≤ n) then some (p, sz, wk, n, next, l, true) else some (p, sz, wk, n, nx, tn, false) := by
  intro r
  induction r with
  | zero =>
    intro a ha
    rw [outriderref16_Set.l0, if_neg (by omega), if_pos (fun j h1 h2 => by omega)]
    simp only [Option.bind_some, List.nil_append, List.length_nil]
    rw [if_pos (by omega)]
  | succ r ih =>
    intro a ha
    have hih := ih (a + 1) (by omega)
    have hrd : rd l (a : Int) = l.getD a 0 := by simp [rd]
    rw [outriderref16_Set.l0, if_pos (by omega), if_pos (by omega), hrd]
    by_cases c1 : l.getD a 0 < 0
    · rw [if_pos c1, if_neg (fun h => by have := (h a (Nat.le_refl _) (by omega)).1; omega)]
    · rw [if_neg c1]
      by_cases c2 : l.getD a 0 > n
      · rw [if_pos c2, if_neg (fun h => by have := (h a (Nat.le_refl _) (by omega)).2; omega)]
      · rw [if_neg c2, wrap64_small _ (by omega) (by omega)]
        refine (show _ = _ from hih).trans ?_
        have e : (∀ j : Nat, a + 1 ≤ j → j < l.length → 0 ≤ l.getD j 0 ∧ l.getD j 0 ≤ n) ↔ (∀ j : Nat, a ≤ j → j < l.length → 0 ≤ l.getD j 0 ∧ l.getD j 0 ≤ n) := by
          constructor
          · intro h j h1 h2
            by_cases q : j = a
            · subst q; omega
            · exact h j (by omega) h2
          · intro h j h1 h2
            exact h j (by omega) h2
        by_cases q : (∀ j : Nat, a ≤ j → j < l.length → 0 ≤ l.getD j 0 ∧ l.getD j 0 ≤ n)
        · rw [if_pos q, if_pos (e.2 q)]
        · rw [if_neg q, if_neg (fun h => q (e.1 h))]

theorem mem_all {l : List Int} {n : Int} : (∀ j : Nat, 0 ≤ j → j < l.length → 0 ≤ l.getD j 0 ∧ l.getD j 0 ≤ n) ↔ ∀ t ∈ l, 0 ≤ t ∧ t ≤ n := by
  constructor
  · intro h t ht
    obtain ⟨j, hj, e⟩ := List.mem_iff_getElem.1 ht
    have := h j (Nat.zero_le _) hj
    have e2 : l.getD j 0 = t := by rw [← e]; simp [List.getD_eq_getElem?_getD, hj]
    rw [e2] at this
    exact this
  · intro h j _ hj
    have e : l.getD j 0 = l[j] := by simp [List.getD_eq_getElem?_getD, hj]
    rw [e]
    exact h _ (List.getElem_mem hj)

theorem rset_yes (d : D) (next : Int) (l : List Int) (hl : l.length ≤ 1000) (h : d.can next l) : ∃ k, outriderref16_Set.f k d.pol d.sz d.wk d.n d.nx d.tn next l = some (d.pol, d.sz, d.wk, d.n, next, l, true) := by
  obtain ⟨h1, h2, h3, h4⟩ := h
  refine ⟨l.length + 1 + 1, ?_⟩
  unfold outriderref16_Set.f
  have e : ((l.length : Int) != d.wk) = false := by rw [bne_eq_false_iff_eq]; exact h3
  rw [if_neg (by omega), if_neg (by omega), e, outriderref16_Set.j0, if_neg (by simp)]
  refine (show _ = _ from rset_l0 d.pol d.sz d.wk d.n d.nx next d.tn l hl l.length 0 (by omega)).trans ?_
  rw [if_pos (mem_all.2 h4)]
theorem rset_no (d : D) (next : Int) (l : List Int) (hl : l.length ≤ 1000) (h : ¬ d.can next l) : ∃ k, outriderref16_Set.f k d.pol d.sz d.wk d.n d.nx d.tn next l = some (d.pol, d.sz, d.wk, d.n, d.nx, d.tn, false) := by
  refine ⟨l.length + 1 + 1, ?_⟩
  unfold outriderref16_Set.f
  by_cases c1 : next < 0
  · rw [if_pos c1, outriderref16_Set.j0, if_pos rfl]
  · rw [if_neg c1]
    by_cases c2 : next > d.n
    · rw [if_pos c2, outriderref16_Set.j0, if_pos rfl]
    · rw [if_neg c2]
      by_cases c3 : (l.length : Int) = d.wk
      · have e : ((l.length : Int) != d.wk) = false := by rw [bne_eq_false_iff_eq]; exact c3
        rw [e, outriderref16_Set.j0, if_neg (by simp)]
        refine (show _ = _ from rset_l0 d.pol d.sz d.wk d.n d.nx next d.tn l hl l.length 0 (by omega)).trans ?_
        rw [if_neg (fun q => h ⟨by omega, by omega, c3, mem_all.1 q⟩)]
      · have e : ((l.length : Int) != d.wk) = true := by rw [bne_iff_ne]; exact c3
        rw [e, outriderref16_Set.j0, if_pos rfl]
end Go.Proofs.Ytnhjneldjfdnfaa.K
