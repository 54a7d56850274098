/- The reference's Expr: joined. -/
import Derived.Test.YtobkdmmnbnpemaaXWD3b
import Derived.Test.YtobkdmmnbnpemaaXWD3c
namespace Go.Proofs.Ytobkdmmnbnpemaa.K
open Go.RowKit Go.Proofs.YtobkdmmnbnpemaaW.PrintWords Go.Proofs.YtobkdmmnbnpemaaW.PrintLast Go.Proofs.YtobkdmmnbnpemaaW.PrintMore
set_option linter.unusedVariables false
theorem ref_ok (K : Nat) : ∀ d, RefC (refE K d)
  | 0 => fun a0 a1 a2 a3 l L A c x w h => by simp [refE] at h
  | d + 1 => by
    have RC := ref_ok K d
    have BC := brk_step _ RC
    intro a0 a1 a2 a3 l L A c x w h hL hC hc
    unfold refE at h
    dsimp only at h
    by_cases q1 : a0 = 1
    · subst q1
      rw [if_pos rfl] at h
      exact ref_k1 K a1 a2 a3 l L A c x w hL hC hc h
    rw [if_neg q1] at h
    by_cases q2 : a0 = 2
    · subst q2
      rw [if_pos rfl] at h
      exact ref_k2 a1 a2 a3 l L A c x w hL hC hc h
    rw [if_neg q2] at h
    by_cases q3 : l.length = 0
    · rw [if_pos q3] at h
      simp at h
    rw [if_neg q3] at h
    by_cases q4 : a0 = 3
    · subst q4
      rw [if_pos rfl] at h
      exact ref_k3 K d RC a1 a2 a3 l L A c x w hL hC hc q3 h
    rw [if_neg q4] at h
    by_cases q5 : a0 = 4
    · subst q5
      rw [if_pos rfl] at h
      by_cases p1 : a3 = 20
      · subst p1
        simp only [if_true] at h
        exact ref_k4a K d BC a1 a2 l L A c x w hL hC hc q3 h
      simp only [if_neg p1] at h
      by_cases p2 : a3 = 19
      · subst p2
        simp only [if_true] at h
        exact ref_k4b K d BC a1 a2 l L A c x w hL hC hc q3 h
      simp only [if_neg p2] at h
      exact ref_k4c K d BC a1 a2 a3 l L A c x w hL hC hc p1 p2 q3 h
    rw [if_neg q5] at h
    by_cases q6 : l.length = 1 ∨ a0 ≠ 5
    · rw [if_pos q6] at h
      simp at h
    rw [if_neg q6] at h
    have q7 : a0 = 5 := Decidable.byContradiction fun q => q6 (.inr q)
    have q8 : 2 ≤ l.length := by have : l.length ≠ 1 := fun q => q6 (.inl q); omega
    subst q7
    obtain ⟨⟨sg, lv⟩, hsg, h⟩ := Option.bind_eq_some_iff.mp h
    dsimp only at h
    by_cases p1 : a3 = 17
    · subst p1
      rw [if_pos rfl] at h
      exact ref_k5a K d RC BC a1 a2 l L A c x w hL hC hc q8 sg lv hsg h
    rw [if_neg p1] at h
    by_cases p2 : a3 = 18
    · subst p2
      rw [if_pos rfl] at h
      exact ref_k5b K d RC BC a1 a2 l L A c x w hL hC hc q8 sg lv hsg h
    rw [if_neg p2] at h
    by_cases p3 : 0 ≤ lv ∧ lv ≤ 100 ∧ sg.size ≤ 100
    · rw [if_pos p3] at h
      exact ref_k5c K d RC BC a1 a2 a3 l L A c x w hL hC hc p1 p2 q8 sg lv hsg p3.1 p3.2.1 p3.2.2 h
    · rw [if_neg p3] at h
      simp at h
end Go.Proofs.Ytobkdmmnbnpemaa.K
