/- The reference's Right and Great, told. -/
import Derived.Test.YtobkdmmnbnpemaaXKM1
import Derived.Test.YtobkdmmnbnpemaaXKPRB
namespace Go.Proofs.Ytobkdmmnbnpemaa.K
open Go.RowKit Go.Proofs.YtobkdmmnbnpemaaW.PrintWords Go.Proofs.YtobkdmmnbnpemaaW.PrintLast Go.Proofs.YtobkdmmnbnpemaaW.PrintMore
attribute [local go_sem] max2_int min2_int max_two min_two max_three min_three max_four min_four
set_option linter.unusedVariables false
set_option linter.unusedSimpArgs false
theorem rightB_eq (l : List S41) : rightB l = (fitB 13 l && decide (cntB l ≤ 600)) := by
  have h := (cB_may 13 0 l (Int.le_refl 0) (by omega)).1; unfold rightB; by_cases z : (cB 13 0 l).1 = true
  · obtain ⟨a, b⟩ := h.1 z
    rw [z, a, decide_eq_true (by omega)]
    rfl
  · have z' := Bool.eq_false_iff.2 z
    rw [z']
    symm
    rw [Bool.eq_false_iff]; intro y; rw [Bool.and_eq_true, decide_eq_true_eq] at y; exact z (h.2 ⟨y.1, by omega⟩)
end Go.Proofs.Ytobkdmmnbnpemaa.K
