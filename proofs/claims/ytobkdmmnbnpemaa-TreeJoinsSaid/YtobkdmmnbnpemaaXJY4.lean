/- The counter: statements in a block; Right: walked by hand. -/
import Derived.Test.YtobkdmmnbnpemaaXJY2
import Derived.Lib.Hide
namespace Go.Proofs.Ytobkdmmnbnpemaa.K
open Go.RowKit Go.Proofs.YtobkdmmnbnpemaaW.PrintWords Go.Proofs.YtobkdmmnbnpemaaW.PrintLast Go.Proofs.YtobkdmmnbnpemaaW.PrintMore
attribute [local go_sem] max2_int min2_int max_two min_two max_three min_three max_four min_four
set_option linter.unusedVariables false
set_option linter.unusedSimpArgs false
theorem eta41 (x : S41) : (⟨x.f0, x.f1, x.f2, x.f3, x.f4, x.f5⟩ : S41) = x := by cases x; rfl
end Go.Proofs.Ytobkdmmnbnpemaa.K
