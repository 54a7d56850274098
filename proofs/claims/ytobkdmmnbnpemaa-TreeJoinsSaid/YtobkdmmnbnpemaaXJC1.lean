/- The writer's line, walked by hand. -/
import Derived.Test.YtobkdmmnbnpemaaXJC0
namespace Go.Proofs.Ytobkdmmnbnpemaa.K
open Go.RowKit Go.Proofs.YtobkdmmnbnpemaaW.PrintWords Go.Proofs.YtobkdmmnbnpemaaW.PrintLast Go.Proofs.YtobkdmmnbnpemaaW.PrintMore
attribute [local go_sem] max2_int min2_int max_two min_two max_three min_three max_four min_four
set_option linter.unusedVariables false
set_option linter.unusedSimpArgs false
def LPost (B : Nat) (g : Nat) (t : List UInt8) (n : Int) (w0 w : World) (e : Ending) (w' : World) : Prop := e = .returned (.tuple #[]) ∧ IsW B w' g t n ∧ Below w0.heap.size w0 w' ∧ KeepT w w' g
end Go.Proofs.Ytobkdmmnbnpemaa.K
