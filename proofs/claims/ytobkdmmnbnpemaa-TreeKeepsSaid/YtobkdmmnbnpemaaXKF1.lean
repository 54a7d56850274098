/- The reference's `fits`, walked by hand; what its callees answer. -/
import Derived.Test.YtobkdmmnbnpemaaXKPRB
import Derived.Test.YtobkdmmnbnpemaaXKPL0
import Derived.Test.YtobkdmmnbnpemaaXKK1
import Derived.Test.YtobkdmmnbnpemaaXKY1
import Derived.Lib.Hide
namespace Go.Proofs.Ytobkdmmnbnpemaa.K
open Go.RowKit Go.Proofs.YtobkdmmnbnpemaaW.PrintWords Go.Proofs.YtobkdmmnbnpemaaW.PrintLast Go.Proofs.YtobkdmmnbnpemaaW.PrintMore
attribute [local go_sem] max2_int min2_int max_two min_two max_three min_three max_four min_four
set_option linter.unusedVariables false
set_option linter.unusedSimpArgs false
def FitC (n : Nat) : Prop := ∀ (e : S38) (A : Option Addr) (cp : Nat) (r : Bool) (w : World), cntE e ≤ n → Kd.C k38 w A e.f4.length e.f4 → e.f4.length ≤ cp → fitE e = r →
  Calls Try.prog 66 #[.agg #[.int .i64 e.f0, .int .i64 e.f1, .string e.f2, .int .i64 e.f3, .slice A e.f4.length cp]] w fun e w' => e = .returned (.bool r) ∧ Below w.heap.size w w'
theorem FitC.use {n : Nat} (h : FitC n) (e : S38) (A : Option Addr) (cp : Nat) (r : Bool) (w : World) (h0 : cntE e ≤ n) (h1 : Kd.C k38 w A e.f4.length e.f4) (h2 : e.f4.length ≤ cp) (h3 : fitE e = r) :
  Calls Try.prog 66 #[.agg #[.int .i64 e.f0, .int .i64 e.f1, .string e.f2, .int .i64 e.f3, .slice A e.f4.length cp]] w fun e w' => e = .returned (.bool r) ∧ Below w.heap.size w w' := h e A cp r w h0 h1 h2 h3
end Go.Proofs.Ytobkdmmnbnpemaa.K
