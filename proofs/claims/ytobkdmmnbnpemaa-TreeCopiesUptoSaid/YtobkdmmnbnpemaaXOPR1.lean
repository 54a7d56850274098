/- The reference's Deep, on trees. Plain. -/
import Derived.Test.YtobkdmmnbnpemaaXOPR0
import Derived.Test.YtobkdmmnbnpemaaXOK1
namespace Go.Proofs.Ytobkdmmnbnpemaa.K
open Go.RowKit Go.Proofs.YtobkdmmnbnpemaaW.PrintWords Go.Proofs.YtobkdmmnbnpemaaW.PrintLast Go.Proofs.YtobkdmmnbnpemaaW.PrintMore
set_option linter.unusedVariables false
set_option linter.unusedSimpArgs false
theorem rd38_at (pre : List S38) (x : S38) (ys : List S38) : rd_T38 (pre ++ x :: ys) (pre.length : Int) = x := by
  unfold rd_T38
  rw [Int.toNat_natCast, List.getD_eq_getElem?_getD, List.getElem?_append_right (Nat.le_refl _), Nat.sub_self]
  rfl
theorem len_cntL : ∀ l : List S38, l.length ≤ cntL l
  | [] => Nat.le_refl _
  | ⟨a, b, c, d, l⟩ :: xs => by have := len_cntL xs; simp only [List.length_cons, cntL, cntE]; omega
end Go.Proofs.Ytobkdmmnbnpemaa.K
