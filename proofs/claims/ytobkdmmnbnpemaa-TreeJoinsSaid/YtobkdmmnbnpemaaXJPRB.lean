/- The reference's Deep, on trees. Plain. -/
import Derived.Test.YtobkdmmnbnpemaaXJPR0
import Derived.Test.YtobkdmmnbnpemaaXJK1
import Derived.Test.YtobkdmmnbnpemaaXJPR4
namespace Go.Proofs.Ytobkdmmnbnpemaa.K
open Go.RowKit Go.Proofs.YtobkdmmnbnpemaaW.PrintWords Go.Proofs.YtobkdmmnbnpemaaW.PrintLast Go.Proofs.YtobkdmmnbnpemaaW.PrintMore
set_option linter.unusedVariables false
set_option linter.unusedSimpArgs false
theorem rd38_at (pre : List S38) (x : S38) (ys : List S38) : rd_T38 (pre ++ x :: ys) (pre.length : Int) = x := by
  unfold rd_T38; rw [Int.toNat_natCast, List.getD_eq_getElem?_getD, List.getElem?_append_right (Nat.le_refl _), Nat.sub_self]
  rfl
theorem len_cntL : ∀ l : List S38, l.length ≤ cntL l
  | [] => Nat.le_refl _
  | ⟨a, b, c, d, l⟩ :: xs => by have := len_cntL xs; simp only [List.length_cons, cntL, cntE]; omega
end Go.Proofs.Ytobkdmmnbnpemaa.K
namespace Go.Proofs.Ytobkdmmnbnpemaa.K
open Go.RowKit Go.Proofs.YtobkdmmnbnpemaaW.PrintWords Go.Proofs.YtobkdmmnbnpemaaW.PrintLast Go.Proofs.YtobkdmmnbnpemaaW.PrintMore
set_option linter.unusedVariables false
set_option linter.unusedSimpArgs false
theorem rd41_at (pre : List S41) (x : S41) (ys : List S41) : rd_T41 (pre ++ x :: ys) (pre.length : Int) = x := by
  unfold rd_T41; rw [Int.toNat_natCast, List.getD_eq_getElem?_getD, List.getElem?_append_right (Nat.le_refl _), Nat.sub_self]
  rfl
theorem w64 (x : Int) (h0 : 0 ≤ x) (h1 : x ≤ 100000000) : wrap64 x = x := by unfold wrap64; omega
end Go.Proofs.Ytobkdmmnbnpemaa.K
