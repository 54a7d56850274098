/- What statements may be, told without a count. Plain. -/
import Derived.Test.YtobkdmmnbnpemaaXJPR0
namespace Go.Proofs.Ytobkdmmnbnpemaa.K
open Go.RowKit Go.Proofs.YtobkdmmnbnpemaaW.PrintWords Go.Proofs.YtobkdmmnbnpemaaW.PrintLast Go.Proofs.YtobkdmmnbnpemaaW.PrintMore
set_option linter.unusedVariables false
set_option linter.unusedSimpArgs false
mutual
def cntS : S41 → Nat
  | ⟨_, _, _, e, b, c⟩ => cntL e + (cntB b + cntB c)
def cntB : List S41 → Nat
  | [] => 0
  | x :: xs => 1 + cntS x + cntB xs
end
def fitSt (r : List S41 → Bool) (s : S41) : Bool := headB s && (fitL s.f3 && (decide (deepL s.f3 ≤ 48) && (!loopsB s.f0 || (r s.f4 && (decide (s.f5.length = 0) || r s.f5)))))
def fitB : Nat → List S41 → Bool
  | 0, _ => false
  | b + 1, l => l.all (fitSt (fitB b))
theorem len_cntB : ∀ l : List S41, l.length ≤ cntB l
  | [] => Nat.le_refl _
  | x :: xs => by have := len_cntB xs; simp only [List.length_cons, cntB]; omega
theorem cntS_eq (s : S41) : cntS s = cntL s.f3 + (cntB s.f4 + cntB s.f5) := by
  obtain ⟨_, _, _, _, _, _⟩ := s
  rfl
end Go.Proofs.Ytobkdmmnbnpemaa.K
