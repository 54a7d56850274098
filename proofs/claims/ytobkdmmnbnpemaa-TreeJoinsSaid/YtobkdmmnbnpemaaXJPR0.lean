/- What may be, told without a count: nodes, depth, fields. Plain. -/
import Derived.Test.YtobkdmmnbnpemaaXJY0
namespace Go.Proofs.Ytobkdmmnbnpemaa.K
open Go.RowKit Go.Proofs.YtobkdmmnbnpemaaW.PrintWords Go.Proofs.YtobkdmmnbnpemaaW.PrintLast Go.Proofs.YtobkdmmnbnpemaaW.PrintMore
set_option linter.unusedVariables false
set_option linter.unusedSimpArgs false
mutual
def cntE : S38 → Nat
  | ⟨_, _, _, _, l⟩ => 1 + cntL l
def cntL : List S38 → Nat
  | [] => 0
  | x :: xs => cntE x + cntL xs
end
mutual
def deepE : S38 → Nat
  | ⟨_, _, _, _, l⟩ => 1 + deepL l
def deepL : List S38 → Nat
  | [] => 0
  | x :: xs => max (deepE x) (deepL xs)
end
mutual
def fitE : S38 → Bool
  | ⟨a, b, c, d, l⟩ => (wantE a == some l.length) && (fieldsB a b c d && fitL l)
def fitL : List S38 → Bool
  | [] => true
  | x :: xs => fitE x && fitL xs
end
end Go.Proofs.Ytobkdmmnbnpemaa.K
