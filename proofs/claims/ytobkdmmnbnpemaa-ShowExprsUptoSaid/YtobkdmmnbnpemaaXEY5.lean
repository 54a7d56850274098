/- What the writer writes, told on trees. Plain. -/
import Derived.Test.YtobkdmmnbnpemaaXEC1
namespace Go.Proofs.Ytobkdmmnbnpemaa.K
open Go.RowKit Go.Proofs.YtobkdmmnbnpemaaW.PrintWords Go.Proofs.YtobkdmmnbnpemaaW.PrintLast Go.Proofs.YtobkdmmnbnpemaaW.PrintMore
set_option linter.unusedVariables false
def exT (K : Nat) (e : S38) : Option ByteArray := show_Expr.f K e.f0 e.f1 e.f2 e.f3 e.f4
def argsT (K : Nat) : List S38 → Option (List ByteArray)
  | [] => some []
  | e :: es => (exT K e).bind fun x => (argsT K es).bind fun xs => some (x :: xs)
def sB (f : Int → S41 → Option (List UInt8)) (n : Int) : List S41 → Option (List UInt8)
  | [] => some []
  | s :: l => (f n s).bind fun a => (sB f n l).bind fun b => some (a ++ b)
def head1 (xs : List ByteArray) (f : ByteArray → Option (List UInt8)) : Option (List UInt8) := match xs with | [] => none | x :: _ => f x
end Go.Proofs.Ytobkdmmnbnpemaa.K
