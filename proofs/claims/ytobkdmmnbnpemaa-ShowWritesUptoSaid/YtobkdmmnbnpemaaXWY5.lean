/- What the writer writes, told on trees. Plain. -/
import Derived.Test.YtobkdmmnbnpemaaXWCA
namespace Go.Proofs.Ytobkdmmnbnpemaa.K
open Go.RowKit Go.Proofs.YtobkdmmnbnpemaaW.PrintWords Go.Proofs.YtobkdmmnbnpemaaW.PrintLast Go.Proofs.YtobkdmmnbnpemaaW.PrintMore
set_option linter.unusedVariables false
def exT (K : Nat) (e : S38) : Option ByteArray := show_Expr.f K e.f0 e.f1 e.f2 e.f3 e.f4
def argsT (K : Nat) : List S38 → Option (List ByteArray)
  | [] => some []
  | e :: es => (exT K e).bind fun x => (argsT K es).bind fun xs => some (x :: xs)
def sB (f : Int → S41 → Option (List UInt8)) (n : Int) : List S41 → Option (List UInt8)
  | [] => some []
  | s :: l => (f n s).bind fun a => (sB f n l).bind fun b => some (a ++ b)
def sBx (f : Int → S41 → Option (List UInt8)) (n : Int) (l : List S41) : Option (List UInt8) := if l.length ≤ 1000000 then sB f n l else none
def head1 (xs : List ByteArray) (f : ByteArray → Option (List UInt8)) : Option (List UInt8) := match xs with | [] => none | x :: _ => f x
def head2 (xs : List ByteArray) (f : ByteArray → ByteArray → Option (List UInt8)) : Option (List UInt8) := match xs with | x :: y :: _ => f x y | _ => none
def stF (K : Nat) (f : Int → S41 → Option (List UInt8)) (br : Int → ByteArray → S41 → ByteArray → Option (List UInt8)) (n : Int) (s : S41) : Option (List UInt8) :=
  (argsT K s.f3).bind fun xs =>
  if s.f0 = 1 then head1 xs fun x => some (lineB n [⟨#[118, 97, 114, 32]⟩, s.f1, ⟨#[32, 61, 32]⟩, x, ⟨#[59]⟩])
  else if s.f0 = 2 then head1 xs fun x => some (lineB n [s.f1, ⟨#[32, 61, 32]⟩, x, ⟨#[59]⟩])
  else if s.f0 = 3 then head2 xs fun x y => some (lineB n [⟨#[109, 91]⟩, x, ⟨#[93, 32, 61, 32]⟩, y, ⟨#[59]⟩])
  else if s.f0 = 4 then head1 xs fun x => some (lineB n [⟨#[101, 109, 105, 116, 32]⟩, x, ⟨#[59]⟩])
  else if s.f0 = 5 then (num_Text.f s.f2).bind fun c => head1 xs fun x => some (lineB n [⟨#[105, 110, 116, 111, 32]⟩, c, ⟨#[32]⟩, x, ⟨#[59]⟩])
  else if s.f0 = 8 then head1 xs fun x => some (lineB n [⟨#[102, 97, 105, 108, 32]⟩, x, ⟨#[59]⟩])
  else if s.f0 = 9 then some (lineB n [⟨#[115, 116, 111, 112, 59]⟩])
  else if s.f0 = 7 then head1 xs fun x => (sBx f (n + 1) s.f4).bind fun b => some (lineB n [⟨#[119, 104, 105, 108, 101, 32, 40]⟩, x, ⟨#[41, 32, 123]⟩] ++ (b ++ lineB n [⟨#[125]⟩]))
  else if s.f0 = 6 then head1 xs fun x => br n ⟨#[]⟩ s x
  else some []
def brF (K : Nat) (f : Int → S41 → Option (List UInt8)) (br : Int → ByteArray → S41 → ByteArray → Option (List UInt8)) (n : Int) (ahead : ByteArray) (s : S41) (test : ByteArray) : Option (List UInt8) :=
  (sBx f (n + 1) s.f4).bind fun b =>
  if s.f5.length = 1 ∧ (rd_T41 s.f5 0).f0 = 6 then
    (if (rd_T41 s.f5 0).f3.length = 0 then none else (exT K (rd_T38 (rd_T41 s.f5 0).f3 0)).bind fun x => (br n ⟨#[125, 32, 101, 108, 115, 101, 32]⟩ (rd_T41 s.f5 0) x).bind fun r => some (lineB n [ahead, ⟨#[105, 102, 32, 40]⟩, test, ⟨#[41, 32, 123]⟩] ++ (b ++ r)))
  else if s.f5.length = 0 then some (lineB n [ahead, ⟨#[105, 102, 32, 40]⟩, test, ⟨#[41, 32, 123]⟩] ++ (b ++ lineB n [⟨#[125]⟩]))
  else (sBx f (n + 1) s.f5).bind fun r => some (lineB n [ahead, ⟨#[105, 102, 32, 40]⟩, test, ⟨#[41, 32, 123]⟩] ++ (b ++ (lineB n [⟨#[125, 32, 101, 108, 115, 101, 32, 123]⟩] ++ (r ++ lineB n [⟨#[125]⟩]))))
end Go.Proofs.Ytobkdmmnbnpemaa.K
