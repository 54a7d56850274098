/- What may be: an expression's fields, an expression, statements; told on trees. Plain. -/
import Derived.Test.YtobkdmmnbnpemaaXJPL0
namespace Go.Proofs.Ytobkdmmnbnpemaa.K
open Go.RowKit Go.Proofs.YtobkdmmnbnpemaaW.PrintWords Go.Proofs.YtobkdmmnbnpemaaW.PrintLast Go.Proofs.YtobkdmmnbnpemaaW.PrintMore
set_option linter.unusedVariables false
set_option linter.unusedSimpArgs false
def numB (k n : Int) : Bool := if k = 1 then decide (n ≥ 0) else n == 0
def nmB (k : Int) (s : ByteArray) : Bool := if k = 2 then nameB (lst s) else s.toList == ([] : List UInt8)
def opB (k op : Int) : Bool := if k = 4 then decide (op ≥ 19) && decide (op ≤ 21) else if k = 5 then decide (op ≥ 1) && decide (op ≤ 18) else op == 0
def fieldsB (k n : Int) (s : ByteArray) (op : Int) : Bool := numB k n && (nmB k s && opB k op)
def wantE (k : Int) : Option Nat := if k = 1 then some 0 else if k = 2 then some 0 else if k = 3 then some 1 else if k = 4 then some 1 else if k = 5 then some 2 else none
def goE {α : Type} (f : Int → α → Bool × Int) : Int → List α → Bool × Int
  | n, [] => (true, n)
  | n, x :: xs => if (f n x).1 = true then goE f (f n x).2 xs else (false, (f n x).2)
def cE : Nat → Int → S38 → Bool × Int
  | 0, n, _ => (false, n)
  | d + 1, n, e => if n + 1 > 600 then (false, n + 1) else
    match wantE e.f0 with
    | none => (false, n + 1)
    | some k => if e.f4.length = k then (if fieldsB e.f0 e.f1 e.f2 e.f3 = true then goE (cE d) (n + 1) e.f4 else (false, n + 1)) else (false, n + 1)
def wantS (k : Int) : Option (Nat × Bool) :=
  if k = 1 then some (1, true) else if k = 2 then some (1, true) else if k = 3 then some (2, false) else if k = 4 then some (1, false) else if k = 8 then some (1, false) else
  if k = 5 then some (1, false) else if k = 6 then some (1, false) else if k = 7 then some (1, false) else if k = 9 then some (0, false) else none
def loopsB (k : Int) : Bool := k == 7 || k == 6
def cellB (k c : Int) : Bool := if k = 5 then decide (0 ≤ c) && decide (c ≤ 255) else c == 0
def headB (s : S41) : Bool :=
  match wantS s.f0 with
  | none => false
  | some (n, named) => s.f3.length == n && ((named == nameB (lst s.f1)) && (named || (s.f1.toList == ([] : List UInt8)))) && cellB s.f0 s.f2 && (loopsB s.f0 || s.f4.isEmpty) && (s.f0 == 6 || s.f5.isEmpty)
def cS (rec_ : Int → List S41 → Bool × Int) (n : Int) (s : S41) : Bool × Int :=
  if headB s = true then
    if (goE (cE 48) n s.f3).1 = true then
      if loopsB s.f0 = true then
        if (rec_ (goE (cE 48) n s.f3).2 s.f4).1 = true then
          if s.f5.length = 0 then (true, (rec_ (goE (cE 48) n s.f3).2 s.f4).2) else rec_ (rec_ (goE (cE 48) n s.f3).2 s.f4).2 s.f5
        else (false, (rec_ (goE (cE 48) n s.f3).2 s.f4).2)
      else (true, (goE (cE 48) n s.f3).2)
    else (false, (goE (cE 48) n s.f3).2)
  else (false, n)
def oneS (rec_ : Int → List S41 → Bool × Int) (n : Int) (s : S41) : Bool × Int := if n + 1 > 600 then (false, n + 1) else cS rec_ (n + 1) s
def cB : Nat → Int → List S41 → Bool × Int
  | 0, n, _ => (false, n)
  | b + 1, n, l => if 600 < l.length then (false, n) else goE (oneS (cB b)) n l
end Go.Proofs.Ytobkdmmnbnpemaa.K
