/- The counter: an expression, walked by hand. -/
import Derived.Test.YtobkdmmnbnpemaaXJY0
import Derived.Lib.Hide
namespace Go.Proofs.Ytobkdmmnbnpemaa.K
open Go.RowKit Go.Proofs.YtobkdmmnbnpemaaW.PrintWords Go.Proofs.YtobkdmmnbnpemaaW.PrintLast Go.Proofs.YtobkdmmnbnpemaaW.PrintMore
attribute [local go_sem] max2_int min2_int max_two min_two max_three min_three max_four min_four
set_option linter.unusedVariables false
set_option linter.unusedSimpArgs false
def CPost (b : Bool) (m : Int) (g : Nat) (w0 w : World) (e : Ending) (w' : World) : Prop := e = .returned (.bool b) ∧ IsS95 w0 w' g m ∧ Below w0.heap.size w0 w' ∧ KeepBut w w' g none
def ExprC (d : Nat) : Prop := ∀ (a0 a1 : Int) (a2 : ByteArray) (a3 : Int) (l : List S38) (A : Option Addr) (c : Nat) (n : Int) (b : Bool) (m : Int) (g : Nat) (w0 w : World), Kd.C k38 w0 A l.length l → l.length ≤ c → 0 ≤ n → n ≤ 600 → IsS95 w0 w g n → Below w0.heap.size w0 w → cE d n ⟨a0, a1, a2, a3, l⟩ = (b, m) →
      ∀ deep : Int, deep = 49 - (d : Int) → Calls Try.prog 120 #[.pointer (some ⟨g, 0, none⟩), .agg #[.int .i64 a0, .int .i64 a1, .string a2, .int .i64 a3, .slice A l.length c], .int .i64 deep] w (CPost b m g w0 w)
theorem ExprC.use {d : Nat} (h : ExprC d) :  ∀ (a0 a1 : Int) (a2 : ByteArray) (a3 : Int) (l : List S38) (A : Option Addr) (c : Nat) (n : Int) (b : Bool) (m : Int) (g : Nat) (w0 w : World), Kd.C k38 w0 A l.length l → l.length ≤ c → 0 ≤ n → n ≤ 600 → IsS95 w0 w g n → Below w0.heap.size w0 w → cE d n ⟨a0, a1, a2, a3, l⟩ = (b, m) →
      ∀ deep : Int, deep = 49 - (d : Int) → Calls Try.prog 120 #[.pointer (some ⟨g, 0, none⟩), .agg #[.int .i64 a0, .int .i64 a1, .string a2, .int .i64 a3, .slice A l.length c], .int .i64 deep] w (CPost b m g w0 w) := h
end Go.Proofs.Ytobkdmmnbnpemaa.K
