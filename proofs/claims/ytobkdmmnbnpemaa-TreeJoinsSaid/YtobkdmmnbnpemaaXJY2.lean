/- The counter: a statement and statements in a block, walked by hand. -/
import Derived.Test.YtobkdmmnbnpemaaXJY1
import Derived.Lib.Hide
import Derived.Deep.CutBlock
namespace Go.Proofs.Ytobkdmmnbnpemaa.K
open Go.RowKit Go.Proofs.YtobkdmmnbnpemaaW.PrintWords Go.Proofs.YtobkdmmnbnpemaaW.PrintLast Go.Proofs.YtobkdmmnbnpemaaW.PrintMore
attribute [local go_sem] max2_int min2_int max_two min_two max_three min_three max_four min_four
set_option linter.unusedVariables false
set_option linter.unusedSimpArgs false
def BlockC (b : Nat) : Prop := ∀ (l : List S41) (L : Nat) (A : Option Addr) (c : Nat) (n : Int) (r : Bool) (m : Int) (g : Nat) (w0 w : World), l.length = L → Kd.C k41 w0 A l.length l → L ≤ c → 0 ≤ n → n ≤ 600 → IsS95 w0 w g n → Below w0.heap.size w0 w → cB b n l = (r, m) →
      ∀ bl : Int, bl = 13 - (b : Int) → Calls Try.prog 55 #[.pointer (some ⟨g, 0, none⟩), .slice A L c, .int .i64 bl] w (CPost r m g w0 w)
theorem BlockC.use {b : Nat} (h : BlockC b) : ∀ (l : List S41) (L : Nat) (A : Option Addr) (c : Nat) (n : Int) (r : Bool) (m : Int) (g : Nat) (w0 w : World), l.length = L → Kd.C k41 w0 A l.length l → L ≤ c → 0 ≤ n → n ≤ 600 → IsS95 w0 w g n → Below w0.heap.size w0 w → cB b n l = (r, m) →
      ∀ bl : Int, bl = 13 - (b : Int) → Calls Try.prog 55 #[.pointer (some ⟨g, 0, none⟩), .slice A L c, .int .i64 bl] w (CPost r m g w0 w) := h
end Go.Proofs.Ytobkdmmnbnpemaa.K
