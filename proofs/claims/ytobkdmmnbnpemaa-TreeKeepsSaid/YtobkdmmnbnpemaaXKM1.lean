/- The reference's `may`, walked by hand. -/
import Derived.Test.YtobkdmmnbnpemaaXKPR4
import Derived.Test.YtobkdmmnbnpemaaXKF1
import Derived.Test.YtobkdmmnbnpemaaXKYB
import Derived.Lib.Hide
namespace Go.Proofs.Ytobkdmmnbnpemaa.K
open Go.RowKit Go.Proofs.YtobkdmmnbnpemaaW.PrintWords Go.Proofs.YtobkdmmnbnpemaaW.PrintLast Go.Proofs.YtobkdmmnbnpemaaW.PrintMore
attribute [local go_sem] max2_int min2_int max_two min_two max_three min_three max_four min_four
set_option linter.unusedVariables false
set_option linter.unusedSimpArgs false
def MayC (b : Nat) : Prop := ∀ (s : S41) (A3 A4 A5 : Option Addr) (c3 c4 c5 : Nat) (r : Bool) (w : World) (bl : Int), bl = 12 - (b : Int) → cntS s ≤ 1000000 →
  Kd.C k38 w A3 s.f3.length s.f3 → s.f3.length ≤ c3 → Kd.C k41 w A4 s.f4.length s.f4 → s.f4.length ≤ c4 → Kd.C k41 w A5 s.f5.length s.f5 → s.f5.length ≤ c5 → fitSt (fitB b) s = r →
  Calls Try.prog 41 #[.agg #[.int .i64 s.f0, .string s.f1, .int .i64 s.f2, .slice A3 s.f3.length c3, .slice A4 s.f4.length c4, .slice A5 s.f5.length c5], .int .i64 bl] w fun e w' => e = .returned (.bool r) ∧ Below w.heap.size w w'
theorem MayC.use {b : Nat} (h : MayC b) (s : S41) (A3 A4 A5 : Option Addr) (c3 c4 c5 : Nat) (r : Bool) (w : World) (bl : Int) (h0 : bl = 12 - (b : Int)) (h1 : cntS s ≤ 1000000)
  (h2 : Kd.C k38 w A3 s.f3.length s.f3) (h3 : s.f3.length ≤ c3) (h4 : Kd.C k41 w A4 s.f4.length s.f4) (h5 : s.f4.length ≤ c4) (h6 : Kd.C k41 w A5 s.f5.length s.f5) (h7 : s.f5.length ≤ c5) (h8 : fitSt (fitB b) s = r) :
  Calls Try.prog 41 #[.agg #[.int .i64 s.f0, .string s.f1, .int .i64 s.f2, .slice A3 s.f3.length c3, .slice A4 s.f4.length c4, .slice A5 s.f5.length c5], .int .i64 bl] w fun e w' => e = .returned (.bool r) ∧ Below w.heap.size w w' :=
  h s A3 A4 A5 c3 c4 c5 r w bl h0 h1 h2 h3 h4 h5 h6 h7 h8
end Go.Proofs.Ytobkdmmnbnpemaa.K
