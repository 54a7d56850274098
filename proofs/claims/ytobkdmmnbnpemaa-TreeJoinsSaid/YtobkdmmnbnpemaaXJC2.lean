/- The writer's within, walked by hand. -/
import Derived.Test.YtobkdmmnbnpemaaXJC1
import Derived.Test.YtobkdmmnbnpemaaXJY4
import Derived.Lib.Hide
namespace Go.Proofs.Ytobkdmmnbnpemaa.K
open Go.RowKit Go.Proofs.YtobkdmmnbnpemaaW.PrintWords Go.Proofs.YtobkdmmnbnpemaaW.PrintLast Go.Proofs.YtobkdmmnbnpemaaW.PrintMore
attribute [local go_sem] max2_int min2_int max_two min_two max_three min_three max_four min_four
set_option linter.unusedVariables false
set_option linter.unusedSimpArgs false
def StC (d : Nat) (f : Int → S41 → Option (List UInt8)) : Prop := ∀ (k : Int) (f1 : ByteArray) (f2 : Int) (l3 : List S38) (l4 l5 : List S41) (A3 A4 A5 : Option Addr) (c3 c4 c5 : Nat) (n : Int) (r t : List UInt8) (g : Nat) (w0 w : World),
  f n ⟨k, f1, f2, l3, l4, l5⟩ = some r → 0 ≤ n → n + d ≤ 900 → IsW w0.heap.size w g t n → Below w0.heap.size w0 w → Kd.C k38 w0 A3 l3.length l3 → Kd.C k41 w0 A4 l4.length l4 → Kd.C k41 w0 A5 l5.length l5 → l3.length ≤ c3 → l4.length ≤ c4 → l5.length ≤ c5 → t.length + r.length ≤ 1000000000 →
  Calls Try.prog 39 #[.pointer (some ⟨g, 0, none⟩), .agg #[.int .i64 k, .string f1, .int .i64 f2, .slice A3 l3.length c3, .slice A4 l4.length c4, .slice A5 l5.length c5]] w (LPost w0.heap.size g (t ++ r) n w0 w)
theorem StC.use {d : Nat} {f : Int → S41 → Option (List UInt8)} (h : StC d f) (x : S41) (A3 A4 A5 : Option Addr) (c3 c4 c5 : Nat) (n : Int) (r t : List UInt8) (g : Nat) (w0 w : World)
  (hr : f n x = some r) (h0 : 0 ≤ n) (h1 : n + d ≤ 900) (hw : IsW w0.heap.size w g t n) (hb : Below w0.heap.size w0 w) (h3 : Kd.C k38 w0 A3 x.f3.length x.f3) (h4 : Kd.C k41 w0 A4 x.f4.length x.f4) (h5 : Kd.C k41 w0 A5 x.f5.length x.f5) (g3 : x.f3.length ≤ c3) (g4 : x.f4.length ≤ c4) (g5 : x.f5.length ≤ c5) (hs : t.length + r.length ≤ 1000000000) :
  Calls Try.prog 39 #[.pointer (some ⟨g, 0, none⟩), .agg #[.int .i64 x.f0, .string x.f1, .int .i64 x.f2, .slice A3 x.f3.length c3, .slice A4 x.f4.length c4, .slice A5 x.f5.length c5]] w (LPost w0.heap.size g (t ++ r) n w0 w) :=
  h x.f0 x.f1 x.f2 x.f3 x.f4 x.f5 A3 A4 A5 c3 c4 c5 n r t g w0 w (by rw [eta41]; exact hr) h0 h1 hw hb h3 h4 h5 g3 g4 g5 hs
end Go.Proofs.Ytobkdmmnbnpemaa.K
