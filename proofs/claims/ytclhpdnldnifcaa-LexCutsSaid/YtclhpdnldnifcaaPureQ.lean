/- The reference's numbers: sums by halves, products by ten. -/
import Derived.Test.YtclhpdnldnifcaaPureR3
import Derived.Lib.EndianBits
namespace Go.Proofs.Ytclhpdnldnifcaa.K
open Go.RowKit Go.Proofs.YtclhpdnldnifcaaW.PrintWords Go.Proofs.YtclhpdnldnifcaaW.PrintLast Go.Proofs.YtclhpdnldnifcaaW.PrintMore
set_option linter.unusedVariables false

theorem mask32 (x : Int) (h0 : 0 ≤ x) (h1 : x < 18446744073709551616) : Go.bits .and .u64 x 4294967295 = x % 4294967296 := by
  have h := bits_mask .u64 64 (by decide) Go.wraps_u64 32 (by decide) x h0 (by omega)
  simpa using h
theorem half_f (a : Int) (h0 : 0 ≤ a) (h1 : a < 9223372036854775808) : outriderref01_half.f a = some (a % 4294967296, a / 4294967296) := by
  have e : IntKind.u64.wrap a = a := Go.wraps_u64 a h0 (by omega)
  unfold outriderref01_half.f
  rw [e, mask32 a h0 (by omega)]
theorem whole_f (lo hi : Int) (l0 : 0 ≤ lo) (l1 : lo < 18446744073709551616) (h0 : 0 ≤ hi) (h1 : hi < 18446744073709551616) : outriderref01_whole.f lo hi = some (wrap64 (hi * 4294967296 + lo % 4294967296)) := by
  unfold outriderref01_whole.f
  have e : IntKind.u64.wrap (hi * 4294967296) = hi % 4294967296 * 4294967296 := by rw [IntKind.wrap_u64]; omega
  rw [e, mask32 lo l0 l1, bits_join .u64 64 (by decide) Go.wraps_u64 32 (hi % 4294967296 * 4294967296) (lo % 4294967296) (by omega) (by omega) (by omega) (by omega) (by omega) (by omega)]
  congr 1
  unfold wrap64
  omega
theorem add_f (a b : Int) (a0 : 0 ≤ a) (a1 : a < 9223372036854775808) (b0 : 0 ≤ b) (b1 : b < 9223372036854775808) : outriderref01_add.f a b = some (wrap64 (a + b)) := by
  unfold outriderref01_add.f
  rw [half_f a a0 a1, half_f b b0 b1]
  simp only [Option.bind_some]
  have e1 : IntKind.u64.wrap (a % 4294967296 + b % 4294967296) = a % 4294967296 + b % 4294967296 := Go.wraps_u64 _ (by omega) (by omega)
  have e2 : IntKind.u64.wrap (a / 4294967296 + b / 4294967296) = a / 4294967296 + b / 4294967296 := Go.wraps_u64 _ (by omega) (by omega)
  rw [e1, e2]
  have e3 : IntKind.u64.wrap (a / 4294967296 + b / 4294967296 + (a % 4294967296 + b % 4294967296) / 4294967296) = (a + b) / 4294967296 := by
    rw [Go.wraps_u64 _ (by omega) (by omega)]
    omega
  rw [e3, whole_f _ _ (by omega) (by omega) (by omega) (by omega)]
  simp only [Option.bind_some]
  congr 1
  unfold wrap64
  omega
end Go.Proofs.Ytclhpdnldnifcaa.K
