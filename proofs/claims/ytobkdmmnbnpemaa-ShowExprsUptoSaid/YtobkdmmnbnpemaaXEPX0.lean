/- The reference's Text of a number = the program's. Plain. -/
import Derived.Test.YtobkdmmnbnpemaaXER4
import Derived.Test.YtobkdmmnbnpemaaXET1
import Derived.Lib.EndianBits
namespace Go.Proofs.Ytobkdmmnbnpemaa.K
open Go.RowKit Go.Proofs.YtobkdmmnbnpemaaW.PrintWords Go.Proofs.YtobkdmmnbnpemaaW.PrintLast Go.Proofs.YtobkdmmnbnpemaaW.PrintMore
set_option linter.unusedVariables false
set_option linter.unusedSimpArgs false
theorem bit_or (a b : Int) (h0 : 0 ≤ a) (h1 : a < 9223372036854775808) (b0 : 0 ≤ b) (b1 : b < 2) : Go.bits .or .u64 (IntKind.u64.wrap (a * 2)) b = a * 2 + b := by
  rw [Go.wraps_u64 (a * 2) (by omega) (by omega)]
  exact Go.bits_join .u64 64 (by decide) Go.wraps_u64 1 (a * 2) b (by omega) (by omega) (by omega) b0 (by omega) (by omega)
theorem bit_and (x : Int) (h0 : 0 ≤ x) (h1 : x < 18446744073709551616) : Go.bits .and .u64 x 1 = x % 2 := by
  have h := Go.bits_mask .u64 64 (by decide) Go.wraps_u64 1 (by decide) x h0 (by omega)
  simpa using h
theorem shr_at (x : Int) (i : Nat) (hi : i ≤ 63) : shr .u64 x (IntKind.u64.wrap (i : Int)) = x / 2 ^ i := by
  rw [Go.wraps_u64 (i : Int) (by omega) (by omega)]
  unfold shr
  rw [Int.toNat_natCast, show min i (IntKind.bits .u64) = i from Nat.min_eq_left (by show i ≤ 64; omega)]
theorem long_l0 (x : Int) (hx0 : 0 ≤ x) (hx1 : x < 18446744073709551616) : ∀ (j : Nat), j ≤ 64 → ∀ q r : Int, 0 ≤ q → 0 ≤ r → r < 10 → q * 10 + r = x / 2 ^ j → outriderref01_Long.l0 (j + 1) x 10 q r ((j : Int) - 1) = some (x / 10, x % 10)
  | 0, hj, q, r, hq, hr0, hr1, h => by
    rw [outriderref01_Long.l0, if_neg (by omega)]
    have : q * 10 + r = x := by rw [h]; simp
    have e1 : q = x / 10 := by omega
    have e2 : r = x % 10 := by omega
    rw [e1, e2]
  | j + 1, hj, q, r, hq, hr0, hr1, h => by
    have ex : x / 2 ^ (j + 1) = x / 2 ^ j / 2 := by rw [Int.pow_succ, Int.ediv_ediv_of_nonneg (by exact Int.pow_nonneg (by decide))]
    have hlt : x / 2 ^ j ≤ x := Int.ediv_le_self _ hx0
    have hge : 0 ≤ x / 2 ^ j := Int.ediv_nonneg hx0 (Int.pow_nonneg (by decide))
    generalize hy : x / 2 ^ j = y at *
    have hs : shr .u64 x (IntKind.u64.wrap (j : Int)) = y := by rw [shr_at x j (by omega), hy]
    have hb : Go.bits .and .u64 (shr .u64 x (IntKind.u64.wrap (((j + 1 : Nat) : Int) - 1))) 1 = y % 2 := by
      rw [show (((j + 1 : Nat) : Int) - 1) = (j : Int) by omega, hs, bit_and y hge (by omega)]
    have hw1 : wrap64 (((j + 1 : Nat) : Int) - 1 - 1) = (j : Int) - 1 := by unfold wrap64; omega
    have hw2 : 0 ≤ IntKind.u64.wrap (((j + 1 : Nat) : Int) - 1) := by rw [Go.wraps_u64 _ (by omega) (by omega)]; omega
    rw [outriderref01_Long.l0, if_pos (by omega), if_pos hw2, if_neg (by omega), hb, bit_or r (y % 2) hr0 (by omega) (by omega) (by omega), hw1, bit_or q 1 hq (by omega) (by omega) (by omega), Go.wraps_u64 (q * 2) (by omega) (by omega)]
    by_cases c : r * 2 + y % 2 ≥ 10
    · rw [if_pos c, Go.wraps_u64 _ (by omega) (by omega)]
      exact long_l0 x hx0 hx1 j (by omega) (q * 2 + 1) (r * 2 + y % 2 - 10) (by omega) (by omega) (by omega) (by rw [hy]; omega)
    · rw [if_neg c]
      exact long_l0 x hx0 hx1 j (by omega) (q * 2) (r * 2 + y % 2) (by omega) (by omega) (by omega) (by rw [hy]; omega)
theorem long_ok (x : Int) (hx0 : 0 ≤ x) (hx1 : x < 18446744073709551616) (k : Nat) (hk : 65 ≤ k) : outriderref01_Long.f k x 10 = some (x / 10, x % 10) :=
  at_rounds (g := fun k => outriderref01_Long.f k x 10) (fun k => outriderref01_Long.mono _ _ k) hk (long_l0 x hx0 hx1 64 (Nat.le_refl _) 0 0 (by decide) (by decide) (by decide) (by rw [Int.ediv_eq_zero_of_lt hx0 (by omega)]; rfl))
theorem digit_bs (u : Nat) : strOfNums [(IntKind.u64.wrap (48 + ((u : Int) % 10))) % 256] = bs [dgB u] := by
  have e : (IntKind.u64.wrap (48 + ((u : Int) % 10))) % 256 = 48 + ((u : Int) % 10) := by rw [Go.wraps_u64 _ (by omega) (by omega)]; omega
  rw [e]
  have h10 : u % 10 < 10 := Nat.mod_lt _ (by decide)
  have e2 : (48 + ((u : Int) % 10)) = ((48 + u % 10 : Nat) : Int) := by omega
  rw [e2]
  unfold strOfNums dgB bs
  rfl
theorem bs_app (a b : List UInt8) : bs a ++ bs b = bs (a ++ b) := by
  apply ByteArray.ext
  simp [bs]
theorem size_bs (l : List UInt8) : (bs l).size = l.length := by rw [← lst_len, lst_bs]
theorem text_step (a0 : Int) (k : Nat) (hk : 65 ≤ k) (u : Nat) (hu : u < 18446744073709551616) (ds : List UInt8) (hl : ds.length ≤ 1000) (h : 0 < u ∨ ds = []) :
    outriderref01_Text.l0 (k + 1) a0 (u : Int) (bs ds) = outriderref01_Text.l0 k a0 ((u / 10 : Nat) : Int) (bs (dgB u :: ds)) := by
  have e1 : ((u : Int) / 10) = ((u / 10 : Nat) : Int) := by omega
  have hsz : (strOfNums [(IntKind.u64.wrap (48 + ((u : Int) % 10))) % 256]).size + (bs ds).size ≤ 9223372036854775807 := by
    rw [digit_bs, size_bs, size_bs]
    simp only [List.length_singleton]
    omega
  have hs : strOfNums [(IntKind.u64.wrap (48 + ((u : Int) % 10))) % 256] ++ bs ds = bs (dgB u :: ds) := by rw [digit_bs, bs_app]; rfl
  rw [outriderref01_Text.l0]
  by_cases c : (u : Int) > 0
  · rw [if_pos c, long_ok _ (by omega) (by omega) k hk, Option.bind_some, Option.bind_some]
    dsimp only
    rw [if_pos hsz, hs, e1]
  · have hd : ds = [] := by rcases h with z | z; omega; exact z
    rw [if_neg c, if_pos (by rw [toList_eq]; show lst (bs ds) = []; rw [lst_bs, hd]), long_ok _ (by omega) (by omega) k hk, Option.bind_some, Option.bind_some]
    dsimp only
    rw [if_pos hsz, hs, e1]
theorem text_end (a0 : Int) (ha : 0 ≤ a0) (k : Nat) (d : UInt8) (ds : List UInt8) : outriderref01_Text.l0 (k + 1) a0 ((0 : Nat) : Int) (bs (d :: ds)) = some (bs (d :: ds)) := by
  rw [outriderref01_Text.l0, if_neg (by omega), if_neg (by rw [toList_eq]; show ¬ lst (bs (d :: ds)) = []; rw [lst_bs]; simp), if_neg (by omega)]
theorem text_l0 (a0 : Int) (ha : 0 ≤ a0) : ∀ (n : Nat) (u : Nat) (ds : List UInt8), u < 18446744073709551616 → u < 10 ^ (n + 1) → ds.length + n ≤ 1000 → (0 < u ∨ ds = []) → ∃ k, (66 ≤ k ∧ k ≤ 67 + n) ∧ outriderref01_Text.l0 k a0 (u : Int) (bs ds) = some (bs (decR (n + 1) u ds))
  | 0, u, ds, hu, h10, hds, hz => by
    refine ⟨67, ⟨by omega, by omega⟩, ?_⟩
    have q : u / 10 = 0 := by omega
    rw [text_step a0 66 (by omega) u hu ds (by omega) hz, q, text_end a0 ha, decR, if_pos q]
  | n + 1, u, ds, hu, h10, hds, hz => by
    by_cases q : u / 10 = 0
    · refine ⟨67, ⟨by omega, by omega⟩, ?_⟩
      rw [text_step a0 66 (by omega) u hu ds (by omega) hz, q, text_end a0 ha, decR, if_pos q]
    · obtain ⟨k, hk, h⟩ := text_l0 a0 ha n (u / 10) (dgB u :: ds) (by omega) (by rw [Nat.pow_succ] at h10; omega) (by simp only [List.length_cons]; omega) (.inl (by omega))
      refine ⟨k + 1, ⟨by omega, by omega⟩, ?_⟩
      rw [text_step a0 k (by omega) u hu ds (by omega) hz, h, show decR (n + 1 + 1) u ds = decR (n + 1) (u / 10) (dgB u :: ds) from if_neg q]
theorem rtext_ok (a : Int) (ha : 0 ≤ a) : outriderref01_Text.f 100 a = some (bs (textB a)) := by
  obtain ⟨k, hk, h⟩ := text_l0 a ha 19 (sizeB a) [] (sizeB_lt a) (by have := sizeB_lt a; omega) (by simp) (.inr rfl)
  refine at_rounds (g := fun k => outriderref01_Text.f k a) (fun k => outriderref01_Text.mono _ k) (show k ≤ 100 by omega) ?_
  have e : outriderref01_size.f a = some ((sizeB a : Nat) : Int) := by
    unfold outriderref01_size.f sizeB
    rw [if_neg (by omega), if_neg (by omega)]
    congr 1
    rw [IntKind.wrap_u64]
    omega
  show outriderref01_Text.f k a = _
  unfold outriderref01_Text.f
  rw [e, Option.bind_some]
  unfold textB
  rw [if_neg (by omega)]
  exact h
theorem decR_len : ∀ (k u : Nat) (ds : List UInt8), (decR k u ds).length ≤ k + ds.length
  | 0, u, ds => by simp [decR]
  | k + 1, u, ds => by
    unfold decR
    split
    · simp only [List.length_cons]; omega
    · have := decR_len k (u / 10) (dgB u :: ds)
      simp only [List.length_cons] at this
      omega
theorem textB_len (a : Int) (ha : 0 ≤ a) : (textB a).length ≤ 20 := by
  unfold textB
  rw [if_neg (by omega)]
  have := decR_len 20 (sizeB a) []
  simpa using this
end Go.Proofs.Ytobkdmmnbnpemaa.K
