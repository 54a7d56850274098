/- The reference's longest: round by round. -/
import Derived.Test.YtclhpdnldnifcaaPureR
namespace Go.Proofs.Ytclhpdnldnifcaa.K
open Go.RowKit Go.Proofs.YtclhpdnldnifcaaW.PrintWords Go.Proofs.YtclhpdnldnifcaaW.PrintLast Go.Proofs.YtclhpdnldnifcaaW.PrintMore
set_option linter.unusedVariables false

theorem digits_ok (s : ByteArray) (hs : s.size ≤ 140737488351232) : ∃ k, outriderref03_digits.f k s = some (digitsB (lst s)) := by
  have h := digits_l0 s hs (lst s) 0 rfl (Nat.zero_le _) 0
  have hlen := lst_len s
  refine ⟨_, h.trans ?_⟩
  unfold digitsB
  cases hq : lst s with
  | nil => rw [hq] at hlen; have : s.size = 0 := hlen.symm; rw [this]; rfl
  | cons c l =>
    rw [hq] at hlen
    have : 0 < s.size := by rw [← hlen]; simp
    have e : decide ((s.size : Int) > 0) = true := decide_eq_true (by omega)
    rw [e]
    rfl
def goodB (t : List UInt8) : Bool := digitsB t || rowB t || signB t
theorem long_round (s : ByteArray) (hs : s.size ≤ 8192) (i n : Nat) (best : Int) (hn : i + n ≤ s.size) : ∃ K, ∀ k, K ≤ k →
    (goodB (((lst s).drop i).take n) = true → outriderref03_longest.l0 (k + 2) s (i : Int) best (n : Int) = outriderref03_longest.l0 k s (i : Int) (n : Int) ((n + 1 : Nat) : Int)) ∧
    (goodB (((lst s).drop i).take n) = false → 1 < n → outriderref03_longest.l0 (k + 2) s (i : Int) best (n : Int) = some best) ∧
    (goodB (((lst s).drop i).take n) = false → n ≤ 1 → outriderref03_longest.l0 (k + 2) s (i : Int) best (n : Int) = outriderref03_longest.l0 k s (i : Int) best ((n + 1 : Nat) : Int)) := by
  obtain ⟨t, ht⟩ : ∃ t, t = s.extract i (i + n) := ⟨_, rfl⟩
  have htl : lst t = ((lst s).drop i).take n := by rw [ht, lst_extract, Nat.add_sub_cancel_left]
  have hts : t.size ≤ 140737488351232 := by
    rw [← lst_len, htl, List.length_take, List.length_drop, lst_len]; omega
  obtain ⟨k1, h1⟩ := digits_ok t hts
  obtain ⟨k2, h2⟩ := row_ok t hts
  have hw : wrap64 ((i : Int) + (n : Int)) = ((i + n : Nat) : Int) := by unfold wrap64; omega
  have hw2 := wrap64_nat n (by omega)
  refine ⟨k1 + k2 + 44, fun k hk => ?_⟩
  have d1 := at_rounds (g := fun k => outriderref03_digits.f k t) (fun k => outriderref03_digits.mono _ k) (show k1 ≤ k + 1 by omega) h1
  have d2 := at_rounds (g := fun k => outriderref03_row.f k t) (fun k => outriderref03_row.mono _ k) (show k2 ≤ k + 1 by omega) h2
  have d3 := rsign_f t (k + 1 - 44)
  have e3 : k + 1 - 44 + 44 = k + 1 := by omega
  rw [e3] at d3
  have main : outriderref03_longest.l0 (k + 1 + 1) s (i : Int) best (n : Int) = outriderref03_longest.j1 (k + 1) s (i : Int) best (n : Int) (goodB (lst t)) := by
    rw [outriderref03_longest.l0, hw, if_pos (by omega), if_pos (by omega), if_pos (by omega), Int.toNat_natCast, Int.toNat_natCast, ← ht, d1, d2, d3]
    simp only [Option.bind_some]
    unfold goodB
    cases digitsB (lst t) with
    | true => rw [if_pos rfl]; rfl
    | false =>
      rw [if_neg (by simp)]
      cases rowB (lst t) with
      | true => rw [if_pos rfl]; rfl
      | false => rw [if_neg (by simp)]; simp
  rw [← htl]
  refine ⟨fun g => ?_, fun g h => ?_, fun g h => ?_⟩
  · rw [main, g, outriderref03_longest.j1, if_pos rfl, hw2]
  · rw [main, g, outriderref03_longest.j1, if_neg (by simp), if_pos (by omega)]
  · rw [main, g, outriderref03_longest.j1, if_neg (by simp), if_neg (by omega), hw2]
theorem long_in (s : ByteArray) (hs : s.size ≤ 8192) (i n : Nat) (best r : Int) (hn : i + n ≤ s.size) (hg : goodB (((lst s).drop i).take n) = true) (h : ∃ k, outriderref03_longest.l0 k s (i : Int) (n : Int) ((n + 1 : Nat) : Int) = some r) : ∃ k, outriderref03_longest.l0 k s (i : Int) best (n : Int) = some r := by
  obtain ⟨K, hK⟩ := long_round s hs i n best hn
  obtain ⟨k, hk⟩ := h
  refine ⟨K + k + 2, ?_⟩
  rw [(hK (K + k) (by omega)).1 hg]
  exact at_rounds (g := fun k => outriderref03_longest.l0 k s (i : Int) (n : Int) ((n + 1 : Nat) : Int)) (fun k => (outriderref03_longest.mono_l k).1 _ _ _ _) (by omega) hk
theorem long_stop (s : ByteArray) (hs : s.size ≤ 8192) (i n : Nat) (best : Int) (hn : i + n ≤ s.size) (hg : goodB (((lst s).drop i).take n) = false) (h : 1 < n) : ∃ k, outriderref03_longest.l0 k s (i : Int) best (n : Int) = some best := by
  obtain ⟨K, hK⟩ := long_round s hs i n best hn
  exact ⟨K + 2, (hK K (Nat.le_refl _)).2.1 hg h⟩
theorem long_skip (s : ByteArray) (hs : s.size ≤ 8192) (i n : Nat) (best r : Int) (hn : i + n ≤ s.size) (hg : goodB (((lst s).drop i).take n) = false) (h1 : n ≤ 1) (h : ∃ k, outriderref03_longest.l0 k s (i : Int) best ((n + 1 : Nat) : Int) = some r) : ∃ k, outriderref03_longest.l0 k s (i : Int) best (n : Int) = some r := by
  obtain ⟨K, hK⟩ := long_round s hs i n best hn
  obtain ⟨k, hk⟩ := h
  refine ⟨K + k + 2, ?_⟩
  rw [(hK (K + k) (by omega)).2.2 hg h1]
  exact at_rounds (g := fun k => outriderref03_longest.l0 k s (i : Int) best ((n + 1 : Nat) : Int)) (fun k => (outriderref03_longest.mono_l k).1 _ _ _ _) (by omega) hk
theorem long_end (s : ByteArray) (hs : s.size ≤ 8192) (i n : Nat) (best : Int) (hi : i ≤ s.size) (hn : s.size < i + n) (hb : n ≤ 10000) : ∃ k, outriderref03_longest.l0 k s (i : Int) best (n : Int) = some best := by
  have hw : wrap64 ((i : Int) + (n : Int)) = ((i + n : Nat) : Int) := by unfold wrap64; omega
  refine ⟨1, ?_⟩
  rw [outriderref03_longest.l0, hw, if_neg (by omega)]
end Go.Proofs.Ytclhpdnldnifcaa.K
