/- Walks of the seat's own: outriderref03_Cut; they began as parts of a print and were turned. -/
import Derived.Test.YtclhpdnldnifcaaK6
namespace Go.Proofs.Ytclhpdnldnifcaa.K
open Go.RowKit Go.Proofs.YtclhpdnldnifcaaW.PrintWords Go.Proofs.YtclhpdnldnifcaaW.PrintLast Go.Proofs.YtclhpdnldnifcaaW.PrintMore
attribute [local go_sem] max2_int min2_int max_two min_two max_three min_three max_four min_four
set_option linter.unusedVariables false
set_option linter.unusedSimpArgs false

/-! ### outriderref03_Cut: function 9 -/
def outriderref03_Cut.l0 : Nat → ByteArray → List (S33) → Int → Option ((List (S33)) × Int × Int)
  | 0, _, _, _ => none
  | k + 1, x0, x5, x6 => if x6 < (x0.size : Int) then ((outriderref03_longest.f k x0 x6).bind fun t160 => (if t160 = 0 then (some (([] : List (S33)), x6, 31)) else (if 0 ≤ x6 then (if x6 ≤ (wrap64 (x6 + t160)) then (if (wrap64 (x6 + t160)) ≤ (x0.size : Int) then ((outriderref03_digits.f k (x0.extract (x6 : Int).toNat ((wrap64 (x6 + t160)) : Int).toNat)).bind fun t162 => (if t162 = true then ((outriderref01_Parse.f k (x0.extract (x6 : Int).toNat ((wrap64 (x6 + t160)) : Int).toNat)).bind fun bt163 => (if bt163.2 = 0 then (if (wrap64 (x6 + t160)) < (x0.size : Int) then (if 0 ≤ (wrap64 (x6 + t160)) then ((outriderref03_letter.f (bt x0 (wrap64 (x6 + t160)))).bind fun t165 => (if t165 = true then (some (([] : List (S33)), wrap64 (x6 + t160), 31)) else (if x5.length < 3518437208883 then ((outriderref03_gap.f k x0 (wrap64 (x6 + t160))).bind fun t169 => (outriderref03_Cut.l0 k x0 (x5 ++ [(⟨1, x0.extract (x6 : Int).toNat ((wrap64 (x6 + t160)) : Int).toNat, bt163.1, x6⟩ : S33)]) t169)) else (none)))) else (none)) else (if x5.length < 3518437208883 then ((outriderref03_gap.f k x0 (wrap64 (x6 + t160))).bind fun t173 => (outriderref03_Cut.l0 k x0 (x5 ++ [(⟨1, x0.extract (x6 : Int).toNat ((wrap64 (x6 + t160)) : Int).toNat, bt163.1, x6⟩ : S33)]) t173)) else (none))) else (some (([] : List (S33)), x6, 33)))) else ((outriderref03_Words.f k (x0.extract (x6 : Int).toNat ((wrap64 (x6 + t160)) : Int).toNat)).bind fun t174 => (if t174 = true then (if x5.length < 3518437208883 then ((outriderref03_gap.f k x0 (wrap64 (x6 + t160))).bind fun t178 => (outriderref03_Cut.l0 k x0 (x5 ++ [(⟨3, x0.extract (x6 : Int).toNat ((wrap64 (x6 + t160)) : Int).toNat, 0, x6⟩ : S33)]) t178)) else (none)) else ((outriderref03_row.f k (x0.extract (x6 : Int).toNat ((wrap64 (x6 + t160)) : Int).toNat)).bind fun t179 => (if t179 = true then (if t160 > 12 then (some (([] : List (S33)), x6, 32)) else (if x5.length < 3518437208883 then ((outriderref03_gap.f k x0 (wrap64 (x6 + t160))).bind fun t183 => (outriderref03_Cut.l0 k x0 (x5 ++ [(⟨2, x0.extract (x6 : Int).toNat ((wrap64 (x6 + t160)) : Int).toNat, 0, x6⟩ : S33)]) t183)) else (none))) else (if x5.length < 3518437208883 then ((outriderref03_gap.f k x0 (wrap64 (x6 + t160))).bind fun t187 => (outriderref03_Cut.l0 k x0 (x5 ++ [(⟨4, x0.extract (x6 : Int).toNat ((wrap64 (x6 + t160)) : Int).toNat, 0, x6⟩ : S33)]) t187)) else (none)))))))) else (none)) else (none)) else (none)))) else (if x5.length < 3518437208883 then (some ((x5 ++ [(⟨0, (⟨#[]⟩ : ByteArray), 0, (x0.size : Int)⟩ : S33)]), 0, 0)) else (none))
def outriderref03_Cut.f (k : Nat) (a0 : ByteArray) : Option ((List (S33)) × Int × Int) := if (a0.size : Int) > 8192 then (some (([] : List (S33)), 0, 30)) else ((outriderref03_gap.f k a0 0).bind fun t156 => (outriderref03_Cut.l0 k a0 ([] : List (S33)) t156))
theorem outriderref03_Cut.mono_l : ∀ k, (∀ y0 y1 y2, LeO (outriderref03_Cut.l0 k y0 y1 y2) (outriderref03_Cut.l0 (k + 1) y0 y1 y2))
  | 0 => fun _ _ _ r h => by simp [outriderref03_Cut.l0] at h
  | k + 1 => by
    have ih0 := outriderref03_Cut.mono_l k
    · intro y0 y1 y2
      unfold outriderref03_Cut.l0
      repeat' first
      | (with_reducible exact ih0 _ _ _)
      | (with_reducible exact outriderref01_Parse.mono _ _)
      | (with_reducible exact outriderref03_Words.mono _ _)
      | (with_reducible exact outriderref03_digits.mono _ _)
      | (with_reducible exact outriderref03_gap.mono _ _ _)
      | (with_reducible exact outriderref03_longest.mono _ _ _)
      | (with_reducible exact outriderref03_row.mono _ _)
      | (with_reducible exact LeO.refl _)
      | (with_reducible exact LeO.none _)
      | (with_reducible refine LeO.ite ?_ ?_)
      | (with_reducible refine LeO.bind ?_ (fun _ => ?_))
      | exact ih0 _ _ _
      | exact outriderref01_Parse.mono _ _
      | exact outriderref03_Words.mono _ _
      | exact outriderref03_digits.mono _ _
      | exact outriderref03_gap.mono _ _ _
      | exact outriderref03_longest.mono _ _ _
      | exact outriderref03_row.mono _ _
      | exact LeO.none _
      | refine LeO.ite ?_ ?_
      | refine LeO.bind ?_ (fun _ => ?_)
theorem outriderref03_Cut.mono : ∀ a0 k, LeO (outriderref03_Cut.f k a0) (outriderref03_Cut.f (k + 1) a0) := by
  intro a0 k
  have ih0 := outriderref03_Cut.mono_l k
  unfold outriderref03_Cut.f
  repeat' first
      | (with_reducible exact ih0 _ _ _)
      | (with_reducible exact outriderref01_Parse.mono _ _)
      | (with_reducible exact outriderref03_Words.mono _ _)
      | (with_reducible exact outriderref03_digits.mono _ _)
      | (with_reducible exact outriderref03_gap.mono _ _ _)
      | (with_reducible exact outriderref03_longest.mono _ _ _)
      | (with_reducible exact outriderref03_row.mono _ _)
      | (with_reducible exact LeO.refl _)
      | (with_reducible exact LeO.none _)
      | (with_reducible refine LeO.ite ?_ ?_)
      | (with_reducible refine LeO.bind ?_ (fun _ => ?_))
      | exact ih0 _ _ _
      | exact outriderref01_Parse.mono _ _
      | exact outriderref03_Words.mono _ _
      | exact outriderref03_digits.mono _ _
      | exact outriderref03_gap.mono _ _ _
      | exact outriderref03_longest.mono _ _ _
      | exact outriderref03_row.mono _ _
      | exact LeO.none _
      | refine LeO.ite ?_ ?_
      | refine LeO.bind ?_ (fun _ => ?_)
end Go.Proofs.Ytclhpdnldnifcaa.K
