/- The reference's Deep, on trees. Plain. -/
import Derived.Test.YtobkdmmnbnpemaaXTPR0
import Derived.Test.YtobkdmmnbnpemaaXTR1
namespace Go.Proofs.Ytobkdmmnbnpemaa.K
open Go.RowKit Go.Proofs.YtobkdmmnbnpemaaW.PrintWords Go.Proofs.YtobkdmmnbnpemaaW.PrintLast Go.Proofs.YtobkdmmnbnpemaaW.PrintMore
set_option linter.unusedVariables false
set_option linter.unusedSimpArgs false
theorem rd38_at (pre : List S38) (x : S38) (ys : List S38) : rd_T38 (pre ++ x :: ys) (pre.length : Int) = x := by
  unfold rd_T38
  rw [Int.toNat_natCast, List.getD_eq_getElem?_getD, List.getElem?_append_right (Nat.le_refl _), Nat.sub_self]
  rfl
theorem len_cntL : ∀ l : List S38, l.length ≤ cntL l
  | [] => Nat.le_refl _
  | ⟨a, b, c, d, l⟩ :: xs => by have := len_cntL xs; simp only [List.length_cons, cntL, cntE]; omega
def deepR (d : Nat) : Int := if (d : Int) ≥ 100 then 100 else wrap64 ((d : Int) + 1)
theorem deepR_eq (d : Nat) : deepR d = ((min (1 + d) 100 : Nat) : Int) := by
  unfold deepR wrap64
  split <;> omega
mutual
theorem deep_ok : ∀ (e : S38), cntE e ≤ 1000000 → ∃ k, outriderref04_Deep.f k e.f0 e.f1 e.f2 e.f3 e.f4 = some ((min (deepE e) 100 : Nat) : Int)
  | ⟨a, b, c, f, l⟩, h => by
    simp only [cntE] at h
    obtain ⟨k, hk⟩ := deepL_ok l a b c f [] 0 (by omega) (by have := len_cntL l; simp only [List.nil_append]; omega)
    refine ⟨k + 1, ?_⟩
    rw [List.nil_append] at hk
    show outriderref04_Deep.l0 k 0 0 a b c f l = _
    rw [show outriderref04_Deep.l0 k 0 0 a b c f l = _ from hk, deepR_eq]
    simp only [deepE]
    congr 2
    omega
theorem deepL_ok : ∀ (ys : List S38) (a b : Int) (c : ByteArray) (f : Int) (pre : List S38) (d : Nat), cntL ys ≤ 1000000 → (pre ++ ys).length ≤ 1000000 → ∃ k, outriderref04_Deep.l0 k (d : Int) (pre.length : Int) a b c f (pre ++ ys) = some (deepR (max d (min (deepL ys) 100)))
  | [], a, b, c, f, pre, d, h, hl => by
    refine ⟨1, ?_⟩
    rw [outriderref04_Deep.l0, List.append_nil, if_neg (by omega)]
    simp only [deepL, Nat.zero_min, Nat.max_zero]
    unfold deepR
    split <;> rfl
  | x :: ys, a, b, c, f, pre, d, h, hl => by
    simp only [cntL] at h
    obtain ⟨k1, h1⟩ := deep_ok x (by omega)
    have hl2 : (pre ++ [x] ++ ys).length ≤ 1000000 := by simpa using hl
    obtain ⟨k2, h2⟩ := deepL_ok ys a b c f (pre ++ [x]) (max d (min (deepE x) 100)) (by omega) hl2
    have h1' := at_rounds (g := fun k => outriderref04_Deep.f k x.f0 x.f1 x.f2 x.f3 x.f4) (fun k => outriderref04_Deep.mono _ _ _ _ _ k) (show k1 ≤ k1 + k2 by omega) h1
    have h2' := at_rounds (g := fun k => outriderref04_Deep.l0 k ((max d (min (deepE x) 100) : Nat) : Int) ((pre ++ [x]).length : Int) a b c f (pre ++ [x] ++ ys)) (fun k => (outriderref04_Deep.mono_l k).2 _ _ _ _ _ _ _) (show k2 ≤ k1 + k2 by omega) h2
    refine ⟨k1 + k2 + 1, ?_⟩
    have hlen : (pre ++ x :: ys).length = pre.length + (ys.length + 1) := by simp
    have hw : wrap64 ((pre.length : Int) + 1) = ((pre ++ [x]).length : Int) := by
      rw [hlen] at hl
      simp only [List.length_append, List.length_singleton]
      unfold wrap64
      omega
    rw [outriderref04_Deep.l0, if_pos (by rw [hlen]; omega), if_pos (by omega), rd38_at, show outriderref04_Deep.f (k1 + k2) x.f0 x.f1 x.f2 x.f3 x.f4 = _ from h1', Option.bind_some, hw]
    rw [show pre ++ [x] ++ ys = pre ++ x :: ys from by simp] at h2'
    have hm : max d (min (deepL (x :: ys)) 100) = max (max d (min (deepE x) 100)) (min (deepL ys) 100) := by simp only [deepL]; omega
    rw [hm]
    by_cases q : ((min (deepE x) 100 : Nat) : Int) > (d : Int)
    · rw [if_pos q]
      have e : max d (min (deepE x) 100) = min (deepE x) 100 := by omega
      rw [e] at h2' ⊢
      exact h2'
    · rw [if_neg q]
      have e : max d (min (deepE x) 100) = d := by omega
      rw [e] at h2' ⊢
      exact h2'
end
end Go.Proofs.Ytobkdmmnbnpemaa.K
