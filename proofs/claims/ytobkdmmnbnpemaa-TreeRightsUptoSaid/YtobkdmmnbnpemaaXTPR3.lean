/- The reference's Count, on trees. Plain. -/
import Derived.Test.YtobkdmmnbnpemaaXTPR1
namespace Go.Proofs.Ytobkdmmnbnpemaa.K
open Go.RowKit Go.Proofs.YtobkdmmnbnpemaaW.PrintWords Go.Proofs.YtobkdmmnbnpemaaW.PrintLast Go.Proofs.YtobkdmmnbnpemaaW.PrintMore
set_option linter.unusedVariables false
set_option linter.unusedSimpArgs false
mutual
theorem count_ok : ∀ (e : S38), cntE e ≤ 1000000 → ∃ k, outriderref04_Count.f k e.f0 e.f1 e.f2 e.f3 e.f4 = some ((cntE e : Nat) : Int)
  | ⟨a, b, c, f, l⟩, h => by
    simp only [cntE] at h
    obtain ⟨k, hk⟩ := countL_ok l a b c f [] 1 (by omega) (by have := len_cntL l; simp only [List.nil_append]; omega)
    rw [List.nil_append] at hk
    refine ⟨k + 1, ?_⟩
    show outriderref04_Count.l0 k 1 0 a b c f l = _
    exact hk
theorem countL_ok : ∀ (ys : List S38) (a b : Int) (c : ByteArray) (f : Int) (pre : List S38) (n : Nat), n + cntL ys ≤ 1000000 → (pre ++ ys).length ≤ 1000000 → ∃ k, outriderref04_Count.l0 k (n : Int) (pre.length : Int) a b c f (pre ++ ys) = some ((n + cntL ys : Nat) : Int)
  | [], a, b, c, f, pre, n, h, hl => by
    refine ⟨1, ?_⟩
    rw [outriderref04_Count.l0, List.append_nil, if_neg (by omega)]
    rfl
  | x :: ys, a, b, c, f, pre, n, h, hl => by
    simp only [cntL] at h
    obtain ⟨k1, h1⟩ := count_ok x (by omega)
    have hl2 : (pre ++ [x] ++ ys).length ≤ 1000000 := by simpa using hl
    obtain ⟨k2, h2⟩ := countL_ok ys a b c f (pre ++ [x]) (n + cntE x) (by omega) hl2
    have h1' := at_rounds (g := fun k => outriderref04_Count.f k x.f0 x.f1 x.f2 x.f3 x.f4) (fun k => (outriderref04_Count.mono_l k).1 _ _ _ _ _) (show k1 ≤ k1 + k2 by omega) h1
    have h2' := at_rounds (g := fun k => outriderref04_Count.l0 k ((n + cntE x : Nat) : Int) ((pre ++ [x]).length : Int) a b c f (pre ++ [x] ++ ys)) (fun k => (outriderref04_Count.mono_l k).2 _ _ _ _ _ _ _) (show k2 ≤ k1 + k2 by omega) h2
    refine ⟨k1 + k2 + 1, ?_⟩
    have hlen : (pre ++ x :: ys).length = pre.length + (ys.length + 1) := by simp
    have hw : wrap64 ((pre.length : Int) + 1) = ((pre ++ [x]).length : Int) := by
      rw [hlen] at hl
      simp only [List.length_append, List.length_singleton]
      unfold wrap64
      omega
    have hw2 : wrap64 ((n : Int) + ((cntE x : Nat) : Int)) = ((n + cntE x : Nat) : Int) := by unfold wrap64; omega
    rw [outriderref04_Count.l0, if_pos (by rw [hlen]; omega), if_pos (by omega), rd38_at, show outriderref04_Count.f (k1 + k2) x.f0 x.f1 x.f2 x.f3 x.f4 = _ from h1', Option.bind_some, hw, hw2]
    rw [show pre ++ [x] ++ ys = pre ++ x :: ys from by simp] at h2'
    rw [cntL, ← Nat.add_assoc]
    exact h2'
end
end Go.Proofs.Ytobkdmmnbnpemaa.K
