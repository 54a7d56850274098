/- Copies are the same: plain. -/
import Derived.Test.YtobkdmmnbnpemaaXJPRB
import Derived.Test.YtobkdmmnbnpemaaXJN3
namespace Go.Proofs.Ytobkdmmnbnpemaa.K
open Go.RowKit Go.Proofs.YtobkdmmnbnpemaaW.PrintWords Go.Proofs.YtobkdmmnbnpemaaW.PrintLast Go.Proofs.YtobkdmmnbnpemaaW.PrintMore
set_option linter.unusedVariables false
set_option linter.unusedSimpArgs false
mutual
theorem tcE_ok : ∀ (e : S38), cntE e ≤ 1000000 → ∃ k, tree_copyAll.f k e.f4 = some e.f4
  | ⟨a, b, c, f, l⟩, h => by
    simp only [cntE] at h; obtain ⟨k, hk⟩ := tcL_ok l [] (by omega) (z_161); rw [List.nil_append] at hk; refine ⟨k + 1, ?_⟩; show tree_copyAll.l0 k ([] : List S38) l (l.length : Int) 0 = _; exact hk
theorem tcL_ok : ∀ (ys : List S38) (pre : List S38), cntL ys ≤ 1000000 → (pre ++ ys).length ≤ 1000000 → ∃ k, tree_copyAll.l0 k pre (pre ++ ys) ((pre ++ ys).length : Int) (pre.length : Int) = some (pre ++ ys)
  | [], pre, h, hl => by
    refine ⟨1, ?_⟩
    rw [tree_copyAll.l0, List.append_nil, if_neg (by omega)]
  | x :: ys, pre, h, hl => by
    simp only [cntL] at h; obtain ⟨k1, h1⟩ := tcE_ok x (by omega); have hl2 : (pre ++ [x] ++ ys).length ≤ 1000000 := by simpa using hl
    obtain ⟨k2, h2⟩ := tcL_ok ys (pre ++ [x]) (by omega) hl2; have h1' := at_rounds (g := fun k => tree_copyAll.f k x.f4) (fun k => (tree_copyAll.mono_l k).1 _) (show k1 ≤ k1 + k2 by omega) h1
    have h2' := at_rounds (g := fun k => tree_copyAll.l0 k (pre ++ [x]) (pre ++ [x] ++ ys) ((pre ++ [x] ++ ys).length : Int) ((pre ++ [x]).length : Int)) (fun k => (tree_copyAll.mono_l k).2 _ _ _ _) (show k2 ≤ k1 + k2 by omega) h2
    refine ⟨k1 + k2 + 1, ?_⟩
    have hlen : (pre ++ x :: ys).length = pre.length + (ys.length + 1) := by simp
    have hw : wrap64 ((pre.length : Int) + 1) = ((pre ++ [x]).length : Int) := by
      rw [hlen] at hl; simp only [List.length_append, List.length_singleton]; unfold wrap64
      omega
    have hp : pre.length ≤ 1000000 := by rw [hlen] at hl; omega
    have hx : (⟨x.f0, x.f1, x.f2, x.f3, x.f4⟩ : S38) = x := by cases x; rfl
    rw [tree_copyAll.l0, if_pos (by rw [hlen]; omega), if_pos (by omega), if_pos (by rw [hlen]; omega), rd38_at, show tree_copyAll.f (k1 + k2) x.f4 = _ from h1', Option.bind_some, if_pos (by omega), hx, hw]; rw [show pre ++ [x] ++ ys = pre ++ x :: ys from by simp] at h2'
    exact h2'
end
theorem tc_ok (l : List S38) (h : cntL l ≤ 1000000) : ∃ k, tree_copyAll.f k l = some l := by
  obtain ⟨k, hk⟩ := tcL_ok l [] h (z_161); rw [List.nil_append] at hk; exact ⟨k + 1, hk⟩
mutual
theorem tCS_ok : ∀ (e : S41), cntS e ≤ 1000000 → (∃ k, tree_Copy.f k e.f4 = some e.f4) ∧ ∃ k, tree_Copy.f k e.f5 = some e.f5
  | ⟨a, b, c, e, l, m⟩, h => by
    simp only [cntS] at h; refine ⟨?_, ?_⟩
    · obtain ⟨k, hk⟩ := tCL_ok l [] (by omega) (z_162)
      rw [List.nil_append] at hk; exact ⟨k + 1, hk⟩
    · obtain ⟨k, hk⟩ := tCL_ok m [] (by omega) (by have := len_cntB m; simp only [List.nil_append]; omega)
      rw [List.nil_append] at hk; exact ⟨k + 1, hk⟩
theorem tCL_ok : ∀ (ys : List S41) (pre : List S41), cntB ys ≤ 1000000 → (pre ++ ys).length ≤ 1000000 → ∃ k, tree_Copy.l0 k pre (pre ++ ys) ((pre ++ ys).length : Int) (pre.length : Int) = some (pre ++ ys)
  | [], pre, h, hl => by
    refine ⟨1, ?_⟩
    rw [tree_Copy.l0, List.append_nil, if_neg (by omega)]
  | x :: ys, pre, h, hl => by
    simp only [cntB] at h; obtain ⟨⟨k4, h4⟩, k5, h5⟩ := tCS_ok x (by omega); obtain ⟨k3, h3⟩ := tc_ok x.f3 (by have := cntS_eq x; omega); have hl2 : (pre ++ [x] ++ ys).length ≤ 1000000 := by simpa using hl
    obtain ⟨k2, h2⟩ := tCL_ok ys (pre ++ [x]) (by omega) hl2; have h3' := at_rounds (g := fun k => tree_copyAll.f k x.f3) (fun k => (tree_copyAll.mono_l k).1 _) (show k3 ≤ k3 + k4 + k5 + k2 by omega) h3
    have h4' := at_rounds (g := fun k => tree_Copy.f k x.f4) (fun k => (tree_Copy.mono_l k).1 _) (show k4 ≤ k3 + k4 + k5 + k2 by omega) h4
    have h5' := at_rounds (g := fun k => tree_Copy.f k x.f5) (fun k => (tree_Copy.mono_l k).1 _) (show k5 ≤ k3 + k4 + k5 + k2 by omega) h5
    have h2' := at_rounds (g := fun k => tree_Copy.l0 k (pre ++ [x]) (pre ++ [x] ++ ys) ((pre ++ [x] ++ ys).length : Int) ((pre ++ [x]).length : Int)) (fun k => (tree_Copy.mono_l k).2 _ _ _ _) (show k2 ≤ k3 + k4 + k5 + k2 by omega) h2
    refine ⟨k3 + k4 + k5 + k2 + 1, ?_⟩
    have hlen : (pre ++ x :: ys).length = pre.length + (ys.length + 1) := by simp
    have hw : wrap64 ((pre.length : Int) + 1) = ((pre ++ [x]).length : Int) := by
      rw [hlen] at hl; simp only [List.length_append, List.length_singleton]; unfold wrap64
      omega
    have hp : pre.length ≤ 1000000 := by rw [hlen] at hl; omega
    have hx : (⟨x.f0, x.f1, x.f2, x.f3, x.f4, x.f5⟩ : S41) = x := by cases x; rfl
    rw [tree_Copy.l0, if_pos (by rw [hlen]; omega), if_pos (by omega), if_pos (by rw [hlen]; omega), rd41_at, show tree_copyAll.f (k3 + k4 + k5 + k2) x.f3 = _ from h3', Option.bind_some, show tree_Copy.f (k3 + k4 + k5 + k2) x.f4 = _ from h4', Option.bind_some, show tree_Copy.f (k3 + k4 + k5 + k2) x.f5 = _ from h5', Option.bind_some, if_pos (by omega), hx, hw]; rw [show pre ++ [x] ++ ys = pre ++ x :: ys from by simp] at h2'
    exact h2'
end
theorem tC_ok (l : List S41) (h : cntB l ≤ 1000000) : ∃ k, tree_Copy.f k l = some l := by
  obtain ⟨k, hk⟩ := tCL_ok l [] h (z_162); rw [List.nil_append] at hk; exact ⟨k + 1, hk⟩
theorem tcopy_L (l : List S41) (A : Option Addr) (c : Nat) (w : World) (hC : Kd.C k41 w A l.length l) (hc : l.length ≤ c) (h : cntB l ≤ 1000000) :
    Calls Try.prog 31 #[.slice A l.length c] w fun e w' => ∃ v : Value, e = .returned v ∧ Kd.R k41 41 w' w.heap.size (fun _ => True) v l ∧ Below w.heap.size w w' := by
  obtain ⟨k, hk⟩ := tC_ok l h; exact tree_Copy.calls k A c l l w hC hc hk
end Go.Proofs.Ytobkdmmnbnpemaa.K
