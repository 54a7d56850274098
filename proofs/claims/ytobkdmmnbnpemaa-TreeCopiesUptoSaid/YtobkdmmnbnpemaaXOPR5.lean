/- The reference's Nodes, on trees. Plain. -/
import Derived.Test.YtobkdmmnbnpemaaXOPR3
import Derived.Test.YtobkdmmnbnpemaaXOPR4
namespace Go.Proofs.Ytobkdmmnbnpemaa.K
open Go.RowKit Go.Proofs.YtobkdmmnbnpemaaW.PrintWords Go.Proofs.YtobkdmmnbnpemaaW.PrintLast Go.Proofs.YtobkdmmnbnpemaaW.PrintMore
set_option linter.unusedVariables false
set_option linter.unusedSimpArgs false
theorem rd41_at (pre : List S41) (x : S41) (ys : List S41) : rd_T41 (pre ++ x :: ys) (pre.length : Int) = x := by
  unfold rd_T41
  rw [Int.toNat_natCast, List.getD_eq_getElem?_getD, List.getElem?_append_right (Nat.le_refl _), Nat.sub_self]
  rfl
theorem w64 (x : Int) (h0 : 0 ≤ x) (h1 : x ≤ 100000000) : wrap64 x = x := by unfold wrap64; omega
theorem nodes_args (L : List S41) (i : Nat) (s : S41) (hs : rd_T41 L (i : Int) = s) (hi : i < L.length) (r : Int) (hl : s.f3.length ≤ 1000000) :
    ∀ (zs pre : List S38) (n : Nat), s.f3 = pre ++ zs → n + cntL zs ≤ 2000000 → cntL zs ≤ 1000000 → (∃ k, outriderref04_Nodes.l1 k L ((n + cntL zs : Nat) : Int) (i : Int) (s.f3.length : Int) = some r) → ∃ k, outriderref04_Nodes.l1 k L (n : Int) (i : Int) (pre.length : Int) = some r
  | [], pre, n, e, h, h2, hk => by
    rw [List.append_nil] at e
    rw [← e]
    exact hk
  | z :: zs, pre, n, e, h, h2, hk => by
    simp only [cntL] at h h2 hk
    obtain ⟨k2, hk2⟩ := nodes_args L i s hs hi r hl zs (pre ++ [z]) (n + cntE z) (by rw [e]; simp) (by omega) (by omega) (by rw [Nat.add_assoc]; exact hk)
    obtain ⟨k1, hk1⟩ := count_ok z (by omega)
    have h1' := at_rounds (g := fun k => outriderref04_Count.f k z.f0 z.f1 z.f2 z.f3 z.f4) (fun k => (outriderref04_Count.mono_l k).1 _ _ _ _ _) (show k1 ≤ k1 + k2 by omega) hk1
    have h2' := at_rounds (g := fun k => outriderref04_Nodes.l1 k L ((n + cntE z : Nat) : Int) (i : Int) ((pre ++ [z]).length : Int)) (fun k => (outriderref04_Nodes.mono_l k).2.2 _ _ _ _) (show k2 ≤ k1 + k2 by omega) hk2
    refine ⟨k1 + k2 + 1, ?_⟩
    have hlen : (pre ++ z :: zs).length = pre.length + (zs.length + 1) := by simp
    have hw : wrap64 ((pre.length : Int) + 1) = ((pre ++ [z]).length : Int) := by
      rw [e, hlen] at hl
      simp only [List.length_append, List.length_singleton]
      unfold wrap64
      omega
    have hw2 : wrap64 ((n : Int) + ((cntE z : Nat) : Int)) = ((n + cntE z : Nat) : Int) := by unfold wrap64; omega
    rw [outriderref04_Nodes.l1, if_pos (by omega), if_pos (by omega), hs, e, if_pos (by rw [hlen]; omega), if_pos (by omega), rd38_at, show outriderref04_Count.f (k1 + k2) z.f0 z.f1 z.f2 z.f3 z.f4 = _ from h1', Option.bind_some, hw, hw2]
    exact h2'
mutual
theorem nodesS_ok : ∀ (x : S41), cntS x ≤ 1000000 → (∃ k, outriderref04_Nodes.f k x.f4 = some ((cntB x.f4 : Nat) : Int)) ∧ ∃ k, outriderref04_Nodes.f k x.f5 = some ((cntB x.f5 : Nat) : Int)
  | ⟨a, b, c, e, l, m⟩, h => by
    simp only [cntS] at h
    refine ⟨?_, ?_⟩
    · obtain ⟨k, hk⟩ := nodesL_ok l [] 0 (by omega) (by have := len_cntB l; simp only [List.nil_append]; omega)
      rw [List.nil_append, Nat.zero_add, Nat.zero_add] at hk
      exact ⟨k + 1, hk⟩
    · obtain ⟨k, hk⟩ := nodesL_ok m [] 0 (by omega) (by have := len_cntB m; simp only [List.nil_append]; omega)
      rw [List.nil_append, Nat.zero_add, Nat.zero_add] at hk
      exact ⟨k + 1, hk⟩
theorem nodesL_ok : ∀ (ys pre : List S41) (n : Nat), n + cntB ys ≤ 1000000 → (pre ++ ys).length ≤ 1000000 → ∃ k, outriderref04_Nodes.l0 k (pre ++ ys) ((n + ys.length : Nat) : Int) (pre.length : Int) = some ((n + cntB ys : Nat) : Int)
  | [], pre, n, h, hl => by
    refine ⟨1, ?_⟩
    rw [outriderref04_Nodes.l0, List.append_nil, if_neg (by omega)]
    rfl
  | x :: ys, pre, n, h, hl => by
    simp only [cntB] at h
    have hy := len_cntB ys
    obtain ⟨⟨k4, h4⟩, k5, h5⟩ := nodesS_ok x (by omega)
    have hl2 : (pre ++ [x] ++ ys).length ≤ 1000000 := by simpa using hl
    obtain ⟨k6, h6⟩ := nodesL_ok ys (pre ++ [x]) (n + (1 + cntS x)) (by omega) hl2
    rw [show pre ++ [x] ++ ys = pre ++ x :: ys from by simp] at h6
    have h4' := at_rounds (g := fun k => outriderref04_Nodes.f k x.f4) (fun k => (outriderref04_Nodes.mono_l k).1 _) (show k4 ≤ k4 + k5 + k6 by omega) h4
    have h5' := at_rounds (g := fun k => outriderref04_Nodes.f k x.f5) (fun k => (outriderref04_Nodes.mono_l k).1 _) (show k5 ≤ k4 + k5 + k6 by omega) h5
    have h6' := at_rounds (g := fun k => outriderref04_Nodes.l0 k (pre ++ x :: ys) ((n + (1 + cntS x) + ys.length : Nat) : Int) ((pre ++ [x]).length : Int)) (fun k => (outriderref04_Nodes.mono_l k).2.1 _ _ _) (show k6 ≤ k4 + k5 + k6 by omega) h6
    have hlen : (pre ++ x :: ys).length = pre.length + (ys.length + 1) := by simp
    have hr := rd41_at pre x ys
    have hS := cntS_eq x
    have hx3 : x.f3.length ≤ cntL x.f3 := len_cntL _
    have hend : outriderref04_Nodes.l1 (k4 + k5 + k6 + 1) (pre ++ x :: ys) ((n + (ys.length + 1) + cntL x.f3 : Nat) : Int) (pre.length : Int) (x.f3.length : Int) = some ((n + cntB (x :: ys) : Nat) : Int) := by
      have hw : wrap64 ((pre.length : Int) + 1) = ((pre ++ [x]).length : Int) := by
        rw [hlen] at hl
        simp only [List.length_append, List.length_singleton]
        unfold wrap64
        omega
      have hw2 : wrap64 (((n + (ys.length + 1) + cntL x.f3 : Nat) : Int) + wrap64 (((cntB x.f4 : Nat) : Int) + ((cntB x.f5 : Nat) : Int))) = ((n + (1 + cntS x) + ys.length : Nat) : Int) := by
        rw [w64 (((cntB x.f4 : Nat) : Int) + ((cntB x.f5 : Nat) : Int)) (by omega) (by omega), w64 _ (by omega) (by omega)]
        omega
      rw [outriderref04_Nodes.l1, if_pos (by omega), if_pos (by rw [hlen]; omega), hr, if_neg (by omega), show outriderref04_Nodes.f (k4 + k5 + k6) x.f4 = _ from h4', Option.bind_some, show outriderref04_Nodes.f (k4 + k5 + k6) x.f5 = _ from h5', Option.bind_some, hw, hw2]
      rw [show n + cntB (x :: ys) = n + (1 + cntS x) + cntB ys from by simp only [cntB]; omega]
      exact h6'
    obtain ⟨k, hk⟩ := nodes_args (pre ++ x :: ys) pre.length x hr (by rw [hlen]; omega) _ (by omega) x.f3 [] (n + (ys.length + 1)) rfl (by omega) (by omega) ⟨_, hend⟩
    refine ⟨k + 1, ?_⟩
    rw [outriderref04_Nodes.l0, if_pos (by rw [hlen]; omega)]
    exact hk
end
theorem nodes_ok (l : List S41) (h : cntB l ≤ 1000000) : ∃ k, outriderref04_Nodes.f k l = some ((cntB l : Nat) : Int) := by
  obtain ⟨k, hk⟩ := nodesL_ok l [] 0 (by omega) (by have := len_cntB l; simp only [List.nil_append]; omega)
  rw [List.nil_append, Nat.zero_add, Nat.zero_add] at hk
  exact ⟨k + 1, hk⟩
end Go.Proofs.Ytobkdmmnbnpemaa.K
