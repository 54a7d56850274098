/- The program's Nodes, on trees. Plain. -/
import Derived.Test.YtobkdmmnbnpemaaXJPRB
import Derived.Test.YtobkdmmnbnpemaaXJN1
namespace Go.Proofs.Ytobkdmmnbnpemaa.K
open Go.RowKit Go.Proofs.YtobkdmmnbnpemaaW.PrintWords Go.Proofs.YtobkdmmnbnpemaaW.PrintLast Go.Proofs.YtobkdmmnbnpemaaW.PrintMore
set_option linter.unusedVariables false
set_option linter.unusedSimpArgs false
mutual
theorem tcount_ok : ∀ (e : S38), cntE e ≤ 1000000 → ∃ k, tree_nodes.f k e.f0 e.f1 e.f2 e.f3 e.f4 = some ((cntE e : Nat) : Int)
  | ⟨a, b, c, f, l⟩, h => by
    simp only [cntE] at h; obtain ⟨k, hk⟩ := tcountL_ok l [] 1 (by omega) (z_161); rw [List.nil_append] at hk; refine ⟨k + 1, ?_⟩; show tree_nodes.l0 k 1 l (l.length : Int) 0 = _; exact hk
theorem tcountL_ok : ∀ (ys : List S38) (pre : List S38) (n : Nat), n + cntL ys ≤ 1000000 → (pre ++ ys).length ≤ 1000000 → ∃ k, tree_nodes.l0 k (n : Int) (pre ++ ys) ((pre ++ ys).length : Int) (pre.length : Int) = some ((n + cntL ys : Nat) : Int)
  | [], pre, n, h, hl => by
    refine ⟨1, ?_⟩
    rw [tree_nodes.l0, List.append_nil, if_neg (by omega)]
    rfl
  | x :: ys, pre, n, h, hl => by
    simp only [cntL] at h; obtain ⟨k1, h1⟩ := tcount_ok x (by omega); have hl2 : (pre ++ [x] ++ ys).length ≤ 1000000 := by simpa using hl
    obtain ⟨k2, h2⟩ := tcountL_ok ys (pre ++ [x]) (n + cntE x) (by omega) hl2; have h1' := at_rounds (g := fun k => tree_nodes.f k x.f0 x.f1 x.f2 x.f3 x.f4) (fun k => (tree_nodes.mono_l k).1 _ _ _ _ _) (show k1 ≤ k1 + k2 by omega) h1
    have h2' := at_rounds (g := fun k => tree_nodes.l0 k ((n + cntE x : Nat) : Int) (pre ++ [x] ++ ys) ((pre ++ [x] ++ ys).length : Int) ((pre ++ [x]).length : Int)) (fun k => (tree_nodes.mono_l k).2 _ _ _ _) (show k2 ≤ k1 + k2 by omega) h2
    refine ⟨k1 + k2 + 1, ?_⟩
    have hlen : (pre ++ x :: ys).length = pre.length + (ys.length + 1) := by simp
    have hw : wrap64 ((pre.length : Int) + 1) = ((pre ++ [x]).length : Int) := by
      rw [hlen] at hl; simp only [List.length_append, List.length_singleton]; unfold wrap64
      omega
    have hw2 : wrap64 ((n : Int) + ((cntE x : Nat) : Int)) = ((n + cntE x : Nat) : Int) := by unfold wrap64; omega
    rw [tree_nodes.l0, if_pos (by rw [hlen]; omega), if_pos (by omega), if_pos (by rw [hlen]; omega), rd38_at, show tree_nodes.f (k1 + k2) x.f0 x.f1 x.f2 x.f3 x.f4 = _ from h1', Option.bind_some, hw, hw2]; rw [show pre ++ [x] ++ ys = pre ++ x :: ys from by simp] at h2'
    rw [cntL, ← Nat.add_assoc]; exact h2'
end
theorem tnodes_args (L : List S41) (i : Nat) (fs : List S38) (r : Int) (hl : fs.length ≤ 1000000) :
    ∀ (zs pre : List S38) (n : Nat), fs = pre ++ zs → n + cntL zs ≤ 2000000 → cntL zs ≤ 1000000 → (∃ k, tree_Nodes.l0 k ((n + cntL zs : Nat) : Int) L (L.length : Int) ((i + 1 : Nat) : Int) = some r) → i < 10000000 → ∃ k, tree_Nodes.l1 k (n : Int) L (L.length : Int) (i : Int) fs (fs.length : Int) (pre.length : Int) = some r
  | [], pre, n, e, h, h2, hk, hi => by
    rw [List.append_nil] at e; obtain ⟨k, hk⟩ := hk; refine ⟨k + 1, ?_⟩; have hw : wrap64 ((i : Int) + 1) = ((i + 1 : Nat) : Int) := by unfold wrap64; omega
    rw [tree_Nodes.l1, e, if_neg (by omega), hw]; exact hk
  | z :: zs, pre, n, e, h, h2, hk, hi => by
    simp only [cntL] at h h2 hk; obtain ⟨k2, hk2⟩ := tnodes_args L i fs r hl zs (pre ++ [z]) (n + cntE z) (by rw [e]; simp) (by omega) (by omega) (by rw [Nat.add_assoc]; exact hk) hi; obtain ⟨k1, hk1⟩ := tcount_ok z (by omega); have h1' := at_rounds (g := fun k => tree_nodes.f k z.f0 z.f1 z.f2 z.f3 z.f4) (fun k => (tree_nodes.mono_l k).1 _ _ _ _ _) (show k1 ≤ k1 + k2 by omega) hk1
    have h2' := at_rounds (g := fun k => tree_Nodes.l1 k ((n + cntE z : Nat) : Int) L (L.length : Int) (i : Int) fs (fs.length : Int) ((pre ++ [z]).length : Int)) (fun k => (tree_Nodes.mono_l k).2.2 _ _ _ _ _ _ _) (show k2 ≤ k1 + k2 by omega) hk2
    refine ⟨k1 + k2 + 1, ?_⟩
    have hlen : (pre ++ z :: zs).length = pre.length + (zs.length + 1) := by simp
    have hw : wrap64 ((pre.length : Int) + 1) = ((pre ++ [z]).length : Int) := by
      rw [e, hlen] at hl; simp only [List.length_append, List.length_singleton]; unfold wrap64
      omega
    have hw2 : wrap64 ((n : Int) + ((cntE z : Nat) : Int)) = ((n + cntE z : Nat) : Int) := by unfold wrap64; omega
    rw [tree_Nodes.l1, if_pos (by rw [e, hlen]; omega), if_pos (by omega), if_pos (by rw [e, hlen]; omega)]; rw [show rd_T38 fs (pre.length : Int) = z from by rw [e, rd38_at], show tree_nodes.f (k1 + k2) z.f0 z.f1 z.f2 z.f3 z.f4 = _ from h1', Option.bind_some, hw, hw2]
    exact h2'
mutual
theorem tnodesS_ok : ∀ (x : S41), cntS x ≤ 1000000 → (∃ k, tree_Nodes.f k x.f4 = some ((cntB x.f4 : Nat) : Int)) ∧ ∃ k, tree_Nodes.f k x.f5 = some ((cntB x.f5 : Nat) : Int)
  | ⟨a, b, c, e, l, m⟩, h => by
    simp only [cntS] at h; refine ⟨?_, ?_⟩
    · obtain ⟨k, hk⟩ := tnodesL_ok l [] 0 (by omega) (z_162)
      rw [List.nil_append, Nat.zero_add] at hk; exact ⟨k + 1, hk⟩
    · obtain ⟨k, hk⟩ := tnodesL_ok m [] 0 (by omega) (by have := len_cntB m; simp only [List.nil_append]; omega)
      rw [List.nil_append, Nat.zero_add] at hk; exact ⟨k + 1, hk⟩
theorem tnodesL_ok : ∀ (ys pre : List S41) (n : Nat), n + cntB ys ≤ 1000000 → (pre ++ ys).length ≤ 1000000 → ∃ k, tree_Nodes.l0 k (n : Int) (pre ++ ys) ((pre ++ ys).length : Int) (pre.length : Int) = some ((n + cntB ys : Nat) : Int)
  | [], pre, n, h, hl => by
    refine ⟨1, ?_⟩
    rw [tree_Nodes.l0, List.append_nil, if_neg (by omega)]
    rfl
  | x :: ys, pre, n, h, hl => by
    simp only [cntB] at h; obtain ⟨⟨k4, h4⟩, k5, h5⟩ := tnodesS_ok x (by omega); have hl2 : (pre ++ [x] ++ ys).length ≤ 1000000 := by simpa using hl
    obtain ⟨k6, h6⟩ := tnodesL_ok ys (pre ++ [x]) (n + (1 + cntS x)) (by omega) hl2; rw [show pre ++ [x] ++ ys = pre ++ x :: ys from by simp] at h6
    have hlen : (pre ++ x :: ys).length = pre.length + (ys.length + 1) := by simp
    have hS := cntS_eq x; have hx3 : x.f3.length ≤ cntL x.f3 := len_cntL _; obtain ⟨k7, h7⟩ := tnodes_args (pre ++ x :: ys) pre.length x.f3 (((n + cntB (x :: ys) : Nat) : Int)) (by omega) x.f3 [] (n + (1 + cntB x.f4 + cntB x.f5)) rfl (by omega) (by omega)
      ⟨k6, by rw [show n + (1 + cntB x.f4 + cntB x.f5) + cntL x.f3 = n + (1 + cntS x) from by omega, show pre.length + 1 = (pre ++ [x]).length from by simp, show n + cntB (x :: ys) = n + (1 + cntS x) + cntB ys from by simp only [cntB]; omega]; exact h6⟩ (by omega)
    have h4' := at_rounds (g := fun k => tree_Nodes.f k x.f4) (fun k => (tree_Nodes.mono_l k).1 _) (show k4 ≤ k4 + k5 + k7 by omega) h4
    have h5' := at_rounds (g := fun k => tree_Nodes.f k x.f5) (fun k => (tree_Nodes.mono_l k).1 _) (show k5 ≤ k4 + k5 + k7 by omega) h5
    have h7' := at_rounds (g := fun k => tree_Nodes.l1 k ((n + (1 + cntB x.f4 + cntB x.f5) : Nat) : Int) (pre ++ x :: ys) ((pre ++ x :: ys).length : Int) (pre.length : Int) x.f3 (x.f3.length : Int) (([] : List S38).length : Int)) (fun k => (tree_Nodes.mono_l k).2.2 _ _ _ _ _ _ _) (show k7 ≤ k4 + k5 + k7 by omega) h7
    refine ⟨k4 + k5 + k7 + 1, ?_⟩
    have hw2 : wrap64 ((n : Int) + wrap64 (wrap64 (1 + ((cntB x.f4 : Nat) : Int)) + ((cntB x.f5 : Nat) : Int))) = ((n + (1 + cntB x.f4 + cntB x.f5) : Nat) : Int) := by
      rw [w64 (1 + ((cntB x.f4 : Nat) : Int)) (by omega) (by omega), w64 (1 + ((cntB x.f4 : Nat) : Int) + ((cntB x.f5 : Nat) : Int)) (by omega) (by omega), w64 _ (by omega) (by omega)]
      omega
    rw [tree_Nodes.l0, if_pos (by rw [hlen]; omega), if_pos (by omega), if_pos (by rw [hlen]; omega), rd41_at, show tree_Nodes.f (k4 + k5 + k7) x.f4 = _ from h4', Option.bind_some, show tree_Nodes.f (k4 + k5 + k7) x.f5 = _ from h5', Option.bind_some, hw2]; exact h7'
end
theorem tnodes_ok (l : List S41) (h : cntB l ≤ 1000000) : ∃ k, tree_Nodes.f k l = some ((cntB l : Nat) : Int) := by
  obtain ⟨k, hk⟩ := tnodesL_ok l [] 0 (by omega) (z_162); rw [List.nil_append, Nat.zero_add] at hk; exact ⟨k + 1, hk⟩
theorem tnodes_L (l : List S41) (A : Option Addr) (c : Nat) (w : World) (hC : Kd.C k41 w A l.length l) (hc : l.length ≤ c) (h : cntB l ≤ 1000000) :
    Calls Try.prog 32 #[.slice A l.length c] w fun r w' => r = .returned (.int .i64 ((cntB l : Nat) : Int)) ∧ Below w.heap.size w w' := by
  obtain ⟨k, hk⟩ := tnodes_ok l h; exact tree_Nodes.calls k A c _ _ w hC hc hk
end Go.Proofs.Ytobkdmmnbnpemaa.K
