/- Trees that the parser makes: rows of one's own; the parts of a node. -/
import Derived.Test.YtobkdmmnbnpemaaXJP1
namespace Go.Proofs.Ytobkdmmnbnpemaa.K
open Go.RowKit Go.Proofs.YtobkdmmnbnpemaaW.PrintWords Go.Proofs.YtobkdmmnbnpemaaW.PrintLast Go.Proofs.YtobkdmmnbnpemaaW.PrintMore
attribute [local go_sem] max2_int min2_int max_two min_two max_three min_three max_four min_four
set_option linter.unusedVariables false
set_option linter.unusedSimpArgs false
theorem C_own {α : Type} {d : Kd α} {W : World} {base e n : Nat} {v : Value} {xs : List α} {cs : List Value} (h : W.ownsRow base e d.sz v n cs) (hr : Reps (d.K W) d.sz xs cs) (hn : xs.length = n) (hs : 0 < d.sz) :
    ∃ A c, v = .slice A n c ∧ d.C W A n xs ∧ n ≤ c := by
  obtain ⟨hl, h⟩ := h; subst hn; rcases h with ⟨rfl, h0⟩ | ⟨b, cap, cur, rfl, hb, hh, hc, hm, hz, ht⟩
  · have : xs = [] := List.eq_nil_of_length_eq_zero h0
    subst this; exact ⟨none, 0, rfl, ⟨rfl, by simp, fun h => absurd h (by simp)⟩, Nat.le_refl _⟩
  · refine ⟨some ⟨b, 0, none⟩, cap, rfl, ⟨rfl, by unfold maxLen at hm; omega, fun _ => ⟨⟨b, 0, none⟩, rfl, fun j p hj => ⟨_, ?_, hr.2 j p hj, fun i u hi => ?_⟩⟩⟩, hc⟩
    · have hlt : j < xs.length := (List.getElem?_eq_some_iff.1 hj).1
      have h1 : j * d.sz + d.sz ≤ cs.length := by rw [hr.1, ← Nat.succ_mul]; exact Nat.mul_le_mul_right _ hlt
      rw [List.length_take, List.length_drop]; omega
    · have hp : (⟨b, 0, none⟩ : Addr).add (j * d.sz + i) = ⟨b, 0 + (j * d.sz + i), none⟩ := by unfold Addr.add; split <;> simp_all
      have hlt : j < xs.length := (List.getElem?_eq_some_iff.1 hj).1; rw [hp, Nat.zero_add, blk_cell hh]; have hi2 : i < d.sz := by
        rcases Nat.lt_or_ge i d.sz with q | q
        · exact q
        · rw [List.getElem?_eq_none (by rw [List.length_take]; omega)] at hi; simp at hi
      have hk : j * d.sz + i < xs.length * d.sz := by
        have : (j + 1) * d.sz ≤ xs.length * d.sz := Nat.mul_le_mul_right _ hlt; rw [Nat.succ_mul] at this
        omega
      rw [List.getElem?_take_of_lt hi2, List.getElem?_drop, ← ht, List.getElem?_take_of_lt hk] at hi; rw [← hi, Array.getElem?_toList]
theorem own_step {W W1 : World} {base e sz n : Nat} {v : Value} {cs : List Value} (h : W.ownsRow base e sz v n cs) (hb : ∀ k, v.ownBlock = some k → W1.heap[k]? = W.heap[k]?) : W1.ownsRow base e sz v n cs := by
  obtain ⟨hl, h⟩ := h; refine ⟨hl, ?_⟩; rcases h with h | ⟨b, cap, cur, rfl, h1, hh, h2⟩
  · exact .inl h
  · exact .inr ⟨b, cap, cur, rfl, h1, (hb b rfl).trans hh, h2⟩
theorem own_lt {W : World} {base e sz n : Nat} {v : Value} {cs : List Value} (h : W.ownsRow base e sz v n cs) (k : Nat) (hk : v.ownBlock = some k) : k < W.heap.size := by
  obtain ⟨hl, h⟩ := h; rcases h with ⟨rfl, _⟩ | ⟨b, cap, cur, rfl, h1, hh, h2⟩
  · simp [Value.ownBlock] at hk
  · simp only [Value.ownBlock, Option.some.injEq] at hk
    subst hk; exact blk_lt hh
theorem F_own {α : Type} {d : Kd α} {W : World} {base e n : Nat} {ok : Nat → Prop} {v : Value} {xs : List α} {cs : List Value} (h : W.ownsRow base e d.sz v n cs) (hg : ∀ k, v.ownBlock = some k → ok k) (hr : Foot (fun W => Reps (d.K W) d.sz xs cs) W ok) (hn : xs.length = n) (hs : 0 < d.sz) :
    ∃ A c, v = .slice A n c ∧ Kd.F d W ok A n xs ∧ n ≤ c := by
  obtain ⟨A, c, e1, _, hc⟩ := C_own h (hr W (fun _ _ _ => rfl)) hn hs; refine ⟨A, c, e1, fun W' hW => ?_, hc⟩; have h' := own_step (W1 := W') h (fun k hk => hW k (hg k hk) (own_lt h k hk)); obtain ⟨A', c', e2, hC, _⟩ := C_own h' (hr W' hW) hn hs; rw [e1] at e2; injection e2 with e3 _ _; rw [e3]; exact hC
structure PV where
  x : S38
  A : Option Addr
  c : Nat
  d : Int
def PV.ecs (p : PV) : List Value := [.int .i64 p.x.f0, .int .i64 p.x.f1, .string p.x.f2, .int .i64 p.x.f3, .slice p.A p.x.f4.length p.c]
def PV.cs (p : PV) : List Value := p.ecs ++ [.int .i64 p.d]
def PV.val (p : PV) : Value := .agg #[.int .i64 p.x.f0, .int .i64 p.x.f1, .string p.x.f2, .int .i64 p.x.f3, .slice p.A p.x.f4.length p.c, .int .i64 p.d]
def PV.ok (W : World) (ok : Nat → Prop) (p : PV) : Prop := Kd.F k38 W ok p.A p.x.f4.length p.x.f4 ∧ p.x.f4.length ≤ p.c
theorem PV.ok.keep {W W1 : World} {g : Nat} {ok : Nat → Prop} {p : PV} (h : p.ok W ok) (hk : KeepBut W W1 g none) (hg : ∀ k, ok k → k ≠ g) : p.ok W1 ok := ⟨Kd.F_keep h.1 hk hg, h.2⟩
theorem PV.ok.step {W W1 : World} {ok : Nat → Prop} {p : PV} (h : p.ok W ok) (hm : ∀ k, ok k → k < W.heap.size → W1.heap[k]? = W.heap[k]?) : p.ok W1 ok := ⟨Kd.F_step h.1 hm, h.2⟩
theorem PV.ok.mono {W : World} {ok ok' : Nat → Prop} {p : PV} (h : p.ok W ok) (hm : ∀ k, ok k → ok' k) : p.ok W ok' := ⟨Kd.F_mono h.1 hm, h.2⟩
theorem PV.ok.bound {W : World} {ok : Nat → Prop} {p : PV} (h : p.ok W ok) : p.ok W (fun k => ok k ∧ k < W.heap.size) := ⟨Kd.F_bound h.1, h.2⟩
theorem reps_parts {W : World} {ok : Nat → Prop} : ∀ ps : List PV, (∀ p ∈ ps, p.ok W ok) → Foot (fun W => Reps (k38.K W) 5 (ps.map (·.x)) (ps.flatMap PV.ecs)) W ok
  | [], _ => fun W' _ => Reps.none _ _
  | p :: ps, h => fun W' hW => by
    have hp := h p (List.mem_cons_self ..); have ih := reps_parts ps (fun q hq => h q (List.mem_cons_of_mem _ hq)) W' hW; exact Reps.c5 (k38_mk W' p.x hp.2 (hp.1 W' hW)) ih
end Go.Proofs.Ytobkdmmnbnpemaa.K
