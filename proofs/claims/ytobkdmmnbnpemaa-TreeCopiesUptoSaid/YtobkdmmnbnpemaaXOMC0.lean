/- Copies in memory of their own, and what is turned in them. -/
import Derived.Test.YtobkdmmnbnpemaaXOPR7
namespace Go.Proofs.Ytobkdmmnbnpemaa.K
open Go.RowKit Go.Proofs.YtobkdmmnbnpemaaW.PrintWords Go.Proofs.YtobkdmmnbnpemaaW.PrintLast Go.Proofs.YtobkdmmnbnpemaaW.PrintMore
set_option linter.unusedVariables false
set_option linter.unusedSimpArgs false
def kin (v u : Value) : Prop := u = v ∨ (∃ a b, v = .int .i64 a ∧ u = .int .i64 b) ∨ (∃ s t, v = .string s ∧ u = .string t)
theorem kin_slice {A : Option Addr} {n c : Nat} {u : Value} (h : kin (.slice A n c) u) : u = .slice A n c := by
  rcases h with h | ⟨a, b, h, _⟩ | ⟨s, t, h, _⟩
  · exact h
  · cases h
  · cases h
theorem kin_int (a b : Int) : kin (.int .i64 a) (.int .i64 b) := .inr (.inl ⟨a, b, rfl, rfl⟩)
theorem kin_str (s t : ByteArray) : kin (.string s) (.string t) := .inr (.inr ⟨s, t, rfl, rfl⟩)
structure Mut (b0 b1 : Nat) (w W : World) : Prop where
  bw : Below b0 w W
  up : ∀ k, b1 ≤ k → W.heap[k]? = w.heap[k]?
  ce : ∀ p v, w.cell? p = some v → ∃ u, W.cell? p = some u ∧ kin v u
  fr : ∀ p, W.frozen? p = w.frozen? p
theorem Mut.refl (b0 b1 : Nat) (w : World) : Mut b0 b1 w w := ⟨Below.refl _ _, fun _ _ => rfl, fun p v h => ⟨v, h, .inl rfl⟩, fun _ => rfl⟩
theorem Mut.set_ {b0 b1 : Nat} {w W : World} (h : Mut b0 b1 w W) {p : Addr} {v u : Value} (hb : b0 ≤ p.block) (hp : p.block < b1) (hv : w.cell? p = some v) (hk : kin v u) : Mut b0 b1 w (W.setCell p u) := by
  obtain ⟨u0, hu0, _⟩ := h.ce p v hv
  refine ⟨Below.setCell h.bw hb u, fun k hk' => ?_, fun q v' hq => ?_, fun q => ?_⟩
  · rw [Below.heap_setCell W p u k (by omega)]; exact h.up k hk'
  · by_cases e : p = q
    · subst e
      rw [hv] at hq
      injection hq with hq
      subst hq
      exact ⟨u, World.cell?_setCell_same _ _ _ hu0, hk⟩
    · rw [World.cell?_setCell_other _ _ _ _ e]
      exact h.ce q v' hq
  · rw [World.frozen?_setCell]; exact h.fr q
theorem Mut.cell {b0 b1 : Nat} {w W : World} (h : Mut b0 b1 w W) {p : Addr} {v : Value} (hv : w.cell? p = some v) : (W.cell? p).isSome = true := by
  obtain ⟨u, hu, _⟩ := h.ce p v hv
  rw [hu]; rfl
theorem Mut.slice {b0 b1 : Nat} {w W : World} (h : Mut b0 b1 w W) {p : Addr} {A : Option Addr} {n c : Nat} (hv : w.cell? p = some (.slice A n c)) : W.cell? p = some (.slice A n c) := by
  obtain ⟨u, hu, hk⟩ := h.ce p _ hv
  rw [hu, kin_slice hk]
theorem Mut.int {b0 b1 : Nat} {w W : World} (h : Mut b0 b1 w W) {p : Addr} {a : Int} (hv : w.cell? p = some (.int .i64 a)) : ∃ u, W.cell? p = some u := by
  obtain ⟨u, hu, _⟩ := h.ce p _ hv
  exact ⟨u, hu⟩
theorem below_weak {b0 b1 : Nat} {w W : World} (h : Below b1 w W) (hb : b0 ≤ b1) : Below b0 w W := ⟨h.os, h.tape, h.output, h.size, fun k hk => h.block k (Nat.lt_of_lt_of_le hk hb)⟩
theorem R_C {α : Type} {d : Kd α} {e base : Nat} {ok : Nat → Prop} {w : World} {v : Value} {xs : List α} (h : d.R e w base ok v xs) : ∃ A c, v = .slice A xs.length c ∧ xs.length ≤ c ∧ Kd.C d w A xs.length xs := by
  obtain ⟨A, c, h1, h2, h3⟩ := OwnRow.reads h.2
  exact ⟨A, c, h1, h2, ReadsRow.imp_ h3 (Below.refl _ _) (fun _ _ hp => d.K_of_M hp)⟩
theorem drop_get {α : Type} (l : List α) (n k i : Nat) (hi : i < k) : ((l.drop n).take k)[i]? = l[n + i]? := by
  rw [List.getElem?_take, if_pos hi, List.getElem?_drop]
theorem own_stmt {w : World} {base : Nat} {ok : Nat → Prop} {v : Value} {l : List S41} (h : k41.R 41 w base ok v l) (j : Nat) (hj : j < l.length) :
    ∃ (g cap : Nat) (x : S41) (v3 v4 v5 : Value), v = .slice (some ⟨g, 0, none⟩) l.length cap ∧ ok g ∧ base ≤ g ∧ (w.cell? ⟨g, j * 6, none⟩ = some (.int .i64 x.f0) ∧ w.cell? ⟨g, j * 6 + 1, none⟩ = some (.string x.f1) ∧ w.cell? ⟨g, j * 6 + 2, none⟩ = some (.int .i64 x.f2) ∧ w.cell? ⟨g, j * 6 + 3, none⟩ = some v3 ∧ w.cell? ⟨g, j * 6 + 4, none⟩ = some v4 ∧ w.cell? ⟨g, j * 6 + 5, none⟩ = some v5) ∧ (∀ i, w.frozen? ⟨g, i, none⟩ = false) ∧
      k38.R 38 w base ok v3 x.f3 ∧ k41.R 41 w base ok v4 x.f4 ∧ k41.R 41 w base ok v5 x.f5 := by
  obtain ⟨h0, inner, ho, hr⟩ := h
  have ho : w.ownsRow base 41 6 v l.length inner := ho
  have hr : Reps (k41.M w base (fun k => ok k ∧ some k ≠ v.ownBlock)) 6 l inner := hr
  obtain ⟨g, cap, hv, hb, hlt⟩ := ho.form (by omega)
  have hM := hr.2 j l[j] (List.getElem?_eq_getElem hj)
  obtain ⟨v3, v4, v5, e, g3, g4, g5⟩ := k41_openM hM
  subst hv
  have hc : ∀ i, i < 6 → w.cell? ⟨g, j * 6 + i, none⟩ = ([.int .i64 l[j].f0, .string l[j].f1, .int .i64 l[j].f2, v3, v4, v5] : List Value)[i]? := fun i hi => by
    rw [ho.cellAt (j * 6 + i) (by omega), ← e]
    exact (drop_get inner (j * 6) 6 i hi).symm
  exact ⟨g, cap, l[j], v3, v4, v5, rfl, h0 g rfl, hb, ⟨hc 0 (by omega), hc 1 (by omega), hc 2 (by omega), hc 3 (by omega), hc 4 (by omega), hc 5 (by omega)⟩, fun i => ho.frozenAt i,
    Kd.R_mono g3 (fun _ hk => hk.1), Kd.R_mono g4 (fun _ hk => hk.1), Kd.R_mono g5 (fun _ hk => hk.1)⟩
theorem own_expr {w : World} {base : Nat} {ok : Nat → Prop} {v : Value} {l : List S38} (h : k38.R 38 w base ok v l) (hl : 0 < l.length) :
    ∃ (g cap : Nat) (a : Int), v = .slice (some ⟨g, 0, none⟩) l.length cap ∧ ok g ∧ base ≤ g ∧ w.cell? ⟨g, 0, none⟩ = some (.int .i64 a) ∧ w.frozen? ⟨g, 0, none⟩ = false := by
  obtain ⟨h0, inner, ho, hr⟩ := h
  have ho : w.ownsRow base 38 5 v l.length inner := ho
  have hr : Reps (k38.M w base (fun k => ok k ∧ some k ≠ v.ownBlock)) 5 l inner := hr
  obtain ⟨g, cap, hv, hb, hlt⟩ := ho.form hl
  have hM := hr.2 0 l[0] (List.getElem?_eq_getElem hl)
  obtain ⟨v4, e, g4⟩ := k38_openM hM
  subst hv
  have hc : w.cell? ⟨g, 0, none⟩ = some (.int .i64 l[0].f0) := by
    rw [ho.cellAt 0 (by omega)]
    have := drop_get inner (0 * 5) 5 0 (by omega)
    rw [e] at this
    simpa using this.symm
  exact ⟨g, cap, l[0].f0, rfl, h0 g rfl, hb, hc, ho.frozenAt _⟩
end Go.Proofs.Ytobkdmmnbnpemaa.K
