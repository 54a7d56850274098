/- ChunkOnce: what the walk carries: the dealer and three rows of the law's own. -/
import Derived.Test.YtnhjneldjfdnfaaD4
import Derived.Test.YtnhjneldjfdnfaaLLeast
namespace Go.Proofs.Ytnhjneldjfdnfaa.K
set_option linter.unusedVariables false
open Go.RowKit Go.Proofs.YtnhjneldjfdnfaaW.PrintWords Go.Proofs.YtnhjneldjfdnfaaW.PrintLast Go.Proofs.YtnhjneldjfdnfaaW.PrintMore

abbrev IRow (w : World) (base g n c : Nat) (xs : List Int) : Prop := Kd.R (Kd.int .i64) 3 w base (fun _ => True) (.slice (some ⟨g, 0, none⟩) n c) xs

theorem irow_step {w w' : World} {base g n c : Nat} {xs : List Int} (h : IRow w base g n c xs) (hm : w'.heap[g]? = w.heap[g]?) : IRow w' base g n c xs :=
  Kd.R_mono (Kd.R_step (Kd.R_tight rfl h) (fun k hk _ => by simp [Value.ownBlock] at hk; subst hk; exact hm)) (fun _ _ => trivial)
theorem irow_lt {w : World} {base g n c : Nat} {xs : List Int} (h : IRow w base g n c xs) : g < w.heap.size ∧ base ≤ g :=
  ⟨Kd.R_lt h g rfl, Kd.R_base h g rfl⟩
theorem irow_ne {w : World} {base g n c : Nat} {xs : List Int} (h : IRow w base g n c xs) {b t : Nat} {cells : Array Value} (hb : w.heap[b]? = some (.cells cells t (0, 0))) (ht : (3 : Nat) ≠ t) : g ≠ b := by
  have := Kd.R_ne h hb ht
  intro e
  subst e
  exact this rfl
theorem dh_step {w w' : World} {base b bt ct : Nat} {d : D} (h : DH w base b bt ct d) (h1 : w'.heap[b]? = w.heap[b]?) (h2 : w'.heap[bt]? = w.heap[bt]?) : DH w' base b bt ct d :=
  ⟨h1.trans h.cells, irow_step h.turns h2, h.ok, h.low, h.lowt⟩

/-- What the walk holds: the dealer (b, bt), the row got (bg), the row last (bl), the row asks (ba), the argument's box (bx). -/
structure OS (w0 w : World) (bx b bt ct bg ng cg bl nl cl ba na ca : Nat) (bc : Array Value) (d : D) (G L As : List Int) : Prop where
  hd : DH w w0.heap.size b bt ct d
  hg : IRow w w0.heap.size bg ng cg G
  hl : IRow w w0.heap.size bl nl cl L
  ha : IRow w w0.heap.size ba na ca As
  hx : w.heap[bx]? = some (.cells bc 25 (0, 0))
  hb : Below w0.heap.size w0 w
  ne : bg ≠ bt ∧ bl ≠ bt ∧ ba ≠ bt ∧ bg ≠ bl ∧ ba ≠ bg ∧ ba ≠ bl
section
variable {w0 w w' : World} {bx b bt ct bg ng cg bl nl cl ba na ca : Nat} {bc : Array Value} {d d' : D} {G L As : List Int}
theorem os_mv (h : OS w0 w bx b bt ct bg ng cg bl nl cl ba na ca bc d G L As) (hm : ∀ k, k < w.heap.size → w'.heap[k]? = w.heap[k]?) (hb : Below w0.heap.size w0 w') : OS w0 w' bx b bt ct bg ng cg bl nl cl ba na ca bc d G L As := by
  obtain ⟨l1, l2, _⟩ := dh_lt h.hd
  exact ⟨dh_step h.hd (hm _ l1) (hm _ l2), irow_step h.hg (hm _ (irow_lt h.hg).1), irow_step h.hl (hm _ (irow_lt h.hl).1), irow_step h.ha (hm _ (irow_lt h.ha).1), (hm _ (blk_lt h.hx)).trans h.hx, hb, h.ne⟩
theorem os_alloc (h : OS w0 w bx b bt ct bg ng cg bl nl cl ba na ca bc d G L As) (o : Obj) : OS w0 (w.alloc o) bx b bt ct bg ng cg bl nl cl ba na ca bc d G L As :=
  os_mv h (fun k hk => Below.heap_alloc w o k hk) (below_alloc h.hb o)
theorem os_drewN (h : OS w0 w bx b bt ct bg ng cg bl nl cl ba na ca bc d G L As) (n : Nat) : OS w0 (w.drewN n) bx b bt ct bg ng cg bl nl cl ba na ca bc d G L As :=
  os_mv h (fun k hk => rfl) (pw_below_drewN h.hb n)
theorem os_drew (h : OS w0 w bx b bt ct bg ng cg bl nl cl ba na ca bc d G L As) : OS w0 w.drew bx b bt ct bg ng cg bl nl cl ba na ca bc d G L As :=
  os_mv h (fun k hk => rfl) (below_drew h.hb)
theorem os_next (h : OS w0 w bx b bt ct bg ng cg bl nl cl ba na ca bc d G L As) (hd : DH w' w0.heap.size b bt ct d') (hf : Fr w w' b bt) : OS w0 w' bx b bt ct bg ng cg bl nl cl ba na ca bc d' G L As := by
  obtain ⟨n1, n2, n3, _⟩ := h.ne
  have mv : ∀ g n c xs, IRow w w0.heap.size g n c xs → g ≠ bt → IRow w' w0.heap.size g n c xs := fun g n c xs hi hn => irow_step hi (hf.block g (irow_lt hi).1 (irow_ne hi h.hd.cells (by decide)) hn)
  exact ⟨hd, mv _ _ _ _ h.hg n1, mv _ _ _ _ h.hl n2, mv _ _ _ _ h.ha n3, blk_fr h.hx h.hd hf (by decide) (by decide), fr_below h.hb hf h.hd.low h.hd.lowt, h.ne⟩
theorem os_setL (h : OS w0 w bx b bt ct bg ng cg bl nl cl ba na ca bc d G L As) (m : Nat) (v : Int) : OS w0 (w.setCell ⟨bl, m, none⟩ (.int .i64 v)) bx b bt ct bg ng cg bl nl cl ba na ca bc d G (L.set m v) As := by
  obtain ⟨n1, n2, n3, n4, n5, n6⟩ := h.ne
  have hp := (Kd.R_putg h.hl (m : Int) v).1
  simp only [Int.toNat_natCast] at hp
  have st : ∀ k, k ≠ bl → (w.setCell ⟨bl, m, none⟩ (.int .i64 v)).heap[k]? = w.heap[k]? := fun k hk => Below.heap_setCell w ⟨bl, m, none⟩ _ k hk
  exact ⟨dh_far h.hd (irow_ne h.hl h.hd.cells (by decide)) n2 _ _, irow_step h.hg (st _ n4), hp, irow_step h.ha (st _ n6), (st _ (fun e => (irow_ne h.hl h.hx (by decide)) e.symm)).trans h.hx, below_set h.hb (irow_lt h.hl).2, h.ne⟩
theorem os_setG (h : OS w0 w bx b bt ct bg ng cg bl nl cl ba na ca bc d G L As) (m : Nat) (v : Int) : OS w0 (w.setCell ⟨bg, m, none⟩ (.int .i64 v)) bx b bt ct bg ng cg bl nl cl ba na ca bc d (G.set m v) L As := by
  obtain ⟨n1, n2, n3, n4, n5, n6⟩ := h.ne
  have hp := (Kd.R_putg h.hg (m : Int) v).1
  simp only [Int.toNat_natCast] at hp
  have st : ∀ k, k ≠ bg → (w.setCell ⟨bg, m, none⟩ (.int .i64 v)).heap[k]? = w.heap[k]? := fun k hk => Below.heap_setCell w ⟨bg, m, none⟩ _ k hk
  exact ⟨dh_far h.hd (irow_ne h.hg h.hd.cells (by decide)) n1 _ _, hp, irow_step h.hl (st _ (fun e => n4 e.symm)), irow_step h.ha (st _ n5), (st _ (fun e => (irow_ne h.hg h.hx (by decide)) e.symm)).trans h.hx, below_set h.hb (irow_lt h.hg).2, h.ne⟩
/-- The same without the row asks. -/
structure OS1 (w0 w : World) (bx b bt ct bg ng cg bl nl cl : Nat) (bc : Array Value) (d : D) (G L : List Int) : Prop where
  hd : DH w w0.heap.size b bt ct d
  hg : IRow w w0.heap.size bg ng cg G
  hl : IRow w w0.heap.size bl nl cl L
  hx : w.heap[bx]? = some (.cells bc 25 (0, 0))
  hb : Below w0.heap.size w0 w
  ne : bg ≠ bt ∧ bl ≠ bt ∧ bg ≠ bl
theorem os1_mv (h : OS1 w0 w bx b bt ct bg ng cg bl nl cl bc d G L) (hm : ∀ k, k < w.heap.size → k = b ∨ k = bt ∨ k = bg ∨ k = bl ∨ k = bx → w'.heap[k]? = w.heap[k]?) (hb : Below w0.heap.size w0 w') : OS1 w0 w' bx b bt ct bg ng cg bl nl cl bc d G L := by
  obtain ⟨l1, l2, _⟩ := dh_lt h.hd
  exact ⟨dh_step h.hd (hm _ l1 (by simp)) (hm _ l2 (by simp)), irow_step h.hg (hm _ (irow_lt h.hg).1 (by simp)), irow_step h.hl (hm _ (irow_lt h.hl).1 (by simp)), (hm _ (blk_lt h.hx) (by simp)).trans h.hx, hb, h.ne⟩
theorem os1_alloc (h : OS1 w0 w bx b bt ct bg ng cg bl nl cl bc d G L) (o : Obj) : OS1 w0 (w.alloc o) bx b bt ct bg ng cg bl nl cl bc d G L :=
  os1_mv h (fun k hk _ => Below.heap_alloc w o k hk) (below_alloc h.hb o)
def away (bt bg bl : Nat) (k : Nat) : Prop := k ≠ bt ∧ k ≠ bg ∧ k ≠ bl
theorem os1_grown {v : Value} {xs : List Int} (h : OS1 w0 w bx b bt ct bg ng cg bl nl cl bc d G L) (ha : Kd.R (Kd.int .i64) 3 w w0.heap.size (away bt bg bl) v xs) (hg : w.grownBy w' v.ownBlock) (hb : Below w0.heap.size w0 w') : OS1 w0 w' bx b bt ct bg ng cg bl nl cl bc d G L := by
  have far : ∀ k, v.ownBlock = some k → away bt bg bl k := ha.1
  refine os1_mv h (fun k hk hor => hg.block k hk (fun e => ?_)) hb
  have hw := far k e.symm
  rcases hor with rfl | rfl | rfl | rfl | rfl
  · exact Kd.R_ne ha h.hd.cells (by decide) e
  · exact hw.1 rfl
  · exact hw.2.1 rfl
  · exact hw.2.2 rfl
  · exact Kd.R_ne ha h.hx (by decide) e
theorem away_new (h : OS1 w0 w bx b bt ct bg ng cg bl nl cl bc d G L) : ∀ k, w.heap.size ≤ k → away bt bg bl k := fun k hk =>
  ⟨by have := (dh_lt h.hd).2.1; omega, by have := (irow_lt h.hg).1; omega, by have := (irow_lt h.hl).1; omega⟩
theorem os_of (h : OS1 w0 w bx b bt ct bg ng cg bl nl cl bc d G L) (ha : Kd.R (Kd.int .i64) 3 w w0.heap.size (away bt bg bl) (.slice (some ⟨ba, 0, none⟩) na ca) As) : OS w0 w bx b bt ct bg ng cg bl nl cl ba na ca bc d G L As := by
  obtain ⟨n1, n2, n3⟩ := h.ne
  obtain ⟨m1, m2, m3⟩ := ha.1 ba rfl
  exact ⟨h.hd, h.hg, h.hl, Kd.R_mono ha (fun _ _ => trivial), h.hx, h.hb, n1, n2, m1, n3, m2, m3⟩
/-- A place of a row read. -/
theorem irow_cell {base g n c : Nat} {xs : List Int} (h : IRow w base g n c xs) (m : Nat) (hm : m < n) : w.cell? ⟨g, m, none⟩ = some (.int .i64 (xs.getD m 0)) ∧ w.frozen? ⟨g, m, none⟩ = false := by
  have := Kd.R_celln 0 h (m : Int) (by omega) (by omega)
  simp only [Int.toNat_natCast] at this
  have e : rdOf 0 xs (m : Int) = xs.getD m 0 := by simp [rdOf]
  rw [e] at this
  exact this
end
end Go.Proofs.Ytnhjneldjfdnfaa.K
