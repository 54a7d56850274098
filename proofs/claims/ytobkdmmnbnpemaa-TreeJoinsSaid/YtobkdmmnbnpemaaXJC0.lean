/- The writer in memory: its row of bytes, what calls keep. -/
import Derived.Test.YtobkdmmnbnpemaaXJK3
import Derived.Test.YtobkdmmnbnpemaaXJPL0
import Derived.Lib.Hide
namespace Go.Proofs.Ytobkdmmnbnpemaa.K
open Go.RowKit Go.Proofs.YtobkdmmnbnpemaaW.PrintWords Go.Proofs.YtobkdmmnbnpemaaW.PrintLast Go.Proofs.YtobkdmmnbnpemaaW.PrintMore
set_option linter.unusedVariables false
set_option linter.unusedSimpArgs false
def KeepT (W W' : World) (g : Nat) : Prop := W.heap.size ≤ W'.heap.size ∧ ∀ i o, W.heap[i]? = some o → i ≠ g → (∀ cs, o ≠ .cells cs 5 (0, 0)) → W'.heap[i]? = some o
theorem KeepT.refl (W : World) (g : Nat) : KeepT W W g := ⟨Nat.le_refl _, fun _ _ h _ _ => h⟩
theorem KeepT.trans {W W1 W2 : World} {g : Nat} (h : KeepT W W1 g) (k : KeepT W1 W2 g) : KeepT W W2 g := ⟨Nat.le_trans h.1 k.1, fun i o hi hg ho => k.2 i o (h.2 i o hi hg ho) hg ho⟩
theorem KeepT.of_below {W W1 : World} (h : Below W.heap.size W W1) (g : Nat) : KeepT W W1 g := ⟨h.size, fun i o hi _ _ => (h.block i (blk_lt hi)).trans hi⟩
theorem KeepT.below {W W1 W2 : World} {g : Nat} (h : KeepT W W1 g) (k : Below W1.heap.size W1 W2) : KeepT W W2 g := h.trans (KeepT.of_below k g)
theorem KeepT.alloc {W W1 : World} {g : Nat} (h : KeepT W W1 g) (o : Obj) : KeepT W (W1.alloc o) g := h.below (below_alloc (Below.refl _ _) o)
theorem KeepT.drewN {W W1 : World} {g : Nat} (h : KeepT W W1 g) (m : Nat) : KeepT W (W1.drewN m) g := h
theorem KeepT.drew {W W1 : World} {g : Nat} (h : KeepT W W1 g) : KeepT W W1.drew g := h
theorem KeepT.set {W W1 : World} {g : Nat} (h : KeepT W W1 g) (j : Nat) (u : Value) : KeepT W (W1.setCell ⟨g, j, none⟩ u) g :=
  ⟨by simpa [World.setCell] using h.1, fun i o hi hg ho => (Below.heap_setCell W1 ⟨g, j, none⟩ u i hg).trans (h.2 i o hi hg ho)⟩
theorem KeepT.blk {W W1 : World} {g b : Nat} {cs : Array Value} {t : TypeId} (h : KeepT W W1 g) (hb : W.heap[b]? = some (.cells cs t (0, 0))) (hg : b ≠ g) (ht : t ≠ 5) : W1.heap[b]? = some (.cells cs t (0, 0)) :=
  h.2 b _ hb hg (fun cs' e => by injection e with _ e2; exact ht e2)
def WV (B : Nat) (W : World) (g : Nat) (v : Value) (t : List UInt8) (n : Int) : Prop :=
  W.heap[g]? = some (.cells #[v, .int .i64 n] 64 (0, 0)) ∧ B ≤ g ∧ W.ownsRow B 5 1 v (t.map c8).length (nums .u8 (t.map c8))
def IsW (B : Nat) (W : World) (g : Nat) (t : List UInt8) (n : Int) : Prop := ∃ v, WV B W g v t n
theorem WV.ne {B : Nat} {W : World} {g : Nat} {v : Value} {t : List UInt8} {n : Int} (h : WV B W g v t n) : some g ≠ v.ownBlock := by
  obtain ⟨h1, _, _, h3⟩ := h; intro e; rcases h3 with ⟨rfl, _⟩ | ⟨g', cap, cur, rfl, _, h4, _⟩
  · simp [Value.ownBlock] at e
  · have e2 : g = g' := by simpa [Value.ownBlock] using e
    subst e2; rw [h1] at h4; injection h4 with h4; injection h4 with _ h5; exact absurd h5 (by decide)
theorem WV.row {B : Nat} {W : World} {g : Nat} {v : Value} {t : List UInt8} {n : Int} (h : WV B W g v t n) (k : Nat) (hk : v.ownBlock = some k) : ∃ cs, W.heap[k]? = some (.cells cs 5 (0, 0)) := by
  obtain ⟨_, _, _, h3⟩ := h; rcases h3 with ⟨rfl, _⟩ | ⟨g', cap, cur, rfl, _, h4, _⟩
  · simp [Value.ownBlock] at hk
  · have e2 : g' = k := by simpa [Value.ownBlock] using hk
    subst e2; exact ⟨cur, h4⟩
theorem WV.below {B : Nat} {W W1 : World} {g : Nat} {v : Value} {t : List UInt8} {n : Int} (h : WV B W g v t n) (hb : Below W.heap.size W W1) : WV B W1 g v t n := by
  refine ⟨blk_below h.1 hb, h.2.1, ?_⟩
  exact h.2.2.kept (grown_of_below hb none) (by
    cases hv : v.ownBlock with
    | none => exact .inl rfl
    | some k => exact .inr (by simp))
theorem IsW.below {B : Nat} {W W1 : World} {g : Nat} {t : List UInt8} {n : Int} (h : IsW B W g t n) (hb : Below W.heap.size W W1) : IsW B W1 g t n := by
  obtain ⟨v, h⟩ := h; exact ⟨v, h.below hb⟩
theorem IsW.alloc {B : Nat} {W : World} {g : Nat} {t : List UInt8} {n : Int} (h : IsW B W g t n) (o : Obj) : IsW B (W.alloc o) g t n := h.below (below_alloc (Below.refl _ _) o)
theorem IsW.drewN {B : Nat} {W : World} {g : Nat} {t : List UInt8} {n : Int} (h : IsW B W g t n) (m : Nat) : IsW B (W.drewN m) g t n := h
theorem IsW.drew {B : Nat} {W : World} {g : Nat} {t : List UInt8} {n : Int} (h : IsW B W g t n) : IsW B W.drew g t n := h
theorem IsW.ge {B : Nat} {W : World} {g : Nat} {t : List UInt8} {n : Int} (h : IsW B W g t n) : B ≤ g := by obtain ⟨v, h⟩ := h; exact h.2.1
theorem IsW.lt {B : Nat} {W : World} {g : Nat} {t : List UInt8} {n : Int} (h : IsW B W g t n) : g < W.heap.size := by obtain ⟨v, h⟩ := h; exact blk_lt h.1
theorem IsW.ne_blk {B : Nat} {W : World} {g b : Nat} {t : List UInt8} {n : Int} {cs : Array Value} {ty : TypeId} (h : IsW B W g t n) (hb : W.heap[b]? = some (.cells cs ty (0, 0))) (ht : ty ≠ 64) : b ≠ g := by
  obtain ⟨v, h⟩ := h; exact blk_ne hb h.1 ht
theorem WV.put {B : Nat} {W w1 : World} {g : Nat} {v v1 : Value} {t t1 : List UInt8} {n : Int} (h : WV B W g v t n) (ho : w1.ownsRow B 5 1 v1 (t1.map c8).length (nums .u8 (t1.map c8))) (hg : W.grownBy w1 v.ownBlock) :
    WV B (w1.setCell ⟨g, 0, none⟩ v1) g v1 t1 n := by
  have hb : w1.heap[g]? = some (.cells #[v, .int .i64 n] 64 (0, 0)) := blk_grown h.1 hg h.ne; refine ⟨blk_put hb 0 v1 rfl, h.2.1, ?_⟩; have hne : v1.ownBlock ≠ some g := by
    intro e; obtain ⟨_, h3⟩ := ho; rcases h3 with ⟨rfl, _⟩ | ⟨g', cap, cur, rfl, _, h4, _⟩
    · simp [Value.ownBlock] at e
    · have e2 : g' = g := by simpa [Value.ownBlock] using e
      subst e2; rw [hb] at h4; injection h4 with h4; injection h4 with _ h5; exact absurd h5 (by decide)
  exact own_setCell ho (fun e => hne e.symm) v1
theorem KeepT.grown {W W1 w1 : World} {g : Nat} {v : Value} {B : Nat} {t : List UInt8} {n : Int} (h : KeepT W W1 g) (hw : WV B W1 g v t n) (hg : W1.grownBy w1 v.ownBlock) : KeepT W w1 g := by
  refine h.trans ⟨hg.size, fun i o hi hig ho => (hg.block i (blk_lt hi) ?_).trans hi⟩
  intro e; obtain ⟨cs, hc⟩ := hw.row i e.symm; rw [hi] at hc; exact ho cs (Option.some.inj hc)
end Go.Proofs.Ytobkdmmnbnpemaa.K
