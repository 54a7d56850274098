/- The parser's Parse, walked by hand: laws of what it holds. -/
import Derived.Test.YtobkdmmnbnpemaaXJP7
import Derived.Defers
import Derived.Recover
namespace Go.Proofs.Ytobkdmmnbnpemaa.K
open Go.RowKit Go.Proofs.YtobkdmmnbnpemaaW.PrintWords Go.Proofs.YtobkdmmnbnpemaaW.PrintLast Go.Proofs.YtobkdmmnbnpemaaW.PrintMore
attribute [local go_sem] max2_int min2_int max_two min_two max_three min_three max_four min_four
set_option linter.unusedVariables false
set_option linter.unusedSimpArgs false
theorem one_ {w : World} {g : Nat} {t : TypeId} {a0 : Value} (h : w.heap[g]? = some (.cells #[a0] t (0, 0))) : w.cell? ⟨g, 0, none⟩ = some a0 ∧ w.frozen? ⟨g, 0, none⟩ = false := ⟨blk_cell h 0, blk_frozen h 0⟩
def CutC (s : ByteArray) (r : Except (Int × Int) (List S58)) : Prop := ∀ w : World, Calls Try.prog 36 #[.string s] w fun e w' => Below w.heap.size w w' ∧ match r with
  | .ok T => ∃ A c, e = .returned (.tuple #[.slice A T.length c, .int .i64 0, .int .i64 0]) ∧ Kd.F k58 w' (newO w w') A T.length T
  | .error (er, at_) => e = .returned (.tuple #[.slice none 0 0, .int .i64 at_, .int .i64 er])
theorem CutC.use {s : ByteArray} {T : List S58} (h : CutC s (.ok T)) (w : World) : Calls Try.prog 36 #[.string s] w fun e w' => ∃ A c, e = .returned (.tuple #[.slice A T.length c, .int .i64 0, .int .i64 0]) ∧ Kd.F k58 w' (newO w w') A T.length T ∧ Below w.heap.size w w' := (h w).mono fun e w' h => by obtain ⟨h1, A, c, h2, h3⟩ := h; exact ⟨A, c, h2, h3, h1⟩
theorem CutC.err {s : ByteArray} {er at_ : Int} (h : CutC s (.error (er, at_))) (w : World) : Calls Try.prog 36 #[.string s] w fun e w' => e = .returned (.tuple #[.slice none 0 0, .int .i64 at_, .int .i64 er]) ∧ Below w.heap.size w w' := (h w).mono fun e w' h => ⟨h.2, h.1⟩
def SV.cs (p : SV) : List Value := [.int .i64 p.x.f0, .string p.x.f1, .int .i64 p.x.f2, .slice p.A3 p.x.f3.length p.c3, .slice p.A4 p.x.f4.length p.c4, .slice p.A5 p.x.f5.length p.c5]
def z6L : List Value := [.int .i64 0, .string (⟨#[]⟩ : ByteArray), .int .i64 0, .slice none 0 0, .slice none 0 0, .slice none 0 0]
def zV41 : Value := .agg #[.int .i64 0, .string (⟨#[]⟩ : ByteArray), .int .i64 0, .slice none 0 0, .slice none 0 0, .slice none 0 0]
theorem inf41 : (Try.prog.info? 41).map (fun i => (i.zero, i.size, i.bytes)) = some (some zV41, 6, 104) := by kernel_rfl
theorem flat6 : ∀ xs : List SV, (xs.flatMap SV.cs).length = xs.length * 6
  | [] => rfl
  | x :: xs => by rw [List.flatMap_cons, List.length_append, flat6 xs, List.length_cons]; show 6 + xs.length * 6 = _; omega
theorem set_app {α : Type} (l m : List α) (n i : Nat) (u : α) (h : l.length = n) : (l ++ m).set (n + i) u = l ++ m.set i u := by
  rw [List.set_append_right _ _ (by omega)]; congr 1; congr 1; omega
theorem set6 (l : List Value) (n : Nat) (h : l.length = n) (a0 a1 a2 a3 a4 a5 b0 b1 b2 b3 b4 b5 : Value) : ((((((l ++ [a0, a1, a2, a3, a4, a5]).set (n + 0) b0).set (n + 1) b1).set (n + 2) b2).set (n + 3) b3).set (n + 4) b4).set (n + 5) b5 = l ++ [b0, b1, b2, b3, b4, b5] := by
  simp only [set_app _ _ _ _ _ h, List.set_cons_zero, List.set_cons_succ]
structure PI (w W : World) (g : Nat) (A : Option Addr) (c : Nat) (T : List S58) (s : PSt) (v : Value) (xs : List SV) : Prop where
  bk : W.heap[g]? = some (.cells #[.slice A T.length c, .int .i64 s.at_, .int .i64 s.nodes, .int .i64 s.op, .int .i64 s.bl] 79 (0, 0))
  tk : ∃ o : Nat → Prop, Kd.F k58 W o A T.length T ∧ ∀ k, o k → w.heap.size + 3 ≤ k ∧ k ≠ g ∧ v.ownBlock ≠ some k
  bl : W.heap[w.heap.size]? = some (.cells #[v] 22 (0, 0))
  ba : W.heap[w.heap.size + 1]? = some (.cells #[.int .i64 0] 3 (0, 0))
  be : W.heap[w.heap.size + 2]? = some (.cells #[.int .i64 0] 24 (0, 0))
  row : W.ownsRow w.heap.size 41 6 v xs.length (xs.flatMap SV.cs)
  el : ∃ o : Nat → Prop, (∀ x ∈ xs, x.ok W o) ∧ ∀ k, o k → w.heap.size + 3 ≤ k ∧ k ≠ g ∧ v.ownBlock ≠ some k
  bw : Below w.heap.size w W
  hg : w.heap.size + 3 ≤ g
theorem PI.rd {w W : World} {g : Nat} {A : Option Addr} {c : Nat} {T : List S58} {s : PSt} {v : Value} {xs : List SV} (h : PI w W g A c T s v xs) : RD W g A c T s := by
  obtain ⟨o, h1, h2⟩ := h.tk; exact ⟨h.bk, Kd.F_mono h1 (fun k hk => (h2 k hk).2.1)⟩
theorem PI.same {w W W1 : World} {g : Nat} {A : Option Addr} {c : Nat} {T : List S58} {s : PSt} {v : Value} {xs : List SV} (h : PI w W g A c T s v xs) (b : ∀ k, k < W.heap.size → W1.heap[k]? = W.heap[k]?) (bw : Below w.heap.size w W1) : PI w W1 g A c T s v xs := by
  obtain ⟨o, h1, h2⟩ := h.tk; obtain ⟨o', h3, h4⟩ := h.el; exact ⟨(b g (blk_lt h.bk)).trans h.bk, ⟨o, Kd.F_step h1 (fun k _ hl => b k hl), h2⟩, (b _ (blk_lt h.bl)).trans h.bl, (b _ (blk_lt h.ba)).trans h.ba, (b _ (blk_lt h.be)).trans h.be, own_step h.row (fun k hk => b k (own_lt h.row k hk)), ⟨o', fun x hx => (h3 x hx).step (fun k _ hl => b k hl), h4⟩, bw, h.hg⟩
theorem PI.below {w W W1 : World} {g : Nat} {A : Option Addr} {c : Nat} {T : List S58} {s : PSt} {v : Value} {xs : List SV} (h : PI w W g A c T s v xs) (b : Below W.heap.size W W1) : PI w W1 g A c T s v xs := h.same (fun k hk => b.block k hk) (below_step h.bw b)
theorem PI.alloc {w W : World} {g : Nat} {A : Option Addr} {c : Nat} {T : List S58} {s : PSt} {v : Value} {xs : List SV} (h : PI w W g A c T s v xs) (o : Obj) : PI w (W.alloc o) g A c T s v xs := h.below (below_alloc (Below.refl _ _) o)
theorem PI.drewN {w W : World} {g : Nat} {A : Option Addr} {c : Nat} {T : List S58} {s : PSt} {v : Value} {xs : List SV} (h : PI w W g A c T s v xs) (m : Nat) : PI w (W.drewN m) g A c T s v xs := h.below (pw_below_drewN (Below.refl _ _) m)
theorem PI.drew {w W : World} {g : Nat} {A : Option Addr} {c : Nat} {T : List S58} {s : PSt} {v : Value} {xs : List SV} (h : PI w W g A c T s v xs) : PI w W.drew g A c T s v xs := h.below (below_drew (Below.refl _ _))
theorem own_ne_blk {w W : World} {g : Nat} {A : Option Addr} {c : Nat} {T : List S58} {s : PSt} {v : Value} {xs : List SV} (h : PI w W g A c T s v xs) : v.ownBlock ≠ some g ∧ v.ownBlock ≠ some w.heap.size ∧ v.ownBlock ≠ some (w.heap.size + 1) ∧ v.ownBlock ≠ some (w.heap.size + 2) :=
  ⟨fun e => own_ne h.row h.bk (by decide) e.symm, fun e => own_ne h.row h.bl (by decide) e.symm, fun e => own_ne h.row h.ba (by decide) e.symm, fun e => own_ne h.row h.be (by decide) e.symm⟩
theorem PI.call {w W W1 : World} {g : Nat} {A : Option Addr} {c : Nat} {T : List S58} {s s1 : PSt} {v : Value} {xs : List SV} (h : PI w W g A c T s v xs) (hk : KeepBut W W1 g none) (hx : RD W1 g A c T s1) : PI w W1 g A c T s1 v xs := by
  obtain ⟨o, h1, h2⟩ := h.tk; obtain ⟨o', h3, h4⟩ := h.el; have hgw := h.hg; have kk : ∀ k, k < W.heap.size → k ≠ g → W1.heap[k]? = W.heap[k]? := fun k hl hne => hk.2 k hl hne (by simp); refine ⟨hx.bk, ⟨o, Kd.F_step h1 (fun k ho hl => kk k hl (h2 k ho).2.1), h2⟩, (kk _ (blk_lt h.bl) (by omega)).trans h.bl, (kk _ (blk_lt h.ba) (by omega)).trans h.ba, (kk _ (blk_lt h.be) (by omega)).trans h.be, own_step h.row (fun k hv => kk k (own_lt h.row k hv) (fun e => (own_ne_blk h).1 (by rw [hv, e]))), ⟨o', fun x hx => (h3 x hx).step (fun k ho hl => kk k hl (h4 k ho).2.1), h4⟩, ?_, hgw⟩; exact ⟨hk.1.1.trans h.bw.os, hk.1.2.1.trans h.bw.tape, hk.1.2.2.1.trans h.bw.output, Nat.le_trans h.bw.size hk.size, fun k hl => (kk k (Nat.lt_of_lt_of_le hl h.bw.size) (by omega)).trans (h.bw.block k hl)⟩
theorem PI.cells {w W : World} {g : Nat} {A : Option Addr} {c : Nat} {T : List S58} {s : PSt} {v : Value} {xs : List SV} (h : PI w W g A c T s v xs) : (W.cell? ⟨w.heap.size, 0, none⟩ = some v ∧ W.cell? ⟨w.heap.size + 1, 0, none⟩ = some (.int .i64 0) ∧ W.cell? ⟨w.heap.size + 2, 0, none⟩ = some (.int .i64 0)) ∧ W.frozen? ⟨w.heap.size, 0, none⟩ = false ∧ W.frozen? ⟨w.heap.size + 1, 0, none⟩ = false ∧ W.frozen? ⟨w.heap.size + 2, 0, none⟩ = false :=
  ⟨⟨(one_ h.bl).1, (one_ h.ba).1, (one_ h.be).1⟩, (one_ h.bl).2, (one_ h.ba).2, (one_ h.be).2⟩
theorem PI.fin {w W w1 W2 : World} {g : Nat} {A : Option Addr} {c : Nat} {T : List S58} {s : PSt} {v v1 : Value} {xs : List SV} {x : SV} {ox : Nat → Prop} (h : PI w W g A c T s v xs)
    (hx : x.ok W ox) (hox : ∀ k, ox k → w.heap.size + 3 ≤ k ∧ k ≠ g ∧ v.ownBlock ≠ some k) (hg : W.grownBy w1 v.ownBlock) (hv : v1.ownBlock = v.ownBlock ∨ ∃ b, v1.ownBlock = some b ∧ W.heap.size ≤ b)
    (hl : W2.heap[w.heap.size]? = some (.cells #[v1] 22 (0, 0))) (hr : W2.ownsRow w.heap.size 41 6 v1 (xs.length + 1) (xs.flatMap SV.cs ++ x.cs))
    (hk : ∀ k, k ≠ w.heap.size → v1.ownBlock ≠ some k → W2.heap[k]? = w1.heap[k]?) (hb : Below w.heap.size w W2) : PI w W2 g A c T s v1 (xs ++ [x]) := by
  obtain ⟨o, h1, h2⟩ := h.tk; obtain ⟨o', h3, h4⟩ := h.el; have hgw := h.hg; have n0 := own_ne_blk h; have nv : ∀ k, k < W.heap.size → v.ownBlock ≠ some k → v1.ownBlock ≠ some k := fun k hl hne e => by
    rcases hv with hv | ⟨b, hb, hle⟩
    · exact hne (hv ▸ e)
    · rw [hb] at e; injection e with e; omega
  have kk : ∀ k, k < W.heap.size → k ≠ w.heap.size → v.ownBlock ≠ some k → W2.heap[k]? = W.heap[k]? := fun k hl hne ho => (hk k hne (nv k hl ho)).trans (hg.block k hl (fun e => ho e.symm)); refine ⟨(kk g (blk_lt h.bk) (by omega) n0.1).trans h.bk, ⟨fun k => o k ∧ k < W.heap.size, Kd.F_step (Kd.F_bound h1) (fun k hk hl => kk k hl (by have := h2 k hk.1; omega) (h2 k hk.1).2.2), fun k hk => ⟨(h2 k hk.1).1, (h2 k hk.1).2.1, nv k hk.2 (h2 k hk.1).2.2⟩⟩, hl,
    (kk _ (blk_lt h.ba) (by omega) n0.2.2.1).trans h.ba, (kk _ (blk_lt h.be) (by omega) n0.2.2.2).trans h.be, ?_, ⟨fun k => (o' k ∨ ox k) ∧ k < W.heap.size, ?_, ?_⟩, hb, hgw⟩
  · rw [List.length_append, List.flatMap_append]
    simpa using hr
  · intro y hy
    rcases List.mem_append.1 hy with hy | hy
    · exact ((h3 y hy).bound.step (fun k hk hl => kk k hl (by have := h4 k hk.1; omega) (h4 k hk.1).2.2)).mono (fun k hk => ⟨.inl hk.1, hk.2⟩)
    · obtain rfl := List.mem_singleton.1 hy
      exact (hx.bound.step (fun k hk hl => kk k hl (by have := hox k hk.1; omega) (hox k hk.1).2.2)).mono (fun k hk => ⟨.inr hk.1, hk.2⟩)
  · rintro k ⟨hk | hk, hl⟩
    · exact ⟨(h4 k hk).1, (h4 k hk).2.1, nv k hl (h4 k hk).2.2⟩
    · exact ⟨(hox k hk).1, (hox k hk).2.1, nv k hl (hox k hk).2.2⟩
theorem PI.finA {w W w1 : World} {g gb cap : Nat} {A : Option Addr} {c : Nat} {T : List S58} {s : PSt} {v : Value} {xs : List SV} {x : SV} {ox : Nat → Prop} (h : PI w W g A c T s v xs)
    (hx : x.ok W ox) (hox : ∀ k, ox k → w.heap.size + 3 ≤ k ∧ k ≠ g ∧ v.ownBlock ≠ some k) (hg : W.grownBy w1 v.ownBlock) (hv : v.ownBlock = some gb ∨ W.heap.size ≤ gb)
    (ho : w1.ownsRow w.heap.size 41 6 (.slice (some ⟨gb, 0, none⟩) (xs.length + 1) cap) (xs.length + 1) (xs.flatMap SV.cs ++ z6L)) :
    PI w (((((((w1.setCell ⟨gb, xs.length * 6 + 0, none⟩ (.int .i64 x.x.f0)).setCell ⟨gb, xs.length * 6 + 1, none⟩ (.string x.x.f1)).setCell ⟨gb, xs.length * 6 + 2, none⟩ (.int .i64 x.x.f2)).setCell ⟨gb, xs.length * 6 + 3, none⟩ (.slice x.A3 x.x.f3.length x.c3)).setCell ⟨gb, xs.length * 6 + 4, none⟩ (.slice x.A4 x.x.f4.length x.c4)).setCell ⟨gb, xs.length * 6 + 5, none⟩ (.slice x.A5 x.x.f5.length x.c5)).setCell ⟨w.heap.size, 0, none⟩ (.slice (some ⟨gb, 0, none⟩) (xs.length + 1) cap)) g A c T s (.slice (some ⟨gb, 0, none⟩) (xs.length + 1) cap) (xs ++ [x]) := by
  have n0 := own_ne_blk h; have hbl := blk_lt h.bl; have hbw : w.heap.size ≤ gb := by
    rcases hv with hv | hv
    · exact own_base h.row gb hv
    · have := h.bw.size; omega
  have hne : gb ≠ w.heap.size := by
    rcases hv with hv | hv
    · intro e; exact n0.2.1 (by rw [hv, e])
    · omega
  have r0 := ho.stored (xs.length * 6 + 0) (.int .i64 x.x.f0); have r1 := r0.1.stored (xs.length * 6 + 1) (.string x.x.f1); have r2 := r1.1.stored (xs.length * 6 + 2) (.int .i64 x.x.f2); have r3 := r2.1.stored (xs.length * 6 + 3) (.slice x.A3 x.x.f3.length x.c3); have r4 := r3.1.stored (xs.length * 6 + 4) (.slice x.A4 x.x.f4.length x.c4); have r5 := r4.1.stored (xs.length * 6 + 5) (.slice x.A5 x.x.f5.length x.c5); have hb1 : Below w.heap.size w w1 := h.bw.grown hg (by omega) (own_base h.row); have hbl1 : w1.heap[w.heap.size]? = some (.cells #[v] 22 (0, 0)) := blk_grown h.bl hg (fun e => n0.2.1 e.symm); refine h.fin hx hox hg (by rcases hv with hv | hv; exact .inl hv.symm; exact .inr ⟨gb, rfl, hv⟩) (blk_put (cs := #[v]) ?_ 0 _ rfl) ?_ ?_ ?_
  · refine blk_far ?_ (Ne.symm hne) _; refine blk_far ?_ (Ne.symm hne) _; refine blk_far ?_ (Ne.symm hne) _; refine blk_far ?_ (Ne.symm hne) _; refine blk_far ?_ (Ne.symm hne) _; refine blk_far ?_ (Ne.symm hne) _; exact hbl1
  · have e6 := set6 (xs.flatMap SV.cs) (xs.length * 6) (flat6 xs) (.int .i64 0) (.string (⟨#[]⟩ : ByteArray)) (.int .i64 0) (.slice none 0 0) (.slice none 0 0) (.slice none 0 0) (.int .i64 x.x.f0) (.string x.x.f1) (.int .i64 x.x.f2) (.slice x.A3 x.x.f3.length x.c3) (.slice x.A4 x.x.f4.length x.c4) (.slice x.A5 x.x.f5.length x.c5)
    have r := r5.1; unfold z6L at r; rw [e6] at r; exact own_setCell r (p := ⟨w.heap.size, 0, none⟩) (by simp only [Value.ownBlock]; intro e; injection e with e; exact hne e.symm) _
  · intro k hk1 hk2
    have hkg : k ≠ gb := fun e => hk2 (by rw [e]; rfl); rw [Below.heap_setCell _ _ _ k hk1]
    (iterate 6 rw [Below.heap_setCell _ _ _ k (by show k ≠ gb; exact hkg)])
  · exact Below.setCell (Below.setCell (Below.setCell (Below.setCell (Below.setCell (Below.setCell (Below.setCell hb1 hbw _) hbw _) hbw _) hbw _) hbw _) hbw _) (Nat.le_refl _) _
theorem setCell_comm (w : World) (a b : Addr) (u v : Value) (h : a.block ≠ b.block) : (w.setCell a u).setCell b v = (w.setCell b v).setCell a u := by
  unfold World.setCell; simp only
  congr 1
  apply Array.ext
  · simp
  · intro i h1 h2
    simp only [Array.getElem_modify]; by_cases ha : a.block = i
    · by_cases hb : b.block = i
      · exact absurd (ha.trans hb.symm) h
      · simp [ha, hb]
    · by_cases hb : b.block = i <;> simp [ha, hb]
end Go.Proofs.Ytobkdmmnbnpemaa.K
