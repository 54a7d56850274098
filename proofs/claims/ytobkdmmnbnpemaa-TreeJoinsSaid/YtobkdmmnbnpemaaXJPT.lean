/- The parser's Parse: what it gives, its deferred closure, the new row's cells. -/
import Derived.Test.YtobkdmmnbnpemaaXJP8
namespace Go.Proofs.Ytobkdmmnbnpemaa.K
open Go.RowKit Go.Proofs.YtobkdmmnbnpemaaW.PrintWords Go.Proofs.YtobkdmmnbnpemaaW.PrintLast Go.Proofs.YtobkdmmnbnpemaaW.PrintMore
attribute [local go_sem] max2_int min2_int max_two min_two max_three min_three max_four min_four
set_option linter.unusedVariables false
set_option linter.unusedSimpArgs false
def parsF (T : List S58) (st : PSt → Option SRes) : Nat → List S41 → PSt → Option (Except (Int × Int) (List S41))
  | 0, _, _ => none
  | k + 1, xs, s => if (0 ≤ s.at_ ∧ s.at_ < T.length) ∧ xs.length < 1000 then
      (if (rd_T58 T s.at_).f0 = 0 then some (.ok xs) else match st s with
        | none => none
        | some (.error e) => some (.error e)
        | some (.ok (x, s1)) => parsF T st k (xs ++ [x]) s1)
    else none
def PPar (w : World) (r : Except (Int × Int) (List S41)) (e : Ending) (w' : World) : Prop := Below w.heap.size w w' ∧ match r with
  | .ok l => ∃ A c, e = .returned (.tuple #[.slice A l.length c, .int .i64 0, .int .i64 0]) ∧ Kd.F k41 w' (newO w w') A l.length l ∧ l.length ≤ c
  | .error (er, at_) => e = .returned (.tuple #[.slice none 0 0, .int .i64 at_, .int .i64 er])
theorem PPar.ok {w w' : World} {l : List S41} {e : Ending} (h : PPar w (.ok l) e w') : ∃ A c, e = .returned (.tuple #[.slice A l.length c, .int .i64 0, .int .i64 0]) ∧ Kd.F k41 w' (newO w w') A l.length l ∧ l.length ≤ c ∧ Below w.heap.size w w' := by
  obtain ⟨h1, A, c, h2, h3, h4⟩ := h; exact ⟨A, c, h2, h3, h4, h1⟩
theorem PPar.err {w w' : World} {er at_ : Int} {e : Ending} (h : PPar w (.error (er, at_)) e w') : e = .returned (.tuple #[.slice none 0 0, .int .i64 at_, .int .i64 er]) ∧ Below w.heap.size w w' := ⟨h.2, h.1⟩
theorem reps_sv {W : World} {ok : Nat → Prop} : ∀ xs : List SV, (∀ p ∈ xs, p.ok W ok) → Foot (fun W => Reps (k41.K W) 6 (xs.map (·.x)) (xs.flatMap SV.cs)) W ok
  | [], _ => fun W' _ => Reps.none _ _
  | p :: ps, h => fun W' hW => by
    have hp := h p (List.mem_cons_self ..); have ih := reps_sv ps (fun q hq => h q (List.mem_cons_of_mem _ hq)) W' hW; exact Reps.c6 (k41_mk W' p.x hp.1.2 (hp.1.1 W' hW) hp.2.1.2 (hp.2.1.1 W' hW) hp.2.2.2 (hp.2.2.1 W' hW)) ih
theorem PI.rows {w W : World} {g : Nat} {A : Option Addr} {c : Nat} {T : List S58} {s : PSt} {v : Value} {xs : List SV} (h : PI w W g A c T s v xs) :
    ∃ A' c', v = .slice A' xs.length c' ∧ Kd.F k41 W (newO w W) A' (xs.map (·.x)).length (xs.map (·.x)) ∧ xs.length ≤ c' := by
  obtain ⟨o', h3, h4⟩ := h.el; have hF := F_own (d := k41) (ok := newO w W) h.row (fun k hk => ⟨own_base h.row k hk, own_lt h.row k hk⟩)
    (reps_sv xs (fun x hx => (h3 x hx).bound.mono (fun k hk => ⟨by have := h4 k hk.1; omega, hk.2⟩))) (by simp) (by decide)
  obtain ⟨A', c', h1, h2, h5⟩ := hF; exact ⟨A', c', h1, by rw [List.length_map]; exact h2, h5⟩
theorem new_cells {w1 : World} {base gb n cap : Nat} {cs : List Value} (hn : cs.length = n * 6) (ho : w1.ownsRow base 41 6 (.slice (some ⟨gb, 0, none⟩) (n + 1) cap) (n + 1) (cs ++ z6L)) :
    (w1.cell? ⟨gb, n * 6, none⟩ = some (.int .i64 0) ∧ w1.cell? ⟨gb, n * 6 + 1, none⟩ = some (.string (⟨#[]⟩ : ByteArray)) ∧ w1.cell? ⟨gb, n * 6 + 2, none⟩ = some (.int .i64 0) ∧ w1.cell? ⟨gb, n * 6 + 3, none⟩ = some (.slice none 0 0) ∧ w1.cell? ⟨gb, n * 6 + 4, none⟩ = some (.slice none 0 0) ∧ w1.cell? ⟨gb, n * 6 + 5, none⟩ = some (.slice none 0 0))
    ∧ (w1.frozen? ⟨gb, n * 6, none⟩ = false ∧ w1.frozen? ⟨gb, n * 6 + 1, none⟩ = false ∧ w1.frozen? ⟨gb, n * 6 + 2, none⟩ = false ∧ w1.frozen? ⟨gb, n * 6 + 3, none⟩ = false ∧ w1.frozen? ⟨gb, n * 6 + 4, none⟩ = false ∧ w1.frozen? ⟨gb, n * 6 + 5, none⟩ = false) := by
  have hc : ∀ i, i < 6 → w1.cell? ⟨gb, n * 6 + i, none⟩ = z6L[i]? := fun i hi => by
    rw [ho.cellAt (n * 6 + i) (by omega), List.getElem?_append_right (by omega), hn]
    congr 1; omega
  exact ⟨⟨hc 0 (by omega), hc 1 (by omega), hc 2 (by omega), hc 3 (by omega), hc 4 (by omega), hc 5 (by omega)⟩, ho.frozenAt _, ho.frozenAt _, ho.frozenAt _, ho.frozenAt _, ho.frozenAt _, ho.frozenAt _⟩
theorem field58_0 (a : Int) (s : ByteArray) (b c : Int) (W : World) : (Instr.field 58 (.agg #[.int .i64 a, .string s, .int .i64 b, .int .i64 c]) 0).run Try.prog W = .ok (.int .i64 a) W := by kernel_rfl
theorem idle_L (p0 p1 p2 : Value) (w : World) : CallsD Try.prog 45 #[p0, p1, p2] .returning w fun e u' w' => e = .returned (.tuple #[]) ∧ u' = .returning ∧ w' = w := by
  refine callsD_of_wpS Try.func45 rfl fun c₀ cs hu => ?_
  apply wpS_seq
  apply wpS_region
  simp [wpOpsS, go_sem, recoverD, hu, Try.ntmps45, Exit.thenS]
  apply wpS_seq
  apply wpS_region
  simp [wpOpsS, go_sem, recoverD, hu, Try.ntmps45, Exit.thenS]; refine wpS_cond (t := false) (by simp [Act.eval, Array.replicate]) ?_; simp only [Bool.false_eq_true, if_false]; refine wpS_of_wp (wp_skip ?_); cases c₀
  simp_all [bodyPostS, results, Try.results45]
end Go.Proofs.Ytobkdmmnbnpemaa.K
namespace Go.Proofs.Ytobkdmmnbnpemaa.K
open Go.RowKit Go.Proofs.YtobkdmmnbnpemaaW.PrintWords Go.Proofs.YtobkdmmnbnpemaaW.PrintLast Go.Proofs.YtobkdmmnbnpemaaW.PrintMore
set_option linter.unusedVariables false
set_option linter.unusedSimpArgs false
theorem assert75 (er at_ : Int) (w : World) : (Instr.typeAssert (.iface 75 (.agg #[.int .i64 er, .int .i64 at_])) 20 75 true).run Try.prog w = .ok (.tuple #[.agg #[.int .i64 er, .int .i64 at_], .bool true]) w := by kernel_rfl
def TrapP (b : Nat) (er at_ : Int) (w : World) (e : Ending) (u' : FrameMode) (w' : World) : Prop := e = .returned (.tuple #[]) ∧ u' = .panicking [{ v := .iface 75 (.agg #[.int .i64 er, .int .i64 at_]), recovered := true }] ∧
  (w'.heap[b]? = some (.cells #[.slice none 0 0] 22 (0, 0)) ∧ w'.heap[b + 1]? = some (.cells #[.int .i64 at_] 3 (0, 0)) ∧ w'.heap[b + 2]? = some (.cells #[.int .i64 er] 24 (0, 0))) ∧ Below b w w'
set_option maxHeartbeats 4000000 in
set_option maxRecDepth 100000 in
theorem trap_L (b : Nat) (er at_ : Int) (v : Value) (w : World) (h0 : w.heap[b]? = some (.cells #[v] 22 (0, 0))) (h1 : w.heap[b + 1]? = some (.cells #[.int .i64 0] 3 (0, 0))) (h2 : w.heap[b + 2]? = some (.cells #[.int .i64 0] 24 (0, 0))) :
    CallsD Try.prog 45 #[.pointer (some ⟨b, 0, none⟩), .pointer (some ⟨b + 1, 0, none⟩), .pointer (some ⟨b + 2, 0, none⟩)] (.panicking [stopV er at_]) w (TrapP b er at_ w) := by
  have has := fun w => assert75 er at_ w; have hu75 : Try.prog.underlying 75 = _ := Try.underlying75; refine callsD_of_wpS Try.func45 rfl fun c₀ cs hu => ?_; have ht : (#[Value.pointer (some ⟨b, 0, none⟩), .pointer (some ⟨b + 1, 0, none⟩), .pointer (some ⟨b + 2, 0, none⟩)] ++ Array.replicate (Try.f45.ntmps - #[Value.pointer (some ⟨b, 0, none⟩), .pointer (some ⟨b + 1, 0, none⟩), .pointer (some ⟨b + 2, 0, none⟩)].size) undef : Array Value) = #[Value.pointer (some ⟨b, 0, none⟩), .pointer (some ⟨b + 1, 0, none⟩), .pointer (some ⟨b + 2, 0, none⟩), undef, undef, undef, undef, undef, undef, undef, undef, undef, undef, undef, undef, undef, undef, undef, undef, undef, undef] := by kernel_rfl
  rw [ht]
  apply wpS_seq
  apply wpS_region
  simp [wpOpsS, go_sem, recoverD, hu, stopV, Exit.thenS]
  apply wpS_seq
  apply wpS_region
  simp [wpOpsS, go_sem, recoverD, hu, Exit.thenS]; refine wpS_cond (t := true) (by simp [Act.eval]) ?_; simp only [if_true]; refine wpS_of_wp ?_; clear hu ht; have hl0 := blk_lt h0; have hl1 := blk_lt h1; have hl2 := blk_lt h2; go_upto_region 5 with fail; clear has; generalize hgx : w.heap.size = gx at *; generalize hwq : World.alloc w (Obj.cells #[Value.int IntKind.i64 er, Value.int IntKind.i64 at_] 75) = wq; have hB : Below b w wq := by rw [← hwq]; exact Below.alloc (Below.refl _ _) (by omega) _
  have hX : wq.heap[gx]? = some (.cells #[.int .i64 er, .int .i64 at_] 75 (0, 0)) := by rw [← hwq, ← hgx]; exact blk_new _ _
  have hY0 : wq.heap[b]? = some (.cells #[v] 22 (0, 0)) := by rw [← hwq]; exact blk_alloc h0 _
  have hY1 : wq.heap[b + 1]? = some (.cells #[.int .i64 0] 3 (0, 0)) := by rw [← hwq]; exact blk_alloc h1 _
  have hY2 : wq.heap[b + 2]? = some (.cells #[.int .i64 0] 24 (0, 0)) := by rw [← hwq]; exact blk_alloc h2 _
  have hbl : b ≤ w.heap.size := by omega
  clear hwq hgx h0 h1 h2; have HB := A_0 hB; have HY0 := A_0 hY0; have HY1 := A_0 hY1; have HY2 := A_0 hY2; obtain ⟨c0, f0⟩ := one_ hY0; obtain ⟨c1, f1⟩ := one_ hY1; obtain ⟨c2, f2⟩ := one_ hY2; have x0 := blk_cell hX 0; have x1 := blk_cell hX 1; have y0 := blk_frozen hX 0; have y1 := blk_frozen hX 1; replace x0 := x0.trans rfl; replace x1 := x1.trans rfl; clear hB hX hY0 hY1 hY2; have n0 : gx ≠ b := by omega
  have n1 : gx ≠ b + 1 := by omega
  have n2 : gx ≠ b + 2 := by omega
  have n0' : b ≠ gx := by omega
  have n1' : b + 1 ≠ gx := by omega
  have n2' : b + 2 ≠ gx := by omega
  clear hl0 hl1 hl2
  go_wp2_with fail
  go_region
  refine ⟨rfl, _, rfl, .tuple #[], by simp [results, Try.results45, go_sem], rfl, rfl, ⟨?_, ?_, ?_⟩, ?_⟩
  · refine blk_drew ?_; refine blk_far ?_ (by show b ≠ b + 2; omega) _; refine blk_far ?_ (by show b ≠ b + 1; omega) _; exact blk_put (cs := #[v]) HY0.out 0 _ rfl
  · refine blk_drew ?_; refine blk_far ?_ (by show b + 1 ≠ b + 2; omega) _; refine blk_put (cs := #[.int .i64 0]) ?_ 0 _ rfl; exact blk_far HY1.out (by show b + 1 ≠ b; omega) _
  · refine blk_drew ?_; refine blk_put (cs := #[.int .i64 0]) ?_ 0 _ rfl; refine blk_far ?_ (by show b + 2 ≠ b + 1; omega) _; exact blk_far HY2.out (by show b + 2 ≠ b; omega) _
  · exact below_drew (Below.setCell (Below.setCell (Below.setCell HB.out (Nat.le_refl _) _) (Nat.le_add_right _ _) _) (Nat.le_add_right _ _) _)
end Go.Proofs.Ytobkdmmnbnpemaa.K
