/- The deferred closure of Parse, where the frame panics: walked by hand. -/
import Derived.Test.YtobkdmmnbnpemaaXRP8b
namespace Go.Proofs.Ytobkdmmnbnpemaa.K
open Go.RowKit Go.Proofs.YtobkdmmnbnpemaaW.PrintWords Go.Proofs.YtobkdmmnbnpemaaW.PrintLast Go.Proofs.YtobkdmmnbnpemaaW.PrintMore
set_option linter.unusedVariables false
set_option linter.unusedSimpArgs false
theorem assert75 (er at_ : Int) (w : World) : (Instr.typeAssert (.iface 75 (.agg #[.int .i64 er, .int .i64 at_])) 20 75 true).run Try.prog w = .ok (.tuple #[.agg #[.int .i64 er, .int .i64 at_], .bool true]) w := by kernel_rfl
def TrapP (b : Nat) (er at_ : Int) (w : World) (e : Ending) (u' : FrameMode) (w' : World) : Prop := e = .returned (.tuple #[]) ∧ u' = .panicking [{ v := .iface 75 (.agg #[.int .i64 er, .int .i64 at_]), recovered := true }] ∧
  (w'.heap[b]? = some (.cells #[.slice none 0 0] 22 (0, 0)) ∧ w'.heap[b + 1]? = some (.cells #[.int .i64 at_] 3 (0, 0)) ∧ w'.heap[b + 2]? = some (.cells #[.int .i64 er] 24 (0, 0))) ∧ Below b w w'
set_option maxHeartbeats 4000000 in
set_option maxRecDepth 100000 in
theorem trap_L (b : Nat) (er at_ : Int) (v : Value) (w : World) (h0 : w.heap[b]? = some (.cells #[v] 22 (0, 0))) (h1 : w.heap[b + 1]? = some (.cells #[.int .i64 0] 3 (0, 0))) (h2 : w.heap[b + 2]? = some (.cells #[.int .i64 0] 24 (0, 0))) :
    CallsD Try.prog 45 #[.pointer (some ⟨b, 0, none⟩), .pointer (some ⟨b + 1, 0, none⟩), .pointer (some ⟨b + 2, 0, none⟩)] (.panicking [stopV er at_]) w (TrapP b er at_ w) := by
  have has := fun w => assert75 er at_ w
  have hu75 : Try.prog.underlying 75 = _ := Try.underlying75
  refine callsD_of_wpS Try.func45 rfl fun c₀ cs hu => ?_
  have ht : (#[Value.pointer (some ⟨b, 0, none⟩), .pointer (some ⟨b + 1, 0, none⟩), .pointer (some ⟨b + 2, 0, none⟩)] ++ Array.replicate (Try.f45.ntmps - #[Value.pointer (some ⟨b, 0, none⟩), .pointer (some ⟨b + 1, 0, none⟩), .pointer (some ⟨b + 2, 0, none⟩)].size) undef : Array Value) = #[Value.pointer (some ⟨b, 0, none⟩), .pointer (some ⟨b + 1, 0, none⟩), .pointer (some ⟨b + 2, 0, none⟩), undef, undef, undef, undef, undef, undef, undef, undef, undef, undef, undef, undef, undef, undef, undef, undef, undef, undef] := by kernel_rfl
  rw [ht]
  apply wpS_seq
  apply wpS_region
  simp [wpOpsS, go_sem, recoverD, hu, stopV, Exit.thenS]
  apply wpS_seq
  apply wpS_region
  simp [wpOpsS, go_sem, recoverD, hu, Exit.thenS]
  refine wpS_cond (t := true) (by simp [Act.eval]) ?_
  simp only [if_true]
  refine wpS_of_wp ?_
  clear hu ht
  have hl0 := blk_lt h0
  have hl1 := blk_lt h1
  have hl2 := blk_lt h2
  go_upto_region 5 with fail
  clear has
  generalize hgx : w.heap.size = gx at *
  generalize hwq : World.alloc w (Obj.cells #[Value.int IntKind.i64 er, Value.int IntKind.i64 at_] 75) = wq
  have hB : Below b w wq := by rw [← hwq]; exact Below.alloc (Below.refl _ _) (by omega) _
  have hX : wq.heap[gx]? = some (.cells #[.int .i64 er, .int .i64 at_] 75 (0, 0)) := by rw [← hwq, ← hgx]; exact blk_new _ _
  have hY0 : wq.heap[b]? = some (.cells #[v] 22 (0, 0)) := by rw [← hwq]; exact blk_alloc h0 _
  have hY1 : wq.heap[b + 1]? = some (.cells #[.int .i64 0] 3 (0, 0)) := by rw [← hwq]; exact blk_alloc h1 _
  have hY2 : wq.heap[b + 2]? = some (.cells #[.int .i64 0] 24 (0, 0)) := by rw [← hwq]; exact blk_alloc h2 _
  have hbl : b ≤ w.heap.size := by omega
  clear hwq hgx h0 h1 h2
  have HB := Aside0.mk hB
  have HY0 := Aside0.mk hY0
  have HY1 := Aside0.mk hY1
  have HY2 := Aside0.mk hY2
  obtain ⟨c0, f0⟩ := one_ hY0
  obtain ⟨c1, f1⟩ := one_ hY1
  obtain ⟨c2, f2⟩ := one_ hY2
  have x0 := blk_cell hX 0
  have x1 := blk_cell hX 1
  have y0 := blk_frozen hX 0
  have y1 := blk_frozen hX 1
  replace x0 := x0.trans rfl
  replace x1 := x1.trans rfl
  clear hB hX hY0 hY1 hY2
  have n0 : gx ≠ b := by omega
  have n1 : gx ≠ b + 1 := by omega
  have n2 : gx ≠ b + 2 := by omega
  have n0' : b ≠ gx := by omega
  have n1' : b + 1 ≠ gx := by omega
  have n2' : b + 2 ≠ gx := by omega
  clear hl0 hl1 hl2
  go_wp2_with fail
  go_region
  refine ⟨rfl, _, rfl, .tuple #[], by simp [results, Try.results45, go_sem], rfl, rfl, ⟨?_, ?_, ?_⟩, ?_⟩
  · refine blk_drew ?_; refine blk_far ?_ (by show b ≠ b + 2; omega) _; refine blk_far ?_ (by show b ≠ b + 1; omega) _; exact blk_put (cs := #[v]) HY0.out 0 _ rfl
  · refine blk_drew ?_; refine blk_far ?_ (by show b + 1 ≠ b + 2; omega) _; refine blk_put (cs := #[.int .i64 0]) ?_ 0 _ rfl; exact blk_far HY1.out (by show b + 1 ≠ b; omega) _
  · refine blk_drew ?_; refine blk_put (cs := #[.int .i64 0]) ?_ 0 _ rfl; refine blk_far ?_ (by show b + 2 ≠ b + 1; omega) _; exact blk_far HY2.out (by show b + 2 ≠ b; omega) _
  · exact below_drew (Below.setCell (Below.setCell (Below.setCell HB.out (Nat.le_refl _) _) (Nat.le_add_right _ _) _) (Nat.le_add_right _ _) _)
end Go.Proofs.Ytobkdmmnbnpemaa.K
