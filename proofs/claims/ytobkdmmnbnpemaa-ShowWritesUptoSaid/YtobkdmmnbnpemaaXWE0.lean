/- The chapter's example, told. -/
import Derived.Test.YtobkdmmnbnpemaaXWC4
namespace Go.Proofs.Ytobkdmmnbnpemaa.K
open Go.RowKit Go.Proofs.YtobkdmmnbnpemaaW.PrintWords Go.Proofs.YtobkdmmnbnpemaaW.PrintLast Go.Proofs.YtobkdmmnbnpemaaW.PrintMore
attribute [local go_sem] max2_int min2_int max_two min_two max_three min_three max_four min_four
set_option linter.unusedVariables false
set_option linter.unusedSimpArgs false
theorem blk_new' {W : World} {k : Nat} {o : Obj} (h : k = W.heap.size) : (W.alloc o).heap[k]? = some o := by subst h; exact blk_new W o
theorem C_blk {α : Type} {d : Kd α} {W : World} {b : Nat} {cs : List Value} {t : TypeId} {xs : List α} (h : W.heap[b]? = some (.cells cs.toArray t (0, 0))) (hr : Reps (d.K W) d.sz xs cs) (hn : xs.length ≤ 9223372036854775807) : d.C W (some ⟨b, 0, none⟩) xs.length xs := by
  refine ⟨rfl, hn, fun _ => ⟨⟨b, 0, none⟩, rfl, fun j p hj => ⟨_, ?_, hr.2 j p hj, fun i u hi => ?_⟩⟩⟩
  · have hl : j < xs.length := by
      rcases Nat.lt_or_ge j xs.length with q | q
      · exact q
      · rw [List.getElem?_eq_none q] at hj; simp at hj
    have h1 : j * d.sz + d.sz ≤ cs.length := by rw [hr.1, ← Nat.succ_mul]; exact Nat.mul_le_mul_right _ hl
    rw [List.length_take, List.length_drop]; omega
  · have hp : (⟨b, 0, none⟩ : Addr).add (j * d.sz + i) = ⟨b, 0 + (j * d.sz + i), none⟩ := by unfold Addr.add; split <;> simp_all
    rw [hp, Nat.zero_add, blk_cell h]
    rw [List.getElem?_toArray]
    have hi2 : i < d.sz := by
      rcases Nat.lt_or_ge i d.sz with q | q
      · exact q
      · rw [List.getElem?_eq_none (by rw [List.length_take]; omega)] at hi; simp at hi
    rw [List.getElem?_take_of_lt hi2, List.getElem?_drop] at hi
    exact hi
def eN (n : Int) : S38 := ⟨1, n, ⟨#[]⟩, 0, []⟩
def eY : S38 := ⟨5, 0, ⟨#[]⟩, 2, [eN 2, eN 3]⟩
def eX : S38 := ⟨5, 0, ⟨#[]⟩, 2, [eN 1, eY]⟩
def sX : S41 := ⟨4, ⟨#[]⟩, 0, [eX], [], []⟩
def fE (K : Nat) (n : Int) (s : S41) : Option (List UInt8) := if s.f0 = 4 ∧ s.f3.length ≤ 2 then (argsT K s.f3).bind fun xs => head1 xs fun x => some (lineB n [⟨#[101, 109, 105, 116, 32]⟩, x, ⟨#[59]⟩]) else none
theorem stc_none : StC 0 (fun _ _ => none) := by intro k f1 f2 l3 l4 l5 A3 A4 A5 c3 c4 c5 n r t g w0 w h; simp at h
theorem stc_emit (K : Nat) : StC 1 (fE K) := by
  intro k f1 f2 l3 l4 l5 A3 A4 A5 c3 c4 c5 n r t g w0 w h h0 h1 hW hB hC3 hC4 hC5 hc3 hc4 hc5 hs
  unfold fE at h
  by_cases q : k = 4 ∧ l3.length ≤ 2
  · rw [if_pos q] at h
    obtain ⟨XS, hX, h⟩ := Option.bind_eq_some_iff.mp h
    obtain ⟨qk, ql⟩ := q
    subst qk
    cases XS with
    | nil => simp [head1] at h
    | cons x xr => exact stmt_k4 K 0 _ stc_none 4 f1 f2 l3 l4 l5 _ _ _ A3 A4 A5 c3 c4 c5 n r t g w0 w (x :: xr) hX h0 (by omega) hW hB rfl rfl rfl hC3 hC4 hC5 hc3 hc4 hc5 ql hs x xr rfl (Option.some.inj h).symm
  · rw [if_neg q] at h; simp at h
def tX : List UInt8 := [101, 109, 105, 116, 32, 49, 32, 45, 32, 40, 50, 32, 45, 32, 51, 41, 59, 10]
theorem sX_text : sB (fE 60) 0 [sX] = some tX := by kernel_rfl
theorem sX_right : rightB [sX] = true := by kernel_rfl
theorem eX_text : show_Expr.f 60 5 0 ⟨#[]⟩ 2 [eN 1, eY] = some ⟨#[49, 32, 45, 32, 40, 50, 32, 45, 32, 51, 41]⟩ := by kernel_rfl
theorem shl_sign : show_Sign.f 60 9 = some (⟨#[60, 60]⟩, 6) := by kernel_rfl
theorem C_eN (W : World) (n : Int) : k38.K W (eN n) [.int .i64 1, .int .i64 n, .string ⟨#[]⟩, .int .i64 0, .slice none 0 0] := k38_mk W (eN n) (A4 := none) (c4 := 0) (Nat.le_refl _) (Kd.C_nil _ _)
theorem C_eY {W : World} {gB : Nat} (h : W.heap[gB]? = some (.cells #[.int .i64 1, .int .i64 2, .string ⟨#[]⟩, .int .i64 0, .slice none 0 0, .int .i64 1, .int .i64 3, .string ⟨#[]⟩, .int .i64 0, .slice none 0 0] 38 (0, 0))) : k38.C W (some ⟨gB, 0, none⟩) 2 [eN 2, eN 3] :=
  C_blk (cs := [.int .i64 1, .int .i64 2, .string ⟨#[]⟩, .int .i64 0, .slice none 0 0, .int .i64 1, .int .i64 3, .string ⟨#[]⟩, .int .i64 0, .slice none 0 0]) h (Reps.c5 (C_eN W 2) (Reps.c5 (C_eN W 3) (Reps.none _ _))) (by decide)
theorem C_eX {W : World} {gA gB : Nat} (hA : W.heap[gA]? = some (.cells #[.int .i64 1, .int .i64 1, .string ⟨#[]⟩, .int .i64 0, .slice none 0 0, .int .i64 5, .int .i64 0, .string ⟨#[]⟩, .int .i64 2, .slice (some ⟨gB, 0, none⟩) 2 2] 38 (0, 0))) (h : W.heap[gB]? = some (.cells #[.int .i64 1, .int .i64 2, .string ⟨#[]⟩, .int .i64 0, .slice none 0 0, .int .i64 1, .int .i64 3, .string ⟨#[]⟩, .int .i64 0, .slice none 0 0] 38 (0, 0))) : k38.C W (some ⟨gA, 0, none⟩) 2 [eN 1, eY] :=
  C_blk (cs := [.int .i64 1, .int .i64 1, .string ⟨#[]⟩, .int .i64 0, .slice none 0 0, .int .i64 5, .int .i64 0, .string ⟨#[]⟩, .int .i64 2, .slice (some ⟨gB, 0, none⟩) 2 2]) hA (Reps.c5 (C_eN W 1) (Reps.c5 (k38_mk W eY (A4 := some ⟨gB, 0, none⟩) (c4 := 2) (Nat.le_refl _) (C_eY h)) (Reps.none _ _))) (by decide)
theorem C_sX {W : World} {gA gB gC gD : Nat} (hD : W.heap[gD]? = some (.cells #[.int .i64 4, .string ⟨#[]⟩, .int .i64 0, .slice (some ⟨gC, 0, none⟩) 1 1, .slice none 0 0, .slice none 0 0] 41 (0, 0))) (hC : W.heap[gC]? = some (.cells #[.int .i64 5, .int .i64 0, .string ⟨#[]⟩, .int .i64 2, .slice (some ⟨gA, 0, none⟩) 2 2] 38 (0, 0))) (hA : W.heap[gA]? = some (.cells #[.int .i64 1, .int .i64 1, .string ⟨#[]⟩, .int .i64 0, .slice none 0 0, .int .i64 5, .int .i64 0, .string ⟨#[]⟩, .int .i64 2, .slice (some ⟨gB, 0, none⟩) 2 2] 38 (0, 0))) (h : W.heap[gB]? = some (.cells #[.int .i64 1, .int .i64 2, .string ⟨#[]⟩, .int .i64 0, .slice none 0 0, .int .i64 1, .int .i64 3, .string ⟨#[]⟩, .int .i64 0, .slice none 0 0] 38 (0, 0))) : k41.C W (some ⟨gD, 0, none⟩) 1 [sX] :=
  C_blk (cs := [.int .i64 4, .string ⟨#[]⟩, .int .i64 0, .slice (some ⟨gC, 0, none⟩) 1 1, .slice none 0 0, .slice none 0 0]) hD (Reps.c6 (k41_mk W sX (A3 := some ⟨gC, 0, none⟩) (c3 := 1) (A4 := none) (c4 := 0) (A5 := none) (c5 := 0) (Nat.le_refl _)
    (C_blk (cs := [.int .i64 5, .int .i64 0, .string ⟨#[]⟩, .int .i64 2, .slice (some ⟨gA, 0, none⟩) 2 2]) hC (Reps.c5 (k38_mk W eX (A4 := some ⟨gA, 0, none⟩) (c4 := 2) (Nat.le_refl _) (C_eX hA h)) (Reps.none _ _)) (by decide))
    (Nat.le_refl _) (Kd.C_nil _ _) (Nat.le_refl _) (Kd.C_nil _ _)) (Reps.none _ _)) (by decide)
end Go.Proofs.Ytobkdmmnbnpemaa.K
