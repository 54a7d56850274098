/- The parser's Parse: what it gives, its deferred closure, the new row's cells. -/
import Derived.Test.YtobkdmmnbnpemaaXRP8
namespace Go.Proofs.Ytobkdmmnbnpemaa.K
open Go.RowKit Go.Proofs.YtobkdmmnbnpemaaW.PrintWords Go.Proofs.YtobkdmmnbnpemaaW.PrintLast Go.Proofs.YtobkdmmnbnpemaaW.PrintMore
attribute [local go_sem] max2_int min2_int max_two min_two max_three min_three max_four min_four
set_option linter.unusedVariables false
set_option linter.unusedSimpArgs false
def parsF (T : List S58) (st : PSt → Option SRes) : Nat → List S41 → PSt → Option (Except (Int × Int) (List S41))
  | 0, _, _ => none
  | k + 1, xs, s => if (0 ≤ s.at_ ∧ s.at_ < T.length) ∧ xs.length < 1000 then
      (if (rd_T58 T s.at_).f0 = 0 then some (.ok xs) else match st s with
        | none => none
        | some (.error e) => some (.error e)
        | some (.ok (x, s1)) => parsF T st k (xs ++ [x]) s1)
    else none
def PPar (w : World) (r : Except (Int × Int) (List S41)) (e : Ending) (w' : World) : Prop := Below w.heap.size w w' ∧ match r with
  | .ok l => ∃ A c, e = .returned (.tuple #[.slice A l.length c, .int .i64 0, .int .i64 0]) ∧ Kd.F k41 w' (newO w w') A l.length l ∧ l.length ≤ c
  | .error (er, at_) => e = .returned (.tuple #[.slice none 0 0, .int .i64 at_, .int .i64 er])
theorem PPar.ok {w w' : World} {l : List S41} {e : Ending} (h : PPar w (.ok l) e w') : ∃ A c, e = .returned (.tuple #[.slice A l.length c, .int .i64 0, .int .i64 0]) ∧ Kd.F k41 w' (newO w w') A l.length l ∧ l.length ≤ c ∧ Below w.heap.size w w' := by
  obtain ⟨h1, A, c, h2, h3, h4⟩ := h; exact ⟨A, c, h2, h3, h4, h1⟩
theorem PPar.err {w w' : World} {er at_ : Int} {e : Ending} (h : PPar w (.error (er, at_)) e w') : e = .returned (.tuple #[.slice none 0 0, .int .i64 at_, .int .i64 er]) ∧ Below w.heap.size w w' := ⟨h.2, h.1⟩
theorem reps_sv {W : World} {ok : Nat → Prop} : ∀ xs : List SV, (∀ p ∈ xs, p.ok W ok) → Foot (fun W => Reps (k41.K W) 6 (xs.map (·.x)) (xs.flatMap SV.cs)) W ok
  | [], _ => fun W' _ => Reps.none _ _
  | p :: ps, h => fun W' hW => by
    have hp := h p (List.mem_cons_self ..)
    have ih := reps_sv ps (fun q hq => h q (List.mem_cons_of_mem _ hq)) W' hW
    exact Reps.c6 (k41_mk W' p.x hp.1.2 (hp.1.1 W' hW) hp.2.1.2 (hp.2.1.1 W' hW) hp.2.2.2 (hp.2.2.1 W' hW)) ih
theorem PI.rows {w W : World} {g : Nat} {A : Option Addr} {c : Nat} {T : List S58} {s : PSt} {v : Value} {xs : List SV} (h : PI w W g A c T s v xs) :
    ∃ A' c', v = .slice A' xs.length c' ∧ Kd.F k41 W (newO w W) A' (xs.map (·.x)).length (xs.map (·.x)) ∧ xs.length ≤ c' := by
  obtain ⟨o', h3, h4⟩ := h.el
  have hF := F_own (d := k41) (ok := newO w W) h.row (fun k hk => ⟨own_base h.row k hk, own_lt h.row k hk⟩)
    (reps_sv xs (fun x hx => (h3 x hx).bound.mono (fun k hk => ⟨by have := h4 k hk.1; omega, hk.2⟩))) (by simp) (by decide)
  obtain ⟨A', c', h1, h2, h5⟩ := hF
  exact ⟨A', c', h1, by rw [List.length_map]; exact h2, h5⟩
theorem new_cells {w1 : World} {base gb n cap : Nat} {cs : List Value} (hn : cs.length = n * 6) (ho : w1.ownsRow base 41 6 (.slice (some ⟨gb, 0, none⟩) (n + 1) cap) (n + 1) (cs ++ z6L)) :
    (w1.cell? ⟨gb, n * 6, none⟩ = some (.int .i64 0) ∧ w1.cell? ⟨gb, n * 6 + 1, none⟩ = some (.string (⟨#[]⟩ : ByteArray)) ∧ w1.cell? ⟨gb, n * 6 + 2, none⟩ = some (.int .i64 0) ∧ w1.cell? ⟨gb, n * 6 + 3, none⟩ = some (.slice none 0 0) ∧ w1.cell? ⟨gb, n * 6 + 4, none⟩ = some (.slice none 0 0) ∧ w1.cell? ⟨gb, n * 6 + 5, none⟩ = some (.slice none 0 0))
    ∧ (w1.frozen? ⟨gb, n * 6, none⟩ = false ∧ w1.frozen? ⟨gb, n * 6 + 1, none⟩ = false ∧ w1.frozen? ⟨gb, n * 6 + 2, none⟩ = false ∧ w1.frozen? ⟨gb, n * 6 + 3, none⟩ = false ∧ w1.frozen? ⟨gb, n * 6 + 4, none⟩ = false ∧ w1.frozen? ⟨gb, n * 6 + 5, none⟩ = false) := by
  have hc : ∀ i, i < 6 → w1.cell? ⟨gb, n * 6 + i, none⟩ = z6L[i]? := fun i hi => by
    rw [ho.cellAt (n * 6 + i) (by omega), List.getElem?_append_right (by omega), hn]
    congr 1; omega
  exact ⟨⟨hc 0 (by omega), hc 1 (by omega), hc 2 (by omega), hc 3 (by omega), hc 4 (by omega), hc 5 (by omega)⟩, ho.frozenAt _, ho.frozenAt _, ho.frozenAt _, ho.frozenAt _, ho.frozenAt _, ho.frozenAt _⟩
theorem field58_0 (a : Int) (s : ByteArray) (b c : Int) (W : World) : (Instr.field 58 (.agg #[.int .i64 a, .string s, .int .i64 b, .int .i64 c]) 0).run Try.prog W = .ok (.int .i64 a) W := by kernel_rfl
theorem idle_L (p0 p1 p2 : Value) (w : World) : CallsD Try.prog 45 #[p0, p1, p2] .returning w fun e u' w' => e = .returned (.tuple #[]) ∧ u' = .returning ∧ w' = w := by
  refine callsD_of_wpS Try.func45 rfl fun c₀ cs hu => ?_
  apply wpS_seq
  apply wpS_region
  simp [wpOpsS, go_sem, recoverD, hu, Try.ntmps45, Exit.thenS]
  apply wpS_seq
  apply wpS_region
  simp [wpOpsS, go_sem, recoverD, hu, Try.ntmps45, Exit.thenS]
  refine wpS_cond (t := false) (by simp [Act.eval, Array.replicate]) ?_
  simp only [Bool.false_eq_true, if_false]
  refine wpS_of_wp (wp_skip ?_)
  cases c₀
  simp_all [bodyPostS, results, Try.results45]
end Go.Proofs.Ytobkdmmnbnpemaa.K
