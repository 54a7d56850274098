/- lex.Cut, as the parser takes it. -/
import Derived.Test.YtobkdmmnbnpemaaXJX7
import Derived.Test.YtobkdmmnbnpemaaXJP8
namespace Go.Proofs.Ytobkdmmnbnpemaa.K
open Go.RowKit Go.Proofs.YtobkdmmnbnpemaaW.PrintWords Go.Proofs.YtobkdmmnbnpemaaW.PrintLast Go.Proofs.YtobkdmmnbnpemaaW.PrintMore
set_option linter.unusedVariables false
theorem cut_R {w w' : World} {v : Value} {T : List S58} (h : Kd.R k58 58 w' w.heap.size (fun _ => True) v T) : ∃ A c, v = .slice A T.length c ∧ Kd.F k58 w' (newO w w') A T.length T := by
  obtain ⟨h0, inner, ho, hr⟩ := h; have hF := F_own (d := k58) (ok := newO w w') ho (fun k hk => ⟨own_base ho k hk, own_lt ho k hk⟩)
    (fun W' _ => hr.imp_ (fun x cs hx => by rw [Lx.k33_openM hx]; exact k58_mk W' x)) rfl (by decide)
  obtain ⟨A', c', h1, h2, _⟩ := hF; exact ⟨A', c', h1, h2⟩
theorem cut_nil {w w' : World} {v : Value} (h : Kd.R k58 58 w' w.heap.size (fun _ => True) v []) : ∃ A c, v = .slice A 0 c := by
  obtain ⟨A, c, h1, _⟩ := cut_R h; exact ⟨A, c, h1⟩
theorem cut_C (s : ByteArray) (T : List S58) (h : Lx.cutP s = (T, 0, 0)) : CutC s (.ok T) := fun w => by
  have hf := Lx.cut_f s; rw [h] at hf; refine (Lx.lex_Cut.calls s T 0 0 w hf).mono ?_; rintro e w' ⟨v, rfl, hR, hB⟩; obtain ⟨A, c, rfl, hF⟩ := cut_R hR; exact ⟨hB, A, c, rfl, hF⟩
end Go.Proofs.Ytobkdmmnbnpemaa.K
