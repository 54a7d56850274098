/- The parser's stmt (for a word), walked by hand. -/
import Derived.Test.YtobkdmmnbnpemaaXJP6
namespace Go.Proofs.Ytobkdmmnbnpemaa.K
open Go.RowKit Go.Proofs.YtobkdmmnbnpemaaW.PrintWords Go.Proofs.YtobkdmmnbnpemaaW.PrintLast Go.Proofs.YtobkdmmnbnpemaaW.PrintMore
attribute [local go_sem] max2_int min2_int max_two min_two max_three min_three max_four min_four
set_option linter.unusedVariables false
set_option linter.unusedSimpArgs false
theorem SV.ok.step {W W1 : World} {ok : Nat → Prop} {p : SV} (h : p.ok W ok) (hm : ∀ k, ok k → k < W.heap.size → W1.heap[k]? = W.heap[k]?) : p.ok W1 ok := ⟨⟨Kd.F_step h.1.1 hm, h.1.2⟩, ⟨Kd.F_step h.2.1.1 hm, h.2.1.2⟩, ⟨Kd.F_step h.2.2.1 hm, h.2.2.2⟩⟩
theorem SV.ok.mono {W : World} {ok ok' : Nat → Prop} {p : SV} (h : p.ok W ok) (hm : ∀ k, ok k → ok' k) : p.ok W ok' := ⟨⟨Kd.F_mono h.1.1 hm, h.1.2⟩, ⟨Kd.F_mono h.2.1.1 hm, h.2.1.2⟩, ⟨Kd.F_mono h.2.2.1 hm, h.2.2.2⟩⟩
theorem SV.ok.bound {W : World} {ok : Nat → Prop} {p : SV} (h : p.ok W ok) : p.ok W (fun k => ok k ∧ k < W.heap.size) := ⟨⟨Kd.F_bound h.1.1, h.1.2⟩, ⟨Kd.F_bound h.2.1.1, h.2.1.2⟩, ⟨Kd.F_bound h.2.2.1, h.2.2.2⟩⟩
def StmC (T : List S58) (f : PSt → Option SRes) : Prop := ∀ (s : PSt) (r : SRes) (g : Nat) (A : Option Addr) (c : Nat) (w : World), f s = some r → RD w g A c T s → Calls Try.prog 47 #[.pointer (some ⟨g, 0, none⟩)] w (PStm w g A c T r)
theorem StmC.use {T : List S58} {f : PSt → Option SRes} (h : StmC T f) (s : PSt) (r : SRes) (g : Nat) (A : Option Addr) (c : Nat) (w : World) (h1 : f s = some r) (h2 : RD w g A c T s) : Calls Try.prog 47 #[.pointer (some ⟨g, 0, none⟩)] w (PStm w g A c T r) := h s r g A c w h1 h2
end Go.Proofs.Ytobkdmmnbnpemaa.K
