/- The parser's one and above, walked by hand. -/
import Derived.Test.YtobkdmmnbnpemaaXJP3
import Derived.Test.YtobkdmmnbnpemaaXJK3
namespace Go.Proofs.Ytobkdmmnbnpemaa.K
open Go.RowKit Go.Proofs.YtobkdmmnbnpemaaW.PrintWords Go.Proofs.YtobkdmmnbnpemaaW.PrintLast Go.Proofs.YtobkdmmnbnpemaaW.PrintMore
attribute [local go_sem] max2_int min2_int max_two min_two max_three min_three max_four min_four
set_option linter.unusedVariables false
set_option linter.unusedSimpArgs false
abbrev Res := Except (Int × Int) ((S38 × Int) × PSt)
def deepQ : List (S38 × Int) → Int → Int
  | [], m => m
  | p :: ps, m => deepQ ps (max m (p.2 + 1))
def nodeQ (s : PSt) (t3 : Int) (k nm : Int) (st : ByteArray) (op : Int) (ps : List (S38 × Int)) : Res :=
  if 48 < deepQ ps 1 then .error (41, t3) else if 600 < s.nodes + 1 then .error (42, t3) else .ok ((⟨k, nm, st, op, ps.map (·.1)⟩, deepQ ps 1), ⟨s.at_, s.nodes + 1, s.op, s.bl⟩)
def PV.pr (p : PV) : S38 × Int := (p.x, p.d)
theorem deepQ_eq : ∀ (ps : List PV) (m : Int), deepP ps m = deepQ (ps.map PV.pr) m
  | [], m => rfl
  | p :: ps, m => deepQ_eq ps _
theorem nodeQ_eq (a n q b t3 k nm : Int) (st : ByteArray) (op : Int) (ps : List PV) : nodeP a n q b t3 k nm st op ps = nodeQ ⟨a, n, q, b⟩ t3 k nm st op (ps.map PV.pr) := by
  unfold nodeP nodeQ; rw [deepQ_eq, List.map_map]
  rfl
def goodS (T : List S58) (s : PSt) : Prop := (0 ≤ s.at_ ∧ s.at_ < T.length) ∧ 0 ≤ s.nodes ∧ s.nodes ≤ 600
instance (T : List S58) (s : PSt) : Decidable (goodS T s) := by unfold goodS; infer_instance
def OneC (T : List S58) (f : PSt → Option Res) : Prop := ∀ (s : PSt) (r : Res) (g : Nat) (A : Option Addr) (c : Nat) (w : World), f s = some r → RD w g A c T s → Calls Try.prog 126 #[.pointer (some ⟨g, 0, none⟩)] w (PPart w g A c T r)
end Go.Proofs.Ytobkdmmnbnpemaa.K
