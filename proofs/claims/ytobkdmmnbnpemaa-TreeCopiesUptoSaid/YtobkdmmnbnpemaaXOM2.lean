/- The reference's Right and Great, told. -/
import Derived.Test.YtobkdmmnbnpemaaXOM1
import Derived.Test.YtobkdmmnbnpemaaXOPR5
namespace Go.Proofs.Ytobkdmmnbnpemaa.K
open Go.RowKit Go.Proofs.YtobkdmmnbnpemaaW.PrintWords Go.Proofs.YtobkdmmnbnpemaaW.PrintLast Go.Proofs.YtobkdmmnbnpemaaW.PrintMore
attribute [local go_sem] max2_int min2_int max_two min_two max_three min_three max_four min_four
set_option linter.unusedVariables false
set_option linter.unusedSimpArgs false
theorem great_L (l : List S41) (A : Option Addr) (c : Nat) (w : World) (hC : Kd.C k41 w A l.length l) (hc : l.length ≤ c) (h : cntB l ≤ 1000000) (b : Bool) (hb : decide (5000 < cntB l) = b) :
    Calls Try.prog 15 #[.slice A l.length c] w fun r w' => r = .returned (.bool b) ∧ Below w.heap.size w w' := by
  obtain ⟨k, hk⟩ := nodes_ok l h
  refine outriderlaw04_Great.calls k A c _ _ w hC hc ?_
  unfold outriderlaw04_Great.f
  rw [hk, Option.bind_some, ← hb]
  congr 1
  by_cases z : 5000 < cntB l
  · rw [decide_eq_true z, decide_eq_true (by omega)]
  · rw [decide_eq_false z, decide_eq_false (by omega)]
end Go.Proofs.Ytobkdmmnbnpemaa.K
