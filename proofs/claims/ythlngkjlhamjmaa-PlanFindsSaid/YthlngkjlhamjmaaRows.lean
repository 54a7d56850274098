/-
  No cell of these rows narrows 'for every input' (looked for: loops, veiled, ifaces, maps, wideKeys, modest, calm, conditions, laid).
  DERIVED. THE GIVEN ROWS OF THIS SEAT. 5 by the template 'for every input the law returns true; each argument reads behind the call as it read before'; 0 by the template 'total and deterministic' (their statements: YthlngkjlhamjmaaTotals.lean).
  GIVEN WITH THE SEED: the statements are not yours to turn. If you find one false, say at which input.
  Laid BY PROGRAM, IN A SANDBOX (cutbox-rows.mjs): the forced cells as the released guide's own fill.sh prints them over the translation de14a48539693217… (all of the seat's roots in one cut). By AI agents, Wed Nov 11 2026. No macro, syntax, notation, axiom, sorry.
-/
import Derived.Test.YthlngkjlhamjmaaChecked
import GoSem.Claim
import GoSem.ClaimJoined
import GoSem.ClaimMapViews
import Derived.JoinedTies
import Derived.KernelRfl
namespace Go.Proofs.Ythlngkjlhamjmaa
/- THE CELL 'sum', in the pinned program and in every row, IS THE sha256 OF THE DUMP (.gsa) THAT YthlngkjlhamjmaaProg.lean LOADS. Nothing in Lean hashes anything: it is a label: what it is worth is what the hold of that sum in a sandbox is worth. -/
noncomputable def Try.pinned : Pinned := { name := "ythlngkjlhamjmaa", sum := "de14a485396932175647cc29fd9bb45652b3a7181eb6831809a31a79771673df", checked := Try.checked }
namespace Rows
def none {H : Type} : Left H := { results := [], args := [] }

/-- 'outriderlaw15.PlanTasks': WHATEVER THE INPUT: true; the input reads as it did. -/
def planTasksSpec : ChangeSpec := { name := "planTasks", fn := fun _ => fun
  | [d1, d2] => { results := [.lit (.bool true)], args := [d1, d2] }
  | _ => none }
def planTasksRow : OpenClaim := { program := "ythlngkjlhamjmaa", sum := "de14a485396932175647cc29fd9bb45652b3a7181eb6831809a31a79771673df", func := "outrider/outriderlaw15.PlanTasks", spec := "planTasks", apart := false }
def PlanTasksSaid : Prop := planTasksRow.holds Try.pinned (OpenSpec.ofChange planTasksSpec)

/-- ITS FALSE NEIGHBOUR: 'it returns false'. Refute it at one input. -/
def planTasksWrong : ChangeSpec := { name := "planTasks", fn := fun _ => fun
  | [d1, d2] => { results := [.lit (.bool false)], args := [d1, d2] }
  | _ => none }
def PlanTasksWrongFalsely : Prop := planTasksRow.holds Try.pinned (OpenSpec.ofChange planTasksWrong)

/-- 'outriderlaw15.PlanFinds': WHATEVER THE INPUT: true; the input reads as it did. -/
def planFindsSpec : ChangeSpec := { name := "planFinds", fn := fun _ => fun
  | [d1, d2, d3] => { results := [.lit (.bool true)], args := [d1, d2, d3] }
  | _ => none }
def planFindsRow : OpenClaim := { program := "ythlngkjlhamjmaa", sum := "de14a485396932175647cc29fd9bb45652b3a7181eb6831809a31a79771673df", func := "outrider/outriderlaw15.PlanFinds", spec := "planFinds", apart := false }
def PlanFindsSaid : Prop := planFindsRow.holds Try.pinned (OpenSpec.ofChange planFindsSpec)

/-- ITS FALSE NEIGHBOUR: 'it returns false'. Refute it at one input. -/
def planFindsWrong : ChangeSpec := { name := "planFinds", fn := fun _ => fun
  | [d1, d2, d3] => { results := [.lit (.bool false)], args := [d1, d2, d3] }
  | _ => none }
def PlanFindsWrongFalsely : Prop := planFindsRow.holds Try.pinned (OpenSpec.ofChange planFindsWrong)

/-- 'outriderlaw15.PlanBack': WHATEVER THE INPUT: true; the input reads as it did. -/
def planBackSpec : ChangeSpec := { name := "planBack", fn := fun _ => fun
  | [d1, d2] => { results := [.lit (.bool true)], args := [d1, d2] }
  | _ => none }
def planBackRow : OpenClaim := { program := "ythlngkjlhamjmaa", sum := "de14a485396932175647cc29fd9bb45652b3a7181eb6831809a31a79771673df", func := "outrider/outriderlaw15.PlanBack", spec := "planBack", apart := false }
def PlanBackSaid : Prop := planBackRow.holds Try.pinned (OpenSpec.ofChange planBackSpec)

/-- ITS FALSE NEIGHBOUR: 'it returns false'. Refute it at one input. -/
def planBackWrong : ChangeSpec := { name := "planBack", fn := fun _ => fun
  | [d1, d2] => { results := [.lit (.bool false)], args := [d1, d2] }
  | _ => none }
def PlanBackWrongFalsely : Prop := planBackRow.holds Try.pinned (OpenSpec.ofChange planBackWrong)

/-- 'outriderlaw15.PlanMoves': WHATEVER THE INPUT: true; the input reads as it did. -/
def planMovesSpec : ChangeSpec := { name := "planMoves", fn := fun _ => fun
  | [d1, d2, d3] => { results := [.lit (.bool true)], args := [d1, d2, d3] }
  | _ => none }
def planMovesRow : OpenClaim := { program := "ythlngkjlhamjmaa", sum := "de14a485396932175647cc29fd9bb45652b3a7181eb6831809a31a79771673df", func := "outrider/outriderlaw15.PlanMoves", spec := "planMoves", apart := false }
def PlanMovesSaid : Prop := planMovesRow.holds Try.pinned (OpenSpec.ofChange planMovesSpec)

/-- ITS FALSE NEIGHBOUR: 'it returns false'. Refute it at one input. -/
def planMovesWrong : ChangeSpec := { name := "planMoves", fn := fun _ => fun
  | [d1, d2, d3] => { results := [.lit (.bool false)], args := [d1, d2, d3] }
  | _ => none }
def PlanMovesWrongFalsely : Prop := planMovesRow.holds Try.pinned (OpenSpec.ofChange planMovesWrong)

/-- 'outriderlaw15.PlanCounts': WHATEVER THE INPUT: true; the input reads as it did. -/
def planCountsSpec : ChangeSpec := { name := "planCounts", fn := fun _ => fun
  | [d] => { results := [.lit (.bool true)], args := [d] }
  | _ => none }
def planCountsRow : OpenClaim := { program := "ythlngkjlhamjmaa", sum := "de14a485396932175647cc29fd9bb45652b3a7181eb6831809a31a79771673df", func := "outrider/outriderlaw15.PlanCounts", spec := "planCounts", apart := false }
def PlanCountsSaid : Prop := planCountsRow.holds Try.pinned (OpenSpec.ofChange planCountsSpec)

/-- ITS FALSE NEIGHBOUR: 'it returns false'. Refute it at one input. -/
def planCountsWrong : ChangeSpec := { name := "planCounts", fn := fun _ => fun
  | [d] => { results := [.lit (.bool false)], args := [d] }
  | _ => none }
def PlanCountsWrongFalsely : Prop := planCountsRow.holds Try.pinned (OpenSpec.ofChange planCountsWrong)

/- THE SECOND FORM. 'bulk': how many values and letters a reading holds, each counted each time it is reached (what is shared counts as often as it is met; a slice's spare places count too). A statement '..UptoSaid' is the law's where the arguments, and the package variables that the reading takes, are together of bulk at most 1048576: NARROWER than '..Said'. Prove '..Said' where nothing that the law and all that it calls make is longer than what came in: it says more and counts as full. Else prove '..UptoSaid'. A law counts once. -/
mutual
def uptoBulk {H : Type} : DataW H → Nat
  | .lit (.string bytes) => bytes.length + 1
  | .lit _ => 1
  | .nil => 1
  | .ptr d => uptoBulk d + 1
  | .slice elems spare => uptoBulkAll elems + uptoBulkAll spare + 1
  | .agg parts => uptoBulkAll parts + 1
  | .iface _ d => uptoBulk d + 1
  | .map entries => uptoBulkEntries entries + 1
  | .held _ => 1
def uptoBulkAll {H : Type} : List (DataW H) → Nat
  | [] => 0
  | d :: r => uptoBulk d + uptoBulkAll r
def uptoBulkEntries {H : Type} : List (Lit × DataW H) → Nat
  | [] => 0
  | x :: r => uptoBulkEntry x + uptoBulkEntries r
def uptoBulkEntry {H : Type} : Lit × DataW H → Nat
  | (.string bytes, d) => bytes.length + uptoBulk d + 1
  | (_, d) => uptoBulk d + 1
 end
def uptoSmall : (H : Type) → List (DataW H) → Bool := fun _ ds => decide (uptoBulkAll ds ≤ 1048576)
def OpenSpec.upto (s : _root_.Go.ChangeSpec) : _root_.Go.OpenSpec := { _root_.Go.OpenSpec.ofChange s with cond := some uptoSmall }

/-- 'outriderlaw15.PlanTasks', WHERE WHAT IT READS IS OF BULK AT MOST 1048576: true; the input reads as it did. -/
def planTasksUptoRow : OpenClaim := { program := "ythlngkjlhamjmaa", sum := "de14a485396932175647cc29fd9bb45652b3a7181eb6831809a31a79771673df", func := "outrider/outriderlaw15.PlanTasks", spec := "planTasks", apart := false, narrowed := true }
def PlanTasksUptoSaid : Prop := planTasksUptoRow.holds Try.pinned (OpenSpec.upto planTasksSpec)

/-- 'outriderlaw15.PlanFinds', WHERE WHAT IT READS IS OF BULK AT MOST 1048576: true; the input reads as it did. -/
def planFindsUptoRow : OpenClaim := { program := "ythlngkjlhamjmaa", sum := "de14a485396932175647cc29fd9bb45652b3a7181eb6831809a31a79771673df", func := "outrider/outriderlaw15.PlanFinds", spec := "planFinds", apart := false, narrowed := true }
def PlanFindsUptoSaid : Prop := planFindsUptoRow.holds Try.pinned (OpenSpec.upto planFindsSpec)

/-- 'outriderlaw15.PlanBack', WHERE WHAT IT READS IS OF BULK AT MOST 1048576: true; the input reads as it did. -/
def planBackUptoRow : OpenClaim := { program := "ythlngkjlhamjmaa", sum := "de14a485396932175647cc29fd9bb45652b3a7181eb6831809a31a79771673df", func := "outrider/outriderlaw15.PlanBack", spec := "planBack", apart := false, narrowed := true }
def PlanBackUptoSaid : Prop := planBackUptoRow.holds Try.pinned (OpenSpec.upto planBackSpec)

/-- 'outriderlaw15.PlanMoves', WHERE WHAT IT READS IS OF BULK AT MOST 1048576: true; the input reads as it did. -/
def planMovesUptoRow : OpenClaim := { program := "ythlngkjlhamjmaa", sum := "de14a485396932175647cc29fd9bb45652b3a7181eb6831809a31a79771673df", func := "outrider/outriderlaw15.PlanMoves", spec := "planMoves", apart := false, narrowed := true }
def PlanMovesUptoSaid : Prop := planMovesUptoRow.holds Try.pinned (OpenSpec.upto planMovesSpec)

/-- 'outriderlaw15.PlanCounts', WHERE WHAT IT READS IS OF BULK AT MOST 1048576: true; the input reads as it did. -/
def planCountsUptoRow : OpenClaim := { program := "ythlngkjlhamjmaa", sum := "de14a485396932175647cc29fd9bb45652b3a7181eb6831809a31a79771673df", func := "outrider/outriderlaw15.PlanCounts", spec := "planCounts", apart := false, narrowed := true }
def PlanCountsUptoSaid : Prop := planCountsUptoRow.holds Try.pinned (OpenSpec.upto planCountsSpec)

end Rows
end Go.Proofs.Ythlngkjlhamjmaa
