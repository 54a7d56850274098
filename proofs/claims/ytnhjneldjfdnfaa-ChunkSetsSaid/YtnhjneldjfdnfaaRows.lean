/-
  No cell of these rows narrows 'for every input' (looked for: loops, veiled, ifaces, maps, wideKeys, modest, calm, conditions, laid).
  DERIVED. THE GIVEN ROWS OF THIS SEAT. 4 by the template 'for every input the law returns true; each argument reads behind the call as it read before'; 0 by the template 'total and deterministic' (their statements: YtnhjneldjfdnfaaTotals.lean).
  GIVEN WITH THE SEED: the statements are not yours to turn. If you find one false, say at which input.
  Laid BY PROGRAM, IN A SANDBOX (cutbox-rows.mjs): the forced cells as the released guide's own fill.sh prints them over the translation 85442eb0f1f72a35… (all of the seat's roots in one cut). By AI agents, Wed Nov 11 2026. No macro, syntax, notation, axiom, sorry.
-/
import Derived.Test.YtnhjneldjfdnfaaChecked
import GoSem.Claim
import GoSem.ClaimJoined
import GoSem.ClaimMapViews
import Derived.JoinedTies
import Derived.KernelRfl
namespace Go.Proofs.Ytnhjneldjfdnfaa
/- THE CELL 'sum', in the pinned program and in every row, IS THE sha256 OF THE DUMP (.gsa) THAT YtnhjneldjfdnfaaProg.lean LOADS. Nothing in Lean hashes anything: it is a label: what it is worth is what the hold of that sum in a sandbox is worth. -/
noncomputable def Try.pinned : Pinned := { name := "ytnhjneldjfdnfaa", sum := "85442eb0f1f72a35d97fc9812d971fd9eb60798023c5a8ad765227a3d20fd2e4", checked := Try.checked }
namespace Rows
def none {H : Type} : Left H := { results := [], args := [] }

/-- 'outriderlaw16.ChunkOnce': WHATEVER THE INPUT: true; the input reads as it did. -/
def chunkOnceSpec : ChangeSpec := { name := "chunkOnce", fn := fun _ => fun
  | [d] => { results := [.lit (.bool true)], args := [d] }
  | _ => none }
def chunkOnceRow : OpenClaim := { program := "ytnhjneldjfdnfaa", sum := "85442eb0f1f72a35d97fc9812d971fd9eb60798023c5a8ad765227a3d20fd2e4", func := "outrider/outriderlaw16.ChunkOnce", spec := "chunkOnce", unfollowed := true, recurses := true, apart := false }
def ChunkOnceSaid : Prop := chunkOnceRow.holds Try.pinned (OpenSpec.ofChange chunkOnceSpec)

/-- ITS FALSE NEIGHBOUR: 'it returns false'. Refute it at one input. -/
def chunkOnceWrong : ChangeSpec := { name := "chunkOnce", fn := fun _ => fun
  | [d] => { results := [.lit (.bool false)], args := [d] }
  | _ => none }
def ChunkOnceWrongFalsely : Prop := chunkOnceRow.holds Try.pinned (OpenSpec.ofChange chunkOnceWrong)

/-- 'outriderlaw16.ChunkLeast': WHATEVER THE INPUT: true; the input reads as it did. -/
def chunkLeastSpec : ChangeSpec := { name := "chunkLeast", fn := fun _ => fun
  | [d] => { results := [.lit (.bool true)], args := [d] }
  | _ => none }
def chunkLeastRow : OpenClaim := { program := "ytnhjneldjfdnfaa", sum := "85442eb0f1f72a35d97fc9812d971fd9eb60798023c5a8ad765227a3d20fd2e4", func := "outrider/outriderlaw16.ChunkLeast", spec := "chunkLeast", unfollowed := true, recurses := true, apart := false }
def ChunkLeastSaid : Prop := chunkLeastRow.holds Try.pinned (OpenSpec.ofChange chunkLeastSpec)

/-- ITS FALSE NEIGHBOUR: 'it returns false'. Refute it at one input. -/
def chunkLeastWrong : ChangeSpec := { name := "chunkLeast", fn := fun _ => fun
  | [d] => { results := [.lit (.bool false)], args := [d] }
  | _ => none }
def ChunkLeastWrongFalsely : Prop := chunkLeastRow.holds Try.pinned (OpenSpec.ofChange chunkLeastWrong)

/-- 'outriderlaw16.ChunkDeals': WHATEVER THE INPUT: true; the input reads as it did. -/
def chunkDealsSpec : ChangeSpec := { name := "chunkDeals", fn := fun _ => fun
  | [d] => { results := [.lit (.bool true)], args := [d] }
  | _ => none }
def chunkDealsRow : OpenClaim := { program := "ytnhjneldjfdnfaa", sum := "85442eb0f1f72a35d97fc9812d971fd9eb60798023c5a8ad765227a3d20fd2e4", func := "outrider/outriderlaw16.ChunkDeals", spec := "chunkDeals", unfollowed := true, recurses := true, apart := false }
def ChunkDealsSaid : Prop := chunkDealsRow.holds Try.pinned (OpenSpec.ofChange chunkDealsSpec)

/-- ITS FALSE NEIGHBOUR: 'it returns false'. Refute it at one input. -/
def chunkDealsWrong : ChangeSpec := { name := "chunkDeals", fn := fun _ => fun
  | [d] => { results := [.lit (.bool false)], args := [d] }
  | _ => none }
def ChunkDealsWrongFalsely : Prop := chunkDealsRow.holds Try.pinned (OpenSpec.ofChange chunkDealsWrong)

/-- 'outriderlaw16.ChunkSets': WHATEVER THE INPUT: true; the input reads as it did. -/
def chunkSetsSpec : ChangeSpec := { name := "chunkSets", fn := fun _ => fun
  | [d1, d2, d3] => { results := [.lit (.bool true)], args := [d1, d2, d3] }
  | _ => none }
def chunkSetsRow : OpenClaim := { program := "ytnhjneldjfdnfaa", sum := "85442eb0f1f72a35d97fc9812d971fd9eb60798023c5a8ad765227a3d20fd2e4", func := "outrider/outriderlaw16.ChunkSets", spec := "chunkSets", unfollowed := true, recurses := true, apart := false }
def ChunkSetsSaid : Prop := chunkSetsRow.holds Try.pinned (OpenSpec.ofChange chunkSetsSpec)

/-- ITS FALSE NEIGHBOUR: 'it returns false'. Refute it at one input. -/
def chunkSetsWrong : ChangeSpec := { name := "chunkSets", fn := fun _ => fun
  | [d1, d2, d3] => { results := [.lit (.bool false)], args := [d1, d2, d3] }
  | _ => none }
def ChunkSetsWrongFalsely : Prop := chunkSetsRow.holds Try.pinned (OpenSpec.ofChange chunkSetsWrong)

/- THE SECOND FORM. 'bulk': how many values and letters a reading holds, each counted each time it is reached (what is shared counts as often as it is met; a slice's spare places count too). A statement '..UptoSaid' is the law's where the arguments, and the package variables that the reading takes, are together of bulk at most 1048576: NARROWER than '..Said'. Prove '..Said' where nothing that the law and all that it calls make is longer than what came in: it says more and counts as full. Else prove '..UptoSaid'. A law counts once. -/
mutual
def uptoBulk {H : Type} : DataW H → Nat
  | .lit (.string bytes) => bytes.length + 1
  | .lit _ => 1
  | .nil => 1
  | .ptr d => uptoBulk d + 1
  | .slice elems spare => uptoBulkAll elems + uptoBulkAll spare + 1
  | .agg parts => uptoBulkAll parts + 1
  | .iface _ d => uptoBulk d + 1
  | .map entries => uptoBulkEntries entries + 1
  | .held _ => 1
def uptoBulkAll {H : Type} : List (DataW H) → Nat
  | [] => 0
  | d :: r => uptoBulk d + uptoBulkAll r
def uptoBulkEntries {H : Type} : List (Lit × DataW H) → Nat
  | [] => 0
  | x :: r => uptoBulkEntry x + uptoBulkEntries r
def uptoBulkEntry {H : Type} : Lit × DataW H → Nat
  | (.string bytes, d) => bytes.length + uptoBulk d + 1
  | (_, d) => uptoBulk d + 1
 end
def uptoSmall : (H : Type) → List (DataW H) → Bool := fun _ ds => decide (uptoBulkAll ds ≤ 1048576)
def OpenSpec.upto (s : _root_.Go.ChangeSpec) : _root_.Go.OpenSpec := { _root_.Go.OpenSpec.ofChange s with cond := some uptoSmall }

/-- 'outriderlaw16.ChunkOnce', WHERE WHAT IT READS IS OF BULK AT MOST 1048576: true; the input reads as it did. -/
def chunkOnceUptoRow : OpenClaim := { program := "ytnhjneldjfdnfaa", sum := "85442eb0f1f72a35d97fc9812d971fd9eb60798023c5a8ad765227a3d20fd2e4", func := "outrider/outriderlaw16.ChunkOnce", spec := "chunkOnce", unfollowed := true, recurses := true, apart := false, narrowed := true }
def ChunkOnceUptoSaid : Prop := chunkOnceUptoRow.holds Try.pinned (OpenSpec.upto chunkOnceSpec)

/-- 'outriderlaw16.ChunkLeast', WHERE WHAT IT READS IS OF BULK AT MOST 1048576: true; the input reads as it did. -/
def chunkLeastUptoRow : OpenClaim := { program := "ytnhjneldjfdnfaa", sum := "85442eb0f1f72a35d97fc9812d971fd9eb60798023c5a8ad765227a3d20fd2e4", func := "outrider/outriderlaw16.ChunkLeast", spec := "chunkLeast", unfollowed := true, recurses := true, apart := false, narrowed := true }
def ChunkLeastUptoSaid : Prop := chunkLeastUptoRow.holds Try.pinned (OpenSpec.upto chunkLeastSpec)

/-- 'outriderlaw16.ChunkDeals', WHERE WHAT IT READS IS OF BULK AT MOST 1048576: true; the input reads as it did. -/
def chunkDealsUptoRow : OpenClaim := { program := "ytnhjneldjfdnfaa", sum := "85442eb0f1f72a35d97fc9812d971fd9eb60798023c5a8ad765227a3d20fd2e4", func := "outrider/outriderlaw16.ChunkDeals", spec := "chunkDeals", unfollowed := true, recurses := true, apart := false, narrowed := true }
def ChunkDealsUptoSaid : Prop := chunkDealsUptoRow.holds Try.pinned (OpenSpec.upto chunkDealsSpec)

/-- 'outriderlaw16.ChunkSets', WHERE WHAT IT READS IS OF BULK AT MOST 1048576: true; the input reads as it did. -/
def chunkSetsUptoRow : OpenClaim := { program := "ytnhjneldjfdnfaa", sum := "85442eb0f1f72a35d97fc9812d971fd9eb60798023c5a8ad765227a3d20fd2e4", func := "outrider/outriderlaw16.ChunkSets", spec := "chunkSets", unfollowed := true, recurses := true, apart := false, narrowed := true }
def ChunkSetsUptoSaid : Prop := chunkSetsUptoRow.holds Try.pinned (OpenSpec.upto chunkSetsSpec)

end Rows
end Go.Proofs.Ytnhjneldjfdnfaa
