/-
  No cell of these rows narrows 'for every input' (looked for: loops, veiled, ifaces, maps, wideKeys, modest, calm, conditions, laid).
  DERIVED. THE GIVEN ROWS OF THIS SEAT. 5 by the template 'for every input the law returns true; each argument reads behind the call as it read before'; 0 by the template 'total and deterministic' (their statements: YthnkecficihgfaaTotals.lean).
  GIVEN WITH THE SEED: the statements are not yours to turn. If you find one false, say at which input.
  Laid BY PROGRAM, IN A SANDBOX (cutbox-rows.mjs): the forced cells as the released guide's own fill.sh prints them over the translation d42aee544679cbcc… (all of the seat's roots in one cut). By AI agents, Wed Nov 11 2026. No macro, syntax, notation, axiom, sorry.
-/
import Derived.Test.YthnkecficihgfaaChecked
import GoSem.Claim
import GoSem.ClaimJoined
import GoSem.ClaimMapViews
import Derived.JoinedTies
import Derived.KernelRfl
namespace Go.Proofs.Ythnkecficihgfaa
/- THE CELL 'sum', in the pinned program and in every row, IS THE sha256 OF THE DUMP (.gsa) THAT YthnkecficihgfaaProg.lean LOADS. Nothing in Lean hashes anything: it is a label: what it is worth is what the hold of that sum in a sandbox is worth. -/
noncomputable def Try.pinned : Pinned := { name := "ythnkecficihgfaa", sum := "d42aee544679cbcc615c6860b3ea61a25e074a03948f6bdb15e1a509687fa5cc", checked := Try.checked }
namespace Rows
def none {H : Type} : Left H := { results := [], args := [] }

/-- 'outriderlaw13.MemMakes': WHATEVER THE INPUT: true; the input reads as it did. -/
def memMakesSpec : ChangeSpec := { name := "memMakes", fn := fun _ => fun
  | [d1, d2] => { results := [.lit (.bool true)], args := [d1, d2] }
  | _ => none }
def memMakesRow : OpenClaim := { program := "ythnkecficihgfaa", sum := "d42aee544679cbcc615c6860b3ea61a25e074a03948f6bdb15e1a509687fa5cc", func := "outrider/outriderlaw13.MemMakes", spec := "memMakes", apart := false }
def MemMakesSaid : Prop := memMakesRow.holds Try.pinned (OpenSpec.ofChange memMakesSpec)

/-- ITS FALSE NEIGHBOUR: 'it returns false'. Refute it at one input. -/
def memMakesWrong : ChangeSpec := { name := "memMakes", fn := fun _ => fun
  | [d1, d2] => { results := [.lit (.bool false)], args := [d1, d2] }
  | _ => none }
def MemMakesWrongFalsely : Prop := memMakesRow.holds Try.pinned (OpenSpec.ofChange memMakesWrong)

/-- 'outriderlaw13.MemCells': WHATEVER THE INPUT: true; the input reads as it did. -/
def memCellsSpec : ChangeSpec := { name := "memCells", fn := fun _ => fun
  | [d1, d2, d3] => { results := [.lit (.bool true)], args := [d1, d2, d3] }
  | _ => none }
def memCellsRow : OpenClaim := { program := "ythnkecficihgfaa", sum := "d42aee544679cbcc615c6860b3ea61a25e074a03948f6bdb15e1a509687fa5cc", func := "outrider/outriderlaw13.MemCells", spec := "memCells", apart := false }
def MemCellsSaid : Prop := memCellsRow.holds Try.pinned (OpenSpec.ofChange memCellsSpec)

/-- ITS FALSE NEIGHBOUR: 'it returns false'. Refute it at one input. -/
def memCellsWrong : ChangeSpec := { name := "memCells", fn := fun _ => fun
  | [d1, d2, d3] => { results := [.lit (.bool false)], args := [d1, d2, d3] }
  | _ => none }
def MemCellsWrongFalsely : Prop := memCellsRow.holds Try.pinned (OpenSpec.ofChange memCellsWrong)

/-- 'outriderlaw13.MemBack': WHATEVER THE INPUT: true; the input reads as it did. -/
def memBackSpec : ChangeSpec := { name := "memBack", fn := fun _ => fun
  | [d1, d2] => { results := [.lit (.bool true)], args := [d1, d2] }
  | _ => none }
def memBackRow : OpenClaim := { program := "ythnkecficihgfaa", sum := "d42aee544679cbcc615c6860b3ea61a25e074a03948f6bdb15e1a509687fa5cc", func := "outrider/outriderlaw13.MemBack", spec := "memBack", apart := false }
def MemBackSaid : Prop := memBackRow.holds Try.pinned (OpenSpec.ofChange memBackSpec)

/-- ITS FALSE NEIGHBOUR: 'it returns false'. Refute it at one input. -/
def memBackWrong : ChangeSpec := { name := "memBack", fn := fun _ => fun
  | [d1, d2] => { results := [.lit (.bool false)], args := [d1, d2] }
  | _ => none }
def MemBackWrongFalsely : Prop := memBackRow.holds Try.pinned (OpenSpec.ofChange memBackWrong)

/-- 'outriderlaw13.MemOvers': WHATEVER THE INPUT: true; the input reads as it did. -/
def memOversSpec : ChangeSpec := { name := "memOvers", fn := fun _ => fun
  | [d] => { results := [.lit (.bool true)], args := [d] }
  | _ => none }
def memOversRow : OpenClaim := { program := "ythnkecficihgfaa", sum := "d42aee544679cbcc615c6860b3ea61a25e074a03948f6bdb15e1a509687fa5cc", func := "outrider/outriderlaw13.MemOvers", spec := "memOvers", apart := false }
def MemOversSaid : Prop := memOversRow.holds Try.pinned (OpenSpec.ofChange memOversSpec)

/-- ITS FALSE NEIGHBOUR: 'it returns false'. Refute it at one input. -/
def memOversWrong : ChangeSpec := { name := "memOvers", fn := fun _ => fun
  | [d] => { results := [.lit (.bool false)], args := [d] }
  | _ => none }
def MemOversWrongFalsely : Prop := memOversRow.holds Try.pinned (OpenSpec.ofChange memOversWrong)

/-- 'outriderlaw13.MemLays': WHATEVER THE INPUT: true; the input reads as it did. -/
def memLaysSpec : ChangeSpec := { name := "memLays", fn := fun _ => fun
  | [d1, d2] => { results := [.lit (.bool true)], args := [d1, d2] }
  | _ => none }
def memLaysRow : OpenClaim := { program := "ythnkecficihgfaa", sum := "d42aee544679cbcc615c6860b3ea61a25e074a03948f6bdb15e1a509687fa5cc", func := "outrider/outriderlaw13.MemLays", spec := "memLays", apart := false }
def MemLaysSaid : Prop := memLaysRow.holds Try.pinned (OpenSpec.ofChange memLaysSpec)

/-- ITS FALSE NEIGHBOUR: 'it returns false'. Refute it at one input. -/
def memLaysWrong : ChangeSpec := { name := "memLays", fn := fun _ => fun
  | [d1, d2] => { results := [.lit (.bool false)], args := [d1, d2] }
  | _ => none }
def MemLaysWrongFalsely : Prop := memLaysRow.holds Try.pinned (OpenSpec.ofChange memLaysWrong)

/- THE SECOND FORM. 'bulk': how many values and letters a reading holds, each counted each time it is reached (what is shared counts as often as it is met; a slice's spare places count too). A statement '..UptoSaid' is the law's where the arguments, and the package variables that the reading takes, are together of bulk at most 1048576: NARROWER than '..Said'. Prove '..Said' where nothing that the law and all that it calls make is longer than what came in: it says more and counts as full. Else prove '..UptoSaid'. A law counts once. -/
mutual
def uptoBulk {H : Type} : DataW H → Nat
  | .lit (.string bytes) => bytes.length + 1
  | .lit _ => 1
  | .nil => 1
  | .ptr d => uptoBulk d + 1
  | .slice elems spare => uptoBulkAll elems + uptoBulkAll spare + 1
  | .agg parts => uptoBulkAll parts + 1
  | .iface _ d => uptoBulk d + 1
  | .map entries => uptoBulkEntries entries + 1
  | .held _ => 1
def uptoBulkAll {H : Type} : List (DataW H) → Nat
  | [] => 0
  | d :: r => uptoBulk d + uptoBulkAll r
def uptoBulkEntries {H : Type} : List (Lit × DataW H) → Nat
  | [] => 0
  | x :: r => uptoBulkEntry x + uptoBulkEntries r
def uptoBulkEntry {H : Type} : Lit × DataW H → Nat
  | (.string bytes, d) => bytes.length + uptoBulk d + 1
  | (_, d) => uptoBulk d + 1
 end
def uptoSmall : (H : Type) → List (DataW H) → Bool := fun _ ds => decide (uptoBulkAll ds ≤ 1048576)
def OpenSpec.upto (s : _root_.Go.ChangeSpec) : _root_.Go.OpenSpec := { _root_.Go.OpenSpec.ofChange s with cond := some uptoSmall }

/-- 'outriderlaw13.MemMakes', WHERE WHAT IT READS IS OF BULK AT MOST 1048576: true; the input reads as it did. -/
def memMakesUptoRow : OpenClaim := { program := "ythnkecficihgfaa", sum := "d42aee544679cbcc615c6860b3ea61a25e074a03948f6bdb15e1a509687fa5cc", func := "outrider/outriderlaw13.MemMakes", spec := "memMakes", apart := false, narrowed := true }
def MemMakesUptoSaid : Prop := memMakesUptoRow.holds Try.pinned (OpenSpec.upto memMakesSpec)

/-- 'outriderlaw13.MemCells', WHERE WHAT IT READS IS OF BULK AT MOST 1048576: true; the input reads as it did. -/
def memCellsUptoRow : OpenClaim := { program := "ythnkecficihgfaa", sum := "d42aee544679cbcc615c6860b3ea61a25e074a03948f6bdb15e1a509687fa5cc", func := "outrider/outriderlaw13.MemCells", spec := "memCells", apart := false, narrowed := true }
def MemCellsUptoSaid : Prop := memCellsUptoRow.holds Try.pinned (OpenSpec.upto memCellsSpec)

/-- 'outriderlaw13.MemBack', WHERE WHAT IT READS IS OF BULK AT MOST 1048576: true; the input reads as it did. -/
def memBackUptoRow : OpenClaim := { program := "ythnkecficihgfaa", sum := "d42aee544679cbcc615c6860b3ea61a25e074a03948f6bdb15e1a509687fa5cc", func := "outrider/outriderlaw13.MemBack", spec := "memBack", apart := false, narrowed := true }
def MemBackUptoSaid : Prop := memBackUptoRow.holds Try.pinned (OpenSpec.upto memBackSpec)

/-- 'outriderlaw13.MemOvers', WHERE WHAT IT READS IS OF BULK AT MOST 1048576: true; the input reads as it did. -/
def memOversUptoRow : OpenClaim := { program := "ythnkecficihgfaa", sum := "d42aee544679cbcc615c6860b3ea61a25e074a03948f6bdb15e1a509687fa5cc", func := "outrider/outriderlaw13.MemOvers", spec := "memOvers", apart := false, narrowed := true }
def MemOversUptoSaid : Prop := memOversUptoRow.holds Try.pinned (OpenSpec.upto memOversSpec)

/-- 'outriderlaw13.MemLays', WHERE WHAT IT READS IS OF BULK AT MOST 1048576: true; the input reads as it did. -/
def memLaysUptoRow : OpenClaim := { program := "ythnkecficihgfaa", sum := "d42aee544679cbcc615c6860b3ea61a25e074a03948f6bdb15e1a509687fa5cc", func := "outrider/outriderlaw13.MemLays", spec := "memLays", apart := false, narrowed := true }
def MemLaysUptoSaid : Prop := memLaysUptoRow.holds Try.pinned (OpenSpec.upto memLaysSpec)

end Rows
end Go.Proofs.Ythnkecficihgfaa
