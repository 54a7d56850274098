/-
  NARROWER THAN 'FOR EVERY INPUT', by the rows' own cells (each row's printed sentence says how): ShowWrites: loops · ShowExprs: loops · TreeCopies: loops · TreeRights: loops · ShowBack: loops · ShowLess: loops.
  DERIVED. THE GIVEN ROWS OF THIS SEAT. 12 by the template 'for every input the law returns true; each argument reads behind the call as it read before'; 0 by the template 'total and deterministic' (their statements: YtobkdmmnbnpemaaTotals.lean).
  GIVEN WITH THE SEED: the statements are not yours to turn. If you find one false, say at which input.
  Laid BY PROGRAM, IN A SANDBOX (cutbox-rows.mjs): the forced cells as the released guide's own fill.sh prints them over the translation c87a78879c678223… (all of the seat's roots in one cut). By AI agents, Wed Nov 11 2026. No macro, syntax, notation, axiom, sorry.
-/
import Derived.Test.YtobkdmmnbnpemaaChecked
import GoSem.Claim
import GoSem.ClaimJoined
import GoSem.ClaimMapViews
import Derived.JoinedTies
import Derived.KernelRfl
namespace Go.Proofs.Ytobkdmmnbnpemaa
/- THE CELL 'sum', in the pinned program and in every row, IS THE sha256 OF THE DUMP (.gsa) THAT YtobkdmmnbnpemaaProg.lean LOADS. Nothing in Lean hashes anything: it is a label: what it is worth is what the hold of that sum in a sandbox is worth. -/
noncomputable def Try.pinned : Pinned := { name := "ytobkdmmnbnpemaa", sum := "c87a78879c678223cd85204f86a7afa207493edadef3082760b6a045d6ec343c", checked := Try.checked }
namespace Rows
def none {H : Type} : Left H := { results := [], args := [] }

/-- 'outriderlaw05.ShowWrites': WHATEVER THE INPUT: true; the input reads as it did. -/
def showWritesSpec : ChangeSpec := { name := "showWrites", fn := fun _ => fun
  | [d] => { results := [.lit (.bool true)], args := [d] }
  | _ => none }
def showWritesRow : OpenClaim := { program := "ytobkdmmnbnpemaa", sum := "c87a78879c678223cd85204f86a7afa207493edadef3082760b6a045d6ec343c", func := "outrider/outriderlaw05.ShowWrites", spec := "showWrites", recurses := true, loops := true, apart := false }
def ShowWritesSaid : Prop := showWritesRow.holds Try.pinned (OpenSpec.ofChange showWritesSpec)

/-- ITS FALSE NEIGHBOUR: 'it returns false'. Refute it at one input. -/
def showWritesWrong : ChangeSpec := { name := "showWrites", fn := fun _ => fun
  | [d] => { results := [.lit (.bool false)], args := [d] }
  | _ => none }
def ShowWritesWrongFalsely : Prop := showWritesRow.holds Try.pinned (OpenSpec.ofChange showWritesWrong)

/-- 'outriderlaw05.ShowSigns': WHATEVER THE INPUT: true; the input reads as it did. -/
def showSignsSpec : ChangeSpec := { name := "showSigns", fn := fun _ => fun
  | [d] => { results := [.lit (.bool true)], args := [d] }
  | _ => none }
def showSignsRow : OpenClaim := { program := "ytobkdmmnbnpemaa", sum := "c87a78879c678223cd85204f86a7afa207493edadef3082760b6a045d6ec343c", func := "outrider/outriderlaw05.ShowSigns", spec := "showSigns", recurses := true, apart := false }
def ShowSignsSaid : Prop := showSignsRow.holds Try.pinned (OpenSpec.ofChange showSignsSpec)

/-- ITS FALSE NEIGHBOUR: 'it returns false'. Refute it at one input. -/
def showSignsWrong : ChangeSpec := { name := "showSigns", fn := fun _ => fun
  | [d] => { results := [.lit (.bool false)], args := [d] }
  | _ => none }
def ShowSignsWrongFalsely : Prop := showSignsRow.holds Try.pinned (OpenSpec.ofChange showSignsWrong)

/-- 'outriderlaw05.ShowExprs': WHATEVER THE INPUT: true; the input reads as it did. -/
def showExprsSpec : ChangeSpec := { name := "showExprs", fn := fun _ => fun
  | [d] => { results := [.lit (.bool true)], args := [d] }
  | _ => none }
def showExprsRow : OpenClaim := { program := "ytobkdmmnbnpemaa", sum := "c87a78879c678223cd85204f86a7afa207493edadef3082760b6a045d6ec343c", func := "outrider/outriderlaw05.ShowExprs", spec := "showExprs", recurses := true, loops := true, apart := false }
def ShowExprsSaid : Prop := showExprsRow.holds Try.pinned (OpenSpec.ofChange showExprsSpec)

/-- ITS FALSE NEIGHBOUR: 'it returns false'. Refute it at one input. -/
def showExprsWrong : ChangeSpec := { name := "showExprs", fn := fun _ => fun
  | [d] => { results := [.lit (.bool false)], args := [d] }
  | _ => none }
def ShowExprsWrongFalsely : Prop := showExprsRow.holds Try.pinned (OpenSpec.ofChange showExprsWrong)

/-- 'outriderlaw04.TreeParses': WHATEVER THE INPUT: true; the input reads as it did. -/
def treeParsesSpec : ChangeSpec := { name := "treeParses", fn := fun _ => fun
  | [d] => { results := [.lit (.bool true)], args := [d] }
  | _ => none }
def treeParsesRow : OpenClaim := { program := "ytobkdmmnbnpemaa", sum := "c87a78879c678223cd85204f86a7afa207493edadef3082760b6a045d6ec343c", func := "outrider/outriderlaw04.TreeParses", spec := "treeParses", unfollowed := true, recurses := true, apart := false }
def TreeParsesSaid : Prop := treeParsesRow.holds Try.pinned (OpenSpec.ofChange treeParsesSpec)

/-- ITS FALSE NEIGHBOUR: 'it returns false'. Refute it at one input. -/
def treeParsesWrong : ChangeSpec := { name := "treeParses", fn := fun _ => fun
  | [d] => { results := [.lit (.bool false)], args := [d] }
  | _ => none }
def TreeParsesWrongFalsely : Prop := treeParsesRow.holds Try.pinned (OpenSpec.ofChange treeParsesWrong)

/-- 'outriderlaw04.TreeRanks': WHATEVER THE INPUT: true; the input reads as it did. -/
def treeRanksSpec : ChangeSpec := { name := "treeRanks", fn := fun _ => fun
  | [d] => { results := [.lit (.bool true)], args := [d] }
  | _ => none }
def treeRanksRow : OpenClaim := { program := "ytobkdmmnbnpemaa", sum := "c87a78879c678223cd85204f86a7afa207493edadef3082760b6a045d6ec343c", func := "outrider/outriderlaw04.TreeRanks", spec := "treeRanks", unfollowed := true, recurses := true, apart := false }
def TreeRanksSaid : Prop := treeRanksRow.holds Try.pinned (OpenSpec.ofChange treeRanksSpec)

/-- ITS FALSE NEIGHBOUR: 'it returns false'. Refute it at one input. -/
def treeRanksWrong : ChangeSpec := { name := "treeRanks", fn := fun _ => fun
  | [d] => { results := [.lit (.bool false)], args := [d] }
  | _ => none }
def TreeRanksWrongFalsely : Prop := treeRanksRow.holds Try.pinned (OpenSpec.ofChange treeRanksWrong)

/-- 'outriderlaw04.TreeCopies': WHATEVER THE INPUT: true; the input reads as it did. -/
def treeCopiesSpec : ChangeSpec := { name := "treeCopies", fn := fun _ => fun
  | [d] => { results := [.lit (.bool true)], args := [d] }
  | _ => none }
def treeCopiesRow : OpenClaim := { program := "ytobkdmmnbnpemaa", sum := "c87a78879c678223cd85204f86a7afa207493edadef3082760b6a045d6ec343c", func := "outrider/outriderlaw04.TreeCopies", spec := "treeCopies", unfollowed := true, recurses := true, loops := true, apart := false }
def TreeCopiesSaid : Prop := treeCopiesRow.holds Try.pinned (OpenSpec.ofChange treeCopiesSpec)

/-- ITS FALSE NEIGHBOUR: 'it returns false'. Refute it at one input. -/
def treeCopiesWrong : ChangeSpec := { name := "treeCopies", fn := fun _ => fun
  | [d] => { results := [.lit (.bool false)], args := [d] }
  | _ => none }
def TreeCopiesWrongFalsely : Prop := treeCopiesRow.holds Try.pinned (OpenSpec.ofChange treeCopiesWrong)

/-- 'outriderlaw04.TreeJoins': WHATEVER THE INPUT: true; the input reads as it did. -/
def treeJoinsSpec : ChangeSpec := { name := "treeJoins", fn := fun _ => fun
  | [d1, d2] => { results := [.lit (.bool true)], args := [d1, d2] }
  | _ => none }
def treeJoinsRow : OpenClaim := { program := "ytobkdmmnbnpemaa", sum := "c87a78879c678223cd85204f86a7afa207493edadef3082760b6a045d6ec343c", func := "outrider/outriderlaw04.TreeJoins", spec := "treeJoins", unfollowed := true, recurses := true, apart := false }
def TreeJoinsSaid : Prop := treeJoinsRow.holds Try.pinned (OpenSpec.ofChange treeJoinsSpec)

/-- ITS FALSE NEIGHBOUR: 'it returns false'. Refute it at one input. -/
def treeJoinsWrong : ChangeSpec := { name := "treeJoins", fn := fun _ => fun
  | [d1, d2] => { results := [.lit (.bool false)], args := [d1, d2] }
  | _ => none }
def TreeJoinsWrongFalsely : Prop := treeJoinsRow.holds Try.pinned (OpenSpec.ofChange treeJoinsWrong)

/-- 'outriderlaw04.TreeKeeps': WHATEVER THE INPUT: true; the input reads as it did. -/
def treeKeepsSpec : ChangeSpec := { name := "treeKeeps", fn := fun _ => fun
  | [d] => { results := [.lit (.bool true)], args := [d] }
  | _ => none }
def treeKeepsRow : OpenClaim := { program := "ytobkdmmnbnpemaa", sum := "c87a78879c678223cd85204f86a7afa207493edadef3082760b6a045d6ec343c", func := "outrider/outriderlaw04.TreeKeeps", spec := "treeKeeps", unfollowed := true, recurses := true, apart := false }
def TreeKeepsSaid : Prop := treeKeepsRow.holds Try.pinned (OpenSpec.ofChange treeKeepsSpec)

/-- ITS FALSE NEIGHBOUR: 'it returns false'. Refute it at one input. -/
def treeKeepsWrong : ChangeSpec := { name := "treeKeeps", fn := fun _ => fun
  | [d] => { results := [.lit (.bool false)], args := [d] }
  | _ => none }
def TreeKeepsWrongFalsely : Prop := treeKeepsRow.holds Try.pinned (OpenSpec.ofChange treeKeepsWrong)

/-- 'outriderlaw04.TreeRights': WHATEVER THE INPUT: true; the input reads as it did. -/
def treeRightsSpec : ChangeSpec := { name := "treeRights", fn := fun _ => fun
  | [d1, d2] => { results := [.lit (.bool true)], args := [d1, d2] }
  | _ => none }
def treeRightsRow : OpenClaim := { program := "ytobkdmmnbnpemaa", sum := "c87a78879c678223cd85204f86a7afa207493edadef3082760b6a045d6ec343c", func := "outrider/outriderlaw04.TreeRights", spec := "treeRights", unfollowed := true, recurses := true, loops := true, apart := false }
def TreeRightsSaid : Prop := treeRightsRow.holds Try.pinned (OpenSpec.ofChange treeRightsSpec)

/-- ITS FALSE NEIGHBOUR: 'it returns false'. Refute it at one input. -/
def treeRightsWrong : ChangeSpec := { name := "treeRights", fn := fun _ => fun
  | [d1, d2] => { results := [.lit (.bool false)], args := [d1, d2] }
  | _ => none }
def TreeRightsWrongFalsely : Prop := treeRightsRow.holds Try.pinned (OpenSpec.ofChange treeRightsWrong)

/-- 'outriderlaw05.ShowBack': WHATEVER THE INPUT: true; the input reads as it did. -/
def showBackSpec : ChangeSpec := { name := "showBack", fn := fun _ => fun
  | [d] => { results := [.lit (.bool true)], args := [d] }
  | _ => none }
def showBackRow : OpenClaim := { program := "ytobkdmmnbnpemaa", sum := "c87a78879c678223cd85204f86a7afa207493edadef3082760b6a045d6ec343c", func := "outrider/outriderlaw05.ShowBack", spec := "showBack", unfollowed := true, recurses := true, loops := true, apart := false }
def ShowBackSaid : Prop := showBackRow.holds Try.pinned (OpenSpec.ofChange showBackSpec)

/-- ITS FALSE NEIGHBOUR: 'it returns false'. Refute it at one input. -/
def showBackWrong : ChangeSpec := { name := "showBack", fn := fun _ => fun
  | [d] => { results := [.lit (.bool false)], args := [d] }
  | _ => none }
def ShowBackWrongFalsely : Prop := showBackRow.holds Try.pinned (OpenSpec.ofChange showBackWrong)

/-- 'outriderlaw05.ShowAgain': WHATEVER THE INPUT: true; the input reads as it did. -/
def showAgainSpec : ChangeSpec := { name := "showAgain", fn := fun _ => fun
  | [d] => { results := [.lit (.bool true)], args := [d] }
  | _ => none }
def showAgainRow : OpenClaim := { program := "ytobkdmmnbnpemaa", sum := "c87a78879c678223cd85204f86a7afa207493edadef3082760b6a045d6ec343c", func := "outrider/outriderlaw05.ShowAgain", spec := "showAgain", unfollowed := true, recurses := true, apart := false }
def ShowAgainSaid : Prop := showAgainRow.holds Try.pinned (OpenSpec.ofChange showAgainSpec)

/-- ITS FALSE NEIGHBOUR: 'it returns false'. Refute it at one input. -/
def showAgainWrong : ChangeSpec := { name := "showAgain", fn := fun _ => fun
  | [d] => { results := [.lit (.bool false)], args := [d] }
  | _ => none }
def ShowAgainWrongFalsely : Prop := showAgainRow.holds Try.pinned (OpenSpec.ofChange showAgainWrong)

/-- 'outriderlaw05.ShowLess': WHATEVER THE INPUT: true; the input reads as it did. -/
def showLessSpec : ChangeSpec := { name := "showLess", fn := fun _ => fun
  | [d] => { results := [.lit (.bool true)], args := [d] }
  | _ => none }
def showLessRow : OpenClaim := { program := "ytobkdmmnbnpemaa", sum := "c87a78879c678223cd85204f86a7afa207493edadef3082760b6a045d6ec343c", func := "outrider/outriderlaw05.ShowLess", spec := "showLess", unfollowed := true, recurses := true, loops := true, apart := false }
def ShowLessSaid : Prop := showLessRow.holds Try.pinned (OpenSpec.ofChange showLessSpec)

/-- ITS FALSE NEIGHBOUR: 'it returns false'. Refute it at one input. -/
def showLessWrong : ChangeSpec := { name := "showLess", fn := fun _ => fun
  | [d] => { results := [.lit (.bool false)], args := [d] }
  | _ => none }
def ShowLessWrongFalsely : Prop := showLessRow.holds Try.pinned (OpenSpec.ofChange showLessWrong)

/- THE SECOND FORM. 'bulk': how many values and letters a reading holds, each counted each time it is reached (what is shared counts as often as it is met; a slice's spare places count too). A statement '..UptoSaid' is the law's where the arguments, and the package variables that the reading takes, are together of bulk at most 1048576: NARROWER than '..Said'. Prove '..Said' where nothing that the law and all that it calls make is longer than what came in: it says more and counts as full. Else prove '..UptoSaid'. A law counts once. -/
mutual
def uptoBulk {H : Type} : DataW H → Nat
  | .lit (.string bytes) => bytes.length + 1
  | .lit _ => 1
  | .nil => 1
  | .ptr d => uptoBulk d + 1
  | .slice elems spare => uptoBulkAll elems + uptoBulkAll spare + 1
  | .agg parts => uptoBulkAll parts + 1
  | .iface _ d => uptoBulk d + 1
  | .map entries => uptoBulkEntries entries + 1
  | .held _ => 1
def uptoBulkAll {H : Type} : List (DataW H) → Nat
  | [] => 0
  | d :: r => uptoBulk d + uptoBulkAll r
def uptoBulkEntries {H : Type} : List (Lit × DataW H) → Nat
  | [] => 0
  | x :: r => uptoBulkEntry x + uptoBulkEntries r
def uptoBulkEntry {H : Type} : Lit × DataW H → Nat
  | (.string bytes, d) => bytes.length + uptoBulk d + 1
  | (_, d) => uptoBulk d + 1
 end
def uptoSmall : (H : Type) → List (DataW H) → Bool := fun _ ds => decide (uptoBulkAll ds ≤ 1048576)
def OpenSpec.upto (s : _root_.Go.ChangeSpec) : _root_.Go.OpenSpec := { _root_.Go.OpenSpec.ofChange s with cond := some uptoSmall }

/-- 'outriderlaw05.ShowWrites', WHERE WHAT IT READS IS OF BULK AT MOST 1048576: true; the input reads as it did. -/
def showWritesUptoRow : OpenClaim := { program := "ytobkdmmnbnpemaa", sum := "c87a78879c678223cd85204f86a7afa207493edadef3082760b6a045d6ec343c", func := "outrider/outriderlaw05.ShowWrites", spec := "showWrites", recurses := true, loops := true, apart := false, narrowed := true }
def ShowWritesUptoSaid : Prop := showWritesUptoRow.holds Try.pinned (OpenSpec.upto showWritesSpec)

/-- 'outriderlaw05.ShowSigns', WHERE WHAT IT READS IS OF BULK AT MOST 1048576: true; the input reads as it did. -/
def showSignsUptoRow : OpenClaim := { program := "ytobkdmmnbnpemaa", sum := "c87a78879c678223cd85204f86a7afa207493edadef3082760b6a045d6ec343c", func := "outrider/outriderlaw05.ShowSigns", spec := "showSigns", recurses := true, apart := false, narrowed := true }
def ShowSignsUptoSaid : Prop := showSignsUptoRow.holds Try.pinned (OpenSpec.upto showSignsSpec)

/-- 'outriderlaw05.ShowExprs', WHERE WHAT IT READS IS OF BULK AT MOST 1048576: true; the input reads as it did. -/
def showExprsUptoRow : OpenClaim := { program := "ytobkdmmnbnpemaa", sum := "c87a78879c678223cd85204f86a7afa207493edadef3082760b6a045d6ec343c", func := "outrider/outriderlaw05.ShowExprs", spec := "showExprs", recurses := true, loops := true, apart := false, narrowed := true }
def ShowExprsUptoSaid : Prop := showExprsUptoRow.holds Try.pinned (OpenSpec.upto showExprsSpec)

/-- 'outriderlaw04.TreeParses', WHERE WHAT IT READS IS OF BULK AT MOST 1048576: true; the input reads as it did. -/
def treeParsesUptoRow : OpenClaim := { program := "ytobkdmmnbnpemaa", sum := "c87a78879c678223cd85204f86a7afa207493edadef3082760b6a045d6ec343c", func := "outrider/outriderlaw04.TreeParses", spec := "treeParses", unfollowed := true, recurses := true, apart := false, narrowed := true }
def TreeParsesUptoSaid : Prop := treeParsesUptoRow.holds Try.pinned (OpenSpec.upto treeParsesSpec)

/-- 'outriderlaw04.TreeRanks', WHERE WHAT IT READS IS OF BULK AT MOST 1048576: true; the input reads as it did. -/
def treeRanksUptoRow : OpenClaim := { program := "ytobkdmmnbnpemaa", sum := "c87a78879c678223cd85204f86a7afa207493edadef3082760b6a045d6ec343c", func := "outrider/outriderlaw04.TreeRanks", spec := "treeRanks", unfollowed := true, recurses := true, apart := false, narrowed := true }
def TreeRanksUptoSaid : Prop := treeRanksUptoRow.holds Try.pinned (OpenSpec.upto treeRanksSpec)

/-- 'outriderlaw04.TreeCopies', WHERE WHAT IT READS IS OF BULK AT MOST 1048576: true; the input reads as it did. -/
def treeCopiesUptoRow : OpenClaim := { program := "ytobkdmmnbnpemaa", sum := "c87a78879c678223cd85204f86a7afa207493edadef3082760b6a045d6ec343c", func := "outrider/outriderlaw04.TreeCopies", spec := "treeCopies", unfollowed := true, recurses := true, loops := true, apart := false, narrowed := true }
def TreeCopiesUptoSaid : Prop := treeCopiesUptoRow.holds Try.pinned (OpenSpec.upto treeCopiesSpec)

/-- 'outriderlaw04.TreeJoins', WHERE WHAT IT READS IS OF BULK AT MOST 1048576: true; the input reads as it did. -/
def treeJoinsUptoRow : OpenClaim := { program := "ytobkdmmnbnpemaa", sum := "c87a78879c678223cd85204f86a7afa207493edadef3082760b6a045d6ec343c", func := "outrider/outriderlaw04.TreeJoins", spec := "treeJoins", unfollowed := true, recurses := true, apart := false, narrowed := true }
def TreeJoinsUptoSaid : Prop := treeJoinsUptoRow.holds Try.pinned (OpenSpec.upto treeJoinsSpec)

/-- 'outriderlaw04.TreeKeeps', WHERE WHAT IT READS IS OF BULK AT MOST 1048576: true; the input reads as it did. -/
def treeKeepsUptoRow : OpenClaim := { program := "ytobkdmmnbnpemaa", sum := "c87a78879c678223cd85204f86a7afa207493edadef3082760b6a045d6ec343c", func := "outrider/outriderlaw04.TreeKeeps", spec := "treeKeeps", unfollowed := true, recurses := true, apart := false, narrowed := true }
def TreeKeepsUptoSaid : Prop := treeKeepsUptoRow.holds Try.pinned (OpenSpec.upto treeKeepsSpec)

/-- 'outriderlaw04.TreeRights', WHERE WHAT IT READS IS OF BULK AT MOST 1048576: true; the input reads as it did. -/
def treeRightsUptoRow : OpenClaim := { program := "ytobkdmmnbnpemaa", sum := "c87a78879c678223cd85204f86a7afa207493edadef3082760b6a045d6ec343c", func := "outrider/outriderlaw04.TreeRights", spec := "treeRights", unfollowed := true, recurses := true, loops := true, apart := false, narrowed := true }
def TreeRightsUptoSaid : Prop := treeRightsUptoRow.holds Try.pinned (OpenSpec.upto treeRightsSpec)

/-- 'outriderlaw05.ShowBack', WHERE WHAT IT READS IS OF BULK AT MOST 1048576: true; the input reads as it did. -/
def showBackUptoRow : OpenClaim := { program := "ytobkdmmnbnpemaa", sum := "c87a78879c678223cd85204f86a7afa207493edadef3082760b6a045d6ec343c", func := "outrider/outriderlaw05.ShowBack", spec := "showBack", unfollowed := true, recurses := true, loops := true, apart := false, narrowed := true }
def ShowBackUptoSaid : Prop := showBackUptoRow.holds Try.pinned (OpenSpec.upto showBackSpec)

/-- 'outriderlaw05.ShowAgain', WHERE WHAT IT READS IS OF BULK AT MOST 1048576: true; the input reads as it did. -/
def showAgainUptoRow : OpenClaim := { program := "ytobkdmmnbnpemaa", sum := "c87a78879c678223cd85204f86a7afa207493edadef3082760b6a045d6ec343c", func := "outrider/outriderlaw05.ShowAgain", spec := "showAgain", unfollowed := true, recurses := true, apart := false, narrowed := true }
def ShowAgainUptoSaid : Prop := showAgainUptoRow.holds Try.pinned (OpenSpec.upto showAgainSpec)

/-- 'outriderlaw05.ShowLess', WHERE WHAT IT READS IS OF BULK AT MOST 1048576: true; the input reads as it did. -/
def showLessUptoRow : OpenClaim := { program := "ytobkdmmnbnpemaa", sum := "c87a78879c678223cd85204f86a7afa207493edadef3082760b6a045d6ec343c", func := "outrider/outriderlaw05.ShowLess", spec := "showLess", unfollowed := true, recurses := true, loops := true, apart := false, narrowed := true }
def ShowLessUptoSaid : Prop := showLessUptoRow.holds Try.pinned (OpenSpec.upto showLessSpec)

end Rows
end Go.Proofs.Ytobkdmmnbnpemaa
