/-
  No cell of these rows narrows 'for every input' (looked for: loops, veiled, ifaces, maps, wideKeys, modest, calm, conditions, laid).
  DERIVED. THE GIVEN ROWS OF THIS SEAT. 4 by the template 'for every input the law returns true; each argument reads behind the call as it read before'; 0 by the template 'total and deterministic' (their statements: YtmfaopjfdedheaaGreatTotals.lean).
  GIVEN WITH THE SEED: the statements are not yours to turn. If you find one false, say at which input.
  Laid BY PROGRAM, IN A SANDBOX (cutbox-rows.mjs): the forced cells as the released guide's own fill.sh prints them over the translation c80eb95882f7201b… (all of the seat's roots in one cut). By AI agents, Wed Nov 11 2026. No macro, syntax, notation, axiom, sorry.
-/
import Derived.Test.YtmfaopjfdedheaaGreatChecked
import GoSem.Claim
import GoSem.ClaimJoined
import GoSem.ClaimMapViews
import Derived.JoinedTies
import Derived.KernelRfl
namespace Go.Proofs.YtmfaopjfdedheaaGreat
/- THE CELL 'sum', in the pinned program and in every row, IS THE sha256 OF THE DUMP (.gsa) THAT YtmfaopjfdedheaaGreatProg.lean LOADS. Nothing in Lean hashes anything: it is a label: what it is worth is what the hold of that sum in a sandbox is worth. -/
noncomputable def Tryz.pinned : Pinned := { name := "ytmfaopjfdedheaagreat", sum := "c80eb95882f7201bb0dd0175c59dee5d61ff7550b4124c9e7ce6c1e1fa1cc6bb", checked := Tryz.checked }
namespace Rows
def none {H : Type} : Left H := { results := [], args := [] }

/-- 'lockkeeperlaw16.MergeTurns': WHATEVER THE INPUT: true; the input reads as it did. -/
def mergeTurnsSpec : ChangeSpec := { name := "mergeTurns", fn := fun _ => fun
  | [d1, d2, d3] => { results := [.lit (.bool true)], args := [d1, d2, d3] }
  | _ => none }
def mergeTurnsRow : OpenClaim := { program := "ytmfaopjfdedheaagreat", sum := "c80eb95882f7201bb0dd0175c59dee5d61ff7550b4124c9e7ce6c1e1fa1cc6bb", func := "lockkeeper/lockkeeperlaw16.MergeTurns", spec := "mergeTurns", unfollowed := true, recurses := true, apart := false }
def MergeTurnsSaid : Prop := mergeTurnsRow.holds Tryz.pinned (OpenSpec.ofChange mergeTurnsSpec)

/-- ITS FALSE NEIGHBOUR: 'it returns false'. Refute it at one input. -/
def mergeTurnsWrong : ChangeSpec := { name := "mergeTurns", fn := fun _ => fun
  | [d1, d2, d3] => { results := [.lit (.bool false)], args := [d1, d2, d3] }
  | _ => none }
def MergeTurnsWrongFalsely : Prop := mergeTurnsRow.holds Tryz.pinned (OpenSpec.ofChange mergeTurnsWrong)

/-- 'lockkeeperlaw16.MergeUnposts': WHATEVER THE INPUT: true; the input reads as it did. -/
def mergeUnpostsSpec : ChangeSpec := { name := "mergeUnposts", fn := fun _ => fun
  | [d1, d2, d3] => { results := [.lit (.bool true)], args := [d1, d2, d3] }
  | _ => none }
def mergeUnpostsRow : OpenClaim := { program := "ytmfaopjfdedheaagreat", sum := "c80eb95882f7201bb0dd0175c59dee5d61ff7550b4124c9e7ce6c1e1fa1cc6bb", func := "lockkeeper/lockkeeperlaw16.MergeUnposts", spec := "mergeUnposts", unfollowed := true, recurses := true, apart := false }
def MergeUnpostsSaid : Prop := mergeUnpostsRow.holds Tryz.pinned (OpenSpec.ofChange mergeUnpostsSpec)

/-- ITS FALSE NEIGHBOUR: 'it returns false'. Refute it at one input. -/
def mergeUnpostsWrong : ChangeSpec := { name := "mergeUnposts", fn := fun _ => fun
  | [d1, d2, d3] => { results := [.lit (.bool false)], args := [d1, d2, d3] }
  | _ => none }
def MergeUnpostsWrongFalsely : Prop := mergeUnpostsRow.holds Tryz.pinned (OpenSpec.ofChange mergeUnpostsWrong)

/-- 'lockkeeperlaw16.MergeSplit': WHATEVER THE INPUT: true; the input reads as it did. -/
def mergeSplitSpec : ChangeSpec := { name := "mergeSplit", fn := fun _ => fun
  | [d1, d2, d3] => { results := [.lit (.bool true)], args := [d1, d2, d3] }
  | _ => none }
def mergeSplitRow : OpenClaim := { program := "ytmfaopjfdedheaagreat", sum := "c80eb95882f7201bb0dd0175c59dee5d61ff7550b4124c9e7ce6c1e1fa1cc6bb", func := "lockkeeper/lockkeeperlaw16.MergeSplit", spec := "mergeSplit", unfollowed := true, recurses := true, apart := false }
def MergeSplitSaid : Prop := mergeSplitRow.holds Tryz.pinned (OpenSpec.ofChange mergeSplitSpec)

/-- ITS FALSE NEIGHBOUR: 'it returns false'. Refute it at one input. -/
def mergeSplitWrong : ChangeSpec := { name := "mergeSplit", fn := fun _ => fun
  | [d1, d2, d3] => { results := [.lit (.bool false)], args := [d1, d2, d3] }
  | _ => none }
def MergeSplitWrongFalsely : Prop := mergeSplitRow.holds Tryz.pinned (OpenSpec.ofChange mergeSplitWrong)

/-- 'lockkeeperlaw16.MergeForest': WHATEVER THE INPUT: true; the input reads as it did. -/
def mergeForestSpec : ChangeSpec := { name := "mergeForest", fn := fun _ => fun
  | [d1, d2, d3] => { results := [.lit (.bool true)], args := [d1, d2, d3] }
  | _ => none }
def mergeForestRow : OpenClaim := { program := "ytmfaopjfdedheaagreat", sum := "c80eb95882f7201bb0dd0175c59dee5d61ff7550b4124c9e7ce6c1e1fa1cc6bb", func := "lockkeeper/lockkeeperlaw16.MergeForest", spec := "mergeForest", unfollowed := true, recurses := true, apart := false }
def MergeForestSaid : Prop := mergeForestRow.holds Tryz.pinned (OpenSpec.ofChange mergeForestSpec)

/-- ITS FALSE NEIGHBOUR: 'it returns false'. Refute it at one input. -/
def mergeForestWrong : ChangeSpec := { name := "mergeForest", fn := fun _ => fun
  | [d1, d2, d3] => { results := [.lit (.bool false)], args := [d1, d2, d3] }
  | _ => none }
def MergeForestWrongFalsely : Prop := mergeForestRow.holds Tryz.pinned (OpenSpec.ofChange mergeForestWrong)

/- THE SECOND FORM. 'bulk': how many values and letters a reading holds, each counted each time it is reached (what is shared counts as often as it is met; a slice's spare places count too). A statement '..UptoSaid' is the law's where the arguments, and the package variables that the reading takes, are together of bulk at most 1048576: NARROWER than '..Said'. Prove '..Said' where nothing that the law and all that it calls make is longer than what came in: it says more and counts as full. Else prove '..UptoSaid'. A law counts once. -/
mutual
def uptoBulk {H : Type} : DataW H → Nat
  | .lit (.string bytes) => bytes.length + 1
  | .lit _ => 1
  | .nil => 1
  | .ptr d => uptoBulk d + 1
  | .slice elems spare => uptoBulkAll elems + uptoBulkAll spare + 1
  | .agg parts => uptoBulkAll parts + 1
  | .iface _ d => uptoBulk d + 1
  | .map entries => uptoBulkEntries entries + 1
  | .held _ => 1
def uptoBulkAll {H : Type} : List (DataW H) → Nat
  | [] => 0
  | d :: r => uptoBulk d + uptoBulkAll r
def uptoBulkEntries {H : Type} : List (Lit × DataW H) → Nat
  | [] => 0
  | x :: r => uptoBulkEntry x + uptoBulkEntries r
def uptoBulkEntry {H : Type} : Lit × DataW H → Nat
  | (.string bytes, d) => bytes.length + uptoBulk d + 1
  | (_, d) => uptoBulk d + 1
 end
def uptoSmall : (H : Type) → List (DataW H) → Bool := fun _ ds => decide (uptoBulkAll ds ≤ 1048576)
def OpenSpec.upto (s : _root_.Go.ChangeSpec) : _root_.Go.OpenSpec := { _root_.Go.OpenSpec.ofChange s with cond := some uptoSmall }

/-- 'lockkeeperlaw16.MergeTurns', WHERE WHAT IT READS IS OF BULK AT MOST 1048576: true; the input reads as it did. -/
def mergeTurnsUptoRow : OpenClaim := { program := "ytmfaopjfdedheaagreat", sum := "c80eb95882f7201bb0dd0175c59dee5d61ff7550b4124c9e7ce6c1e1fa1cc6bb", func := "lockkeeper/lockkeeperlaw16.MergeTurns", spec := "mergeTurns", unfollowed := true, recurses := true, apart := false, narrowed := true }
def MergeTurnsUptoSaid : Prop := mergeTurnsUptoRow.holds Tryz.pinned (OpenSpec.upto mergeTurnsSpec)

/-- 'lockkeeperlaw16.MergeUnposts', WHERE WHAT IT READS IS OF BULK AT MOST 1048576: true; the input reads as it did. -/
def mergeUnpostsUptoRow : OpenClaim := { program := "ytmfaopjfdedheaagreat", sum := "c80eb95882f7201bb0dd0175c59dee5d61ff7550b4124c9e7ce6c1e1fa1cc6bb", func := "lockkeeper/lockkeeperlaw16.MergeUnposts", spec := "mergeUnposts", unfollowed := true, recurses := true, apart := false, narrowed := true }
def MergeUnpostsUptoSaid : Prop := mergeUnpostsUptoRow.holds Tryz.pinned (OpenSpec.upto mergeUnpostsSpec)

/-- 'lockkeeperlaw16.MergeSplit', WHERE WHAT IT READS IS OF BULK AT MOST 1048576: true; the input reads as it did. -/
def mergeSplitUptoRow : OpenClaim := { program := "ytmfaopjfdedheaagreat", sum := "c80eb95882f7201bb0dd0175c59dee5d61ff7550b4124c9e7ce6c1e1fa1cc6bb", func := "lockkeeper/lockkeeperlaw16.MergeSplit", spec := "mergeSplit", unfollowed := true, recurses := true, apart := false, narrowed := true }
def MergeSplitUptoSaid : Prop := mergeSplitUptoRow.holds Tryz.pinned (OpenSpec.upto mergeSplitSpec)

/-- 'lockkeeperlaw16.MergeForest', WHERE WHAT IT READS IS OF BULK AT MOST 1048576: true; the input reads as it did. -/
def mergeForestUptoRow : OpenClaim := { program := "ytmfaopjfdedheaagreat", sum := "c80eb95882f7201bb0dd0175c59dee5d61ff7550b4124c9e7ce6c1e1fa1cc6bb", func := "lockkeeper/lockkeeperlaw16.MergeForest", spec := "mergeForest", unfollowed := true, recurses := true, apart := false, narrowed := true }
def MergeForestUptoSaid : Prop := mergeForestUptoRow.holds Tryz.pinned (OpenSpec.upto mergeForestSpec)

end Rows
end Go.Proofs.YtmfaopjfdedheaaGreat
