/-
  No cell of these rows narrows 'for every input' (looked for: loops, veiled, ifaces, maps, wideKeys, modest, calm, conditions, laid).
  DERIVED. THE GIVEN ROWS OF THIS SEAT. 5 by the template 'for every input the law returns true; each argument reads behind the call as it read before'; 0 by the template 'total and deterministic' (their statements: YtoggblomknemoaaTotals.lean).
  GIVEN WITH THE SEED: the statements are not yours to turn. If you find one false, say at which input.
  Laid BY PROGRAM, IN A SANDBOX (cutbox-rows.mjs): the forced cells as the released guide's own fill.sh prints them over the translation 7339c5025fa4b1f2… (all of the seat's roots in one cut). By AI agents, Wed Nov 11 2026. No macro, syntax, notation, axiom, sorry.
-/
import Derived.Test.YtoggblomknemoaaChecked
import GoSem.Claim
import GoSem.ClaimJoined
import GoSem.ClaimMapViews
import Derived.JoinedTies
import Derived.KernelRfl
namespace Go.Proofs.Ytoggblomknemoaa
/- THE CELL 'sum', in the pinned program and in every row, IS THE sha256 OF THE DUMP (.gsa) THAT YtoggblomknemoaaProg.lean LOADS. Nothing in Lean hashes anything: it is a label: what it is worth is what the hold of that sum in a sandbox is worth. -/
noncomputable def Try.pinned : Pinned := { name := "ytoggblomknemoaa", sum := "7339c5025fa4b1f28736b1b793d9e5653bcc0ad2ff71db74672d13d9a92a3efd", checked := Try.checked }
namespace Rows
def none {H : Type} : Left H := { results := [], args := [] }

/-- 'lockkeeperlaw30.ModelMeans': WHATEVER THE INPUT: true; the input reads as it did. -/
def modelMeansSpec : ChangeSpec := { name := "modelMeans", fn := fun _ => fun
  | [d1, d2, d3] => { results := [.lit (.bool true)], args := [d1, d2, d3] }
  | _ => none }
def modelMeansRow : OpenClaim := { program := "ytoggblomknemoaa", sum := "7339c5025fa4b1f28736b1b793d9e5653bcc0ad2ff71db74672d13d9a92a3efd", func := "lockkeeper/lockkeeperlaw30.ModelMeans", spec := "modelMeans", unfollowed := true, recurses := true, apart := false }
def ModelMeansSaid : Prop := modelMeansRow.holds Try.pinned (OpenSpec.ofChange modelMeansSpec)

/-- ITS FALSE NEIGHBOUR: 'it returns false'. Refute it at one input. -/
def modelMeansWrong : ChangeSpec := { name := "modelMeans", fn := fun _ => fun
  | [d1, d2, d3] => { results := [.lit (.bool false)], args := [d1, d2, d3] }
  | _ => none }
def ModelMeansWrongFalsely : Prop := modelMeansRow.holds Try.pinned (OpenSpec.ofChange modelMeansWrong)

/-- 'lockkeeperlaw30.ModelDoes': WHATEVER THE INPUT: true; the input reads as it did. -/
def modelDoesSpec : ChangeSpec := { name := "modelDoes", fn := fun _ => fun
  | [d1, d2] => { results := [.lit (.bool true)], args := [d1, d2] }
  | _ => none }
def modelDoesRow : OpenClaim := { program := "ytoggblomknemoaa", sum := "7339c5025fa4b1f28736b1b793d9e5653bcc0ad2ff71db74672d13d9a92a3efd", func := "lockkeeper/lockkeeperlaw30.ModelDoes", spec := "modelDoes", unfollowed := true, recurses := true, apart := false }
def ModelDoesSaid : Prop := modelDoesRow.holds Try.pinned (OpenSpec.ofChange modelDoesSpec)

/-- ITS FALSE NEIGHBOUR: 'it returns false'. Refute it at one input. -/
def modelDoesWrong : ChangeSpec := { name := "modelDoes", fn := fun _ => fun
  | [d1, d2] => { results := [.lit (.bool false)], args := [d1, d2] }
  | _ => none }
def ModelDoesWrongFalsely : Prop := modelDoesRow.holds Try.pinned (OpenSpec.ofChange modelDoesWrong)

/-- 'lockkeeperlaw30.ModelApart': WHATEVER THE INPUT: true; the input reads as it did. -/
def modelApartSpec : ChangeSpec := { name := "modelApart", fn := fun _ => fun
  | [d1, d2, d3] => { results := [.lit (.bool true)], args := [d1, d2, d3] }
  | _ => none }
def modelApartRow : OpenClaim := { program := "ytoggblomknemoaa", sum := "7339c5025fa4b1f28736b1b793d9e5653bcc0ad2ff71db74672d13d9a92a3efd", func := "lockkeeper/lockkeeperlaw30.ModelApart", spec := "modelApart", unfollowed := true, recurses := true, apart := false }
def ModelApartSaid : Prop := modelApartRow.holds Try.pinned (OpenSpec.ofChange modelApartSpec)

/-- ITS FALSE NEIGHBOUR: 'it returns false'. Refute it at one input. -/
def modelApartWrong : ChangeSpec := { name := "modelApart", fn := fun _ => fun
  | [d1, d2, d3] => { results := [.lit (.bool false)], args := [d1, d2, d3] }
  | _ => none }
def ModelApartWrongFalsely : Prop := modelApartRow.holds Try.pinned (OpenSpec.ofChange modelApartWrong)

/-- 'lockkeeperlaw30.ModelRuns': WHATEVER THE INPUT: true; the input reads as it did. -/
def modelRunsSpec : ChangeSpec := { name := "modelRuns", fn := fun _ => fun
  | [d1, d2, d3] => { results := [.lit (.bool true)], args := [d1, d2, d3] }
  | _ => none }
def modelRunsRow : OpenClaim := { program := "ytoggblomknemoaa", sum := "7339c5025fa4b1f28736b1b793d9e5653bcc0ad2ff71db74672d13d9a92a3efd", func := "lockkeeper/lockkeeperlaw30.ModelRuns", spec := "modelRuns", unfollowed := true, recurses := true, apart := false }
def ModelRunsSaid : Prop := modelRunsRow.holds Try.pinned (OpenSpec.ofChange modelRunsSpec)

/-- ITS FALSE NEIGHBOUR: 'it returns false'. Refute it at one input. -/
def modelRunsWrong : ChangeSpec := { name := "modelRuns", fn := fun _ => fun
  | [d1, d2, d3] => { results := [.lit (.bool false)], args := [d1, d2, d3] }
  | _ => none }
def ModelRunsWrongFalsely : Prop := modelRunsRow.holds Try.pinned (OpenSpec.ofChange modelRunsWrong)

/-- 'lockkeeperlaw30.ModelSerial': WHATEVER THE INPUT: true; the input reads as it did. -/
def modelSerialSpec : ChangeSpec := { name := "modelSerial", fn := fun _ => fun
  | [d1, d2, d3] => { results := [.lit (.bool true)], args := [d1, d2, d3] }
  | _ => none }
def modelSerialRow : OpenClaim := { program := "ytoggblomknemoaa", sum := "7339c5025fa4b1f28736b1b793d9e5653bcc0ad2ff71db74672d13d9a92a3efd", func := "lockkeeper/lockkeeperlaw30.ModelSerial", spec := "modelSerial", unfollowed := true, recurses := true, apart := false }
def ModelSerialSaid : Prop := modelSerialRow.holds Try.pinned (OpenSpec.ofChange modelSerialSpec)

/-- ITS FALSE NEIGHBOUR: 'it returns false'. Refute it at one input. -/
def modelSerialWrong : ChangeSpec := { name := "modelSerial", fn := fun _ => fun
  | [d1, d2, d3] => { results := [.lit (.bool false)], args := [d1, d2, d3] }
  | _ => none }
def ModelSerialWrongFalsely : Prop := modelSerialRow.holds Try.pinned (OpenSpec.ofChange modelSerialWrong)

/- THE SECOND FORM. 'bulk': how many values and letters a reading holds, each counted each time it is reached (what is shared counts as often as it is met; a slice's spare places count too). A statement '..UptoSaid' is the law's where the arguments, and the package variables that the reading takes, are together of bulk at most 1048576: NARROWER than '..Said'. Prove '..Said' where nothing that the law and all that it calls make is longer than what came in: it says more and counts as full. Else prove '..UptoSaid'. A law counts once. -/
mutual
def uptoBulk {H : Type} : DataW H → Nat
  | .lit (.string bytes) => bytes.length + 1
  | .lit _ => 1
  | .nil => 1
  | .ptr d => uptoBulk d + 1
  | .slice elems spare => uptoBulkAll elems + uptoBulkAll spare + 1
  | .agg parts => uptoBulkAll parts + 1
  | .iface _ d => uptoBulk d + 1
  | .map entries => uptoBulkEntries entries + 1
  | .held _ => 1
def uptoBulkAll {H : Type} : List (DataW H) → Nat
  | [] => 0
  | d :: r => uptoBulk d + uptoBulkAll r
def uptoBulkEntries {H : Type} : List (Lit × DataW H) → Nat
  | [] => 0
  | x :: r => uptoBulkEntry x + uptoBulkEntries r
def uptoBulkEntry {H : Type} : Lit × DataW H → Nat
  | (.string bytes, d) => bytes.length + uptoBulk d + 1
  | (_, d) => uptoBulk d + 1
 end
def uptoSmall : (H : Type) → List (DataW H) → Bool := fun _ ds => decide (uptoBulkAll ds ≤ 1048576)
def OpenSpec.upto (s : _root_.Go.ChangeSpec) : _root_.Go.OpenSpec := { _root_.Go.OpenSpec.ofChange s with cond := some uptoSmall }

/-- 'lockkeeperlaw30.ModelMeans', WHERE WHAT IT READS IS OF BULK AT MOST 1048576: true; the input reads as it did. -/
def modelMeansUptoRow : OpenClaim := { program := "ytoggblomknemoaa", sum := "7339c5025fa4b1f28736b1b793d9e5653bcc0ad2ff71db74672d13d9a92a3efd", func := "lockkeeper/lockkeeperlaw30.ModelMeans", spec := "modelMeans", unfollowed := true, recurses := true, apart := false, narrowed := true }
def ModelMeansUptoSaid : Prop := modelMeansUptoRow.holds Try.pinned (OpenSpec.upto modelMeansSpec)

/-- 'lockkeeperlaw30.ModelDoes', WHERE WHAT IT READS IS OF BULK AT MOST 1048576: true; the input reads as it did. -/
def modelDoesUptoRow : OpenClaim := { program := "ytoggblomknemoaa", sum := "7339c5025fa4b1f28736b1b793d9e5653bcc0ad2ff71db74672d13d9a92a3efd", func := "lockkeeper/lockkeeperlaw30.ModelDoes", spec := "modelDoes", unfollowed := true, recurses := true, apart := false, narrowed := true }
def ModelDoesUptoSaid : Prop := modelDoesUptoRow.holds Try.pinned (OpenSpec.upto modelDoesSpec)

/-- 'lockkeeperlaw30.ModelApart', WHERE WHAT IT READS IS OF BULK AT MOST 1048576: true; the input reads as it did. -/
def modelApartUptoRow : OpenClaim := { program := "ytoggblomknemoaa", sum := "7339c5025fa4b1f28736b1b793d9e5653bcc0ad2ff71db74672d13d9a92a3efd", func := "lockkeeper/lockkeeperlaw30.ModelApart", spec := "modelApart", unfollowed := true, recurses := true, apart := false, narrowed := true }
def ModelApartUptoSaid : Prop := modelApartUptoRow.holds Try.pinned (OpenSpec.upto modelApartSpec)

/-- 'lockkeeperlaw30.ModelRuns', WHERE WHAT IT READS IS OF BULK AT MOST 1048576: true; the input reads as it did. -/
def modelRunsUptoRow : OpenClaim := { program := "ytoggblomknemoaa", sum := "7339c5025fa4b1f28736b1b793d9e5653bcc0ad2ff71db74672d13d9a92a3efd", func := "lockkeeper/lockkeeperlaw30.ModelRuns", spec := "modelRuns", unfollowed := true, recurses := true, apart := false, narrowed := true }
def ModelRunsUptoSaid : Prop := modelRunsUptoRow.holds Try.pinned (OpenSpec.upto modelRunsSpec)

/-- 'lockkeeperlaw30.ModelSerial', WHERE WHAT IT READS IS OF BULK AT MOST 1048576: true; the input reads as it did. -/
def modelSerialUptoRow : OpenClaim := { program := "ytoggblomknemoaa", sum := "7339c5025fa4b1f28736b1b793d9e5653bcc0ad2ff71db74672d13d9a92a3efd", func := "lockkeeper/lockkeeperlaw30.ModelSerial", spec := "modelSerial", unfollowed := true, recurses := true, apart := false, narrowed := true }
def ModelSerialUptoSaid : Prop := modelSerialUptoRow.holds Try.pinned (OpenSpec.upto modelSerialSpec)

end Rows
end Go.Proofs.Ytoggblomknemoaa
