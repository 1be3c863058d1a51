/-
  No cell of these rows narrows 'for every input' (looked for: loops, veiled, ifaces, maps, wideKeys, modest, calm, conditions, laid).
  DERIVED. THE GIVEN ROWS OF THIS SEAT. 12 by the template 'for every input the law returns true; each argument reads behind the call as it read before'; 0 by the template 'total and deterministic' (their statements: YtebmpoonkmcjfaaTotals.lean).
  GIVEN WITH THE SEED: the statements are not yours to turn. If you find one false, say at which input.
  Laid BY PROGRAM, IN A SANDBOX (cutbox-rows.mjs): the forced cells as the released guide's own fill.sh prints them over the translation ed3efa120534e279… (all of the seat's roots in one cut). By AI agents, Wed Nov 11 2026. No macro, syntax, notation, axiom, sorry.
-/
import Derived.Test.YtebmpoonkmcjfaaChecked
import GoSem.Claim
import GoSem.ClaimJoined
import GoSem.ClaimMapViews
import Derived.JoinedTies
import Derived.KernelRfl
namespace Go.Proofs.Ytebmpoonkmcjfaa
/- THE CELL 'sum', in the pinned program and in every row, IS THE sha256 OF THE DUMP (.gsa) THAT YtebmpoonkmcjfaaProg.lean LOADS. Nothing in Lean hashes anything: it is a label: what it is worth is what the hold of that sum in a sandbox is worth. -/
noncomputable def Try.pinned : Pinned := { name := "ytebmpoonkmcjfaa", sum := "ed3efa120534e2791f064f180d4283f670277f110df47de53bc7646fc6dc3395", checked := Try.checked }
namespace Rows
def none {H : Type} : Left H := { results := [], args := [] }

/-- 'lockkeeperlaw04.LsnsTurns': WHATEVER THE INPUT: true; the input reads as it did. -/
def lsnsTurnsSpec : ChangeSpec := { name := "lsnsTurns", fn := fun _ => fun
  | [d1, d2, d3] => { results := [.lit (.bool true)], args := [d1, d2, d3] }
  | _ => none }
def lsnsTurnsRow : OpenClaim := { program := "ytebmpoonkmcjfaa", sum := "ed3efa120534e2791f064f180d4283f670277f110df47de53bc7646fc6dc3395", func := "lockkeeper/lockkeeperlaw04.LsnsTurns", spec := "lsnsTurns", unfollowed := true, recurses := true, apart := false }
def LsnsTurnsSaid : Prop := lsnsTurnsRow.holds Try.pinned (OpenSpec.ofChange lsnsTurnsSpec)

/-- ITS FALSE NEIGHBOUR: 'it returns false'. Refute it at one input. -/
def lsnsTurnsWrong : ChangeSpec := { name := "lsnsTurns", fn := fun _ => fun
  | [d1, d2, d3] => { results := [.lit (.bool false)], args := [d1, d2, d3] }
  | _ => none }
def LsnsTurnsWrongFalsely : Prop := lsnsTurnsRow.holds Try.pinned (OpenSpec.ofChange lsnsTurnsWrong)

/-- 'lockkeeperlaw04.LsnsMembers': WHATEVER THE INPUT: true; the input reads as it did. -/
def lsnsMembersSpec : ChangeSpec := { name := "lsnsMembers", fn := fun _ => fun
  | [d] => { results := [.lit (.bool true)], args := [d] }
  | _ => none }
def lsnsMembersRow : OpenClaim := { program := "ytebmpoonkmcjfaa", sum := "ed3efa120534e2791f064f180d4283f670277f110df47de53bc7646fc6dc3395", func := "lockkeeper/lockkeeperlaw04.LsnsMembers", spec := "lsnsMembers", unfollowed := true, recurses := true, apart := false }
def LsnsMembersSaid : Prop := lsnsMembersRow.holds Try.pinned (OpenSpec.ofChange lsnsMembersSpec)

/-- ITS FALSE NEIGHBOUR: 'it returns false'. Refute it at one input. -/
def lsnsMembersWrong : ChangeSpec := { name := "lsnsMembers", fn := fun _ => fun
  | [d] => { results := [.lit (.bool false)], args := [d] }
  | _ => none }
def LsnsMembersWrongFalsely : Prop := lsnsMembersRow.holds Try.pinned (OpenSpec.ofChange lsnsMembersWrong)

/-- 'lockkeeperlaw04.LsnsAsks': WHATEVER THE INPUT: true; the input reads as it did. -/
def lsnsAsksSpec : ChangeSpec := { name := "lsnsAsks", fn := fun _ => fun
  | [d1, d2, d3] => { results := [.lit (.bool true)], args := [d1, d2, d3] }
  | _ => none }
def lsnsAsksRow : OpenClaim := { program := "ytebmpoonkmcjfaa", sum := "ed3efa120534e2791f064f180d4283f670277f110df47de53bc7646fc6dc3395", func := "lockkeeper/lockkeeperlaw04.LsnsAsks", spec := "lsnsAsks", unfollowed := true, recurses := true, apart := false }
def LsnsAsksSaid : Prop := lsnsAsksRow.holds Try.pinned (OpenSpec.ofChange lsnsAsksSpec)

/-- ITS FALSE NEIGHBOUR: 'it returns false'. Refute it at one input. -/
def lsnsAsksWrong : ChangeSpec := { name := "lsnsAsks", fn := fun _ => fun
  | [d1, d2, d3] => { results := [.lit (.bool false)], args := [d1, d2, d3] }
  | _ => none }
def LsnsAsksWrongFalsely : Prop := lsnsAsksRow.holds Try.pinned (OpenSpec.ofChange lsnsAsksWrong)

/-- 'lockkeeperlaw04.LsnsOrder': WHATEVER THE INPUT: true; the input reads as it did. -/
def lsnsOrderSpec : ChangeSpec := { name := "lsnsOrder", fn := fun _ => fun
  | [d1, d2] => { results := [.lit (.bool true)], args := [d1, d2] }
  | _ => none }
def lsnsOrderRow : OpenClaim := { program := "ytebmpoonkmcjfaa", sum := "ed3efa120534e2791f064f180d4283f670277f110df47de53bc7646fc6dc3395", func := "lockkeeper/lockkeeperlaw04.LsnsOrder", spec := "lsnsOrder", unfollowed := true, recurses := true, apart := false }
def LsnsOrderSaid : Prop := lsnsOrderRow.holds Try.pinned (OpenSpec.ofChange lsnsOrderSpec)

/-- ITS FALSE NEIGHBOUR: 'it returns false'. Refute it at one input. -/
def lsnsOrderWrong : ChangeSpec := { name := "lsnsOrder", fn := fun _ => fun
  | [d1, d2] => { results := [.lit (.bool false)], args := [d1, d2] }
  | _ => none }
def LsnsOrderWrongFalsely : Prop := lsnsOrderRow.holds Try.pinned (OpenSpec.ofChange lsnsOrderWrong)

/-- 'lockkeeperlaw04.LsnsRaises': WHATEVER THE INPUT: true; the input reads as it did. -/
def lsnsRaisesSpec : ChangeSpec := { name := "lsnsRaises", fn := fun _ => fun
  | [d1, d2, d3] => { results := [.lit (.bool true)], args := [d1, d2, d3] }
  | _ => none }
def lsnsRaisesRow : OpenClaim := { program := "ytebmpoonkmcjfaa", sum := "ed3efa120534e2791f064f180d4283f670277f110df47de53bc7646fc6dc3395", func := "lockkeeper/lockkeeperlaw04.LsnsRaises", spec := "lsnsRaises", unfollowed := true, recurses := true, apart := false }
def LsnsRaisesSaid : Prop := lsnsRaisesRow.holds Try.pinned (OpenSpec.ofChange lsnsRaisesSpec)

/-- ITS FALSE NEIGHBOUR: 'it returns false'. Refute it at one input. -/
def lsnsRaisesWrong : ChangeSpec := { name := "lsnsRaises", fn := fun _ => fun
  | [d1, d2, d3] => { results := [.lit (.bool false)], args := [d1, d2, d3] }
  | _ => none }
def LsnsRaisesWrongFalsely : Prop := lsnsRaisesRow.holds Try.pinned (OpenSpec.ofChange lsnsRaisesWrong)

/-- 'lockkeeperlaw04.LsnsJoins': WHATEVER THE INPUT: true; the input reads as it did. -/
def lsnsJoinsSpec : ChangeSpec := { name := "lsnsJoins", fn := fun _ => fun
  | [d1, d2, d3] => { results := [.lit (.bool true)], args := [d1, d2, d3] }
  | _ => none }
def lsnsJoinsRow : OpenClaim := { program := "ytebmpoonkmcjfaa", sum := "ed3efa120534e2791f064f180d4283f670277f110df47de53bc7646fc6dc3395", func := "lockkeeper/lockkeeperlaw04.LsnsJoins", spec := "lsnsJoins", unfollowed := true, recurses := true, apart := false }
def LsnsJoinsSaid : Prop := lsnsJoinsRow.holds Try.pinned (OpenSpec.ofChange lsnsJoinsSpec)

/-- ITS FALSE NEIGHBOUR: 'it returns false'. Refute it at one input. -/
def lsnsJoinsWrong : ChangeSpec := { name := "lsnsJoins", fn := fun _ => fun
  | [d1, d2, d3] => { results := [.lit (.bool false)], args := [d1, d2, d3] }
  | _ => none }
def LsnsJoinsWrongFalsely : Prop := lsnsJoinsRow.holds Try.pinned (OpenSpec.ofChange lsnsJoinsWrong)

/-- 'lockkeeperlaw30.ModelMeans': WHATEVER THE INPUT: true; the input reads as it did. -/
def modelMeansSpec : ChangeSpec := { name := "modelMeans", fn := fun _ => fun
  | [d1, d2, d3] => { results := [.lit (.bool true)], args := [d1, d2, d3] }
  | _ => none }
def modelMeansRow : OpenClaim := { program := "ytebmpoonkmcjfaa", sum := "ed3efa120534e2791f064f180d4283f670277f110df47de53bc7646fc6dc3395", func := "lockkeeper/lockkeeperlaw30.ModelMeans", spec := "modelMeans", unfollowed := true, recurses := true, apart := false }
def ModelMeansSaid : Prop := modelMeansRow.holds Try.pinned (OpenSpec.ofChange modelMeansSpec)

/-- ITS FALSE NEIGHBOUR: 'it returns false'. Refute it at one input. -/
def modelMeansWrong : ChangeSpec := { name := "modelMeans", fn := fun _ => fun
  | [d1, d2, d3] => { results := [.lit (.bool false)], args := [d1, d2, d3] }
  | _ => none }
def ModelMeansWrongFalsely : Prop := modelMeansRow.holds Try.pinned (OpenSpec.ofChange modelMeansWrong)

/-- 'lockkeeperlaw30.ModelDoes': WHATEVER THE INPUT: true; the input reads as it did. -/
def modelDoesSpec : ChangeSpec := { name := "modelDoes", fn := fun _ => fun
  | [d1, d2] => { results := [.lit (.bool true)], args := [d1, d2] }
  | _ => none }
def modelDoesRow : OpenClaim := { program := "ytebmpoonkmcjfaa", sum := "ed3efa120534e2791f064f180d4283f670277f110df47de53bc7646fc6dc3395", func := "lockkeeper/lockkeeperlaw30.ModelDoes", spec := "modelDoes", unfollowed := true, recurses := true, apart := false }
def ModelDoesSaid : Prop := modelDoesRow.holds Try.pinned (OpenSpec.ofChange modelDoesSpec)

/-- ITS FALSE NEIGHBOUR: 'it returns false'. Refute it at one input. -/
def modelDoesWrong : ChangeSpec := { name := "modelDoes", fn := fun _ => fun
  | [d1, d2] => { results := [.lit (.bool false)], args := [d1, d2] }
  | _ => none }
def ModelDoesWrongFalsely : Prop := modelDoesRow.holds Try.pinned (OpenSpec.ofChange modelDoesWrong)

/-- 'lockkeeperlaw30.ModelApart': WHATEVER THE INPUT: true; the input reads as it did. -/
def modelApartSpec : ChangeSpec := { name := "modelApart", fn := fun _ => fun
  | [d1, d2, d3] => { results := [.lit (.bool true)], args := [d1, d2, d3] }
  | _ => none }
def modelApartRow : OpenClaim := { program := "ytebmpoonkmcjfaa", sum := "ed3efa120534e2791f064f180d4283f670277f110df47de53bc7646fc6dc3395", func := "lockkeeper/lockkeeperlaw30.ModelApart", spec := "modelApart", unfollowed := true, recurses := true, apart := false }
def ModelApartSaid : Prop := modelApartRow.holds Try.pinned (OpenSpec.ofChange modelApartSpec)

/-- ITS FALSE NEIGHBOUR: 'it returns false'. Refute it at one input. -/
def modelApartWrong : ChangeSpec := { name := "modelApart", fn := fun _ => fun
  | [d1, d2, d3] => { results := [.lit (.bool false)], args := [d1, d2, d3] }
  | _ => none }
def ModelApartWrongFalsely : Prop := modelApartRow.holds Try.pinned (OpenSpec.ofChange modelApartWrong)

/-- 'lockkeeperlaw04.LsnsBytes': WHATEVER THE INPUT: true; the input reads as it did. -/
def lsnsBytesSpec : ChangeSpec := { name := "lsnsBytes", fn := fun _ => fun
  | [d1, d2] => { results := [.lit (.bool true)], args := [d1, d2] }
  | _ => none }
def lsnsBytesRow : OpenClaim := { program := "ytebmpoonkmcjfaa", sum := "ed3efa120534e2791f064f180d4283f670277f110df47de53bc7646fc6dc3395", func := "lockkeeper/lockkeeperlaw04.LsnsBytes", spec := "lsnsBytes", unfollowed := true, recurses := true, apart := false }
def LsnsBytesSaid : Prop := lsnsBytesRow.holds Try.pinned (OpenSpec.ofChange lsnsBytesSpec)

/-- ITS FALSE NEIGHBOUR: 'it returns false'. Refute it at one input. -/
def lsnsBytesWrong : ChangeSpec := { name := "lsnsBytes", fn := fun _ => fun
  | [d1, d2] => { results := [.lit (.bool false)], args := [d1, d2] }
  | _ => none }
def LsnsBytesWrongFalsely : Prop := lsnsBytesRow.holds Try.pinned (OpenSpec.ofChange lsnsBytesWrong)

/-- 'lockkeeperlaw30.ModelRuns': WHATEVER THE INPUT: true; the input reads as it did. -/
def modelRunsSpec : ChangeSpec := { name := "modelRuns", fn := fun _ => fun
  | [d1, d2, d3] => { results := [.lit (.bool true)], args := [d1, d2, d3] }
  | _ => none }
def modelRunsRow : OpenClaim := { program := "ytebmpoonkmcjfaa", sum := "ed3efa120534e2791f064f180d4283f670277f110df47de53bc7646fc6dc3395", func := "lockkeeper/lockkeeperlaw30.ModelRuns", spec := "modelRuns", unfollowed := true, recurses := true, apart := false }
def ModelRunsSaid : Prop := modelRunsRow.holds Try.pinned (OpenSpec.ofChange modelRunsSpec)

/-- ITS FALSE NEIGHBOUR: 'it returns false'. Refute it at one input. -/
def modelRunsWrong : ChangeSpec := { name := "modelRuns", fn := fun _ => fun
  | [d1, d2, d3] => { results := [.lit (.bool false)], args := [d1, d2, d3] }
  | _ => none }
def ModelRunsWrongFalsely : Prop := modelRunsRow.holds Try.pinned (OpenSpec.ofChange modelRunsWrong)

/-- 'lockkeeperlaw30.ModelSerial': WHATEVER THE INPUT: true; the input reads as it did. -/
def modelSerialSpec : ChangeSpec := { name := "modelSerial", fn := fun _ => fun
  | [d1, d2, d3] => { results := [.lit (.bool true)], args := [d1, d2, d3] }
  | _ => none }
def modelSerialRow : OpenClaim := { program := "ytebmpoonkmcjfaa", sum := "ed3efa120534e2791f064f180d4283f670277f110df47de53bc7646fc6dc3395", func := "lockkeeper/lockkeeperlaw30.ModelSerial", spec := "modelSerial", unfollowed := true, recurses := true, apart := false }
def ModelSerialSaid : Prop := modelSerialRow.holds Try.pinned (OpenSpec.ofChange modelSerialSpec)

/-- ITS FALSE NEIGHBOUR: 'it returns false'. Refute it at one input. -/
def modelSerialWrong : ChangeSpec := { name := "modelSerial", fn := fun _ => fun
  | [d1, d2, d3] => { results := [.lit (.bool false)], args := [d1, d2, d3] }
  | _ => none }
def ModelSerialWrongFalsely : Prop := modelSerialRow.holds Try.pinned (OpenSpec.ofChange modelSerialWrong)

/- THE SECOND FORM. 'bulk': how many values and letters a reading holds, each counted each time it is reached (what is shared counts as often as it is met; a slice's spare places count too). A statement '..UptoSaid' is the law's where the arguments, and the package variables that the reading takes, are together of bulk at most 1048576: NARROWER than '..Said'. Prove '..Said' where nothing that the law and all that it calls make is longer than what came in: it says more and counts as full. Else prove '..UptoSaid'. A law counts once. -/
mutual
def uptoBulk {H : Type} : DataW H → Nat
  | .lit (.string bytes) => bytes.length + 1
  | .lit _ => 1
  | .nil => 1
  | .ptr d => uptoBulk d + 1
  | .slice elems spare => uptoBulkAll elems + uptoBulkAll spare + 1
  | .agg parts => uptoBulkAll parts + 1
  | .iface _ d => uptoBulk d + 1
  | .map entries => uptoBulkEntries entries + 1
  | .held _ => 1
def uptoBulkAll {H : Type} : List (DataW H) → Nat
  | [] => 0
  | d :: r => uptoBulk d + uptoBulkAll r
def uptoBulkEntries {H : Type} : List (Lit × DataW H) → Nat
  | [] => 0
  | x :: r => uptoBulkEntry x + uptoBulkEntries r
def uptoBulkEntry {H : Type} : Lit × DataW H → Nat
  | (.string bytes, d) => bytes.length + uptoBulk d + 1
  | (_, d) => uptoBulk d + 1
 end
def uptoSmall : (H : Type) → List (DataW H) → Bool := fun _ ds => decide (uptoBulkAll ds ≤ 1048576)
def OpenSpec.upto (s : _root_.Go.ChangeSpec) : _root_.Go.OpenSpec := { _root_.Go.OpenSpec.ofChange s with cond := some uptoSmall }

/-- 'lockkeeperlaw04.LsnsTurns', WHERE WHAT IT READS IS OF BULK AT MOST 1048576: true; the input reads as it did. -/
def lsnsTurnsUptoRow : OpenClaim := { program := "ytebmpoonkmcjfaa", sum := "ed3efa120534e2791f064f180d4283f670277f110df47de53bc7646fc6dc3395", func := "lockkeeper/lockkeeperlaw04.LsnsTurns", spec := "lsnsTurns", unfollowed := true, recurses := true, apart := false, narrowed := true }
def LsnsTurnsUptoSaid : Prop := lsnsTurnsUptoRow.holds Try.pinned (OpenSpec.upto lsnsTurnsSpec)

/-- 'lockkeeperlaw04.LsnsMembers', WHERE WHAT IT READS IS OF BULK AT MOST 1048576: true; the input reads as it did. -/
def lsnsMembersUptoRow : OpenClaim := { program := "ytebmpoonkmcjfaa", sum := "ed3efa120534e2791f064f180d4283f670277f110df47de53bc7646fc6dc3395", func := "lockkeeper/lockkeeperlaw04.LsnsMembers", spec := "lsnsMembers", unfollowed := true, recurses := true, apart := false, narrowed := true }
def LsnsMembersUptoSaid : Prop := lsnsMembersUptoRow.holds Try.pinned (OpenSpec.upto lsnsMembersSpec)

/-- 'lockkeeperlaw04.LsnsAsks', WHERE WHAT IT READS IS OF BULK AT MOST 1048576: true; the input reads as it did. -/
def lsnsAsksUptoRow : OpenClaim := { program := "ytebmpoonkmcjfaa", sum := "ed3efa120534e2791f064f180d4283f670277f110df47de53bc7646fc6dc3395", func := "lockkeeper/lockkeeperlaw04.LsnsAsks", spec := "lsnsAsks", unfollowed := true, recurses := true, apart := false, narrowed := true }
def LsnsAsksUptoSaid : Prop := lsnsAsksUptoRow.holds Try.pinned (OpenSpec.upto lsnsAsksSpec)

/-- 'lockkeeperlaw04.LsnsOrder', WHERE WHAT IT READS IS OF BULK AT MOST 1048576: true; the input reads as it did. -/
def lsnsOrderUptoRow : OpenClaim := { program := "ytebmpoonkmcjfaa", sum := "ed3efa120534e2791f064f180d4283f670277f110df47de53bc7646fc6dc3395", func := "lockkeeper/lockkeeperlaw04.LsnsOrder", spec := "lsnsOrder", unfollowed := true, recurses := true, apart := false, narrowed := true }
def LsnsOrderUptoSaid : Prop := lsnsOrderUptoRow.holds Try.pinned (OpenSpec.upto lsnsOrderSpec)

/-- 'lockkeeperlaw04.LsnsRaises', WHERE WHAT IT READS IS OF BULK AT MOST 1048576: true; the input reads as it did. -/
def lsnsRaisesUptoRow : OpenClaim := { program := "ytebmpoonkmcjfaa", sum := "ed3efa120534e2791f064f180d4283f670277f110df47de53bc7646fc6dc3395", func := "lockkeeper/lockkeeperlaw04.LsnsRaises", spec := "lsnsRaises", unfollowed := true, recurses := true, apart := false, narrowed := true }
def LsnsRaisesUptoSaid : Prop := lsnsRaisesUptoRow.holds Try.pinned (OpenSpec.upto lsnsRaisesSpec)

/-- 'lockkeeperlaw04.LsnsJoins', WHERE WHAT IT READS IS OF BULK AT MOST 1048576: true; the input reads as it did. -/
def lsnsJoinsUptoRow : OpenClaim := { program := "ytebmpoonkmcjfaa", sum := "ed3efa120534e2791f064f180d4283f670277f110df47de53bc7646fc6dc3395", func := "lockkeeper/lockkeeperlaw04.LsnsJoins", spec := "lsnsJoins", unfollowed := true, recurses := true, apart := false, narrowed := true }
def LsnsJoinsUptoSaid : Prop := lsnsJoinsUptoRow.holds Try.pinned (OpenSpec.upto lsnsJoinsSpec)

/-- 'lockkeeperlaw30.ModelMeans', WHERE WHAT IT READS IS OF BULK AT MOST 1048576: true; the input reads as it did. -/
def modelMeansUptoRow : OpenClaim := { program := "ytebmpoonkmcjfaa", sum := "ed3efa120534e2791f064f180d4283f670277f110df47de53bc7646fc6dc3395", func := "lockkeeper/lockkeeperlaw30.ModelMeans", spec := "modelMeans", unfollowed := true, recurses := true, apart := false, narrowed := true }
def ModelMeansUptoSaid : Prop := modelMeansUptoRow.holds Try.pinned (OpenSpec.upto modelMeansSpec)

/-- 'lockkeeperlaw30.ModelDoes', WHERE WHAT IT READS IS OF BULK AT MOST 1048576: true; the input reads as it did. -/
def modelDoesUptoRow : OpenClaim := { program := "ytebmpoonkmcjfaa", sum := "ed3efa120534e2791f064f180d4283f670277f110df47de53bc7646fc6dc3395", func := "lockkeeper/lockkeeperlaw30.ModelDoes", spec := "modelDoes", unfollowed := true, recurses := true, apart := false, narrowed := true }
def ModelDoesUptoSaid : Prop := modelDoesUptoRow.holds Try.pinned (OpenSpec.upto modelDoesSpec)

/-- 'lockkeeperlaw30.ModelApart', WHERE WHAT IT READS IS OF BULK AT MOST 1048576: true; the input reads as it did. -/
def modelApartUptoRow : OpenClaim := { program := "ytebmpoonkmcjfaa", sum := "ed3efa120534e2791f064f180d4283f670277f110df47de53bc7646fc6dc3395", func := "lockkeeper/lockkeeperlaw30.ModelApart", spec := "modelApart", unfollowed := true, recurses := true, apart := false, narrowed := true }
def ModelApartUptoSaid : Prop := modelApartUptoRow.holds Try.pinned (OpenSpec.upto modelApartSpec)

/-- 'lockkeeperlaw04.LsnsBytes', WHERE WHAT IT READS IS OF BULK AT MOST 1048576: true; the input reads as it did. -/
def lsnsBytesUptoRow : OpenClaim := { program := "ytebmpoonkmcjfaa", sum := "ed3efa120534e2791f064f180d4283f670277f110df47de53bc7646fc6dc3395", func := "lockkeeper/lockkeeperlaw04.LsnsBytes", spec := "lsnsBytes", unfollowed := true, recurses := true, apart := false, narrowed := true }
def LsnsBytesUptoSaid : Prop := lsnsBytesUptoRow.holds Try.pinned (OpenSpec.upto lsnsBytesSpec)

/-- 'lockkeeperlaw30.ModelRuns', WHERE WHAT IT READS IS OF BULK AT MOST 1048576: true; the input reads as it did. -/
def modelRunsUptoRow : OpenClaim := { program := "ytebmpoonkmcjfaa", sum := "ed3efa120534e2791f064f180d4283f670277f110df47de53bc7646fc6dc3395", func := "lockkeeper/lockkeeperlaw30.ModelRuns", spec := "modelRuns", unfollowed := true, recurses := true, apart := false, narrowed := true }
def ModelRunsUptoSaid : Prop := modelRunsUptoRow.holds Try.pinned (OpenSpec.upto modelRunsSpec)

/-- 'lockkeeperlaw30.ModelSerial', WHERE WHAT IT READS IS OF BULK AT MOST 1048576: true; the input reads as it did. -/
def modelSerialUptoRow : OpenClaim := { program := "ytebmpoonkmcjfaa", sum := "ed3efa120534e2791f064f180d4283f670277f110df47de53bc7646fc6dc3395", func := "lockkeeper/lockkeeperlaw30.ModelSerial", spec := "modelSerial", unfollowed := true, recurses := true, apart := false, narrowed := true }
def ModelSerialUptoSaid : Prop := modelSerialUptoRow.holds Try.pinned (OpenSpec.upto modelSerialSpec)

end Rows
end Go.Proofs.Ytebmpoonkmcjfaa
