/- The statement ModelRuns: for every input the law returns true, and each argument reads behind the call as it read before. Conditions: none beyond the row's own. -/
import Derived.Test.YtoggblomknemoaaRows
import Derived.Test.YtoggblomknemoaaRx14
import Derived.Test.YtoggblomknemoaaPureModelRuns
import Derived.Test.YtoggblomknemoaaOpen
import Derived.Test.YtoggblomknemoaaRx12
import Derived.WalkKit
import Derived.ProofKit
import Derived.OpenShut
import Derived.ShutString
import Derived.ChangeOld
import Derived.Below
import Derived.SizedLaws
namespace Go.Proofs.Ytoggblomknemoaa.modelRuns
open Go.ChangeShapes Go.WideShapes Go.ChangeAt Go.RowKit
open Go.ChangeMaps (open_string shut_string)
open Go.Proofs.YtoggblomknemoaaW Go.Proofs.YtoggblomknemoaaW.PrintWords Go.Proofs.Ytoggblomknemoaa.R
set_option linter.unusedVariables false
theorem own : ownKnob Try.prog.godebug = none := by kernel_rfl
theorem laidOut : laidOutB Try.prog = true := by kernel_rfl
set_option maxRecDepth 100000 in
theorem lifted (os : Os) (started : os.Started) (H : Type) (enc : TypeId × Value → H) :
    ReturnsInHanded {} Try.checked os 6 .any (Rows.modelRunsSpec.pre6 enc Try.prog Try.f6 Rows.modelRunsRow.domain false) (Rows.modelRunsSpec.post enc Try.prog Try.f6 false true false false) := by
  refine returnsInHanded_of_change_sized (C := Try.checked) own started (by kernel_rfl) Try.func6
    (ChangeSpec.witness6 (enc := enc) (C := Try.checked) false ⟨#[], #[.slice none 0 0, .slice none 0 0, .slice none 0 0], []⟩ 8 (by kernel_rfl) (by kernel_rfl) (by kernel_rfl) (by kernel_rfl)) ?_
  intro W base args ds gs before hval0 hW hcnd hsz0 _
  have hsz : (DataW.weightsEach Try.prog (Try.f6.params.toList ++ Rows.modelRunsSpec.plain.varTypes Try.prog) (ds ++ gs)).all (· ≤ reachBytes) = true := hsz0
  have hval : ∀ (j : Nat) t v, Try.f6.params[j]? = some t → args[j]? = some v → Value.okWide Try.prog W .any base t v := hval0
  have hW' := hW
  obtain ⟨p, q, hA0, hV, rfl, hfz, hnd⟩ := hW
  have hA : DataW.TrodAll enc Try.prog W 0 (fun _ => true) true Try.f6.params.toList args.toList ds p := hA0
  rw [Try.params6] at hA hval hsz
  obtain ⟨v0, vs0, d0, ds0, p0, q0, hargs, rfl, rfl, h0, r0⟩ := trodAll_cons hA
  obtain ⟨v1, vs1, d1, ds1, p1, q1, rfl, rfl, rfl, h1, r1⟩ := trodAll_cons r0
  obtain ⟨v2, vs2, d2, ds2, p2, q2, rfl, rfl, rfl, h2, r2⟩ := trodAll_cons r1
  obtain ⟨rfl, rfl, rfl⟩ := trodAll_nil r2
  obtain rfl : args = #[v0, v1, v2] := by cases args; simp_all
  obtain ⟨rfl, rfl⟩ := trodVars_none hV
  have k0 := h0
  have lt0 : ∀ x ∈ p0, x.block < W.heap.size := by obtain ⟨m, hm⟩ := k0; exact DataW.trod_lt m _ _ _ hm
  obtain ⟨l0, hK0, ok0⟩ := Open.opn_arg (Open.opn_slice (B := 32) Try.underlying22 (by kernel_rfl) (by kernel_rfl) opn42) hsz (j := 0) (t := 22) rfl rfl h0
  obtain ⟨A0, c0, rfl, hc0, hr0⟩ := Open.arg_slice Try.underlying22 (hval 0 22 v0 rfl rfl) hK0
  have k1 := h1
  have lt1 : ∀ x ∈ p1, x.block < W.heap.size := by obtain ⟨m, hm⟩ := k1; exact DataW.trod_lt m _ _ _ hm
  obtain ⟨l1, hK1, ok1⟩ := Open.opn_arg (Open.opn_slice (B := 32) Try.underlying22 (by kernel_rfl) (by kernel_rfl) opn42) hsz (j := 1) (t := 22) rfl rfl h1
  obtain ⟨A1, c1, rfl, hc1, hr1⟩ := Open.arg_slice Try.underlying22 (hval 1 22 v1 rfl rfl) hK1
  have k2 := h2
  have lt2 : ∀ x ∈ p2, x.block < W.heap.size := by obtain ⟨m, hm⟩ := k2; exact DataW.trod_lt m _ _ _ hm
  obtain ⟨l2, hK2, ok2⟩ := Open.opn_arg (Open.opn_slice (B := 56) Try.underlying49 (by kernel_rfl) (by kernel_rfl) opn54) hsz (j := 2) (t := 49) rfl rfl h2
  obtain ⟨A2, c2, rfl, hc2, hr2⟩ := Open.arg_slice Try.underlying49 (hval 2 49 v2 rfl rfl) hK2
  clear hA0 hval0 hsz0 hsz
  have P := Pure.ModelRuns l0 l1 l2 ok0.1 ok0.2 ok1.1 ok1.2 ok2.1 ok2.2
  obtain ⟨k, P⟩ := P
  refine (lockkeeperlaw30_ModelRuns.calls k _ _ l0 _ _ l1 _ _ l2 true W hr0 hc0 hr1 hc1 hr2 hc2 P).mono fun e W' ⟨he, bel0⟩ => ?_
  have bel : Below W.heap.size W W' := bel0
  clear bel0
  subst he
  exact ⟨_, rfl, _, _, _, [], _, [], hW', trodAll_mk1 (shut_bool Try.underlying4 _), (trodAll_cons_mk (Below.trod laidOut (by kernel_rfl) (of_decide_eq_true (by kernel_rfl)) k0 bel lt0) (trodAll_cons_mk (Below.trod laidOut (by kernel_rfl) (of_decide_eq_true (by kernel_rfl)) k1 bel lt1) (trodAll_cons_mk (Below.trod laidOut (by kernel_rfl) (of_decide_eq_true (by kernel_rfl)) k2 bel lt2) trodAll_mk0))), rfl, bel.frame _, fun h => by cases h⟩
theorem over : Rows.modelRunsRow.holds Try.pinned (OpenSpec.ofChange Rows.modelRunsSpec) :=
  OpenClaim.holds_of_wide 6 Try.f6 rfl rfl rfl rfl rfl rfl rfl ⟨rfl, rfl, rfl, rfl, rfl⟩ rfl rfl rfl rfl rfl (by kernel_rfl) Try.func6 (by kernel_rfl)
    (of_decide_eq_true (by kernel_rfl)) (by unfold Func.isWrapper; first | (rw [if_pos (by decide +kernel)]; kernel_rfl) | (rw [if_neg (by decide +kernel)]; exact ⟨rfl, rfl⟩))
    (fun os started H enc _ => lifted os started H enc)
theorem proved : Rows.ModelRunsSaid := over
#print axioms proved
end Go.Proofs.Ytoggblomknemoaa.modelRuns
namespace Go.Proofs.Ytoggblomknemoaa
/-- The row, under a short name, for the claim. -/
theorem modelRuns_holds : Rows.ModelRunsSaid := modelRuns.proved
end Go.Proofs.Ytoggblomknemoaa
