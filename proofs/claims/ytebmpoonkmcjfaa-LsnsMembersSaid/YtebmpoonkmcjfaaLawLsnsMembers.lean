/- The statement LsnsMembers: for every input the law returns true, and each argument reads behind the call as it read before. Conditions: none beyond the row's own. -/
import Derived.Test.YtebmpoonkmcjfaaRows
import Derived.Test.YtebmpoonkmcjfaaDx3
import Derived.Test.YtebmpoonkmcjfaaPureLsnsMembers
import Derived.Test.YtebmpoonkmcjfaaOpen
import Derived.Test.YtebmpoonkmcjfaaDx2
import Derived.WalkKit
import Derived.ProofKit
import Derived.OpenShut
import Derived.ShutString
import Derived.ChangeOld
import Derived.Below
import Derived.SizedLaws
namespace Go.Proofs.Ytebmpoonkmcjfaa.lsnsMembers
open Go.ChangeShapes Go.WideShapes Go.ChangeAt Go.RowKit
open Go.ChangeMaps (open_string shut_string)
open Go.Proofs.YtebmpoonkmcjfaaW Go.Proofs.YtebmpoonkmcjfaaW.PrintWords Go.Proofs.Ytebmpoonkmcjfaa.D
set_option linter.unusedVariables false
theorem own : ownKnob Try.prog.godebug = none := by kernel_rfl
theorem laidOut : laidOutB Try.prog = true := by kernel_rfl
set_option maxRecDepth 100000 in
theorem lifted (os : Os) (started : os.Started) (H : Type) (enc : TypeId × Value → H) :
    ReturnsInHanded {} Try.checked os 4 .any (Rows.lsnsMembersSpec.pre6 enc Try.prog Try.f4 Rows.lsnsMembersRow.domain false) (Rows.lsnsMembersSpec.post enc Try.prog Try.f4 false true false false) := by
  refine returnsInHanded_of_change_sized (C := Try.checked) own started (by kernel_rfl) Try.func4
    (ChangeSpec.witness6 (enc := enc) (C := Try.checked) false ⟨#[], #[.agg #[.int .u64 0, .slice none 0 0, .int .u64 0, .slice none 0 0, .int .u64 0, .int .u64 0]], []⟩ 8 (by kernel_rfl) (by kernel_rfl) (by kernel_rfl) (by kernel_rfl)) ?_
  intro W base args ds gs before hval0 hW hcnd hsz0 _
  have hsz : (DataW.weightsEach Try.prog (Try.f4.params.toList ++ Rows.lsnsMembersSpec.plain.varTypes Try.prog) (ds ++ gs)).all (· ≤ reachBytes) = true := hsz0
  have hval : ∀ (j : Nat) t v, Try.f4.params[j]? = some t → args[j]? = some v → Value.okWide Try.prog W .any base t v := hval0
  have hW' := hW
  obtain ⟨p, q, hA0, hV, rfl, hfz, hnd⟩ := hW
  have hA : DataW.TrodAll enc Try.prog W 0 (fun _ => true) true Try.f4.params.toList args.toList ds p := hA0
  rw [Try.params4] at hA hval hsz
  obtain ⟨v0, vs0, d0, ds0, p0, q0, hargs, rfl, rfl, h0, r0⟩ := trodAll_cons hA
  obtain ⟨rfl, rfl, rfl⟩ := trodAll_nil r0
  obtain rfl : args = #[v0] := by cases args; simp_all
  obtain ⟨rfl, rfl⟩ := trodVars_none hV
  have k0 := h0
  have lt0 : ∀ x ∈ p0, x.block < W.heap.size := by obtain ⟨m, hm⟩ := k0; exact DataW.trod_lt m _ _ _ hm
  obtain ⟨y0, hK0, ok0⟩ := Open.opn_arg opn39 hsz (j := 0) (t := 39) rfl rfl h0
  obtain ⟨A0_1, c0_1, A0_3, c0_3, e0, hc0_1, hr0_1, hc0_3, hr0_3⟩ := k39_open hK0
  obtain rfl := Open.arg_struct Try.underlying39 (hval 0 39 v0 rfl rfl) e0
  clear hA0 hval0 hsz0 hsz
  have P := Pure.LsnsMembers y0.f0.f0 y0.f0.f1 y0.f1.f0 y0.f1.f1 y0.f2 y0.f3 ok0.1.1 ok0.1.2.1 ok0.1.2.2 ok0.2.1.1 ok0.2.1.2.1 ok0.2.1.2.2 ok0.2.2.1 ok0.2.2.2
  obtain ⟨k, P⟩ := P
  refine (lockkeeperlaw04_LsnsMembers.calls k y0.f0.f0 _ _ y0.f0.f1 y0.f1.f0 _ _ y0.f1.f1 y0.f2 y0.f3 true W hr0_1 hc0_1 hr0_3 hc0_3 P).mono fun e W' ⟨he, bel0⟩ => ?_
  have bel : Below W.heap.size W W' := bel0
  clear bel0
  subst he
  exact ⟨_, rfl, _, _, _, [], _, [], hW', trodAll_mk1 (shut_bool Try.underlying4 _), (trodAll_cons_mk (Below.trod laidOut (by kernel_rfl) (of_decide_eq_true (by kernel_rfl)) k0 bel lt0) trodAll_mk0), rfl, bel.frame _, fun h => by cases h⟩
theorem over : Rows.lsnsMembersRow.holds Try.pinned (OpenSpec.ofChange Rows.lsnsMembersSpec) :=
  OpenClaim.holds_of_wide 4 Try.f4 rfl rfl rfl rfl rfl rfl rfl ⟨rfl, rfl, rfl, rfl, rfl⟩ rfl rfl rfl rfl rfl (by kernel_rfl) Try.func4 (by kernel_rfl)
    (of_decide_eq_true (by kernel_rfl)) (by unfold Func.isWrapper; first | (rw [if_pos (by decide +kernel)]; kernel_rfl) | (rw [if_neg (by decide +kernel)]; exact ⟨rfl, rfl⟩))
    (fun os started H enc _ => lifted os started H enc)
theorem proved : Rows.LsnsMembersSaid := over
#print axioms proved
end Go.Proofs.Ytebmpoonkmcjfaa.lsnsMembers
namespace Go.Proofs.Ytebmpoonkmcjfaa
/-- The row, under a short name, for the claim. -/
theorem lsnsMembers_holds : Rows.LsnsMembersSaid := lsnsMembers.proved
end Go.Proofs.Ytebmpoonkmcjfaa
