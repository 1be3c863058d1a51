/- The statement MergeSplit: for every input the law returns true, and each argument reads behind the call as it read before. Conditions: none beyond the row's own. -/
import Derived.Test.YtmfaopjfdedheaaGreatRows
import Derived.Test.YtmfaopjfdedheaaGreatSx18
import Derived.Test.YtmfaopjfdedheaaGreatPureMergeSplit
import Derived.Test.YtmfaopjfdedheaaGreatOpen
import Derived.Test.YtmfaopjfdedheaaGreatSx17
import Derived.WalkKit
import Derived.ProofKit
import Derived.OpenShut
import Derived.ShutString
import Derived.ChangeOld
import Derived.Below
import Derived.SizedLaws
namespace Go.Proofs.YtmfaopjfdedheaaGreat.mergeSplit
open Go.ChangeShapes Go.WideShapes Go.ChangeAt Go.RowKit
open Go.ChangeMaps (open_string shut_string)
open Go.Proofs.YtmfaopjfdedheaaGreatW Go.Proofs.YtmfaopjfdedheaaGreatW.PrintWords Go.Proofs.YtmfaopjfdedheaaGreat.S
set_option linter.unusedVariables false
theorem own:ownKnob Tryz.prog.godebug=none:=by kernel_rfl
theorem laidOut:laidOutB Tryz.prog=true:=by kernel_rfl
set_option maxRecDepth 100000 in
theorem lifted (os:Os) (started:os.Started) (H:Type) (enc:TypeId×Value→H):
  ReturnsInHanded {} Tryz.checked os 5 .any (Rows.mergeSplitSpec.pre6 enc Tryz.prog Tryz.f5 Rows.mergeSplitRow.domain false) (Rows.mergeSplitSpec.post enc Tryz.prog Tryz.f5 false true false false):=by
 refine returnsInHanded_of_change_sized (C:=Tryz.checked) own started (by kernel_rfl) Tryz.func5
  (ChangeSpec.witness6 (enc:=enc) (C:=Tryz.checked) false ⟨#[],#[.agg #[.int .u64 0,.int .u64 0,.int .u8 0,.string ByteArray.empty,.string ByteArray.empty,.bool false,.int .u64 0,.int .u64 0,.slice none 0 0,.slice none 0 0],.int .u64 0,.agg #[.int .u64 0,.int .u64 0,.int .i64 0]],[]⟩ 8 (by kernel_rfl) (by kernel_rfl) (by kernel_rfl) (by kernel_rfl)) ?_
 intro W base args ds gs before hval0 hW hcnd hsz0 _
 have hsz:(DataW.weightsEach Tryz.prog (Tryz.f5.params.toList++Rows.mergeSplitSpec.plain.varTypes Tryz.prog) (ds++gs)).all (·≤reachBytes)=true:=hsz0
 have hval:∀ (j:Nat) t v,Tryz.f5.params[j]? =some t→args[j]? =some v→Value.okWide Tryz.prog W .any base t v:=hval0
 have hW':=hW
 obtain ⟨p,q,hA0,hV,rfl,hfz,hnd⟩:=hW
 have hA:DataW.TrodAll enc Tryz.prog W 0 (fun _=>true) true Tryz.f5.params.toList args.toList ds p:=hA0
 rw [Tryz.params5] at hA hval hsz
 obtain ⟨v0,vs0,d0,ds0,p0,q0,hargs,rfl,rfl,h0,r0⟩:=trodAll_cons hA
 obtain ⟨v1,vs1,d1,ds1,p1,q1,rfl,rfl,rfl,h1,r1⟩:=trodAll_cons r0
 obtain ⟨v2,vs2,d2,ds2,p2,q2,rfl,rfl,rfl,h2,r2⟩:=trodAll_cons r1
 obtain ⟨rfl,rfl,rfl⟩:=trodAll_nil r2
 obtain rfl:args=#[v0,v1,v2]:=by cases args;simp_all
 obtain ⟨rfl,rfl⟩:=trodVars_none hV
 have k0:=h0
 have lt0:∀ x∈p0,x.block < W.heap.size:=by obtain ⟨m,hm⟩:=k0;exact DataW.trod_lt m _ _ _ hm
 obtain ⟨y0,hK0,ok0⟩:=Open.opn_arg opn28 hsz (j:=0) (t:=28) rfl rfl h0
 obtain ⟨A0_8,c0_8,A0_9,c0_9,e0,hc0_8,hr0_8,hc0_9,hr0_9⟩:=k28_open hK0
 obtain rfl:=Open.arg_struct Tryz.underlying28 (hval 0 28 v0 rfl rfl) e0
 obtain ⟨a1,rfl,rfl,rfl,w1⟩:=open_int Tryz.underlying22 (hval 1 22 v1 rfl rfl) h1
 have k2:=h2
 have lt2:∀ x∈p2,x.block < W.heap.size:=by obtain ⟨m,hm⟩:=k2;exact DataW.trod_lt m _ _ _ hm
 obtain ⟨y2,hK2,ok2⟩:=Open.opn_arg opn30 hsz (j:=2) (t:=30) rfl rfl h2
 obtain e2:=k30_open hK2
 obtain rfl:=Open.arg_struct Tryz.underlying30 (hval 2 30 v2 rfl rfl) e2
 clear hA0 hval0 hsz0 hsz
 have P:=Pure.MergeSplit y0.f0 y0.f1 y0.f2 y0.f3 y0.f4 y0.f5 y0.f6 y0.f7.f0 y0.f7.f1 y0.f8 a1 y2.f0 y2.f1 y2.f2 ok0.1 ok0.2.1 ok0.2.2.1 ok0.2.2.2.1 ok0.2.2.2.2.1 ok0.2.2.2.2.2.2.1 ok0.2.2.2.2.2.2.2.1.1 ok0.2.2.2.2.2.2.2.1.2.1 ok0.2.2.2.2.2.2.2.1.2.2 ok0.2.2.2.2.2.2.2.2.1 ok0.2.2.2.2.2.2.2.2.2 w1 ok2.1 ok2.2.1 ok2.2.2
 obtain ⟨k,P⟩:=P
 refine (lockkeeperlaw16_MergeSplit.calls k y0.f0 y0.f1 y0.f2 y0.f3 y0.f4 y0.f5 y0.f6 y0.f7.f0 _ _ y0.f7.f1 _ _ y0.f8 a1 y2.f0 y2.f1 y2.f2 true W hr0_8 hc0_8 hr0_9 hc0_9 P).mono fun e W' ⟨he,bel0⟩=>?_
 have bel:Below W.heap.size W W':=bel0
 clear bel0
 subst he
 exact ⟨_,rfl,_,_,_,[],_,[],hW',trodAll_mk1 (shut_bool Tryz.underlying4 _),(trodAll_cons_mk (Below.trod laidOut (by kernel_rfl) (of_decide_eq_true (by kernel_rfl)) k0 bel lt0) (trodAll_cons_mk (shut_int Tryz.underlying22 w1) (trodAll_cons_mk (Below.trod laidOut (by kernel_rfl) (of_decide_eq_true (by kernel_rfl)) k2 bel lt2) trodAll_mk0))),rfl,bel.frame _,fun h=>by cases h⟩
theorem over:Rows.mergeSplitRow.holds Tryz.pinned (OpenSpec.ofChange Rows.mergeSplitSpec):=
 OpenClaim.holds_of_wide 5 Tryz.f5 rfl rfl rfl rfl rfl rfl rfl ⟨rfl,rfl,rfl,rfl,rfl⟩ rfl rfl rfl rfl rfl (by kernel_rfl) Tryz.func5 (by kernel_rfl)
  (of_decide_eq_true (by kernel_rfl)) (by unfold Func.isWrapper;first|(rw [if_pos (by decide+kernel)];kernel_rfl)|(rw [if_neg (by decide+kernel)];exact ⟨rfl,rfl⟩))
  (fun os started H enc _=>lifted os started H enc)
theorem proved:Rows.MergeSplitSaid:=over
#print axioms proved
end Go.Proofs.YtmfaopjfdedheaaGreat.mergeSplit
namespace Go.Proofs.YtmfaopjfdedheaaGreat
/-- The row, under a short name, for the claim. -/
theorem mergeSplit_holds:Rows.MergeSplitSaid:=mergeSplit.proved
end Go.Proofs.YtmfaopjfdedheaaGreat
