/- The statement MergeTurns: for every input the law returns true, and each argument reads behind the call as it read before. Conditions: none beyond the row's own. -/
import Derived.Test.YtmfaopjfdedheaaGreatRows
import Derived.Test.YtmfaopjfdedheaaGreatTx20
import Derived.Test.YtmfaopjfdedheaaGreatPureMergeTurns
import Derived.Test.YtmfaopjfdedheaaGreatOpen
import Derived.Test.YtmfaopjfdedheaaGreatTx19
import Derived.WalkKit
import Derived.ProofKit
import Derived.OpenShut
import Derived.ShutString
import Derived.ChangeOld
import Derived.Below
import Derived.SizedLaws
namespace Go.Proofs.YtmfaopjfdedheaaGreat.mergeTurns
open Go.ChangeShapes Go.WideShapes Go.ChangeAt Go.RowKit
open Go.ChangeMaps (open_string shut_string)
open Go.Proofs.YtmfaopjfdedheaaGreatW Go.Proofs.YtmfaopjfdedheaaGreatW.PrintWords Go.Proofs.YtmfaopjfdedheaaGreat.T
set_option linter.unusedVariables false
theorem own:ownKnob Tryz.prog.godebug=none:=by kernel_rfl
theorem laidOut:laidOutB Tryz.prog=true:=by kernel_rfl
set_option maxRecDepth 100000 in
theorem lifted (os:Os) (started:os.Started) (H:Type) (enc:TypeId×Value→H):
  ReturnsInHanded {} Tryz.checked os 3 .any (Rows.mergeTurnsSpec.pre6 enc Tryz.prog Tryz.f3 Rows.mergeTurnsRow.domain false) (Rows.mergeTurnsSpec.post enc Tryz.prog Tryz.f3 false true false false):=by
 refine returnsInHanded_of_change_sized (C:=Tryz.checked) own started (by kernel_rfl) Tryz.func3
  (ChangeSpec.witness6 (enc:=enc) (C:=Tryz.checked) false ⟨#[],#[.agg #[.int .u64 0,.int .u64 0,.int .u8 0,.string ByteArray.empty,.string ByteArray.empty,.bool false,.int .u64 0,.int .u64 0,.slice none 0 0,.slice none 0 0],.agg #[.int .u64 0,.int .u64 0,.int .u8 0,.string ByteArray.empty,.string ByteArray.empty,.bool false,.int .u64 0,.int .u64 0,.slice none 0 0,.slice none 0 0],.agg #[.int .u64 0,.int .u64 0,.int .i64 0]],[]⟩ 8 (by kernel_rfl) (by kernel_rfl) (by kernel_rfl) (by kernel_rfl)) ?_
 intro W base args ds gs before hval0 hW hcnd hsz0 _
 have hsz:(DataW.weightsEach Tryz.prog (Tryz.f3.params.toList++Rows.mergeTurnsSpec.plain.varTypes Tryz.prog) (ds++gs)).all (·≤reachBytes)=true:=hsz0
 have hval:∀ (j:Nat) t v,Tryz.f3.params[j]? =some t→args[j]? =some v→Value.okWide Tryz.prog W .any base t v:=hval0
 have hW':=hW
 obtain ⟨p,q,hA0,hV,rfl,hfz,hnd⟩:=hW
 have hA:DataW.TrodAll enc Tryz.prog W 0 (fun _=>true) true Tryz.f3.params.toList args.toList ds p:=hA0
 rw [Tryz.params3] at hA hval hsz
 obtain ⟨v0,vs0,d0,ds0,p0,q0,hargs,rfl,rfl,h0,r0⟩:=trodAll_cons hA
 obtain ⟨v1,vs1,d1,ds1,p1,q1,rfl,rfl,rfl,h1,r1⟩:=trodAll_cons r0
 obtain ⟨v2,vs2,d2,ds2,p2,q2,rfl,rfl,rfl,h2,r2⟩:=trodAll_cons r1
 obtain ⟨rfl,rfl,rfl⟩:=trodAll_nil r2
 obtain rfl:args=#[v0,v1,v2]:=by cases args;simp_all
 obtain ⟨rfl,rfl⟩:=trodVars_none hV
 have k0:=h0
 have lt0:∀ x∈p0,x.block < W.heap.size:=by obtain ⟨m,hm⟩:=k0;exact DataW.trod_lt m _ _ _ hm
 obtain ⟨y0,hK0,ok0⟩:=Open.opn_arg opn28 hsz (j:=0) (t:=28) rfl rfl h0
 obtain ⟨A0_8,c0_8,A0_9,c0_9,e0,hc0_8,hr0_8,hc0_9,hr0_9⟩:=k28_open hK0
 obtain rfl:=Open.arg_struct Tryz.underlying28 (hval 0 28 v0 rfl rfl) e0
 have k1:=h1
 have lt1:∀ x∈p1,x.block < W.heap.size:=by obtain ⟨m,hm⟩:=k1;exact DataW.trod_lt m _ _ _ hm
 obtain ⟨y1,hK1,ok1⟩:=Open.opn_arg opn28 hsz (j:=1) (t:=28) rfl rfl h1
 obtain ⟨A1_8,c1_8,A1_9,c1_9,e1,hc1_8,hr1_8,hc1_9,hr1_9⟩:=k28_open hK1
 obtain rfl:=Open.arg_struct Tryz.underlying28 (hval 1 28 v1 rfl rfl) e1
 have k2:=h2
 have lt2:∀ x∈p2,x.block < W.heap.size:=by obtain ⟨m,hm⟩:=k2;exact DataW.trod_lt m _ _ _ hm
 obtain ⟨y2,hK2,ok2⟩:=Open.opn_arg opn30 hsz (j:=2) (t:=30) rfl rfl h2
 obtain e2:=k30_open hK2
 obtain rfl:=Open.arg_struct Tryz.underlying30 (hval 2 30 v2 rfl rfl) e2
 clear hA0 hval0 hsz0 hsz
 have P:=Pure.MergeTurns y0.f0 y0.f1 y0.f2 y0.f3 y0.f4 y0.f5 y0.f6 y0.f7.f0 y0.f7.f1 y0.f8 y1.f0 y1.f1 y1.f2 y1.f3 y1.f4 y1.f5 y1.f6 y1.f7.f0 y1.f7.f1 y1.f8 y2.f0 y2.f1 y2.f2 ok0.1 ok0.2.1 ok0.2.2.1 ok0.2.2.2.1 ok0.2.2.2.2.1 ok0.2.2.2.2.2.2.1 ok0.2.2.2.2.2.2.2.1.1 ok0.2.2.2.2.2.2.2.1.2.1 ok0.2.2.2.2.2.2.2.1.2.2 ok0.2.2.2.2.2.2.2.2.1 ok0.2.2.2.2.2.2.2.2.2 ok1.1 ok1.2.1 ok1.2.2.1 ok1.2.2.2.1 ok1.2.2.2.2.1 ok1.2.2.2.2.2.2.1 ok1.2.2.2.2.2.2.2.1.1 ok1.2.2.2.2.2.2.2.1.2.1 ok1.2.2.2.2.2.2.2.1.2.2 ok1.2.2.2.2.2.2.2.2.1 ok1.2.2.2.2.2.2.2.2.2 ok2.1 ok2.2.1 ok2.2.2
 obtain ⟨k,P⟩:=P
 refine (y16_MergeTurns.calls k y0.f0 y0.f1 y0.f2 y0.f3 y0.f4 y0.f5 y0.f6 y0.f7.f0 _ _ y0.f7.f1 _ _ y0.f8 y1.f0 y1.f1 y1.f2 y1.f3 y1.f4 y1.f5 y1.f6 y1.f7.f0 _ _ y1.f7.f1 _ _ y1.f8 y2.f0 y2.f1 y2.f2 true W hr0_8 hc0_8 hr0_9 hc0_9 hr1_8 hc1_8 hr1_9 hc1_9 P).mono fun e W' ⟨he,bel0⟩=>?_
 have bel:Below W.heap.size W W':=bel0
 clear bel0
 subst he
 exact ⟨_,rfl,_,_,_,[],_,[],hW',trodAll_mk1 (shut_bool Tryz.underlying4 _),(trodAll_cons_mk (Below.trod laidOut (by kernel_rfl) (of_decide_eq_true (by kernel_rfl)) k0 bel lt0) (trodAll_cons_mk (Below.trod laidOut (by kernel_rfl) (of_decide_eq_true (by kernel_rfl)) k1 bel lt1) (trodAll_cons_mk (Below.trod laidOut (by kernel_rfl) (of_decide_eq_true (by kernel_rfl)) k2 bel lt2) trodAll_mk0))),rfl,bel.frame _,fun h=>by cases h⟩
theorem over:Rows.mergeTurnsRow.holds Tryz.pinned (OpenSpec.ofChange Rows.mergeTurnsSpec):=
 OpenClaim.holds_of_wide 3 Tryz.f3 rfl rfl rfl rfl rfl rfl rfl ⟨rfl,rfl,rfl,rfl,rfl⟩ rfl rfl rfl rfl rfl (by kernel_rfl) Tryz.func3 (by kernel_rfl)
  (of_decide_eq_true (by kernel_rfl)) (by unfold Func.isWrapper;first|(rw [if_pos (by decide+kernel)];kernel_rfl)|(rw [if_neg (by decide+kernel)];exact ⟨rfl,rfl⟩))
  (fun os started H enc _=>lifted os started H enc)
theorem proved:Rows.MergeTurnsSaid:=over
#print axioms proved
end Go.Proofs.YtmfaopjfdedheaaGreat.mergeTurns
namespace Go.Proofs.YtmfaopjfdedheaaGreat
/-- The row, under a short name, for the claim. -/
theorem mergeTurns_holds:Rows.MergeTurnsSaid:=mergeTurns.proved
end Go.Proofs.YtmfaopjfdedheaaGreat
