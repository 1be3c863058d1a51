-- PRINTED by print.py (a twelfth state) out of the translation. Not trusted: Lean checks it.
import Derived.Test.YtmfaopjfdedheaaGreatSv
import Derived.Test.YtmfaopjfdedheaaGreatSh
import Derived.Test.YtmfaopjfdedheaaGreatMv
import Derived.Test.YtmfaopjfdedheaaGreatFx0
import Derived.Test.YtmfaopjfdedheaaGreatFx1
import Derived.Test.YtmfaopjfdedheaaGreatFx3
import Derived.Test.YtmfaopjfdedheaaGreatFx4
import Derived.Test.YtmfaopjfdedheaaGreatFx6
import Derived.Test.YtmfaopjfdedheaaGreatFx7
import Derived.Test.YtmfaopjfdedheaaGreatFx8
namespace Go.Proofs.YtmfaopjfdedheaaGreat.F
open Go.RowKit Go.Proofs.YtmfaopjfdedheaaGreatW Go.Proofs.YtmfaopjfdedheaaGreatW.PrintWords Go.Proofs.YtmfaopjfdedheaaGreatW.PrintLast Go.Proofs.YtmfaopjfdedheaaGreatW.PrintMore
attribute [local go_sem] GpMore.bytes_le max2_int min2_int max_two min_two max_three min_three max_four min_four   -- for this text's walks alone
set_option linter.unusedVariables false
set_option linter.unusedSimpArgs false

attribute [local go_sem high] eqA42
/-! ### lockkeeperlaw16_head: function 8 -/
def lockkeeperlaw16_head.f (k:Nat):Option Bool:=if 40≤k then some true else none
theorem lockkeeperlaw16_head_c1 {W:World} {g:Nat} {x y:ByteArray} (h:W.heap[g]? =some (.cells #[.string x,.string y] 42 (0,0))):Kd.C k42 W (some ⟨g,0,none⟩) ([(⟨x,y⟩:S42)]:List S42).length [⟨x,y⟩]:=by
 refine ⟨rfl,by simp,fun _=>⟨_,rfl,fun j p hj=>?_⟩⟩
 match j,hj with
 |0,hj=>
  obtain rfl:=Option.some.inj hj
  refine ⟨[.string x,.string y],rfl,k42_mk W _,fun i u hu=>?_⟩
  match i,hu with
  |0,hu=>obtain rfl:=Option.some.inj hu;exact (blk_cell h 0).trans rfl
  |1,hu=>obtain rfl:=Option.some.inj hu;exact (blk_cell h 1).trans rfl
theorem lockkeeperlaw16_head_c2 {W:World} {g:Nat} {x y x' y':ByteArray} (h:W.heap[g]? =some (.cells #[.string x,.string y,.string x',.string y'] 42 (0,0))):Kd.C k42 W (some ⟨g,0,none⟩) ([(⟨x,y⟩:S42),⟨x',y'⟩]:List S42).length [⟨x,y⟩,⟨x',y'⟩]:=by
 refine ⟨rfl,by simp,fun _=>⟨_,rfl,fun j p hj=>?_⟩⟩
 match j,hj with
 |0,hj=>
  obtain rfl:=Option.some.inj hj
  refine ⟨[.string x,.string y],rfl,k42_mk W _,fun i u hu=>?_⟩
  match i,hu with
  |0,hu=>obtain rfl:=Option.some.inj hu;exact (blk_cell h 0).trans rfl
  |1,hu=>obtain rfl:=Option.some.inj hu;exact (blk_cell h 1).trans rfl
 |1,hj=>
  obtain rfl:=Option.some.inj hj
  refine ⟨[.string x',.string y'],rfl,k42_mk W _,fun i u hu=>?_⟩
  match i,hu with
  |0,hu=>obtain rfl:=Option.some.inj hu;exact (blk_cell h 2).trans rfl
  |1,hu=>obtain rfl:=Option.some.inj hu;exact (blk_cell h 3).trans rfl
theorem lockkeeperlaw16_head_new (W:World) (o:Obj) (g:Nat) (h:g=W.heap.size):(W.alloc o).heap[g]? =some o:=h ▸ blk_new W o
theorem lockkeeperlaw16_head_known:∃ s1 s2:ByteArray,page_Kid.f 40 1=some (s1,0)∧page_Kid.f 40 2=some (s2,0)∧merge_Unpost.f 40 3 0 1 (⟨#[]⟩:ByteArray) (⟨#[]⟩:ByteArray) false 0 0 ([]:List Int) [(⟨(⟨#[]⟩:ByteArray),s1⟩:S42),(⟨(⟨#[98]⟩:ByteArray),s2⟩:S42)] 2 0 0 (⟨#[98]⟩:ByteArray) (⟨#[]⟩:ByteArray) false 0 5 ([]:List Int) [(⟨(⟨#[99]⟩:ByteArray),(⟨#[50]⟩:ByteArray)⟩:S42)] 7=some (3,0,1,(⟨#[]⟩:ByteArray),(⟨#[]⟩:ByteArray),false,7,0,([]:List Int),[(⟨(⟨#[]⟩:ByteArray),s1⟩:S42)],0)∧merge_Unpost.f 40 3 0 1 (⟨#[]⟩:ByteArray) (⟨#[]⟩:ByteArray) false 0 0 ([]:List Int) [(⟨(⟨#[]⟩:ByteArray),s1⟩:S42),(⟨(⟨#[98]⟩:ByteArray),s2⟩:S42)] 1 2 0 (⟨#[]⟩:ByteArray) (⟨#[98]⟩:ByteArray) true 0 0 ([]:List Int) [(⟨(⟨#[97]⟩:ByteArray),(⟨#[49]⟩:ByteArray)⟩:S42)] 7=some (0,0,0,(⟨#[]⟩:ByteArray),(⟨#[]⟩:ByteArray),false,0,0,([]:List Int),([]:List S42),9):=
 ⟨strOfNums [0,0,0,0,0,0,0,1],strOfNums [0,0,0,0,0,0,0,2],by kernel_rfl,by kernel_rfl,by kernel_rfl,by kernel_rfl⟩
set_option maxHeartbeats 8000000 in
set_option maxRecDepth 100000 in
theorem lockkeeperlaw16_head.calls (k:Nat) (r:Bool) (w:World) (h:lockkeeperlaw16_head.f k=some r):
  Calls Tryz.prog 8 #[] w fun e w'=>e=.returned (.bool r)∧Below w.heap.size w w':=by
 have hr:r=true:=by
  unfold lockkeeperlaw16_head.f at h
  by_cases hk:40≤k
  ·rw [if_pos hk] at h;exact (Option.some.inj h).symm
  ·rw [if_neg hk] at h;cases h
 subst hr
 clear h
 obtain ⟨s1,s2,hK1,hK2,hU1,hU2⟩:=lockkeeperlaw16_head_known
 have K1:=Aside0.mk hK1;have K2:=Aside0.mk hK2;have Q1:=Aside0.mk hU1;have Q2:=Aside0.mk hU2
 clear hK1 hK2 hU1 hU2
 have hu42:=Tryz.underlying42;have hu28:=Tryz.underlying28;have hu25:=Tryz.underlying25
 have HB:=Aside0.mk (Below.refl w.heap.size w)
 go_enter Tryz.func8,Tryz.ntmps8
 go_upto_region 2 with (fail)
 obtain ⟨W2,hW2⟩:∃ W_,W_=((w.alloc (.cells #[.string (⟨#[97]⟩:ByteArray),.string (⟨#[49]⟩:ByteArray)] 42)).alloc (.cells #[.int .u64 1,.int .u64 2,.int .u8 0,.string (⟨#[]⟩:ByteArray),.string (⟨#[98]⟩:ByteArray),.bool true,.int .u64 0,.int .u64 0,.slice none 0 0,.slice (some ⟨w.heap.size,0,none⟩) 1 1] 28)):=⟨_,rfl⟩
 rw [← hW2]
 have A:Aside0 (W2.heap[w.heap.size]? =some (.cells #[.string (⟨#[97]⟩:ByteArray),.string (⟨#[49]⟩:ByteArray)] 42 (0,0))):=⟨by rw [hW2];exact mvB (lockkeeperlaw16_head_new w _ _ (by simp only [World.size_alloc]))⟩
 have KA:Aside0 (W2.heap[w.heap.size+1]? =some (.cells #[.int .u64 1,.int .u64 2,.int .u8 0,.string (⟨#[]⟩:ByteArray),.string (⟨#[98]⟩:ByteArray),.bool true,.int .u64 0,.int .u64 0,.slice none 0 0,.slice (some ⟨w.heap.size,0,none⟩) 1 1] 28 (0,0))):=⟨by rw [hW2];exact mvB (lockkeeperlaw16_head_new (w.alloc (.cells #[.string (⟨#[97]⟩:ByteArray),.string (⟨#[49]⟩:ByteArray)] 42)) _ _ (by simp only [World.size_alloc]))⟩
 replace HB:Aside0 (Below w.heap.size w W2):=⟨by rw [hW2];exact mvW HB.out⟩
 clear hW2
 go_upto_region 3 with (fail)
 obtain ⟨W3,hW3⟩:∃ W_,W_=((W2.alloc (.cells #[.string (⟨#[99]⟩:ByteArray),.string (⟨#[50]⟩:ByteArray)] 42)).alloc (.cells #[.int .u64 2,.int .u64 0,.int .u8 0,.string (⟨#[98]⟩:ByteArray),.string (⟨#[]⟩:ByteArray),.bool false,.int .u64 0,.int .u64 5,.slice none 0 0,.slice (some ⟨W2.heap.size,0,none⟩) 1 1] 28)):=⟨_,rfl⟩
 rw [← hW3]
 replace A:Aside0 (W3.heap[w.heap.size]? =some (.cells #[.string (⟨#[97]⟩:ByteArray),.string (⟨#[49]⟩:ByteArray)] 42 (0,0))):=⟨by rw [hW3];exact mvB A.out⟩
 replace KA:Aside0 (W3.heap[w.heap.size+1]? =some (.cells #[.int .u64 1,.int .u64 2,.int .u8 0,.string (⟨#[]⟩:ByteArray),.string (⟨#[98]⟩:ByteArray),.bool true,.int .u64 0,.int .u64 0,.slice none 0 0,.slice (some ⟨w.heap.size,0,none⟩) 1 1] 28 (0,0))):=⟨by rw [hW3];exact mvB KA.out⟩
 have B:Aside0 (W3.heap[W2.heap.size]? =some (.cells #[.string (⟨#[99]⟩:ByteArray),.string (⟨#[50]⟩:ByteArray)] 42 (0,0))):=⟨by rw [hW3];exact mvB (lockkeeperlaw16_head_new W2 _ _ (by simp only [World.size_alloc]))⟩
 have KB:Aside0 (W3.heap[W2.heap.size+1]? =some (.cells #[.int .u64 2,.int .u64 0,.int .u8 0,.string (⟨#[98]⟩:ByteArray),.string (⟨#[]⟩:ByteArray),.bool false,.int .u64 0,.int .u64 5,.slice none 0 0,.slice (some ⟨W2.heap.size,0,none⟩) 1 1] 28 (0,0))):=⟨by rw [hW3];exact mvB (lockkeeperlaw16_head_new (W2.alloc (.cells #[.string (⟨#[99]⟩:ByteArray),.string (⟨#[50]⟩:ByteArray)] 42)) _ _ (by simp only [World.size_alloc]))⟩
 replace HB:Aside0 (Below w.heap.size w W3):=⟨by rw [hW3];exact mvW HB.out⟩
 clear hW3
 (obtain ⟨_,_,_,_,_,_,_,_,_,_⟩:=bc10 KA.out)
 (obtain ⟨_,_,_,_,_,_,_,_,_,_⟩:=bc10 KB.out)
 go_upto_region 4 with ((with_reducible refine gate_callee (f:=10) rfl ?_);refine goesL_ (some 26) rfl rfl Tryz.func10 (by kernel_rfl) rfl #[.agg #[.int .u64 1,.int .u64 2,.int .u8 0,.string (⟨#[]⟩:ByteArray),.string (⟨#[98]⟩:ByteArray),.bool true,.int .u64 0,.int .u64 0,.slice none 0 0,.slice (some ⟨w.heap.size,0,none⟩) 1 1],.agg #[.int .u64 2,.int .u64 0,.int .u8 0,.string (⟨#[98]⟩:ByteArray),.string (⟨#[]⟩:ByteArray),.bool false,.int .u64 0,.int .u64 5,.slice none 0 0,.slice (some ⟨W2.heap.size,0,none⟩) 1 1],.int .u64 4,.int .u64 9] rfl (by (try simp only [List.map_toArray,List.map_cons,List.map_nil]);first|done|rfl) ?_;(refine (merge_Join.calls 40 1 2 0 (⟨#[]⟩:ByteArray) (⟨#[98]⟩:ByteArray) true 0 0 none 0 ([]:List Int) (some ⟨w.heap.size,0,none⟩) 1 [(⟨(⟨#[97]⟩:ByteArray),(⟨#[49]⟩:ByteArray)⟩:S42)] 2 0 0 (⟨#[98]⟩:ByteArray) (⟨#[]⟩:ByteArray) false 0 5 none 0 ([]:List Int) (some ⟨W2.heap.size,0,none⟩) 1 [(⟨(⟨#[99]⟩:ByteArray),(⟨#[50]⟩:ByteArray)⟩:S42)] 4 9 0 0 0 (⟨#[]⟩:ByteArray) (⟨#[]⟩:ByteArray) false 0 0 ([]:List Int) ([]:List S42) 9 _ (Kd.C_nil _ _) (Nat.le_refl _) (lockkeeperlaw16_head_c1 A.out) (Nat.le_refl _) (Kd.C_nil _ _) (Nat.le_refl _) (lockkeeperlaw16_head_c1 B.out) (Nat.le_refl _) (by kernel_rfl)).mono ?_);rintro e j1 ⟨v8,v9,rfl,h8,h9,hb⟩;(refine ⟨_,rfl,?_⟩);obtain ⟨Aj,cj,e8⟩:=Kd.R_slice h8;obtain ⟨Bj,dj,e9⟩:=Kd.R_slice h9;clear h8 h9;replace e8:v8=.slice Aj 0 cj:=e8;replace e9:v9=.slice Bj 0 dj:=e9;subst e8 e9;replace A:=Aside0.mk (blk_below A.out hb);replace KA:=Aside0.mk (blk_below KA.out hb);replace B:=Aside0.mk (blk_below B.out hb);replace KB:=Aside0.mk (blk_below KB.out hb);replace HB:=Aside0.mk (below_step HB.out hb);clear hb)
 obtain ⟨W4,hW4⟩:∃ W_,W_=(j1.alloc (.cells #[.int .u64 0,.int .u64 0,.int .u8 0,.string (⟨#[]⟩:ByteArray),.string (⟨#[]⟩:ByteArray),.bool false,.int .u64 0,.int .u64 0,.slice Aj 0 cj,.slice Bj 0 dj] 28)):=⟨_,rfl⟩
 rw [← hW4]
 replace A:Aside0 (W4.heap[w.heap.size]? =some (.cells #[.string (⟨#[97]⟩:ByteArray),.string (⟨#[49]⟩:ByteArray)] 42 (0,0))):=⟨by rw [hW4];exact mvB A.out⟩
 replace KA:Aside0 (W4.heap[w.heap.size+1]? =some (.cells #[.int .u64 1,.int .u64 2,.int .u8 0,.string (⟨#[]⟩:ByteArray),.string (⟨#[98]⟩:ByteArray),.bool true,.int .u64 0,.int .u64 0,.slice none 0 0,.slice (some ⟨w.heap.size,0,none⟩) 1 1] 28 (0,0))):=⟨by rw [hW4];exact mvB KA.out⟩
 replace B:Aside0 (W4.heap[W2.heap.size]? =some (.cells #[.string (⟨#[99]⟩:ByteArray),.string (⟨#[50]⟩:ByteArray)] 42 (0,0))):=⟨by rw [hW4];exact mvB B.out⟩
 replace KB:Aside0 (W4.heap[W2.heap.size+1]? =some (.cells #[.int .u64 2,.int .u64 0,.int .u8 0,.string (⟨#[98]⟩:ByteArray),.string (⟨#[]⟩:ByteArray),.bool false,.int .u64 0,.int .u64 5,.slice none 0 0,.slice (some ⟨W2.heap.size,0,none⟩) 1 1] 28 (0,0))):=⟨by rw [hW4];exact mvB KB.out⟩
 replace HB:Aside0 (Below w.heap.size w W4):=⟨by rw [hW4];exact mvW HB.out⟩
 clear hW4
 (obtain ⟨_,_,_,_,_,_,_,_,_,_⟩:=bc10 KA.out)
 (obtain ⟨_,_,_,_,_,_,_,_,_,_⟩:=bc10 KB.out)
 go_upto_region 5 with ((with_reducible refine gate_callee (f:=10) rfl ?_);refine goesL_ (some 32) rfl rfl Tryz.func10 (by kernel_rfl) rfl #[.agg #[.int .u64 1,.int .u64 2,.int .u8 0,.string (⟨#[]⟩:ByteArray),.string (⟨#[98]⟩:ByteArray),.bool true,.int .u64 0,.int .u64 0,.slice none 0 0,.slice (some ⟨w.heap.size,0,none⟩) 1 1],.agg #[.int .u64 2,.int .u64 0,.int .u8 0,.string (⟨#[98]⟩:ByteArray),.string (⟨#[]⟩:ByteArray),.bool false,.int .u64 0,.int .u64 5,.slice none 0 0,.slice (some ⟨W2.heap.size,0,none⟩) 1 1],.int .u64 5,.int .u64 9] rfl (by (try simp only [List.map_toArray,List.map_cons,List.map_nil]);first|done|rfl) ?_;(refine (merge_Join.calls 40 1 2 0 (⟨#[]⟩:ByteArray) (⟨#[98]⟩:ByteArray) true 0 0 none 0 ([]:List Int) (some ⟨w.heap.size,0,none⟩) 1 [(⟨(⟨#[97]⟩:ByteArray),(⟨#[49]⟩:ByteArray)⟩:S42)] 2 0 0 (⟨#[98]⟩:ByteArray) (⟨#[]⟩:ByteArray) false 0 5 none 0 ([]:List Int) (some ⟨W2.heap.size,0,none⟩) 1 [(⟨(⟨#[99]⟩:ByteArray),(⟨#[50]⟩:ByteArray)⟩:S42)] 5 9 1 0 0 (⟨#[]⟩:ByteArray) (⟨#[]⟩:ByteArray) false 9 5 ([]:List Int) [(⟨(⟨#[97]⟩:ByteArray),(⟨#[49]⟩:ByteArray)⟩:S42),(⟨(⟨#[99]⟩:ByteArray),(⟨#[50]⟩:ByteArray)⟩:S42)] 0 _ (Kd.C_nil _ _) (Nat.le_refl _) (lockkeeperlaw16_head_c1 A.out) (Nat.le_refl _) (Kd.C_nil _ _) (Nat.le_refl _) (lockkeeperlaw16_head_c1 B.out) (Nat.le_refl _) (by kernel_rfl)).mono ?_);rintro e j2 ⟨v8,v9,rfl,h8,h9,hb⟩;(refine ⟨_,rfl,?_⟩);obtain ⟨Ap,cp,e8⟩:=Kd.R_slice h8;obtain ⟨Bp,dp,e9⟩:=Kd.R_slice h9;clear h8 h9;replace e8:v8=.slice Ap 0 cp:=e8;replace e9:v9=.slice Bp 2 dp:=e9;subst e8 e9;replace A:=Aside0.mk (blk_below A.out hb);replace KA:=Aside0.mk (blk_below KA.out hb);replace B:=Aside0.mk (blk_below B.out hb);replace KB:=Aside0.mk (blk_below KB.out hb);replace HB:=Aside0.mk (below_step HB.out hb);clear hb)
 obtain ⟨W5,hW5⟩:∃ W_,W_=(j2.alloc (.cells #[.int .u64 1,.int .u64 0,.int .u8 0,.string (⟨#[]⟩:ByteArray),.string (⟨#[]⟩:ByteArray),.bool false,.int .u64 9,.int .u64 5,.slice Ap 0 cp,.slice Bp 2 dp] 28)):=⟨_,rfl⟩
 rw [← hW5]
 replace A:Aside0 (W5.heap[w.heap.size]? =some (.cells #[.string (⟨#[97]⟩:ByteArray),.string (⟨#[49]⟩:ByteArray)] 42 (0,0))):=⟨by rw [hW5];exact mvB A.out⟩
 replace KA:Aside0 (W5.heap[w.heap.size+1]? =some (.cells #[.int .u64 1,.int .u64 2,.int .u8 0,.string (⟨#[]⟩:ByteArray),.string (⟨#[98]⟩:ByteArray),.bool true,.int .u64 0,.int .u64 0,.slice none 0 0,.slice (some ⟨w.heap.size,0,none⟩) 1 1] 28 (0,0))):=⟨by rw [hW5];exact mvB KA.out⟩
 replace B:Aside0 (W5.heap[W2.heap.size]? =some (.cells #[.string (⟨#[99]⟩:ByteArray),.string (⟨#[50]⟩:ByteArray)] 42 (0,0))):=⟨by rw [hW5];exact mvB B.out⟩
 replace KB:Aside0 (W5.heap[W2.heap.size+1]? =some (.cells #[.int .u64 2,.int .u64 0,.int .u8 0,.string (⟨#[98]⟩:ByteArray),.string (⟨#[]⟩:ByteArray),.bool false,.int .u64 0,.int .u64 5,.slice none 0 0,.slice (some ⟨W2.heap.size,0,none⟩) 1 1] 28 (0,0))):=⟨by rw [hW5];exact mvB KB.out⟩
 have P:Aside0 (W5.heap[j2.heap.size]? =some (.cells #[.int .u64 1,.int .u64 0,.int .u8 0,.string (⟨#[]⟩:ByteArray),.string (⟨#[]⟩:ByteArray),.bool false,.int .u64 9,.int .u64 5,.slice Ap 0 cp,.slice Bp 2 dp] 28 (0,0))):=⟨by rw [hW5];exact mvB (lockkeeperlaw16_head_new j2 _ _ (by simp only [World.size_alloc]))⟩
 replace HB:Aside0 (Below w.heap.size w W5):=⟨by rw [hW5];exact mvW HB.out⟩
 clear hW5
 go_upto_region 7 with (first|((with_reducible refine gate_callee (f:=33) rfl ?_);refine goesL_ (some 36) rfl rfl Tryz.func33 (by kernel_rfl) rfl #[.int .u64 1] rfl (by (try simp only [List.map_toArray,List.map_cons,List.map_nil]);first|done|rfl) ?_;(refine (page_Kid.calls 40 1 s1 0 _ K1.out).mono ?_);rintro e k1 ⟨rfl,hb⟩;(refine ⟨_,rfl,?_⟩);replace A:=Aside0.mk (blk_below A.out hb);replace KA:=Aside0.mk (blk_below KA.out hb);replace B:=Aside0.mk (blk_below B.out hb);replace KB:=Aside0.mk (blk_below KB.out hb);replace P:=Aside0.mk (blk_below P.out hb);replace HB:=Aside0.mk (below_step HB.out hb);clear hb)|((with_reducible refine gate_callee (f:=33) rfl ?_);refine goesL_ (some 40) rfl rfl Tryz.func33 (by kernel_rfl) rfl #[.int .u64 2] rfl (by (try simp only [List.map_toArray,List.map_cons,List.map_nil]);first|done|rfl) ?_;(refine (page_Kid.calls 40 2 s2 0 _ K2.out).mono ?_);rintro e k2 ⟨rfl,hb⟩;(refine ⟨_,rfl,?_⟩);replace A:=Aside0.mk (blk_below A.out hb);replace KA:=Aside0.mk (blk_below KA.out hb);replace B:=Aside0.mk (blk_below B.out hb);replace KB:=Aside0.mk (blk_below KB.out hb);replace P:=Aside0.mk (blk_below P.out hb);replace HB:=Aside0.mk (below_step HB.out hb);clear hb))
 go_upto_region 8 with (fail)
 obtain ⟨W6,hW6⟩:∃ W_,W_=((k2.alloc (.cells #[.string (⟨#[]⟩:ByteArray),.string s1,.string (⟨#[98]⟩:ByteArray),.string s2] 42)).alloc (.cells #[.int .u64 3,.int .u64 0,.int .u8 1,.string (⟨#[]⟩:ByteArray),.string (⟨#[]⟩:ByteArray),.bool false,.int .u64 0,.int .u64 0,.slice none 0 0,.slice (some ⟨k2.heap.size,0,none⟩) 2 2] 28)):=⟨_,rfl⟩
 rw [← hW6]
 replace A:Aside0 (W6.heap[w.heap.size]? =some (.cells #[.string (⟨#[97]⟩:ByteArray),.string (⟨#[49]⟩:ByteArray)] 42 (0,0))):=⟨by rw [hW6];exact mvB A.out⟩
 replace KA:Aside0 (W6.heap[w.heap.size+1]? =some (.cells #[.int .u64 1,.int .u64 2,.int .u8 0,.string (⟨#[]⟩:ByteArray),.string (⟨#[98]⟩:ByteArray),.bool true,.int .u64 0,.int .u64 0,.slice none 0 0,.slice (some ⟨w.heap.size,0,none⟩) 1 1] 28 (0,0))):=⟨by rw [hW6];exact mvB KA.out⟩
 replace B:Aside0 (W6.heap[W2.heap.size]? =some (.cells #[.string (⟨#[99]⟩:ByteArray),.string (⟨#[50]⟩:ByteArray)] 42 (0,0))):=⟨by rw [hW6];exact mvB B.out⟩
 replace KB:Aside0 (W6.heap[W2.heap.size+1]? =some (.cells #[.int .u64 2,.int .u64 0,.int .u8 0,.string (⟨#[98]⟩:ByteArray),.string (⟨#[]⟩:ByteArray),.bool false,.int .u64 0,.int .u64 5,.slice none 0 0,.slice (some ⟨W2.heap.size,0,none⟩) 1 1] 28 (0,0))):=⟨by rw [hW6];exact mvB KB.out⟩
 replace P:Aside0 (W6.heap[j2.heap.size]? =some (.cells #[.int .u64 1,.int .u64 0,.int .u8 0,.string (⟨#[]⟩:ByteArray),.string (⟨#[]⟩:ByteArray),.bool false,.int .u64 9,.int .u64 5,.slice Ap 0 cp,.slice Bp 2 dp] 28 (0,0))):=⟨by rw [hW6];exact mvB P.out⟩
 have U:Aside0 (W6.heap[k2.heap.size]? =some (.cells #[.string (⟨#[]⟩:ByteArray),.string s1,.string (⟨#[98]⟩:ByteArray),.string s2] 42 (0,0))):=⟨by rw [hW6];exact mvB (lockkeeperlaw16_head_new k2 _ _ (by simp only [World.size_alloc]))⟩
 have KU:Aside0 (W6.heap[k2.heap.size+1]? =some (.cells #[.int .u64 3,.int .u64 0,.int .u8 1,.string (⟨#[]⟩:ByteArray),.string (⟨#[]⟩:ByteArray),.bool false,.int .u64 0,.int .u64 0,.slice none 0 0,.slice (some ⟨k2.heap.size,0,none⟩) 2 2] 28 (0,0))):=⟨by rw [hW6];exact mvB (lockkeeperlaw16_head_new (k2.alloc (.cells #[.string (⟨#[]⟩:ByteArray),.string s1,.string (⟨#[98]⟩:ByteArray),.string s2] 42)) _ _ (by simp only [World.size_alloc]))⟩
 replace HB:Aside0 (Below w.heap.size w W6):=⟨by rw [hW6];exact mvW HB.out⟩
 clear hW6
 (obtain ⟨_,_,_,_,_,_,_,_,_,_⟩:=bc10 KU.out)
 (obtain ⟨_,_,_,_,_,_,_,_,_,_⟩:=bc10 KB.out)
 go_upto_region 9 with ((with_reducible refine gate_callee (f:=17) rfl ?_);refine goesL_ (some 52) rfl rfl Tryz.func17 (by kernel_rfl) rfl #[.agg #[.int .u64 3,.int .u64 0,.int .u8 1,.string (⟨#[]⟩:ByteArray),.string (⟨#[]⟩:ByteArray),.bool false,.int .u64 0,.int .u64 0,.slice none 0 0,.slice (some ⟨k2.heap.size,0,none⟩) 2 2],.agg #[.int .u64 2,.int .u64 0,.int .u8 0,.string (⟨#[98]⟩:ByteArray),.string (⟨#[]⟩:ByteArray),.bool false,.int .u64 0,.int .u64 5,.slice none 0 0,.slice (some ⟨W2.heap.size,0,none⟩) 1 1],.int .u64 7] rfl (by (try simp only [List.map_toArray,List.map_cons,List.map_nil]);first|done|rfl) ?_;(refine (merge_Unpost.calls 40 3 0 1 (⟨#[]⟩:ByteArray) (⟨#[]⟩:ByteArray) false 0 0 (fun _=>False) none 0 ([]:List Int) (some ⟨k2.heap.size,0,none⟩) 2 [(⟨(⟨#[]⟩:ByteArray),s1⟩:S42),(⟨(⟨#[98]⟩:ByteArray),s2⟩:S42)] 2 0 0 (⟨#[98]⟩:ByteArray) (⟨#[]⟩:ByteArray) false 0 5 none 0 ([]:List Int) (some ⟨W2.heap.size,0,none⟩) 1 [(⟨(⟨#[99]⟩:ByteArray),(⟨#[50]⟩:ByteArray)⟩:S42)] 7 3 0 1 (⟨#[]⟩:ByteArray) (⟨#[]⟩:ByteArray) false 7 0 ([]:List Int) [(⟨(⟨#[]⟩:ByteArray),s1⟩:S42)] 0 _ (Kd.V_nil _ _ _ _ _) (lockkeeperlaw16_head_c2 U.out) (Nat.le_refl _) (Kd.C_nil _ _) (Nat.le_refl _) (lockkeeperlaw16_head_c1 B.out) (Nat.le_refl _) Q1.out).mono ?_);rintro e u1 ⟨v8,v9,rfl,h8,h9,hb⟩;(refine ⟨_,rfl,?_⟩);obtain ⟨Aq,cq,e8,_⟩:=h8;obtain ⟨Bq,dq,e9⟩:=Kd.R_slice h9;clear h9;replace e8:v8=.slice Aq 0 cq:=e8;replace e9:v9=.slice Bq 1 dq:=e9;subst e8 e9;replace A:=Aside0.mk (blk_below A.out hb);replace KA:=Aside0.mk (blk_below KA.out hb);replace B:=Aside0.mk (blk_below B.out hb);replace KB:=Aside0.mk (blk_below KB.out hb);replace P:=Aside0.mk (blk_below P.out hb);replace U:=Aside0.mk (blk_below U.out hb);replace KU:=Aside0.mk (blk_below KU.out hb);replace HB:=Aside0.mk (below_step HB.out hb);clear hb)
 obtain ⟨W7,hW7⟩:∃ W_,W_=(u1.alloc (.cells #[.int .u64 3,.int .u64 0,.int .u8 1,.string (⟨#[]⟩:ByteArray),.string (⟨#[]⟩:ByteArray),.bool false,.int .u64 7,.int .u64 0,.slice Aq 0 cq,.slice Bq 1 dq] 28)):=⟨_,rfl⟩
 rw [← hW7]
 replace A:Aside0 (W7.heap[w.heap.size]? =some (.cells #[.string (⟨#[97]⟩:ByteArray),.string (⟨#[49]⟩:ByteArray)] 42 (0,0))):=⟨by rw [hW7];exact mvB A.out⟩
 replace KA:Aside0 (W7.heap[w.heap.size+1]? =some (.cells #[.int .u64 1,.int .u64 2,.int .u8 0,.string (⟨#[]⟩:ByteArray),.string (⟨#[98]⟩:ByteArray),.bool true,.int .u64 0,.int .u64 0,.slice none 0 0,.slice (some ⟨w.heap.size,0,none⟩) 1 1] 28 (0,0))):=⟨by rw [hW7];exact mvB KA.out⟩
 replace B:Aside0 (W7.heap[W2.heap.size]? =some (.cells #[.string (⟨#[99]⟩:ByteArray),.string (⟨#[50]⟩:ByteArray)] 42 (0,0))):=⟨by rw [hW7];exact mvB B.out⟩
 replace KB:Aside0 (W7.heap[W2.heap.size+1]? =some (.cells #[.int .u64 2,.int .u64 0,.int .u8 0,.string (⟨#[98]⟩:ByteArray),.string (⟨#[]⟩:ByteArray),.bool false,.int .u64 0,.int .u64 5,.slice none 0 0,.slice (some ⟨W2.heap.size,0,none⟩) 1 1] 28 (0,0))):=⟨by rw [hW7];exact mvB KB.out⟩
 replace P:Aside0 (W7.heap[j2.heap.size]? =some (.cells #[.int .u64 1,.int .u64 0,.int .u8 0,.string (⟨#[]⟩:ByteArray),.string (⟨#[]⟩:ByteArray),.bool false,.int .u64 9,.int .u64 5,.slice Ap 0 cp,.slice Bp 2 dp] 28 (0,0))):=⟨by rw [hW7];exact mvB P.out⟩
 replace U:Aside0 (W7.heap[k2.heap.size]? =some (.cells #[.string (⟨#[]⟩:ByteArray),.string s1,.string (⟨#[98]⟩:ByteArray),.string s2] 42 (0,0))):=⟨by rw [hW7];exact mvB U.out⟩
 replace KU:Aside0 (W7.heap[k2.heap.size+1]? =some (.cells #[.int .u64 3,.int .u64 0,.int .u8 1,.string (⟨#[]⟩:ByteArray),.string (⟨#[]⟩:ByteArray),.bool false,.int .u64 0,.int .u64 0,.slice none 0 0,.slice (some ⟨k2.heap.size,0,none⟩) 2 2] 28 (0,0))):=⟨by rw [hW7];exact mvB KU.out⟩
 have Q:Aside0 (W7.heap[u1.heap.size]? =some (.cells #[.int .u64 3,.int .u64 0,.int .u8 1,.string (⟨#[]⟩:ByteArray),.string (⟨#[]⟩:ByteArray),.bool false,.int .u64 7,.int .u64 0,.slice Aq 0 cq,.slice Bq 1 dq] 28 (0,0))):=⟨by rw [hW7];exact mvB (lockkeeperlaw16_head_new u1 _ _ (by simp only [World.size_alloc]))⟩
 replace HB:Aside0 (Below w.heap.size w W7):=⟨by rw [hW7];exact mvW HB.out⟩
 clear hW7
 (obtain ⟨_,_,_,_,_,_,_,_,_,_⟩:=bc10 KU.out)
 (obtain ⟨_,_,_,_,_,_,_,_,_,_⟩:=bc10 KA.out)
 go_upto_region 10 with ((with_reducible refine gate_callee (f:=17) rfl ?_);refine goesL_ (some 58) rfl rfl Tryz.func17 (by kernel_rfl) rfl #[.agg #[.int .u64 3,.int .u64 0,.int .u8 1,.string (⟨#[]⟩:ByteArray),.string (⟨#[]⟩:ByteArray),.bool false,.int .u64 0,.int .u64 0,.slice none 0 0,.slice (some ⟨k2.heap.size,0,none⟩) 2 2],.agg #[.int .u64 1,.int .u64 2,.int .u8 0,.string (⟨#[]⟩:ByteArray),.string (⟨#[98]⟩:ByteArray),.bool true,.int .u64 0,.int .u64 0,.slice none 0 0,.slice (some ⟨w.heap.size,0,none⟩) 1 1],.int .u64 7] rfl (by (try simp only [List.map_toArray,List.map_cons,List.map_nil]);first|done|rfl) ?_;(refine (merge_Unpost.calls 40 3 0 1 (⟨#[]⟩:ByteArray) (⟨#[]⟩:ByteArray) false 0 0 (fun _=>False) none 0 ([]:List Int) (some ⟨k2.heap.size,0,none⟩) 2 [(⟨(⟨#[]⟩:ByteArray),s1⟩:S42),(⟨(⟨#[98]⟩:ByteArray),s2⟩:S42)] 1 2 0 (⟨#[]⟩:ByteArray) (⟨#[98]⟩:ByteArray) true 0 0 none 0 ([]:List Int) (some ⟨w.heap.size,0,none⟩) 1 [(⟨(⟨#[97]⟩:ByteArray),(⟨#[49]⟩:ByteArray)⟩:S42)] 7 0 0 0 (⟨#[]⟩:ByteArray) (⟨#[]⟩:ByteArray) false 0 0 ([]:List Int) ([]:List S42) 9 _ (Kd.V_nil _ _ _ _ _) (lockkeeperlaw16_head_c2 U.out) (Nat.le_refl _) (Kd.C_nil _ _) (Nat.le_refl _) (lockkeeperlaw16_head_c1 A.out) (Nat.le_refl _) Q2.out).mono ?_);rintro e u2 ⟨v8,v9,rfl,h8,h9,hb⟩;(refine ⟨_,rfl,?_⟩);obtain ⟨Ah,ch,e8,_⟩:=h8;obtain ⟨Bh,dh,e9⟩:=Kd.R_slice h9;clear h9;replace e8:v8=.slice Ah 0 ch:=e8;replace e9:v9=.slice Bh 0 dh:=e9;subst e8 e9;replace A:=Aside0.mk (blk_below A.out hb);replace KA:=Aside0.mk (blk_below KA.out hb);replace B:=Aside0.mk (blk_below B.out hb);replace KB:=Aside0.mk (blk_below KB.out hb);replace P:=Aside0.mk (blk_below P.out hb);replace U:=Aside0.mk (blk_below U.out hb);replace KU:=Aside0.mk (blk_below KU.out hb);replace Q:=Aside0.mk (blk_below Q.out hb);replace HB:=Aside0.mk (below_step HB.out hb);clear hb)
 obtain ⟨W8,hW8⟩:∃ W_,W_=(u2.alloc (.cells #[.int .u64 0,.int .u64 0,.int .u8 0,.string (⟨#[]⟩:ByteArray),.string (⟨#[]⟩:ByteArray),.bool false,.int .u64 0,.int .u64 0,.slice Ah 0 ch,.slice Bh 0 dh] 28)):=⟨_,rfl⟩
 rw [← hW8]
 replace A:Aside0 (W8.heap[w.heap.size]? =some (.cells #[.string (⟨#[97]⟩:ByteArray),.string (⟨#[49]⟩:ByteArray)] 42 (0,0))):=⟨by rw [hW8];exact mvB A.out⟩
 replace KA:Aside0 (W8.heap[w.heap.size+1]? =some (.cells #[.int .u64 1,.int .u64 2,.int .u8 0,.string (⟨#[]⟩:ByteArray),.string (⟨#[98]⟩:ByteArray),.bool true,.int .u64 0,.int .u64 0,.slice none 0 0,.slice (some ⟨w.heap.size,0,none⟩) 1 1] 28 (0,0))):=⟨by rw [hW8];exact mvB KA.out⟩
 replace B:Aside0 (W8.heap[W2.heap.size]? =some (.cells #[.string (⟨#[99]⟩:ByteArray),.string (⟨#[50]⟩:ByteArray)] 42 (0,0))):=⟨by rw [hW8];exact mvB B.out⟩
 replace KB:Aside0 (W8.heap[W2.heap.size+1]? =some (.cells #[.int .u64 2,.int .u64 0,.int .u8 0,.string (⟨#[98]⟩:ByteArray),.string (⟨#[]⟩:ByteArray),.bool false,.int .u64 0,.int .u64 5,.slice none 0 0,.slice (some ⟨W2.heap.size,0,none⟩) 1 1] 28 (0,0))):=⟨by rw [hW8];exact mvB KB.out⟩
 replace P:Aside0 (W8.heap[j2.heap.size]? =some (.cells #[.int .u64 1,.int .u64 0,.int .u8 0,.string (⟨#[]⟩:ByteArray),.string (⟨#[]⟩:ByteArray),.bool false,.int .u64 9,.int .u64 5,.slice Ap 0 cp,.slice Bp 2 dp] 28 (0,0))):=⟨by rw [hW8];exact mvB P.out⟩
 replace Q:Aside0 (W8.heap[u1.heap.size]? =some (.cells #[.int .u64 3,.int .u64 0,.int .u8 1,.string (⟨#[]⟩:ByteArray),.string (⟨#[]⟩:ByteArray),.bool false,.int .u64 7,.int .u64 0,.slice Aq 0 cq,.slice Bq 1 dq] 28 (0,0))):=⟨by rw [hW8];exact mvB Q.out⟩
 replace HB:Aside0 (Below w.heap.size w W8):=⟨by rw [hW8];exact mvW HB.out⟩
 clear hW8
 (obtain ⟨_,_,_,_,_,_,_,_,_,_⟩:=bc10 P.out)
 (obtain ⟨_,_,_,_,_,_,_,_,_,_⟩:=bc10 Q.out)
 (obtain ⟨_,_,_,_,_,_,_,_,_,_⟩:=bc10 KA.out)
 (obtain ⟨_,_,_,_,_,_,_,_,_,_⟩:=bc10 KB.out)
 go_wp2_with (first|((with_reducible refine gate_callee (f:=15) rfl ?_);(try (refine gate_guard (by rfl) ?_;dsimp only));refine goesL_ (some 121) rfl rfl Tryz.func15 (by kernel_rfl) rfl #[.agg #[.int .u64 1,.int .u64 2,.int .u8 0,.string (⟨#[]⟩:ByteArray),.string (⟨#[98]⟩:ByteArray),.bool true,.int .u64 0,.int .u64 0,.slice none 0 0,.slice (some ⟨w.heap.size,0,none⟩) 1 1],.agg #[.int .u64 2,.int .u64 0,.int .u8 0,.string (⟨#[98]⟩:ByteArray),.string (⟨#[]⟩:ByteArray),.bool false,.int .u64 0,.int .u64 5,.slice none 0 0,.slice (some ⟨W2.heap.size,0,none⟩) 1 1],.int .i64 12] rfl (by (try simp only [List.map_toArray,List.map_cons,List.map_nil]);first|done|rfl) ?_;(refine (merge_Under.calls 40 1 2 0 (⟨#[]⟩:ByteArray) (⟨#[98]⟩:ByteArray) true 0 0 none 0 ([]:List Int) (some ⟨w.heap.size,0,none⟩) 1 [(⟨(⟨#[97]⟩:ByteArray),(⟨#[49]⟩:ByteArray)⟩:S42)] 2 0 0 (⟨#[98]⟩:ByteArray) (⟨#[]⟩:ByteArray) false 0 5 none 0 ([]:List Int) (some ⟨W2.heap.size,0,none⟩) 1 [(⟨(⟨#[99]⟩:ByteArray),(⟨#[50]⟩:ByteArray)⟩:S42)] 12 true _ (Kd.C_nil _ _) (Nat.le_refl _) (lockkeeperlaw16_head_c1 A.out) (Nat.le_refl _) (Kd.C_nil _ _) (Nat.le_refl _) (lockkeeperlaw16_head_c1 B.out) (Nat.le_refl _) (by kernel_rfl)).mono ?_);rintro e b1 ⟨rfl,hb⟩;(refine ⟨_,rfl,?_⟩);replace A:=Aside0.mk (blk_below A.out hb);replace KA:=Aside0.mk (blk_below KA.out hb);replace B:=Aside0.mk (blk_below B.out hb);replace KB:=Aside0.mk (blk_below KB.out hb);replace HB:=Aside0.mk (below_step HB.out hb);clear hb;(obtain ⟨_,_,_,_,_,_,_,_,_,_⟩:=bc10 KA.out);(obtain ⟨_,_,_,_,_,_,_,_,_,_⟩:=bc10 KB.out))|((with_reducible refine gate_callee (f:=15) rfl ?_);(try (refine gate_guard (by rfl) ?_;dsimp only));refine goesL_ (some 126) rfl rfl Tryz.func15 (by kernel_rfl) rfl #[.agg #[.int .u64 1,.int .u64 2,.int .u8 0,.string (⟨#[]⟩:ByteArray),.string (⟨#[98]⟩:ByteArray),.bool true,.int .u64 0,.int .u64 0,.slice none 0 0,.slice (some ⟨w.heap.size,0,none⟩) 1 1],.agg #[.int .u64 2,.int .u64 0,.int .u8 0,.string (⟨#[98]⟩:ByteArray),.string (⟨#[]⟩:ByteArray),.bool false,.int .u64 0,.int .u64 5,.slice none 0 0,.slice (some ⟨W2.heap.size,0,none⟩) 1 1],.int .i64 11] rfl (by (try simp only [List.map_toArray,List.map_cons,List.map_nil]);first|done|rfl) ?_;(refine (merge_Under.calls 40 1 2 0 (⟨#[]⟩:ByteArray) (⟨#[98]⟩:ByteArray) true 0 0 none 0 ([]:List Int) (some ⟨w.heap.size,0,none⟩) 1 [(⟨(⟨#[97]⟩:ByteArray),(⟨#[49]⟩:ByteArray)⟩:S42)] 2 0 0 (⟨#[98]⟩:ByteArray) (⟨#[]⟩:ByteArray) false 0 5 none 0 ([]:List Int) (some ⟨W2.heap.size,0,none⟩) 1 [(⟨(⟨#[99]⟩:ByteArray),(⟨#[50]⟩:ByteArray)⟩:S42)] 11 false _ (Kd.C_nil _ _) (Nat.le_refl _) (lockkeeperlaw16_head_c1 A.out) (Nat.le_refl _) (Kd.C_nil _ _) (Nat.le_refl _) (lockkeeperlaw16_head_c1 B.out) (Nat.le_refl _) (by kernel_rfl)).mono ?_);rintro e b2 ⟨rfl,hb⟩;(refine ⟨_,rfl,?_⟩);replace A:=Aside0.mk (blk_below A.out hb);replace KA:=Aside0.mk (blk_below KA.out hb);replace B:=Aside0.mk (blk_below B.out hb);replace KB:=Aside0.mk (blk_below KB.out hb);replace HB:=Aside0.mk (below_step HB.out hb);clear hb;(obtain ⟨_,_,_,_,_,_,_,_,_,_⟩:=bc10 KA.out);(obtain ⟨_,_,_,_,_,_,_,_,_,_⟩:=bc10 KB.out))|((with_reducible refine gate_callee (f:=13) rfl ?_);(try (refine gate_guard (by rfl) ?_;dsimp only));refine goesL_ (some 132) rfl rfl Tryz.func13 (by kernel_rfl) rfl #[.agg #[.int .u64 2,.int .u64 0,.int .u8 0,.string (⟨#[98]⟩:ByteArray),.string (⟨#[]⟩:ByteArray),.bool false,.int .u64 0,.int .u64 5,.slice none 0 0,.slice (some ⟨W2.heap.size,0,none⟩) 1 1],.agg #[.int .u64 1,.int .u64 2,.int .u8 0,.string (⟨#[]⟩:ByteArray),.string (⟨#[98]⟩:ByteArray),.bool true,.int .u64 0,.int .u64 0,.slice none 0 0,.slice (some ⟨w.heap.size,0,none⟩) 1 1]] rfl (by (try simp only [List.map_toArray,List.map_cons,List.map_nil]);first|done|rfl) ?_;(refine (merge_Beside.calls 40 2 0 0 (⟨#[98]⟩:ByteArray) (⟨#[]⟩:ByteArray) false 0 5 none 0 ([]:List Int) (some ⟨W2.heap.size,0,none⟩) 1 [(⟨(⟨#[99]⟩:ByteArray),(⟨#[50]⟩:ByteArray)⟩:S42)] 1 2 0 (⟨#[]⟩:ByteArray) (⟨#[98]⟩:ByteArray) true 0 0 none 0 ([]:List Int) (some ⟨w.heap.size,0,none⟩) 1 [(⟨(⟨#[97]⟩:ByteArray),(⟨#[49]⟩:ByteArray)⟩:S42)] false _ (Kd.C_nil _ _) (Nat.le_refl _) (lockkeeperlaw16_head_c1 B.out) (Nat.le_refl _) (Kd.C_nil _ _) (Nat.le_refl _) (lockkeeperlaw16_head_c1 A.out) (Nat.le_refl _) (by kernel_rfl)).mono ?_);rintro e b3 ⟨rfl,hb⟩;(refine ⟨_,rfl,?_⟩);replace HB:=Aside0.mk (below_step HB.out hb);clear hb))
 go_ret
 exact ⟨rfl,HB.out⟩

/-! ### lockkeeperref10_Same: function 21 -/
def lockkeeperref10_Same.l0:Nat→List (S42)→List (S42)→Int→Option (Bool)
 |0,_,_,_=>none
 |k+1,x0,x1,x5=>if x5 < (x0.length:Int) then (if 0≤x5 then (if x5 < (x1.length:Int) then (if (!((((rd_T42 x0 x5).f0).toList)==(((rd_T42 x1 x5).f0).toList))||(!((((rd_T42 x0 x5).f1).toList)==(((rd_T42 x1 x5).f1).toList))))=true then (some false) else (lockkeeperref10_Same.l0 k x0 x1 (wrap64 (x5+1)))) else (none)) else (none)) else (some true)
def lockkeeperref10_Same.f (k:Nat) (l0:List (S42)) (l1:List (S42)):Option (Bool):=if (l0.length:Int)=(l1.length:Int) then (lockkeeperref10_Same.l0 k l0 l1 0) else (some false)
set_option maxHeartbeats 8000000 in
set_option maxRecDepth 100000 in
theorem lockkeeperref10_Same.calls (k:Nat) (A0:Option Addr) (c0:Nat) (l0:List (S42)) (A1:Option Addr) (c1:Nat) (l1:List (S42)) (r:Bool) (w:World) (hr0:Kd.C k42 w A0 l0.length l0) (hc0:l0.length≤c0) (hr1:Kd.C k42 w A1 l1.length l1) (hc1:l1.length≤c1) (h:lockkeeperref10_Same.f k l0 l1=some r):
  Calls Tryz.prog 21 #[.slice A0 l0.length c0,.slice A1 l1.length c1] w fun e w'=>e=.returned (.bool r)∧Drawn0 w w':=by
 (have hu42:=Tryz.underlying42);(have m9:=Aside0.mk hr0);(have D6:=Aside0.mk hc0);(clear hr0 hc0);(have HR1:=Aside0.mk hr1);(have HC1:=Aside0.mk hc1);(clear hr1 hc1);(unfold lockkeeperref10_Same.f at h);(have H:=h);(clear h);(by_cases c3:(l0.length:Int)=(l1.length:Int))
 ·(rw [if_pos c3] at H);(have N6:((l0.length:Int)==(l1.length:Int))=true:=beq_iff_eq.mpr c3);(have ew9:((l0.length:Int) != (l1.length:Int))=false:=bne_eq_false_iff_eq.mpr c3);(have ex0:(l0.length==l1.length)=true:=by first|simpa using c3|(simp at c3 ⊢;omega));(clear c3);(have H':=Aside0.mk H);(clear H);(go_enter Tryz.func21,Tryz.ntmps21);(go_wp2);(repeat (go_quiet (fail);try go_wp2));(go_loopg [5] k (fun kq v5 w'=>∃ (k7:Int),v5=.int .i64 k7∧Aside0 (lockkeeperref10_Same.l0 kq l0 l1 k7=some r)∧Aside0 (kq≤k)∧Drawn0 w w'))
  case atStart=>exact ⟨(0),sd,H',⟨Nat.le_refl _⟩,by repeat (first|exact Drawn0.refl _ |apply Drawn0.step)⟩
  case round=>
   (clear H');(obtain ⟨k7,rfl,HA,l7,⟨m1,rfl⟩⟩:=hrel)
   cases gk with
   |zero=>exact absurd HA.out (by simp [lockkeeperref10_Same.l0])
   |succ k1=>
    (have H:=HA.out);(clear HA);(simp only [lockkeeperref10_Same.l0] at H);(replace H:=sp H);(rcases H with ⟨p2,H⟩|⟨p2,H⟩)
    ·(replace H:=gd H);(obtain ⟨S1,H⟩:=H);(replace H:=gd H);(obtain ⟨J0,H⟩:=H);(by_cases c7:(!((((rd_T42 l0 k7).f0).toList)==(((rd_T42 l1 k7).f0).toList))||(!((((rd_T42 l0 k7).f1).toList)==(((rd_T42 l1 k7).f1).toList))))=true)
     ·(rw [if_pos c7] at H);(have T6:(!((((rd_T42 l0 k7).f0).toList)==(((rd_T42 l1 k7).f0).toList))||(!((((rd_T42 l0 k7).f1).toList)==(((rd_T42 l1 k7).f1).toList))))=true:=c7);(clear c7);(obtain rfl:=Option.some.inj H);(have bn3:0≤(k7:Int):=od);(have bn4:k7 < (l0.length:Int):=od);(obtain ⟨ad224,e224,dn4,dn5⟩:=at_T42 m9.out k7 bn3 bn4);(cases e224);(replace bn3:=eq_true bn3);(replace bn4:=eq_true bn4);(have bn5:0≤(k7:Int):=od);(have bn6:k7 < (l1.length:Int):=od);(obtain ⟨ad225,e225,dn6,dn7⟩:=at_T42 HR1.out k7 bn5 bn6);(cases e225);(replace bn5:=eq_true bn5);(replace bn6:=eq_true bn6);(go_wp2);(repeat (go_quiet (fail);try go_wp2));(go_ret);(exact ⟨by first|rfl|(simp;done)|(simp [*];done),by repeat (first|exact Drawn0.refl _ |apply Drawn0.step)⟩)
     ·(rw [if_neg c7] at H);(have T6:(!((((rd_T42 l0 k7).f0).toList)==(((rd_T42 l1 k7).f0).toList))||(!((((rd_T42 l0 k7).f1).toList)==(((rd_T42 l1 k7).f1).toList))))=false:=by simpa using c7);(clear c7);(have H':=Aside0.mk H);(clear H);(have bn3:0≤(k7:Int):=od);(have bn4:k7 < (l0.length:Int):=od);(obtain ⟨ad224,e224,dn4,dn5⟩:=at_T42 m9.out k7 bn3 bn4);(cases e224);(replace bn3:=eq_true bn3);(replace bn4:=eq_true bn4);(have bn5:0≤(k7:Int):=od);(have bn6:k7 < (l1.length:Int):=od);(obtain ⟨ad225,e225,dn6,dn7⟩:=at_T42 HR1.out k7 bn5 bn6);(cases e225);(replace bn5:=eq_true bn5);(replace bn6:=eq_true bn6);(go_wp2);(repeat (go_quiet (fail);try go_wp2));(go_roundg k1)
      case measure=>have:=l7.out;omega
      case rel=>exact ⟨(wrap64 (k7+1)),sd,H',⟨by have:=l7.out;omega⟩,by repeat (first|exact Drawn0.refl _ |apply Drawn0.step)⟩
    ·(obtain rfl:=Option.some.inj H);(go_wp2);(repeat (go_quiet (fail);try go_wp2));(go_ret);(exact ⟨by first|rfl|(simp;done)|(simp [*];done),by repeat (first|exact Drawn0.refl _ |apply Drawn0.step)⟩)
 ·(rw [if_neg c3] at H);(have N6:((l0.length:Int)==(l1.length:Int))=false:=beq_eq_false_iff_ne.mpr c3);(have ew9:((l0.length:Int) != (l1.length:Int))=true:=bne_iff_ne.mpr c3);(have ex0:(l0.length==l1.length)=false:=by first|simpa using c3|(simp at c3 ⊢;omega));(obtain rfl:=Option.some.inj H);(go_enter Tryz.func21,Tryz.ntmps21);(go_wp2);(repeat (go_quiet (fail);try go_wp2));(go_ret);(exact ⟨by first|rfl|(simp;done)|(simp [*];done),by repeat (first|exact Drawn0.refl _ |apply Drawn0.step)⟩)

/-! ### lockkeeperref11_Small: function 7 -/
def lockkeeperref11_Small.l0:Nat→Int→Int→Int→Int→Int→ByteArray→ByteArray→Bool→Int→Int→List Int→List (S42)→Option (Bool)
 |0,_,_,_,_,_,_,_,_,_,_,_,_=>none
 |k+1,x3,x4,dn8,dn9,do0,do1,do2,do3,do4,do5,bw3,ao4=>if x4 < (ao4.length:Int) then (if x4 < 60 then (if 0≤x4 then (lockkeeperref11_Small.l0 k (wrap64 ((wrap64 (x3+(((rd_T42 ao4 x4).f0).size:Int)))+(((rd_T42 ao4 x4).f1).size:Int))) (wrap64 (x4+1)) dn8 dn9 do0 do1 do2 do3 do4 do5 bw3 ao4) else (none)) else (if (ao4.length:Int)≤60 then (if (bw3.length:Int)≤1100 then (some (decide (x3≤30000))) else (some false)) else (some false))) else (if (ao4.length:Int)≤60 then (if (bw3.length:Int)≤1100 then (some (decide (x3≤30000))) else (some false)) else (some false))
def lockkeeperref11_Small.f (k:Nat) (a6:Int) (b0:Int) (b5:Int) (b9:ByteArray) (d1:ByteArray) (d2:Bool) (d3:Int) (d0:Int) (b7:List Int) (a8:List (S42)):Option (Bool):=lockkeeperref11_Small.l0 k (wrap64 ((b9.size:Int)+(d1.size:Int))) 0 a6 b0 b5 b9 d1 d2 d3 d0 b7 a8
set_option maxHeartbeats 8000000 in
set_option maxRecDepth 100000 in
theorem lockkeeperref11_Small.calls (k:Nat) (a6:Int) (b0:Int) (b5:Int) (b9:ByteArray) (d1:ByteArray) (d2:Bool) (d3:Int) (d0:Int) (j6:Option Addr) (j7:Nat) (b7:List Int) (l5:Option Addr) (j8:Nat) (a8:List (S42)) (r:Bool) (w:World) (y4:Kd.C (Kd.int .u64) w j6 b7.length b7) (C1:b7.length≤j7) (s9:Kd.C k42 w l5 a8.length a8) (u7:a8.length≤j8) (h:lockkeeperref11_Small.f k a6 b0 b5 b9 d1 d2 d3 d0 b7 a8=some r):
  Calls Tryz.prog 7 #[.agg #[.int .u64 a6,.int .u64 b0,.int .u8 b5,.string b9,.string d1,.bool d2,.int .u64 d3,.int .u64 d0,.slice j6 b7.length j7,.slice l5 a8.length j8]] w fun e w'=>e=.returned (.bool r)∧Below w.heap.size w w':=by
 (have hu28:=Tryz.underlying28);(have t1:=Aside0.mk y4);(have t2:=Aside0.mk C1);(clear y4 C1);(have o1:=Aside0.mk s9);(have s3:=Aside0.mk u7);(clear s9 u7);(have HB:=Aside0.mk (Below.refl w.heap.size w));(unfold lockkeeperref11_Small.f at h);(have H:=h);(clear h);(have H':=Aside0.mk H);(clear H);(go_enter Tryz.func7,Tryz.ntmps7);(go_wp2_with (first|((with_reducible refine gate_dst (N:=1) rfl ?_);(try (refine gate_guard (by rfl) ?_;dsimp only));refine bx (N:=1) (cs:=#[.int .u64 a6,.int .u64 b0,.int .u8 b5,.string b9,.string d1,.bool d2,.int .u64 d3,.int .u64 d0,.slice j6 b7.length j7,.slice l5 a8.length j8]) (t:=28) ⟨mvW HB.out⟩ ?_;clear HB;intro cr5 hg w2 hb X0 br9 HB;have de0:=br9;clear hb hg;have Z3:=b10 X0)));(repeat (go_quiet (first|((with_reducible refine gate_dst (N:=1) rfl ?_);(try (refine gate_guard (by rfl) ?_;dsimp only));refine bx (N:=1) (cs:=#[.int .u64 a6,.int .u64 b0,.int .u8 b5,.string b9,.string d1,.bool d2,.int .u64 d3,.int .u64 d0,.slice j6 b7.length j7,.slice l5 a8.length j8]) (t:=28) ⟨mvW HB.out⟩ ?_;clear HB;intro cr5 hg w2 hb X0 br9 HB;have de0:=br9;clear hb hg;have Z3:=b10 X0));try go_wp2_with (first|((with_reducible refine gate_dst (N:=1) rfl ?_);(try (refine gate_guard (by rfl) ?_;dsimp only));refine bx (N:=1) (cs:=#[.int .u64 a6,.int .u64 b0,.int .u8 b5,.string b9,.string d1,.bool d2,.int .u64 d3,.int .u64 d0,.slice j6 b7.length j7,.slice l5 a8.length j8]) (t:=28) ⟨mvW HB.out⟩ ?_;clear HB;intro cr5 hg w2 hb X0 br9 HB;have de0:=br9;clear hb hg;have Z3:=b10 X0))));(go_loopg [3,4] k (fun kq v3 v4 w'=>∃ (i8:Int) (Q4:Int),v3=.int .i64 i8∧v4=.int .i64 Q4∧Aside0 (lockkeeperref11_Small.l0 kq i8 Q4 a6 b0 b5 b9 d1 d2 d3 d0 b7 a8=some r)∧Aside0 (kq≤k)∧Aside0 (w'.heap[cr5]? =some (.cells #[.int .u64 a6,.int .u64 b0,.int .u8 b5,.string b9,.string d1,.bool d2,.int .u64 d3,.int .u64 d0,(.slice j6 b7.length j7),(.slice l5 a8.length j8)] 28 (0,0)))∧Aside0 (Below w.heap.size w w')))
 case atStart=>exact ⟨(wrap64 ((b9.size:Int)+(d1.size:Int))),(0),sd,sd,H',⟨Nat.le_refl _⟩,⟨mvB X0.out⟩,⟨mvW HB.out⟩⟩
 case round=>
  (clear H');(obtain ⟨i8,Q4,rfl,rfl,HA,l7,X0,HB⟩:=hrel)
  cases gk with
  |zero=>exact absurd HA.out (by simp [lockkeeperref11_Small.l0])
  |succ k1=>
   (have H:=HA.out);(clear HA);(simp only [lockkeeperref11_Small.l0] at H);(replace H:=sp H);(rcases H with ⟨p2,H⟩|⟨p2,H⟩)
   ·(replace H:=sp H);(rcases H with ⟨S1,H⟩|⟨S1,H⟩)
    ·(replace H:=gd H);(obtain ⟨J0,H⟩:=H);(have H':=Aside0.mk H);(clear H);(have Z7:=b10 X0);(obtain ⟨ad227,e227,hw227,hx227,pq227⟩:=rd42 HB o1 Q4);(cases e227);(go_wp2);(repeat (go_quiet (fail);try go_wp2));(go_roundg k1)
     case measure=>have:=l7.out;omega
     case rel=>exact ⟨(wrap64 ((wrap64 (i8+(((rd_T42 a8 Q4).f0).size:Int)))+(((rd_T42 a8 Q4).f1).size:Int))),(wrap64 (Q4+1)),sd,sd,H',⟨by have:=l7.out;omega⟩,⟨mvB X0.out⟩,⟨mvW HB.out⟩⟩
    ·(by_cases c8:(a8.length:Int)≤60)
     ·(rw [if_pos c8] at H);(have aa3:=decide_eq_true c8);(have bi9:decide (a8.length≤60)=true:=decide_eq_true (by omega));(clear c8);(by_cases c9:(b7.length:Int)≤1100)
      ·(rw [if_pos c9] at H);(have W9:=decide_eq_true c9);(have bz9:decide (b7.length≤1100)=true:=decide_eq_true (by omega));(clear c9);(obtain rfl:=Option.some.inj H);(have Z10:=b10 X0);(go_wp2);(repeat (go_quiet (fail);try go_wp2));(go_ret);(exact ⟨rv,mvW HB.out⟩)
      ·(rw [if_neg c9] at H);(have W9:decide ((b7.length:Int)≤1100)=false:=decide_eq_false c9);(have bz9:decide (b7.length≤1100)=false:=decide_eq_false (by omega));(clear c9);(obtain rfl:=Option.some.inj H);(have Z11:=b10 X0);(go_wp2);(repeat (go_quiet (fail);try go_wp2));(go_ret);(exact ⟨rv,mvW HB.out⟩)
     ·(rw [if_neg c8] at H);(have aa3:decide ((a8.length:Int)≤60)=false:=decide_eq_false c8);(have bi9:decide (a8.length≤60)=false:=decide_eq_false (by omega));(clear c8);(obtain rfl:=Option.some.inj H);(have Z12:=b10 X0);(go_wp2);(repeat (go_quiet (fail);try go_wp2));(go_ret);(exact ⟨rv,mvW HB.out⟩)
   ·(by_cases c13:(a8.length:Int)≤60)
    ·(rw [if_pos c13] at H);(have ak3:=decide_eq_true c13);(have cl7:decide (a8.length≤60)=true:=decide_eq_true (by omega));(clear c13);(by_cases c14:(b7.length:Int)≤1100)
     ·(rw [if_pos c14] at H);(have ak4:=decide_eq_true c14);(have bp1:decide (b7.length≤1100)=true:=decide_eq_true (by omega));(clear c14);(obtain rfl:=Option.some.inj H);(have Z15:=b10 X0);(go_wp2);(repeat (go_quiet (fail);try go_wp2));(go_ret);(exact ⟨rv,mvW HB.out⟩)
     ·(rw [if_neg c14] at H);(have ak4:decide ((b7.length:Int)≤1100)=false:=decide_eq_false c14);(have bp1:decide (b7.length≤1100)=false:=decide_eq_false (by omega));(clear c14);(obtain rfl:=Option.some.inj H);(have Z16:=b10 X0);(go_wp2);(repeat (go_quiet (fail);try go_wp2));(go_ret);(exact ⟨rv,mvW HB.out⟩)
    ·(rw [if_neg c13] at H);(have ak3:decide ((a8.length:Int)≤60)=false:=decide_eq_false c13);(have cl7:decide (a8.length≤60)=false:=decide_eq_false (by omega));(clear c13);(obtain rfl:=Option.some.inj H);(have Z17:=b10 X0);(go_wp2);(repeat (go_quiet (fail);try go_wp2));(go_ret);(exact ⟨rv,mvW HB.out⟩)

/-! ### lockkeeperref14_Small: function 24 -/
mutual
def lockkeeperref14_Small.l0:Nat→List (S28)→Int→Option (Bool)
 |0,_,_=>none
 |k+1,x0,x3=>if x3 < (x0.length:Int) then (lockkeeperref14_Small.j1 k x0 x3 (decide (x3 < 40))) else (lockkeeperref14_Small.j1 k x0 x3 false)
def lockkeeperref14_Small.j1:Nat→List (S28)→Int→Bool→Option (Bool)
 |0,_,_,_=>none
 |k+1,x0,x3,S0=>if S0=true then (if 0≤x3 then (if x3 < (x0.length:Int) then ((lockkeeperref11_Small.f k ((rd_T28 x0 x3).f0) ((rd_T28 x0 x3).f1) ((rd_T28 x0 x3).f2) ((rd_T28 x0 x3).f3) ((rd_T28 x0 x3).f4) ((rd_T28 x0 x3).f5) ((rd_T28 x0 x3).f6) ((rd_T28 x0 x3).f7.f0) ((rd_T28 x0 x3).f7.f1) ((rd_T28 x0 x3).f8)).bind fun ea0=>(if ea0=true then (lockkeeperref14_Small.l0 k x0 (wrap64 (x3+1))) else (some false))) else (none)) else (none)) else (some (decide ((x0.length:Int)≤40)))
end
def lockkeeperref14_Small.f (k:Nat) (l0:List (S28)):Option (Bool):=lockkeeperref14_Small.l0 k l0 0
set_option maxHeartbeats 8000000 in
set_option maxRecDepth 100000 in
theorem lockkeeperref14_Small.calls (k:Nat) (A0:Option Addr) (c0:Nat) (l0:List (S28)) (r:Bool) (w:World) (hr0:Kd.C k28 w A0 l0.length l0) (hc0:l0.length≤c0) (h:lockkeeperref14_Small.f k l0=some r):
  Calls Tryz.prog 24 #[.slice A0 l0.length c0] w fun e w'=>e=.returned (.bool r)∧Below w.heap.size w w':=by
 (have hu28:=Tryz.underlying28);(have m9:=Aside0.mk hr0);(have D6:=Aside0.mk hc0);(clear hr0 hc0);(have HB:=Aside0.mk (Below.refl w.heap.size w));(unfold lockkeeperref14_Small.f at h);(have H:=h);(clear h);(have H':=Aside0.mk H);(clear H);(go_enter Tryz.func24,Tryz.ntmps24);(go_wp2);(go_loopg [3] k (fun kq v3 w'=>∃ (i8:Int),v3=.int .i64 i8∧Aside0 (lockkeeperref14_Small.l0 kq l0 i8=some r)∧Aside0 (kq≤k)∧Aside0 (Below w.heap.size w w')))
 case atStart=>exact ⟨(0),sd,H',⟨Nat.le_refl _⟩,⟨mvW HB.out⟩⟩
 case round=>
  (clear H');(obtain ⟨i8,rfl,HA,l7,HB⟩:=hrel)
  cases gk with
  |zero=>exact absurd HA.out (by simp [lockkeeperref14_Small.l0])
  |succ k1=>
   (have H:=HA.out);(clear HA);(simp only [lockkeeperref14_Small.l0] at H);(have HC2:=Aside0.mk H);(clear H);(go_upto_region 2 with (fail));(go_cut [11] (fun v11 wc=>∃ (kq:Nat) (P5:Bool),v11=.bool P5∧Aside0 (lockkeeperref14_Small.j1 kq l0 i8 P5=some r)∧Aside0 (kq≤k1)∧Aside0 (Below w.heap.size w wc)))
   case first=>
    (have H:=HC2.out);(clear HC2);(replace H:=sp H);(rcases H with ⟨N6,H⟩|⟨N6,H⟩)
    ·((first|rw [N6]|(simp only [i64_w,i32_w];rw [N6])|skip));(have H':=Aside0.mk H);(clear H);(go_wp2);(go_meet)
     case rel=>exact ⟨_,(decide (i8 < 40)),sd,H',⟨by have:=l7.out;first|omega|exact Nat.le_refl _⟩,⟨mvW HB.out⟩⟩
    ·((first|rw [N6]|(simp only [i64_w,i32_w];rw [N6])|skip));(have H':=Aside0.mk H);(clear H);(go_wp2);(go_meet)
     case rel=>exact ⟨_,(false),sd,H',⟨by have:=l7.out;first|omega|exact Nat.le_refl _⟩,⟨mvW HB.out⟩⟩
   case rest=>
    (clear HC2);(obtain ⟨kq,P5,rfl,HA,HJ1,HB⟩:=hcut)
    cases kq with
    |zero=>exact absurd HA.out (by simp [lockkeeperref14_Small.j1])
    |succ kj1=>
     (have H:=HA.out);(clear HA);(simp only [lockkeeperref14_Small.j1] at H);(replace H:=sB H);(rcases H with ⟨rfl,H⟩|⟨rfl,H⟩)
     ·(replace H:=gd H);(obtain ⟨S1,H⟩:=H);(replace H:=gd H);(obtain ⟨J0,H⟩:=H);(replace H:=bs H);(obtain ⟨ea0,A7,H⟩:=H);(replace H:=sB H);(rcases H with ⟨rfl,H⟩|⟨rfl,H⟩)
      ·(have H':=Aside0.mk H);(clear H);(obtain ⟨ad229,ce1,ce2,ce3,ce4,e229,hw229,hx229,pq229,bw4,bw5,bw6,bw7⟩:=rd28 HB m9 i8);(cases e229);(go_wp2_with (first|((with_reducible refine gate_callee (f:=7) rfl ?_);refine goesL_ (some 18) rfl rfl Tryz.func7 (by kernel_rfl) rfl #[.agg #[.int .u64 ((rd_T28 l0 i8).f0),.int .u64 ((rd_T28 l0 i8).f1),.int .u8 ((rd_T28 l0 i8).f2),.string ((rd_T28 l0 i8).f3),.string ((rd_T28 l0 i8).f4),.bool ((rd_T28 l0 i8).f5),.int .u64 ((rd_T28 l0 i8).f6),.int .u64 ((rd_T28 l0 i8).f7.f0),.slice ce1 ((rd_T28 l0 i8).f7.f1).length ce2,.slice ce3 ((rd_T28 l0 i8).f8).length ce4]] rfl am ?_;(with_reducible refine (lockkeeperref11_Small.calls kj1 ((rd_T28 l0 i8).f0) ((rd_T28 l0 i8).f1) ((rd_T28 l0 i8).f2) ((rd_T28 l0 i8).f3) ((rd_T28 l0 i8).f4) ((rd_T28 l0 i8).f5) ((rd_T28 l0 i8).f6) ((rd_T28 l0 i8).f7.f0) _ _ ((rd_T28 l0 i8).f7.f1) _ _ ((rd_T28 l0 i8).f8) true _ ?_ ?_ ?_ ?_ A7.out).mono ?_);(exact mvC (Kd.C_below bw5.out HB.out));(exact bw4.out);(exact mvC (Kd.C_below bw7.out HB.out));(exact bw6.out);rintro e w9 ⟨rfl,hb⟩;refine ⟨_,rfl,?_⟩;replace HB:=sb HB hb)));(go_roundg kj1)
       case measure=>have:=l7.out;have:=HJ1.out;omega
       case rel=>exact ⟨(wrap64 (i8+1)),sd,H',⟨by have:=l7.out;have:=HJ1.out;omega⟩,⟨mvW HB.out⟩⟩
      ·(obtain rfl:=Option.some.inj H);(obtain ⟨ad229,ce1,ce2,ce3,ce4,e229,hw229,hx229,pq229,bw4,bw5,bw6,bw7⟩:=rd28 HB m9 i8);(cases e229);(go_wp2_with (first|((with_reducible refine gate_callee (f:=7) rfl ?_);refine goesL_ (some 18) rfl rfl Tryz.func7 (by kernel_rfl) rfl #[.agg #[.int .u64 ((rd_T28 l0 i8).f0),.int .u64 ((rd_T28 l0 i8).f1),.int .u8 ((rd_T28 l0 i8).f2),.string ((rd_T28 l0 i8).f3),.string ((rd_T28 l0 i8).f4),.bool ((rd_T28 l0 i8).f5),.int .u64 ((rd_T28 l0 i8).f6),.int .u64 ((rd_T28 l0 i8).f7.f0),.slice ce1 ((rd_T28 l0 i8).f7.f1).length ce2,.slice ce3 ((rd_T28 l0 i8).f8).length ce4]] rfl am ?_;(with_reducible refine (lockkeeperref11_Small.calls kj1 ((rd_T28 l0 i8).f0) ((rd_T28 l0 i8).f1) ((rd_T28 l0 i8).f2) ((rd_T28 l0 i8).f3) ((rd_T28 l0 i8).f4) ((rd_T28 l0 i8).f5) ((rd_T28 l0 i8).f6) ((rd_T28 l0 i8).f7.f0) _ _ ((rd_T28 l0 i8).f7.f1) _ _ ((rd_T28 l0 i8).f8) false _ ?_ ?_ ?_ ?_ A7.out).mono ?_);(exact mvC (Kd.C_below bw5.out HB.out));(exact bw4.out);(exact mvC (Kd.C_below bw7.out HB.out));(exact bw6.out);rintro e w10 ⟨rfl,hb⟩;refine ⟨_,rfl,?_⟩;replace HB:=sb HB hb)));(go_ret);(exact ⟨rv,mvW HB.out⟩)
     ·(obtain rfl:=Option.some.inj H);(go_wp2);(go_ret);(exact ⟨rv,mvW HB.out⟩)

/-! ### lockkeeperref14_At: function 28 -/
def lockkeeperref14_At.l0:Nat→List (S28)→Int→Int→Option (Int×Int×Int×ByteArray×ByteArray×Bool×Int×Int×List Int×(List (S42))×Bool)
 |0,_,_,_=>none
 |k+1,x0,x1,x6=>if x6 < (x0.length:Int) then (if 0≤x6 then (if ((rd_T28 x0 x6).f0)=x1 then (some ((rd_T28 x0 x6).f0,(rd_T28 x0 x6).f1,(rd_T28 x0 x6).f2,(rd_T28 x0 x6).f3,(rd_T28 x0 x6).f4,(rd_T28 x0 x6).f5,(rd_T28 x0 x6).f6,(rd_T28 x0 x6).f7.f0,(rd_T28 x0 x6).f7.f1,(rd_T28 x0 x6).f8,true)) else (lockkeeperref14_At.l0 k x0 x1 (wrap64 (x6+1)))) else (none)) else (some (0,0,0,(⟨#[]⟩:ByteArray),(⟨#[]⟩:ByteArray),false,0,0,([]:List Int),([]:List (S42)),false))
def lockkeeperref14_At.f (k:Nat) (l0:List (S28)) (a1:Int):Option (Int×Int×Int×ByteArray×ByteArray×Bool×Int×Int×List Int×(List (S42))×Bool):=lockkeeperref14_At.l0 k l0 a1 0
set_option maxHeartbeats 8000000 in
set_option maxRecDepth 100000 in
theorem lockkeeperref14_At.calls (k:Nat) (P0_:Nat→Prop) (A0:Option Addr) (c0:Nat) (l0:List (S28)) (a1:Int) (r1:Int) (r2:Int) (r3:Int) (r4:ByteArray) (r5:ByteArray) (r6:Bool) (r7:Int) (r8:Int) (r9:List Int) (r10:List (S42)) (r11:Bool) (w:World) (hs0:Kd.V k28 28 w w.heap.size (fun k_=>P0_ k_) (.slice A0 l0.length c0) l0) (h:lockkeeperref14_At.f k l0 a1=some (r1,r2,r3,r4,r5,r6,r7,r8,r9,r10,r11)):
  Calls Tryz.prog 28 #[.slice A0 l0.length c0,.int .u64 a1] w fun e w'=>∃ v8_ v9_:Value,e=.returned (.tuple #[.agg #[.int .u64 r1,.int .u64 r2,.int .u8 r3,.string r4,.string r5,.bool r6,.int .u64 r7,.int .u64 r8,v8_,v9_],.bool r11])∧Kd.V (Kd.int .u64) 22 w' w.heap.size (fun k_=>(P0_ k_∨w.heap.size≤k_)) v8_ r9∧Kd.V k42 42 w' w.heap.size (fun k_=>(P0_ k_∨w.heap.size≤k_)) v9_ r10∧Below w.heap.size w w':=by
 (have hu28:=Tryz.underlying28);(have X4:=Aside0.mk (show Kd.V k28 28 w w.heap.size (fun k_=>(P0_ k_∨w.heap.size≤k_)) (.slice A0 l0.length c0) l0 from Kd.V_mono hs0 (fun k_ hk=>.inl hk)));(have HB:=Aside0.mk (Below.refl w.heap.size w));(unfold lockkeeperref14_At.f at h);(have H:=h);(clear h);(have H':=Aside0.mk H);(clear H);(go_enter Tryz.func28,Tryz.ntmps28);(go_wp2_with (first|((with_reducible refine gate_dst (N:=4) rfl ?_);refine bx (N:=4) (cs:=#[.int .u64 0,.int .u64 0,.int .u8 0,.string (⟨#[]⟩:ByteArray),.string (⟨#[]⟩:ByteArray),.bool false,.int .u64 0,.int .u64 0,.slice none 0 0,.slice none 0 0]) (t:=28) ⟨mvW HB.out⟩ ?_;clear HB;intro ar1 hg w3 hb ay0 eq0 HB;have fx6:=eq0;replace X4:=ve X4 hg hb;clear hb hg)));(go_loopg [6] k (fun kq v6 w'=>∃ (d4:Int) (be0:Int) (be1:Int) (be2:Int) (be3:ByteArray) (be4:ByteArray) (be5:Bool) (be6:Int) (be7:Int),v6=.int .i64 d4∧Aside0 (lockkeeperref14_At.l0 kq l0 a1 d4=some (r1,r2,r3,r4,r5,r6,r7,r8,r9,r10,r11))∧Aside0 (kq≤k)∧Aside0 (Kd.V k28 28 w' w.heap.size (fun k_=>(P0_ k_∨w.heap.size≤k_)∧k_≠ar1) (.slice A0 l0.length c0) l0)∧Aside0 (w'.heap[ar1]? =some (.cells #[.int .u64 be0,.int .u64 be1,.int .u8 be2,.string be3,.string be4,.bool be5,.int .u64 be6,.int .u64 be7,(.slice none 0 0),(.slice none 0 0)] 28 (0,0)))∧Aside0 (Below w.heap.size w w')))
 case atStart=>exact ⟨(0),(0),(0),(0),((⟨#[]⟩:ByteArray)),((⟨#[]⟩:ByteArray)),(false),(0),(0),sd,H',⟨Nat.le_refl _⟩,⟨mvV X4.out⟩,⟨mvB ay0.out⟩,⟨mvW HB.out⟩⟩
 case round=>
  (clear H');(obtain ⟨d4,be0,be1,be2,be3,be4,be5,be6,be7,rfl,HA,l7,HO_0,ay0,HB⟩:=hrel)
  cases gk with
  |zero=>exact absurd HA.out (by simp [lockkeeperref14_At.l0])
  |succ k1=>
   (have H:=HA.out);(clear HA);(simp only [lockkeeperref14_At.l0] at H);(replace H:=sp H);(rcases H with ⟨p2,H⟩|⟨p2,H⟩)
   ·(replace H:=gd H);(obtain ⟨S1,H⟩:=H);(by_cases c6:((rd_T28 l0 d4).f0)=a1)
    ·(rw [if_pos c6] at H);(have J0:(((rd_T28 l0 d4).f0)==a1)=true:=beq_iff_eq.mpr c6);(have az6:(((rd_T28 l0 d4).f0) != a1)=false:=bne_eq_false_iff_eq.mpr c6);(clear c6);(simp only [Option.some.injEq,Prod.mk.injEq] at H);(obtain ⟨rfl,rfl,rfl,rfl,rfl,rfl,rfl,rfl,rfl,rfl,rfl⟩:=H);(obtain ⟨ad232,cu5,cu6,cu7,cu8,e232,hx232,pq232,ci4,ci5,do6,do7,do8,do9⟩:=rv28 HO_0 d4);(cases e232);(have Z7:=b10 ay0);(go_wp2);(refine bodyPost_ret (results_ct rfl _ _ ar1 28 #[.int .u64 ((rd_T28 l0 d4).f0),.int .u64 ((rd_T28 l0 d4).f1),.int .u8 ((rd_T28 l0 d4).f2),.string ((rd_T28 l0 d4).f3),.string ((rd_T28 l0 d4).f4),.bool ((rd_T28 l0 d4).f5),.int .u64 ((rd_T28 l0 d4).f6),.int .u64 ((rd_T28 l0 d4).f7.f0),.slice cu5 ((rd_T28 l0 d4).f7.f1).length cu6,.slice cu7 ((rd_T28 l0 d4).f8).length cu8] (0,0) _ rfl (mvP ay0.out) Tryz.underlying28 rfl (by kernel_rfl)) rfl ?_);(exact ⟨_,_,rv,Kd.V_mono (fv1 ar1 (Kd.V_mono ci4.out (fun k_ hk=>(⟨hk,hk.2⟩:_∧k_≠ar1))) (fun _ hk=>hk.2)) (fun _ hk=>hk.1.1),Kd.V_mono (fv1 ar1 (Kd.V_mono ci5.out (fun k_ hk=>(⟨hk,hk.2⟩:_∧k_≠ar1))) (fun _ hk=>hk.2)) (fun _ hk=>hk.1.1),mvW HB.out⟩)
    ·(rw [if_neg c6] at H);(have J0:(((rd_T28 l0 d4).f0)==a1)=false:=beq_eq_false_iff_ne.mpr c6);(have az6:(((rd_T28 l0 d4).f0) != a1)=true:=bne_iff_ne.mpr c6);(have H':=Aside0.mk H);(clear H);(obtain ⟨ad232,cu5,cu6,cu7,cu8,e232,hx232,pq232,ci4,ci5,do6,do7,do8,do9⟩:=rv28 HO_0 d4);(cases e232);(go_wp2);(go_roundg k1)
     case measure=>have:=l7.out;omega
     case rel=>exact ⟨(wrap64 (d4+1)),(be0),(be1),(be2),(be3),(be4),(be5),(be6),(be7),sd,H',⟨by have:=l7.out;omega⟩,⟨mvV HO_0.out⟩,⟨mvB ay0.out⟩,⟨mvW HB.out⟩⟩
   ·(simp only [Option.some.injEq,Prod.mk.injEq] at H);(obtain ⟨rfl,rfl,rfl,rfl,rfl,rfl,rfl,rfl,rfl,rfl,rfl⟩:=H);(have Z8:=b10 ay0);(go_wp2);(refine bodyPost_ret (results_ct rfl _ _ ar1 28 #[.int .u64 0,.int .u64 0,.int .u8 0,.string (⟨#[]⟩:ByteArray),.string (⟨#[]⟩:ByteArray),.bool false,.int .u64 0,.int .u64 0,.slice none 0 0,.slice none 0 0] (0,0) _ rfl (mvP ay0.out) Tryz.underlying28 rfl (by kernel_rfl)) rfl ?_);(exact ⟨_,_,rv,Kd.V_nil _ _ _ _ _,Kd.V_nil _ _ _ _ _,mvW HB.out⟩)

/-! ### lockkeeperref04_Right: function 56 -/
def lockkeeperref04_Right.l0:Nat→Int→Int→List Int→Option (Bool)
 |0,_,_,_=>none
 |k+1,x3,bw8,ak0=>if x3 < (ak0.length:Int) then (if 0≤x3 then (if (rd ak0 x3)≤bw8 then (some false) else (if x3 > 0 then (if 0≤(wrap64 (x3 - 1)) then (if (wrap64 (x3 - 1)) < (ak0.length:Int) then (if (rd ak0 x3)≤(rd ak0 (wrap64 (x3 - 1))) then (some false) else (lockkeeperref04_Right.l0 k (wrap64 (x3+1)) bw8 ak0)) else (none)) else (none)) else (lockkeeperref04_Right.l0 k (wrap64 (x3+1)) bw8 ak0))) else (none)) else (some true)
def lockkeeperref04_Right.f (k:Nat) (a6:Int) (e6:List Int):Option (Bool):=if (e6.length:Int) > 1000 then (some false) else (lockkeeperref04_Right.l0 k 0 a6 e6)
set_option maxHeartbeats 8000000 in
set_option maxRecDepth 100000 in
theorem lockkeeperref04_Right.calls (k:Nat) (a6:Int) (p3:Option Addr) (p5:Nat) (e6:List Int) (r:Bool) (w:World) (Q0:Kd.C (Kd.int .u64) w p3 e6.length e6) (R6:e6.length≤p5) (h:lockkeeperref04_Right.f k a6 e6=some r):
  Calls Tryz.prog 56 #[.agg #[.int .u64 a6,.slice p3 e6.length p5]] w fun e w'=>e=.returned (.bool r)∧Below w.heap.size w w':=by
 (have hu25:=Tryz.underlying25);(have N2:=Aside0.mk Q0);(have ak1:=Aside0.mk R6);(clear Q0 R6);(have HB:=Aside0.mk (Below.refl w.heap.size w));(unfold lockkeeperref04_Right.f at h);(have H:=h);(clear h);(by_cases c2:(e6.length:Int) > 1000)
 ·(rw [if_pos c2] at H);(have X3:decide (1000 < (e6.length:Int))=true:=decide_eq_true c2);(have bi5:decide (1000 < e6.length)=true:=decide_eq_true (by omega));(clear c2);(obtain rfl:=Option.some.inj H);(go_enter Tryz.func56,Tryz.ntmps56);(go_wp2_with (first|((with_reducible refine gate_dst (N:=1) rfl ?_);refine bx (N:=1) (cs:=#[.int .u64 a6,.slice p3 e6.length p5]) (t:=25) ⟨mvW HB.out⟩ ?_;clear HB;intro bi1 hg w3 hb Q3 af8 HB;have bs0:=af8;clear hb hg;have Z4:=b2 Q3)));(repeat (go_quiet (first|((with_reducible refine gate_dst (N:=1) rfl ?_);refine bx (N:=1) (cs:=#[.int .u64 a6,.slice p3 e6.length p5]) (t:=25) ⟨mvW HB.out⟩ ?_;clear HB;intro bi1 hg w3 hb Q3 af8 HB;have bs0:=af8;clear hb hg;have Z4:=b2 Q3));try go_wp2_with (first|((with_reducible refine gate_dst (N:=1) rfl ?_);refine bx (N:=1) (cs:=#[.int .u64 a6,.slice p3 e6.length p5]) (t:=25) ⟨mvW HB.out⟩ ?_;clear HB;intro bi1 hg w3 hb Q3 af8 HB;have bs0:=af8;clear hb hg;have Z4:=b2 Q3))));(go_ret);(exact ⟨rv,mvW HB.out⟩)
 ·(rw [if_neg c2] at H);(have X3:decide (1000 < (e6.length:Int))=false:=decide_eq_false c2);(have bi5:decide (1000 < e6.length)=false:=decide_eq_false (by omega));(clear c2);(have H':=Aside0.mk H);(clear H);(go_enter Tryz.func56,Tryz.ntmps56);(go_wp2_with (first|((with_reducible refine gate_dst (N:=1) rfl ?_);refine bx (N:=1) (cs:=#[.int .u64 a6,.slice p3 e6.length p5]) (t:=25) ⟨mvW HB.out⟩ ?_;clear HB;intro bi1 hg w5 hb Q3 af8 HB;have bs0:=af8;clear hb hg;have Z6:=b2 Q3)));(repeat (go_quiet (first|((with_reducible refine gate_dst (N:=1) rfl ?_);refine bx (N:=1) (cs:=#[.int .u64 a6,.slice p3 e6.length p5]) (t:=25) ⟨mvW HB.out⟩ ?_;clear HB;intro bi1 hg w5 hb Q3 af8 HB;have bs0:=af8;clear hb hg;have Z6:=b2 Q3));try go_wp2_with (first|((with_reducible refine gate_dst (N:=1) rfl ?_);refine bx (N:=1) (cs:=#[.int .u64 a6,.slice p3 e6.length p5]) (t:=25) ⟨mvW HB.out⟩ ?_;clear HB;intro bi1 hg w5 hb Q3 af8 HB;have bs0:=af8;clear hb hg;have Z6:=b2 Q3))));(go_loopg [3] k (fun kq v3 w'=>∃ (i8:Int),v3=.int .i64 i8∧Aside0 (lockkeeperref04_Right.l0 kq i8 a6 e6=some r)∧Aside0 (kq≤k)∧Aside0 (w'.heap[bi1]? =some (.cells #[.int .u64 a6,(.slice p3 e6.length p5)] 25 (0,0)))∧Aside0 (Below w.heap.size w w')))
  case atStart=>exact ⟨(0),sd,H',⟨Nat.le_refl _⟩,⟨mvB Q3.out⟩,⟨mvW HB.out⟩⟩
  case round=>
   (clear H');(obtain ⟨i8,rfl,HA,l7,Q3,HB⟩:=hrel)
   cases gk with
   |zero=>exact absurd HA.out (by simp [lockkeeperref04_Right.l0])
   |succ k1=>
    (have H:=HA.out);(clear HA);(simp only [lockkeeperref04_Right.l0] at H);(replace H:=sp H);(rcases H with ⟨T6,H⟩|⟨T6,H⟩)
    ·(replace H:=gd H);(obtain ⟨aa3,H⟩:=H);(replace H:=sp H);(rcases H with ⟨W9,H⟩|⟨W9,H⟩)
     ·(obtain rfl:=Option.some.inj H);(have Z10:=b2 Q3);(have ab5:0≤(i8:Int):=od);(have ab6:i8 < (e6.length:Int):=od);(obtain ⟨ad235,e235,U3⟩:=Kd.at_int N2.out i8 ab5 ab6);(cases e235);(replace U3:=ct HB U3);(replace ab5:=eq_true ab5);(replace ab6:=eq_true ab6);(go_wp2);(repeat (go_quiet (fail);try go_wp2));(go_ret);(exact ⟨rv,mvW HB.out⟩)
     ·(replace H:=spg H);(rcases H with ⟨bo5,H⟩|⟨bo5,H⟩)
      ·(obtain ⟨ji12,hji12⟩:∃ j_:Int,(wrap64 (i8 - 1))=j_:=⟨_,rfl⟩);(first|rw [hji12] at H|simp only [hji12] at H);(have hji12w:(IntKind.i64.wrap (i8 - 1))=ji12:=(i64_w _).trans hji12);(replace H:=gd H);(obtain ⟨ak3,H⟩:=H);(replace H:=gd H);(obtain ⟨ak4,H⟩:=H);(replace H:=sp H);(rcases H with ⟨bf5,H⟩|⟨bf5,H⟩)
       ·(obtain rfl:=Option.some.inj H);(have Z16:=b2 Q3);(have ab5:0≤(i8:Int):=od);(have ab6:i8 < (e6.length:Int):=od);(obtain ⟨ad235,e235,U3⟩:=Kd.at_int N2.out i8 ab5 ab6);(cases e235);(replace U3:=ct HB U3);(replace ab5:=eq_true ab5);(replace ab6:=eq_true ab6);(have bn7:0≤(i8:Int):=od);(have bn8:i8 < (e6.length:Int):=od);(obtain ⟨ad236,e236,av5⟩:=Kd.at_int N2.out i8 bn7 bn8);(obtain rfl:ad235=ad236:=(by injection e236));(replace av5:=ct HB av5);(replace bn7:=eq_true bn7);(replace bn8:=eq_true bn8);(have bn9:0≤((ji12):Int):=od);(have bo0:(ji12) < (e6.length:Int):=od);(obtain ⟨ad237,e237,av6⟩:=Kd.at_int N2.out (ji12) bn9 bo0);(obtain rfl:ad235=ad237:=(by injection e237));(replace av6:=ct HB av6);(replace bn9:=eq_true bn9);(replace bo0:=eq_true bo0);(go_wp2);(repeat (go_quiet (fail);try go_wp2));(go_ret);(exact ⟨by first|rfl|(simp [errW_none,errW_some] <;> rfl)|(simp only [← hji12];first|rfl|(simp [errW_none,errW_some] <;> rfl))|(simp [*,errW_none,errW_some] <;> rfl),mvW HB.out⟩)
       ·(have H':=Aside0.mk H);(clear H);(have Z17:=b2 Q3);(have ab5:0≤(i8:Int):=od);(have ab6:i8 < (e6.length:Int):=od);(obtain ⟨ad235,e235,U3⟩:=Kd.at_int N2.out i8 ab5 ab6);(cases e235);(replace U3:=ct HB U3);(replace ab5:=eq_true ab5);(replace ab6:=eq_true ab6);(have bn7:0≤(i8:Int):=od);(have bn8:i8 < (e6.length:Int):=od);(obtain ⟨ad236,e236,av5⟩:=Kd.at_int N2.out i8 bn7 bn8);(obtain rfl:ad235=ad236:=(by injection e236));(replace av5:=ct HB av5);(replace bn7:=eq_true bn7);(replace bn8:=eq_true bn8);(have bn9:0≤((ji12):Int):=od);(have bo0:(ji12) < (e6.length:Int):=od);(obtain ⟨ad237,e237,av6⟩:=Kd.at_int N2.out (ji12) bn9 bo0);(obtain rfl:ad235=ad237:=(by injection e237));(replace av6:=ct HB av6);(replace bn9:=eq_true bn9);(replace bo0:=eq_true bo0);(go_wp2);(repeat (go_quiet (fail);try go_wp2));(go_roundg k1)
        case measure=>have:=l7.out;omega
        case rel=>exact ⟨(wrap64 (i8+1)),sd,H',⟨by have:=l7.out;omega⟩,⟨mvB Q3.out⟩,⟨mvW HB.out⟩⟩
      ·(have H':=Aside0.mk H);(clear H);(have Z18:=b2 Q3);(have ab5:0≤(i8:Int):=od);(have ab6:i8 < (e6.length:Int):=od);(obtain ⟨ad235,e235,U3⟩:=Kd.at_int N2.out i8 ab5 ab6);(cases e235);(replace U3:=ct HB U3);(replace ab5:=eq_true ab5);(replace ab6:=eq_true ab6);(go_wp2);(repeat (go_quiet (fail);try go_wp2));(go_roundg k1)
       case measure=>have:=l7.out;omega
       case rel=>exact ⟨(wrap64 (i8+1)),sd,H',⟨by have:=l7.out;omega⟩,⟨mvB Q3.out⟩,⟨mvW HB.out⟩⟩
    ·(obtain rfl:=Option.some.inj H);(have Z19:=b2 Q3);(go_wp2);(repeat (go_quiet (fail);try go_wp2));(go_ret);(exact ⟨rv,mvW HB.out⟩)

/-! ### lockkeeperref11_worth: function 94 -/
def lockkeeperref11_worth.l0:Nat→ByteArray→Int→Int→Option (Int)
 |0,_,_,_=>none
 |k+1,x0,x3,x4=>if x4 < (x0.size:Int) then (if 0≤x4 then (lockkeeperref11_worth.l0 k x0 (IntKind.u64.wrap ((IntKind.u64.wrap (256 * x3))+(IntKind.u64.wrap (bt x0 x4)))) (wrap64 (x4+1))) else (none)) else (some x3)
def lockkeeperref11_worth.f (k:Nat) (a0:ByteArray):Option (Int):=lockkeeperref11_worth.l0 k a0 0 0
set_option maxHeartbeats 8000000 in
set_option maxRecDepth 100000 in
theorem lockkeeperref11_worth.calls (k:Nat) (a0:ByteArray) (r:Int) (w:World) (h:lockkeeperref11_worth.f k a0=some r):
  Calls Tryz.prog 94 #[.string a0] w fun e w'=>e=.returned (.int .u64 r)∧Drawn0 w w':=by
 (unfold lockkeeperref11_worth.f at h);(have H:=h);(clear h);(have H':=Aside0.mk H);(clear H);(go_enter Tryz.func94,Tryz.ntmps94);(go_wp2);(go_loopg [3,4] k (fun kq v3 v4 w'=>∃ (i8:Int) (Q4:Int),v3=.int .u64 i8∧v4=.int .i64 Q4∧Aside0 (lockkeeperref11_worth.l0 kq a0 i8 Q4=some r)∧Aside0 (kq≤k)∧Drawn0 w w'))
 case atStart=>exact ⟨(0),(0),sd,sd,H',⟨Nat.le_refl _⟩,by repeat (first|exact Drawn0.refl _ |apply Drawn0.step)⟩
 case round=>
  (clear H');(obtain ⟨i8,Q4,rfl,rfl,HA,l7,⟨m1,rfl⟩⟩:=hrel)
  cases gk with
  |zero=>exact absurd HA.out (by simp [lockkeeperref11_worth.l0])
  |succ k1=>
   (have H:=HA.out);(clear HA);(simp only [lockkeeperref11_worth.l0] at H);(replace H:=sp H);(rcases H with ⟨X3,H⟩|⟨X3,H⟩)
   ·(replace H:=gd H);(obtain ⟨N6,H⟩:=H);(have H':=Aside0.mk H);(clear H);(have p4:0≤(Q4:Int):=od);(have q4:Q4 < (a0.size:Int):=od);(have hx4:=bt_at a0 Q4);(replace p4:=eq_true p4);(replace q4:=eq_true q4);(go_wp2);(go_roundg k1)
    case measure=>have:=l7.out;omega
    case rel=>exact ⟨(IntKind.u64.wrap ((IntKind.u64.wrap (256 * i8))+(IntKind.u64.wrap (bt a0 Q4)))),(wrap64 (Q4+1)),sd,sd,H',⟨by have:=l7.out;omega⟩,by repeat (first|exact Drawn0.refl _ |apply Drawn0.step)⟩
   ·(obtain rfl:=Option.some.inj H);(go_wp2);(go_ret);(exact ⟨by first|rfl|(simp;done)|(simp [*];done),by repeat (first|exact Drawn0.refl _ |apply Drawn0.step)⟩)

end Go.Proofs.YtmfaopjfdedheaaGreat.F
