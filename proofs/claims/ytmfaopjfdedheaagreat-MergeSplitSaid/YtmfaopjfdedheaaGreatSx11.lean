-- PRINTED by print.py (a twelfth state) out of the translation. Not trusted: Lean checks it.
import Derived.Test.YtmfaopjfdedheaaGreatSq
import Derived.Test.YtmfaopjfdedheaaGreatSh
import Derived.Test.YtmfaopjfdedheaaGreatMv
import Derived.Test.YtmfaopjfdedheaaGreatSx0
import Derived.Test.YtmfaopjfdedheaaGreatSx5
import Derived.Test.YtmfaopjfdedheaaGreatSx6
import Derived.Test.YtmfaopjfdedheaaGreatSx8
import Derived.Test.YtmfaopjfdedheaaGreatSx9
import Derived.Test.YtmfaopjfdedheaaGreatSx10
namespace Go.Proofs.YtmfaopjfdedheaaGreat.S
open Go.RowKit Go.Proofs.YtmfaopjfdedheaaGreatW Go.Proofs.YtmfaopjfdedheaaGreatW.PrintWords Go.Proofs.YtmfaopjfdedheaaGreatW.PrintLast Go.Proofs.YtmfaopjfdedheaaGreatW.PrintMore
attribute [local go_sem] GpMore.bytes_le max2_int min2_int max_two min_two max_three min_three max_four min_four   -- for this text's walks alone
set_option linter.unusedVariables false
set_option linter.unusedSimpArgs false

/-! ### lockkeeperlaw16_head: function 8 -/
def lockkeeperlaw16_head.f (k:Nat):Option Bool:=if 40≤k then some true else none
theorem lockkeeperlaw16_head_c1 {W:World} {g:Nat} {x y:ByteArray} (h:W.heap[g]? =some (.cells #[.string x,.string y] 42 (0,0))):Kd.C k42 W (some ⟨g,0,none⟩) ([(⟨x,y⟩:S42)]:List S42).length [⟨x,y⟩]:=by
 refine ⟨rfl,by simp,fun _=>⟨_,rfl,fun j p hj=>?_⟩⟩
 match j,hj with
 |0,hj=>
  obtain rfl:=Option.some.inj hj
  refine ⟨[.string x,.string y],rfl,k42_mk W _,fun i u hu=>?_⟩
  match i,hu with
  |0,hu=>obtain rfl:=Option.some.inj hu;exact (blk_cell h 0).trans rfl
  |1,hu=>obtain rfl:=Option.some.inj hu;exact (blk_cell h 1).trans rfl
theorem lockkeeperlaw16_head_c2 {W:World} {g:Nat} {x y x' y':ByteArray} (h:W.heap[g]? =some (.cells #[.string x,.string y,.string x',.string y'] 42 (0,0))):Kd.C k42 W (some ⟨g,0,none⟩) ([(⟨x,y⟩:S42),⟨x',y'⟩]:List S42).length [⟨x,y⟩,⟨x',y'⟩]:=by
 refine ⟨rfl,by simp,fun _=>⟨_,rfl,fun j p hj=>?_⟩⟩
 match j,hj with
 |0,hj=>
  obtain rfl:=Option.some.inj hj
  refine ⟨[.string x,.string y],rfl,k42_mk W _,fun i u hu=>?_⟩
  match i,hu with
  |0,hu=>obtain rfl:=Option.some.inj hu;exact (blk_cell h 0).trans rfl
  |1,hu=>obtain rfl:=Option.some.inj hu;exact (blk_cell h 1).trans rfl
 |1,hj=>
  obtain rfl:=Option.some.inj hj
  refine ⟨[.string x',.string y'],rfl,k42_mk W _,fun i u hu=>?_⟩
  match i,hu with
  |0,hu=>obtain rfl:=Option.some.inj hu;exact (blk_cell h 2).trans rfl
  |1,hu=>obtain rfl:=Option.some.inj hu;exact (blk_cell h 3).trans rfl
theorem lockkeeperlaw16_head_new (W:World) (o:Obj) (g:Nat) (h:g=W.heap.size):(W.alloc o).heap[g]? =some o:=h ▸ blk_new W o
theorem lockkeeperlaw16_head_known:∃ s1 s2:ByteArray,page_Kid.f 40 1=some (s1,0)∧page_Kid.f 40 2=some (s2,0)∧merge_Unpost.f 40 3 0 1 (⟨#[]⟩:ByteArray) (⟨#[]⟩:ByteArray) false 0 0 ([]:List Int) [(⟨(⟨#[]⟩:ByteArray),s1⟩:S42),(⟨(⟨#[98]⟩:ByteArray),s2⟩:S42)] 2 0 0 (⟨#[98]⟩:ByteArray) (⟨#[]⟩:ByteArray) false 0 5 ([]:List Int) [(⟨(⟨#[99]⟩:ByteArray),(⟨#[50]⟩:ByteArray)⟩:S42)] 7=some (3,0,1,(⟨#[]⟩:ByteArray),(⟨#[]⟩:ByteArray),false,7,0,([]:List Int),[(⟨(⟨#[]⟩:ByteArray),s1⟩:S42)],0)∧merge_Unpost.f 40 3 0 1 (⟨#[]⟩:ByteArray) (⟨#[]⟩:ByteArray) false 0 0 ([]:List Int) [(⟨(⟨#[]⟩:ByteArray),s1⟩:S42),(⟨(⟨#[98]⟩:ByteArray),s2⟩:S42)] 1 2 0 (⟨#[]⟩:ByteArray) (⟨#[98]⟩:ByteArray) true 0 0 ([]:List Int) [(⟨(⟨#[97]⟩:ByteArray),(⟨#[49]⟩:ByteArray)⟩:S42)] 7=some (0,0,0,(⟨#[]⟩:ByteArray),(⟨#[]⟩:ByteArray),false,0,0,([]:List Int),([]:List S42),9):=
 ⟨strOfNums [0,0,0,0,0,0,0,1],strOfNums [0,0,0,0,0,0,0,2],by kernel_rfl,by kernel_rfl,by kernel_rfl,by kernel_rfl⟩
set_option maxHeartbeats 8000000 in
set_option maxRecDepth 100000 in
theorem lockkeeperlaw16_head.calls (k:Nat) (r:Bool) (w:World) (h:lockkeeperlaw16_head.f k=some r):
  Calls Tryz.prog 8 #[] w fun e w'=>e=.returned (.bool r)∧Below w.heap.size w w':=by
 have hr:r=true:=by
  unfold lockkeeperlaw16_head.f at h
  by_cases hk:40≤k
  ·rw [if_pos hk] at h;exact (Option.some.inj h).symm
  ·rw [if_neg hk] at h;cases h
 subst hr
 clear h
 obtain ⟨s1,s2,hK1,hK2,hU1,hU2⟩:=lockkeeperlaw16_head_known
 have K1:=Aside0.mk hK1;have K2:=Aside0.mk hK2;have Q1:=Aside0.mk hU1;have Q2:=Aside0.mk hU2
 clear hK1 hK2 hU1 hU2
 have hu42:=Tryz.underlying42;have hu28:=Tryz.underlying28;have hu25:=Tryz.underlying25
 have HB:=Aside0.mk (Below.refl w.heap.size w)
 go_enter Tryz.func8,Tryz.ntmps8
 go_upto_region 2 with (fail)
 obtain ⟨W2,hW2⟩:∃ W_,W_=((w.alloc (.cells #[.string (⟨#[97]⟩:ByteArray),.string (⟨#[49]⟩:ByteArray)] 42)).alloc (.cells #[.int .u64 1,.int .u64 2,.int .u8 0,.string (⟨#[]⟩:ByteArray),.string (⟨#[98]⟩:ByteArray),.bool true,.int .u64 0,.int .u64 0,.slice none 0 0,.slice (some ⟨w.heap.size,0,none⟩) 1 1] 28)):=⟨_,rfl⟩
 rw [← hW2]
 have A:Aside0 (W2.heap[w.heap.size]? =some (.cells #[.string (⟨#[97]⟩:ByteArray),.string (⟨#[49]⟩:ByteArray)] 42 (0,0))):=⟨by rw [hW2];exact mvB (lockkeeperlaw16_head_new w _ _ (by simp only [World.size_alloc]))⟩
 have KA:Aside0 (W2.heap[w.heap.size+1]? =some (.cells #[.int .u64 1,.int .u64 2,.int .u8 0,.string (⟨#[]⟩:ByteArray),.string (⟨#[98]⟩:ByteArray),.bool true,.int .u64 0,.int .u64 0,.slice none 0 0,.slice (some ⟨w.heap.size,0,none⟩) 1 1] 28 (0,0))):=⟨by rw [hW2];exact mvB (lockkeeperlaw16_head_new (w.alloc (.cells #[.string (⟨#[97]⟩:ByteArray),.string (⟨#[49]⟩:ByteArray)] 42)) _ _ (by simp only [World.size_alloc]))⟩
 replace HB:Aside0 (Below w.heap.size w W2):=⟨by rw [hW2];exact mvW HB.out⟩
 clear hW2
 go_upto_region 3 with (fail)
 obtain ⟨W3,hW3⟩:∃ W_,W_=((W2.alloc (.cells #[.string (⟨#[99]⟩:ByteArray),.string (⟨#[50]⟩:ByteArray)] 42)).alloc (.cells #[.int .u64 2,.int .u64 0,.int .u8 0,.string (⟨#[98]⟩:ByteArray),.string (⟨#[]⟩:ByteArray),.bool false,.int .u64 0,.int .u64 5,.slice none 0 0,.slice (some ⟨W2.heap.size,0,none⟩) 1 1] 28)):=⟨_,rfl⟩
 rw [← hW3]
 replace A:Aside0 (W3.heap[w.heap.size]? =some (.cells #[.string (⟨#[97]⟩:ByteArray),.string (⟨#[49]⟩:ByteArray)] 42 (0,0))):=⟨by rw [hW3];exact mvB A.out⟩
 replace KA:Aside0 (W3.heap[w.heap.size+1]? =some (.cells #[.int .u64 1,.int .u64 2,.int .u8 0,.string (⟨#[]⟩:ByteArray),.string (⟨#[98]⟩:ByteArray),.bool true,.int .u64 0,.int .u64 0,.slice none 0 0,.slice (some ⟨w.heap.size,0,none⟩) 1 1] 28 (0,0))):=⟨by rw [hW3];exact mvB KA.out⟩
 have B:Aside0 (W3.heap[W2.heap.size]? =some (.cells #[.string (⟨#[99]⟩:ByteArray),.string (⟨#[50]⟩:ByteArray)] 42 (0,0))):=⟨by rw [hW3];exact mvB (lockkeeperlaw16_head_new W2 _ _ (by simp only [World.size_alloc]))⟩
 have KB:Aside0 (W3.heap[W2.heap.size+1]? =some (.cells #[.int .u64 2,.int .u64 0,.int .u8 0,.string (⟨#[98]⟩:ByteArray),.string (⟨#[]⟩:ByteArray),.bool false,.int .u64 0,.int .u64 5,.slice none 0 0,.slice (some ⟨W2.heap.size,0,none⟩) 1 1] 28 (0,0))):=⟨by rw [hW3];exact mvB (lockkeeperlaw16_head_new (W2.alloc (.cells #[.string (⟨#[99]⟩:ByteArray),.string (⟨#[50]⟩:ByteArray)] 42)) _ _ (by simp only [World.size_alloc]))⟩
 replace HB:Aside0 (Below w.heap.size w W3):=⟨by rw [hW3];exact mvW HB.out⟩
 clear hW3
 (obtain ⟨_,_,_,_,_,_,_,_,_,_⟩:=bc10 KA.out)
 (obtain ⟨_,_,_,_,_,_,_,_,_,_⟩:=bc10 KB.out)
 go_upto_region 4 with ((with_reducible refine gate_callee (f:=10) rfl ?_);refine goesL_ (some 26) rfl rfl Tryz.func10 (by kernel_rfl) rfl #[.agg #[.int .u64 1,.int .u64 2,.int .u8 0,.string (⟨#[]⟩:ByteArray),.string (⟨#[98]⟩:ByteArray),.bool true,.int .u64 0,.int .u64 0,.slice none 0 0,.slice (some ⟨w.heap.size,0,none⟩) 1 1],.agg #[.int .u64 2,.int .u64 0,.int .u8 0,.string (⟨#[98]⟩:ByteArray),.string (⟨#[]⟩:ByteArray),.bool false,.int .u64 0,.int .u64 5,.slice none 0 0,.slice (some ⟨W2.heap.size,0,none⟩) 1 1],.int .u64 4,.int .u64 9] rfl (by (try simp only [List.map_toArray,List.map_cons,List.map_nil]);first|done|rfl) ?_;(refine (merge_Join.calls 40 1 2 0 (⟨#[]⟩:ByteArray) (⟨#[98]⟩:ByteArray) true 0 0 none 0 ([]:List Int) (some ⟨w.heap.size,0,none⟩) 1 [(⟨(⟨#[97]⟩:ByteArray),(⟨#[49]⟩:ByteArray)⟩:S42)] 2 0 0 (⟨#[98]⟩:ByteArray) (⟨#[]⟩:ByteArray) false 0 5 none 0 ([]:List Int) (some ⟨W2.heap.size,0,none⟩) 1 [(⟨(⟨#[99]⟩:ByteArray),(⟨#[50]⟩:ByteArray)⟩:S42)] 4 9 0 0 0 (⟨#[]⟩:ByteArray) (⟨#[]⟩:ByteArray) false 0 0 ([]:List Int) ([]:List S42) 9 _ (Kd.C_nil _ _) (Nat.le_refl _) (lockkeeperlaw16_head_c1 A.out) (Nat.le_refl _) (Kd.C_nil _ _) (Nat.le_refl _) (lockkeeperlaw16_head_c1 B.out) (Nat.le_refl _) (by kernel_rfl)).mono ?_);rintro e j1 ⟨v8,v9,rfl,h8,h9,hb⟩;(refine ⟨_,rfl,?_⟩);obtain ⟨Aj,cj,e8⟩:=Kd.R_slice h8;obtain ⟨Bj,dj,e9⟩:=Kd.R_slice h9;clear h8 h9;replace e8:v8=.slice Aj 0 cj:=e8;replace e9:v9=.slice Bj 0 dj:=e9;subst e8 e9;replace A:=Aside0.mk (blk_below A.out hb);replace KA:=Aside0.mk (blk_below KA.out hb);replace B:=Aside0.mk (blk_below B.out hb);replace KB:=Aside0.mk (blk_below KB.out hb);replace HB:=Aside0.mk (below_step HB.out hb);clear hb)
 obtain ⟨W4,hW4⟩:∃ W_,W_=(j1.alloc (.cells #[.int .u64 0,.int .u64 0,.int .u8 0,.string (⟨#[]⟩:ByteArray),.string (⟨#[]⟩:ByteArray),.bool false,.int .u64 0,.int .u64 0,.slice Aj 0 cj,.slice Bj 0 dj] 28)):=⟨_,rfl⟩
 rw [← hW4]
 replace A:Aside0 (W4.heap[w.heap.size]? =some (.cells #[.string (⟨#[97]⟩:ByteArray),.string (⟨#[49]⟩:ByteArray)] 42 (0,0))):=⟨by rw [hW4];exact mvB A.out⟩
 replace KA:Aside0 (W4.heap[w.heap.size+1]? =some (.cells #[.int .u64 1,.int .u64 2,.int .u8 0,.string (⟨#[]⟩:ByteArray),.string (⟨#[98]⟩:ByteArray),.bool true,.int .u64 0,.int .u64 0,.slice none 0 0,.slice (some ⟨w.heap.size,0,none⟩) 1 1] 28 (0,0))):=⟨by rw [hW4];exact mvB KA.out⟩
 replace B:Aside0 (W4.heap[W2.heap.size]? =some (.cells #[.string (⟨#[99]⟩:ByteArray),.string (⟨#[50]⟩:ByteArray)] 42 (0,0))):=⟨by rw [hW4];exact mvB B.out⟩
 replace KB:Aside0 (W4.heap[W2.heap.size+1]? =some (.cells #[.int .u64 2,.int .u64 0,.int .u8 0,.string (⟨#[98]⟩:ByteArray),.string (⟨#[]⟩:ByteArray),.bool false,.int .u64 0,.int .u64 5,.slice none 0 0,.slice (some ⟨W2.heap.size,0,none⟩) 1 1] 28 (0,0))):=⟨by rw [hW4];exact mvB KB.out⟩
 replace HB:Aside0 (Below w.heap.size w W4):=⟨by rw [hW4];exact mvW HB.out⟩
 clear hW4
 (obtain ⟨_,_,_,_,_,_,_,_,_,_⟩:=bc10 KA.out)
 (obtain ⟨_,_,_,_,_,_,_,_,_,_⟩:=bc10 KB.out)
 go_upto_region 5 with ((with_reducible refine gate_callee (f:=10) rfl ?_);refine goesL_ (some 32) rfl rfl Tryz.func10 (by kernel_rfl) rfl #[.agg #[.int .u64 1,.int .u64 2,.int .u8 0,.string (⟨#[]⟩:ByteArray),.string (⟨#[98]⟩:ByteArray),.bool true,.int .u64 0,.int .u64 0,.slice none 0 0,.slice (some ⟨w.heap.size,0,none⟩) 1 1],.agg #[.int .u64 2,.int .u64 0,.int .u8 0,.string (⟨#[98]⟩:ByteArray),.string (⟨#[]⟩:ByteArray),.bool false,.int .u64 0,.int .u64 5,.slice none 0 0,.slice (some ⟨W2.heap.size,0,none⟩) 1 1],.int .u64 5,.int .u64 9] rfl (by (try simp only [List.map_toArray,List.map_cons,List.map_nil]);first|done|rfl) ?_;(refine (merge_Join.calls 40 1 2 0 (⟨#[]⟩:ByteArray) (⟨#[98]⟩:ByteArray) true 0 0 none 0 ([]:List Int) (some ⟨w.heap.size,0,none⟩) 1 [(⟨(⟨#[97]⟩:ByteArray),(⟨#[49]⟩:ByteArray)⟩:S42)] 2 0 0 (⟨#[98]⟩:ByteArray) (⟨#[]⟩:ByteArray) false 0 5 none 0 ([]:List Int) (some ⟨W2.heap.size,0,none⟩) 1 [(⟨(⟨#[99]⟩:ByteArray),(⟨#[50]⟩:ByteArray)⟩:S42)] 5 9 1 0 0 (⟨#[]⟩:ByteArray) (⟨#[]⟩:ByteArray) false 9 5 ([]:List Int) [(⟨(⟨#[97]⟩:ByteArray),(⟨#[49]⟩:ByteArray)⟩:S42),(⟨(⟨#[99]⟩:ByteArray),(⟨#[50]⟩:ByteArray)⟩:S42)] 0 _ (Kd.C_nil _ _) (Nat.le_refl _) (lockkeeperlaw16_head_c1 A.out) (Nat.le_refl _) (Kd.C_nil _ _) (Nat.le_refl _) (lockkeeperlaw16_head_c1 B.out) (Nat.le_refl _) (by kernel_rfl)).mono ?_);rintro e j2 ⟨v8,v9,rfl,h8,h9,hb⟩;(refine ⟨_,rfl,?_⟩);obtain ⟨Ap,cp,e8⟩:=Kd.R_slice h8;obtain ⟨Bp,dp,e9⟩:=Kd.R_slice h9;clear h8 h9;replace e8:v8=.slice Ap 0 cp:=e8;replace e9:v9=.slice Bp 2 dp:=e9;subst e8 e9;replace A:=Aside0.mk (blk_below A.out hb);replace KA:=Aside0.mk (blk_below KA.out hb);replace B:=Aside0.mk (blk_below B.out hb);replace KB:=Aside0.mk (blk_below KB.out hb);replace HB:=Aside0.mk (below_step HB.out hb);clear hb)
 obtain ⟨W5,hW5⟩:∃ W_,W_=(j2.alloc (.cells #[.int .u64 1,.int .u64 0,.int .u8 0,.string (⟨#[]⟩:ByteArray),.string (⟨#[]⟩:ByteArray),.bool false,.int .u64 9,.int .u64 5,.slice Ap 0 cp,.slice Bp 2 dp] 28)):=⟨_,rfl⟩
 rw [← hW5]
 replace A:Aside0 (W5.heap[w.heap.size]? =some (.cells #[.string (⟨#[97]⟩:ByteArray),.string (⟨#[49]⟩:ByteArray)] 42 (0,0))):=⟨by rw [hW5];exact mvB A.out⟩
 replace KA:Aside0 (W5.heap[w.heap.size+1]? =some (.cells #[.int .u64 1,.int .u64 2,.int .u8 0,.string (⟨#[]⟩:ByteArray),.string (⟨#[98]⟩:ByteArray),.bool true,.int .u64 0,.int .u64 0,.slice none 0 0,.slice (some ⟨w.heap.size,0,none⟩) 1 1] 28 (0,0))):=⟨by rw [hW5];exact mvB KA.out⟩
 replace B:Aside0 (W5.heap[W2.heap.size]? =some (.cells #[.string (⟨#[99]⟩:ByteArray),.string (⟨#[50]⟩:ByteArray)] 42 (0,0))):=⟨by rw [hW5];exact mvB B.out⟩
 replace KB:Aside0 (W5.heap[W2.heap.size+1]? =some (.cells #[.int .u64 2,.int .u64 0,.int .u8 0,.string (⟨#[98]⟩:ByteArray),.string (⟨#[]⟩:ByteArray),.bool false,.int .u64 0,.int .u64 5,.slice none 0 0,.slice (some ⟨W2.heap.size,0,none⟩) 1 1] 28 (0,0))):=⟨by rw [hW5];exact mvB KB.out⟩
 have P:Aside0 (W5.heap[j2.heap.size]? =some (.cells #[.int .u64 1,.int .u64 0,.int .u8 0,.string (⟨#[]⟩:ByteArray),.string (⟨#[]⟩:ByteArray),.bool false,.int .u64 9,.int .u64 5,.slice Ap 0 cp,.slice Bp 2 dp] 28 (0,0))):=⟨by rw [hW5];exact mvB (lockkeeperlaw16_head_new j2 _ _ (by simp only [World.size_alloc]))⟩
 replace HB:Aside0 (Below w.heap.size w W5):=⟨by rw [hW5];exact mvW HB.out⟩
 clear hW5
 go_upto_region 7 with (first|((with_reducible refine gate_callee (f:=33) rfl ?_);refine goesL_ (some 36) rfl rfl Tryz.func33 (by kernel_rfl) rfl #[.int .u64 1] rfl (by (try simp only [List.map_toArray,List.map_cons,List.map_nil]);first|done|rfl) ?_;(refine (page_Kid.calls 40 1 s1 0 _ K1.out).mono ?_);rintro e k1 ⟨rfl,hb⟩;(refine ⟨_,rfl,?_⟩);replace A:=Aside0.mk (blk_below A.out hb);replace KA:=Aside0.mk (blk_below KA.out hb);replace B:=Aside0.mk (blk_below B.out hb);replace KB:=Aside0.mk (blk_below KB.out hb);replace P:=Aside0.mk (blk_below P.out hb);replace HB:=Aside0.mk (below_step HB.out hb);clear hb)|((with_reducible refine gate_callee (f:=33) rfl ?_);refine goesL_ (some 40) rfl rfl Tryz.func33 (by kernel_rfl) rfl #[.int .u64 2] rfl (by (try simp only [List.map_toArray,List.map_cons,List.map_nil]);first|done|rfl) ?_;(refine (page_Kid.calls 40 2 s2 0 _ K2.out).mono ?_);rintro e k2 ⟨rfl,hb⟩;(refine ⟨_,rfl,?_⟩);replace A:=Aside0.mk (blk_below A.out hb);replace KA:=Aside0.mk (blk_below KA.out hb);replace B:=Aside0.mk (blk_below B.out hb);replace KB:=Aside0.mk (blk_below KB.out hb);replace P:=Aside0.mk (blk_below P.out hb);replace HB:=Aside0.mk (below_step HB.out hb);clear hb))
 go_upto_region 8 with (fail)
 obtain ⟨W6,hW6⟩:∃ W_,W_=((k2.alloc (.cells #[.string (⟨#[]⟩:ByteArray),.string s1,.string (⟨#[98]⟩:ByteArray),.string s2] 42)).alloc (.cells #[.int .u64 3,.int .u64 0,.int .u8 1,.string (⟨#[]⟩:ByteArray),.string (⟨#[]⟩:ByteArray),.bool false,.int .u64 0,.int .u64 0,.slice none 0 0,.slice (some ⟨k2.heap.size,0,none⟩) 2 2] 28)):=⟨_,rfl⟩
 rw [← hW6]
 replace A:Aside0 (W6.heap[w.heap.size]? =some (.cells #[.string (⟨#[97]⟩:ByteArray),.string (⟨#[49]⟩:ByteArray)] 42 (0,0))):=⟨by rw [hW6];exact mvB A.out⟩
 replace KA:Aside0 (W6.heap[w.heap.size+1]? =some (.cells #[.int .u64 1,.int .u64 2,.int .u8 0,.string (⟨#[]⟩:ByteArray),.string (⟨#[98]⟩:ByteArray),.bool true,.int .u64 0,.int .u64 0,.slice none 0 0,.slice (some ⟨w.heap.size,0,none⟩) 1 1] 28 (0,0))):=⟨by rw [hW6];exact mvB KA.out⟩
 replace B:Aside0 (W6.heap[W2.heap.size]? =some (.cells #[.string (⟨#[99]⟩:ByteArray),.string (⟨#[50]⟩:ByteArray)] 42 (0,0))):=⟨by rw [hW6];exact mvB B.out⟩
 replace KB:Aside0 (W6.heap[W2.heap.size+1]? =some (.cells #[.int .u64 2,.int .u64 0,.int .u8 0,.string (⟨#[98]⟩:ByteArray),.string (⟨#[]⟩:ByteArray),.bool false,.int .u64 0,.int .u64 5,.slice none 0 0,.slice (some ⟨W2.heap.size,0,none⟩) 1 1] 28 (0,0))):=⟨by rw [hW6];exact mvB KB.out⟩
 replace P:Aside0 (W6.heap[j2.heap.size]? =some (.cells #[.int .u64 1,.int .u64 0,.int .u8 0,.string (⟨#[]⟩:ByteArray),.string (⟨#[]⟩:ByteArray),.bool false,.int .u64 9,.int .u64 5,.slice Ap 0 cp,.slice Bp 2 dp] 28 (0,0))):=⟨by rw [hW6];exact mvB P.out⟩
 have U:Aside0 (W6.heap[k2.heap.size]? =some (.cells #[.string (⟨#[]⟩:ByteArray),.string s1,.string (⟨#[98]⟩:ByteArray),.string s2] 42 (0,0))):=⟨by rw [hW6];exact mvB (lockkeeperlaw16_head_new k2 _ _ (by simp only [World.size_alloc]))⟩
 have KU:Aside0 (W6.heap[k2.heap.size+1]? =some (.cells #[.int .u64 3,.int .u64 0,.int .u8 1,.string (⟨#[]⟩:ByteArray),.string (⟨#[]⟩:ByteArray),.bool false,.int .u64 0,.int .u64 0,.slice none 0 0,.slice (some ⟨k2.heap.size,0,none⟩) 2 2] 28 (0,0))):=⟨by rw [hW6];exact mvB (lockkeeperlaw16_head_new (k2.alloc (.cells #[.string (⟨#[]⟩:ByteArray),.string s1,.string (⟨#[98]⟩:ByteArray),.string s2] 42)) _ _ (by simp only [World.size_alloc]))⟩
 replace HB:Aside0 (Below w.heap.size w W6):=⟨by rw [hW6];exact mvW HB.out⟩
 clear hW6
 (obtain ⟨_,_,_,_,_,_,_,_,_,_⟩:=bc10 KU.out)
 (obtain ⟨_,_,_,_,_,_,_,_,_,_⟩:=bc10 KB.out)
 go_upto_region 9 with ((with_reducible refine gate_callee (f:=17) rfl ?_);refine goesL_ (some 52) rfl rfl Tryz.func17 (by kernel_rfl) rfl #[.agg #[.int .u64 3,.int .u64 0,.int .u8 1,.string (⟨#[]⟩:ByteArray),.string (⟨#[]⟩:ByteArray),.bool false,.int .u64 0,.int .u64 0,.slice none 0 0,.slice (some ⟨k2.heap.size,0,none⟩) 2 2],.agg #[.int .u64 2,.int .u64 0,.int .u8 0,.string (⟨#[98]⟩:ByteArray),.string (⟨#[]⟩:ByteArray),.bool false,.int .u64 0,.int .u64 5,.slice none 0 0,.slice (some ⟨W2.heap.size,0,none⟩) 1 1],.int .u64 7] rfl (by (try simp only [List.map_toArray,List.map_cons,List.map_nil]);first|done|rfl) ?_;(refine (merge_Unpost.calls 40 3 0 1 (⟨#[]⟩:ByteArray) (⟨#[]⟩:ByteArray) false 0 0 (fun _=>False) none 0 ([]:List Int) (some ⟨k2.heap.size,0,none⟩) 2 [(⟨(⟨#[]⟩:ByteArray),s1⟩:S42),(⟨(⟨#[98]⟩:ByteArray),s2⟩:S42)] 2 0 0 (⟨#[98]⟩:ByteArray) (⟨#[]⟩:ByteArray) false 0 5 none 0 ([]:List Int) (some ⟨W2.heap.size,0,none⟩) 1 [(⟨(⟨#[99]⟩:ByteArray),(⟨#[50]⟩:ByteArray)⟩:S42)] 7 3 0 1 (⟨#[]⟩:ByteArray) (⟨#[]⟩:ByteArray) false 7 0 ([]:List Int) [(⟨(⟨#[]⟩:ByteArray),s1⟩:S42)] 0 _ (Kd.V_nil _ _ _ _ _) (lockkeeperlaw16_head_c2 U.out) (Nat.le_refl _) (Kd.C_nil _ _) (Nat.le_refl _) (lockkeeperlaw16_head_c1 B.out) (Nat.le_refl _) Q1.out).mono ?_);rintro e u1 ⟨v8,v9,rfl,h8,h9,hb⟩;(refine ⟨_,rfl,?_⟩);obtain ⟨Aq,cq,e8,_⟩:=h8;obtain ⟨Bq,dq,e9⟩:=Kd.R_slice h9;clear h9;replace e8:v8=.slice Aq 0 cq:=e8;replace e9:v9=.slice Bq 1 dq:=e9;subst e8 e9;replace A:=Aside0.mk (blk_below A.out hb);replace KA:=Aside0.mk (blk_below KA.out hb);replace B:=Aside0.mk (blk_below B.out hb);replace KB:=Aside0.mk (blk_below KB.out hb);replace P:=Aside0.mk (blk_below P.out hb);replace U:=Aside0.mk (blk_below U.out hb);replace KU:=Aside0.mk (blk_below KU.out hb);replace HB:=Aside0.mk (below_step HB.out hb);clear hb)
 obtain ⟨W7,hW7⟩:∃ W_,W_=(u1.alloc (.cells #[.int .u64 3,.int .u64 0,.int .u8 1,.string (⟨#[]⟩:ByteArray),.string (⟨#[]⟩:ByteArray),.bool false,.int .u64 7,.int .u64 0,.slice Aq 0 cq,.slice Bq 1 dq] 28)):=⟨_,rfl⟩
 rw [← hW7]
 replace A:Aside0 (W7.heap[w.heap.size]? =some (.cells #[.string (⟨#[97]⟩:ByteArray),.string (⟨#[49]⟩:ByteArray)] 42 (0,0))):=⟨by rw [hW7];exact mvB A.out⟩
 replace KA:Aside0 (W7.heap[w.heap.size+1]? =some (.cells #[.int .u64 1,.int .u64 2,.int .u8 0,.string (⟨#[]⟩:ByteArray),.string (⟨#[98]⟩:ByteArray),.bool true,.int .u64 0,.int .u64 0,.slice none 0 0,.slice (some ⟨w.heap.size,0,none⟩) 1 1] 28 (0,0))):=⟨by rw [hW7];exact mvB KA.out⟩
 replace B:Aside0 (W7.heap[W2.heap.size]? =some (.cells #[.string (⟨#[99]⟩:ByteArray),.string (⟨#[50]⟩:ByteArray)] 42 (0,0))):=⟨by rw [hW7];exact mvB B.out⟩
 replace KB:Aside0 (W7.heap[W2.heap.size+1]? =some (.cells #[.int .u64 2,.int .u64 0,.int .u8 0,.string (⟨#[98]⟩:ByteArray),.string (⟨#[]⟩:ByteArray),.bool false,.int .u64 0,.int .u64 5,.slice none 0 0,.slice (some ⟨W2.heap.size,0,none⟩) 1 1] 28 (0,0))):=⟨by rw [hW7];exact mvB KB.out⟩
 replace P:Aside0 (W7.heap[j2.heap.size]? =some (.cells #[.int .u64 1,.int .u64 0,.int .u8 0,.string (⟨#[]⟩:ByteArray),.string (⟨#[]⟩:ByteArray),.bool false,.int .u64 9,.int .u64 5,.slice Ap 0 cp,.slice Bp 2 dp] 28 (0,0))):=⟨by rw [hW7];exact mvB P.out⟩
 replace U:Aside0 (W7.heap[k2.heap.size]? =some (.cells #[.string (⟨#[]⟩:ByteArray),.string s1,.string (⟨#[98]⟩:ByteArray),.string s2] 42 (0,0))):=⟨by rw [hW7];exact mvB U.out⟩
 replace KU:Aside0 (W7.heap[k2.heap.size+1]? =some (.cells #[.int .u64 3,.int .u64 0,.int .u8 1,.string (⟨#[]⟩:ByteArray),.string (⟨#[]⟩:ByteArray),.bool false,.int .u64 0,.int .u64 0,.slice none 0 0,.slice (some ⟨k2.heap.size,0,none⟩) 2 2] 28 (0,0))):=⟨by rw [hW7];exact mvB KU.out⟩
 have Q:Aside0 (W7.heap[u1.heap.size]? =some (.cells #[.int .u64 3,.int .u64 0,.int .u8 1,.string (⟨#[]⟩:ByteArray),.string (⟨#[]⟩:ByteArray),.bool false,.int .u64 7,.int .u64 0,.slice Aq 0 cq,.slice Bq 1 dq] 28 (0,0))):=⟨by rw [hW7];exact mvB (lockkeeperlaw16_head_new u1 _ _ (by simp only [World.size_alloc]))⟩
 replace HB:Aside0 (Below w.heap.size w W7):=⟨by rw [hW7];exact mvW HB.out⟩
 clear hW7
 (obtain ⟨_,_,_,_,_,_,_,_,_,_⟩:=bc10 KU.out)
 (obtain ⟨_,_,_,_,_,_,_,_,_,_⟩:=bc10 KA.out)
 go_upto_region 10 with ((with_reducible refine gate_callee (f:=17) rfl ?_);refine goesL_ (some 58) rfl rfl Tryz.func17 (by kernel_rfl) rfl #[.agg #[.int .u64 3,.int .u64 0,.int .u8 1,.string (⟨#[]⟩:ByteArray),.string (⟨#[]⟩:ByteArray),.bool false,.int .u64 0,.int .u64 0,.slice none 0 0,.slice (some ⟨k2.heap.size,0,none⟩) 2 2],.agg #[.int .u64 1,.int .u64 2,.int .u8 0,.string (⟨#[]⟩:ByteArray),.string (⟨#[98]⟩:ByteArray),.bool true,.int .u64 0,.int .u64 0,.slice none 0 0,.slice (some ⟨w.heap.size,0,none⟩) 1 1],.int .u64 7] rfl (by (try simp only [List.map_toArray,List.map_cons,List.map_nil]);first|done|rfl) ?_;(refine (merge_Unpost.calls 40 3 0 1 (⟨#[]⟩:ByteArray) (⟨#[]⟩:ByteArray) false 0 0 (fun _=>False) none 0 ([]:List Int) (some ⟨k2.heap.size,0,none⟩) 2 [(⟨(⟨#[]⟩:ByteArray),s1⟩:S42),(⟨(⟨#[98]⟩:ByteArray),s2⟩:S42)] 1 2 0 (⟨#[]⟩:ByteArray) (⟨#[98]⟩:ByteArray) true 0 0 none 0 ([]:List Int) (some ⟨w.heap.size,0,none⟩) 1 [(⟨(⟨#[97]⟩:ByteArray),(⟨#[49]⟩:ByteArray)⟩:S42)] 7 0 0 0 (⟨#[]⟩:ByteArray) (⟨#[]⟩:ByteArray) false 0 0 ([]:List Int) ([]:List S42) 9 _ (Kd.V_nil _ _ _ _ _) (lockkeeperlaw16_head_c2 U.out) (Nat.le_refl _) (Kd.C_nil _ _) (Nat.le_refl _) (lockkeeperlaw16_head_c1 A.out) (Nat.le_refl _) Q2.out).mono ?_);rintro e u2 ⟨v8,v9,rfl,h8,h9,hb⟩;(refine ⟨_,rfl,?_⟩);obtain ⟨Ah,ch,e8,_⟩:=h8;obtain ⟨Bh,dh,e9⟩:=Kd.R_slice h9;clear h9;replace e8:v8=.slice Ah 0 ch:=e8;replace e9:v9=.slice Bh 0 dh:=e9;subst e8 e9;replace A:=Aside0.mk (blk_below A.out hb);replace KA:=Aside0.mk (blk_below KA.out hb);replace B:=Aside0.mk (blk_below B.out hb);replace KB:=Aside0.mk (blk_below KB.out hb);replace P:=Aside0.mk (blk_below P.out hb);replace U:=Aside0.mk (blk_below U.out hb);replace KU:=Aside0.mk (blk_below KU.out hb);replace Q:=Aside0.mk (blk_below Q.out hb);replace HB:=Aside0.mk (below_step HB.out hb);clear hb)
 obtain ⟨W8,hW8⟩:∃ W_,W_=(u2.alloc (.cells #[.int .u64 0,.int .u64 0,.int .u8 0,.string (⟨#[]⟩:ByteArray),.string (⟨#[]⟩:ByteArray),.bool false,.int .u64 0,.int .u64 0,.slice Ah 0 ch,.slice Bh 0 dh] 28)):=⟨_,rfl⟩
 rw [← hW8]
 replace A:Aside0 (W8.heap[w.heap.size]? =some (.cells #[.string (⟨#[97]⟩:ByteArray),.string (⟨#[49]⟩:ByteArray)] 42 (0,0))):=⟨by rw [hW8];exact mvB A.out⟩
 replace KA:Aside0 (W8.heap[w.heap.size+1]? =some (.cells #[.int .u64 1,.int .u64 2,.int .u8 0,.string (⟨#[]⟩:ByteArray),.string (⟨#[98]⟩:ByteArray),.bool true,.int .u64 0,.int .u64 0,.slice none 0 0,.slice (some ⟨w.heap.size,0,none⟩) 1 1] 28 (0,0))):=⟨by rw [hW8];exact mvB KA.out⟩
 replace B:Aside0 (W8.heap[W2.heap.size]? =some (.cells #[.string (⟨#[99]⟩:ByteArray),.string (⟨#[50]⟩:ByteArray)] 42 (0,0))):=⟨by rw [hW8];exact mvB B.out⟩
 replace KB:Aside0 (W8.heap[W2.heap.size+1]? =some (.cells #[.int .u64 2,.int .u64 0,.int .u8 0,.string (⟨#[98]⟩:ByteArray),.string (⟨#[]⟩:ByteArray),.bool false,.int .u64 0,.int .u64 5,.slice none 0 0,.slice (some ⟨W2.heap.size,0,none⟩) 1 1] 28 (0,0))):=⟨by rw [hW8];exact mvB KB.out⟩
 replace P:Aside0 (W8.heap[j2.heap.size]? =some (.cells #[.int .u64 1,.int .u64 0,.int .u8 0,.string (⟨#[]⟩:ByteArray),.string (⟨#[]⟩:ByteArray),.bool false,.int .u64 9,.int .u64 5,.slice Ap 0 cp,.slice Bp 2 dp] 28 (0,0))):=⟨by rw [hW8];exact mvB P.out⟩
 replace Q:Aside0 (W8.heap[u1.heap.size]? =some (.cells #[.int .u64 3,.int .u64 0,.int .u8 1,.string (⟨#[]⟩:ByteArray),.string (⟨#[]⟩:ByteArray),.bool false,.int .u64 7,.int .u64 0,.slice Aq 0 cq,.slice Bq 1 dq] 28 (0,0))):=⟨by rw [hW8];exact mvB Q.out⟩
 replace HB:Aside0 (Below w.heap.size w W8):=⟨by rw [hW8];exact mvW HB.out⟩
 clear hW8
 (obtain ⟨_,_,_,_,_,_,_,_,_,_⟩:=bc10 P.out)
 (obtain ⟨_,_,_,_,_,_,_,_,_,_⟩:=bc10 Q.out)
 (obtain ⟨_,_,_,_,_,_,_,_,_,_⟩:=bc10 KA.out)
 (obtain ⟨_,_,_,_,_,_,_,_,_,_⟩:=bc10 KB.out)
 go_wp2_with (first|((with_reducible refine gate_callee (f:=15) rfl ?_);(try (refine gate_guard (by rfl) ?_;dsimp only));refine goesL_ (some 121) rfl rfl Tryz.func15 (by kernel_rfl) rfl #[.agg #[.int .u64 1,.int .u64 2,.int .u8 0,.string (⟨#[]⟩:ByteArray),.string (⟨#[98]⟩:ByteArray),.bool true,.int .u64 0,.int .u64 0,.slice none 0 0,.slice (some ⟨w.heap.size,0,none⟩) 1 1],.agg #[.int .u64 2,.int .u64 0,.int .u8 0,.string (⟨#[98]⟩:ByteArray),.string (⟨#[]⟩:ByteArray),.bool false,.int .u64 0,.int .u64 5,.slice none 0 0,.slice (some ⟨W2.heap.size,0,none⟩) 1 1],.int .i64 12] rfl (by (try simp only [List.map_toArray,List.map_cons,List.map_nil]);first|done|rfl) ?_;(refine (merge_Under.calls 40 1 2 0 (⟨#[]⟩:ByteArray) (⟨#[98]⟩:ByteArray) true 0 0 none 0 ([]:List Int) (some ⟨w.heap.size,0,none⟩) 1 [(⟨(⟨#[97]⟩:ByteArray),(⟨#[49]⟩:ByteArray)⟩:S42)] 2 0 0 (⟨#[98]⟩:ByteArray) (⟨#[]⟩:ByteArray) false 0 5 none 0 ([]:List Int) (some ⟨W2.heap.size,0,none⟩) 1 [(⟨(⟨#[99]⟩:ByteArray),(⟨#[50]⟩:ByteArray)⟩:S42)] 12 true _ (Kd.C_nil _ _) (Nat.le_refl _) (lockkeeperlaw16_head_c1 A.out) (Nat.le_refl _) (Kd.C_nil _ _) (Nat.le_refl _) (lockkeeperlaw16_head_c1 B.out) (Nat.le_refl _) (by kernel_rfl)).mono ?_);rintro e b1 ⟨rfl,hb⟩;(refine ⟨_,rfl,?_⟩);replace A:=Aside0.mk (blk_below A.out hb);replace KA:=Aside0.mk (blk_below KA.out hb);replace B:=Aside0.mk (blk_below B.out hb);replace KB:=Aside0.mk (blk_below KB.out hb);replace HB:=Aside0.mk (below_step HB.out hb);clear hb;(obtain ⟨_,_,_,_,_,_,_,_,_,_⟩:=bc10 KA.out);(obtain ⟨_,_,_,_,_,_,_,_,_,_⟩:=bc10 KB.out))|((with_reducible refine gate_callee (f:=15) rfl ?_);(try (refine gate_guard (by rfl) ?_;dsimp only));refine goesL_ (some 126) rfl rfl Tryz.func15 (by kernel_rfl) rfl #[.agg #[.int .u64 1,.int .u64 2,.int .u8 0,.string (⟨#[]⟩:ByteArray),.string (⟨#[98]⟩:ByteArray),.bool true,.int .u64 0,.int .u64 0,.slice none 0 0,.slice (some ⟨w.heap.size,0,none⟩) 1 1],.agg #[.int .u64 2,.int .u64 0,.int .u8 0,.string (⟨#[98]⟩:ByteArray),.string (⟨#[]⟩:ByteArray),.bool false,.int .u64 0,.int .u64 5,.slice none 0 0,.slice (some ⟨W2.heap.size,0,none⟩) 1 1],.int .i64 11] rfl (by (try simp only [List.map_toArray,List.map_cons,List.map_nil]);first|done|rfl) ?_;(refine (merge_Under.calls 40 1 2 0 (⟨#[]⟩:ByteArray) (⟨#[98]⟩:ByteArray) true 0 0 none 0 ([]:List Int) (some ⟨w.heap.size,0,none⟩) 1 [(⟨(⟨#[97]⟩:ByteArray),(⟨#[49]⟩:ByteArray)⟩:S42)] 2 0 0 (⟨#[98]⟩:ByteArray) (⟨#[]⟩:ByteArray) false 0 5 none 0 ([]:List Int) (some ⟨W2.heap.size,0,none⟩) 1 [(⟨(⟨#[99]⟩:ByteArray),(⟨#[50]⟩:ByteArray)⟩:S42)] 11 false _ (Kd.C_nil _ _) (Nat.le_refl _) (lockkeeperlaw16_head_c1 A.out) (Nat.le_refl _) (Kd.C_nil _ _) (Nat.le_refl _) (lockkeeperlaw16_head_c1 B.out) (Nat.le_refl _) (by kernel_rfl)).mono ?_);rintro e b2 ⟨rfl,hb⟩;(refine ⟨_,rfl,?_⟩);replace A:=Aside0.mk (blk_below A.out hb);replace KA:=Aside0.mk (blk_below KA.out hb);replace B:=Aside0.mk (blk_below B.out hb);replace KB:=Aside0.mk (blk_below KB.out hb);replace HB:=Aside0.mk (below_step HB.out hb);clear hb;(obtain ⟨_,_,_,_,_,_,_,_,_,_⟩:=bc10 KA.out);(obtain ⟨_,_,_,_,_,_,_,_,_,_⟩:=bc10 KB.out))|((with_reducible refine gate_callee (f:=13) rfl ?_);(try (refine gate_guard (by rfl) ?_;dsimp only));refine goesL_ (some 132) rfl rfl Tryz.func13 (by kernel_rfl) rfl #[.agg #[.int .u64 2,.int .u64 0,.int .u8 0,.string (⟨#[98]⟩:ByteArray),.string (⟨#[]⟩:ByteArray),.bool false,.int .u64 0,.int .u64 5,.slice none 0 0,.slice (some ⟨W2.heap.size,0,none⟩) 1 1],.agg #[.int .u64 1,.int .u64 2,.int .u8 0,.string (⟨#[]⟩:ByteArray),.string (⟨#[98]⟩:ByteArray),.bool true,.int .u64 0,.int .u64 0,.slice none 0 0,.slice (some ⟨w.heap.size,0,none⟩) 1 1]] rfl (by (try simp only [List.map_toArray,List.map_cons,List.map_nil]);first|done|rfl) ?_;(refine (merge_Beside.calls 40 2 0 0 (⟨#[98]⟩:ByteArray) (⟨#[]⟩:ByteArray) false 0 5 none 0 ([]:List Int) (some ⟨W2.heap.size,0,none⟩) 1 [(⟨(⟨#[99]⟩:ByteArray),(⟨#[50]⟩:ByteArray)⟩:S42)] 1 2 0 (⟨#[]⟩:ByteArray) (⟨#[98]⟩:ByteArray) true 0 0 none 0 ([]:List Int) (some ⟨w.heap.size,0,none⟩) 1 [(⟨(⟨#[97]⟩:ByteArray),(⟨#[49]⟩:ByteArray)⟩:S42)] false _ (Kd.C_nil _ _) (Nat.le_refl _) (lockkeeperlaw16_head_c1 B.out) (Nat.le_refl _) (Kd.C_nil _ _) (Nat.le_refl _) (lockkeeperlaw16_head_c1 A.out) (Nat.le_refl _) (by kernel_rfl)).mono ?_);rintro e b3 ⟨rfl,hb⟩;(refine ⟨_,rfl,?_⟩);replace HB:=Aside0.mk (below_step HB.out hb);clear hb))
 go_ret
 exact ⟨rfl,HB.out⟩

/-! ### lockkeeperref04_Right: function 56 -/
def lockkeeperref04_Right.l0:Nat→Int→Int→List Int→Option (Bool)
 |0,_,_,_=>none
 |k+1,x3,cd7,af7=>if x3 < (af7.length:Int) then (if 0≤x3 then (if (rd af7 x3)≤cd7 then (some false) else (if x3 > 0 then (if 0≤(wrap64 (x3 - 1)) then (if (wrap64 (x3 - 1)) < (af7.length:Int) then (if (rd af7 x3)≤(rd af7 (wrap64 (x3 - 1))) then (some false) else (lockkeeperref04_Right.l0 k (wrap64 (x3+1)) cd7 af7)) else (none)) else (none)) else (lockkeeperref04_Right.l0 k (wrap64 (x3+1)) cd7 af7))) else (none)) else (some true)
def lockkeeperref04_Right.f (k:Nat) (a5:Int) (d3:List Int):Option (Bool):=if (d3.length:Int) > 1000 then (some false) else (lockkeeperref04_Right.l0 k 0 a5 d3)
set_option maxHeartbeats 8000000 in
set_option maxRecDepth 100000 in
theorem lockkeeperref04_Right.calls (k:Nat) (a5:Int) (o2:Option Addr) (n6:Nat) (d3:List Int) (r:Bool) (w:World) (F0:Kd.C (Kd.int .u64) w o2 d3.length d3) (G3:d3.length≤n6) (h:lockkeeperref04_Right.f k a5 d3=some r):
  Calls Tryz.prog 56 #[.agg #[.int .u64 a5,.slice o2 d3.length n6]] w fun e w'=>e=.returned (.bool r)∧Below w.heap.size w w':=by
 (have hu25:=Tryz.underlying25);(have D5:=Aside0.mk F0);(have S6:=Aside0.mk G3);(clear F0 G3);(have HB:=Aside0.mk (Below.refl w.heap.size w));(have H:(if (d3.length:Int) > 1000 then (some false) else (lockkeeperref04_Right.l0 k 0 a5 d3))=some r:=h);(clear h);(by_cases c2:(d3.length:Int) > 1000)
 ·(rw [if_pos c2] at H);(have O6:decide (1000 < (d3.length:Int))=true:=decide_eq_true c2);(have bc1:decide (1000 < d3.length)=true:=decide_eq_true (by omega));(clear c2);(obtain rfl:=Option.some.inj H);(go_enter Tryz.func56,Tryz.ntmps56);(go_wp2_with (first|((with_reducible refine gate_dst (N:=1) rfl ?_);refine bx (N:=1) (cs:=#[.int .u64 a5,.slice o2 d3.length n6]) (t:=25) ⟨mvW HB.out⟩ ?_;clear HB;intro bg4 hg w3 hb E0 ae2 HB;have bt7:=ae2;clear hb hg;obtain ⟨ct2,ct3⟩:=bc2 E0.out;obtain ⟨ct4,ct5⟩:=bf2 E0.out)));(repeat (go_quiet (first|((with_reducible refine gate_dst (N:=1) rfl ?_);refine bx (N:=1) (cs:=#[.int .u64 a5,.slice o2 d3.length n6]) (t:=25) ⟨mvW HB.out⟩ ?_;clear HB;intro bg4 hg w3 hb E0 ae2 HB;have bt7:=ae2;clear hb hg;obtain ⟨ct2,ct3⟩:=bc2 E0.out;obtain ⟨ct4,ct5⟩:=bf2 E0.out));try go_wp2_with (first|((with_reducible refine gate_dst (N:=1) rfl ?_);refine bx (N:=1) (cs:=#[.int .u64 a5,.slice o2 d3.length n6]) (t:=25) ⟨mvW HB.out⟩ ?_;clear HB;intro bg4 hg w3 hb E0 ae2 HB;have bt7:=ae2;clear hb hg;obtain ⟨ct2,ct3⟩:=bc2 E0.out;obtain ⟨ct4,ct5⟩:=bf2 E0.out))));(go_ret);(exact ⟨rv,mvW HB.out⟩)
 ·(rw [if_neg c2] at H);(have O6:decide (1000 < (d3.length:Int))=false:=decide_eq_false c2);(have bc1:decide (1000 < d3.length)=false:=decide_eq_false (by omega));(clear c2);(have H':=Aside0.mk H);(clear H);(go_enter Tryz.func56,Tryz.ntmps56);(go_wp2_with (first|((with_reducible refine gate_dst (N:=1) rfl ?_);refine bx (N:=1) (cs:=#[.int .u64 a5,.slice o2 d3.length n6]) (t:=25) ⟨mvW HB.out⟩ ?_;clear HB;intro bg4 hg w5 hb E0 ae2 HB;have bt7:=ae2;clear hb hg;obtain ⟨ai6,ai7⟩:=bc2 E0.out;obtain ⟨ai8,ai9⟩:=bf2 E0.out)));(repeat (go_quiet (first|((with_reducible refine gate_dst (N:=1) rfl ?_);refine bx (N:=1) (cs:=#[.int .u64 a5,.slice o2 d3.length n6]) (t:=25) ⟨mvW HB.out⟩ ?_;clear HB;intro bg4 hg w5 hb E0 ae2 HB;have bt7:=ae2;clear hb hg;obtain ⟨ai6,ai7⟩:=bc2 E0.out;obtain ⟨ai8,ai9⟩:=bf2 E0.out));try go_wp2_with (first|((with_reducible refine gate_dst (N:=1) rfl ?_);refine bx (N:=1) (cs:=#[.int .u64 a5,.slice o2 d3.length n6]) (t:=25) ⟨mvW HB.out⟩ ?_;clear HB;intro bg4 hg w5 hb E0 ae2 HB;have bt7:=ae2;clear hb hg;obtain ⟨ai6,ai7⟩:=bc2 E0.out;obtain ⟨ai8,ai9⟩:=bf2 E0.out))));(go_loopg [3] k (fun kq v3 w'=>∃ (i6:Int),v3=.int .i64 i6∧Aside0 (lockkeeperref04_Right.l0 kq i6 a5 d3=some r)∧Aside0 (kq≤k)∧Aside0 (w'.heap[bg4]? =some (.cells #[.int .u64 a5,(.slice o2 d3.length n6)] 25 (0,0)))∧Aside0 (Below w.heap.size w w')))
  case atStart=>exact ⟨(0),sd,H',⟨Nat.le_refl _⟩,⟨mvB E0.out⟩,⟨mvW HB.out⟩⟩
  case round=>
   (clear H');(try clear c2);(try clear O6);(try clear bc1);(try clear p2);(try clear c5);(try clear ct2 ct3);(try clear ai6 ai7);(try clear ct4 ct5);(try clear ai8 ai9);(obtain ⟨i6,rfl,HA,B0,E0,HB⟩:=hrel)
   cases gk with
   |zero=>exact absurd HA.out (by simp [lockkeeperref04_Right.l0])
   |succ k1=>
    (have H:=HA.out);(clear HA);(simp only [lockkeeperref04_Right.l0] at H);(by_cases c7:i6 < (d3.length:Int))
    ·(rw [if_pos c7] at H);(have X5:=decide_eq_true c7);(clear c7);(by_cases c8:0≤i6)
     ·(rw [if_pos c8] at H);(have Z9:=decide_eq_true c8);(clear c8);(by_cases c9:(rd d3 i6)≤a5)
      ·(rw [if_pos c9] at H);(have X6:=decide_eq_true c9);(clear c9);(obtain rfl:=Option.some.inj H);(obtain ⟨bg5,bg6⟩:=bc2 E0.out);(obtain ⟨bg7,bg8⟩:=bf2 E0.out);(have aa0:0≤(i6:Int):=od);(have aa1:i6 < (d3.length:Int):=od);(obtain ⟨ad228,e228,R3⟩:=Kd.at_int D5.out i6 aa0 aa1);(cases e228);(replace R3:=ct HB R3);(replace aa0:=eq_true aa0);(replace aa1:=eq_true aa1);(go_wp2);(repeat (go_quiet (fail);try go_wp2));(go_ret);(exact ⟨rv,mvW HB.out⟩)
      ·(rw [if_neg c9] at H);(have X6:decide ((rd d3 i6)≤a5)=false:=decide_eq_false c9);(clear c9);(by_cases N7:i6 > 0)
       ·(rw [if_pos N7] at H);(have cj3:decide (0 < i6)=true:=decide_eq_true N7);(clear N7);(obtain ⟨ji12,hji12⟩:∃ j_:Int,(wrap64 (i6 - 1))=j_:=⟨_,rfl⟩);(first|rw [hji12] at H|simp only [hji12] at H);(have hji12w:(IntKind.i64.wrap (i6 - 1))=ji12:=(i64_w _).trans hji12);(by_cases M8:0≤(ji12))
        ·(rw [if_pos M8] at H);(have ak2:=decide_eq_true M8);(clear M8);(by_cases Y4:(ji12) < (d3.length:Int))
         ·(rw [if_pos Y4] at H);(have cj4:=decide_eq_true Y4);(clear Y4);(by_cases R4:(rd d3 i6)≤(rd d3 (ji12)))
          ·(rw [if_pos R4] at H);(have cj5:=decide_eq_true R4);(clear R4);(obtain rfl:=Option.some.inj H);(obtain ⟨dd1,dd2⟩:=bc2 E0.out);(obtain ⟨dd3,dd4⟩:=bf2 E0.out);(have aa0:0≤(i6:Int):=od);(have aa1:i6 < (d3.length:Int):=od);(obtain ⟨ad228,e228,R3⟩:=Kd.at_int D5.out i6 aa0 aa1);(cases e228);(replace R3:=ct HB R3);(replace aa0:=eq_true aa0);(replace aa1:=eq_true aa1);(have bm7:0≤(i6:Int):=od);(have bm8:i6 < (d3.length:Int):=od);(obtain ⟨ad229,e229,ar3⟩:=Kd.at_int D5.out i6 bm7 bm8);(obtain rfl:ad228=ad229:=(by injection e229));(replace ar3:=ct HB ar3);(replace bm7:=eq_true bm7);(replace bm8:=eq_true bm8);(have bm9:0≤((ji12):Int):=od);(have bn0:(ji12) < (d3.length:Int):=od);(obtain ⟨ad230,e230,ar4⟩:=Kd.at_int D5.out (ji12) bm9 bn0);(obtain rfl:ad228=ad230:=(by injection e230));(replace ar4:=ct HB ar4);(replace bm9:=eq_true bm9);(replace bn0:=eq_true bn0);(go_wp2);(repeat (go_quiet (fail);try go_wp2));(go_ret);(exact ⟨by first|rfl|(simp [errW_none,errW_some] <;> rfl)|(simp only [← hji12];first|rfl|(simp [errW_none,errW_some] <;> rfl))|(simp [*,errW_none,errW_some] <;> rfl),mvW HB.out⟩)
          ·(rw [if_neg R4] at H);(have cj5:decide ((rd d3 i6)≤(rd d3 (ji12)))=false:=decide_eq_false R4);(clear R4);(have H':=Aside0.mk H);(clear H);(obtain ⟨bt8,bt9⟩:=bc2 E0.out);(obtain ⟨bu0,bu1⟩:=bf2 E0.out);(have aa0:0≤(i6:Int):=od);(have aa1:i6 < (d3.length:Int):=od);(obtain ⟨ad228,e228,R3⟩:=Kd.at_int D5.out i6 aa0 aa1);(cases e228);(replace R3:=ct HB R3);(replace aa0:=eq_true aa0);(replace aa1:=eq_true aa1);(have bm7:0≤(i6:Int):=od);(have bm8:i6 < (d3.length:Int):=od);(obtain ⟨ad229,e229,ar3⟩:=Kd.at_int D5.out i6 bm7 bm8);(obtain rfl:ad228=ad229:=(by injection e229));(replace ar3:=ct HB ar3);(replace bm7:=eq_true bm7);(replace bm8:=eq_true bm8);(have bm9:0≤((ji12):Int):=od);(have bn0:(ji12) < (d3.length:Int):=od);(obtain ⟨ad230,e230,ar4⟩:=Kd.at_int D5.out (ji12) bm9 bn0);(obtain rfl:ad228=ad230:=(by injection e230));(replace ar4:=ct HB ar4);(replace bm9:=eq_true bm9);(replace bn0:=eq_true bn0);(go_wp2);(repeat (go_quiet (fail);try go_wp2));(go_roundg k1)
           case measure=>have:=B0.out;omega
           case rel=>exact ⟨(wrap64 (i6+1)),sd,H',⟨by have:=B0.out;omega⟩,⟨mvB E0.out⟩,⟨mvW HB.out⟩⟩
         ·(rw [if_neg Y4] at H);(exact absurd H (by simp))
        ·(rw [if_neg M8] at H);(exact absurd H (by simp))
       ·(rw [if_neg N7] at H);(have cj3:decide (0 < i6)=false:=decide_eq_false N7);(clear N7);(have H':=Aside0.mk H);(clear H);(obtain ⟨dd5,dd6⟩:=bc2 E0.out);(obtain ⟨dd7,dd8⟩:=bf2 E0.out);(have aa0:0≤(i6:Int):=od);(have aa1:i6 < (d3.length:Int):=od);(obtain ⟨ad228,e228,R3⟩:=Kd.at_int D5.out i6 aa0 aa1);(cases e228);(replace R3:=ct HB R3);(replace aa0:=eq_true aa0);(replace aa1:=eq_true aa1);(go_wp2);(repeat (go_quiet (fail);try go_wp2));(go_roundg k1)
        case measure=>have:=B0.out;omega
        case rel=>exact ⟨(wrap64 (i6+1)),sd,H',⟨by have:=B0.out;omega⟩,⟨mvB E0.out⟩,⟨mvW HB.out⟩⟩
     ·(rw [if_neg c8] at H);(exact absurd H (by simp))
    ·(rw [if_neg c7] at H);(have X5:decide (i6 < (d3.length:Int))=false:=decide_eq_false c7);(clear c7);(obtain rfl:=Option.some.inj H);(obtain ⟨cj6,cj7⟩:=bc2 E0.out);(obtain ⟨cj8,cj9⟩:=bf2 E0.out);(go_wp2);(repeat (go_quiet (fail);try go_wp2));(go_ret);(exact ⟨rv,mvW HB.out⟩)

/-! ### lockkeeperref11_worth: function 94 -/
def lockkeeperref11_worth.l0:Nat→ByteArray→Int→Int→Option (Int)
 |0,_,_,_=>none
 |k+1,x0,x3,x4=>if x4 < (x0.size:Int) then (if 0≤x4 then (lockkeeperref11_worth.l0 k x0 (IntKind.u64.wrap ((IntKind.u64.wrap (256 * x3))+(IntKind.u64.wrap (bt x0 x4)))) (wrap64 (x4+1))) else (none)) else (some x3)
def lockkeeperref11_worth.f (k:Nat) (a0:ByteArray):Option (Int):=lockkeeperref11_worth.l0 k a0 0 0
set_option maxHeartbeats 8000000 in
set_option maxRecDepth 100000 in
theorem lockkeeperref11_worth.calls (k:Nat) (a0:ByteArray) (r:Int) (w:World) (h:lockkeeperref11_worth.f k a0=some r):
  Calls Tryz.prog 94 #[.string a0] w fun e w'=>e=.returned (.int .u64 r)∧Drawn0 w w':=by
 (have H:(lockkeeperref11_worth.l0 k a0 0 0)=some r:=h);(clear h);(have H':=Aside0.mk H);(clear H);(go_enter Tryz.func94,Tryz.ntmps94);(go_wp2);(go_loopg [3,4] k (fun kq v3 v4 w'=>∃ (i6:Int) (o4:Int),v3=.int .u64 i6∧v4=.int .i64 o4∧Aside0 (lockkeeperref11_worth.l0 kq a0 i6 o4=some r)∧Aside0 (kq≤k)∧Drawn0 w w'))
 case atStart=>exact ⟨(0),(0),sd,sd,H',⟨Nat.le_refl _⟩,by repeat (first|exact Drawn0.refl _ |apply Drawn0.step)⟩
 case round=>
  (clear H');(obtain ⟨i6,o4,rfl,rfl,HA,B0,⟨m1,rfl⟩⟩:=hrel)
  cases gk with
  |zero=>exact absurd HA.out (by simp [lockkeeperref11_worth.l0])
  |succ k1=>
   (have H:=HA.out);(clear HA);(simp only [lockkeeperref11_worth.l0] at H);(by_cases c2:o4 < (a0.size:Int))
   ·(rw [if_pos c2] at H);(have O6:=decide_eq_true c2);(clear c2);(by_cases c3:0≤o4)
    ·(rw [if_pos c3] at H);(have O7:=decide_eq_true c3);(clear c3);(have H':=Aside0.mk H);(clear H);(have p4:0≤(o4:Int):=od);(have q4:o4 < (a0.size:Int):=od);(have hx4:=bt_at a0 o4);(replace p4:=eq_true p4);(replace q4:=eq_true q4);(go_wp2);(go_roundg k1)
     case measure=>have:=B0.out;omega
     case rel=>exact ⟨(IntKind.u64.wrap ((IntKind.u64.wrap (256 * i6))+(IntKind.u64.wrap (bt a0 o4)))),(wrap64 (o4+1)),sd,sd,H',⟨by have:=B0.out;omega⟩,by repeat (first|exact Drawn0.refl _ |apply Drawn0.step)⟩
    ·(rw [if_neg c3] at H);(exact absurd H (by simp))
   ·(rw [if_neg c2] at H);(have O6:decide (o4 < (a0.size:Int))=false:=decide_eq_false c2);(clear c2);(obtain rfl:=Option.some.inj H);(go_wp2);(go_ret);(exact ⟨by first|rfl|(simp;done)|(simp [*];done),by repeat (first|exact Drawn0.refl _ |apply Drawn0.step)⟩)

/-! ### lockkeeperref11_Id: function 58 -/
def lockkeeperref11_Id.f (k:Nat) (a0:ByteArray):Option (Int×Int):=if (a0.size:Int)=8 then ((lockkeeperref11_worth.f k a0).bind fun T3=>(if T3 < 1 then (some (0,110)) else ((lockkeeperref11_worth.f k a0).bind fun ct6=>(if ct6 > 400 then (some (0,110)) else ((lockkeeperref11_worth.f k a0).bind fun ct7=>(some (ct7,0))))))) else (some (0,110))
set_option maxHeartbeats 8000000 in
set_option maxRecDepth 100000 in
theorem lockkeeperref11_Id.calls (k:Nat) (a0:ByteArray) (r1:Int) (r2:Int) (w:World) (h:lockkeeperref11_Id.f k a0=some (r1,r2)):
  Calls Tryz.prog 58 #[.string a0] w fun e w'=>e=.returned (.tuple #[.int .u64 r1,.int .i64 r2])∧Drawn0 w w':=by
 (have H:(if (a0.size:Int)=8 then ((lockkeeperref11_worth.f k a0).bind fun T3=>(if T3 < 1 then (some (0,110)) else ((lockkeeperref11_worth.f k a0).bind fun ct6=>(if ct6 > 400 then (some (0,110)) else ((lockkeeperref11_worth.f k a0).bind fun ct7=>(some (ct7,0))))))) else (some (0,110)))=some (r1,r2):=h);(clear h);(by_cases c2:(a0.size:Int)=8)
 ·(rw [if_pos c2] at H);(have O6:((a0.size:Int)==8)=true:=beq_iff_eq.mpr c2);(have bc1:((a0.size:Int) != 8)=false:=bne_eq_false_iff_eq.mpr c2);(clear c2);(replace H:=Option.bind_eq_some_iff.mp H);(obtain ⟨T3,A30,H⟩:=H);(have A3:=Aside0.mk A30);(clear A30);(by_cases c4:T3 < 1)
  ·(rw [if_pos c4] at H);(have t2:=decide_eq_true c4);(clear c4);(simp only [Option.some.injEq,Prod.mk.injEq] at H);(obtain ⟨rfl,rfl⟩:=H);(go_enter Tryz.func58,Tryz.ntmps58);(go_wp2_with (first|(go_at_call 94;(with_reducible refine (lockkeeperref11_worth.calls k a0 T3 _ A3.out).mono ?_);rintro e w' ⟨rfl,⟨nd,rfl⟩⟩)));(go_ret2);(exact ⟨by first|rfl|(simp;done)|(simp [*];done),by repeat (first|exact Drawn0.refl _ |apply Drawn0.step)⟩)
  ·(rw [if_neg c4] at H);(have t2:decide (T3 < 1)=false:=decide_eq_false c4);(clear c4);(replace H:=Option.bind_eq_some_iff.mp H);(obtain ⟨ct6,A50,H⟩:=H);(have A5:=Aside0.mk A50);(clear A50);(have e_A5:T3=ct6:=Option.some.inj (A3.out.symm.trans A5.out));(subst e_A5);(by_cases c6:T3 > 400)
   ·(rw [if_pos c6] at H);(have I1:decide (400 < T3)=true:=decide_eq_true c6);(clear c6);(simp only [Option.some.injEq,Prod.mk.injEq] at H);(obtain ⟨rfl,rfl⟩:=H);(go_enter Tryz.func58,Tryz.ntmps58);(go_wp2_with (first|(go_at_call 94;(with_reducible refine (lockkeeperref11_worth.calls k a0 T3 _ A3.out).mono ?_);rintro e w' ⟨rfl,⟨nd,rfl⟩⟩)|(go_at_call 94;(with_reducible refine (lockkeeperref11_worth.calls k a0 T3 _ A5.out).mono ?_);rintro e w' ⟨rfl,⟨nd,rfl⟩⟩)));(go_ret2);(exact ⟨by first|rfl|(simp;done)|(simp [*];done),by repeat (first|exact Drawn0.refl _ |apply Drawn0.step)⟩)
   ·(rw [if_neg c6] at H);(have I1:decide (400 < T3)=false:=decide_eq_false c6);(clear c6);(replace H:=Option.bind_eq_some_iff.mp H);(obtain ⟨ct7,A70,H⟩:=H);(have A7:=Aside0.mk A70);(clear A70);(have e_A7:T3=ct7:=Option.some.inj (A3.out.symm.trans A7.out));(subst e_A7);(simp only [Option.some.injEq,Prod.mk.injEq] at H);(obtain ⟨rfl,rfl⟩:=H);(go_enter Tryz.func58,Tryz.ntmps58);(go_wp2_with (first|(go_at_call 94;(with_reducible refine (lockkeeperref11_worth.calls k a0 T3 _ A3.out).mono ?_);rintro e w' ⟨rfl,⟨nd,rfl⟩⟩)|(go_at_call 94;(with_reducible refine (lockkeeperref11_worth.calls k a0 T3 _ A5.out).mono ?_);rintro e w' ⟨rfl,⟨nd,rfl⟩⟩)|((with_reducible refine gate_callee (f:=94) rfl ?_);refine goesL_ (some 18) rfl rfl Tryz.func94 (by kernel_rfl) rfl #[.string a0] rfl am ?_;(with_reducible refine (lockkeeperref11_worth.calls k a0 T3 _ A7.out).mono ?_);rintro e w' ⟨rfl,⟨nd,rfl⟩⟩;refine ⟨_,rfl,?_⟩)));(go_ret2);(exact ⟨by first|rfl|(simp;done)|(simp [*];done),by repeat (first|exact Drawn0.refl _ |apply Drawn0.step)⟩)
 ·(rw [if_neg c2] at H);(have O6:((a0.size:Int)==8)=false:=beq_eq_false_iff_ne.mpr c2);(have bc1:((a0.size:Int) != 8)=true:=bne_iff_ne.mpr c2);(simp only [Option.some.injEq,Prod.mk.injEq] at H);(obtain ⟨rfl,rfl⟩:=H);(go_enter Tryz.func58,Tryz.ntmps58);(go_wp2);(go_ret2);(exact ⟨by first|rfl|(simp;done)|(simp [*];done),by repeat (first|exact Drawn0.refl _ |apply Drawn0.step)⟩)

/-! ### lockkeeperref03_Right: function 80 -/
def lockkeeperref03_Right.j0:Nat→Bool→ByteArray→ByteArray→Bool→Option (Bool)
 |0,_,_,_,_=>none
 |k+1,x12,ff2,cz8,ff3=>if x12=true then (some false) else (if ff3=true then (some (Op.bytesLess ff2.toList cz8.toList)) else (some (cz8.toList==([]:List UInt8))))
def lockkeeperref03_Right.f (k:Nat) (a5:ByteArray) (a7:ByteArray) (a8:Bool):Option (Bool):=if (a5.size:Int) > 513 then (lockkeeperref03_Right.j0 k true a5 a7 a8) else (lockkeeperref03_Right.j0 k (decide ((a7.size:Int) > 513)) a5 a7 a8)
set_option maxHeartbeats 8000000 in
set_option maxRecDepth 100000 in
theorem lockkeeperref03_Right.calls (k:Nat) (a5:ByteArray) (a7:ByteArray) (a8:Bool) (r:Bool) (w:World) (h:lockkeeperref03_Right.f k a5 a7 a8=some r):
  Calls Tryz.prog 80 #[.agg #[.string a5,.string a7,.bool a8]] w fun e w'=>e=.returned (.bool r)∧Below w.heap.size w w':=by
 (have hu50:=Tryz.underlying50);(have HB:=Aside0.mk (Below.refl w.heap.size w));(have H:(if (a5.size:Int) > 513 then (lockkeeperref03_Right.j0 k true a5 a7 a8) else (lockkeeperref03_Right.j0 k (decide ((a7.size:Int) > 513)) a5 a7 a8))=some r:=h);(clear h);(have HC2:=Aside0.mk H);(clear H);(go_enter Tryz.func80,Tryz.ntmps80);(go_upto_region 1 with (first|((with_reducible refine gate_dst (N:=1) rfl ?_);(try (refine gate_guard (by rfl) ?_;dsimp only));refine bx (N:=1) (cs:=#[.string a5,.string a7,.bool a8]) (t:=50) ⟨mvW HB.out⟩ ?_;clear HB;intro ge2 hg w3 hb ae3 ge3 HB;have js0:=ge3;clear hb hg)));((try simp only [Act.put,List.setIfInBounds_toArray,List.set_cons_zero,List.set_cons_succ]));(go_cut [12] (fun v12 wc=>∃ (kq:Nat) (ck0:Bool),v12=.bool ck0∧Aside0 (lockkeeperref03_Right.j0 kq ck0 a5 a7 a8=some r)∧Aside0 (kq≤k)∧Aside0 (wc.heap[ge2]? =some (.cells #[.string a5,.string a7,.bool a8] 50 (0,0)))∧Aside0 (Below w.heap.size w wc)))
 case first=>
  (have H:=HC2.out);(clear HC2);(by_cases c4:(a5.size:Int) > 513)
  ·(rw [if_pos c4] at H);(have t2:decide (513 < (a5.size:Int))=true:=decide_eq_true c4);(have ae4:decide (513 < a5.size)=true:=decide_eq_true (by omega));(clear c4);((first|rw [t2]|(simp only [i64_w,i32_w];rw [t2])|skip));(have H':=Aside0.mk H);(clear H);(obtain ⟨aa2,aa3,af8⟩:=bc3 ae3.out);(obtain ⟨aa4,aa5,af9⟩:=bf3 ae3.out);(go_wp2);(go_meet)
   case rel=>exact ⟨_,(true),sd,H',⟨by first|omega|exact Nat.le_refl _⟩,⟨mvB ae3.out⟩,⟨mvW HB.out⟩⟩
  ·(rw [if_neg c4] at H);(have t2:decide (513 < (a5.size:Int))=false:=decide_eq_false c4);(have ae4:decide (513 < a5.size)=false:=decide_eq_false (by omega));(clear c4);((first|rw [t2]|(simp only [i64_w,i32_w];rw [t2])|skip));(have H':=Aside0.mk H);(clear H);(obtain ⟨ai6,ai7,cd8⟩:=bc3 ae3.out);(obtain ⟨ai8,ai9,cd9⟩:=bf3 ae3.out);(go_wp2);(go_meet)
   case rel=>exact ⟨_,(decide ((a7.size:Int) > 513)),sd,H',⟨by first|omega|exact Nat.le_refl _⟩,⟨mvB ae3.out⟩,⟨mvW HB.out⟩⟩
 case rest=>
  (clear HC2);(try clear p2);(try clear c4);(try clear t2);(try clear ae4);(try clear aa2 aa3 af8);(try clear ai6 ai7 cd8);(try clear aa4 aa5 af9);(try clear ai8 ai9 cd9);(obtain ⟨kq,ck0,rfl,HA,HJ1,ae3,HB⟩:=hcut)
  cases kq with
  |zero=>exact absurd HA.out (by simp [lockkeeperref03_Right.j0])
  |succ kj1=>
   (have H:=HA.out);(clear HA);(simp only [lockkeeperref03_Right.j0] at H);(by_cases c7:ck0=true)
   ·(subst c7);(rw [if_pos rfl] at H);(obtain rfl:=Option.some.inj H);(go_wp2);(go_ret);(exact ⟨rv,mvW HB.out⟩)
   ·(replace c7:=Bool.eq_false_iff.mpr c7);(subst c7);(rw [if_neg (by first|decide|simp)] at H);(by_cases c8:a8=true)
    ·(subst c8);(rw [if_pos rfl] at H);(obtain rfl:=Option.some.inj H);(obtain ⟨aa6,aa7,bc4⟩:=bc3 ae3.out);(obtain ⟨aa8,aa9,bc5⟩:=bf3 ae3.out);(go_wp2);(go_ret);(exact ⟨rv,mvW HB.out⟩)
    ·(replace c8:=Bool.eq_false_iff.mpr c8);(subst c8);(rw [if_neg (by first|decide|simp)] at H);(obtain rfl:=Option.some.inj H);(obtain ⟨bg5,bg6,dd9⟩:=bc3 ae3.out);(obtain ⟨bg7,bg8,de0⟩:=bf3 ae3.out);(go_wp2);(go_ret);(exact ⟨rv,mvW HB.out⟩)

/-! ### lockkeeperref11_Range: function 81 -/
def lockkeeperref11_Range.f (a5:Int) (a7:Int) (a8:Int) (b7:ByteArray) (b8:ByteArray) (b9:Bool) (d0:Int) (b6:Int) (b0:List Int) (a6:List (S42)):Option (ByteArray×ByteArray×Bool):=some (b7,b8,b9)
set_option maxHeartbeats 8000000 in
set_option maxRecDepth 100000 in
theorem lockkeeperref11_Range.calls (a5:Int) (a7:Int) (a8:Int) (b7:ByteArray) (b8:ByteArray) (b9:Bool) (d0:Int) (b6:Int) (d7:Option Addr) (d8:Nat) (b0:List Int) (f9:Option Addr) (d6:Nat) (a6:List (S42)) (r1:ByteArray) (r2:ByteArray) (r3:Bool) (w:World) (q5:Kd.C (Kd.int .u64) w d7 b0.length b0) (q7:b0.length≤d8) (p8:Kd.C k42 w f9 a6.length a6) (q3:a6.length≤d6) (h:lockkeeperref11_Range.f a5 a7 a8 b7 b8 b9 d0 b6 b0 a6=some (r1,r2,r3)):
  Calls Tryz.prog 81 #[.agg #[.int .u64 a5,.int .u64 a7,.int .u8 a8,.string b7,.string b8,.bool b9,.int .u64 d0,.int .u64 b6,.slice d7 b0.length d8,.slice f9 a6.length d6]] w fun e w'=>e=.returned (.agg #[.string r1,.string r2,.bool r3])∧Below w.heap.size w w':=by
 (have hu28:=Tryz.underlying28);(have hu50:=Tryz.underlying50);(have o5:=Aside0.mk q5);(have o6:=Aside0.mk q7);(clear q5 q7);(have k3:=Aside0.mk p8);(have n7:=Aside0.mk q3);(clear p8 q3);(have HB:=Aside0.mk (Below.refl w.heap.size w));(have H:(some (b7,b8,b9))=some (r1,r2,r3):=h);(clear h);(simp only [Option.some.injEq,Prod.mk.injEq] at H);(obtain ⟨rfl,rfl,rfl⟩:=H);(go_enter Tryz.func81,Tryz.ntmps81);(go_wp2_with (first|((with_reducible refine gate_dst (N:=1) rfl ?_);refine bx (N:=1) (cs:=#[.int .u64 a5,.int .u64 a7,.int .u8 a8,.string b7,.string b8,.bool b9,.int .u64 d0,.int .u64 b6,.slice d7 b0.length d8,.slice f9 a6.length d6]) (t:=28) ⟨mvW HB.out⟩ ?_;clear HB;intro js1 hg w2 hb bg9 ge4 HB;have js2:=ge4;clear hb hg)|((with_reducible refine gate_dst (N:=2) rfl ?_);refine bx (N:=2) (cs:=#[.string (⟨#[]⟩:ByteArray),.string (⟨#[]⟩:ByteArray),.bool false]) (t:=50) ⟨mvW HB.out⟩ ?_;clear HB;intro ge5 hg w3 hb de1 ge6 HB;have js3:=ge6;have do0:=nbl hg bg9;have do1:=nbg hg bg9;replace bg9:=Aside0.mk (blk_below (mvB bg9.out) hb);clear hb hg;have hu4:=do0.out;have hnc4:=do1.out;obtain ⟨aa2,aa3,af8,ce0,ce1,ce2,ce3,ce4,ce5,ce6⟩:=bc10 bg9.out;obtain ⟨aa4,aa5,af9,ce7,ce8,ce9,cf0,cf1,cf2,cf3⟩:=bf10 bg9.out;obtain ⟨ai6,ai7,cd8⟩:=bc3 de1.out;obtain ⟨ai8,ai9,cd9⟩:=bf3 de1.out)));(refine bodyPost_ret (results_cell_row rfl _ _ ge5 50 #[.string b7,.string b8,.bool b9] (0,0) _ rfl (mvP de1.out) Tryz.underlying50 rfl (by kernel_rfl)) rfl ?_);(exact ⟨rv,mvW HB.out⟩)

/-! ### lockkeeperref04_Most: function 82 -/
def lockkeeperref04_Most.l0:Nat→Int→Int→Int→List Int→Option (Int)
 |0,_,_,_,_=>none
 |k+1,x3,x4,ff4,cf4=>if x4 < (cf4.length:Int) then (if 0≤x4 then (lockkeeperref04_Most.l0 k (rd cf4 x4) (wrap64 (x4+1)) ff4 cf4) else (none)) else (some x3)
def lockkeeperref04_Most.f (k:Nat) (a5:Int) (d3:List Int):Option (Int):=(lockkeeperref04_Right.f k a5 d3).bind fun ct8=>(if ct8=true then (lockkeeperref04_Most.l0 k a5 0 a5 d3) else (some 0))
set_option maxHeartbeats 8000000 in
set_option maxRecDepth 100000 in
theorem lockkeeperref04_Most.calls (k:Nat) (a5:Int) (o2:Option Addr) (n6:Nat) (d3:List Int) (r:Int) (w:World) (F0:Kd.C (Kd.int .u64) w o2 d3.length d3) (G3:d3.length≤n6) (h:lockkeeperref04_Most.f k a5 d3=some r):
  Calls Tryz.prog 82 #[.agg #[.int .u64 a5,.slice o2 d3.length n6]] w fun e w'=>e=.returned (.int .u64 r)∧Below w.heap.size w w':=by
 (have hu25:=Tryz.underlying25);(have D5:=Aside0.mk F0);(have S6:=Aside0.mk G3);(clear F0 G3);(have HB:=Aside0.mk (Below.refl w.heap.size w));(have H:((lockkeeperref04_Right.f k a5 d3).bind fun ct8=>(if ct8=true then (lockkeeperref04_Most.l0 k a5 0 a5 d3) else (some 0)))=some r:=h);(clear h);(replace H:=Option.bind_eq_some_iff.mp H);(obtain ⟨ct8,A20,H⟩:=H);(have A2:=Aside0.mk A20);(clear A20);(by_cases c3:ct8=true)
 ·(subst c3);(rw [if_pos rfl] at H);(have H':=Aside0.mk H);(clear H);(go_enter Tryz.func82,Tryz.ntmps82);(go_wp2_with (first|((with_reducible refine gate_dst (N:=1) rfl ?_);refine bx (N:=1) (cs:=#[.int .u64 a5,.slice o2 d3.length n6]) (t:=25) ⟨mvW HB.out⟩ ?_;clear HB;intro ei3 hg w4 hb O2 de2 HB;have ge7:=de2;clear hb hg;obtain ⟨aa2,aa3⟩:=bc2 O2.out;obtain ⟨aa4,aa5⟩:=bf2 O2.out)|((with_reducible refine gate_callee (f:=56) rfl ?_);refine goesL_ (some 6) rfl rfl Tryz.func56 (by kernel_rfl) rfl #[.agg #[.int .u64 a5,.slice o2 d3.length n6]] rfl am ?_;(with_reducible refine (lockkeeperref04_Right.calls k a5 _ _ d3 true _ ?side1 ?side2 A2.out).mono ?_);(case side1=>exact mvC (Kd.C_below D5.out HB.out));(case side2=>exact S6.out);rintro e w6 ⟨rfl,hb⟩;refine ⟨_,rfl,?_⟩;replace O2:=Aside0.mk (blk_below (mvB O2.out) hb);replace HB:=Aside0.mk (below_step (mvW HB.out) hb);clear hb;obtain ⟨X7,X8⟩:=bc2 O2.out;obtain ⟨X9,Y0⟩:=bf2 O2.out)));(go_loopg [3,4] k (fun kq v3 v4 w'=>∃ (i6:Int) (o4:Int),v3=.int .u64 i6∧v4=.int .i64 o4∧Aside0 (lockkeeperref04_Most.l0 kq i6 o4 a5 d3=some r)∧Aside0 (kq≤k)∧Aside0 (w'.heap[ei3]? =some (.cells #[.int .u64 a5,(.slice o2 d3.length n6)] 25 (0,0)))∧Aside0 (Below w.heap.size w w')))
  case atStart=>exact ⟨(a5),(0),sd,sd,H',⟨Nat.le_refl _⟩,⟨mvB O2.out⟩,⟨mvW HB.out⟩⟩
  case round=>
   (clear H');(try clear p2);(try clear c3);(try clear c5);(try clear aa2 aa3);(try clear X7 X8);(try clear aa4 aa5);(try clear X9 Y0);(obtain ⟨i6,o4,rfl,rfl,HA,B0,O2,HB⟩:=hrel)
   cases gk with
   |zero=>exact absurd HA.out (by simp [lockkeeperref04_Most.l0])
   |succ k1=>
    (have H:=HA.out);(clear HA);(simp only [lockkeeperref04_Most.l0] at H);(by_cases c8:o4 < (d3.length:Int))
    ·(rw [if_pos c8] at H);(have Z9:=decide_eq_true c8);(clear c8);(by_cases c9:0≤o4)
     ·(rw [if_pos c9] at H);(have X6:=decide_eq_true c9);(clear c9);(have H':=Aside0.mk H);(clear H);(obtain ⟨bg5,bg6⟩:=bc2 O2.out);(obtain ⟨bg7,bg8⟩:=bf2 O2.out);(have ds4:0≤(o4:Int):=od);(have ds5:o4 < (d3.length:Int):=od);(obtain ⟨ad239,e239,cz9⟩:=Kd.at_int D5.out o4 ds4 ds5);(cases e239);(replace cz9:=ct HB cz9);(replace ds4:=eq_true ds4);(replace ds5:=eq_true ds5);(go_wp2);(go_roundg k1)
      case measure=>have:=B0.out;omega
      case rel=>exact ⟨(rd d3 o4),(wrap64 (o4+1)),sd,sd,H',⟨by have:=B0.out;omega⟩,⟨mvB O2.out⟩,⟨mvW HB.out⟩⟩
     ·(rw [if_neg c9] at H);(exact absurd H (by simp))
    ·(rw [if_neg c8] at H);(have Z9:decide (o4 < (d3.length:Int))=false:=decide_eq_false c8);(clear c8);(obtain rfl:=Option.some.inj H);(obtain ⟨M9,N0⟩:=bc2 O2.out);(obtain ⟨N1,N2⟩:=bf2 O2.out);(go_wp2);(go_ret);(exact ⟨rv,mvW HB.out⟩)
 ·(replace c3:=Bool.eq_false_iff.mpr c3);(subst c3);(rw [if_neg (by first|decide|simp)] at H);(obtain rfl:=Option.some.inj H);(go_enter Tryz.func82,Tryz.ntmps82);(go_wp2_with (first|((with_reducible refine gate_dst (N:=1) rfl ?_);refine bx (N:=1) (cs:=#[.int .u64 a5,.slice o2 d3.length n6]) (t:=25) ⟨mvW HB.out⟩ ?_;clear HB;intro ei3 hg w12 hb O2 de2 HB;have ge7:=de2;clear hb hg;obtain ⟨Y5,Y6⟩:=bc2 O2.out;obtain ⟨Y7,Y8⟩:=bf2 O2.out)|((with_reducible refine gate_callee (f:=56) rfl ?_);refine goesL_ (some 6) rfl rfl Tryz.func56 (by kernel_rfl) rfl #[.agg #[.int .u64 a5,.slice o2 d3.length n6]] rfl am ?_;(with_reducible refine (lockkeeperref04_Right.calls k a5 _ _ d3 false _ ?side1 ?side2 A2.out).mono ?_);(case side1=>exact mvC (Kd.C_below D5.out HB.out));(case side2=>exact S6.out);rintro e w14 ⟨rfl,hb⟩;refine ⟨_,rfl,?_⟩;replace O2:=Aside0.mk (blk_below (mvB O2.out) hb);replace HB:=Aside0.mk (below_step (mvW HB.out) hb);(try clear hb);(try clear hb2);(try clear hk);(try clear hi))));(go_ret);(exact ⟨rv,mvW HB.out⟩)

/-! ### lockkeeperref10_fits: function 107 -/
def lockkeeperref10_fits.f (a5:ByteArray) (a7:ByteArray):Option (Bool):=if (a5.size:Int)≤513 then (some (decide ((a7.size:Int)≤2048))) else (some false)
set_option maxHeartbeats 8000000 in
set_option maxRecDepth 100000 in
theorem lockkeeperref10_fits.calls (a5:ByteArray) (a7:ByteArray) (r:Bool) (w:World) (h:lockkeeperref10_fits.f a5 a7=some r):
  Calls Tryz.prog 107 #[.agg #[.string a5,.string a7]] w fun e w'=>e=.returned (.bool r)∧Below w.heap.size w w':=by
 (have hu42:=Tryz.underlying42);(have HB:=Aside0.mk (Below.refl w.heap.size w));(have H:(if (a5.size:Int)≤513 then (some (decide ((a7.size:Int)≤2048))) else (some false))=some r:=h);(clear h);(by_cases c2:(a5.size:Int)≤513)
 ·(rw [if_pos c2] at H);(have O6:=decide_eq_true c2);(have bc1:decide (a5.size≤513)=true:=decide_eq_true (by omega));(clear c2);(obtain rfl:=Option.some.inj H);(go_enter Tryz.func107,Tryz.ntmps107);(go_wp2_with (first|((with_reducible refine gate_dst (N:=1) rfl ?_);(try (refine gate_guard (by rfl) ?_;dsimp only));refine bx (N:=1) (cs:=#[.string a5,.string a7]) (t:=42) ⟨mvW HB.out⟩ ?_;clear HB;intro ge8 hg w3 hb bu2 de3 HB;have ge9:=de3;clear hb hg;obtain ⟨ct2,ct3⟩:=bc2 bu2.out;obtain ⟨ct4,ct5⟩:=bf2 bu2.out)));(go_ret);(exact ⟨rv,mvW HB.out⟩)
 ·(rw [if_neg c2] at H);(have O6:decide ((a5.size:Int)≤513)=false:=decide_eq_false c2);(have bc1:decide (a5.size≤513)=false:=decide_eq_false (by omega));(clear c2);(obtain rfl:=Option.some.inj H);(go_enter Tryz.func107,Tryz.ntmps107);(go_wp2_with (first|((with_reducible refine gate_dst (N:=1) rfl ?_);(try (refine gate_guard (by rfl) ?_;dsimp only));refine bx (N:=1) (cs:=#[.string a5,.string a7]) (t:=42) ⟨mvW HB.out⟩ ?_;clear HB;intro ge8 hg w5 hb bu2 de3 HB;have ge9:=de3;clear hb hg;obtain ⟨ai6,ai7⟩:=bc2 bu2.out;obtain ⟨ai8,ai9⟩:=bf2 bu2.out)));(go_ret);(exact ⟨rv,mvW HB.out⟩)

end Go.Proofs.YtmfaopjfdedheaaGreat.S
