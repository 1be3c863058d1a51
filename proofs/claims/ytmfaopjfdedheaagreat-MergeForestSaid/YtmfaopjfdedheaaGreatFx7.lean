-- PRINTED by print.py (a twelfth state) out of the translation. Not trusted: Lean checks it.
import Derived.Test.YtmfaopjfdedheaaGreatSv
import Derived.Test.YtmfaopjfdedheaaGreatSh
import Derived.Test.YtmfaopjfdedheaaGreatMv
import Derived.Test.YtmfaopjfdedheaaGreatFx0
import Derived.Test.YtmfaopjfdedheaaGreatFx2
import Derived.Test.YtmfaopjfdedheaaGreatFx4
namespace Go.Proofs.YtmfaopjfdedheaaGreat.F
open Go.RowKit Go.Proofs.YtmfaopjfdedheaaGreatW Go.Proofs.YtmfaopjfdedheaaGreatW.PrintWords Go.Proofs.YtmfaopjfdedheaaGreatW.PrintLast Go.Proofs.YtmfaopjfdedheaaGreatW.PrintMore
attribute [local go_sem] GpMore.bytes_le max2_int min2_int max_two min_two max_three min_three max_four min_four   -- for this text's walks alone
set_option linter.unusedVariables false
set_option linter.unusedSimpArgs false

/-! ### cells_cell_size: function 85 -/
def cells_cell_size.f (a6:ByteArray) (b0:ByteArray):Option (Int):=some (wrap64 ((wrap64 (4+(a6.size:Int)))+(b0.size:Int)))
set_option maxHeartbeats 8000000 in
set_option maxRecDepth 100000 in
theorem cells_cell_size.calls (a6:ByteArray) (b0:ByteArray) (r:Int) (w:World) (h:cells_cell_size.f a6 b0=some r):
  Calls Tryz.prog 85 #[.agg #[.string a6,.string b0]] w fun e w'=>e=.returned (.int .i64 r)∧Below w.heap.size w w':=by
 (have hu124:=Tryz.underlying124);(have HB:=Aside0.mk (Below.refl w.heap.size w));(unfold cells_cell_size.f at h);(have H:=h);(clear h);(obtain rfl:=Option.some.inj H);(go_enter Tryz.func85,Tryz.ntmps85);(go_wp2_with (first|((with_reducible refine gate_dst (N:=1) rfl ?_);refine bx (N:=1) (cs:=#[.string a6,.string b0]) (t:=124) ⟨mvW HB.out⟩ ?_;clear HB;intro fw2 hg w2 hb eo4 eo5 HB;have fw3:=eo5;clear hb hg;have Z3:=b2 eo4)));(go_ret);(exact ⟨rv,mvW HB.out⟩)

/-! ### cells_Size: function 45 -/
def cells_Size.l0:Nat→Int→List (S42)→Int→Int→Option (Int)
 |0,_,_,_,_=>none
 |k+1,x3,x6,x7,x8=>if x8 < x7 then (if 0≤x8 then (if x8 < (x6.length:Int) then ((cells_cell_size.f ((rd_T42 x6 x8).f0) ((rd_T42 x6 x8).f1)).bind fun cq9=>(cells_Size.l0 k (wrap64 (x3+cq9)) x6 x7 (wrap64 (x8+1)))) else (none)) else (none)) else (some x3)
def cells_Size.f (k:Nat) (l0:List (S42)):Option (Int):=cells_Size.l0 k 0 l0 (l0.length:Int) 0
set_option maxHeartbeats 8000000 in
set_option maxRecDepth 100000 in
theorem cells_Size.calls (k:Nat) (A0:Option Addr) (c0:Nat) (l0:List (S42)) (r:Int) (w:World) (hr0:Kd.C k42 w A0 l0.length l0) (hc0:l0.length≤c0) (h:cells_Size.f k l0=some r):
  Calls Tryz.prog 45 #[.slice A0 l0.length c0] w fun e w'=>e=.returned (.int .i64 r)∧Below w.heap.size w w':=by
 (have hu42:=Tryz.underlying42);(have m9:=Aside0.mk hr0);(have D6:=Aside0.mk hc0);(clear hr0 hc0);(have HB:=Aside0.mk (Below.refl w.heap.size w));(unfold cells_Size.f at h);(have H:=h);(clear h);(have H':=Aside0.mk H);(clear H);(go_enter Tryz.func45,Tryz.ntmps45);(go_wp2);(go_loopg [3,8] k (fun kq v3 v8 w'=>∃ (i8:Int) (o7:Int),v3=.int .i64 i8∧v8=.int .i64 o7∧Aside0 (cells_Size.l0 kq i8 l0 (l0.length:Int) o7=some r)∧Aside0 (kq≤k)∧Aside0 (Below w.heap.size w w')))
 case atStart=>exact ⟨(0),(0),sd,sd,H',⟨Nat.le_refl _⟩,⟨mvW HB.out⟩⟩
 case round=>
  (clear H');(obtain ⟨i8,o7,rfl,rfl,HA,l7,HB⟩:=hrel)
  cases gk with
  |zero=>exact absurd HA.out (by simp [cells_Size.l0])
  |succ k1=>
   (have H:=HA.out);(clear HA);(simp only [cells_Size.l0] at H);(replace H:=sp H);(rcases H with ⟨X3,H⟩|⟨X3,H⟩)
   ·(replace H:=gd H);(obtain ⟨N6,H⟩:=H);(replace H:=gd H);(obtain ⟨p2,H⟩:=H);(replace H:=bs H);(obtain ⟨cq9,A5,H⟩:=H);(have H':=Aside0.mk H);(clear H);(obtain ⟨ad195,e195,hw195,hx195,pq195⟩:=rd42 HB m9 o7);(cases e195);(go_wp2_with (first|((with_reducible refine gate_dst (N:=5) rfl ?_);refine bx (N:=5) (cs:=#[.string (⟨#[]⟩:ByteArray),.string (⟨#[]⟩:ByteArray)]) (t:=42) ⟨mvW HB.out⟩ ?_;clear HB;intro eo6 hg w6 hb cr0 eo7 HB;have fw4:=eo7;clear hb hg;have Z7:=b2 cr0)|((with_reducible refine gate_callee (f:=85) rfl ?_);refine goesL_ (some 14) rfl rfl Tryz.func85 (by kernel_rfl) rfl #[.agg #[.string ((rd_T42 l0 o7).f0),.string ((rd_T42 l0 o7).f1)]] rfl am ?_;(with_reducible refine (cells_cell_size.calls ((rd_T42 l0 o7).f0) ((rd_T42 l0 o7).f1) cq9 _ A5.out).mono ?_);rintro e w8 ⟨rfl,hb⟩;refine ⟨_,rfl,?_⟩;replace cr0:=Aside0.mk (blk_below (g:=eo6) (o:=.cells #[.string ((rd_T42 l0 o7).f0),.string ((rd_T42 l0 o7).f1)] 42 (0,0)) (mvP cr0.out) hb);replace HB:=sb HB hb)));(go_roundg k1)
    case measure=>have:=l7.out;omega
    case rel=>exact ⟨(wrap64 (i8+cq9)),(wrap64 (o7+1)),sd,sd,H',⟨by have:=l7.out;omega⟩,⟨mvW HB.out⟩⟩
   ·(obtain rfl:=Option.some.inj H);(go_wp2);(go_ret);(exact ⟨rv,mvW HB.out⟩)

/-! ### merge_Under: function 15 -/
def merge_Under.f (k:Nat) (a6:Int) (b0:Int) (b5:Int) (b9:ByteArray) (d1:ByteArray) (d2:Bool) (d3:Int) (d0:Int) (b7:List Int) (a8:List (S42)) (f9:Int) (i4:Int) (i5:Int) (i9:ByteArray) (k5:ByteArray) (k6:Bool) (k8:Int) (j9:Int) (i6:List Int) (i7:List (S42)) (a2:Int):Option (Bool):=(merge_Beside.f k a6 b0 b5 b9 d1 d2 d3 d0 b7 a8 f9 i4 i5 i9 k5 k6 k8 j9 i6 i7).bind fun dz7=>(if dz7=true then ((cells_Size.f k a8).bind fun cz8=>((cells_Size.f k i7).bind fun cz9=>(some (decide ((wrap64 (cz8+cz9))≤a2))))) else (some false))
def merge_Under.T1:Bool×List (List Nat×List Nat):=(true,[([],[]),([],[]),([0,1],[0,1]),([2,2],[2]),([3],[3]),([4,3],[3,4]),([5,3,3],[3,5]),([3],[3]),([7,3],[3,7]),([8,6,3],[3,8]),([6,9,3],[3,6,9]),([3],[3]),([10,11,3],[3,10,11]),([3,12],[3,12]),([13,9,0,1,2,3,4,5,6,7,8,9,10,11,12,13],[13])])
def merge_Under.B1:List Nat:=[0,0,3,7,15,31,63,15,143,511,1023,15,4095,8191,16383]
theorem merge_Under.tab1:rtab .any (opsOf Tryz.f15 1)=merge_Under.T1:=by kernel_rfl
theorem merge_Under.bits1:waitsOk merge_Under.T1.2 merge_Under.B1=true:=by kernel_rfl
set_option maxHeartbeats 8000000 in
set_option maxRecDepth 100000 in
theorem merge_Under.calls (k:Nat) (a6:Int) (b0:Int) (b5:Int) (b9:ByteArray) (d1:ByteArray) (d2:Bool) (d3:Int) (d0:Int) (j6:Option Addr) (j7:Nat) (b7:List Int) (l5:Option Addr) (j8:Nat) (a8:List (S42)) (f9:Int) (i4:Int) (i5:Int) (i9:ByteArray) (k5:ByteArray) (k6:Bool) (k8:Int) (j9:Int) (o3:Option Addr) (o4:Nat) (i6:List Int) (o5:Option Addr) (o6:Nat) (i7:List (S42)) (a2:Int) (r:Bool) (w:World) (y4:Kd.C (Kd.int .u64) w j6 b7.length b7) (C1:b7.length≤j7) (s9:Kd.C k42 w l5 a8.length a8) (u7:a8.length≤j8) (af2:Kd.C (Kd.int .u64) w o3 i6.length i6) (af3:i6.length≤o4) (af4:Kd.C k42 w o5 i7.length i7) (af5:i7.length≤o6) (h:merge_Under.f k a6 b0 b5 b9 d1 d2 d3 d0 b7 a8 f9 i4 i5 i9 k5 k6 k8 j9 i6 i7 a2=some r):
  Calls Tryz.prog 15 #[.agg #[.int .u64 a6,.int .u64 b0,.int .u8 b5,.string b9,.string d1,.bool d2,.int .u64 d3,.int .u64 d0,.slice j6 b7.length j7,.slice l5 a8.length j8],.agg #[.int .u64 f9,.int .u64 i4,.int .u8 i5,.string i9,.string k5,.bool k6,.int .u64 k8,.int .u64 j9,.slice o3 i6.length o4,.slice o5 i7.length o6],.int .i64 a2] w fun e w'=>e=.returned (.bool r)∧Below w.heap.size w w':=by
 (have hu28:=Tryz.underlying28);(have t1:=Aside0.mk y4);(have t2:=Aside0.mk C1);(clear y4 C1);(have o1:=Aside0.mk s9);(have s3:=Aside0.mk u7);(clear s9 u7);(have S5:=Aside0.mk af2);(have S6:=Aside0.mk af3);(clear af2 af3);(have R8:=Aside0.mk af4);(have R9:=Aside0.mk af5);(clear af4 af5);(have HB:=Aside0.mk (Below.refl w.heap.size w));(unfold merge_Under.f at h);(have H:=h);(clear h);(replace H:=bs H);(obtain ⟨dz7,A4,H⟩:=H);(replace H:=sB H);(rcases H with ⟨rfl,H⟩|⟨rfl,H⟩)
 ·(replace H:=bs H);(obtain ⟨cz8,A6,H⟩:=H);(replace H:=bs H);(obtain ⟨cz9,A7,H⟩:=H);(obtain rfl:=Option.some.inj H);(go_enter Tryz.func15,Tryz.ntmps15);(try go_wp2_with (first|((with_reducible refine gate_dst (N:=3) rfl ?_);refine bx (N:=3) (cs:=#[.int .u64 a6,.int .u64 b0,.int .u8 b5,.string b9,.string d1,.bool d2,.int .u64 d3,.int .u64 d0,.slice j6 b7.length j7,.slice l5 a8.length j8]) (t:=28) ⟨mvW HB.out⟩ ?_;clear HB;intro ep0 hg w8 hb G6 cr1 HB;have ep1:=cr1;clear hb hg)|((with_reducible refine gate_dst (N:=4) rfl ?_);refine bx (N:=4) (cs:=#[.int .u64 f9,.int .u64 i4,.int .u8 i5,.string i9,.string k5,.bool k6,.int .u64 k8,.int .u64 j9,.slice o3 i6.length o4,.slice o5 i7.length o6]) (t:=28) ⟨mvW HB.out⟩ ?_;clear HB;intro ep2 hg w9 hb P6 cr2 HB;have ep3:=cr2;have cu3:=nbl hg G6;have cu4:=nbg hg G6;replace G6:=bb G6 hb;clear hb hg)));(replace G6:=bd G6);(replace P6:=bd P6);(replace HB:=wd HB);(refine st2 (bm 15 0) (cc10 G6) (cc10 P6) merge_Under.tab1 merge_Under.bits1 (fun a7 HT_ HW_=>?_));(generalize w9.drew=w10 at G6 P6 HB a7 ⊢);(refine tk 0 7 (bv 1 14) HT_ HW_ a7 ?_);(refine tk 1 8 (bv 2 13) HT_ HW_ a7 ?_);(refine on 2 (some 9) (bv 3 12) HT_ (fun K hK=>?_));(refine goes_ Tryz.func13 (by kernel_rfl) rfl #[.agg #[.int .u64 a6,.int .u64 b0,.int .u8 b5,.string b9,.string d1,.bool d2,.int .u64 d3,.int .u64 d0,.slice j6 b7.length j7,.slice l5 a8.length j8],.agg #[.int .u64 f9,.int .u64 i4,.int .u8 i5,.string i9,.string k5,.bool k6,.int .u64 k8,.int .u64 j9,.slice o3 i6.length o4,.slice o5 i7.length o6]] (by rfl) rfl rfl am ?_);(with_reducible refine (merge_Beside.calls k a6 b0 b5 b9 d1 d2 d3 d0 _ _ b7 _ _ a8 f9 i4 i5 i9 k5 k6 k8 j9 _ _ i6 _ _ i7 true _ ?_ ?_ ?_ ?_ ?_ ?_ ?_ ?_ A4.out).mono ?_);(exact mvC (Kd.C_below t1.out HB.out));(exact t2.out);(exact mvC (Kd.C_below o1.out HB.out));(exact s3.out);(exact mvC (Kd.C_below S5.out HB.out));(exact S6.out);(exact mvC (Kd.C_below R8.out HB.out));(exact R9.out);(rintro e w11 ⟨rfl,hb⟩);(refine ⟨_,rfl,?_⟩);(replace G6:=bb G6 hb);(replace P6:=bb P6 hb);(replace HB:=sb HB hb);(clear hb);(refine hK.out _ _ ⟨cc10 G6,cc10 P6⟩ (fun a7=>?_));(clear hK K);(refine nm 9 ?_);(refine pu2 3 10 (bv 5 10) HT_ ?_);(refine pu 7 14 (bm 15 159) HT_ ?_);(refine pu 11 18 (bm 15 2207) HT_ ?_);(refine tk 5 12 (bm 15 2239) HT_ HW_ a7 ?_);(refine tk 8 15 (bm 15 2495) HT_ HW_ a7 ?_);(refine on 6 (some 13) (bm 15 2559) HT_ (fun K hK=>?_));(refine goes_ Tryz.func45 (by kernel_rfl) rfl #[.slice l5 a8.length j8] (by rfl) rfl rfl am ?_);(with_reducible refine (cells_Size.calls k _ _ a8 cz8 _ ?_ ?_ A6.out).mono ?_);(exact mvC (Kd.C_below o1.out HB.out));(exact s3.out);(rintro e w12 ⟨rfl,hb⟩);(refine ⟨_,rfl,?_⟩);(replace G6:=bb G6 hb);(replace P6:=bb P6 hb);(replace HB:=sb HB hb);(clear hb);(refine hK.out _ _ ⟨cc10 G6,cc10 P6⟩ (fun a7=>?_));(clear hK K);(refine nm 13 ?_);(refine on 9 (some 16) (bm 15 3071) HT_ (fun K hK=>?_));(refine goes_ Tryz.func45 (by kernel_rfl) rfl #[.slice o5 i7.length o6] (by rfl) rfl rfl am ?_);(with_reducible refine (cells_Size.calls k _ _ i7 cz9 _ ?_ ?_ A7.out).mono ?_);(exact mvC (Kd.C_below R8.out HB.out));(exact R9.out);(rintro e w13 ⟨rfl,hb⟩);(refine ⟨_,rfl,?_⟩);(replace G6:=bb G6 hb);(replace P6:=bb P6 hb);(replace HB:=sb HB hb);(clear hb);(refine hK.out _ _ ⟨cc10 G6,cc10 P6⟩ (fun a7=>?_));(clear hK K);(refine nm 16 ?_);(refine pu 10 17 (bv 12 3) HT_ ?_);(refine pu2 12 19 (bv 14 1) HT_ ?_);(refine pu 14 6 (bv 15 0) HT_ ?_);(refine done_ (done_of HT_.out (by kernel_rfl)) ?_);(try go_wp2);(go_ret);(exact ⟨rv,mvW HB.out⟩)
 ·(obtain rfl:=Option.some.inj H);(go_enter Tryz.func15,Tryz.ntmps15);(try go_wp2_with (first|((with_reducible refine gate_dst (N:=3) rfl ?_);refine bx (N:=3) (cs:=#[.int .u64 a6,.int .u64 b0,.int .u8 b5,.string b9,.string d1,.bool d2,.int .u64 d3,.int .u64 d0,.slice j6 b7.length j7,.slice l5 a8.length j8]) (t:=28) ⟨mvW HB.out⟩ ?_;clear HB;intro ep0 hg w14 hb G6 cr1 HB;have ep1:=cr1;clear hb hg)|((with_reducible refine gate_dst (N:=4) rfl ?_);refine bx (N:=4) (cs:=#[.int .u64 f9,.int .u64 i4,.int .u8 i5,.string i9,.string k5,.bool k6,.int .u64 k8,.int .u64 j9,.slice o3 i6.length o4,.slice o5 i7.length o6]) (t:=28) ⟨mvW HB.out⟩ ?_;clear HB;intro ep2 hg w15 hb P6 cr2 HB;have ep3:=cr2;have cu3:=nbl hg G6;have cu4:=nbg hg G6;replace G6:=bb G6 hb;clear hb hg)));(replace G6:=bd G6);(replace P6:=bd P6);(replace HB:=wd HB);(refine st2 (bm 15 0) (cc10 G6) (cc10 P6) merge_Under.tab1 merge_Under.bits1 (fun a7 HT_ HW_=>?_));(generalize w15.drew=w16 at G6 P6 HB a7 ⊢);(refine tk 0 7 (bv 1 14) HT_ HW_ a7 ?_);(refine tk 1 8 (bv 2 13) HT_ HW_ a7 ?_);(refine on 2 (some 9) (bv 3 12) HT_ (fun K hK=>?_));(refine goes_ Tryz.func13 (by kernel_rfl) rfl #[.agg #[.int .u64 a6,.int .u64 b0,.int .u8 b5,.string b9,.string d1,.bool d2,.int .u64 d3,.int .u64 d0,.slice j6 b7.length j7,.slice l5 a8.length j8],.agg #[.int .u64 f9,.int .u64 i4,.int .u8 i5,.string i9,.string k5,.bool k6,.int .u64 k8,.int .u64 j9,.slice o3 i6.length o4,.slice o5 i7.length o6]] (by rfl) rfl rfl am ?_);(with_reducible refine (merge_Beside.calls k a6 b0 b5 b9 d1 d2 d3 d0 _ _ b7 _ _ a8 f9 i4 i5 i9 k5 k6 k8 j9 _ _ i6 _ _ i7 false _ ?_ ?_ ?_ ?_ ?_ ?_ ?_ ?_ A4.out).mono ?_);(exact mvC (Kd.C_below t1.out HB.out));(exact t2.out);(exact mvC (Kd.C_below o1.out HB.out));(exact s3.out);(exact mvC (Kd.C_below S5.out HB.out));(exact S6.out);(exact mvC (Kd.C_below R8.out HB.out));(exact R9.out);(rintro e w17 ⟨rfl,hb⟩);(refine ⟨_,rfl,?_⟩);(replace G6:=bb G6 hb);(replace P6:=bb P6 hb);(replace HB:=sb HB hb);(clear hb);(refine hK.out _ _ ⟨cc10 G6,cc10 P6⟩ (fun a7=>?_));(clear hK K);(refine nm 9 ?_);(refine pu 3 10 (bv 4 11) HT_ ?_);(refine pn8 4 11 (bv 12 3) HT_ ?_);(refine pn 12 19 (bv 13 2) HT_ ?_);(refine pu 13 20 (bv 14 1) HT_ ?_);(refine pu 14 6 (bv 15 0) HT_ ?_);(refine done_ (done_of HT_.out (by kernel_rfl)) ?_);(try go_wp2);(go_ret);(exact ⟨rv,mvW HB.out⟩)

/-! ### sort_Search: function 109 -/
/-- Go's binary search from i to j. -/
def bsearch (p:Nat→Bool) (i j:Nat):Nat:=
 if h:i < j then (if p ((i+j) / 2) then bsearch p i ((i+j) / 2) else bsearch p ((i+j) / 2+1) j) else i
 termination_by j - i
 decreasing_by all_goals omega
theorem bsearch_done (p:Nat→Bool) (i:Nat):bsearch p i i=i:=by unfold bsearch;rw [dif_neg (by omega)]
theorem bsearch_yes {p:Nat→Bool} {i j:Nat} (h:i < j) (hp:p ((i+j) / 2)=true):bsearch p i j=bsearch p i ((i+j) / 2):=by rw [bsearch,dif_pos h,if_pos hp]
theorem bsearch_no {p:Nat→Bool} {i j:Nat} (h:i < j) (hp:p ((i+j) / 2)=false):bsearch p i j=bsearch p ((i+j) / 2+1) j:=by rw [bsearch,dif_pos h,if_neg (by rw [hp];simp)]
set_option maxHeartbeats 4000000 in
set_option maxRecDepth 100000 in
theorem search_calls (g:Nat) (cb:Array Value) (n:Nat) (p:Nat→Bool) (w:World) (eg:∀ args w,(callFunc g args).run Tryz.prog w=.ok (.enter g args) w) (hsz:n < 4611686018427387904)
  (hf:∀ (W:World) (i:Nat),Below w.heap.size w W→i < n→Calls Tryz.prog g (#[.int .i64 i]++cb) W fun e w'=>e=.returned (.bool (p i))∧Below W.heap.size W w'):
  Calls Tryz.prog 109 #[.int .i64 n,.func (.func g) #[] cb] w fun e w'=>e=.returned (.int .i64 (bsearch p 0 n:Nat))∧Below w.heap.size w w':=by
 have HF:Aside0 _:=⟨hf⟩
 clear hf
 obtain ⟨r,hr⟩:∃ r,r=bsearch p 0 n:=⟨_,rfl⟩
 rw [← hr]
 have HR:Aside0 (bsearch p 0 n=r):=⟨hr.symm⟩
 clear hr
 go_enter Tryz.func109,Tryz.ntmps109
 go_wp2
 go_loopg [5,6] n (fun kx s5 s6 wr=>∃ (lo hi:Nat),s5=.int .i64 lo∧s6=.int .i64 hi∧lo≤hi∧hi≤n∧hi - lo≤kx∧Aside0 (Below w.heap.size w wr)∧Aside0 (bsearch p lo hi=r))
 case atStart=>exact ⟨0,n,rfl,rfl,Nat.zero_le _,Nat.le_refl _,by omega,⟨Below.refl _ _⟩,HR⟩
 case round=>
  obtain ⟨lo,hi,rfl,rfl,hlh,hin,hg,HB,I⟩:=hrel
  by_cases hlt:lo < hi
  ·have hc:=HF.out wr ((lo+hi) / 2) HB.out (by omega)
   rw [show (((lo+hi) / 2:Nat):Int)=((lo:Int)+(hi:Int)) / 2 by omega] at hc
   cases hp:p ((lo+hi) / 2) <;> rw [hp] at hc
   ·have HP:Aside0 (p ((lo+hi) / 2)=false):=⟨hp⟩
    clear hp
    go_wp2_with (go_at_fn g;refine hc.mono ?_;rintro e w1 ⟨rfl,hb1⟩)
    go_roundg (hi - ((lo+hi) / 2+1))
    case measure=>omega
    case rel=>exact ⟨(lo+hi) / 2+1,hi,by rw [show ((lo:Int)+(hi:Int)) / 2+1=(((lo+hi) / 2+1:Nat):Int) by omega],rfl,by omega,hin,Nat.le_refl _,⟨below_step HB.out hb1⟩,⟨(bsearch_no hlt HP.out).symm.trans I.out⟩⟩
   ·have HP:Aside0 (p ((lo+hi) / 2)=true):=⟨hp⟩
    clear hp
    go_wp2_with (go_at_fn g;refine hc.mono ?_;rintro e w1 ⟨rfl,hb1⟩)
    go_roundg ((lo+hi) / 2 - lo)
    case measure=>omega
    case rel=>exact ⟨lo,(lo+hi) / 2,rfl,by rw [show ((lo:Int)+(hi:Int)) / 2=(((lo+hi) / 2:Nat):Int) by omega],by omega,by omega,Nat.le_refl _,⟨below_step HB.out hb1⟩,⟨(bsearch_yes hlt HP.out).symm.trans I.out⟩⟩
  ·obtain rfl:hi=lo:=by omega
   have e:=I.out
   rw [bsearch_done] at e
   subst e
   go_wp2
   go_ret
   exact ⟨rfl,HB.out⟩
theorem bsearch_le0 (p:Nat→Bool):∀ (d i j:Nat),j - i=d→i≤j→i≤bsearch p i j∧bsearch p i j≤j:=by
 intro d
 induction d using Nat.strongRecOn with
 |_ d ih=>
  intro i j hd hij
  by_cases h:i < j
  ·cases hp:p ((i+j) / 2)
   ·rw [bsearch_no h hp]
    have:=ih (j - ((i+j) / 2+1)) (by omega) ((i+j) / 2+1) j rfl (by omega)
    omega
   ·rw [bsearch_yes h hp]
    have:=ih ((i+j) / 2 - i) (by omega) i ((i+j) / 2) rfl (by omega)
    omega
  ·obtain rfl:i=j:=by omega
   rw [bsearch_done]
   omega

/-! ### cells_At: function 86 -/
/-- Is a text greater than another one? -/
def cells_At_gt (a b:ByteArray):Bool:=Op.bytesLess b.toList a.toList
def cells_At.f (k:Nat) (l0:List S42) (a1:ByteArray):Option (Int):=(cells_Right.f k l0).bind fun t=>if t=true then (if l0.length < 4611686018427387904 then some (((bsearch (fun i=>cells_At_gt (rd_T42 l0 i).f0 a1) 0 l0.length:Nat):Int) - 1) else none) else some (-1)
set_option maxHeartbeats 4000000 in
theorem cells_At_clo_calls (ba bx:Nat) (A0:Option Addr) (c:Nat) (l:List S42) (x:ByteArray) (i:Nat) (W:World) (hi:i < l.length) (hr:Kd.C k42 W A0 l.length l)
  (ha:W.cell? ⟨ba,0,none⟩=some (.slice A0 l.length c)) (hx:W.cell? ⟨bx,0,none⟩=some (.string x)):
  Calls Tryz.prog 125 (#[.int .i64 i]++#[.pointer (some ⟨ba,0,none⟩),.pointer (some ⟨bx,0,none⟩)]) W fun e w'=>e=.returned (.bool (cells_At_gt (rd_T42 l i).f0 x))∧Below W.heap.size W w':=by
 obtain ⟨ad,rfl,hc,_⟩:=at_T42 hr i (by omega) (by omega)
 rw [Int.toNat_natCast] at hc
 generalize rd_T42 l i=y at hc ⊢
 have hiz:(i:Int) < (l.length:Int):=by omega
 have hu:=Tryz.underlying42
 clear hr
 go_enter Tryz.func125,Tryz.ntmps125
 go_wp2
 go_region
 all_goals go_wp2
 all_goals go_ret
 all_goals exact ⟨by first|rfl|simp,below_drew1 (Below.refl _ _)⟩
set_option maxHeartbeats 4000000 in
theorem cells_At_above (A0:Option Addr) (n c0:Nat) (x:ByteArray) (w:World):Calls Tryz.prog 108 #[.slice A0 n c0,.string x] w fun e w'=>
  e=.returned (.func (.func 125) #[] #[.pointer (some ⟨w.heap.size,0,none⟩),.pointer (some ⟨w.heap.size+1,0,none⟩)])∧w'=(w.alloc (.cells #[.slice A0 n c0] 147)).alloc (.cells #[.string x] 9):=by
 have hmf:∀ (fn:Fn) (first cap:Array Value) (w:World),(Instr.makeFunc fn first cap).run Tryz.prog w=.ok (.func fn first cap) w:=fun _ _ _ _=>rfl
 go_enter Tryz.func108,Tryz.ntmps108
 go_wp2
 go_ret
 exact ⟨rfl,rfl⟩
set_option maxHeartbeats 4000000 in
set_option maxRecDepth 100000 in
theorem cells_At.calls (k:Nat) (A0:Option Addr) (c0:Nat) (l0:List S42) (a1:ByteArray) (r:Int) (w:World) (hr0:Kd.C k42 w A0 l0.length l0) (hc0:l0.length≤c0) (h:cells_At.f k l0 a1=some r):
  Calls Tryz.prog 86 #[.slice A0 l0.length c0,.string a1] w fun e w'=>e=.returned (.int .i64 r)∧Below w.heap.size w w':=by
 obtain ⟨t,ht,h⟩:=Option.bind_eq_some_iff.1 h
 have hR:=cells_Right.calls k A0 c0 l0 t w hr0 hc0 ht
 cases t
 ·rw [if_neg (by simp)] at h
  obtain rfl:=Option.some.inj h
  go_enter Tryz.func86,Tryz.ntmps86
  go_wp2_with (go_at_call 69;refine hR.mono ?_;rintro e w1 ⟨rfl,hb⟩;have HB:=Aside0.mk hb;clear hb)
  go_ret
  exact ⟨rfl,HB.out⟩
 ·rw [if_pos rfl] at h
  have hlen:l0.length < 4611686018427387904:=by
   by_cases hl:l0.length < 4611686018427387904
   ·exact hl
   ·rw [if_neg hl] at h;cases h
  rw [if_pos hlen] at h
  obtain rfl:=Option.some.inj h
  clear h
  have eg:∀ args w,(callFunc 125 args).run Tryz.prog w=.ok (.enter 125 args) w:=enters_of Tryz.func125 (by kernel_rfl) rfl
  have hS:∀ w1,Below w.heap.size w w1→Calls Tryz.prog 109 #[.int .i64 l0.length,.func (.func 125) #[] #[.pointer (some ⟨w1.heap.size,0,none⟩),.pointer (some ⟨w1.heap.size+1,0,none⟩)]] ((w1.alloc (.cells #[.slice A0 l0.length c0] 147)).alloc (.cells #[.string a1] 9))
    fun e w'=>e=.returned (.int .i64 (bsearch (fun i=>cells_At_gt (rd_T42 l0 i).f0 a1) 0 l0.length:Nat))∧Below w.heap.size w w':=by
   intro w1 hb1
   obtain ⟨W0,hW0⟩:∃ W0,W0=(w1.alloc (.cells #[.slice A0 l0.length c0] 147)).alloc (.cells #[.string a1] 9):=⟨_,rfl⟩
   have hB0:Below w.heap.size w W0:=by rw [hW0];exact below_alloc (below_alloc hb1 _) _
   have ca:W0.cell? ⟨w1.heap.size,0,none⟩=some (.slice A0 l0.length c0):=by
    rw [hW0];exact (blk_cell (blk_alloc (blk_new w1 _) _) 0).trans rfl
   have cx:W0.cell? ⟨w1.heap.size+1,0,none⟩=some (.string a1):=by
    have hb:=blk_new (w1.alloc (.cells #[.slice A0 l0.length c0] 147)) (.cells #[.string a1] 9)
    rw [World.size_alloc] at hb
    rw [hW0]
    exact (blk_cell hb 0).trans rfl
   rw [← hW0]
   refine (search_calls 125 #[.pointer (some ⟨w1.heap.size,0,none⟩),.pointer (some ⟨w1.heap.size+1,0,none⟩)] l0.length (fun i=>cells_At_gt (rd_T42 l0 i).f0 a1) W0 eg hlen
    (fun W i hB hi=>cells_At_clo_calls w1.heap.size (w1.heap.size+1) A0 c0 l0 a1 i W hi (Kd.C_below (Kd.C_below hr0 hB0) hB) (pw_cell_below hB ca) (pw_cell_below hB cx))).mono ?_
   rintro e w' ⟨rfl,hb⟩
   exact ⟨rfl,below_step hB0 hb⟩
  have hle:=(bsearch_le0 (fun i=>cells_At_gt (rd_T42 l0 i).f0 a1) l0.length 0 l0.length rfl (Nat.zero_le _)).2
  have HS:=Aside0.mk hS
  generalize bsearch (fun i=>cells_At_gt (rd_T42 l0 i).f0 a1) 0 l0.length=r at HS hle ⊢
  have hw:wrap64 ((r:Int) - 1)=(r:Int) - 1:=by unfold wrap64;omega
  clear hS hr0 hle hlen
  go_enter Tryz.func86,Tryz.ntmps86
  go_wp2_with (go_at_call 69;refine hR.mono ?_;rintro e w1 ⟨rfl,hb⟩;have HB:=Aside0.mk hb;clear hb)
  refine (cells_At_above A0 l0.length c0 a1 w1).mono ?_
  rintro e w2 ⟨rfl,rfl⟩
  go_wp2_with (go_at_call 109;refine (HS.out w1 HB.out).mono ?_;rintro e w3 ⟨rfl,hb⟩;have S4:=Aside0.mk hb;clear hb)
  go_ret
  exact ⟨by show Ending.returned (.int .i64 (wrap64 ((r:Int) - 1)))=_;rw [hw],S4.out⟩

/-! ### cells_Find: function 47 -/
def cells_Find.f (k:Nat) (l0:List (S42)) (a1:ByteArray):Option (ByteArray×Bool):=(cells_At.f k l0 a1).bind fun R5=>(if R5≥0 then (if 0≤R5 then (if R5 < (l0.length:Int) then (if ((rd_T42 l0 R5).f0).toList=a1.toList then (some ((rd_T42 l0 R5).f1,true)) else (some ((⟨#[]⟩:ByteArray),false))) else (none)) else (none)) else (some ((⟨#[]⟩:ByteArray),false)))
set_option maxHeartbeats 8000000 in
set_option maxRecDepth 100000 in
theorem cells_Find.calls (k:Nat) (A0:Option Addr) (c0:Nat) (l0:List (S42)) (a1:ByteArray) (r1:ByteArray) (r2:Bool) (w:World) (hr0:Kd.C k42 w A0 l0.length l0) (hc0:l0.length≤c0) (h:cells_Find.f k l0 a1=some (r1,r2)):
  Calls Tryz.prog 47 #[.slice A0 l0.length c0,.string a1] w fun e w'=>e=.returned (.tuple #[.string r1,.bool r2])∧Below w.heap.size w w':=by
 (have m9:=Aside0.mk hr0);(have D6:=Aside0.mk hc0);(clear hr0 hc0);(have HB:=Aside0.mk (Below.refl w.heap.size w));(unfold cells_Find.f at h);(have H:=h);(clear h);(replace H:=bs H);(obtain ⟨R5,A3,H⟩:=H);(replace H:=spe H);(rcases H with ⟨p2,H⟩|⟨p2,H⟩)
 ·(replace H:=gd H);(obtain ⟨S1,H⟩:=H);(replace H:=gd H);(obtain ⟨J0,H⟩:=H);(by_cases c7:((rd_T42 l0 R5).f0).toList=a1.toList)
  ·(rw [if_pos c7] at H);(have T6:(((rd_T42 l0 R5).f0).toList==a1.toList)=true:=beq_iff_eq.mpr c7);(have cc0:(((rd_T42 l0 R5).f0).toList != a1.toList)=false:=bne_eq_false_iff_eq.mpr c7);(clear c7);(simp only [Option.some.injEq,Prod.mk.injEq] at H);(obtain ⟨rfl,rfl⟩:=H);(go_enter Tryz.func47,Tryz.ntmps47);(go_wp2_with (first|((with_reducible refine gate_callee (f:=86) rfl ?_);refine goesL_ (some 9) rfl rfl Tryz.func86 (by kernel_rfl) rfl #[.slice A0 l0.length c0,.string a1] rfl am ?_;(with_reducible refine (cells_At.calls k _ _ l0 a1 R5 _ ?_ ?_ A3.out).mono ?_);(exact mvC m9.out);(exact D6.out);rintro e w8 ⟨rfl,hb⟩;refine ⟨_,rfl,?_⟩;replace HB:=sb HB hb;clear hb;have bm9:0≤(R5:Int):=od;have bn0:R5 < (l0.length:Int):=od;obtain ⟨ad204,e204,av2,av3⟩:=at_T42 m9.out R5 bm9 bn0;cases e204;replace av2:=ct HB av2;replace av3:=ct HB av3;replace bm9:=eq_true bm9;replace bn0:=eq_true bn0;have da0:0≤(R5:Int):=od;have da1:R5 < (l0.length:Int):=od;obtain ⟨ad205,e205,ci2,ci3⟩:=at_T42 m9.out R5 da0 da1;obtain rfl:ad204=ad205:=(by injection e205);replace ci2:=ct HB ci2;replace ci3:=ct HB ci3;replace da0:=eq_true da0;replace da1:=eq_true da1)));(go_ret2);(exact ⟨rv,mvW HB.out⟩)
  ·(rw [if_neg c7] at H);(have T6:(((rd_T42 l0 R5).f0).toList==a1.toList)=false:=beq_eq_false_iff_ne.mpr c7);(have cc0:(((rd_T42 l0 R5).f0).toList != a1.toList)=true:=bne_iff_ne.mpr c7);(simp only [Option.some.injEq,Prod.mk.injEq] at H);(obtain ⟨rfl,rfl⟩:=H);(go_enter Tryz.func47,Tryz.ntmps47);(go_wp2_with (first|((with_reducible refine gate_callee (f:=86) rfl ?_);refine goesL_ (some 9) rfl rfl Tryz.func86 (by kernel_rfl) rfl #[.slice A0 l0.length c0,.string a1] rfl am ?_;(with_reducible refine (cells_At.calls k _ _ l0 a1 R5 _ ?_ ?_ A3.out).mono ?_);(exact mvC m9.out);(exact D6.out);rintro e w9 ⟨rfl,hb⟩;refine ⟨_,rfl,?_⟩;replace HB:=sb HB hb;clear hb;have bm9:0≤(R5:Int):=od;have bn0:R5 < (l0.length:Int):=od;obtain ⟨ad204,e204,av2,av3⟩:=at_T42 m9.out R5 bm9 bn0;cases e204;replace av2:=ct HB av2;replace av3:=ct HB av3;replace bm9:=eq_true bm9;replace bn0:=eq_true bn0)));(go_ret2);(exact ⟨rv,mvW HB.out⟩)
 ·(simp only [Option.some.injEq,Prod.mk.injEq] at H);(obtain ⟨rfl,rfl⟩:=H);(go_enter Tryz.func47,Tryz.ntmps47);(go_wp2_with (first|((with_reducible refine gate_callee (f:=86) rfl ?_);refine goesL_ (some 9) rfl rfl Tryz.func86 (by kernel_rfl) rfl #[.slice A0 l0.length c0,.string a1] rfl am ?_;(with_reducible refine (cells_At.calls k _ _ l0 a1 R5 _ ?_ ?_ A3.out).mono ?_);(exact mvC m9.out);(exact D6.out);rintro e w10 ⟨rfl,hb⟩;refine ⟨_,rfl,?_⟩;replace HB:=sb HB hb)));(go_ret2);(exact ⟨rv,mvW HB.out⟩)

end Go.Proofs.YtmfaopjfdedheaaGreat.F
