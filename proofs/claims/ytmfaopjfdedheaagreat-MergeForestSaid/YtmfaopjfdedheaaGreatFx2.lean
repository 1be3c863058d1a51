-- PRINTED by print.py (a twelfth state) out of the translation. Not trusted: Lean checks it.
import Derived.Test.YtmfaopjfdedheaaGreatSv
import Derived.Test.YtmfaopjfdedheaaGreatSh
import Derived.Test.YtmfaopjfdedheaaGreatMv
import Derived.Test.YtmfaopjfdedheaaGreatFx0
namespace Go.Proofs.YtmfaopjfdedheaaGreat.F
open Go.RowKit Go.Proofs.YtmfaopjfdedheaaGreatW Go.Proofs.YtmfaopjfdedheaaGreatW.PrintWords Go.Proofs.YtmfaopjfdedheaaGreatW.PrintLast Go.Proofs.YtmfaopjfdedheaaGreatW.PrintMore
attribute [local go_sem] GpMore.bytes_le max2_int min2_int max_two min_two max_three min_three max_four min_four   -- for this text's walks alone
set_option linter.unusedVariables false
set_option linter.unusedSimpArgs false

/-! ### api_Errno: function 36 -/
def api_Errno.l0:Nat→Int→List Int→Int→Int→Option (Bool)
 |0,_,_,_,_=>none
 |k+1,x0,x7,x8,x9=>if x9 < x8 then (if 0≤x9 then (if x9 < (x7.length:Int) then (if (rd x7 x9)=x0 then (api_Errno.l0 k x0 x7 x8 (wrap64 (x9+1))) else (some false)) else (none)) else (none)) else (some true)
def api_Errno.f (k:Nat) (a0:Int) (l1:List Int):Option (Bool):=api_Errno.l0 k a0 l1 (l1.length:Int) 0
set_option maxHeartbeats 8000000 in
set_option maxRecDepth 100000 in
theorem api_Errno.calls (k:Nat) (a0:Int) (A1:Option Addr) (c1:Nat) (l1:List Int) (r:Bool) (w:World) (hr1:Kd.C (Kd.int .i64) w A1 l1.length l1) (hc1:l1.length≤c1) (h:api_Errno.f k a0 l1=some r):
  Calls Tryz.prog 36 #[.int .i64 a0,.slice A1 l1.length c1] w fun e w'=>e=.returned (.bool r)∧Drawn0 w w':=by
 (have HR1:=Aside0.mk hr1);(have HC1:=Aside0.mk hc1);(clear hr1 hc1);(unfold api_Errno.f at h);(have H:=h);(clear h);(have H':=Aside0.mk H);(clear H);(go_enter Tryz.func36,Tryz.ntmps36);(go_wp2);(go_loopg [9] k (fun kq v9 w'=>∃ (E1:Int),v9=.int .i64 E1∧Aside0 (api_Errno.l0 kq a0 l1 (l1.length:Int) E1=some r)∧Aside0 (kq≤k)∧Drawn0 w w'))
 case atStart=>exact ⟨(0),sd,H',⟨Nat.le_refl _⟩,by repeat (first|exact Drawn0.refl _ |apply Drawn0.step)⟩
 case round=>
  (clear H');(obtain ⟨E1,rfl,HA,l7,⟨m1,rfl⟩⟩:=hrel)
  cases gk with
  |zero=>exact absurd HA.out (by simp [api_Errno.l0])
  |succ k1=>
   (have H:=HA.out);(clear HA);(simp only [api_Errno.l0] at H);(replace H:=sp H);(rcases H with ⟨N6,H⟩|⟨N6,H⟩)
   ·(replace H:=gd H);(obtain ⟨p2,H⟩:=H);(replace H:=gd H);(obtain ⟨S1,H⟩:=H);(by_cases c6:(rd l1 E1)=a0)
    ·(rw [if_pos c6] at H);(have J0:((rd l1 E1)==a0)=true:=beq_iff_eq.mpr c6);(have az6:((rd l1 E1) != a0)=false:=bne_eq_false_iff_eq.mpr c6);(clear c6);(have H':=Aside0.mk H);(clear H);(have bk5:0≤(E1:Int):=od);(have bk6:E1 < (l1.length:Int):=od);(obtain ⟨ad101,e101,dk6⟩:=Kd.at_int HR1.out E1 bk5 bk6);(cases e101);(replace bk5:=eq_true bk5);(replace bk6:=eq_true bk6);(go_wp2);(go_roundg k1)
     case measure=>have:=l7.out;omega
     case rel=>exact ⟨(wrap64 (E1+1)),sd,H',⟨by have:=l7.out;omega⟩,by repeat (first|exact Drawn0.refl _ |apply Drawn0.step)⟩
    ·(rw [if_neg c6] at H);(have J0:((rd l1 E1)==a0)=false:=beq_eq_false_iff_ne.mpr c6);(have az6:((rd l1 E1) != a0)=true:=bne_iff_ne.mpr c6);(obtain rfl:=Option.some.inj H);(have bk5:0≤(E1:Int):=od);(have bk6:E1 < (l1.length:Int):=od);(obtain ⟨ad101,e101,dk6⟩:=Kd.at_int HR1.out E1 bk5 bk6);(cases e101);(replace bk5:=eq_true bk5);(replace bk6:=eq_true bk6);(go_wp2);(go_ret);(exact ⟨by first|rfl|(simp;done)|(simp [*];done),by repeat (first|exact Drawn0.refl _ |apply Drawn0.step)⟩)
   ·(obtain rfl:=Option.some.inj H);(go_wp2);(go_ret);(exact ⟨by first|rfl|(simp;done)|(simp [*];done),by repeat (first|exact Drawn0.refl _ |apply Drawn0.step)⟩)

/-! ### page_Range: function 20 -/
def page_Range.f (a6:Int) (b0:Int) (b5:Int) (b9:ByteArray) (d1:ByteArray) (d2:Bool) (d3:Int) (d0:Int) (b7:List Int) (a8:List (S42)):Option (ByteArray×ByteArray×Bool):=some (b9,d1,d2)
set_option maxHeartbeats 8000000 in
set_option maxRecDepth 100000 in
theorem page_Range.calls (a6:Int) (b0:Int) (b5:Int) (b9:ByteArray) (d1:ByteArray) (d2:Bool) (d3:Int) (d0:Int) (j6:Option Addr) (j7:Nat) (b7:List Int) (l5:Option Addr) (j8:Nat) (a8:List (S42)) (r1:ByteArray) (r2:ByteArray) (r3:Bool) (w:World) (y4:Kd.C (Kd.int .u64) w j6 b7.length b7) (C1:b7.length≤j7) (s9:Kd.C k42 w l5 a8.length a8) (u7:a8.length≤j8) (h:page_Range.f a6 b0 b5 b9 d1 d2 d3 d0 b7 a8=some (r1,r2,r3)):
  Calls Tryz.prog 20 #[.agg #[.int .u64 a6,.int .u64 b0,.int .u8 b5,.string b9,.string d1,.bool d2,.int .u64 d3,.int .u64 d0,.slice j6 b7.length j7,.slice l5 a8.length j8]] w fun e w'=>e=.returned (.agg #[.string r1,.string r2,.bool r3])∧Below w.heap.size w w':=by
 (have hu28:=Tryz.underlying28);(have hu50:=Tryz.underlying50);(have t1:=Aside0.mk y4);(have t2:=Aside0.mk C1);(clear y4 C1);(have o1:=Aside0.mk s9);(have s3:=Aside0.mk u7);(clear s9 u7);(have HB:=Aside0.mk (Below.refl w.heap.size w));(unfold page_Range.f at h);(have H:=h);(clear h);(simp only [Option.some.injEq,Prod.mk.injEq] at H);(obtain ⟨rfl,rfl,rfl⟩:=H);(go_enter Tryz.func20,Tryz.ntmps20);(go_wp2_with (first|((with_reducible refine gate_dst (N:=1) rfl ?_);refine bx (N:=1) (cs:=#[.int .u64 a6,.int .u64 b0,.int .u8 b5,.string b9,.string d1,.bool d2,.int .u64 d3,.int .u64 d0,.slice j6 b7.length j7,.slice l5 a8.length j8]) (t:=28) ⟨mvW HB.out⟩ ?_;clear HB;intro fp7 hg w2 hb bq1 eh7 HB;have fp8:=eh7;clear hb hg)|((with_reducible refine gate_dst (N:=2) rfl ?_);refine bx (N:=2) (cs:=#[.string (⟨#[]⟩:ByteArray),.string (⟨#[]⟩:ByteArray),.bool false]) (t:=50) ⟨mvW HB.out⟩ ?_;clear HB;intro eh8 hg w3 hb dc0 eh9 HB;have fp9:=eh9;have ct0:=nbl hg bq1;have ct1:=nbg hg bq1;replace bq1:=bb bq1 hb;clear hb hg;have er6:=ct0.out;have hnc4:=ct1.out;have Z5:=b10 bq1;have Z6:=b3 dc0)));(refine bodyPost_ret (results_cell_row rfl _ _ eh8 50 #[.string b9,.string d1,.bool d2] (0,0) _ rfl (mvP dc0.out) Tryz.underlying50 rfl (by kernel_rfl)) rfl ?_);(exact ⟨rv,mvW HB.out⟩)

/-! ### span_Right: function 64 -/
mutual
def span_Right.j0:Nat→Bool→ByteArray→ByteArray→Bool→Option (Bool)
 |0,_,_,_,_=>none
 |k+1,x3,bf6,at6,at7=>if x3=true then (some false) else (if at7=true then (span_Right.j1 k (!(Op.bytesLess bf6.toList at6.toList)) bf6 at6 at7) else (span_Right.j1 k false bf6 at6 at7))
def span_Right.j1:Nat→Bool→ByteArray→ByteArray→Bool→Option (Bool)
 |0,_,_,_,_=>none
 |k+1,x14,bf6,at6,at7=>if x14=true then (some false) else (if at7=true then (some true) else (if at6.toList=([]:List UInt8) then (some true) else (some false)))
end
def span_Right.f (k:Nat) (a6:ByteArray) (b0:ByteArray) (b5:Bool):Option (Bool):=if (a6.size:Int) > 513 then (span_Right.j0 k true a6 b0 b5) else (span_Right.j0 k (decide ((b0.size:Int) > 513)) a6 b0 b5)
set_option maxHeartbeats 8000000 in
set_option maxRecDepth 100000 in
theorem span_Right.calls (k:Nat) (a6:ByteArray) (b0:ByteArray) (b5:Bool) (r:Bool) (w:World) (h:span_Right.f k a6 b0 b5=some r):
  Calls Tryz.prog 64 #[.agg #[.string a6,.string b0,.bool b5]] w fun e w'=>e=.returned (.bool r)∧Below w.heap.size w w':=by
 (have hu50:=Tryz.underlying50);(have HB:=Aside0.mk (Below.refl w.heap.size w));(unfold span_Right.f at h);(have H:=h);(clear h);(have HC2:=Aside0.mk H);(clear H);(go_enter Tryz.func64,Tryz.ntmps64);(go_upto_region 1 with (first|((with_reducible refine gate_dst (N:=1) rfl ?_);(try (refine gate_guard (by rfl) ?_;dsimp only));refine bx (N:=1) (cs:=#[.string a6,.string b0,.bool b5]) (t:=50) ⟨mvW HB.out⟩ ?_;clear HB;intro dc1 hg w3 hb Y8 ei0 HB;have fq0:=ei0;clear hb hg)));((try simp only [Act.put,List.setIfInBounds_toArray,List.set_cons_zero,List.set_cons_succ]));(go_cut [3] (fun v3 wc=>∃ (kq:Nat) (i8:Bool),v3=.bool i8∧Aside0 (span_Right.j0 kq i8 a6 b0 b5=some r)∧Aside0 (kq≤k)∧Aside0 (wc.heap[dc1]? =some (.cells #[.string a6,.string b0,.bool b5] 50 (0,0)))∧Aside0 (Below w.heap.size w wc)))
 case first=>
  (have H:=HC2.out);(clear HC2);(by_cases c4:(a6.size:Int) > 513)
  ·(rw [if_pos c4] at H);(have p2:decide (513 < (a6.size:Int))=true:=decide_eq_true c4);(have ao5:decide (513 < a6.size)=true:=decide_eq_true (by omega));(clear c4);((first|rw [p2]|(simp only [i64_w,i32_w];rw [p2])|skip));(have H':=Aside0.mk H);(clear H);(have Z5:=b3 Y8);(go_wp2);(go_meet)
   case rel=>exact ⟨_,(true),sd,H',⟨by first|omega|exact Nat.le_refl _⟩,⟨mvB Y8.out⟩,⟨mvW HB.out⟩⟩
  ·(rw [if_neg c4] at H);(have p2:decide (513 < (a6.size:Int))=false:=decide_eq_false c4);(have ao5:decide (513 < a6.size)=false:=decide_eq_false (by omega));(clear c4);((first|rw [p2]|(simp only [i64_w,i32_w];rw [p2])|skip));(have H':=Aside0.mk H);(clear H);(have Z6:=b3 Y8);(go_wp2);(go_meet)
   case rel=>exact ⟨_,(decide ((b0.size:Int) > 513)),sd,H',⟨by first|omega|exact Nat.le_refl _⟩,⟨mvB Y8.out⟩,⟨mvW HB.out⟩⟩
 case rest=>
  (clear HC2);(obtain ⟨kq,i8,rfl,HA,HJ1,Y8,HB⟩:=hcut)
  cases kq with
  |zero=>exact absurd HA.out (by simp [span_Right.j0])
  |succ kj1=>
   (have H:=HA.out);(clear HA);(simp only [span_Right.j0] at H);(replace H:=sB H);(rcases H with ⟨rfl,H⟩|⟨rfl,H⟩)
   ·(obtain rfl:=Option.some.inj H);(go_wp2);(go_ret);(exact ⟨rv,mvW HB.out⟩)
   ·(have HC8:=Aside0.mk H);(clear H);(go_upto_region 2 with (fail));(go_cut [14] (fun v14 wc=>∃ (kq:Nat) (co0:Bool),v14=.bool co0∧Aside0 (span_Right.j1 kq co0 a6 b0 b5=some r)∧Aside0 (kq≤kj1)∧Aside0 (wc.heap[dc1]? =some (.cells #[.string a6,.string b0,.bool b5] 50 (0,0)))∧Aside0 (Below w.heap.size w wc)))
    case first=>
     (have H:=HC8.out);(clear HC8);(replace H:=sB H);(rcases H with ⟨rfl,H⟩|⟨rfl,H⟩)
     ·(have H':=Aside0.mk H);(clear H);(have Z10:=b3 Y8);(go_wp2);(go_meet)
      case rel=>exact ⟨_,(!(Op.bytesLess a6.toList b0.toList)),sd,H',⟨by have:=HJ1.out;first|omega|exact Nat.le_refl _⟩,⟨mvB Y8.out⟩,⟨mvW HB.out⟩⟩
     ·(have H':=Aside0.mk H);(clear H);(have Z11:=b3 Y8);(go_wp2);(go_meet)
      case rel=>exact ⟨_,(false),sd,H',⟨by have:=HJ1.out;first|omega|exact Nat.le_refl _⟩,⟨mvB Y8.out⟩,⟨mvW HB.out⟩⟩
    case rest=>
     (clear HC8);(obtain ⟨kq,co0,rfl,HA,HJ7,Y8,HB⟩:=hcut)
     cases kq with
     |zero=>exact absurd HA.out (by simp [span_Right.j1])
     |succ kj7=>
      (have H:=HA.out);(clear HA);(simp only [span_Right.j1] at H);(replace H:=sB H);(rcases H with ⟨rfl,H⟩|⟨rfl,H⟩)
      ·(obtain rfl:=Option.some.inj H);(go_wp2);(go_ret);(exact ⟨rv,mvW HB.out⟩)
      ·(replace H:=sB H);(rcases H with ⟨rfl,H⟩|⟨rfl,H⟩)
       ·(obtain rfl:=Option.some.inj H);(have Z14:=b3 Y8);(go_wp2);(go_ret);(exact ⟨rv,mvW HB.out⟩)
       ·(by_cases c15:b0.toList=([]:List UInt8))
        ·(rw [if_pos c15] at H);(have bf5:(b0.toList==([]:List UInt8))=true:=beq_iff_eq.mpr c15);(have cn4:(b0.toList != ([]:List UInt8))=false:=bne_eq_false_iff_eq.mpr c15);(clear c15);(obtain rfl:=Option.some.inj H);(have Z16:=b3 Y8);(go_wp2);(go_ret);(exact ⟨rv,mvW HB.out⟩)
        ·(rw [if_neg c15] at H);(have bf5:(b0.toList==([]:List UInt8))=false:=beq_eq_false_iff_ne.mpr c15);(have cn4:(b0.toList != ([]:List UInt8))=true:=bne_iff_ne.mpr c15);(obtain rfl:=Option.some.inj H);(have Z17:=b3 Y8);(go_wp2);(go_ret);(exact ⟨rv,mvW HB.out⟩)

/-! ### lsns_Right: function 66 -/
def lsns_Right.l0:Nat→Int→List Int→Int→Int→Int→List Int→Option (Bool)
 |0,_,_,_,_,_,_=>none
 |k+1,x3,x9,N1,S0,dk7,cg9=>if S0 < N1 then (if 0≤S0 then (if S0 < (x9.length:Int) then (if (rd x9 S0)≤x3 then (some false) else (lsns_Right.l0 k (rd x9 S0) x9 N1 (wrap64 (S0+1)) dk7 cg9)) else (none)) else (none)) else (some (decide ((cg9.length:Int)≤1000)))
def lsns_Right.f (k:Nat) (a6:Int) (e6:List Int):Option (Bool):=lsns_Right.l0 k a6 e6 (e6.length:Int) 0 a6 e6
set_option maxHeartbeats 8000000 in
set_option maxRecDepth 100000 in
theorem lsns_Right.calls (k:Nat) (a6:Int) (p3:Option Addr) (p5:Nat) (e6:List Int) (r:Bool) (w:World) (Q0:Kd.C (Kd.int .u64) w p3 e6.length e6) (R6:e6.length≤p5) (h:lsns_Right.f k a6 e6=some r):
  Calls Tryz.prog 66 #[.agg #[.int .u64 a6,.slice p3 e6.length p5]] w fun e w'=>e=.returned (.bool r)∧Below w.heap.size w w':=by
 (have hu25:=Tryz.underlying25);(have N2:=Aside0.mk Q0);(have ak1:=Aside0.mk R6);(clear Q0 R6);(have HB:=Aside0.mk (Below.refl w.heap.size w));(unfold lsns_Right.f at h);(have H:=h);(clear h);(have H':=Aside0.mk H);(clear H);(go_enter Tryz.func66,Tryz.ntmps66);(go_wp2_with (first|((with_reducible refine gate_dst (N:=1) rfl ?_);refine bx (N:=1) (cs:=#[.int .u64 a6,.slice p3 e6.length p5]) (t:=25) ⟨mvW HB.out⟩ ?_;clear HB;intro ei1 hg w2 hb bq2 ei2 HB;have fq1:=ei2;clear hb hg;have Z3:=b2 bq2)));(go_loopg [3,11] k (fun kq v3 v11 w'=>∃ (i8:Int) (P5:Int),v3=.int .u64 i8∧v11=.int .i64 P5∧Aside0 (lsns_Right.l0 kq i8 e6 (e6.length:Int) P5 a6 e6=some r)∧Aside0 (kq≤k)∧Aside0 (w'.heap[ei1]? =some (.cells #[.int .u64 a6,(.slice p3 e6.length p5)] 25 (0,0)))∧Aside0 (Below w.heap.size w w')))
 case atStart=>exact ⟨(a6),(0),sd,sd,H',⟨Nat.le_refl _⟩,⟨mvB bq2.out⟩,⟨mvW HB.out⟩⟩
 case round=>
  (clear H');(obtain ⟨i8,P5,rfl,rfl,HA,l7,bq2,HB⟩:=hrel)
  cases gk with
  |zero=>exact absurd HA.out (by simp [lsns_Right.l0])
  |succ k1=>
   (have H:=HA.out);(clear HA);(simp only [lsns_Right.l0] at H);(replace H:=sp H);(rcases H with ⟨p2,H⟩|⟨p2,H⟩)
   ·(replace H:=gd H);(obtain ⟨S1,H⟩:=H);(replace H:=gd H);(obtain ⟨J0,H⟩:=H);(replace H:=sp H);(rcases H with ⟨T6,H⟩|⟨T6,H⟩)
    ·(obtain rfl:=Option.some.inj H);(have bk7:0≤(P5:Int):=od);(have bk8:P5 < (e6.length:Int):=od);(obtain ⟨ad106,e106,at8⟩:=Kd.at_int N2.out P5 bk7 bk8);(cases e106);(replace at8:=ct HB at8);(replace bk7:=eq_true bk7);(replace bk8:=eq_true bk8);(go_wp2);(go_ret);(exact ⟨rv,mvW HB.out⟩)
    ·(have H':=Aside0.mk H);(clear H);(have bk7:0≤(P5:Int):=od);(have bk8:P5 < (e6.length:Int):=od);(obtain ⟨ad106,e106,at8⟩:=Kd.at_int N2.out P5 bk7 bk8);(cases e106);(replace at8:=ct HB at8);(replace bk7:=eq_true bk7);(replace bk8:=eq_true bk8);(go_wp2);(go_roundg k1)
     case measure=>have:=l7.out;omega
     case rel=>exact ⟨(rd e6 P5),(wrap64 (P5+1)),sd,sd,H',⟨by have:=l7.out;omega⟩,⟨mvB bq2.out⟩,⟨mvW HB.out⟩⟩
   ·(obtain rfl:=Option.some.inj H);(have Z8:=b2 bq2);(go_wp2);(go_ret);(exact ⟨rv,mvW HB.out⟩)

/-! ### lsns_Most: function 67 -/
def lsns_Most.f (k:Nat) (a6:Int) (e6:List Int):Option (Int):=(lsns_Right.f k a6 e6).bind fun dv1=>(if dv1=true then (if (e6.length:Int) > 0 then (if 0≤(wrap64 ((e6.length:Int) - 1)) then (if (wrap64 ((e6.length:Int) - 1)) < (e6.length:Int) then (some (rd e6 (wrap64 ((e6.length:Int) - 1)))) else (none)) else (none)) else (some a6)) else (some 0))
set_option maxHeartbeats 8000000 in
set_option maxRecDepth 100000 in
theorem lsns_Most.calls (k:Nat) (a6:Int) (p3:Option Addr) (p5:Nat) (e6:List Int) (r:Int) (w:World) (Q0:Kd.C (Kd.int .u64) w p3 e6.length e6) (R6:e6.length≤p5) (h:lsns_Most.f k a6 e6=some r):
  Calls Tryz.prog 67 #[.agg #[.int .u64 a6,.slice p3 e6.length p5]] w fun e w'=>e=.returned (.int .u64 r)∧Below w.heap.size w w':=by
 (have hu25:=Tryz.underlying25);(have N2:=Aside0.mk Q0);(have ak1:=Aside0.mk R6);(clear Q0 R6);(have HB:=Aside0.mk (Below.refl w.heap.size w));(unfold lsns_Most.f at h);(have H:=h);(clear h);(replace H:=bs H);(obtain ⟨dv1,A2,H⟩:=H);(replace H:=sB H);(rcases H with ⟨rfl,H⟩|⟨rfl,H⟩)
 ·(by_cases c4:(e6.length:Int) > 0)
  ·(rw [if_pos c4] at H);(have p2:decide (0 < (e6.length:Int))=true:=decide_eq_true c4);(have ao5:decide (0 < e6.length)=true:=decide_eq_true (by omega));(clear c4);(obtain ⟨ji5,hji5⟩:∃ j_:Int,(wrap64 ((e6.length:Int) - 1))=j_:=⟨_,rfl⟩);(first|rw [hji5] at H|simp only [hji5] at H);((try rw [hji5] at A2));(have hji5w:(IntKind.i64.wrap ((e6.length:Int) - 1))=ji5:=(i64_w _).trans hji5);(replace H:=gd H);(obtain ⟨J0,H⟩:=H);(replace H:=gd H);(obtain ⟨T6,H⟩:=H);(obtain rfl:=Option.some.inj H);(go_enter Tryz.func67,Tryz.ntmps67);(go_wp2_with (first|((with_reducible refine gate_dst (N:=1) rfl ?_);refine bx (N:=1) (cs:=#[.int .u64 a6,.slice p3 e6.length p5]) (t:=25) ⟨mvW HB.out⟩ ?_;clear HB;intro dc2 hg w8 hb Y9 bq3 HB;have dc3:=bq3;clear hb hg;have Z9:=b2 Y9)|((with_reducible refine gate_callee (f:=66) rfl ?_);refine goesL_ (some 5) rfl rfl Tryz.func66 (by kernel_rfl) rfl #[.agg #[.int .u64 a6,.slice p3 e6.length p5]] rfl am ?_;(with_reducible refine (lsns_Right.calls k a6 _ _ e6 true _ ?_ ?_ A2.out).mono ?_);(exact mvC (Kd.C_below N2.out HB.out));(exact ak1.out);rintro e w10 ⟨rfl,hb⟩;refine ⟨_,rfl,?_⟩;replace Y9:=bb Y9 hb;replace HB:=sb HB hb;clear hb;have Z11:=b2 Y9;have cx7:0≤((ji5):Int):=od;have cx8:(ji5) < (e6.length:Int):=od;obtain ⟨ad109,e109,ch1⟩:=Kd.at_int N2.out (ji5) cx7 cx8;cases e109;replace ch1:=ct HB ch1;replace cx7:=eq_true cx7;replace cx8:=eq_true cx8)));(go_ret);(exact ⟨by first|rfl|(simp [errW_none,errW_some] <;> rfl)|(simp only [← hji5];first|rfl|(simp [errW_none,errW_some] <;> rfl))|(simp [*,errW_none,errW_some] <;> rfl),mvW HB.out⟩)
  ·(rw [if_neg c4] at H);(have p2:decide (0 < (e6.length:Int))=false:=decide_eq_false c4);(have ao5:decide (0 < e6.length)=false:=decide_eq_false (by omega));(clear c4);(obtain rfl:=Option.some.inj H);(go_enter Tryz.func67,Tryz.ntmps67);(go_wp2_with (first|((with_reducible refine gate_dst (N:=1) rfl ?_);refine bx (N:=1) (cs:=#[.int .u64 a6,.slice p3 e6.length p5]) (t:=25) ⟨mvW HB.out⟩ ?_;clear HB;intro dc2 hg w12 hb Y9 bq3 HB;have dc3:=bq3;clear hb hg;have Z13:=b2 Y9)|((with_reducible refine gate_callee (f:=66) rfl ?_);refine goesL_ (some 5) rfl rfl Tryz.func66 (by kernel_rfl) rfl #[.agg #[.int .u64 a6,.slice p3 e6.length p5]] rfl am ?_;(with_reducible refine (lsns_Right.calls k a6 _ _ e6 true _ ?_ ?_ A2.out).mono ?_);(exact mvC (Kd.C_below N2.out HB.out));(exact ak1.out);rintro e w14 ⟨rfl,hb⟩;refine ⟨_,rfl,?_⟩;replace Y9:=bb Y9 hb;replace HB:=sb HB hb;clear hb;have Z15:=b2 Y9)));(go_ret);(exact ⟨rv,mvW HB.out⟩)
 ·(obtain rfl:=Option.some.inj H);(go_enter Tryz.func67,Tryz.ntmps67);(go_wp2_with (first|((with_reducible refine gate_dst (N:=1) rfl ?_);refine bx (N:=1) (cs:=#[.int .u64 a6,.slice p3 e6.length p5]) (t:=25) ⟨mvW HB.out⟩ ?_;clear HB;intro dc2 hg w16 hb Y9 bq3 HB;have dc3:=bq3;clear hb hg;have Z17:=b2 Y9)|((with_reducible refine gate_callee (f:=66) rfl ?_);refine goesL_ (some 5) rfl rfl Tryz.func66 (by kernel_rfl) rfl #[.agg #[.int .u64 a6,.slice p3 e6.length p5]] rfl am ?_;(with_reducible refine (lsns_Right.calls k a6 _ _ e6 false _ ?_ ?_ A2.out).mono ?_);(exact mvC (Kd.C_below N2.out HB.out));(exact ak1.out);rintro e w18 ⟨rfl,hb⟩;refine ⟨_,rfl,?_⟩;replace Y9:=bb Y9 hb;replace HB:=sb HB hb)));(go_ret);(exact ⟨rv,mvW HB.out⟩)

/-! ### cells_cell_right: function 99 -/
def cells_cell_right.f (a6:ByteArray) (b0:ByteArray):Option (Bool):=if (a6.size:Int)≤513 then (some (decide ((b0.size:Int)≤2048))) else (some false)
set_option maxHeartbeats 8000000 in
set_option maxRecDepth 100000 in
theorem cells_cell_right.calls (a6:ByteArray) (b0:ByteArray) (r:Bool) (w:World) (h:cells_cell_right.f a6 b0=some r):
  Calls Tryz.prog 99 #[.agg #[.string a6,.string b0]] w fun e w'=>e=.returned (.bool r)∧Below w.heap.size w w':=by
 (have hu124:=Tryz.underlying124);(have HB:=Aside0.mk (Below.refl w.heap.size w));(unfold cells_cell_right.f at h);(have H:=h);(clear h);(by_cases c2:(a6.size:Int)≤513)
 ·(rw [if_pos c2] at H);(have X3:=decide_eq_true c2);(have bi5:decide (a6.size≤513)=true:=decide_eq_true (by omega));(clear c2);(obtain rfl:=Option.some.inj H);(go_enter Tryz.func99,Tryz.ntmps99);(go_wp2_with (first|((with_reducible refine gate_dst (N:=1) rfl ?_);(try (refine gate_guard (by rfl) ?_;dsimp only));refine bx (N:=1) (cs:=#[.string a6,.string b0]) (t:=124) ⟨mvW HB.out⟩ ?_;clear HB;intro ei3 hg w3 hb co1 co2 HB;have ei4:=co2;clear hb hg;have Z4:=b2 co1)));(go_ret);(exact ⟨rv,mvW HB.out⟩)
 ·(rw [if_neg c2] at H);(have X3:decide ((a6.size:Int)≤513)=false:=decide_eq_false c2);(have bi5:decide (a6.size≤513)=false:=decide_eq_false (by omega));(clear c2);(obtain rfl:=Option.some.inj H);(go_enter Tryz.func99,Tryz.ntmps99);(go_wp2_with (first|((with_reducible refine gate_dst (N:=1) rfl ?_);(try (refine gate_guard (by rfl) ?_;dsimp only));refine bx (N:=1) (cs:=#[.string a6,.string b0]) (t:=124) ⟨mvW HB.out⟩ ?_;clear HB;intro ei3 hg w5 hb co1 co2 HB;have ei4:=co2;clear hb hg;have Z6:=b2 co1)));(go_ret);(exact ⟨rv,mvW HB.out⟩)

/-! ### cells_Right: function 69 -/
def cells_Right.l0:Nat→List (S42)→List (S42)→Int→Int→Option (Bool)
 |0,_,_,_,_=>none
 |k+1,x0,x5,x6,x7=>if x7 < x6 then (if 0≤x7 then (if x7 < (x5.length:Int) then ((cells_cell_right.f ((rd_T42 x5 x7).f0) ((rd_T42 x5 x7).f1)).bind fun dv2=>(if dv2=true then (if x7 > 0 then (if 0≤(wrap64 (x7 - 1)) then (if (wrap64 (x7 - 1)) < (x0.length:Int) then (if ((Op.bytesLess (((rd_T42 x0 (wrap64 (x7 - 1))).f0).toList) (((rd_T42 x5 x7).f0).toList))=true) then (cells_Right.l0 k x0 x5 x6 (wrap64 (x7+1))) else (some false)) else (none)) else (none)) else (cells_Right.l0 k x0 x5 x6 (wrap64 (x7+1)))) else (some false))) else (none)) else (none)) else (some true)
def cells_Right.f (k:Nat) (l0:List (S42)):Option (Bool):=cells_Right.l0 k l0 l0 (l0.length:Int) 0
def cells_Right.T4:Bool×List (List Nat×List Nat):=(true,[([],[]),([0],[0]),([1],[1]),([2,1],[2]),([3],[3]),([4,3],[3,4]),([5,3,3],[3,5]),([6],[6]),([6],[6]),([8,6],[6,8]),([7,9,6],[6,7,9]),([10,6],[6,10]),([11,6],[6,11]),([6],[6]),([13,6],[6,13]),([12,14,6],[6,12,14]),([6,15,3],[3,6,15]),([3,16],[3,16])])
def cells_Right.B4:List Nat:=[0,1,3,7,15,31,63,127,127,383,1023,2047,4095,127,8319,32767,65535,131071]
theorem cells_Right.tab4:rtab .any (opsOf Tryz.f69 4)=cells_Right.T4:=by kernel_rfl
theorem cells_Right.bits4:waitsOk cells_Right.T4.2 cells_Right.B4=true:=by kernel_rfl
set_option maxHeartbeats 8000000 in
set_option maxRecDepth 100000 in
theorem cells_Right.calls (k:Nat) (A0:Option Addr) (c0:Nat) (l0:List (S42)) (r:Bool) (w:World) (hr0:Kd.C k42 w A0 l0.length l0) (hc0:l0.length≤c0) (h:cells_Right.f k l0=some r):
  Calls Tryz.prog 69 #[.slice A0 l0.length c0] w fun e w'=>e=.returned (.bool r)∧Below w.heap.size w w':=by
 (have hu42:=Tryz.underlying42);(have m9:=Aside0.mk hr0);(have D6:=Aside0.mk hc0);(clear hr0 hc0);(have HB:=Aside0.mk (Below.refl w.heap.size w));(unfold cells_Right.f at h);(have H:=h);(clear h);(have H':=Aside0.mk H);(clear H);(go_enter Tryz.func69,Tryz.ntmps69);(go_wp2);(go_loopg [7] k (fun kq v7 w'=>∃ (b8:Int),v7=.int .i64 b8∧Aside0 (cells_Right.l0 kq l0 l0 (l0.length:Int) b8=some r)∧Aside0 (kq≤k)∧Aside0 (Below w.heap.size w w')))
 case atStart=>exact ⟨(0),sd,H',⟨Nat.le_refl _⟩,⟨mvW HB.out⟩⟩
 case round=>
  (clear H');(obtain ⟨b8,rfl,HA,l7,HB⟩:=hrel)
  cases gk with
  |zero=>exact absurd HA.out (by simp [cells_Right.l0])
  |succ k1=>
   (have H:=HA.out);(clear HA);(simp only [cells_Right.l0] at H);(replace H:=sp H);(rcases H with ⟨X3,H⟩|⟨X3,H⟩)
   ·(replace H:=gd H);(obtain ⟨N6,H⟩:=H);(replace H:=gd H);(obtain ⟨p2,H⟩:=H);(replace H:=bs H);(obtain ⟨dv2,A5,H⟩:=H);(replace H:=sB H);(rcases H with ⟨rfl,H⟩|⟨rfl,H⟩)
    ·(replace H:=spg H);(rcases H with ⟨T6,H⟩|⟨T6,H⟩)
     ·(obtain ⟨ji8,hji8⟩:∃ j_:Int,(wrap64 (b8 - 1))=j_:=⟨_,rfl⟩);(first|rw [hji8] at H|simp only [hji8] at H);((try rw [hji8] at A5));(have hji8w:(IntKind.i64.wrap (b8 - 1))=ji8:=(i64_w _).trans hji8);(replace H:=gd H);(obtain ⟨W9,H⟩:=H);(replace H:=gd H);(obtain ⟨Q7,H⟩:=H);(by_cases c11:((Op.bytesLess (((rd_T42 l0 (ji8)).f0).toList) (((rd_T42 l0 b8).f0).toList))=true))
      ·(rw [if_pos c11] at H);(have bo5:(Op.bytesLess (((rd_T42 l0 (ji8)).f0).toList) (((rd_T42 l0 b8).f0).toList))=true:=c11);(clear c11);(have H':=Aside0.mk H);(clear H);(obtain ⟨ad111,e111,hw111,hx111,pq111⟩:=rd42 HB m9 b8);(cases e111);(try go_wp2_with (first|((with_reducible refine gate_dst (N:=4) rfl ?_);refine bx (N:=4) (cs:=#[.string (⟨#[]⟩:ByteArray),.string (⟨#[]⟩:ByteArray)]) (t:=42) ⟨mvW HB.out⟩ ?_;clear HB;intro F4 hg w12 hb p0 ax5 HB;have co3:=ax5;clear hb hg;have Z13:=b2 p0)));(have n0_:Aside0 (((w12.setCell ⟨F4,0,none⟩ (.string ((rd_T42 l0 b8).f0))).setCell ⟨F4,1,none⟩ (.string ((rd_T42 l0 b8).f1))).heap[F4]? =some (.cells #[.string ((rd_T42 l0 b8).f0),.string ((rd_T42 l0 b8).f1)] 42 (0,0))):=⟨mvP p0.out⟩);(have n1_:Aside0 (Below w.heap.size w ((w12.setCell ⟨F4,0,none⟩ (.string ((rd_T42 l0 b8).f0))).setCell ⟨F4,1,none⟩ (.string ((rd_T42 l0 b8).f1)))):=⟨mvW HB.out⟩);((try clear p0));((try clear HB));(generalize ((w12.setCell ⟨F4,0,none⟩ (.string ((rd_T42 l0 b8).f0))).setCell ⟨F4,1,none⟩ (.string ((rd_T42 l0 b8).f1)))=w14 at n0_ n1_ ⊢);(have p0:=n0_);(have HB:=n1_);(clear n0_ n1_);(replace p0:=bd p0);(replace HB:=wd HB);(obtain ⟨ad114,e114,hw114,hx114,pq114⟩:=rd42 HB m9 (ji8));(obtain rfl:ad111=ad114:=(by injection e114));(refine st2 (bm 18 0) (cc2 p0) (mc42 HB hw114) cells_Right.tab4 cells_Right.bits4 (fun a7 HT_ HW_=>?_));(generalize w14.drew=w15 at p0 HB hx114 a7 ⊢);(refine tk 0 12 (bv 1 17) HT_ HW_ a7 ?_);(refine on 1 (some 13) (bv 2 16) HT_ (fun K hK=>?_));(refine goes_ Tryz.func99 (by kernel_rfl) rfl #[.agg #[.string ((rd_T42 l0 b8).f0),.string ((rd_T42 l0 b8).f1)]] (by rfl) rfl rfl am ?_);(with_reducible refine (cells_cell_right.calls ((rd_T42 l0 b8).f0) ((rd_T42 l0 b8).f1) true _ A5.out).mono ?_);(rintro e w16 ⟨rfl,hb⟩);(refine ⟨_,rfl,?_⟩);(replace p0:=bb p0 hb);(replace HB:=sb HB hb);(clear hb);(refine hK.out _ _ ⟨cc2 p0,mc42 HB hw114⟩ (fun a7=>?_));(clear hK K);(refine nm 13 ?_);(refine pu8 2 14 (bv 10 8) HT_ ?_);(refine pu2 10 22 (bv 12 6) HT_ ?_);(refine pu 13 25 (bm 18 12287) HT_ ?_);(refine tk 12 24 (bv 14 4) HT_ HW_ a7 ?_);(refine tk 14 26 (bv 15 3) HT_ HW_ a7 ?_);(refine pu2 15 27 (bv 17 1) HT_ ?_);(refine pu 17 29 (bv 18 0) HT_ ?_);(refine done_ (done_of HT_.out (by kernel_rfl)) ?_);(try go_wp2);(go_roundg k1)
       case measure=>have:=l7.out;omega
       case rel=>exact ⟨(wrap64 (b8+1)),sd,H',⟨by have:=l7.out;omega⟩,⟨mvW HB.out⟩⟩
      ·(rw [if_neg c11] at H);(have bo5:(Op.bytesLess (((rd_T42 l0 (ji8)).f0).toList) (((rd_T42 l0 b8).f0).toList))=false:=by simpa using c11);(clear c11);(obtain rfl:=Option.some.inj H);(obtain ⟨ad111,e111,hw111,hx111,pq111⟩:=rd42 HB m9 b8);(cases e111);(try go_wp2_with (first|((with_reducible refine gate_dst (N:=4) rfl ?_);refine bx (N:=4) (cs:=#[.string (⟨#[]⟩:ByteArray),.string (⟨#[]⟩:ByteArray)]) (t:=42) ⟨mvW HB.out⟩ ?_;clear HB;intro F4 hg w17 hb p0 ax5 HB;have co3:=ax5;clear hb hg;have Z18:=b2 p0)));(have n0_:Aside0 (((w17.setCell ⟨F4,0,none⟩ (.string ((rd_T42 l0 b8).f0))).setCell ⟨F4,1,none⟩ (.string ((rd_T42 l0 b8).f1))).heap[F4]? =some (.cells #[.string ((rd_T42 l0 b8).f0),.string ((rd_T42 l0 b8).f1)] 42 (0,0))):=⟨mvP p0.out⟩);(have n1_:Aside0 (Below w.heap.size w ((w17.setCell ⟨F4,0,none⟩ (.string ((rd_T42 l0 b8).f0))).setCell ⟨F4,1,none⟩ (.string ((rd_T42 l0 b8).f1)))):=⟨mvW HB.out⟩);((try clear p0));((try clear HB));(generalize ((w17.setCell ⟨F4,0,none⟩ (.string ((rd_T42 l0 b8).f0))).setCell ⟨F4,1,none⟩ (.string ((rd_T42 l0 b8).f1)))=w19 at n0_ n1_ ⊢);(have p0:=n0_);(have HB:=n1_);(clear n0_ n1_);(replace p0:=bd p0);(replace HB:=wd HB);(obtain ⟨ad114,e114,hw114,hx114,pq114⟩:=rd42 HB m9 (ji8));(obtain rfl:ad111=ad114:=(by injection e114));(refine st2 (bm 18 0) (cc2 p0) (mc42 HB hw114) cells_Right.tab4 cells_Right.bits4 (fun a7 HT_ HW_=>?_));(generalize w19.drew=w20 at p0 HB hx114 a7 ⊢);(refine tk 0 12 (bv 1 17) HT_ HW_ a7 ?_);(refine on 1 (some 13) (bv 2 16) HT_ (fun K hK=>?_));(refine goes_ Tryz.func99 (by kernel_rfl) rfl #[.agg #[.string ((rd_T42 l0 b8).f0),.string ((rd_T42 l0 b8).f1)]] (by rfl) rfl rfl am ?_);(with_reducible refine (cells_cell_right.calls ((rd_T42 l0 b8).f0) ((rd_T42 l0 b8).f1) true _ A5.out).mono ?_);(rintro e w21 ⟨rfl,hb⟩);(refine ⟨_,rfl,?_⟩);(replace p0:=bb p0 hb);(replace HB:=sb HB hb);(clear hb);(refine hK.out _ _ ⟨cc2 p0,mc42 HB hw114⟩ (fun a7=>?_));(clear hK K);(refine nm 13 ?_);(refine pu8 2 14 (bv 10 8) HT_ ?_);(refine pu2 10 22 (bv 12 6) HT_ ?_);(refine pu 13 25 (bm 18 12287) HT_ ?_);(refine tk 12 24 (bv 14 4) HT_ HW_ a7 ?_);(refine tk 14 26 (bv 15 3) HT_ HW_ a7 ?_);(refine pu2 15 27 (bv 17 1) HT_ ?_);(refine pu 17 29 (bv 18 0) HT_ ?_);(refine done_ (done_of HT_.out (by kernel_rfl)) ?_);(try go_wp2);(go_ret);(exact ⟨by first|rfl|(simp [errW_none,errW_some] <;> rfl)|(simp only [← hji8];first|rfl|(simp [errW_none,errW_some] <;> rfl))|(simp [*,errW_none,errW_some] <;> rfl),mvW HB.out⟩)
     ·(have H':=Aside0.mk H);(clear H);(obtain ⟨ad111,e111,hw111,hx111,pq111⟩:=rd42 HB m9 b8);(cases e111);(try go_wp2_with (first|((with_reducible refine gate_dst (N:=4) rfl ?_);refine bx (N:=4) (cs:=#[.string (⟨#[]⟩:ByteArray),.string (⟨#[]⟩:ByteArray)]) (t:=42) ⟨mvW HB.out⟩ ?_;clear HB;intro F4 hg w22 hb p0 ax5 HB;have co3:=ax5;clear hb hg;have Z23:=b2 p0)));(have n0_:Aside0 (((w22.setCell ⟨F4,0,none⟩ (.string ((rd_T42 l0 b8).f0))).setCell ⟨F4,1,none⟩ (.string ((rd_T42 l0 b8).f1))).heap[F4]? =some (.cells #[.string ((rd_T42 l0 b8).f0),.string ((rd_T42 l0 b8).f1)] 42 (0,0))):=⟨mvP p0.out⟩);(have n1_:Aside0 (Below w.heap.size w ((w22.setCell ⟨F4,0,none⟩ (.string ((rd_T42 l0 b8).f0))).setCell ⟨F4,1,none⟩ (.string ((rd_T42 l0 b8).f1)))):=⟨mvW HB.out⟩);((try clear p0));((try clear HB));(generalize ((w22.setCell ⟨F4,0,none⟩ (.string ((rd_T42 l0 b8).f0))).setCell ⟨F4,1,none⟩ (.string ((rd_T42 l0 b8).f1)))=w24 at n0_ n1_ ⊢);(have p0:=n0_);(have HB:=n1_);(clear n0_ n1_);(replace p0:=bd p0);(replace HB:=wd HB);(refine st1 (bm 18 0) (cc2 p0) cells_Right.tab4 cells_Right.bits4 (fun a7 HT_ HW_=>?_));(generalize w24.drew=w25 at p0 HB a7 ⊢);(refine tk 0 12 (bv 1 17) HT_ HW_ a7 ?_);(refine on 1 (some 13) (bv 2 16) HT_ (fun K hK=>?_));(refine goes_ Tryz.func99 (by kernel_rfl) rfl #[.agg #[.string ((rd_T42 l0 b8).f0),.string ((rd_T42 l0 b8).f1)]] (by rfl) rfl rfl am ?_);(with_reducible refine (cells_cell_right.calls ((rd_T42 l0 b8).f0) ((rd_T42 l0 b8).f1) true _ A5.out).mono ?_);(rintro e w26 ⟨rfl,hb⟩);(refine ⟨_,rfl,?_⟩);(replace p0:=bb p0 hb);(replace HB:=sb HB hb);(clear hb);(refine hK.out _ _ (cc2 p0) (fun a7=>?_));(clear hK K);(refine nm 13 ?_);(refine pu4 2 14 (bv 6 12) HT_ ?_);(refine pu 6 18 (bv 7 11) HT_ ?_);(refine pn8 7 19 (bv 15 3) HT_ ?_);(refine pn 15 27 (bv 16 2) HT_ ?_);(refine pu2 16 28 (bv 18 0) HT_ ?_);(refine done_ (done_of HT_.out (by kernel_rfl)) ?_);(try go_wp2);(go_roundg k1)
      case measure=>have:=l7.out;omega
      case rel=>exact ⟨(wrap64 (b8+1)),sd,H',⟨by have:=l7.out;omega⟩,⟨mvW HB.out⟩⟩
    ·(obtain rfl:=Option.some.inj H);(obtain ⟨ad111,e111,hw111,hx111,pq111⟩:=rd42 HB m9 b8);(cases e111);(try go_wp2_with (first|((with_reducible refine gate_dst (N:=4) rfl ?_);refine bx (N:=4) (cs:=#[.string (⟨#[]⟩:ByteArray),.string (⟨#[]⟩:ByteArray)]) (t:=42) ⟨mvW HB.out⟩ ?_;clear HB;intro F4 hg w27 hb p0 ax5 HB;have co3:=ax5;clear hb hg;have Z28:=b2 p0)));(have n0_:Aside0 (((w27.setCell ⟨F4,0,none⟩ (.string ((rd_T42 l0 b8).f0))).setCell ⟨F4,1,none⟩ (.string ((rd_T42 l0 b8).f1))).heap[F4]? =some (.cells #[.string ((rd_T42 l0 b8).f0),.string ((rd_T42 l0 b8).f1)] 42 (0,0))):=⟨mvP p0.out⟩);(have n1_:Aside0 (Below w.heap.size w ((w27.setCell ⟨F4,0,none⟩ (.string ((rd_T42 l0 b8).f0))).setCell ⟨F4,1,none⟩ (.string ((rd_T42 l0 b8).f1)))):=⟨mvW HB.out⟩);((try clear p0));((try clear HB));(generalize ((w27.setCell ⟨F4,0,none⟩ (.string ((rd_T42 l0 b8).f0))).setCell ⟨F4,1,none⟩ (.string ((rd_T42 l0 b8).f1)))=w29 at n0_ n1_ ⊢);(have p0:=n0_);(have HB:=n1_);(clear n0_ n1_);(replace p0:=bd p0);(replace HB:=wd HB);(refine st1 (bm 18 0) (cc2 p0) cells_Right.tab4 cells_Right.bits4 (fun a7 HT_ HW_=>?_));(generalize w29.drew=w30 at p0 HB a7 ⊢);(refine tk 0 12 (bv 1 17) HT_ HW_ a7 ?_);(refine on 1 (some 13) (bv 2 16) HT_ (fun K hK=>?_));(refine goes_ Tryz.func99 (by kernel_rfl) rfl #[.agg #[.string ((rd_T42 l0 b8).f0),.string ((rd_T42 l0 b8).f1)]] (by rfl) rfl rfl am ?_);(with_reducible refine (cells_cell_right.calls ((rd_T42 l0 b8).f0) ((rd_T42 l0 b8).f1) false _ A5.out).mono ?_);(rintro e w31 ⟨rfl,hb⟩);(refine ⟨_,rfl,?_⟩);(replace p0:=bb p0 hb);(replace HB:=sb HB hb);(clear hb);(refine hK.out _ _ (cc2 p0) (fun a7=>?_));(clear hK K);(refine nm 13 ?_);(refine pu2 2 14 (bv 4 14) HT_ ?_);(refine pn8 4 16 (bv 12 6) HT_ ?_);(refine pn4 12 24 (bv 16 2) HT_ ?_);(refine pn 16 28 (bv 17 1) HT_ ?_);(refine pu 17 29 (bv 18 0) HT_ ?_);(refine done_ (done_of HT_.out (by kernel_rfl)) ?_);(try go_wp2);(go_ret);(exact ⟨rv,mvW HB.out⟩)
   ·(obtain rfl:=Option.some.inj H);(go_wp2);(go_ret);(exact ⟨rv,mvW HB.out⟩)

/-! ### cells_Delete: function 49 -/
theorem cells_slice {w:World} {base:Nat} {ok:Nat→Prop} {v:Value} {xs:List S42} (h:Kd.R k42 42 w base ok v xs):∃ A c,v=.slice A xs.length c:=by
 obtain ⟨_,_,⟨_,ho⟩,_⟩:=h
 rcases ho with ⟨rfl,h0⟩|⟨g,cap,cur,rfl,_⟩
 ·exact ⟨none,0,by rw [h0]⟩
 ·exact ⟨_,_,rfl⟩
theorem cells_base {w:World} {base base':Nat} {ok:Nat→Prop} {v:Value} {xs:List S42} (h:Kd.R k42 42 w base ok v xs) (hb:base'≤base):Kd.R k42 42 w base' ok v xs:=by
 obtain ⟨h0,inner,⟨hl,ho⟩,hr⟩:=h
 refine ⟨h0,inner,⟨hl,?_⟩,hr.imp_ (fun p c hp=>by rw [k42_openM hp];exact k42_mkM _ _ _ _)⟩
 rcases ho with h|⟨g,cap,cur,h1,h2,h3⟩
 ·exact .inl h
 ·exact .inr ⟨g,cap,cur,h1,Nat.le_trans hb h2,h3⟩
theorem cells_Delete_filter_next (l:List S42) (p:S42→Bool) (j:Nat) (h:j < l.length):(l.take (j+1)).filter p=(l.take j).filter p++(if p (rd_T42 l (j:Int))=true then [rd_T42 l (j:Int)] else []):=by
 have e:rd_T42 l (j:Int)=l[j]:=by unfold rd_T42;simp [h]
 rw [e,List.take_add_one,List.filter_append,List.getElem?_eq_getElem h]
 cases hp:p l[j] <;> simp [hp]
set_option maxHeartbeats 4000000 in
set_option maxRecDepth 100000 in
theorem cells_Delete_kept_calls (g:Nat) (cb:Array Value) (A0:Option Addr) (c0:Nat) (l0:List S42) (p:S42→Bool) (w:World) (eg:∀ args w,(callFunc g args).run Tryz.prog w=.ok (.enter g args) w) (hsz:l0.length < 4398046511104) (hr0:Kd.C k42 w A0 l0.length l0)
  (hf:∀ (W:World) (x:S42),Below w.heap.size w W→Calls Tryz.prog g (#[.agg #[.string x.f0,.string x.f1]]++cb) W fun e w'=>e=.returned (.bool (p x))∧Below W.heap.size W w'):
  Calls Tryz.prog 89 #[.slice A0 l0.length c0,.func (.func g) #[] cb] w fun e w'=>∃ v0_:Value,e=.returned v0_∧Kd.R k42 42 w' w.heap.size (fun _=>True) v0_ (l0.filter p)∧Below w.heap.size w w':=by
 have HF:Aside0 _:=⟨hf⟩
 have HR:=Aside0.mk hr0
 have HL:=Aside0.mk hsz
 have hu63:=Tryz.underlying42
 clear hf hr0 hsz
 go_enter Tryz.func89,Tryz.ntmps89
 go_wp2
 go_loopg [5,10] l0.length (fun kx s5 s10 wr=>∃ (j:Nat),s10=.int .i64 j∧j≤l0.length∧l0.length - j≤kx∧Aside0 (Below w.heap.size w wr)∧Aside0 (Kd.R k42 42 wr w.heap.size (fun _=>True) s5 ((l0.take j).filter p)))
 case atStart=>exact ⟨0,rfl,Nat.zero_le _,Nat.le_refl _,⟨Below.refl _ _⟩,⟨Kd.R_nil _ _ _ _ _⟩⟩
 case round=>
  obtain ⟨j,rfl,hj,hg,HB,HO⟩:=hrel
  by_cases hlt:j < l0.length
  ·have hlt':(j:Int) < (l0.length:Int):=by omega
   obtain ⟨ad,e,hx,hy⟩:=at_T42 (Kd.C_below HR.out HB.out) (j:Int) (by omega) hlt'
   cases e
   rw [Int.toNat_natCast] at hx hy
   have hn:=Aside0.mk (cells_Delete_filter_next l0 p j hlt)
   have hj1:wrap64 ((j:Int)+1)=((j+1:Nat):Int):=by have:=HL.out;unfold wrap64;omega
   have hlen:((l0.take j).filter p).length≤l0.length:=Nat.le_trans (List.length_filter_le _ _) (by rw [List.length_take];omega)
   have HN:=Aside0.mk hlen
   clear hlen
   revert hx hy hn
   generalize rd_T42 l0 (j:Int)=x
   intro hx hy hn
   have HX:=Aside0.mk hx
   go_wp2
   refine (HF.out _ x (below_alloc HB.out _)).mono ?_
   rintro e w1 ⟨rfl,hb1⟩
   have BK:=Aside0.mk (blk_below (blk_new wr (.cells #[.string x.f0,.string x.f1] 42)) hb1)
   have I1:=Aside0.mk (below_step (below_alloc HB.out _) hb1)
   have HO1:=Aside0.mk (Kd.R_below (Kd.R_alloc HO.out _) hb1)
   have z0:=(blk_cell BK.out 0).trans rfl
   have z1:=(blk_cell BK.out 1).trans rfl
   clear hb1 hx hy
   cases hp:p x
   ·have hn':(l0.take (j+1)).filter p=(l0.take j).filter p:=by rw [hn.out,hp];simp
    have HM:=Aside0.mk hn'
    clear hn hn' hp
    go_wp2
    go_roundg (l0.length - (j+1))
    case measure=>omega
    case rel=>exact ⟨j+1,by rw [hj1],by omega,Nat.le_refl _,I1,⟨HM.out ▸ HO1.out⟩⟩
   ·have hn':(l0.take (j+1)).filter p=(l0.take j).filter p++[x]:=by rw [hn.out,hp];simp
    have HM:=Aside0.mk hn'
    clear hn hn' hp
    go_wp2_with ((with_reducible refine gate_builtin (b:=.append) (xs:=#[.tmp 17,.tmp 19]) rfl ?_);at_builtin;refine Kd.R_append k42 (w0:=w) w.heap.size rfl (.tmp 17) (.tmp 19) 26 42 (.agg #[(.string ⟨#[]⟩),(.string ⟨#[]⟩)]) 32 rfl Tryz.underlying26 info42 rfl (by decide) (by omega) u5 ((l0.take j).filter p) x [.string x.f0,.string x.f1] (fun _=>True) (fun _=>False) rfl rfl ?aP (fun _ hk=>hk.elim) ?aF ?aO ?aB ?aS ?aL ?_;(case aP=>exact k42_mkM _ _ _ x);(case aB=>exact I1.out);(case aF=>exact fun _ _=>trivial);(case aO=>exact HO1.out);(case aS=>exact below_size I1.out);(case aL=>have:=HL.out;have:=HN.out;omega);intro v2 w2 ho2 hb2 hg2 hat2;clear hg2 hat2;have HO2:=Aside0.mk ho2;have S4:=Aside0.mk hb2;clear ho2 hb2)
    go_roundg (l0.length - (j+1))
    case measure=>omega
    case rel=>exact ⟨j+1,by rw [hj1],by omega,Nat.le_refl _,⟨S4.out⟩,⟨HM.out ▸ HO2.out⟩⟩
  ·obtain rfl:j=l0.length:=by omega
   have hO:=HO.out
   rw [List.take_length] at hO
   have HO1:=Aside0.mk hO
   clear hO HO
   go_wp2
   go_ret
   exact ⟨_,rfl,HO1.out,HB.out⟩
def cells_Delete.f (k:Nat) (l0:List S42) (a1:ByteArray):Option (List S42×Int):=(cells_Right.f k l0).bind fun t=>if t=true then (if l0.length < 4398046511104 then some (l0.filter (fun y=> !(y.f0.toList==a1.toList)),0) else none) else some ([],100)
theorem cells_Delete_clo_calls (bx:Nat) (x:ByteArray) (y:S42) (W:World) (hx:W.cell? ⟨bx,0,none⟩=some (.string x)):
  Calls Tryz.prog 90 (#[.agg #[.string y.f0,.string y.f1]]++#[.pointer (some ⟨bx,0,none⟩)]) W fun e w'=>e=.returned (.bool (!(y.f0.toList==x.toList)))∧Below W.heap.size W w':=by
 have hu63:=Tryz.underlying42
 have hlt:bx < W.heap.size:=World.block_lt_of_cell? W _ hx
 go_enter Tryz.func90,Tryz.ntmps90
 go_wp2
 go_ret
 exact ⟨rfl,below_alloc (Below.refl _ _) _⟩
set_option maxHeartbeats 4000000 in
set_option maxRecDepth 100000 in
theorem cells_Delete.calls (k:Nat) (A0:Option Addr) (c0:Nat) (l0:List (S42)) (a1:ByteArray) (r1:List (S42)) (r2:Int) (w:World) (hr0:Kd.C k42 w A0 l0.length l0) (hc0:l0.length≤c0) (h:cells_Delete.f k l0 a1=some (r1,r2)):
  Calls Tryz.prog 49 #[.slice A0 l0.length c0,.string a1] w fun e w'=>∃ v0_:Value,e=.returned (.tuple #[v0_,.int .i64 r2])∧Kd.R k42 42 w' w.heap.size (fun _=>True) v0_ r1∧Below w.heap.size w w':=by
 obtain ⟨t,ht,h⟩:=Option.bind_eq_some_iff.1 h
 have hB0:Below w.heap.size w (w.alloc (.cells #[.string a1] 9)):=below_alloc (Below.refl _ _) _
 have hR:=cells_Right.calls k A0 c0 l0 t _ (Kd.C_below hr0 hB0) hc0 ht
 have T0:=Aside0.mk hB0
 clear hB0
 cases t
 ·rw [if_neg (by simp)] at h
  simp only [Option.some.injEq,Prod.mk.injEq] at h
  obtain ⟨rfl,rfl⟩:=h
  go_enter Tryz.func49,Tryz.ntmps49
  go_wp2_with (go_at_call 69;refine hR.mono ?_;rintro e w1 ⟨rfl,hb⟩;have HB:=Aside0.mk (below_step T0.out hb);clear hb)
  go_ret2
  exact ⟨_,rfl,Kd.R_nil _ _ _ _ _,HB.out⟩
 ·rw [if_pos rfl] at h
  have hlen:l0.length < 4398046511104:=by
   by_cases hl:l0.length < 4398046511104
   ·exact hl
   ·rw [if_neg hl] at h;cases h
  rw [if_pos hlen] at h
  simp only [Option.some.injEq,Prod.mk.injEq] at h
  obtain ⟨rfl,rfl⟩:=h
  have eg:∀ args w,(callFunc 90 args).run Tryz.prog w=.ok (.enter 90 args) w:=enters_of Tryz.func90 (by kernel_rfl) rfl
  have cx:(w.alloc (.cells #[.string a1] 9)).cell? ⟨w.heap.size,0,none⟩=some (.string a1):=(blk_cell (blk_new w _) 0).trans rfl
  have hK:=fun (w1:World) (hb:Below (w.alloc (.cells #[.string a1] 9)).heap.size (w.alloc (.cells #[.string a1] 9)) w1)=>cells_Delete_kept_calls 90 #[.pointer (some ⟨w.heap.size,0,none⟩)] A0 c0 l0 (fun y=> !(y.f0.toList==a1.toList)) w1 eg hlen (Kd.C_below (Kd.C_below hr0 T0.out) hb)
   (fun W y hB=>cells_Delete_clo_calls w.heap.size a1 y W (pw_cell_below hB (pw_cell_below hb cx)))
  have HK:=Aside0.mk hK
  clear hK cx hr0
  go_enter Tryz.func49,Tryz.ntmps49
  go_wp2_with (first|(go_at_call 69;refine hR.mono ?_;rintro e w1 ⟨rfl,hb⟩;have HBX:=Aside0.mk hb;have HB:=Aside0.mk (below_step T0.out hb);clear hb)|(go_at_call 89;refine (HK.out w1 HBX.out).mono ?_;rintro e w2 ⟨v,rfl,ho,hb⟩;have HO:=Aside0.mk ho;have S4:=Aside0.mk (below_step HB.out hb);have HZ:=Aside0.mk HB.out.size;clear ho hb))
  go_ret2
  refine ⟨_,rfl,?_,S4.out⟩
  exact cells_base HO.out HZ.out

/-! ### span_bounds_over: function 128 -/
def span_bounds_over.f (a6:ByteArray) (b0:ByteArray) (b5:Bool) (a1:ByteArray):Option (Bool):=if b5=true then (some (!(Op.bytesLess a1.toList b0.toList))) else (some false)
set_option maxHeartbeats 8000000 in
set_option maxRecDepth 100000 in
theorem span_bounds_over.calls (a6:ByteArray) (b0:ByteArray) (b5:Bool) (a1:ByteArray) (r:Bool) (w:World) (h:span_bounds_over.f a6 b0 b5 a1=some r):
  Calls Tryz.prog 128 #[.agg #[.string a6,.string b0,.bool b5],.string a1] w fun e w'=>e=.returned (.bool r)∧Below w.heap.size w w':=by
 (have hu154:=Tryz.underlying154);(have HB:=Aside0.mk (Below.refl w.heap.size w));(unfold span_bounds_over.f at h);(have H:=h);(clear h);(replace H:=sB H);(rcases H with ⟨rfl,H⟩|⟨rfl,H⟩)
 ·(obtain rfl:=Option.some.inj H);(go_enter Tryz.func128,Tryz.ntmps128);(go_wp2_with (first|((with_reducible refine gate_dst (N:=2) rfl ?_);refine bx (N:=2) (cs:=#[.string a6,.string b0,.bool true]) (t:=154) ⟨mvW HB.out⟩ ?_;clear HB;intro ei5 hg w4 hb co4 co5 HB;have ei6:=co5;clear hb hg;have Z5:=b3 co4)));(go_ret);(exact ⟨rv,mvW HB.out⟩)
 ·(obtain rfl:=Option.some.inj H);(go_enter Tryz.func128,Tryz.ntmps128);(go_wp2_with (first|((with_reducible refine gate_dst (N:=2) rfl ?_);refine bx (N:=2) (cs:=#[.string a6,.string b0,.bool false]) (t:=154) ⟨mvW HB.out⟩ ?_;clear HB;intro ei5 hg w6 hb co4 co5 HB;have ei6:=co5;clear hb hg;have Z7:=b3 co4)));(go_ret);(exact ⟨rv,mvW HB.out⟩)

end Go.Proofs.YtmfaopjfdedheaaGreat.F
