-- PRINTED by print.py (a twelfth state) out of the translation. Not trusted: Lean checks it.
import Derived.Test.YtmfaopjfdedheaaGreatSv
import Derived.Test.YtmfaopjfdedheaaGreatSh
import Derived.Test.YtmfaopjfdedheaaGreatMv
import Derived.Test.YtmfaopjfdedheaaGreatFx0
import Derived.Test.YtmfaopjfdedheaaGreatFx9
namespace Go.Proofs.YtmfaopjfdedheaaGreat.F
open Go.RowKit Go.Proofs.YtmfaopjfdedheaaGreatW Go.Proofs.YtmfaopjfdedheaaGreatW.PrintWords Go.Proofs.YtmfaopjfdedheaaGreatW.PrintLast Go.Proofs.YtmfaopjfdedheaaGreatW.PrintMore
attribute [local go_sem] GpMore.bytes_le max2_int min2_int max_two min_two max_three min_three max_four min_four   -- for this text's walks alone
set_option linter.unusedVariables false
set_option linter.unusedSimpArgs false

/-! ### lockkeeperref11_Id: function 58 -/
def lockkeeperref11_Id.f (k:Nat) (a0:ByteArray):Option (Int×Int):=if (a0.size:Int)=8 then ((lockkeeperref11_worth.f k a0).bind fun ar2=>(if ar2 < 1 then (some (0,110)) else ((lockkeeperref11_worth.f k a0).bind fun cu9=>(if cu9 > 400 then (some (0,110)) else ((lockkeeperref11_worth.f k a0).bind fun cv0=>(some (cv0,0))))))) else (some (0,110))
set_option maxHeartbeats 8000000 in
set_option maxRecDepth 100000 in
theorem lockkeeperref11_Id.calls (k:Nat) (a0:ByteArray) (r1:Int) (r2:Int) (w:World) (h:lockkeeperref11_Id.f k a0=some (r1,r2)):
  Calls Tryz.prog 58 #[.string a0] w fun e w'=>e=.returned (.tuple #[.int .u64 r1,.int .i64 r2])∧Drawn0 w w':=by
 (unfold lockkeeperref11_Id.f at h);(have H:=h);(clear h);(by_cases c2:(a0.size:Int)=8)
 ·(rw [if_pos c2] at H);(have X3:((a0.size:Int)==8)=true:=beq_iff_eq.mpr c2);(have bi5:((a0.size:Int) != 8)=false:=bne_eq_false_iff_eq.mpr c2);(clear c2);(replace H:=bs H);(obtain ⟨ar2,A3,H⟩:=H);(replace H:=sp H);(rcases H with ⟨p2,H⟩|⟨p2,H⟩)
  ·(simp only [Option.some.injEq,Prod.mk.injEq] at H);(obtain ⟨rfl,rfl⟩:=H);(go_enter Tryz.func58,Tryz.ntmps58);(go_wp2_with (first|(go_at_call 94;(with_reducible refine (lockkeeperref11_worth.calls k a0 ar2 _ A3.out).mono ?_);rintro e w' ⟨rfl,⟨nd,rfl⟩⟩)));(go_ret2);(exact ⟨by first|rfl|(simp;done)|(simp [*];done),by repeat (first|exact Drawn0.refl _ |apply Drawn0.step)⟩)
  ·(replace H:=bs H);(obtain ⟨cu9,A5,H⟩:=H);(have e_A5:ar2=cu9:=Option.some.inj (A3.out.symm.trans A5.out));(subst e_A5);(replace H:=spg H);(rcases H with ⟨J0,H⟩|⟨J0,H⟩)
   ·(simp only [Option.some.injEq,Prod.mk.injEq] at H);(obtain ⟨rfl,rfl⟩:=H);(go_enter Tryz.func58,Tryz.ntmps58);(go_wp2_with (first|(go_at_call 94;(with_reducible refine (lockkeeperref11_worth.calls k a0 ar2 _ A3.out).mono ?_);rintro e w' ⟨rfl,⟨nd,rfl⟩⟩)|(go_at_call 94;(with_reducible refine (lockkeeperref11_worth.calls k a0 ar2 _ A5.out).mono ?_);rintro e w' ⟨rfl,⟨nd,rfl⟩⟩)));(go_ret2);(exact ⟨by first|rfl|(simp;done)|(simp [*];done),by repeat (first|exact Drawn0.refl _ |apply Drawn0.step)⟩)
   ·(replace H:=bs H);(obtain ⟨cv0,A7,H⟩:=H);(have e_A7:ar2=cv0:=Option.some.inj (A3.out.symm.trans A7.out));(subst e_A7);(simp only [Option.some.injEq,Prod.mk.injEq] at H);(obtain ⟨rfl,rfl⟩:=H);(go_enter Tryz.func58,Tryz.ntmps58);(go_wp2_with (first|(go_at_call 94;(with_reducible refine (lockkeeperref11_worth.calls k a0 ar2 _ A3.out).mono ?_);rintro e w' ⟨rfl,⟨nd,rfl⟩⟩)|(go_at_call 94;(with_reducible refine (lockkeeperref11_worth.calls k a0 ar2 _ A5.out).mono ?_);rintro e w' ⟨rfl,⟨nd,rfl⟩⟩)|((with_reducible refine gate_callee (f:=94) rfl ?_);refine goesL_ (some 18) rfl rfl Tryz.func94 (by kernel_rfl) rfl #[.string a0] rfl am ?_;(with_reducible refine (lockkeeperref11_worth.calls k a0 ar2 _ A7.out).mono ?_);rintro e w' ⟨rfl,⟨nd,rfl⟩⟩;refine ⟨_,rfl,?_⟩)));(go_ret2);(exact ⟨by first|rfl|(simp;done)|(simp [*];done),by repeat (first|exact Drawn0.refl _ |apply Drawn0.step)⟩)
 ·(rw [if_neg c2] at H);(have X3:((a0.size:Int)==8)=false:=beq_eq_false_iff_ne.mpr c2);(have bi5:((a0.size:Int) != 8)=true:=bne_iff_ne.mpr c2);(simp only [Option.some.injEq,Prod.mk.injEq] at H);(obtain ⟨rfl,rfl⟩:=H);(go_enter Tryz.func58,Tryz.ntmps58);(go_wp2);(go_ret2);(exact ⟨by first|rfl|(simp;done)|(simp [*];done),by repeat (first|exact Drawn0.refl _ |apply Drawn0.step)⟩)

/-! ### lockkeeperref03_Right: function 80 -/
def lockkeeperref03_Right.j0:Nat→Bool→ByteArray→ByteArray→Bool→Option (Bool)
 |0,_,_,_,_=>none
 |k+1,x12,de1,ce5,de2=>if x12=true then (some false) else (if de2=true then (some (Op.bytesLess de1.toList ce5.toList)) else (some (ce5.toList==([]:List UInt8))))
def lockkeeperref03_Right.f (k:Nat) (a6:ByteArray) (b0:ByteArray) (b5:Bool):Option (Bool):=if (a6.size:Int) > 513 then (lockkeeperref03_Right.j0 k true a6 b0 b5) else (lockkeeperref03_Right.j0 k (decide ((b0.size:Int) > 513)) a6 b0 b5)
set_option maxHeartbeats 8000000 in
set_option maxRecDepth 100000 in
theorem lockkeeperref03_Right.calls (k:Nat) (a6:ByteArray) (b0:ByteArray) (b5:Bool) (r:Bool) (w:World) (h:lockkeeperref03_Right.f k a6 b0 b5=some r):
  Calls Tryz.prog 80 #[.agg #[.string a6,.string b0,.bool b5]] w fun e w'=>e=.returned (.bool r)∧Below w.heap.size w w':=by
 (have hu50:=Tryz.underlying50);(have HB:=Aside0.mk (Below.refl w.heap.size w));(unfold lockkeeperref03_Right.f at h);(have H:=h);(clear h);(have HC2:=Aside0.mk H);(clear H);(go_enter Tryz.func80,Tryz.ntmps80);(go_upto_region 1 with (first|((with_reducible refine gate_dst (N:=1) rfl ?_);(try (refine gate_guard (by rfl) ?_;dsimp only));refine bx (N:=1) (cs:=#[.string a6,.string b0,.bool b5]) (t:=50) ⟨mvW HB.out⟩ ?_;clear HB;intro ea1 hg w3 hb av7 ea2 HB;have fn2:=ea2;clear hb hg)));((try simp only [Act.put,List.setIfInBounds_toArray,List.set_cons_zero,List.set_cons_succ]));(go_cut [12] (fun v12 wc=>∃ (kq:Nat) (ci6:Bool),v12=.bool ci6∧Aside0 (lockkeeperref03_Right.j0 kq ci6 a6 b0 b5=some r)∧Aside0 (kq≤k)∧Aside0 (wc.heap[ea1]? =some (.cells #[.string a6,.string b0,.bool b5] 50 (0,0)))∧Aside0 (Below w.heap.size w wc)))
 case first=>
  (have H:=HC2.out);(clear HC2);(by_cases c4:(a6.size:Int) > 513)
  ·(rw [if_pos c4] at H);(have p2:decide (513 < (a6.size:Int))=true:=decide_eq_true c4);(have ao5:decide (513 < a6.size)=true:=decide_eq_true (by omega));(clear c4);((first|rw [p2]|(simp only [i64_w,i32_w];rw [p2])|skip));(have H':=Aside0.mk H);(clear H);(have Z5:=b3 av7);(go_wp2);(go_meet)
   case rel=>exact ⟨_,(true),sd,H',⟨by first|omega|exact Nat.le_refl _⟩,⟨mvB av7.out⟩,⟨mvW HB.out⟩⟩
  ·(rw [if_neg c4] at H);(have p2:decide (513 < (a6.size:Int))=false:=decide_eq_false c4);(have ao5:decide (513 < a6.size)=false:=decide_eq_false (by omega));(clear c4);((first|rw [p2]|(simp only [i64_w,i32_w];rw [p2])|skip));(have H':=Aside0.mk H);(clear H);(have Z6:=b3 av7);(go_wp2);(go_meet)
   case rel=>exact ⟨_,(decide ((b0.size:Int) > 513)),sd,H',⟨by first|omega|exact Nat.le_refl _⟩,⟨mvB av7.out⟩,⟨mvW HB.out⟩⟩
 case rest=>
  (clear HC2);(obtain ⟨kq,ci6,rfl,HA,HJ1,av7,HB⟩:=hcut)
  cases kq with
  |zero=>exact absurd HA.out (by simp [lockkeeperref03_Right.j0])
  |succ kj1=>
   (have H:=HA.out);(clear HA);(simp only [lockkeeperref03_Right.j0] at H);(replace H:=sB H);(rcases H with ⟨rfl,H⟩|⟨rfl,H⟩)
   ·(obtain rfl:=Option.some.inj H);(go_wp2);(go_ret);(exact ⟨rv,mvW HB.out⟩)
   ·(replace H:=sB H);(rcases H with ⟨rfl,H⟩|⟨rfl,H⟩)
    ·(obtain rfl:=Option.some.inj H);(have Z9:=b3 av7);(go_wp2);(go_ret);(exact ⟨rv,mvW HB.out⟩)
    ·(obtain rfl:=Option.some.inj H);(have Z10:=b3 av7);(go_wp2);(go_ret);(exact ⟨rv,mvW HB.out⟩)

/-! ### lockkeeperref11_Range: function 81 -/
def lockkeeperref11_Range.f (a6:Int) (b0:Int) (b5:Int) (b9:ByteArray) (d1:ByteArray) (d2:Bool) (d3:Int) (d0:Int) (b7:List Int) (a8:List (S42)):Option (ByteArray×ByteArray×Bool):=some (b9,d1,d2)
set_option maxHeartbeats 8000000 in
set_option maxRecDepth 100000 in
theorem lockkeeperref11_Range.calls (a6:Int) (b0:Int) (b5:Int) (b9:ByteArray) (d1:ByteArray) (d2:Bool) (d3:Int) (d0:Int) (j6:Option Addr) (j7:Nat) (b7:List Int) (l5:Option Addr) (j8:Nat) (a8:List (S42)) (r1:ByteArray) (r2:ByteArray) (r3:Bool) (w:World) (y4:Kd.C (Kd.int .u64) w j6 b7.length b7) (C1:b7.length≤j7) (s9:Kd.C k42 w l5 a8.length a8) (u7:a8.length≤j8) (h:lockkeeperref11_Range.f a6 b0 b5 b9 d1 d2 d3 d0 b7 a8=some (r1,r2,r3)):
  Calls Tryz.prog 81 #[.agg #[.int .u64 a6,.int .u64 b0,.int .u8 b5,.string b9,.string d1,.bool d2,.int .u64 d3,.int .u64 d0,.slice j6 b7.length j7,.slice l5 a8.length j8]] w fun e w'=>e=.returned (.agg #[.string r1,.string r2,.bool r3])∧Below w.heap.size w w':=by
 (have hu28:=Tryz.underlying28);(have hu50:=Tryz.underlying50);(have t1:=Aside0.mk y4);(have t2:=Aside0.mk C1);(clear y4 C1);(have o1:=Aside0.mk s9);(have s3:=Aside0.mk u7);(clear s9 u7);(have HB:=Aside0.mk (Below.refl w.heap.size w));(unfold lockkeeperref11_Range.f at h);(have H:=h);(clear h);(simp only [Option.some.injEq,Prod.mk.injEq] at H);(obtain ⟨rfl,rfl,rfl⟩:=H);(go_enter Tryz.func81,Tryz.ntmps81);(go_wp2_with (first|((with_reducible refine gate_dst (N:=1) rfl ?_);refine bx (N:=1) (cs:=#[.int .u64 a6,.int .u64 b0,.int .u8 b5,.string b9,.string d1,.bool d2,.int .u64 d3,.int .u64 d0,.slice j6 b7.length j7,.slice l5 a8.length j8]) (t:=28) ⟨mvW HB.out⟩ ?_;clear HB;intro fn3 hg w2 hb bo1 ea3 HB;have fn4:=ea3;clear hb hg)|((with_reducible refine gate_dst (N:=2) rfl ?_);refine bx (N:=2) (cs:=#[.string (⟨#[]⟩:ByteArray),.string (⟨#[]⟩:ByteArray),.bool false]) (t:=50) ⟨mvW HB.out⟩ ?_;clear HB;intro ea4 hg w3 hb da4 ea5 HB;have fn5:=ea5;have cr7:=nbl hg bo1;have cr8:=nbg hg bo1;replace bo1:=bb bo1 hb;clear hb hg;have er6:=cr7.out;have hnc4:=cr8.out;have Z5:=b10 bo1;have Z6:=b3 da4)));(refine bodyPost_ret (results_cell_row rfl _ _ ea4 50 #[.string b9,.string d1,.bool d2] (0,0) _ rfl (mvP da4.out) Tryz.underlying50 rfl (by kernel_rfl)) rfl ?_);(exact ⟨rv,mvW HB.out⟩)

/-! ### lockkeeperref04_Most: function 82 -/
def lockkeeperref04_Most.l0:Nat→Int→Int→Int→List Int→Option (Int)
 |0,_,_,_,_=>none
 |k+1,x3,x4,de3,bs1=>if x4 < (bs1.length:Int) then (if 0≤x4 then (lockkeeperref04_Most.l0 k (rd bs1 x4) (wrap64 (x4+1)) de3 bs1) else (none)) else (some x3)
def lockkeeperref04_Most.f (k:Nat) (a6:Int) (e6:List Int):Option (Int):=(lockkeeperref04_Right.f k a6 e6).bind fun dp1=>(if dp1=true then (lockkeeperref04_Most.l0 k a6 0 a6 e6) else (some 0))
set_option maxHeartbeats 8000000 in
set_option maxRecDepth 100000 in
theorem lockkeeperref04_Most.calls (k:Nat) (a6:Int) (p3:Option Addr) (p5:Nat) (e6:List Int) (r:Int) (w:World) (Q0:Kd.C (Kd.int .u64) w p3 e6.length e6) (R6:e6.length≤p5) (h:lockkeeperref04_Most.f k a6 e6=some r):
  Calls Tryz.prog 82 #[.agg #[.int .u64 a6,.slice p3 e6.length p5]] w fun e w'=>e=.returned (.int .u64 r)∧Below w.heap.size w w':=by
 (have hu25:=Tryz.underlying25);(have N2:=Aside0.mk Q0);(have ak1:=Aside0.mk R6);(clear Q0 R6);(have HB:=Aside0.mk (Below.refl w.heap.size w));(unfold lockkeeperref04_Most.f at h);(have H:=h);(clear h);(replace H:=bs H);(obtain ⟨dp1,A2,H⟩:=H);(replace H:=sB H);(rcases H with ⟨rfl,H⟩|⟨rfl,H⟩)
 ·(have H':=Aside0.mk H);(clear H);(go_enter Tryz.func82,Tryz.ntmps82);(go_wp2_with (first|((with_reducible refine gate_dst (N:=1) rfl ?_);refine bx (N:=1) (cs:=#[.int .u64 a6,.slice p3 e6.length p5]) (t:=25) ⟨mvW HB.out⟩ ?_;clear HB;intro da5 hg w4 hb Y3 ci7 HB;have ea6:=ci7;clear hb hg;have Z5:=b2 Y3)|((with_reducible refine gate_callee (f:=56) rfl ?_);refine goesL_ (some 6) rfl rfl Tryz.func56 (by kernel_rfl) rfl #[.agg #[.int .u64 a6,.slice p3 e6.length p5]] rfl am ?_;(with_reducible refine (lockkeeperref04_Right.calls k a6 _ _ e6 true _ ?_ ?_ A2.out).mono ?_);(exact mvC (Kd.C_below N2.out HB.out));(exact ak1.out);rintro e w6 ⟨rfl,hb⟩;refine ⟨_,rfl,?_⟩;replace Y3:=bb Y3 hb;replace HB:=sb HB hb;clear hb;have Z7:=b2 Y3)));(go_loopg [3,4] k (fun kq v3 v4 w'=>∃ (i8:Int) (Q4:Int),v3=.int .u64 i8∧v4=.int .i64 Q4∧Aside0 (lockkeeperref04_Most.l0 kq i8 Q4 a6 e6=some r)∧Aside0 (kq≤k)∧Aside0 (w'.heap[da5]? =some (.cells #[.int .u64 a6,(.slice p3 e6.length p5)] 25 (0,0)))∧Aside0 (Below w.heap.size w w')))
  case atStart=>exact ⟨(a6),(0),sd,sd,H',⟨Nat.le_refl _⟩,⟨mvB Y3.out⟩,⟨mvW HB.out⟩⟩
  case round=>
   (clear H');(obtain ⟨i8,Q4,rfl,rfl,HA,l7,Y3,HB⟩:=hrel)
   cases gk with
   |zero=>exact absurd HA.out (by simp [lockkeeperref04_Most.l0])
   |succ k1=>
    (have H:=HA.out);(clear HA);(simp only [lockkeeperref04_Most.l0] at H);(replace H:=sp H);(rcases H with ⟨aa3,H⟩|⟨aa3,H⟩)
    ·(replace H:=gd H);(obtain ⟨W9,H⟩:=H);(have H':=Aside0.mk H);(clear H);(have Z10:=b2 Y3);(have cv1:0≤(Q4:Int):=od);(have cv2:Q4 < (e6.length:Int):=od);(obtain ⟨ad246,e246,ce6⟩:=Kd.at_int N2.out Q4 cv1 cv2);(cases e246);(replace ce6:=ct HB ce6);(replace cv1:=eq_true cv1);(replace cv2:=eq_true cv2);(go_wp2);(go_roundg k1)
     case measure=>have:=l7.out;omega
     case rel=>exact ⟨(rd e6 Q4),(wrap64 (Q4+1)),sd,sd,H',⟨by have:=l7.out;omega⟩,⟨mvB Y3.out⟩,⟨mvW HB.out⟩⟩
    ·(obtain rfl:=Option.some.inj H);(have Z11:=b2 Y3);(go_wp2);(go_ret);(exact ⟨rv,mvW HB.out⟩)
 ·(obtain rfl:=Option.some.inj H);(go_enter Tryz.func82,Tryz.ntmps82);(go_wp2_with (first|((with_reducible refine gate_dst (N:=1) rfl ?_);refine bx (N:=1) (cs:=#[.int .u64 a6,.slice p3 e6.length p5]) (t:=25) ⟨mvW HB.out⟩ ?_;clear HB;intro da5 hg w12 hb Y3 ci7 HB;have ea6:=ci7;clear hb hg;have Z13:=b2 Y3)|((with_reducible refine gate_callee (f:=56) rfl ?_);refine goesL_ (some 6) rfl rfl Tryz.func56 (by kernel_rfl) rfl #[.agg #[.int .u64 a6,.slice p3 e6.length p5]] rfl am ?_;(with_reducible refine (lockkeeperref04_Right.calls k a6 _ _ e6 false _ ?_ ?_ A2.out).mono ?_);(exact mvC (Kd.C_below N2.out HB.out));(exact ak1.out);rintro e w14 ⟨rfl,hb⟩;refine ⟨_,rfl,?_⟩;replace Y3:=bb Y3 hb;replace HB:=sb HB hb)));(go_ret);(exact ⟨rv,mvW HB.out⟩)

/-! ### lockkeeperref10_fits: function 107 -/
def lockkeeperref10_fits.f (a6:ByteArray) (b0:ByteArray):Option (Bool):=if (a6.size:Int)≤513 then (some (decide ((b0.size:Int)≤2048))) else (some false)
set_option maxHeartbeats 8000000 in
set_option maxRecDepth 100000 in
theorem lockkeeperref10_fits.calls (a6:ByteArray) (b0:ByteArray) (r:Bool) (w:World) (h:lockkeeperref10_fits.f a6 b0=some r):
  Calls Tryz.prog 107 #[.agg #[.string a6,.string b0]] w fun e w'=>e=.returned (.bool r)∧Below w.heap.size w w':=by
 (have hu42:=Tryz.underlying42);(have HB:=Aside0.mk (Below.refl w.heap.size w));(unfold lockkeeperref10_fits.f at h);(have H:=h);(clear h);(by_cases c2:(a6.size:Int)≤513)
 ·(rw [if_pos c2] at H);(have X3:=decide_eq_true c2);(have bi5:decide (a6.size≤513)=true:=decide_eq_true (by omega));(clear c2);(obtain rfl:=Option.some.inj H);(go_enter Tryz.func107,Tryz.ntmps107);(go_wp2_with (first|((with_reducible refine gate_dst (N:=1) rfl ?_);(try (refine gate_guard (by rfl) ?_;dsimp only));refine bx (N:=1) (cs:=#[.string a6,.string b0]) (t:=42) ⟨mvW HB.out⟩ ?_;clear HB;intro ea7 hg w3 hb ci8 ci9 HB;have ea8:=ci9;clear hb hg;have Z4:=b2 ci8)));(go_ret);(exact ⟨rv,mvW HB.out⟩)
 ·(rw [if_neg c2] at H);(have X3:decide ((a6.size:Int)≤513)=false:=decide_eq_false c2);(have bi5:decide (a6.size≤513)=false:=decide_eq_false (by omega));(clear c2);(obtain rfl:=Option.some.inj H);(go_enter Tryz.func107,Tryz.ntmps107);(go_wp2_with (first|((with_reducible refine gate_dst (N:=1) rfl ?_);(try (refine gate_guard (by rfl) ?_;dsimp only));refine bx (N:=1) (cs:=#[.string a6,.string b0]) (t:=42) ⟨mvW HB.out⟩ ?_;clear HB;intro ea7 hg w5 hb ci8 ci9 HB;have ea8:=ci9;clear hb hg;have Z6:=b2 ci8)));(go_ret);(exact ⟨rv,mvW HB.out⟩)

/-! ### lockkeeperref10_Right: function 83 -/
def lockkeeperref10_Right.l0:Nat→List (S42)→Int→Option (Bool)
 |0,_,_=>none
 |k+1,x0,x3=>if x3 < (x0.length:Int) then (if 0≤x3 then ((lockkeeperref10_fits.f ((rd_T42 x0 x3).f0) ((rd_T42 x0 x3).f1)).bind fun dp2=>(if dp2=true then (if x3 > 0 then (if 0≤(wrap64 (x3 - 1)) then (if (wrap64 (x3 - 1)) < (x0.length:Int) then (if ((Op.bytesLess (((rd_T42 x0 (wrap64 (x3 - 1))).f0).toList) (((rd_T42 x0 x3).f0).toList))=true) then (lockkeeperref10_Right.l0 k x0 (wrap64 (x3+1))) else (some false)) else (none)) else (none)) else (lockkeeperref10_Right.l0 k x0 (wrap64 (x3+1)))) else (some false))) else (none)) else (some true)
def lockkeeperref10_Right.f (k:Nat) (l0:List (S42)):Option (Bool):=lockkeeperref10_Right.l0 k l0 0
def lockkeeperref10_Right.T4:Bool×List (List Nat×List Nat):=(true,[([],[]),([],[]),([0,1],[0,1]),([2],[2]),([3],[3]),([4],[4]),([5,4],[5]),([6],[6]),([7,6],[6,7]),([8,6,6],[6,8]),([9],[9]),([9],[9]),([10,11,9],[9,10,11]),([12,9],[9,12]),([13,9],[9,13]),([9],[9]),([9],[9]),([16,9],[9,16]),([15,17,9],[9,15,17]),([18,9],[9,18]),([19,9],[9,19]),([14,20,9],[9,14,20]),([9,21,6],[6,9,21]),([6,22],[6,22])])
def lockkeeperref10_Right.B4:List Nat:=[0,0,3,7,15,31,63,127,255,511,1023,1023,4095,8191,16383,1023,1023,66559,230399,492543,1016831,2097151,4194303,8388607]
theorem lockkeeperref10_Right.tab4:rtab .any (opsOf Tryz.f83 4)=lockkeeperref10_Right.T4:=by kernel_rfl
theorem lockkeeperref10_Right.bits4:waitsOk lockkeeperref10_Right.T4.2 lockkeeperref10_Right.B4=true:=by kernel_rfl
set_option maxHeartbeats 8000000 in
set_option maxRecDepth 100000 in
theorem lockkeeperref10_Right.calls (k:Nat) (A0:Option Addr) (c0:Nat) (l0:List (S42)) (r:Bool) (w:World) (hr0:Kd.C k42 w A0 l0.length l0) (hc0:l0.length≤c0) (h:lockkeeperref10_Right.f k l0=some r):
  Calls Tryz.prog 83 #[.slice A0 l0.length c0] w fun e w'=>e=.returned (.bool r)∧Below w.heap.size w w':=by
 (have hu42:=Tryz.underlying42);(have m9:=Aside0.mk hr0);(have D6:=Aside0.mk hc0);(clear hr0 hc0);(have HB:=Aside0.mk (Below.refl w.heap.size w));(unfold lockkeeperref10_Right.f at h);(have H:=h);(clear h);(have H':=Aside0.mk H);(clear H);(go_enter Tryz.func83,Tryz.ntmps83);(go_wp2);(go_loopg [3] k (fun kq v3 w'=>∃ (i8:Int),v3=.int .i64 i8∧Aside0 (lockkeeperref10_Right.l0 kq l0 i8=some r)∧Aside0 (kq≤k)∧Aside0 (Below w.heap.size w w')))
 case atStart=>exact ⟨(0),sd,H',⟨Nat.le_refl _⟩,⟨mvW HB.out⟩⟩
 case round=>
  (clear H');(obtain ⟨i8,rfl,HA,l7,HB⟩:=hrel)
  cases gk with
  |zero=>exact absurd HA.out (by simp [lockkeeperref10_Right.l0])
  |succ k1=>
   (have H:=HA.out);(clear HA);(simp only [lockkeeperref10_Right.l0] at H);(replace H:=sp H);(rcases H with ⟨X3,H⟩|⟨X3,H⟩)
   ·(replace H:=gd H);(obtain ⟨N6,H⟩:=H);(replace H:=bs H);(obtain ⟨dp2,A4,H⟩:=H);(replace H:=sB H);(rcases H with ⟨rfl,H⟩|⟨rfl,H⟩)
    ·(replace H:=spg H);(rcases H with ⟨J0,H⟩|⟨J0,H⟩)
     ·(obtain ⟨ji7,hji7⟩:∃ j_:Int,(wrap64 (i8 - 1))=j_:=⟨_,rfl⟩);(first|rw [hji7] at H|simp only [hji7] at H);((try rw [hji7] at A4));(have hji7w:(IntKind.i64.wrap (i8 - 1))=ji7:=(i64_w _).trans hji7);(replace H:=gd H);(obtain ⟨aa3,H⟩:=H);(replace H:=gd H);(obtain ⟨W9,H⟩:=H);(by_cases Q6:((Op.bytesLess (((rd_T42 l0 (ji7)).f0).toList) (((rd_T42 l0 i8).f0).toList))=true))
      ·(rw [if_pos Q6] at H);(have Q7:(Op.bytesLess (((rd_T42 l0 (ji7)).f0).toList) (((rd_T42 l0 i8).f0).toList))=true:=Q6);(clear Q6);(have H':=Aside0.mk H);(clear H);(try go_wp2);(replace HB:=wd HB);(obtain ⟨ad248,e248,hw248,hx248,pq248⟩:=rd42 HB m9 i8);(cases e248);(obtain ⟨ad251,e251,hw251,hx251,pq251⟩:=rd42 HB m9 (ji7));(obtain rfl:ad248=ad251:=(by injection e251));(refine st2 (bm 24 0) (mc42 HB hw248) (mc42 HB hw251) lockkeeperref10_Right.tab4 lockkeeperref10_Right.bits4 (fun a7 HT_ HW_=>?_));(generalize wr.drew=w11 at HB hx248 hx251 a7 ⊢);(refine pu2 0 10 (bv 2 22) HT_ ?_);(refine pu 2 12 (bv 3 21) HT_ ?_);(refine tk 3 13 (bv 4 20) HT_ HW_ a7 ?_);(refine on 4 (some 14) (bv 5 19) HT_ (fun K hK=>?_));(refine goes_ Tryz.func107 (by kernel_rfl) rfl #[.agg #[.string ((rd_T42 l0 i8).f0),.string ((rd_T42 l0 i8).f1)]] (by rfl) rfl rfl am ?_);(with_reducible refine (lockkeeperref10_fits.calls ((rd_T42 l0 i8).f0) ((rd_T42 l0 i8).f1) true _ A4.out).mono ?_);(rintro e w12 ⟨rfl,hb⟩);(refine ⟨_,rfl,?_⟩);(replace HB:=sb HB hb);(clear hb);(refine hK.out _ _ ⟨mc42 HB hw248,mc42 HB hw251⟩ (fun a7=>?_));(clear hK K);(refine nm 14 ?_);(refine pu8 5 15 (bv 13 11) HT_ ?_);(refine pu 13 23 (bv 14 10) HT_ ?_);(refine pu4 15 25 (bm 24 507903) HT_ ?_);(refine pu 19 29 (bm 24 1032191) HT_ ?_);(refine tk 14 24 (bv 20 4) HT_ HW_ a7 ?_);(refine tk 20 30 (bv 21 3) HT_ HW_ a7 ?_);(refine pu2 21 31 (bv 23 1) HT_ ?_);(refine pu 23 33 (bv 24 0) HT_ ?_);(refine done_ (done_of HT_.out (by kernel_rfl)) ?_);(try go_wp2);(go_roundg k1)
       case measure=>have:=l7.out;omega
       case rel=>exact ⟨(wrap64 (i8+1)),sd,H',⟨by have:=l7.out;omega⟩,⟨mvW HB.out⟩⟩
      ·(rw [if_neg Q6] at H);(have Q7:(Op.bytesLess (((rd_T42 l0 (ji7)).f0).toList) (((rd_T42 l0 i8).f0).toList))=false:=by simpa using Q6);(clear Q6);(obtain rfl:=Option.some.inj H);(try go_wp2);(replace HB:=wd HB);(obtain ⟨ad248,e248,hw248,hx248,pq248⟩:=rd42 HB m9 i8);(cases e248);(obtain ⟨ad251,e251,hw251,hx251,pq251⟩:=rd42 HB m9 (ji7));(obtain rfl:ad248=ad251:=(by injection e251));(refine st2 (bm 24 0) (mc42 HB hw248) (mc42 HB hw251) lockkeeperref10_Right.tab4 lockkeeperref10_Right.bits4 (fun a7 HT_ HW_=>?_));(generalize wr.drew=w13 at HB hx248 hx251 a7 ⊢);(refine pu2 0 10 (bv 2 22) HT_ ?_);(refine pu 2 12 (bv 3 21) HT_ ?_);(refine tk 3 13 (bv 4 20) HT_ HW_ a7 ?_);(refine on 4 (some 14) (bv 5 19) HT_ (fun K hK=>?_));(refine goes_ Tryz.func107 (by kernel_rfl) rfl #[.agg #[.string ((rd_T42 l0 i8).f0),.string ((rd_T42 l0 i8).f1)]] (by rfl) rfl rfl am ?_);(with_reducible refine (lockkeeperref10_fits.calls ((rd_T42 l0 i8).f0) ((rd_T42 l0 i8).f1) true _ A4.out).mono ?_);(rintro e w14 ⟨rfl,hb⟩);(refine ⟨_,rfl,?_⟩);(replace HB:=sb HB hb);(clear hb);(refine hK.out _ _ ⟨mc42 HB hw248,mc42 HB hw251⟩ (fun a7=>?_));(clear hK K);(refine nm 14 ?_);(refine pu8 5 15 (bv 13 11) HT_ ?_);(refine pu 13 23 (bv 14 10) HT_ ?_);(refine pu4 15 25 (bm 24 507903) HT_ ?_);(refine pu 19 29 (bm 24 1032191) HT_ ?_);(refine tk 14 24 (bv 20 4) HT_ HW_ a7 ?_);(refine tk 20 30 (bv 21 3) HT_ HW_ a7 ?_);(refine pu2 21 31 (bv 23 1) HT_ ?_);(refine pu 23 33 (bv 24 0) HT_ ?_);(refine done_ (done_of HT_.out (by kernel_rfl)) ?_);(try go_wp2);(go_ret);(exact ⟨by first|rfl|(simp [errW_none,errW_some] <;> rfl)|(simp only [← hji7];first|rfl|(simp [errW_none,errW_some] <;> rfl))|(simp [*,errW_none,errW_some] <;> rfl),mvW HB.out⟩)
     ·(have H':=Aside0.mk H);(clear H);(try go_wp2);(replace HB:=wd HB);(obtain ⟨ad248,e248,hw248,hx248,pq248⟩:=rd42 HB m9 i8);(cases e248);(refine st1 (bm 24 0) (mc42 HB hw248) lockkeeperref10_Right.tab4 lockkeeperref10_Right.bits4 (fun a7 HT_ HW_=>?_));(generalize wr.drew=w15 at HB hx248 a7 ⊢);(refine pu2 0 10 (bv 2 22) HT_ ?_);(refine pu 2 12 (bv 3 21) HT_ ?_);(refine tk 3 13 (bv 4 20) HT_ HW_ a7 ?_);(refine on 4 (some 14) (bv 5 19) HT_ (fun K hK=>?_));(refine goes_ Tryz.func107 (by kernel_rfl) rfl #[.agg #[.string ((rd_T42 l0 i8).f0),.string ((rd_T42 l0 i8).f1)]] (by rfl) rfl rfl am ?_);(with_reducible refine (lockkeeperref10_fits.calls ((rd_T42 l0 i8).f0) ((rd_T42 l0 i8).f1) true _ A4.out).mono ?_);(rintro e w16 ⟨rfl,hb⟩);(refine ⟨_,rfl,?_⟩);(replace HB:=sb HB hb);(clear hb);(refine hK.out _ _ (mc42 HB hw248) (fun a7=>?_));(clear hK K);(refine nm 14 ?_);(refine pu4 5 15 (bv 9 15) HT_ ?_);(refine pu 9 19 (bv 10 14) HT_ ?_);(refine pn8 10 20 (bv 18 6) HT_ ?_);(refine pn4 18 28 (bv 22 2) HT_ ?_);(refine pu2 22 32 (bv 24 0) HT_ ?_);(refine done_ (done_of HT_.out (by kernel_rfl)) ?_);(try go_wp2);(go_roundg k1)
      case measure=>have:=l7.out;omega
      case rel=>exact ⟨(wrap64 (i8+1)),sd,H',⟨by have:=l7.out;omega⟩,⟨mvW HB.out⟩⟩
    ·(obtain rfl:=Option.some.inj H);(try go_wp2);(replace HB:=wd HB);(obtain ⟨ad248,e248,hw248,hx248,pq248⟩:=rd42 HB m9 i8);(cases e248);(refine st1 (bm 24 0) (mc42 HB hw248) lockkeeperref10_Right.tab4 lockkeeperref10_Right.bits4 (fun a7 HT_ HW_=>?_));(generalize wr.drew=w17 at HB hx248 a7 ⊢);(refine pu2 0 10 (bv 2 22) HT_ ?_);(refine pu 2 12 (bv 3 21) HT_ ?_);(refine tk 3 13 (bv 4 20) HT_ HW_ a7 ?_);(refine on 4 (some 14) (bv 5 19) HT_ (fun K hK=>?_));(refine goes_ Tryz.func107 (by kernel_rfl) rfl #[.agg #[.string ((rd_T42 l0 i8).f0),.string ((rd_T42 l0 i8).f1)]] (by rfl) rfl rfl am ?_);(with_reducible refine (lockkeeperref10_fits.calls ((rd_T42 l0 i8).f0) ((rd_T42 l0 i8).f1) false _ A4.out).mono ?_);(rintro e w18 ⟨rfl,hb⟩);(refine ⟨_,rfl,?_⟩);(replace HB:=sb HB hb);(clear hb);(refine hK.out _ _ (mc42 HB hw248) (fun a7=>?_));(clear hK K);(refine nm 14 ?_);(refine pu2 5 15 (bv 7 17) HT_ ?_);(refine pn16 7 17 (bv 23 1) HT_ ?_);(refine pu 23 33 (bv 24 0) HT_ ?_);(refine done_ (done_of HT_.out (by kernel_rfl)) ?_);(try go_wp2);(go_ret);(exact ⟨rv,mvW HB.out⟩)
   ·(obtain rfl:=Option.some.inj H);(go_wp2);(go_ret);(exact ⟨rv,mvW HB.out⟩)

/-! ### lockkeeperref03_Has: function 84 -/
def lockkeeperref03_Has.f (k:Nat) (a6:ByteArray) (b0:ByteArray) (b5:Bool) (a1:ByteArray):Option (Bool):=(lockkeeperref03_Right.f k a6 b0 b5).bind fun dp3=>(if dp3=true then (if ((Op.bytesLess a1.toList a6.toList)=true) then (some false) else (if b5=true then (some (Op.bytesLess a1.toList b0.toList)) else (some true))) else (some false))
set_option maxHeartbeats 8000000 in
set_option maxRecDepth 100000 in
theorem lockkeeperref03_Has.calls (k:Nat) (a6:ByteArray) (b0:ByteArray) (b5:Bool) (a1:ByteArray) (r:Bool) (w:World) (h:lockkeeperref03_Has.f k a6 b0 b5 a1=some r):
  Calls Tryz.prog 84 #[.agg #[.string a6,.string b0,.bool b5],.string a1] w fun e w'=>e=.returned (.bool r)∧Below w.heap.size w w':=by
 (have hu50:=Tryz.underlying50);(have HB:=Aside0.mk (Below.refl w.heap.size w));(unfold lockkeeperref03_Has.f at h);(have H:=h);(clear h);(replace H:=bs H);(obtain ⟨dp3,A3,H⟩:=H);(replace H:=sB H);(rcases H with ⟨rfl,H⟩|⟨rfl,H⟩)
 ·(by_cases c5:((Op.bytesLess a1.toList a6.toList)=true))
  ·(rw [if_pos c5] at H);(have S1:(Op.bytesLess a1.toList a6.toList)=true:=c5);(clear c5);(obtain rfl:=Option.some.inj H);(go_enter Tryz.func84,Tryz.ntmps84);(go_wp2_with (first|((with_reducible refine gate_dst (N:=2) rfl ?_);refine bx (N:=2) (cs:=#[.string a6,.string b0,.bool b5]) (t:=50) ⟨mvW HB.out⟩ ?_;clear HB;intro cj0 hg w6 hb R7 av8 HB;have cj1:=av8;clear hb hg;have Z7:=b3 R7)|((with_reducible refine gate_callee (f:=80) rfl ?_);refine goesL_ (some 6) rfl rfl Tryz.func80 (by kernel_rfl) rfl #[.agg #[.string a6,.string b0,.bool b5]] rfl am ?_;(with_reducible refine (lockkeeperref03_Right.calls k a6 b0 b5 true _ A3.out).mono ?_);rintro e w8 ⟨rfl,hb⟩;refine ⟨_,rfl,?_⟩;replace R7:=bb R7 hb;replace HB:=sb HB hb;clear hb;have Z9:=b3 R7)));(go_ret);(exact ⟨rv,mvW HB.out⟩)
  ·(rw [if_neg c5] at H);(have S1:(Op.bytesLess a1.toList a6.toList)=false:=by simpa using c5);(clear c5);(replace H:=sB H);(rcases H with ⟨rfl,H⟩|⟨rfl,H⟩)
   ·(obtain rfl:=Option.some.inj H);(go_enter Tryz.func84,Tryz.ntmps84);(go_wp2_with (first|((with_reducible refine gate_dst (N:=2) rfl ?_);refine bx (N:=2) (cs:=#[.string a6,.string b0,.bool true]) (t:=50) ⟨mvW HB.out⟩ ?_;clear HB;intro cj0 hg w11 hb R7 av8 HB;have cj1:=av8;clear hb hg;have Z12:=b3 R7)|((with_reducible refine gate_callee (f:=80) rfl ?_);refine goesL_ (some 6) rfl rfl Tryz.func80 (by kernel_rfl) rfl #[.agg #[.string a6,.string b0,.bool true]] rfl am ?_;(with_reducible refine (lockkeeperref03_Right.calls k a6 b0 true true _ A3.out).mono ?_);rintro e w13 ⟨rfl,hb⟩;refine ⟨_,rfl,?_⟩;replace R7:=bb R7 hb;replace HB:=sb HB hb;clear hb;have Z14:=b3 R7)));(go_ret);(exact ⟨rv,mvW HB.out⟩)
   ·(obtain rfl:=Option.some.inj H);(go_enter Tryz.func84,Tryz.ntmps84);(go_wp2_with (first|((with_reducible refine gate_dst (N:=2) rfl ?_);refine bx (N:=2) (cs:=#[.string a6,.string b0,.bool false]) (t:=50) ⟨mvW HB.out⟩ ?_;clear HB;intro cj0 hg w15 hb R7 av8 HB;have cj1:=av8;clear hb hg;have Z16:=b3 R7)|((with_reducible refine gate_callee (f:=80) rfl ?_);refine goesL_ (some 6) rfl rfl Tryz.func80 (by kernel_rfl) rfl #[.agg #[.string a6,.string b0,.bool false]] rfl am ?_;(with_reducible refine (lockkeeperref03_Right.calls k a6 b0 false true _ A3.out).mono ?_);rintro e w17 ⟨rfl,hb⟩;refine ⟨_,rfl,?_⟩;replace R7:=bb R7 hb;replace HB:=sb HB hb;clear hb;have Z18:=b3 R7)));(go_ret);(exact ⟨rv,mvW HB.out⟩)
 ·(obtain rfl:=Option.some.inj H);(go_enter Tryz.func84,Tryz.ntmps84);(go_wp2_with (first|((with_reducible refine gate_dst (N:=2) rfl ?_);refine bx (N:=2) (cs:=#[.string a6,.string b0,.bool b5]) (t:=50) ⟨mvW HB.out⟩ ?_;clear HB;intro cj0 hg w19 hb R7 av8 HB;have cj1:=av8;clear hb hg;have Z20:=b3 R7)|((with_reducible refine gate_callee (f:=80) rfl ?_);refine goesL_ (some 6) rfl rfl Tryz.func80 (by kernel_rfl) rfl #[.agg #[.string a6,.string b0,.bool b5]] rfl am ?_;(with_reducible refine (lockkeeperref03_Right.calls k a6 b0 b5 false _ A3.out).mono ?_);rintro e w21 ⟨rfl,hb⟩;refine ⟨_,rfl,?_⟩;replace R7:=bb R7 hb;replace HB:=sb HB hb)));(go_ret);(exact ⟨rv,mvW HB.out⟩)

end Go.Proofs.YtmfaopjfdedheaaGreat.F
