-- PRINTED by print.py (a twelfth state) out of the translation. Not trusted: Lean checks it.
import Derived.Test.YtoggblomknemoaaSh
import Derived.Test.YtoggblomknemoaaMv
import Derived.Test.YtoggblomknemoaaRx0
import Derived.Test.YtoggblomknemoaaRx1
namespace Go.Proofs.Ytoggblomknemoaa.R
open Go.RowKit Go.Proofs.YtoggblomknemoaaW Go.Proofs.YtoggblomknemoaaW.PrintWords Go.Proofs.YtoggblomknemoaaW.PrintLast Go.Proofs.YtoggblomknemoaaW.PrintMore
attribute [local go_sem] GpMore.bytes_le max2_int min2_int max_two min_two max_three min_three max_four min_four   -- for this text's walks alone
set_option linter.unusedVariables false
set_option linter.unusedSimpArgs false

attribute [local go_sem high] eqA42
/-! ### lockkeeperref10_Same: function 18 -/
def lockkeeperref10_Same.l0:Nat→List (S42)→List (S42)→Int→Option (Bool)
 |0,_,_,_=>none
 |k+1,x0,x1,x5=>if x5 < (x0.length:Int) then (if 0≤x5 then (if x5 < (x1.length:Int) then (if (!((((rd_T42 x0 x5).f0).toList)==(((rd_T42 x1 x5).f0).toList))||(!((((rd_T42 x0 x5).f1).toList)==(((rd_T42 x1 x5).f1).toList))))=true then (some false) else (lockkeeperref10_Same.l0 k x0 x1 (wrap64 (x5+1)))) else (none)) else (none)) else (some true)
def lockkeeperref10_Same.f (k:Nat) (l0:List (S42)) (l1:List (S42)):Option (Bool):=if (l0.length:Int)=(l1.length:Int) then (lockkeeperref10_Same.l0 k l0 l1 0) else (some false)
theorem lockkeeperref10_Same.mono_l:∀ k,(∀ y0 y1 y2,LeO (lockkeeperref10_Same.l0 k y0 y1 y2) (lockkeeperref10_Same.l0 (k+1) y0 y1 y2))
 |0=>fun _ _ _ r h=>by simp [lockkeeperref10_Same.l0] at h
 |k+1=>by
  have ih0:=lockkeeperref10_Same.mono_l k
  ·intro y0 y1 y2
   unfold lockkeeperref10_Same.l0
   repeat' first
   |(with_reducible exact ih0 _ _ _)
   |(with_reducible exact LeO.refl _)
   |(with_reducible exact LeO.none _)
   |(with_reducible refine LeO.ite ?_ ?_)
   |(with_reducible refine LeO.bind ?_ (fun _=>?_))
   |exact ih0 _ _ _
   |exact LeO.none _
   |refine LeO.ite ?_ ?_
   |refine LeO.bind ?_ (fun _=>?_)
theorem lockkeeperref10_Same.mono:∀ a0 a1 k,LeO (lockkeeperref10_Same.f k a0 a1) (lockkeeperref10_Same.f (k+1) a0 a1):=by
 intro a0 a1 k
 have ih0:=lockkeeperref10_Same.mono_l k
 unfold lockkeeperref10_Same.f
 repeat' first
   |(with_reducible exact ih0 _ _ _)
   |(with_reducible exact LeO.refl _)
   |(with_reducible exact LeO.none _)
   |(with_reducible refine LeO.ite ?_ ?_)
   |(with_reducible refine LeO.bind ?_ (fun _=>?_))
   |exact ih0 _ _ _
   |exact LeO.none _
   |refine LeO.ite ?_ ?_
   |refine LeO.bind ?_ (fun _=>?_)
set_option maxHeartbeats 8000000 in
set_option maxRecDepth 100000 in
theorem lockkeeperref10_Same.calls (k:Nat) (A0:Option Addr) (c0:Nat) (l0:List (S42)) (A1:Option Addr) (c1:Nat) (l1:List (S42)) (r:Bool) (w:World) (hr0:Kd.C k42 w A0 l0.length l0) (hc0:l0.length≤c0) (hr1:Kd.C k42 w A1 l1.length l1) (hc1:l1.length≤c1) (h:lockkeeperref10_Same.f k l0 l1=some r):
  Calls Try.prog 18 #[.slice A0 l0.length c0,.slice A1 l1.length c1] w fun e w'=>e=.returned (.bool r)∧Drawn0 w w':=by
 (have hu42:=Try.underlying42);(have i3:=Aside0.mk hr0);(have l7:=Aside0.mk hc0);(clear hr0 hc0);(have G2:=Aside0.mk hr1);(have HC1:=Aside0.mk hc1);(clear hr1 hc1);(have H:(if (l0.length:Int)=(l1.length:Int) then (lockkeeperref10_Same.l0 k l0 l1 0) else (some false))=some r:=h);(clear h);(by_cases c3:(l0.length:Int)=(l1.length:Int))
 ·(rw [if_pos c3] at H);(have G8:((l0.length:Int)==(l1.length:Int))=true:=beq_iff_eq.mpr c3);(have Z9:((l0.length:Int) != (l1.length:Int))=false:=bne_eq_false_iff_eq.mpr c3);(have aw1:(l0.length==l1.length)=true:=by first|simpa using c3|(simp at c3 ⊢;omega));(clear c3);(have H':=Aside0.mk H);(clear H);(go_enter Try.func18,Try.ntmps18);(go_wp2);(repeat (go_quiet (fail);try go_wp2));(go_loopg [5] k (fun kq v5 w'=>∃ (C8:Int),v5=.int .i64 C8∧Aside0 (lockkeeperref10_Same.l0 kq l0 l1 C8=some r)∧Aside0 (kq≤k)∧Drawn0 w w'))
  case atStart=>exact ⟨(0),sd,H',⟨Nat.le_refl _⟩,by repeat (first|exact Drawn0.refl _ |apply Drawn0.step)⟩
  case round=>
   (clear H');(try clear c1);(try clear p2);(try clear c3);(try clear G8);(try clear Z9);(try clear aw1);(obtain ⟨C8,rfl,HA,E3,⟨m1,rfl⟩⟩:=hrel)
   cases gk with
   |zero=>exact absurd HA.out (by simp [lockkeeperref10_Same.l0])
   |succ k1=>
    (have H:=HA.out);(clear HA);(simp only [lockkeeperref10_Same.l0] at H);(by_cases c4:C8 < (l0.length:Int))
    ·(rw [if_pos c4] at H);(have G4:=decide_eq_true c4);(clear c4);(by_cases c5:0≤C8)
     ·(rw [if_pos c5] at H);(have ad4:=decide_eq_true c5);(clear c5);(by_cases c6:C8 < (l1.length:Int))
      ·(rw [if_pos c6] at H);(have V3:=decide_eq_true c6);(clear c6);(by_cases c7:(!((((rd_T42 l0 C8).f0).toList)==(((rd_T42 l1 C8).f0).toList))||(!((((rd_T42 l0 C8).f1).toList)==(((rd_T42 l1 C8).f1).toList))))=true)
       ·(rw [if_pos c7] at H);(have au5:(!((((rd_T42 l0 C8).f0).toList)==(((rd_T42 l1 C8).f0).toList))||(!((((rd_T42 l0 C8).f1).toList)==(((rd_T42 l1 C8).f1).toList))))=true:=c7);(clear c7);(obtain rfl:=Option.some.inj H);(have bh9:0≤(C8:Int):=od);(have bi0:C8 < (l0.length:Int):=od);(obtain ⟨ad233,e233,er8,er9⟩:=at_T42 i3.out C8 bh9 bi0);(cases e233);(replace bh9:=eq_true bh9);(replace bi0:=eq_true bi0);(have bi1:0≤(C8:Int):=od);(have bi2:C8 < (l1.length:Int):=od);(obtain ⟨ad234,e234,es0,es1⟩:=at_T42 G2.out C8 bi1 bi2);(cases e234);(replace bi1:=eq_true bi1);(replace bi2:=eq_true bi2);(go_wp2);(repeat (go_quiet (fail);try go_wp2));(go_ret);(exact ⟨by first|rfl|(simp;done)|(simp [*];done),by repeat (first|exact Drawn0.refl _ |apply Drawn0.step)⟩)
       ·(rw [if_neg c7] at H);(have au5:(!((((rd_T42 l0 C8).f0).toList)==(((rd_T42 l1 C8).f0).toList))||(!((((rd_T42 l0 C8).f1).toList)==(((rd_T42 l1 C8).f1).toList))))=false:=by simpa using c7);(clear c7);(have H':=Aside0.mk H);(clear H);(have bh9:0≤(C8:Int):=od);(have bi0:C8 < (l0.length:Int):=od);(obtain ⟨ad233,e233,er8,er9⟩:=at_T42 i3.out C8 bh9 bi0);(cases e233);(replace bh9:=eq_true bh9);(replace bi0:=eq_true bi0);(have bi1:0≤(C8:Int):=od);(have bi2:C8 < (l1.length:Int):=od);(obtain ⟨ad234,e234,es0,es1⟩:=at_T42 G2.out C8 bi1 bi2);(cases e234);(replace bi1:=eq_true bi1);(replace bi2:=eq_true bi2);(go_wp2);(repeat (go_quiet (fail);try go_wp2));(go_roundg k1)
        case measure=>have:=E3.out;omega
        case rel=>exact ⟨(wrap64 (C8+1)),sd,H',⟨by have:=E3.out;omega⟩,by repeat (first|exact Drawn0.refl _ |apply Drawn0.step)⟩
      ·(rw [if_neg c6] at H);(exact absurd H (by simp))
     ·(rw [if_neg c5] at H);(exact absurd H (by simp))
    ·(rw [if_neg c4] at H);(have G4:decide (C8 < (l0.length:Int))=false:=decide_eq_false c4);(clear c4);(obtain rfl:=Option.some.inj H);(go_wp2);(repeat (go_quiet (fail);try go_wp2));(go_ret);(exact ⟨by first|rfl|(simp;done)|(simp [*];done),by repeat (first|exact Drawn0.refl _ |apply Drawn0.step)⟩)
 ·(rw [if_neg c3] at H);(have G8:((l0.length:Int)==(l1.length:Int))=false:=beq_eq_false_iff_ne.mpr c3);(have Z9:((l0.length:Int) != (l1.length:Int))=true:=bne_iff_ne.mpr c3);(have aw1:(l0.length==l1.length)=false:=by first|simpa using c3|(simp at c3 ⊢;omega));(obtain rfl:=Option.some.inj H);(go_enter Try.func18,Try.ntmps18);(go_wp2);(repeat (go_quiet (fail);try go_wp2));(go_ret);(exact ⟨by first|rfl|(simp;done)|(simp [*];done),by repeat (first|exact Drawn0.refl _ |apply Drawn0.step)⟩)

/-! ### lockkeeperref30_Same: function 19 -/
def lockkeeperref30_Same.f (k:Nat) (e4:Int) (d9:Int) (e8:Int) (o9:Int) (k9:Bool) (n0:ByteArray) (F2:List (S42)) (b7:Int) (d8:Int) (g7:Int) (j5:Int) (i2:Bool) (i5:ByteArray) (F3:List (S42)):Option (Bool):=if d9=d8 then (if e8=g7 then (if (k9==i2)=true then (if n0.toList=i5.toList then ((lockkeeperref10_Same.f k F2 F3).bind fun cn8=>(some cn8)) else (some false)) else (some false)) else (some false)) else (some false)
theorem lockkeeperref30_Same.mono:∀ a0 a1 a2 a3 a4 a5 a6 a7 a8 a9 a10 a11 a12 a13 k,LeO (lockkeeperref30_Same.f k a0 a1 a2 a3 a4 a5 a6 a7 a8 a9 a10 a11 a12 a13) (lockkeeperref30_Same.f (k+1) a0 a1 a2 a3 a4 a5 a6 a7 a8 a9 a10 a11 a12 a13):=by
 intro a0 a1 a2 a3 a4 a5 a6 a7 a8 a9 a10 a11 a12 a13 k
 unfold lockkeeperref30_Same.f
 repeat' first
   |(with_reducible exact lockkeeperref10_Same.mono _ _ _)
   |(with_reducible exact LeO.refl _)
   |(with_reducible exact LeO.none _)
   |(with_reducible refine LeO.ite ?_ ?_)
   |(with_reducible refine LeO.bind ?_ (fun _=>?_))
   |exact lockkeeperref10_Same.mono _ _ _
   |exact LeO.none _
   |refine LeO.ite ?_ ?_
   |refine LeO.bind ?_ (fun _=>?_)
set_option maxHeartbeats 8000000 in
set_option maxRecDepth 100000 in
theorem lockkeeperref30_Same.calls (k:Nat) (e4:Int) (d9:Int) (e8:Int) (o9:Int) (k9:Bool) (n0:ByteArray) (W5:Option Addr) (W6:Nat) (F2:List (S42)) (b7:Int) (d8:Int) (g7:Int) (j5:Int) (i2:Bool) (i5:ByteArray) (W7:Option Addr) (W8:Nat) (F3:List (S42)) (r:Bool) (w:World) (bs1:Kd.C k42 w W5 F2.length F2) (bs2:F2.length≤W6) (bs3:Kd.C k42 w W7 F3.length F3) (bs4:F3.length≤W8) (h:lockkeeperref30_Same.f k e4 d9 e8 o9 k9 n0 F2 b7 d8 g7 j5 i2 i5 F3=some r):
  Calls Try.prog 19 #[.agg #[.int .i64 e4,.int .u8 d9,.int .i64 e8,.int .u64 o9,.bool k9,.string n0,.slice W5 F2.length W6],.agg #[.int .i64 b7,.int .u8 d8,.int .i64 g7,.int .u64 j5,.bool i2,.string i5,.slice W7 F3.length W8]] w fun e w'=>e=.returned (.bool r)∧Below w.heap.size w w':=by
 (have hu33:=Try.underlying33);(have dl0:=Aside0.mk bs1);(have dl1:=Aside0.mk bs2);(clear bs1 bs2);(have dl2:=Aside0.mk bs3);(have dl3:=Aside0.mk bs4);(clear bs3 bs4);(have HB:=Aside0.mk (Below.refl w.heap.size w));(have H:(if d9=d8 then (if e8=g7 then (if (k9==i2)=true then (if n0.toList=i5.toList then ((lockkeeperref10_Same.f k F2 F3).bind fun cn8=>(some cn8)) else (some false)) else (some false)) else (some false)) else (some false))=some r:=h);(clear h);(by_cases c3:d9=d8)
 ·(rw [if_pos c3] at H);(have G8:(d9==d8)=true:=beq_iff_eq.mpr c3);(have Z9:(d9 != d8)=false:=bne_eq_false_iff_eq.mpr c3);(clear c3);(by_cases c4:e8=g7)
  ·(rw [if_pos c4] at H);(have G4:(e8==g7)=true:=beq_iff_eq.mpr c4);(have aj0:(e8 != g7)=false:=bne_eq_false_iff_eq.mpr c4);(clear c4);(by_cases c5:(k9==i2)=true)
   ·(rw [if_pos c5] at H);(have ad4:(k9==i2)=true:=c5);((try (have cm3:decide (k9=i2)=true:=by simpa using c5)));((try (have ef9:(k9==i2)=true:=by simpa using c5)));(clear c5);(by_cases c6:n0.toList=i5.toList)
    ·(rw [if_pos c6] at H);(have V3:(n0.toList==i5.toList)=true:=beq_iff_eq.mpr c6);(have bg4:(n0.toList != i5.toList)=false:=bne_eq_false_iff_eq.mpr c6);(clear c6);(replace H:=Option.bind_eq_some_iff.mp H);(obtain ⟨cn8,A70,H⟩:=H);(have A7:=Aside0.mk A70);(clear A70);(obtain rfl:=Option.some.inj H);(go_enter Try.func19,Try.ntmps19);(go_wp2_with (first|((with_reducible refine gate_dst (N:=2) rfl ?_);refine bx (N:=2) (cs:=#[.int .i64 e4,.int .u8 d9,.int .i64 e8,.int .u64 o9,.bool k9,.string n0,.slice W5 F2.length W6]) (t:=33) ⟨mvW HB.out⟩ ?_;clear HB;intro Q9 hg w8 hb q7 af0 HB;have cg4:=af0;clear hb hg)|((with_reducible refine gate_dst (N:=3) rfl ?_);refine bx (N:=3) (cs:=#[.int .i64 b7,.int .u8 d8,.int .i64 g7,.int .u64 j5,.bool i2,.string i5,.slice W7 F3.length W8]) (t:=33) ⟨mvW HB.out⟩ ?_;clear HB;intro R0 hg w9 hb S0 af1 HB;have cg5:=af1;have K6:=Aside0.mk ((by rw [hg];exact Nat.ne_of_lt (blk_lt (mvB q7.out)):Q9≠R0));have K7:=Aside0.mk ((by rw [hg];exact Nat.ne_of_gt (blk_lt (mvB q7.out)):R0≠Q9));replace q7:=Aside0.mk (blk_below (mvB q7.out) hb);clear hb hg;have fp1:=K6.out;have hnc10:=K7.out;obtain ⟨cf8,cf9,cg0,en2,en3,en4,en5⟩:=bc7 q7.out;obtain ⟨cg1,cg2,cg3,en6,en7,en8,en9⟩:=bf7 q7.out;obtain ⟨cu8,cu9,cv0,fp2,fp3,fp4,fp5⟩:=bc7 S0.out;obtain ⟨cv1,cv2,cv3,fp6,fp7,fp8,fp9⟩:=bf7 S0.out)|(go_at_call 18;(with_reducible refine (lockkeeperref10_Same.calls k _ _ F2 _ _ F3 cn8 _ ?side1 ?side2 ?side3 ?side4 A7.out).mono ?_);(case side1=>exact mvC (Kd.C_below dl0.out HB.out));(case side2=>exact dl1.out);(case side3=>exact mvC (Kd.C_below dl2.out HB.out));(case side4=>exact dl3.out);rintro e w' ⟨rfl,⟨nd,rfl⟩⟩)));(go_ret);(exact ⟨rv,mvW HB.out⟩)
    ·(rw [if_neg c6] at H);(have V3:(n0.toList==i5.toList)=false:=beq_eq_false_iff_ne.mpr c6);(have bg4:(n0.toList != i5.toList)=true:=bne_iff_ne.mpr c6);(obtain rfl:=Option.some.inj H);(go_enter Try.func19,Try.ntmps19);(go_wp2_with (first|((with_reducible refine gate_dst (N:=2) rfl ?_);refine bx (N:=2) (cs:=#[.int .i64 e4,.int .u8 d9,.int .i64 e8,.int .u64 o9,.bool k9,.string n0,.slice W5 F2.length W6]) (t:=33) ⟨mvW HB.out⟩ ?_;clear HB;intro Q9 hg w13 hb q7 af0 HB;have cg4:=af0;clear hb hg)|((with_reducible refine gate_dst (N:=3) rfl ?_);refine bx (N:=3) (cs:=#[.int .i64 b7,.int .u8 d8,.int .i64 g7,.int .u64 j5,.bool i2,.string i5,.slice W7 F3.length W8]) (t:=33) ⟨mvW HB.out⟩ ?_;clear HB;intro R0 hg w14 hb S0 af1 HB;have cg5:=af1;have K6:=Aside0.mk ((by rw [hg];exact Nat.ne_of_lt (blk_lt (mvB q7.out)):Q9≠R0));have K7:=Aside0.mk ((by rw [hg];exact Nat.ne_of_gt (blk_lt (mvB q7.out)):R0≠Q9));replace q7:=Aside0.mk (blk_below (mvB q7.out) hb);clear hb hg;have fq0:=K6.out;have hnc15:=K7.out;obtain ⟨ax1,ax2,ax3,ce9,cf0,cf1,cf2⟩:=bc7 q7.out;obtain ⟨ax4,ax5,ax6,cf3,cf4,cf5,cf6⟩:=bf7 q7.out;obtain ⟨aw7,aw8,cd5,dd5,dd6,dd7,dd8⟩:=bc7 S0.out;obtain ⟨aw9,ax0,cd6,dd9,de0,de1,de2⟩:=bf7 S0.out)));(go_ret);(exact ⟨rv,mvW HB.out⟩)
   ·(rw [if_neg c5] at H);(have ad4:(k9==i2)=false:=by simpa using c5);((try (have cm3:decide (k9=i2)=false:=by simpa using c5)));((try (have ef9:(k9==i2)=false:=by simpa using c5)));((try (have fy9:¬ (k9=i2):=by simpa using c5)));(clear c5);(obtain rfl:=Option.some.inj H);(go_enter Try.func19,Try.ntmps19);(go_wp2_with (first|((with_reducible refine gate_dst (N:=2) rfl ?_);refine bx (N:=2) (cs:=#[.int .i64 e4,.int .u8 d9,.int .i64 e8,.int .u64 o9,.bool k9,.string n0,.slice W5 F2.length W6]) (t:=33) ⟨mvW HB.out⟩ ?_;clear HB;intro Q9 hg w18 hb q7 af0 HB;have cg4:=af0;clear hb hg)|((with_reducible refine gate_dst (N:=3) rfl ?_);refine bx (N:=3) (cs:=#[.int .i64 b7,.int .u8 d8,.int .i64 g7,.int .u64 j5,.bool i2,.string i5,.slice W7 F3.length W8]) (t:=33) ⟨mvW HB.out⟩ ?_;clear HB;intro R0 hg w19 hb S0 af1 HB;have cg5:=af1;have K6:=Aside0.mk ((by rw [hg];exact Nat.ne_of_lt (blk_lt (mvB q7.out)):Q9≠R0));have K7:=Aside0.mk ((by rw [hg];exact Nat.ne_of_gt (blk_lt (mvB q7.out)):R0≠Q9));replace q7:=Aside0.mk (blk_below (mvB q7.out) hb);clear hb hg;have cb3:=K6.out;have hnc20:=K7.out;obtain ⟨aq7,aq8,cd7,cd8,cd9,ce0,ce1⟩:=bc7 q7.out;obtain ⟨aq9,ar0,ce2,ce3,ce4,ce5,ce6⟩:=bf7 q7.out;obtain ⟨ay1,ay2,ay3,bm8,bm9,bn0,bn1⟩:=bc7 S0.out;obtain ⟨ay4,ay5,ay6,bn2,bn3,bn4,bn5⟩:=bf7 S0.out)));(go_ret);(exact ⟨rv,mvW HB.out⟩)
  ·(rw [if_neg c4] at H);(have G4:(e8==g7)=false:=beq_eq_false_iff_ne.mpr c4);(have aj0:(e8 != g7)=true:=bne_iff_ne.mpr c4);(obtain rfl:=Option.some.inj H);(go_enter Try.func19,Try.ntmps19);(go_wp2_with (first|((with_reducible refine gate_dst (N:=2) rfl ?_);refine bx (N:=2) (cs:=#[.int .i64 e4,.int .u8 d9,.int .i64 e8,.int .u64 o9,.bool k9,.string n0,.slice W5 F2.length W6]) (t:=33) ⟨mvW HB.out⟩ ?_;clear HB;intro Q9 hg w23 hb q7 af0 HB;have cg4:=af0;clear hb hg)|((with_reducible refine gate_dst (N:=3) rfl ?_);refine bx (N:=3) (cs:=#[.int .i64 b7,.int .u8 d8,.int .i64 g7,.int .u64 j5,.bool i2,.string i5,.slice W7 F3.length W8]) (t:=33) ⟨mvW HB.out⟩ ?_;clear HB;intro R0 hg w24 hb S0 af1 HB;have cg5:=af1;have K6:=Aside0.mk ((by rw [hg];exact Nat.ne_of_lt (blk_lt (mvB q7.out)):Q9≠R0));have K7:=Aside0.mk ((by rw [hg];exact Nat.ne_of_gt (blk_lt (mvB q7.out)):R0≠Q9));replace q7:=Aside0.mk (blk_below (mvB q7.out) hb);clear hb hg;have eh8:=K6.out;have hnc25:=K7.out;obtain ⟨bn6,bn7,bn8,bn9,bo0,bo1,bo2⟩:=bc7 q7.out;obtain ⟨bo3,bo4,bo5,bo6,bo7,bo8,bo9⟩:=bf7 q7.out;obtain ⟨ct9,cu0,eo0,eo1,eo2,eo3,eo4⟩:=bc7 S0.out;obtain ⟨cu1,cu2,eo5,eo6,eo7,eo8,eo9⟩:=bf7 S0.out)));(go_ret);(exact ⟨rv,mvW HB.out⟩)
 ·(rw [if_neg c3] at H);(have G8:(d9==d8)=false:=beq_eq_false_iff_ne.mpr c3);(have Z9:(d9 != d8)=true:=bne_iff_ne.mpr c3);(obtain rfl:=Option.some.inj H);(go_enter Try.func19,Try.ntmps19);(go_wp2_with (first|((with_reducible refine gate_dst (N:=2) rfl ?_);refine bx (N:=2) (cs:=#[.int .i64 e4,.int .u8 d9,.int .i64 e8,.int .u64 o9,.bool k9,.string n0,.slice W5 F2.length W6]) (t:=33) ⟨mvW HB.out⟩ ?_;clear HB;intro Q9 hg w28 hb q7 af0 HB;have cg4:=af0;clear hb hg)|((with_reducible refine gate_dst (N:=3) rfl ?_);refine bx (N:=3) (cs:=#[.int .i64 b7,.int .u8 d8,.int .i64 g7,.int .u64 j5,.bool i2,.string i5,.slice W7 F3.length W8]) (t:=33) ⟨mvW HB.out⟩ ?_;clear HB;intro R0 hg w29 hb S0 af1 HB;have cg5:=af1;have K6:=Aside0.mk ((by rw [hg];exact Nat.ne_of_lt (blk_lt (mvB q7.out)):Q9≠R0));have K7:=Aside0.mk ((by rw [hg];exact Nat.ne_of_gt (blk_lt (mvB q7.out)):R0≠Q9));replace q7:=Aside0.mk (blk_below (mvB q7.out) hb);clear hb hg;have cy0:=K6.out;have hnc30:=K7.out;obtain ⟨dj2,dj3,dj4,dj5,dj6,dj7,dj8⟩:=bc7 q7.out;obtain ⟨dj9,dk0,dk1,dk2,dk3,dk4,dk5⟩:=bf7 q7.out;obtain ⟨bp0,bp1,bp2,bp3,bp4,bp5,bp6⟩:=bc7 S0.out;obtain ⟨bp7,bp8,bp9,bq0,bq1,bq2,bq3⟩:=bf7 S0.out)));(go_ret);(exact ⟨rv,mvW HB.out⟩)

/-! ### api_Cell_61: function 61 -/
def api_Cell_61.l0:Nat→List (S42)→List (S42)→Int→Int→Option (Bool)
 |0,_,_,_,_=>none
 |k+1,x0,x1,x12,x13=>if x13 < x12 then (if 0≤x13 then (if x13 < (x0.length:Int) then (if x13 < (x1.length:Int) then (if (!((((rd_T42 x0 x13).f0).toList)==(((rd_T42 x1 x13).f0).toList))||(!((((rd_T42 x0 x13).f1).toList)==(((rd_T42 x1 x13).f1).toList))))=true then (some false) else (api_Cell_61.l0 k x0 x1 x12 (wrap64 (x13+1)))) else (none)) else (none)) else (none)) else (some true)
def api_Cell_61.f (k:Nat) (l0:List (S42)) (l1:List (S42)):Option (Bool):=if (l0.length:Int)=(l1.length:Int) then (api_Cell_61.l0 k l0 l1 (l0.length:Int) 0) else (some false)
theorem api_Cell_61.mono_l:∀ k,(∀ y0 y1 y2 y3,LeO (api_Cell_61.l0 k y0 y1 y2 y3) (api_Cell_61.l0 (k+1) y0 y1 y2 y3))
 |0=>fun _ _ _ _ r h=>by simp [api_Cell_61.l0] at h
 |k+1=>by
  have ih0:=api_Cell_61.mono_l k
  ·intro y0 y1 y2 y3
   unfold api_Cell_61.l0
   repeat' first
   |(with_reducible exact ih0 _ _ _ _)
   |(with_reducible exact LeO.refl _)
   |(with_reducible exact LeO.none _)
   |(with_reducible refine LeO.ite ?_ ?_)
   |(with_reducible refine LeO.bind ?_ (fun _=>?_))
   |exact ih0 _ _ _ _
   |exact LeO.none _
   |refine LeO.ite ?_ ?_
   |refine LeO.bind ?_ (fun _=>?_)
theorem api_Cell_61.mono:∀ a0 a1 k,LeO (api_Cell_61.f k a0 a1) (api_Cell_61.f (k+1) a0 a1):=by
 intro a0 a1 k
 have ih0:=api_Cell_61.mono_l k
 unfold api_Cell_61.f
 repeat' first
   |(with_reducible exact ih0 _ _ _ _)
   |(with_reducible exact LeO.refl _)
   |(with_reducible exact LeO.none _)
   |(with_reducible refine LeO.ite ?_ ?_)
   |(with_reducible refine LeO.bind ?_ (fun _=>?_))
   |exact ih0 _ _ _ _
   |exact LeO.none _
   |refine LeO.ite ?_ ?_
   |refine LeO.bind ?_ (fun _=>?_)
set_option maxHeartbeats 8000000 in
set_option maxRecDepth 100000 in
theorem api_Cell_61.calls (k:Nat) (A0:Option Addr) (c0:Nat) (l0:List (S42)) (A1:Option Addr) (c1:Nat) (l1:List (S42)) (r:Bool) (w:World) (hr0:Kd.C k42 w A0 l0.length l0) (hc0:l0.length≤c0) (hr1:Kd.C k42 w A1 l1.length l1) (hc1:l1.length≤c1) (h:api_Cell_61.f k l0 l1=some r):
  Calls Try.prog 61 #[.slice A0 l0.length c0,.slice A1 l1.length c1] w fun e w'=>e=.returned (.bool r)∧Drawn0 w w':=by
 (have hu42:=Try.underlying42);(have i3:=Aside0.mk hr0);(have l7:=Aside0.mk hc0);(clear hr0 hc0);(have G2:=Aside0.mk hr1);(have HC1:=Aside0.mk hc1);(clear hr1 hc1);(have H:(if (l0.length:Int)=(l1.length:Int) then (api_Cell_61.l0 k l0 l1 (l0.length:Int) 0) else (some false))=some r:=h);(clear h);(by_cases c3:(l0.length:Int)=(l1.length:Int))
 ·(rw [if_pos c3] at H);(have G8:((l0.length:Int)==(l1.length:Int))=true:=beq_iff_eq.mpr c3);(have Z9:((l0.length:Int) != (l1.length:Int))=false:=bne_eq_false_iff_eq.mpr c3);(have aw1:(l0.length==l1.length)=true:=by first|simpa using c3|(simp at c3 ⊢;omega));(clear c3);(have H':=Aside0.mk H);(clear H);(go_enter Try.func61,Try.ntmps61);(go_wp2);(repeat (go_quiet (fail);try go_wp2));(go_loopg [13] k (fun kq v13 w'=>∃ (r0:Int),v13=.int .i64 r0∧Aside0 (api_Cell_61.l0 kq l0 l1 (l0.length:Int) r0=some r)∧Aside0 (kq≤k)∧Drawn0 w w'))
  case atStart=>exact ⟨(0),sd,H',⟨Nat.le_refl _⟩,by repeat (first|exact Drawn0.refl _ |apply Drawn0.step)⟩
  case round=>
   (clear H');(try clear c1);(try clear p2);(try clear c3);(try clear G8);(try clear Z9);(try clear aw1);(obtain ⟨r0,rfl,HA,E3,⟨m1,rfl⟩⟩:=hrel)
   cases gk with
   |zero=>exact absurd HA.out (by simp [api_Cell_61.l0])
   |succ k1=>
    (have H:=HA.out);(clear HA);(simp only [api_Cell_61.l0] at H);(by_cases c4:r0 < (l0.length:Int))
    ·(rw [if_pos c4] at H);(have G4:=decide_eq_true c4);(clear c4);(by_cases c5:0≤r0)
     ·(rw [if_pos c5] at H);(have ad4:=decide_eq_true c5);(clear c5);(by_cases c6:r0 < (l0.length:Int))
      ·(rw [if_pos c6] at H);(have V3:=decide_eq_true c6);(clear c6);(by_cases c7:r0 < (l1.length:Int))
       ·(rw [if_pos c7] at H);(have au5:=decide_eq_true c7);(clear c7);(by_cases c8:(!((((rd_T42 l0 r0).f0).toList)==(((rd_T42 l1 r0).f0).toList))||(!((((rd_T42 l0 r0).f1).toList)==(((rd_T42 l1 r0).f1).toList))))=true)
        ·(rw [if_pos c8] at H);(have ai9:(!((((rd_T42 l0 r0).f0).toList)==(((rd_T42 l1 r0).f0).toList))||(!((((rd_T42 l0 r0).f1).toList)==(((rd_T42 l1 r0).f1).toList))))=true:=c8);(clear c8);(obtain rfl:=Option.some.inj H);(have bi3:0≤(r0:Int):=od);(have bi4:r0 < (l0.length:Int):=od);(obtain ⟨ad238,e238,es2,es3⟩:=at_T42 i3.out r0 bi3 bi4);(cases e238);(replace bi3:=eq_true bi3);(replace bi4:=eq_true bi4);(have bi5:0≤(r0:Int):=od);(have bi6:r0 < (l1.length:Int):=od);(obtain ⟨ad239,e239,es4,es5⟩:=at_T42 G2.out r0 bi5 bi6);(cases e239);(replace bi5:=eq_true bi5);(replace bi6:=eq_true bi6);(go_wp2);(repeat (go_quiet (fail);try go_wp2));(go_ret);(exact ⟨by first|rfl|(simp;done)|(simp [*];done),by repeat (first|exact Drawn0.refl _ |apply Drawn0.step)⟩)
        ·(rw [if_neg c8] at H);(have ai9:(!((((rd_T42 l0 r0).f0).toList)==(((rd_T42 l1 r0).f0).toList))||(!((((rd_T42 l0 r0).f1).toList)==(((rd_T42 l1 r0).f1).toList))))=false:=by simpa using c8);(clear c8);(have H':=Aside0.mk H);(clear H);(have bi3:0≤(r0:Int):=od);(have bi4:r0 < (l0.length:Int):=od);(obtain ⟨ad238,e238,es2,es3⟩:=at_T42 i3.out r0 bi3 bi4);(cases e238);(replace bi3:=eq_true bi3);(replace bi4:=eq_true bi4);(have bi5:0≤(r0:Int):=od);(have bi6:r0 < (l1.length:Int):=od);(obtain ⟨ad239,e239,es4,es5⟩:=at_T42 G2.out r0 bi5 bi6);(cases e239);(replace bi5:=eq_true bi5);(replace bi6:=eq_true bi6);(go_wp2);(repeat (go_quiet (fail);try go_wp2));(go_roundg k1)
         case measure=>have:=E3.out;omega
         case rel=>exact ⟨(wrap64 (r0+1)),sd,H',⟨by have:=E3.out;omega⟩,by repeat (first|exact Drawn0.refl _ |apply Drawn0.step)⟩
       ·(rw [if_neg c7] at H);(exact absurd H (by simp))
      ·(rw [if_neg c6] at H);(exact absurd H (by simp))
     ·(rw [if_neg c5] at H);(exact absurd H (by simp))
    ·(rw [if_neg c4] at H);(have G4:decide (r0 < (l0.length:Int))=false:=decide_eq_false c4);(clear c4);(obtain rfl:=Option.some.inj H);(go_wp2);(repeat (go_quiet (fail);try go_wp2));(go_ret);(exact ⟨by first|rfl|(simp;done)|(simp [*];done),by repeat (first|exact Drawn0.refl _ |apply Drawn0.step)⟩)
 ·(rw [if_neg c3] at H);(have G8:((l0.length:Int)==(l1.length:Int))=false:=beq_eq_false_iff_ne.mpr c3);(have Z9:((l0.length:Int) != (l1.length:Int))=true:=bne_iff_ne.mpr c3);(have aw1:(l0.length==l1.length)=false:=by first|simpa using c3|(simp at c3 ⊢;omega));(obtain rfl:=Option.some.inj H);(go_enter Try.func61,Try.ntmps61);(go_wp2);(repeat (go_quiet (fail);try go_wp2));(go_ret);(exact ⟨by first|rfl|(simp;done)|(simp [*];done),by repeat (first|exact Drawn0.refl _ |apply Drawn0.step)⟩)

/-! ### cells_Same: function 49 -/
def cells_Same.f (k:Nat) (l0:List (S42)) (l1:List (S42)):Option (Bool):=(api_Cell_61.f k l0 l1).bind fun cn9=>(some cn9)
theorem cells_Same.mono:∀ a0 a1 k,LeO (cells_Same.f k a0 a1) (cells_Same.f (k+1) a0 a1):=by
 intro a0 a1 k
 unfold cells_Same.f
 repeat' first
   |(with_reducible exact api_Cell_61.mono _ _ _)
   |(with_reducible exact LeO.refl _)
   |(with_reducible exact LeO.none _)
   |(with_reducible refine LeO.ite ?_ ?_)
   |(with_reducible refine LeO.bind ?_ (fun _=>?_))
   |exact api_Cell_61.mono _ _ _
   |exact LeO.none _
   |refine LeO.ite ?_ ?_
   |refine LeO.bind ?_ (fun _=>?_)
set_option maxHeartbeats 8000000 in
set_option maxRecDepth 100000 in
theorem cells_Same.calls (k:Nat) (A0:Option Addr) (c0:Nat) (l0:List (S42)) (A1:Option Addr) (c1:Nat) (l1:List (S42)) (r:Bool) (w:World) (hr0:Kd.C k42 w A0 l0.length l0) (hc0:l0.length≤c0) (hr1:Kd.C k42 w A1 l1.length l1) (hc1:l1.length≤c1) (h:cells_Same.f k l0 l1=some r):
  Calls Try.prog 49 #[.slice A0 l0.length c0,.slice A1 l1.length c1] w fun e w'=>e=.returned (.bool r)∧Drawn0 w w':=by
 (have i3:=Aside0.mk hr0);(have l7:=Aside0.mk hc0);(clear hr0 hc0);(have G2:=Aside0.mk hr1);(have HC1:=Aside0.mk hc1);(clear hr1 hc1);(have H:((api_Cell_61.f k l0 l1).bind fun cn9=>(some cn9))=some r:=h);(clear h);(replace H:=Option.bind_eq_some_iff.mp H);(obtain ⟨cn9,A30,H⟩:=H);(have A3:=Aside0.mk A30);(clear A30);(obtain rfl:=Option.some.inj H);(go_enter Try.func49,Try.ntmps49);(go_wp2_with (first|((with_reducible refine gate_callee (f:=61) rfl ?_);refine goesL_ (some 7) rfl rfl Try.func61 (by kernel_rfl) rfl #[.slice A0 l0.length c0,.slice A1 l1.length c1] rfl am ?_;(with_reducible refine (api_Cell_61.calls k _ _ l0 _ _ l1 cn9 _ ?side1 ?side2 ?side3 ?side4 A3.out).mono ?_);(case side1=>exact mvC i3.out);(case side2=>exact l7.out);(case side3=>exact mvC G2.out);(case side4=>exact HC1.out);rintro e w' ⟨rfl,⟨nd,rfl⟩⟩;refine ⟨_,rfl,?_⟩)));(go_ret);(exact ⟨by first|rfl|(simp;done)|(simp [*];done),by repeat (first|exact Drawn0.refl _ |apply Drawn0.step)⟩)

/-! ### model_Same: function 20 -/
def model_Same.f (k:Nat) (e4:Int) (d9:Int) (e8:Int) (o9:Int) (k9:Bool) (n0:ByteArray) (F2:List (S42)) (b7:Int) (d8:Int) (g7:Int) (j5:Int) (i2:Bool) (i5:ByteArray) (F3:List (S42)):Option (Bool):=if d9=d8 then (if e8=g7 then (if (k9==i2)=true then (if n0.toList=i5.toList then ((cells_Same.f k F2 F3).bind fun co0=>(some co0)) else (some false)) else (some false)) else (some false)) else (some false)
theorem model_Same.mono:∀ a0 a1 a2 a3 a4 a5 a6 a7 a8 a9 a10 a11 a12 a13 k,LeO (model_Same.f k a0 a1 a2 a3 a4 a5 a6 a7 a8 a9 a10 a11 a12 a13) (model_Same.f (k+1) a0 a1 a2 a3 a4 a5 a6 a7 a8 a9 a10 a11 a12 a13):=by
 intro a0 a1 a2 a3 a4 a5 a6 a7 a8 a9 a10 a11 a12 a13 k
 unfold model_Same.f
 repeat' first
   |(with_reducible exact cells_Same.mono _ _ _)
   |(with_reducible exact LeO.refl _)
   |(with_reducible exact LeO.none _)
   |(with_reducible refine LeO.ite ?_ ?_)
   |(with_reducible refine LeO.bind ?_ (fun _=>?_))
   |exact cells_Same.mono _ _ _
   |exact LeO.none _
   |refine LeO.ite ?_ ?_
   |refine LeO.bind ?_ (fun _=>?_)
set_option maxHeartbeats 8000000 in
set_option maxRecDepth 100000 in
theorem model_Same.calls (k:Nat) (e4:Int) (d9:Int) (e8:Int) (o9:Int) (k9:Bool) (n0:ByteArray) (W5:Option Addr) (W6:Nat) (F2:List (S42)) (b7:Int) (d8:Int) (g7:Int) (j5:Int) (i2:Bool) (i5:ByteArray) (W7:Option Addr) (W8:Nat) (F3:List (S42)) (r:Bool) (w:World) (bs1:Kd.C k42 w W5 F2.length F2) (bs2:F2.length≤W6) (bs3:Kd.C k42 w W7 F3.length F3) (bs4:F3.length≤W8) (h:model_Same.f k e4 d9 e8 o9 k9 n0 F2 b7 d8 g7 j5 i2 i5 F3=some r):
  Calls Try.prog 20 #[.agg #[.int .i64 e4,.int .u8 d9,.int .i64 e8,.int .u64 o9,.bool k9,.string n0,.slice W5 F2.length W6],.agg #[.int .i64 b7,.int .u8 d8,.int .i64 g7,.int .u64 j5,.bool i2,.string i5,.slice W7 F3.length W8]] w fun e w'=>e=.returned (.bool r)∧Below w.heap.size w w':=by
 (have hu33:=Try.underlying33);(have dl0:=Aside0.mk bs1);(have dl1:=Aside0.mk bs2);(clear bs1 bs2);(have dl2:=Aside0.mk bs3);(have dl3:=Aside0.mk bs4);(clear bs3 bs4);(have HB:=Aside0.mk (Below.refl w.heap.size w));(have H:(if d9=d8 then (if e8=g7 then (if (k9==i2)=true then (if n0.toList=i5.toList then ((cells_Same.f k F2 F3).bind fun co0=>(some co0)) else (some false)) else (some false)) else (some false)) else (some false))=some r:=h);(clear h);(by_cases c3:d9=d8)
 ·(rw [if_pos c3] at H);(have G8:(d9==d8)=true:=beq_iff_eq.mpr c3);(have Z9:(d9 != d8)=false:=bne_eq_false_iff_eq.mpr c3);(clear c3);(by_cases c4:e8=g7)
  ·(rw [if_pos c4] at H);(have G4:(e8==g7)=true:=beq_iff_eq.mpr c4);(have aj0:(e8 != g7)=false:=bne_eq_false_iff_eq.mpr c4);(clear c4);(by_cases c5:(k9==i2)=true)
   ·(rw [if_pos c5] at H);(have ad4:(k9==i2)=true:=c5);((try (have cm3:decide (k9=i2)=true:=by simpa using c5)));((try (have ef9:(k9==i2)=true:=by simpa using c5)));(clear c5);(by_cases c6:n0.toList=i5.toList)
    ·(rw [if_pos c6] at H);(have V3:(n0.toList==i5.toList)=true:=beq_iff_eq.mpr c6);(have bg4:(n0.toList != i5.toList)=false:=bne_eq_false_iff_eq.mpr c6);(clear c6);(replace H:=Option.bind_eq_some_iff.mp H);(obtain ⟨co0,A70,H⟩:=H);(have A7:=Aside0.mk A70);(clear A70);(obtain rfl:=Option.some.inj H);(go_enter Try.func20,Try.ntmps20);(go_wp2_with (first|((with_reducible refine gate_dst (N:=2) rfl ?_);refine bx (N:=2) (cs:=#[.int .i64 e4,.int .u8 d9,.int .i64 e8,.int .u64 o9,.bool k9,.string n0,.slice W5 F2.length W6]) (t:=33) ⟨mvW HB.out⟩ ?_;clear HB;intro S3 hg w8 hb q8 af2 HB;have cg6:=af2;clear hb hg)|((with_reducible refine gate_dst (N:=3) rfl ?_);refine bx (N:=3) (cs:=#[.int .i64 b7,.int .u8 d8,.int .i64 g7,.int .u64 j5,.bool i2,.string i5,.slice W7 F3.length W8]) (t:=33) ⟨mvW HB.out⟩ ?_;clear HB;intro S4 hg w9 hb S5 af3 HB;have cg7:=af3;have K8:=Aside0.mk ((by rw [hg];exact Nat.ne_of_lt (blk_lt (mvB q8.out)):S3≠S4));have K9:=Aside0.mk ((by rw [hg];exact Nat.ne_of_gt (blk_lt (mvB q8.out)):S4≠S3));replace q8:=Aside0.mk (blk_below (mvB q8.out) hb);clear hb hg;have fp1:=K8.out;have hnc10:=K9.out;obtain ⟨cf8,cf9,cg0,en2,en3,en4,en5⟩:=bc7 q8.out;obtain ⟨cg1,cg2,cg3,en6,en7,en8,en9⟩:=bf7 q8.out;obtain ⟨cu8,cu9,cv0,fp2,fp3,fp4,fp5⟩:=bc7 S5.out;obtain ⟨cv1,cv2,cv3,fp6,fp7,fp8,fp9⟩:=bf7 S5.out)|(go_at_call 49;(with_reducible refine (cells_Same.calls k _ _ F2 _ _ F3 co0 _ ?side1 ?side2 ?side3 ?side4 A7.out).mono ?_);(case side1=>exact mvC (Kd.C_below dl0.out HB.out));(case side2=>exact dl1.out);(case side3=>exact mvC (Kd.C_below dl2.out HB.out));(case side4=>exact dl3.out);rintro e w' ⟨rfl,⟨nd,rfl⟩⟩)));(go_ret);(exact ⟨rv,mvW HB.out⟩)
    ·(rw [if_neg c6] at H);(have V3:(n0.toList==i5.toList)=false:=beq_eq_false_iff_ne.mpr c6);(have bg4:(n0.toList != i5.toList)=true:=bne_iff_ne.mpr c6);(obtain rfl:=Option.some.inj H);(go_enter Try.func20,Try.ntmps20);(go_wp2_with (first|((with_reducible refine gate_dst (N:=2) rfl ?_);refine bx (N:=2) (cs:=#[.int .i64 e4,.int .u8 d9,.int .i64 e8,.int .u64 o9,.bool k9,.string n0,.slice W5 F2.length W6]) (t:=33) ⟨mvW HB.out⟩ ?_;clear HB;intro S3 hg w13 hb q8 af2 HB;have cg6:=af2;clear hb hg)|((with_reducible refine gate_dst (N:=3) rfl ?_);refine bx (N:=3) (cs:=#[.int .i64 b7,.int .u8 d8,.int .i64 g7,.int .u64 j5,.bool i2,.string i5,.slice W7 F3.length W8]) (t:=33) ⟨mvW HB.out⟩ ?_;clear HB;intro S4 hg w14 hb S5 af3 HB;have cg7:=af3;have K8:=Aside0.mk ((by rw [hg];exact Nat.ne_of_lt (blk_lt (mvB q8.out)):S3≠S4));have K9:=Aside0.mk ((by rw [hg];exact Nat.ne_of_gt (blk_lt (mvB q8.out)):S4≠S3));replace q8:=Aside0.mk (blk_below (mvB q8.out) hb);clear hb hg;have fq0:=K8.out;have hnc15:=K9.out;obtain ⟨ax1,ax2,ax3,ce9,cf0,cf1,cf2⟩:=bc7 q8.out;obtain ⟨ax4,ax5,ax6,cf3,cf4,cf5,cf6⟩:=bf7 q8.out;obtain ⟨aw7,aw8,cd5,dd5,dd6,dd7,dd8⟩:=bc7 S5.out;obtain ⟨aw9,ax0,cd6,dd9,de0,de1,de2⟩:=bf7 S5.out)));(go_ret);(exact ⟨rv,mvW HB.out⟩)
   ·(rw [if_neg c5] at H);(have ad4:(k9==i2)=false:=by simpa using c5);((try (have cm3:decide (k9=i2)=false:=by simpa using c5)));((try (have ef9:(k9==i2)=false:=by simpa using c5)));((try (have fy9:¬ (k9=i2):=by simpa using c5)));(clear c5);(obtain rfl:=Option.some.inj H);(go_enter Try.func20,Try.ntmps20);(go_wp2_with (first|((with_reducible refine gate_dst (N:=2) rfl ?_);refine bx (N:=2) (cs:=#[.int .i64 e4,.int .u8 d9,.int .i64 e8,.int .u64 o9,.bool k9,.string n0,.slice W5 F2.length W6]) (t:=33) ⟨mvW HB.out⟩ ?_;clear HB;intro S3 hg w18 hb q8 af2 HB;have cg6:=af2;clear hb hg)|((with_reducible refine gate_dst (N:=3) rfl ?_);refine bx (N:=3) (cs:=#[.int .i64 b7,.int .u8 d8,.int .i64 g7,.int .u64 j5,.bool i2,.string i5,.slice W7 F3.length W8]) (t:=33) ⟨mvW HB.out⟩ ?_;clear HB;intro S4 hg w19 hb S5 af3 HB;have cg7:=af3;have K8:=Aside0.mk ((by rw [hg];exact Nat.ne_of_lt (blk_lt (mvB q8.out)):S3≠S4));have K9:=Aside0.mk ((by rw [hg];exact Nat.ne_of_gt (blk_lt (mvB q8.out)):S4≠S3));replace q8:=Aside0.mk (blk_below (mvB q8.out) hb);clear hb hg;have cb3:=K8.out;have hnc20:=K9.out;obtain ⟨aq7,aq8,cd7,cd8,cd9,ce0,ce1⟩:=bc7 q8.out;obtain ⟨aq9,ar0,ce2,ce3,ce4,ce5,ce6⟩:=bf7 q8.out;obtain ⟨ay1,ay2,ay3,bm8,bm9,bn0,bn1⟩:=bc7 S5.out;obtain ⟨ay4,ay5,ay6,bn2,bn3,bn4,bn5⟩:=bf7 S5.out)));(go_ret);(exact ⟨rv,mvW HB.out⟩)
  ·(rw [if_neg c4] at H);(have G4:(e8==g7)=false:=beq_eq_false_iff_ne.mpr c4);(have aj0:(e8 != g7)=true:=bne_iff_ne.mpr c4);(obtain rfl:=Option.some.inj H);(go_enter Try.func20,Try.ntmps20);(go_wp2_with (first|((with_reducible refine gate_dst (N:=2) rfl ?_);refine bx (N:=2) (cs:=#[.int .i64 e4,.int .u8 d9,.int .i64 e8,.int .u64 o9,.bool k9,.string n0,.slice W5 F2.length W6]) (t:=33) ⟨mvW HB.out⟩ ?_;clear HB;intro S3 hg w23 hb q8 af2 HB;have cg6:=af2;clear hb hg)|((with_reducible refine gate_dst (N:=3) rfl ?_);refine bx (N:=3) (cs:=#[.int .i64 b7,.int .u8 d8,.int .i64 g7,.int .u64 j5,.bool i2,.string i5,.slice W7 F3.length W8]) (t:=33) ⟨mvW HB.out⟩ ?_;clear HB;intro S4 hg w24 hb S5 af3 HB;have cg7:=af3;have K8:=Aside0.mk ((by rw [hg];exact Nat.ne_of_lt (blk_lt (mvB q8.out)):S3≠S4));have K9:=Aside0.mk ((by rw [hg];exact Nat.ne_of_gt (blk_lt (mvB q8.out)):S4≠S3));replace q8:=Aside0.mk (blk_below (mvB q8.out) hb);clear hb hg;have eh8:=K8.out;have hnc25:=K9.out;obtain ⟨bn6,bn7,bn8,bn9,bo0,bo1,bo2⟩:=bc7 q8.out;obtain ⟨bo3,bo4,bo5,bo6,bo7,bo8,bo9⟩:=bf7 q8.out;obtain ⟨ct9,cu0,eo0,eo1,eo2,eo3,eo4⟩:=bc7 S5.out;obtain ⟨cu1,cu2,eo5,eo6,eo7,eo8,eo9⟩:=bf7 S5.out)));(go_ret);(exact ⟨rv,mvW HB.out⟩)
 ·(rw [if_neg c3] at H);(have G8:(d9==d8)=false:=beq_eq_false_iff_ne.mpr c3);(have Z9:(d9 != d8)=true:=bne_iff_ne.mpr c3);(obtain rfl:=Option.some.inj H);(go_enter Try.func20,Try.ntmps20);(go_wp2_with (first|((with_reducible refine gate_dst (N:=2) rfl ?_);refine bx (N:=2) (cs:=#[.int .i64 e4,.int .u8 d9,.int .i64 e8,.int .u64 o9,.bool k9,.string n0,.slice W5 F2.length W6]) (t:=33) ⟨mvW HB.out⟩ ?_;clear HB;intro S3 hg w28 hb q8 af2 HB;have cg6:=af2;clear hb hg)|((with_reducible refine gate_dst (N:=3) rfl ?_);refine bx (N:=3) (cs:=#[.int .i64 b7,.int .u8 d8,.int .i64 g7,.int .u64 j5,.bool i2,.string i5,.slice W7 F3.length W8]) (t:=33) ⟨mvW HB.out⟩ ?_;clear HB;intro S4 hg w29 hb S5 af3 HB;have cg7:=af3;have K8:=Aside0.mk ((by rw [hg];exact Nat.ne_of_lt (blk_lt (mvB q8.out)):S3≠S4));have K9:=Aside0.mk ((by rw [hg];exact Nat.ne_of_gt (blk_lt (mvB q8.out)):S4≠S3));replace q8:=Aside0.mk (blk_below (mvB q8.out) hb);clear hb hg;have cy0:=K8.out;have hnc30:=K9.out;obtain ⟨dj2,dj3,dj4,dj5,dj6,dj7,dj8⟩:=bc7 q8.out;obtain ⟨dj9,dk0,dk1,dk2,dk3,dk4,dk5⟩:=bf7 q8.out;obtain ⟨bp0,bp1,bp2,bp3,bp4,bp5,bp6⟩:=bc7 S5.out;obtain ⟨bp7,bp8,bp9,bq0,bq1,bq2,bq3⟩:=bf7 S5.out)));(go_ret);(exact ⟨rv,mvW HB.out⟩)

/-! ### lockkeeperref30_Small: function 9 -/
def lockkeeperref30_Small.f (e4:Int) (d9:ByteArray) (e8:ByteArray) (o9:ByteArray) (k9:ByteArray) (n0:Bool) (I1:Int):Option (Bool):=some (decide ((wrap64 ((wrap64 ((wrap64 ((d9.size:Int)+(e8.size:Int)))+(o9.size:Int)))+(k9.size:Int)))≤5000))
set_option maxHeartbeats 8000000 in
set_option maxRecDepth 100000 in
theorem lockkeeperref30_Small.calls (e4:Int) (d9:ByteArray) (e8:ByteArray) (o9:ByteArray) (k9:ByteArray) (n0:Bool) (I1:Int) (r:Bool) (w:World) (h:lockkeeperref30_Small.f e4 d9 e8 o9 k9 n0 I1=some r):
  Calls Try.prog 9 #[.agg #[.int .u8 e4,.string d9,.string e8,.string o9,.string k9,.bool n0,.int .i64 I1]] w fun e w'=>e=.returned (.bool r)∧Below w.heap.size w w':=by
 (have hu26:=Try.underlying26);(have HB:=Aside0.mk (Below.refl w.heap.size w));(have H:(some (decide ((wrap64 ((wrap64 ((wrap64 ((d9.size:Int)+(e8.size:Int)))+(o9.size:Int)))+(k9.size:Int)))≤5000)))=some r:=h);(clear h);(obtain rfl:=Option.some.inj H);(go_enter Try.func9,Try.ntmps9);(go_wp2_with (first|((with_reducible refine gate_dst (N:=1) rfl ?_);refine bx (N:=1) (cs:=#[.int .u8 e4,.string d9,.string e8,.string o9,.string k9,.bool n0,.int .i64 I1]) (t:=26) ⟨mvW HB.out⟩ ?_;clear HB;intro hn7 hg w2 hb ep0 fq1 HB;have hn8:=fq1;clear hb hg;obtain ⟨hy1,hy2,hy3,hy4,hy5,hy6,hy7⟩:=bc7 ep0.out;obtain ⟨hy8,hy9,hz3,hz4,hz5,hz6,hz7⟩:=bf7 ep0.out)));(go_ret);(exact ⟨rv,mvW HB.out⟩)

/-! ### lockkeeperlaw30_many: function 21 -/
mutual
def lockkeeperlaw30_many.l0:Nat→List (S26)→Int→Option (Bool)
 |0,_,_=>none
 |k+1,x0,x3=>if x3 < (x0.length:Int) then (lockkeeperlaw30_many.j1 k x0 x3 (decide (x3 < 20))) else (lockkeeperlaw30_many.j1 k x0 x3 false)
def lockkeeperlaw30_many.j1:Nat→List (S26)→Int→Bool→Option (Bool)
 |0,_,_,_=>none
 |k+1,x0,x3,L7=>if L7=true then (if 0≤x3 then (if x3 < (x0.length:Int) then ((lockkeeperref30_Small.f ((rd_T26 x0 x3).f0) ((rd_T26 x0 x3).f1) ((rd_T26 x0 x3).f2) ((rd_T26 x0 x3).f3.f0) ((rd_T26 x0 x3).f3.f1) ((rd_T26 x0 x3).f3.f2) ((rd_T26 x0 x3).f4)).bind fun eg0=>(if eg0=true then (lockkeeperlaw30_many.l0 k x0 (wrap64 (x3+1))) else (some true))) else (none)) else (none)) else (some (decide ((x0.length:Int) > 20)))
end
def lockkeeperlaw30_many.f (k:Nat) (l0:List (S26)):Option (Bool):=lockkeeperlaw30_many.l0 k l0 0
theorem lockkeeperlaw30_many.mono_l:∀ k,(∀ y0 y1,LeO (lockkeeperlaw30_many.l0 k y0 y1) (lockkeeperlaw30_many.l0 (k+1) y0 y1))∧(∀ y0 y1 y2,LeO (lockkeeperlaw30_many.j1 k y0 y1 y2) (lockkeeperlaw30_many.j1 (k+1) y0 y1 y2))
 |0=>⟨fun _ _ r h=>by simp [lockkeeperlaw30_many.l0] at h,fun _ _ _ r h=>by simp [lockkeeperlaw30_many.j1] at h⟩
 |k+1=>by
  obtain ⟨ih0,ih1⟩:=lockkeeperlaw30_many.mono_l k
  refine ⟨?_,?_⟩
  all_goals (intros;first|unfold lockkeeperlaw30_many.l0|unfold lockkeeperlaw30_many.j1)
  all_goals repeat' first
   |(with_reducible exact ih0 _ _)
   |(with_reducible exact ih1 _ _ _)
   |(with_reducible exact LeO.refl _)
   |(with_reducible exact LeO.none _)
   |(with_reducible refine LeO.ite ?_ ?_)
   |(with_reducible refine LeO.bind ?_ (fun _=>?_))
   |exact ih0 _ _
   |exact ih1 _ _ _
   |exact LeO.none _
   |refine LeO.ite ?_ ?_
   |refine LeO.bind ?_ (fun _=>?_)
theorem lockkeeperlaw30_many.mono:∀ a0 k,LeO (lockkeeperlaw30_many.f k a0) (lockkeeperlaw30_many.f (k+1) a0):=by
 intro a0 k
 obtain ⟨ih0,ih1⟩:=lockkeeperlaw30_many.mono_l k
 unfold lockkeeperlaw30_many.f
 repeat' first
   |(with_reducible exact ih0 _ _)
   |(with_reducible exact ih1 _ _ _)
   |(with_reducible exact LeO.refl _)
   |(with_reducible exact LeO.none _)
   |(with_reducible refine LeO.ite ?_ ?_)
   |(with_reducible refine LeO.bind ?_ (fun _=>?_))
   |exact ih0 _ _
   |exact ih1 _ _ _
   |exact LeO.none _
   |refine LeO.ite ?_ ?_
   |refine LeO.bind ?_ (fun _=>?_)
set_option maxHeartbeats 8000000 in
set_option maxRecDepth 100000 in
theorem lockkeeperlaw30_many.calls (k:Nat) (A0:Option Addr) (c0:Nat) (l0:List (S26)) (r:Bool) (w:World) (hr0:Kd.C k26 w A0 l0.length l0) (hc0:l0.length≤c0) (h:lockkeeperlaw30_many.f k l0=some r):
  Calls Try.prog 21 #[.slice A0 l0.length c0] w fun e w'=>e=.returned (.bool r)∧Below w.heap.size w w':=by
 (have hu26:=Try.underlying26);(have i3:=Aside0.mk hr0);(have l7:=Aside0.mk hc0);(clear hr0 hc0);(have HB:=Aside0.mk (Below.refl w.heap.size w));(have H:(lockkeeperlaw30_many.l0 k l0 0)=some r:=h);(clear h);(have H':=Aside0.mk H);(clear H);(go_enter Try.func21,Try.ntmps21);(go_wp2);(go_loopg [3] k (fun kq v3 w'=>∃ (e9:Int),v3=.int .i64 e9∧Aside0 (lockkeeperlaw30_many.l0 kq l0 e9=some r)∧Aside0 (kq≤k)∧Aside0 (Below w.heap.size w w')))
 case atStart=>exact ⟨(0),sd,H',⟨Nat.le_refl _⟩,⟨mvW HB.out⟩⟩
 case round=>
  (clear H');(obtain ⟨e9,rfl,HA,E3,HB⟩:=hrel)
  cases gk with
  |zero=>exact absurd HA.out (by simp [lockkeeperlaw30_many.l0])
  |succ k1=>
   (have H:=HA.out);(clear HA);(simp only [lockkeeperlaw30_many.l0] at H);(have HC2:=Aside0.mk H);(clear H);(go_upto_region 2 with (fail));(go_cut [11] (fun v11 wc=>∃ (kq:Nat) (cg8:Bool),v11=.bool cg8∧Aside0 (lockkeeperlaw30_many.j1 kq l0 e9 cg8=some r)∧Aside0 (kq≤k1)∧Aside0 (Below w.heap.size w wc)))
   case first=>
    (have H:=HC2.out);(clear HC2);(by_cases c3:e9 < (l0.length:Int))
    ·(rw [if_pos c3] at H);(have G8:=decide_eq_true c3);(clear c3);((first|rw [G8]|(simp only [i64_w,i32_w];rw [G8])|skip));(have H':=Aside0.mk H);(clear H);(go_wp2);(go_meet)
     case rel=>exact ⟨_,(decide (e9 < 20)),sd,H',⟨by have:=E3.out;first|omega|exact Nat.le_refl _⟩,⟨mvW HB.out⟩⟩
    ·(rw [if_neg c3] at H);(have G8:decide (e9 < (l0.length:Int))=false:=decide_eq_false c3);(clear c3);((first|rw [G8]|(simp only [i64_w,i32_w];rw [G8])|skip));(have H':=Aside0.mk H);(clear H);(go_wp2);(go_meet)
     case rel=>exact ⟨_,(false),sd,H',⟨by have:=E3.out;first|omega|exact Nat.le_refl _⟩,⟨mvW HB.out⟩⟩
   case rest=>
    (clear HC2);(try clear c2);(try clear p2);(try clear c3);(try clear G8);(obtain ⟨kq,cg8,rfl,HA,HJ1,HB⟩:=hcut)
    cases kq with
    |zero=>exact absurd HA.out (by simp [lockkeeperlaw30_many.j1])
    |succ kj1=>
     (have H:=HA.out);(clear HA);(simp only [lockkeeperlaw30_many.j1] at H);(by_cases c4:cg8=true)
     ·(subst c4);(rw [if_pos rfl] at H);(by_cases c5:0≤e9)
      ·(rw [if_pos c5] at H);(have ad4:=decide_eq_true c5);(clear c5);(by_cases c6:e9 < (l0.length:Int))
       ·(rw [if_pos c6] at H);(have V3:=decide_eq_true c6);(clear c6);(replace H:=Option.bind_eq_some_iff.mp H);(obtain ⟨eg0,A70,H⟩:=H);(have A7:=Aside0.mk A70);(clear A70);(by_cases c8:eg0=true)
        ·(subst c8);(rw [if_pos rfl] at H);(have H':=Aside0.mk H);(clear H);(have bi7:0≤(e9:Int):=od);(have bi8:e9 < (l0.length:Int):=od);(obtain ⟨ad245,e245,an9,ao0,ao1,ao2,ao3,ao4,ao5⟩:=at_T26 i3.out e9 bi7 bi8);(cases e245);(replace an9:=ct HB an9);(replace ao0:=ct HB ao0);(replace ao1:=ct HB ao1);(replace ao2:=ct HB ao2);(replace ao3:=ct HB ao3);(replace ao4:=ct HB ao4);(replace ao5:=ct HB ao5);(replace bi7:=eq_true bi7);(replace bi8:=eq_true bi8);(go_wp2_with (first|((with_reducible refine gate_callee (f:=9) rfl ?_);refine goesL_ (some 18) rfl rfl Try.func9 (by kernel_rfl) rfl #[.agg #[.int .u8 ((rd_T26 l0 e9).f0),.string ((rd_T26 l0 e9).f1),.string ((rd_T26 l0 e9).f2),.string ((rd_T26 l0 e9).f3.f0),.string ((rd_T26 l0 e9).f3.f1),.bool ((rd_T26 l0 e9).f3.f2),.int .i64 ((rd_T26 l0 e9).f4)]] rfl am ?_;(with_reducible refine (lockkeeperref30_Small.calls ((rd_T26 l0 e9).f0) ((rd_T26 l0 e9).f1) ((rd_T26 l0 e9).f2) ((rd_T26 l0 e9).f3.f0) ((rd_T26 l0 e9).f3.f1) ((rd_T26 l0 e9).f3.f2) ((rd_T26 l0 e9).f4) true _ A7.out).mono ?_);rintro e w9 ⟨rfl,hb⟩;refine ⟨_,rfl,?_⟩;replace HB:=Aside0.mk (below_step (mvW HB.out) hb);(try clear hb);(try clear hb2);(try clear hk);(try clear hi))));(go_roundg kj1)
         case measure=>have:=E3.out;have:=HJ1.out;omega
         case rel=>exact ⟨(wrap64 (e9+1)),sd,H',⟨by have:=E3.out;have:=HJ1.out;omega⟩,⟨mvW HB.out⟩⟩
        ·(replace c8:=Bool.eq_false_iff.mpr c8);(subst c8);(rw [if_neg (by decide)] at H);(obtain rfl:=Option.some.inj H);(have bi7:0≤(e9:Int):=od);(have bi8:e9 < (l0.length:Int):=od);(obtain ⟨ad245,e245,an9,ao0,ao1,ao2,ao3,ao4,ao5⟩:=at_T26 i3.out e9 bi7 bi8);(cases e245);(replace an9:=ct HB an9);(replace ao0:=ct HB ao0);(replace ao1:=ct HB ao1);(replace ao2:=ct HB ao2);(replace ao3:=ct HB ao3);(replace ao4:=ct HB ao4);(replace ao5:=ct HB ao5);(replace bi7:=eq_true bi7);(replace bi8:=eq_true bi8);(go_wp2_with (first|((with_reducible refine gate_callee (f:=9) rfl ?_);refine goesL_ (some 18) rfl rfl Try.func9 (by kernel_rfl) rfl #[.agg #[.int .u8 ((rd_T26 l0 e9).f0),.string ((rd_T26 l0 e9).f1),.string ((rd_T26 l0 e9).f2),.string ((rd_T26 l0 e9).f3.f0),.string ((rd_T26 l0 e9).f3.f1),.bool ((rd_T26 l0 e9).f3.f2),.int .i64 ((rd_T26 l0 e9).f4)]] rfl am ?_;(with_reducible refine (lockkeeperref30_Small.calls ((rd_T26 l0 e9).f0) ((rd_T26 l0 e9).f1) ((rd_T26 l0 e9).f2) ((rd_T26 l0 e9).f3.f0) ((rd_T26 l0 e9).f3.f1) ((rd_T26 l0 e9).f3.f2) ((rd_T26 l0 e9).f4) false _ A7.out).mono ?_);rintro e S6 ⟨rfl,hb⟩;refine ⟨_,rfl,?_⟩;replace HB:=Aside0.mk (below_step (mvW HB.out) hb);(try clear hb);(try clear hb2);(try clear hk);(try clear hi))));(go_ret);(exact ⟨rv,mvW HB.out⟩)
       ·(rw [if_neg c6] at H);(exact absurd H (by simp))
      ·(rw [if_neg c5] at H);(exact absurd H (by simp))
     ·(replace c4:=Bool.eq_false_iff.mpr c4);(subst c4);(rw [if_neg (by decide)] at H);(obtain rfl:=Option.some.inj H);(go_wp2);(go_ret);(exact ⟨rv,mvW HB.out⟩)

/-! ### lockkeeperref10_fits: function 27 -/
def lockkeeperref10_fits.f (e4:ByteArray) (d9:ByteArray):Option (Bool):=if (e4.size:Int)≤513 then (some (decide ((d9.size:Int)≤2048))) else (some false)
set_option maxHeartbeats 8000000 in
set_option maxRecDepth 100000 in
theorem lockkeeperref10_fits.calls (e4:ByteArray) (d9:ByteArray) (r:Bool) (w:World) (h:lockkeeperref10_fits.f e4 d9=some r):
  Calls Try.prog 27 #[.agg #[.string e4,.string d9]] w fun e w'=>e=.returned (.bool r)∧Below w.heap.size w w':=by
 (have hu42:=Try.underlying42);(have HB:=Aside0.mk (Below.refl w.heap.size w));(have H:(if (e4.size:Int)≤513 then (some (decide ((d9.size:Int)≤2048))) else (some false))=some r:=h);(clear h);(by_cases c2:(e4.size:Int)≤513)
 ·(rw [if_pos c2] at H);(have ag5:=decide_eq_true c2);(have ee2:decide (e4.size≤513)=true:=decide_eq_true (by omega));(clear c2);(obtain rfl:=Option.some.inj H);(go_enter Try.func27,Try.ntmps27);(go_wp2_with (first|((with_reducible refine gate_dst (N:=1) rfl ?_);(try (refine gate_guard (by rfl) ?_;dsimp only));refine bx (N:=1) (cs:=#[.string e4,.string d9]) (t:=42) ⟨mvW HB.out⟩ ?_;clear HB;intro fq2 hg w3 hb bs6 dl4 HB;have fq3:=dl4;clear hb hg;obtain ⟨fx4,fx5⟩:=bc2 bs6.out;obtain ⟨fx6,fx7⟩:=bf2 bs6.out)));(go_ret);(exact ⟨rv,mvW HB.out⟩)
 ·(rw [if_neg c2] at H);(have ag5:decide ((e4.size:Int)≤513)=false:=decide_eq_false c2);(have ee2:decide (e4.size≤513)=false:=decide_eq_false (by omega));(clear c2);(obtain rfl:=Option.some.inj H);(go_enter Try.func27,Try.ntmps27);(go_wp2_with (first|((with_reducible refine gate_dst (N:=1) rfl ?_);(try (refine gate_guard (by rfl) ?_;dsimp only));refine bx (N:=1) (cs:=#[.string e4,.string d9]) (t:=42) ⟨mvW HB.out⟩ ?_;clear HB;intro fq2 hg w5 hb bs6 dl4 HB;have fq3:=dl4;clear hb hg;obtain ⟨bt2,bt3⟩:=bc2 bs6.out;obtain ⟨bt4,bt5⟩:=bf2 bs6.out)));(go_ret);(exact ⟨rv,mvW HB.out⟩)

end Go.Proofs.Ytoggblomknemoaa.R
