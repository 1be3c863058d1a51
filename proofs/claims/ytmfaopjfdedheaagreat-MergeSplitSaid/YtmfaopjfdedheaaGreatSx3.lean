-- PRINTED by print.py (a twelfth state) out of the translation. Not trusted: Lean checks it.
import Derived.Test.YtmfaopjfdedheaaGreatSq
import Derived.Test.YtmfaopjfdedheaaGreatSh
import Derived.Test.YtmfaopjfdedheaaGreatMv
import Derived.Test.YtmfaopjfdedheaaGreatSx0
namespace Go.Proofs.YtmfaopjfdedheaaGreat.S
open Go.RowKit Go.Proofs.YtmfaopjfdedheaaGreatW Go.Proofs.YtmfaopjfdedheaaGreatW.PrintWords Go.Proofs.YtmfaopjfdedheaaGreatW.PrintLast Go.Proofs.YtmfaopjfdedheaaGreatW.PrintMore
attribute [local go_sem] GpMore.bytes_le max2_int min2_int max_two min_two max_three min_three max_four min_four   -- for this text's walks alone
set_option linter.unusedVariables false
set_option linter.unusedSimpArgs false

/-! ### lockkeeperref11_Small: function 7 -/
def lockkeeperref11_Small.l0:Nat→Int→Int→Int→Int→Int→ByteArray→ByteArray→Bool→Int→Int→List Int→List (S42)→Option (Bool)
 |0,_,_,_,_,_,_,_,_,_,_,_,_=>none
 |k+1,x3,x4,fi5,fi6,fi7,fi8,fi9,fj0,fj1,fj2,ch2,al5=>if x4 < (al5.length:Int) then (if x4 < 60 then (if 0≤x4 then (lockkeeperref11_Small.l0 k (wrap64 ((wrap64 (x3+(((rd_T42 al5 x4).f0).size:Int)))+(((rd_T42 al5 x4).f1).size:Int))) (wrap64 (x4+1)) fi5 fi6 fi7 fi8 fi9 fj0 fj1 fj2 ch2 al5) else (none)) else (if (al5.length:Int)≤60 then (if (ch2.length:Int)≤1100 then (some (decide (x3≤30000))) else (some false)) else (some false))) else (if (al5.length:Int)≤60 then (if (ch2.length:Int)≤1100 then (some (decide (x3≤30000))) else (some false)) else (some false))
def lockkeeperref11_Small.f (k:Nat) (a5:Int) (a7:Int) (a8:Int) (b7:ByteArray) (b8:ByteArray) (b9:Bool) (d0:Int) (b6:Int) (b0:List Int) (a6:List (S42)):Option (Bool):=lockkeeperref11_Small.l0 k (wrap64 ((b7.size:Int)+(b8.size:Int))) 0 a5 a7 a8 b7 b8 b9 d0 b6 b0 a6
set_option maxHeartbeats 8000000 in
set_option maxRecDepth 100000 in
theorem lockkeeperref11_Small.calls (k:Nat) (a5:Int) (a7:Int) (a8:Int) (b7:ByteArray) (b8:ByteArray) (b9:Bool) (d0:Int) (b6:Int) (d7:Option Addr) (d8:Nat) (b0:List Int) (f9:Option Addr) (d6:Nat) (a6:List (S42)) (r:Bool) (w:World) (q5:Kd.C (Kd.int .u64) w d7 b0.length b0) (q7:b0.length≤d8) (p8:Kd.C k42 w f9 a6.length a6) (q3:a6.length≤d6) (h:lockkeeperref11_Small.f k a5 a7 a8 b7 b8 b9 d0 b6 b0 a6=some r):
  Calls Tryz.prog 7 #[.agg #[.int .u64 a5,.int .u64 a7,.int .u8 a8,.string b7,.string b8,.bool b9,.int .u64 d0,.int .u64 b6,.slice d7 b0.length d8,.slice f9 a6.length d6]] w fun e w'=>e=.returned (.bool r)∧Below w.heap.size w w':=by
 (have hu28:=Tryz.underlying28);(have o5:=Aside0.mk q5);(have o6:=Aside0.mk q7);(clear q5 q7);(have k3:=Aside0.mk p8);(have n7:=Aside0.mk q3);(clear p8 q3);(have HB:=Aside0.mk (Below.refl w.heap.size w));(have H:(lockkeeperref11_Small.l0 k (wrap64 ((b7.size:Int)+(b8.size:Int))) 0 a5 a7 a8 b7 b8 b9 d0 b6 b0 a6)=some r:=h);(clear h);(have H':=Aside0.mk H);(clear H);(go_enter Tryz.func7,Tryz.ntmps7);(go_wp2_with (first|((with_reducible refine gate_dst (N:=1) rfl ?_);(try (refine gate_guard (by rfl) ?_;dsimp only));refine bx (N:=1) (cs:=#[.int .u64 a5,.int .u64 a7,.int .u8 a8,.string b7,.string b8,.bool b9,.int .u64 d0,.int .u64 b6,.slice d7 b0.length d8,.slice f9 a6.length d6]) (t:=28) ⟨mvW HB.out⟩ ?_;clear HB;intro dm1 hg w2 hb I5 cb6 HB;have fe2:=cb6;clear hb hg;obtain ⟨aj2,aj3,az1,az2,az3,az4,az5,az6,az7,az8⟩:=bc10 I5.out;obtain ⟨aj4,aj5,az9,ba0,ba1,ba2,ba3,ba4,ba5,ba6⟩:=bf10 I5.out)));(repeat (go_quiet (first|((with_reducible refine gate_dst (N:=1) rfl ?_);(try (refine gate_guard (by rfl) ?_;dsimp only));refine bx (N:=1) (cs:=#[.int .u64 a5,.int .u64 a7,.int .u8 a8,.string b7,.string b8,.bool b9,.int .u64 d0,.int .u64 b6,.slice d7 b0.length d8,.slice f9 a6.length d6]) (t:=28) ⟨mvW HB.out⟩ ?_;clear HB;intro dm1 hg w2 hb I5 cb6 HB;have fe2:=cb6;clear hb hg;obtain ⟨aj2,aj3,az1,az2,az3,az4,az5,az6,az7,az8⟩:=bc10 I5.out;obtain ⟨aj4,aj5,az9,ba0,ba1,ba2,ba3,ba4,ba5,ba6⟩:=bf10 I5.out));try go_wp2_with (first|((with_reducible refine gate_dst (N:=1) rfl ?_);(try (refine gate_guard (by rfl) ?_;dsimp only));refine bx (N:=1) (cs:=#[.int .u64 a5,.int .u64 a7,.int .u8 a8,.string b7,.string b8,.bool b9,.int .u64 d0,.int .u64 b6,.slice d7 b0.length d8,.slice f9 a6.length d6]) (t:=28) ⟨mvW HB.out⟩ ?_;clear HB;intro dm1 hg w2 hb I5 cb6 HB;have fe2:=cb6;clear hb hg;obtain ⟨aj2,aj3,az1,az2,az3,az4,az5,az6,az7,az8⟩:=bc10 I5.out;obtain ⟨aj4,aj5,az9,ba0,ba1,ba2,ba3,ba4,ba5,ba6⟩:=bf10 I5.out))));(go_loopg [3,4] k (fun kq v3 v4 w'=>∃ (i6:Int) (o4:Int),v3=.int .i64 i6∧v4=.int .i64 o4∧Aside0 (lockkeeperref11_Small.l0 kq i6 o4 a5 a7 a8 b7 b8 b9 d0 b6 b0 a6=some r)∧Aside0 (kq≤k)∧Aside0 (w'.heap[dm1]? =some (.cells #[.int .u64 a5,.int .u64 a7,.int .u8 a8,.string b7,.string b8,.bool b9,.int .u64 d0,.int .u64 b6,(.slice d7 b0.length d8),(.slice f9 a6.length d6)] 28 (0,0)))∧Aside0 (Below w.heap.size w w')))
 case atStart=>exact ⟨(wrap64 ((b7.size:Int)+(b8.size:Int))),(0),sd,sd,H',⟨Nat.le_refl _⟩,⟨mvB I5.out⟩,⟨mvW HB.out⟩⟩
 case round=>
  (clear H');(try clear p2);(try clear aj2 aj3 az1 az2 az3 az4 az5 az6 az7 az8);(try clear aj4 aj5 az9 ba0 ba1 ba2 ba3 ba4 ba5 ba6);(obtain ⟨i6,o4,rfl,rfl,HA,B0,I5,HB⟩:=hrel)
  cases gk with
  |zero=>exact absurd HA.out (by simp [lockkeeperref11_Small.l0])
  |succ k1=>
   (have H:=HA.out);(clear HA);(simp only [lockkeeperref11_Small.l0] at H);(by_cases c4:o4 < (a6.length:Int))
   ·(rw [if_pos c4] at H);(have t2:=decide_eq_true c4);(clear c4);(by_cases c5:o4 < 60)
    ·(rw [if_pos c5] at H);(have ag0:=decide_eq_true c5);(clear c5);(by_cases c6:0≤o4)
     ·(rw [if_pos c6] at H);(have I1:=decide_eq_true c6);(clear c6);(have H':=Aside0.mk H);(clear H);(obtain ⟨X7,X8,aj0,at5,at6,at7,at8,at9,au0,au1⟩:=bc10 I5.out);(obtain ⟨X9,Y0,aj1,au2,au3,au4,au5,au6,au7,au8⟩:=bf10 I5.out);(have dv7:0≤(o4:Int):=od);(have dv8:o4 < (a6.length:Int):=od);(obtain ⟨ad102,e102,hy8,hy9⟩:=at_T42w HB k3.out o4 dv7 dv8);(cases e102);(replace dv7:=eq_true dv7);(replace dv8:=eq_true dv8);(have dv9:0≤(o4:Int):=od);(have dw0:o4 < (a6.length:Int):=od);(obtain ⟨ad103,e103,db1,db2⟩:=at_T42 k3.out o4 dv9 dw0);(obtain rfl:ad102=ad103:=(by injection e103));(replace db1:=ct HB db1);(replace db2:=ct HB db2);(replace dv9:=eq_true dv9);(replace dw0:=eq_true dw0);(go_wp2);(repeat (go_quiet (fail);try go_wp2));(go_roundg k1)
      case measure=>have:=B0.out;omega
      case rel=>exact ⟨(wrap64 ((wrap64 (i6+(((rd_T42 a6 o4).f0).size:Int)))+(((rd_T42 a6 o4).f1).size:Int))),(wrap64 (o4+1)),sd,sd,H',⟨by have:=B0.out;omega⟩,⟨mvB I5.out⟩,⟨mvW HB.out⟩⟩
     ·(rw [if_neg c6] at H);(exact absurd H (by simp))
    ·(rw [if_neg c5] at H);(have ag0:decide (o4 < 60)=false:=decide_eq_false c5);(clear c5);(by_cases c8:(a6.length:Int)≤60)
     ·(rw [if_pos c8] at H);(have Z9:=decide_eq_true c8);(have dj0:decide (a6.length≤60)=true:=decide_eq_true (by omega));(clear c8);(by_cases c9:(b0.length:Int)≤1100)
      ·(rw [if_pos c9] at H);(have X6:=decide_eq_true c9);(have cw1:decide (b0.length≤1100)=true:=decide_eq_true (by omega));(clear c9);(obtain rfl:=Option.some.inj H);(obtain ⟨bg5,bg6,dd9,lc8,lc9,ld0,ld1,ld2,ld3,ld4⟩:=bc10 I5.out);(obtain ⟨bg7,bg8,de0,ld5,ld6,ld7,ld8,ld9,le0,le1⟩:=bf10 I5.out);(go_wp2);(repeat (go_quiet (fail);try go_wp2));(go_ret);(exact ⟨rv,mvW HB.out⟩)
      ·(rw [if_neg c9] at H);(have X6:decide ((b0.length:Int)≤1100)=false:=decide_eq_false c9);(have cw1:decide (b0.length≤1100)=false:=decide_eq_false (by omega));(clear c9);(obtain rfl:=Option.some.inj H);(obtain ⟨M9,N0,ak5,au9,av0,av1,av2,av3,av4,av5⟩:=bc10 I5.out);(obtain ⟨N1,N2,ak6,av6,av7,av8,av9,aw0,aw1,aw2⟩:=bf10 I5.out);(go_wp2);(repeat (go_quiet (fail);try go_wp2));(go_ret);(exact ⟨rv,mvW HB.out⟩)
     ·(rw [if_neg c8] at H);(have Z9:decide ((a6.length:Int)≤60)=false:=decide_eq_false c8);(have dj0:decide (a6.length≤60)=false:=decide_eq_false (by omega));(clear c8);(obtain rfl:=Option.some.inj H);(obtain ⟨bh0,bh1,ei4,le2,le3,le4,le5,le6,le7,le8⟩:=bc10 I5.out);(obtain ⟨bh2,bh3,ei5,le9,lf0,lf1,lf2,lf3,lf4,lf5⟩:=bf10 I5.out);(go_wp2);(repeat (go_quiet (fail);try go_wp2));(go_ret);(exact ⟨rv,mvW HB.out⟩)
   ·(rw [if_neg c4] at H);(have t2:decide (o4 < (a6.length:Int))=false:=decide_eq_false c4);(clear c4);(by_cases M8:(a6.length:Int)≤60)
    ·(rw [if_pos M8] at H);(have ak2:=decide_eq_true M8);(have gs6:decide (a6.length≤60)=true:=decide_eq_true (by omega));(clear M8);(by_cases Y4:(b0.length:Int)≤1100)
     ·(rw [if_pos Y4] at H);(have cj4:=decide_eq_true Y4);(have gs7:decide (b0.length≤1100)=true:=decide_eq_true (by omega));(clear Y4);(obtain rfl:=Option.some.inj H);(obtain ⟨Z0,Z1,bz3,bz4,bz5,bz6,bz7,bz8,bz9,ca0⟩:=bc10 I5.out);(obtain ⟨Z2,Z3,ca1,ca2,ca3,ca4,ca5,ca6,ca7,ca8⟩:=bf10 I5.out);(go_wp2);(repeat (go_quiet (fail);try go_wp2));(go_ret);(exact ⟨rv,mvW HB.out⟩)
     ·(rw [if_neg Y4] at H);(have cj4:decide ((b0.length:Int)≤1100)=false:=decide_eq_false Y4);(have gs7:decide (b0.length≤1100)=false:=decide_eq_false (by omega));(clear Y4);(obtain rfl:=Option.some.inj H);(obtain ⟨dd1,dd2,ei6,lf6,lf7,lf8,lf9,lg0,lg1,lg2⟩:=bc10 I5.out);(obtain ⟨dd3,dd4,ei7,lg3,lg4,lg5,lg6,lg7,lg8,lg9⟩:=bf10 I5.out);(go_wp2);(repeat (go_quiet (fail);try go_wp2));(go_ret);(exact ⟨rv,mvW HB.out⟩)
    ·(rw [if_neg M8] at H);(have ak2:decide ((a6.length:Int)≤60)=false:=decide_eq_false M8);(have gs6:decide (a6.length≤60)=false:=decide_eq_false (by omega));(clear M8);(obtain rfl:=Option.some.inj H);(obtain ⟨bt8,bt9,dk0,ex1,ex2,ex3,ex4,ex5,ex6,ex7⟩:=bc10 I5.out);(obtain ⟨bu0,bu1,dk1,ex8,ex9,ey0,ey1,ey2,ey3,ey4⟩:=bf10 I5.out);(go_wp2);(repeat (go_quiet (fail);try go_wp2));(go_ret);(exact ⟨rv,mvW HB.out⟩)

/-! ### api_Errno: function 36 -/
def api_Errno.l0:Nat→Int→List Int→Int→Int→Option (Bool)
 |0,_,_,_,_=>none
 |k+1,x0,x7,x8,x9=>if x9 < x8 then (if 0≤x9 then (if x9 < (x7.length:Int) then (if (rd x7 x9)=x0 then (api_Errno.l0 k x0 x7 x8 (wrap64 (x9+1))) else (some false)) else (none)) else (none)) else (some true)
def api_Errno.f (k:Nat) (a0:Int) (l1:List Int):Option (Bool):=api_Errno.l0 k a0 l1 (l1.length:Int) 0
set_option maxHeartbeats 8000000 in
set_option maxRecDepth 100000 in
theorem api_Errno.calls (k:Nat) (a0:Int) (A1:Option Addr) (c1:Nat) (l1:List Int) (r:Bool) (w:World) (hr1:Kd.C (Kd.int .i64) w A1 l1.length l1) (hc1:l1.length≤c1) (h:api_Errno.f k a0 l1=some r):
  Calls Tryz.prog 36 #[.int .i64 a0,.slice A1 l1.length c1] w fun e w'=>e=.returned (.bool r)∧Drawn0 w w':=by
 (have HR1:=Aside0.mk hr1);(have HC1:=Aside0.mk hc1);(clear hr1 hc1);(have H:(api_Errno.l0 k a0 l1 (l1.length:Int) 0)=some r:=h);(clear h);(have H':=Aside0.mk H);(clear H);(go_enter Tryz.func36,Tryz.ntmps36);(go_wp2);(go_loopg [9] k (fun kq v9 w'=>∃ (C7:Int),v9=.int .i64 C7∧Aside0 (api_Errno.l0 kq a0 l1 (l1.length:Int) C7=some r)∧Aside0 (kq≤k)∧Drawn0 w w'))
 case atStart=>exact ⟨(0),sd,H',⟨Nat.le_refl _⟩,by repeat (first|exact Drawn0.refl _ |apply Drawn0.step)⟩
 case round=>
  (clear H');(try clear c1);(try clear p2);(obtain ⟨C7,rfl,HA,B0,⟨m1,rfl⟩⟩:=hrel)
  cases gk with
  |zero=>exact absurd HA.out (by simp [api_Errno.l0])
  |succ k1=>
   (have H:=HA.out);(clear HA);(simp only [api_Errno.l0] at H);(by_cases c3:C7 < (l1.length:Int))
   ·(rw [if_pos c3] at H);(have O7:=decide_eq_true c3);(clear c3);(by_cases c4:0≤C7)
    ·(rw [if_pos c4] at H);(have t2:=decide_eq_true c4);(clear c4);(by_cases c5:C7 < (l1.length:Int))
     ·(rw [if_pos c5] at H);(have ag0:=decide_eq_true c5);(clear c5);(by_cases c6:(rd l1 C7)=a0)
      ·(rw [if_pos c6] at H);(have I1:((rd l1 C7)==a0)=true:=beq_iff_eq.mpr c6);(have aw8:((rd l1 C7) != a0)=false:=bne_eq_false_iff_eq.mpr c6);(clear c6);(have H':=Aside0.mk H);(clear H);(have bp8:0≤(C7:Int):=od);(have bp9:C7 < (l1.length:Int):=od);(obtain ⟨ad104,e104,fj3⟩:=Kd.at_int HR1.out C7 bp8 bp9);(cases e104);(replace bp8:=eq_true bp8);(replace bp9:=eq_true bp9);(go_wp2);(go_roundg k1)
       case measure=>have:=B0.out;omega
       case rel=>exact ⟨(wrap64 (C7+1)),sd,H',⟨by have:=B0.out;omega⟩,by repeat (first|exact Drawn0.refl _ |apply Drawn0.step)⟩
      ·(rw [if_neg c6] at H);(have I1:((rd l1 C7)==a0)=false:=beq_eq_false_iff_ne.mpr c6);(have aw8:((rd l1 C7) != a0)=true:=bne_iff_ne.mpr c6);(obtain rfl:=Option.some.inj H);(have bp8:0≤(C7:Int):=od);(have bp9:C7 < (l1.length:Int):=od);(obtain ⟨ad104,e104,fj3⟩:=Kd.at_int HR1.out C7 bp8 bp9);(cases e104);(replace bp8:=eq_true bp8);(replace bp9:=eq_true bp9);(go_wp2);(go_ret);(exact ⟨by first|rfl|(simp;done)|(simp [*];done),by repeat (first|exact Drawn0.refl _ |apply Drawn0.step)⟩)
     ·(rw [if_neg c5] at H);(exact absurd H (by simp))
    ·(rw [if_neg c4] at H);(exact absurd H (by simp))
   ·(rw [if_neg c3] at H);(have O7:decide (C7 < (l1.length:Int))=false:=decide_eq_false c3);(clear c3);(obtain rfl:=Option.some.inj H);(go_wp2);(go_ret);(exact ⟨by first|rfl|(simp;done)|(simp [*];done),by repeat (first|exact Drawn0.refl _ |apply Drawn0.step)⟩)

/-! ### page_Range: function 20 -/
def page_Range.f (a5:Int) (a7:Int) (a8:Int) (b7:ByteArray) (b8:ByteArray) (b9:Bool) (d0:Int) (b6:Int) (b0:List Int) (a6:List (S42)):Option (ByteArray×ByteArray×Bool):=some (b7,b8,b9)
set_option maxHeartbeats 8000000 in
set_option maxRecDepth 100000 in
theorem page_Range.calls (a5:Int) (a7:Int) (a8:Int) (b7:ByteArray) (b8:ByteArray) (b9:Bool) (d0:Int) (b6:Int) (d7:Option Addr) (d8:Nat) (b0:List Int) (f9:Option Addr) (d6:Nat) (a6:List (S42)) (r1:ByteArray) (r2:ByteArray) (r3:Bool) (w:World) (q5:Kd.C (Kd.int .u64) w d7 b0.length b0) (q7:b0.length≤d8) (p8:Kd.C k42 w f9 a6.length a6) (q3:a6.length≤d6) (h:page_Range.f a5 a7 a8 b7 b8 b9 d0 b6 b0 a6=some (r1,r2,r3)):
  Calls Tryz.prog 20 #[.agg #[.int .u64 a5,.int .u64 a7,.int .u8 a8,.string b7,.string b8,.bool b9,.int .u64 d0,.int .u64 b6,.slice d7 b0.length d8,.slice f9 a6.length d6]] w fun e w'=>e=.returned (.agg #[.string r1,.string r2,.bool r3])∧Below w.heap.size w w':=by
 (have hu28:=Tryz.underlying28);(have hu50:=Tryz.underlying50);(have o5:=Aside0.mk q5);(have o6:=Aside0.mk q7);(clear q5 q7);(have k3:=Aside0.mk p8);(have n7:=Aside0.mk q3);(clear p8 q3);(have HB:=Aside0.mk (Below.refl w.heap.size w));(have H:(some (b7,b8,b9))=some (r1,r2,r3):=h);(clear h);(simp only [Option.some.injEq,Prod.mk.injEq] at H);(obtain ⟨rfl,rfl,rfl⟩:=H);(go_enter Tryz.func20,Tryz.ntmps20);(go_wp2_with (first|((with_reducible refine gate_dst (N:=1) rfl ?_);refine bx (N:=1) (cs:=#[.int .u64 a5,.int .u64 a7,.int .u8 a8,.string b7,.string b8,.bool b9,.int .u64 d0,.int .u64 b6,.slice d7 b0.length d8,.slice f9 a6.length d6]) (t:=28) ⟨mvW HB.out⟩ ?_;clear HB;intro lh0 hg w2 hb bk6 gs8 HB;have lh1:=gs8;clear hb hg)|((with_reducible refine gate_dst (N:=2) rfl ?_);refine bx (N:=2) (cs:=#[.string (⟨#[]⟩:ByteArray),.string (⟨#[]⟩:ByteArray),.bool false]) (t:=50) ⟨mvW HB.out⟩ ?_;clear HB;intro gs9 hg w3 hb dm2 gt0 HB;have lh2:=gt0;have dq8:=nbl hg bk6;have dq9:=nbg hg bk6;replace bk6:=Aside0.mk (blk_below (mvB bk6.out) hb);clear hb hg;have hu4:=dq8.out;have hnc4:=dq9.out;obtain ⟨aa2,aa3,af8,ce0,ce1,ce2,ce3,ce4,ce5,ce6⟩:=bc10 bk6.out;obtain ⟨aa4,aa5,af9,ce7,ce8,ce9,cf0,cf1,cf2,cf3⟩:=bf10 bk6.out;obtain ⟨ai6,ai7,cd8⟩:=bc3 dm2.out;obtain ⟨ai8,ai9,cd9⟩:=bf3 dm2.out)));(refine bodyPost_ret (results_cell_row rfl _ _ gs9 50 #[.string b7,.string b8,.bool b9] (0,0) _ rfl (mvP dm2.out) Tryz.underlying50 rfl (by kernel_rfl)) rfl ?_);(exact ⟨rv,mvW HB.out⟩)

/-! ### span_Right: function 64 -/
mutual
def span_Right.j0:Nat→Bool→ByteArray→ByteArray→Bool→Option (Bool)
 |0,_,_,_,_=>none
 |k+1,x3,bk7,as3,as4=>if x3=true then (some false) else (if as4=true then (span_Right.j1 k (!(Op.bytesLess bk7.toList as3.toList)) bk7 as3 as4) else (span_Right.j1 k false bk7 as3 as4))
def span_Right.j1:Nat→Bool→ByteArray→ByteArray→Bool→Option (Bool)
 |0,_,_,_,_=>none
 |k+1,x14,bk7,as3,as4=>if x14=true then (some false) else (if as4=true then (some true) else (if as3.toList=([]:List UInt8) then (some true) else (some false)))
end
def span_Right.f (k:Nat) (a5:ByteArray) (a7:ByteArray) (a8:Bool):Option (Bool):=if (a5.size:Int) > 513 then (span_Right.j0 k true a5 a7 a8) else (span_Right.j0 k (decide ((a7.size:Int) > 513)) a5 a7 a8)
set_option maxHeartbeats 8000000 in
set_option maxRecDepth 100000 in
theorem span_Right.calls (k:Nat) (a5:ByteArray) (a7:ByteArray) (a8:Bool) (r:Bool) (w:World) (h:span_Right.f k a5 a7 a8=some r):
  Calls Tryz.prog 64 #[.agg #[.string a5,.string a7,.bool a8]] w fun e w'=>e=.returned (.bool r)∧Below w.heap.size w w':=by
 (have hu50:=Tryz.underlying50);(have HB:=Aside0.mk (Below.refl w.heap.size w));(have H:(if (a5.size:Int) > 513 then (span_Right.j0 k true a5 a7 a8) else (span_Right.j0 k (decide ((a7.size:Int) > 513)) a5 a7 a8))=some r:=h);(clear h);(have HC2:=Aside0.mk H);(clear H);(go_enter Tryz.func64,Tryz.ntmps64);(go_upto_region 1 with (first|((with_reducible refine gate_dst (N:=1) rfl ?_);(try (refine gate_guard (by rfl) ?_;dsimp only));refine bx (N:=1) (cs:=#[.string a5,.string a7,.bool a8]) (t:=50) ⟨mvW HB.out⟩ ?_;clear HB;intro fe3 hg w3 hb N3 gt1 HB;have lh3:=gt1;clear hb hg)));((try simp only [Act.put,List.setIfInBounds_toArray,List.set_cons_zero,List.set_cons_succ]));(go_cut [3] (fun v3 wc=>∃ (kq:Nat) (i6:Bool),v3=.bool i6∧Aside0 (span_Right.j0 kq i6 a5 a7 a8=some r)∧Aside0 (kq≤k)∧Aside0 (wc.heap[fe3]? =some (.cells #[.string a5,.string a7,.bool a8] 50 (0,0)))∧Aside0 (Below w.heap.size w wc)))
 case first=>
  (have H:=HC2.out);(clear HC2);(by_cases c4:(a5.size:Int) > 513)
  ·(rw [if_pos c4] at H);(have t2:decide (513 < (a5.size:Int))=true:=decide_eq_true c4);(have ae4:decide (513 < a5.size)=true:=decide_eq_true (by omega));(clear c4);((first|rw [t2]|(simp only [i64_w,i32_w];rw [t2])|skip));(have H':=Aside0.mk H);(clear H);(obtain ⟨aa2,aa3,af8⟩:=bc3 N3.out);(obtain ⟨aa4,aa5,af9⟩:=bf3 N3.out);(go_wp2);(go_meet)
   case rel=>exact ⟨_,(true),sd,H',⟨by first|omega|exact Nat.le_refl _⟩,⟨mvB N3.out⟩,⟨mvW HB.out⟩⟩
  ·(rw [if_neg c4] at H);(have t2:decide (513 < (a5.size:Int))=false:=decide_eq_false c4);(have ae4:decide (513 < a5.size)=false:=decide_eq_false (by omega));(clear c4);((first|rw [t2]|(simp only [i64_w,i32_w];rw [t2])|skip));(have H':=Aside0.mk H);(clear H);(obtain ⟨ai6,ai7,cd8⟩:=bc3 N3.out);(obtain ⟨ai8,ai9,cd9⟩:=bf3 N3.out);(go_wp2);(go_meet)
   case rel=>exact ⟨_,(decide ((a7.size:Int) > 513)),sd,H',⟨by first|omega|exact Nat.le_refl _⟩,⟨mvB N3.out⟩,⟨mvW HB.out⟩⟩
 case rest=>
  (clear HC2);(try clear p2);(try clear c4);(try clear t2);(try clear ae4);(try clear c6);(try clear aa2 aa3 af8);(try clear ai6 ai7 cd8);(try clear aa4 aa5 af9);(try clear ai8 ai9 cd9);(obtain ⟨kq,i6,rfl,HA,HJ1,N3,HB⟩:=hcut)
  cases kq with
  |zero=>exact absurd HA.out (by simp [span_Right.j0])
  |succ kj1=>
   (have H:=HA.out);(clear HA);(simp only [span_Right.j0] at H);(by_cases c7:i6=true)
   ·(subst c7);(rw [if_pos rfl] at H);(obtain rfl:=Option.some.inj H);(go_wp2);(go_ret);(exact ⟨rv,mvW HB.out⟩)
   ·(replace c7:=Bool.eq_false_iff.mpr c7);(subst c7);(rw [if_neg (by first|decide|simp)] at H);(have HC8:=Aside0.mk H);(clear H);(go_upto_region 2 with (fail));(go_cut [14] (fun v14 wc=>∃ (kq:Nat) (cs5:Bool),v14=.bool cs5∧Aside0 (span_Right.j1 kq cs5 a5 a7 a8=some r)∧Aside0 (kq≤kj1)∧Aside0 (wc.heap[fe3]? =some (.cells #[.string a5,.string a7,.bool a8] 50 (0,0)))∧Aside0 (Below w.heap.size w wc)))
    case first=>
     (have H:=HC8.out);(clear HC8);(by_cases c9:a8=true)
     ·(subst c9);(rw [if_pos rfl] at H);(have H':=Aside0.mk H);(clear H);(obtain ⟨bg5,bg6,dd9⟩:=bc3 N3.out);(obtain ⟨bg7,bg8,de0⟩:=bf3 N3.out);(go_wp2);(go_meet)
      case rel=>exact ⟨_,(!(Op.bytesLess a5.toList a7.toList)),sd,H',⟨by have:=HJ1.out;first|omega|exact Nat.le_refl _⟩,⟨mvB N3.out⟩,⟨mvW HB.out⟩⟩
     ·(replace c9:=Bool.eq_false_iff.mpr c9);(subst c9);(rw [if_neg (by first|decide|simp)] at H);(have H':=Aside0.mk H);(clear H);(obtain ⟨M9,N0,ak5⟩:=bc3 N3.out);(obtain ⟨N1,N2,ak6⟩:=bf3 N3.out);(go_wp2);(go_meet)
      case rel=>exact ⟨_,(false),sd,H',⟨by have:=HJ1.out;first|omega|exact Nat.le_refl _⟩,⟨mvB N3.out⟩,⟨mvW HB.out⟩⟩
    case rest=>
     (clear HC8);(try clear p2);(try clear c4);(try clear t2);(try clear ae4);(try clear c6);(try clear c7);(try clear c9);(try clear bg5 bg6 dd9);(try clear M9 N0 ak5);(try clear aa2 aa3 af8);(try clear ai6 ai7 cd8);(try clear bg7 bg8 de0);(try clear N1 N2 ak6);(try clear aa4 aa5 af9);(try clear ai8 ai9 cd9);(try clear p2);(obtain ⟨kq,cs5,rfl,HA,HJ7,N3,HB⟩:=hcut)
     cases kq with
     |zero=>exact absurd HA.out (by simp [span_Right.j1])
     |succ kj7=>
      (have H:=HA.out);(clear HA);(simp only [span_Right.j1] at H);(by_cases I7:cs5=true)
      ·(subst I7);(rw [if_pos rfl] at H);(obtain rfl:=Option.some.inj H);(go_wp2);(go_ret);(exact ⟨rv,mvW HB.out⟩)
      ·(replace I7:=Bool.eq_false_iff.mpr I7);(subst I7);(rw [if_neg (by first|decide|simp)] at H);(by_cases M8:a8=true)
       ·(subst M8);(rw [if_pos rfl] at H);(obtain rfl:=Option.some.inj H);(obtain ⟨ah9,ai0,ak3⟩:=bc3 N3.out);(obtain ⟨ai1,ai2,ak4⟩:=bf3 N3.out);(go_wp2);(go_ret);(exact ⟨rv,mvW HB.out⟩)
       ·(replace M8:=Bool.eq_false_iff.mpr M8);(subst M8);(rw [if_neg (by first|decide|simp)] at H);(by_cases R4:a7.toList=([]:List UInt8))
        ·(rw [if_pos R4] at H);(have cj5:(a7.toList==([]:List UInt8))=true:=beq_iff_eq.mpr R4);(have gt2:(a7.toList != ([]:List UInt8))=false:=bne_eq_false_iff_eq.mpr R4);(clear R4);(obtain rfl:=Option.some.inj H);(obtain ⟨dd1,dd2,ei6⟩:=bc3 N3.out);(obtain ⟨dd3,dd4,ei7⟩:=bf3 N3.out);(go_wp2);(go_ret);(exact ⟨rv,mvW HB.out⟩)
        ·(rw [if_neg R4] at H);(have cj5:(a7.toList==([]:List UInt8))=false:=beq_eq_false_iff_ne.mpr R4);(have gt2:(a7.toList != ([]:List UInt8))=true:=bne_iff_ne.mpr R4);(obtain rfl:=Option.some.inj H);(obtain ⟨bt8,bt9,dk0⟩:=bc3 N3.out);(obtain ⟨bu0,bu1,dk1⟩:=bf3 N3.out);(go_wp2);(go_ret);(exact ⟨rv,mvW HB.out⟩)

/-! ### lsns_Right: function 66 -/
def lsns_Right.l0:Nat→Int→List Int→Int→Int→Int→List Int→Option (Bool)
 |0,_,_,_,_,_,_=>none
 |k+1,x3,x9,x10,x11,fj4,db4=>if x11 < x10 then (if 0≤x11 then (if x11 < (x9.length:Int) then (if (rd x9 x11)≤x3 then (some false) else (lsns_Right.l0 k (rd x9 x11) x9 x10 (wrap64 (x11+1)) fj4 db4)) else (none)) else (none)) else (some (decide ((db4.length:Int)≤1000)))
def lsns_Right.f (k:Nat) (a5:Int) (d3:List Int):Option (Bool):=lsns_Right.l0 k a5 d3 (d3.length:Int) 0 a5 d3
set_option maxHeartbeats 8000000 in
set_option maxRecDepth 100000 in
theorem lsns_Right.calls (k:Nat) (a5:Int) (o2:Option Addr) (n6:Nat) (d3:List Int) (r:Bool) (w:World) (F0:Kd.C (Kd.int .u64) w o2 d3.length d3) (G3:d3.length≤n6) (h:lsns_Right.f k a5 d3=some r):
  Calls Tryz.prog 66 #[.agg #[.int .u64 a5,.slice o2 d3.length n6]] w fun e w'=>e=.returned (.bool r)∧Below w.heap.size w w':=by
 (have hu25:=Tryz.underlying25);(have D5:=Aside0.mk F0);(have S6:=Aside0.mk G3);(clear F0 G3);(have HB:=Aside0.mk (Below.refl w.heap.size w));(have H:(lsns_Right.l0 k a5 d3 (d3.length:Int) 0 a5 d3)=some r:=h);(clear h);(have H':=Aside0.mk H);(clear H);(go_enter Tryz.func66,Tryz.ntmps66);(go_wp2_with (first|((with_reducible refine gate_dst (N:=1) rfl ?_);refine bx (N:=1) (cs:=#[.int .u64 a5,.slice o2 d3.length n6]) (t:=25) ⟨mvW HB.out⟩ ?_;clear HB;intro gt3 hg w2 hb ba7 gt4 HB;have lh4:=gt4;clear hb hg;obtain ⟨aj2,aj3⟩:=bc2 ba7.out;obtain ⟨aj4,aj5⟩:=bf2 ba7.out)));(go_loopg [3,11] k (fun kq v3 v11 w'=>∃ (i6:Int) (Q0:Int),v3=.int .u64 i6∧v11=.int .i64 Q0∧Aside0 (lsns_Right.l0 kq i6 d3 (d3.length:Int) Q0 a5 d3=some r)∧Aside0 (kq≤k)∧Aside0 (w'.heap[gt3]? =some (.cells #[.int .u64 a5,(.slice o2 d3.length n6)] 25 (0,0)))∧Aside0 (Below w.heap.size w w')))
 case atStart=>exact ⟨(a5),(0),sd,sd,H',⟨Nat.le_refl _⟩,⟨mvB ba7.out⟩,⟨mvW HB.out⟩⟩
 case round=>
  (clear H');(try clear p2);(try clear aj2 aj3);(try clear aj4 aj5);(obtain ⟨i6,Q0,rfl,rfl,HA,B0,ba7,HB⟩:=hrel)
  cases gk with
  |zero=>exact absurd HA.out (by simp [lsns_Right.l0])
  |succ k1=>
   (have H:=HA.out);(clear HA);(simp only [lsns_Right.l0] at H);(by_cases c4:Q0 < (d3.length:Int))
   ·(rw [if_pos c4] at H);(have t2:=decide_eq_true c4);(clear c4);(by_cases c5:0≤Q0)
    ·(rw [if_pos c5] at H);(have ag0:=decide_eq_true c5);(clear c5);(by_cases c6:Q0 < (d3.length:Int))
     ·(rw [if_pos c6] at H);(have I1:=decide_eq_true c6);(clear c6);(by_cases c7:(rd d3 Q0)≤i6)
      ·(rw [if_pos c7] at H);(have X5:=decide_eq_true c7);(clear c7);(obtain rfl:=Option.some.inj H);(have bq0:0≤(Q0:Int):=od);(have bq1:Q0 < (d3.length:Int):=od);(obtain ⟨ad109,e109,as5⟩:=Kd.at_int D5.out Q0 bq0 bq1);(cases e109);(replace as5:=ct HB as5);(replace bq0:=eq_true bq0);(replace bq1:=eq_true bq1);(go_wp2);(go_ret);(exact ⟨rv,mvW HB.out⟩)
      ·(rw [if_neg c7] at H);(have X5:decide ((rd d3 Q0)≤i6)=false:=decide_eq_false c7);(clear c7);(have H':=Aside0.mk H);(clear H);(have bq0:0≤(Q0:Int):=od);(have bq1:Q0 < (d3.length:Int):=od);(obtain ⟨ad109,e109,as5⟩:=Kd.at_int D5.out Q0 bq0 bq1);(cases e109);(replace as5:=ct HB as5);(replace bq0:=eq_true bq0);(replace bq1:=eq_true bq1);(go_wp2);(go_roundg k1)
       case measure=>have:=B0.out;omega
       case rel=>exact ⟨(rd d3 Q0),(wrap64 (Q0+1)),sd,sd,H',⟨by have:=B0.out;omega⟩,⟨mvB ba7.out⟩,⟨mvW HB.out⟩⟩
     ·(rw [if_neg c6] at H);(exact absurd H (by simp))
    ·(rw [if_neg c5] at H);(exact absurd H (by simp))
   ·(rw [if_neg c4] at H);(have t2:decide (Q0 < (d3.length:Int))=false:=decide_eq_false c4);(clear c4);(obtain rfl:=Option.some.inj H);(obtain ⟨dk7,dk8⟩:=bc2 ba7.out);(obtain ⟨dk9,dl0⟩:=bf2 ba7.out);(go_wp2);(go_ret);(exact ⟨rv,mvW HB.out⟩)

/-! ### lsns_Most: function 67 -/
def lsns_Most.f (k:Nat) (a5:Int) (d3:List Int):Option (Int):=(lsns_Right.f k a5 d3).bind fun cx9=>(if cx9=true then (if (d3.length:Int) > 0 then (if 0≤(wrap64 ((d3.length:Int) - 1)) then (if (wrap64 ((d3.length:Int) - 1)) < (d3.length:Int) then (some (rd d3 (wrap64 ((d3.length:Int) - 1)))) else (none)) else (none)) else (some a5)) else (some 0))
set_option maxHeartbeats 8000000 in
set_option maxRecDepth 100000 in
theorem lsns_Most.calls (k:Nat) (a5:Int) (o2:Option Addr) (n6:Nat) (d3:List Int) (r:Int) (w:World) (F0:Kd.C (Kd.int .u64) w o2 d3.length d3) (G3:d3.length≤n6) (h:lsns_Most.f k a5 d3=some r):
  Calls Tryz.prog 67 #[.agg #[.int .u64 a5,.slice o2 d3.length n6]] w fun e w'=>e=.returned (.int .u64 r)∧Below w.heap.size w w':=by
 (have hu25:=Tryz.underlying25);(have D5:=Aside0.mk F0);(have S6:=Aside0.mk G3);(clear F0 G3);(have HB:=Aside0.mk (Below.refl w.heap.size w));(have H:((lsns_Right.f k a5 d3).bind fun cx9=>(if cx9=true then (if (d3.length:Int) > 0 then (if 0≤(wrap64 ((d3.length:Int) - 1)) then (if (wrap64 ((d3.length:Int) - 1)) < (d3.length:Int) then (some (rd d3 (wrap64 ((d3.length:Int) - 1)))) else (none)) else (none)) else (some a5)) else (some 0)))=some r:=h);(clear h);(replace H:=Option.bind_eq_some_iff.mp H);(obtain ⟨cx9,A20,H⟩:=H);(have A2:=Aside0.mk A20);(clear A20);(by_cases c3:cx9=true)
 ·(subst c3);(rw [if_pos rfl] at H);(by_cases c4:(d3.length:Int) > 0)
  ·(rw [if_pos c4] at H);(have t2:decide (0 < (d3.length:Int))=true:=decide_eq_true c4);(have ae4:decide (0 < d3.length)=true:=decide_eq_true (by omega));(clear c4);(obtain ⟨ji5,hji5⟩:∃ j_:Int,(wrap64 ((d3.length:Int) - 1))=j_:=⟨_,rfl⟩);(first|rw [hji5] at H|simp only [hji5] at H);((try rw [hji5] at A2));(have hji5w:(IntKind.i64.wrap ((d3.length:Int) - 1))=ji5:=(i64_w _).trans hji5);(by_cases c6:0≤(ji5))
   ·(rw [if_pos c6] at H);(have I1:=decide_eq_true c6);(clear c6);(by_cases c7:(ji5) < (d3.length:Int))
    ·(rw [if_pos c7] at H);(have X5:=decide_eq_true c7);(clear c7);(obtain rfl:=Option.some.inj H);(go_enter Tryz.func67,Tryz.ntmps67);(go_wp2_with (first|((with_reducible refine gate_dst (N:=1) rfl ?_);refine bx (N:=1) (cs:=#[.int .u64 a5,.slice o2 d3.length n6]) (t:=25) ⟨mvW HB.out⟩ ?_;clear HB;intro fe4 hg w8 hb O5 cb7 HB;have fe5:=cb7;clear hb hg;obtain ⟨aa6,aa7⟩:=bc2 O5.out;obtain ⟨aa8,aa9⟩:=bf2 O5.out)|((with_reducible refine gate_callee (f:=66) rfl ?_);refine goesL_ (some 5) rfl rfl Tryz.func66 (by kernel_rfl) rfl #[.agg #[.int .u64 a5,.slice o2 d3.length n6]] rfl am ?_;(with_reducible refine (lsns_Right.calls k a5 _ _ d3 true _ ?side1 ?side2 A2.out).mono ?_);(case side1=>exact mvC (Kd.C_below D5.out HB.out));(case side2=>exact S6.out);rintro e w10 ⟨rfl,hb⟩;refine ⟨_,rfl,?_⟩;replace O5:=Aside0.mk (blk_below (mvB O5.out) hb);replace HB:=Aside0.mk (below_step (mvW HB.out) hb);clear hb;obtain ⟨M9,N0⟩:=bc2 O5.out;obtain ⟨N1,N2⟩:=bf2 O5.out;have dw1:0≤((ji5):Int):=od;have dw2:(ji5) < (d3.length:Int):=od;obtain ⟨ad112,e112,db5⟩:=Kd.at_int D5.out (ji5) dw1 dw2;cases e112;replace db5:=ct HB db5;replace dw1:=eq_true dw1;replace dw2:=eq_true dw2)));(go_ret);(exact ⟨by first|rfl|(simp [errW_none,errW_some] <;> rfl)|(simp only [← hji5];first|rfl|(simp [errW_none,errW_some] <;> rfl))|(simp [*,errW_none,errW_some] <;> rfl),mvW HB.out⟩)
    ·(rw [if_neg c7] at H);(exact absurd H (by simp))
   ·(rw [if_neg c6] at H);(exact absurd H (by simp))
  ·(rw [if_neg c4] at H);(have t2:decide (0 < (d3.length:Int))=false:=decide_eq_false c4);(have ae4:decide (0 < d3.length)=false:=decide_eq_false (by omega));(clear c4);(obtain rfl:=Option.some.inj H);(go_enter Tryz.func67,Tryz.ntmps67);(go_wp2_with (first|((with_reducible refine gate_dst (N:=1) rfl ?_);refine bx (N:=1) (cs:=#[.int .u64 a5,.slice o2 d3.length n6]) (t:=25) ⟨mvW HB.out⟩ ?_;clear HB;intro fe4 hg w12 hb O5 cb7 HB;have fe5:=cb7;clear hb hg;obtain ⟨Y5,Y6⟩:=bc2 O5.out;obtain ⟨Y7,Y8⟩:=bf2 O5.out)|((with_reducible refine gate_callee (f:=66) rfl ?_);refine goesL_ (some 5) rfl rfl Tryz.func66 (by kernel_rfl) rfl #[.agg #[.int .u64 a5,.slice o2 d3.length n6]] rfl am ?_;(with_reducible refine (lsns_Right.calls k a5 _ _ d3 true _ ?side1 ?side2 A2.out).mono ?_);(case side1=>exact mvC (Kd.C_below D5.out HB.out));(case side2=>exact S6.out);rintro e w14 ⟨rfl,hb⟩;refine ⟨_,rfl,?_⟩;replace O5:=Aside0.mk (blk_below (mvB O5.out) hb);replace HB:=Aside0.mk (below_step (mvW HB.out) hb);clear hb;obtain ⟨Z0,Z1⟩:=bc2 O5.out;obtain ⟨Z2,Z3⟩:=bf2 O5.out)));(go_ret);(exact ⟨rv,mvW HB.out⟩)
 ·(replace c3:=Bool.eq_false_iff.mpr c3);(subst c3);(rw [if_neg (by first|decide|simp)] at H);(obtain rfl:=Option.some.inj H);(go_enter Tryz.func67,Tryz.ntmps67);(go_wp2_with (first|((with_reducible refine gate_dst (N:=1) rfl ?_);refine bx (N:=1) (cs:=#[.int .u64 a5,.slice o2 d3.length n6]) (t:=25) ⟨mvW HB.out⟩ ?_;clear HB;intro fe4 hg w16 hb O5 cb7 HB;have fe5:=cb7;clear hb hg;obtain ⟨bt8,bt9⟩:=bc2 O5.out;obtain ⟨bu0,bu1⟩:=bf2 O5.out)|((with_reducible refine gate_callee (f:=66) rfl ?_);refine goesL_ (some 5) rfl rfl Tryz.func66 (by kernel_rfl) rfl #[.agg #[.int .u64 a5,.slice o2 d3.length n6]] rfl am ?_;(with_reducible refine (lsns_Right.calls k a5 _ _ d3 false _ ?side1 ?side2 A2.out).mono ?_);(case side1=>exact mvC (Kd.C_below D5.out HB.out));(case side2=>exact S6.out);rintro e w18 ⟨rfl,hb⟩;refine ⟨_,rfl,?_⟩;replace O5:=Aside0.mk (blk_below (mvB O5.out) hb);replace HB:=Aside0.mk (below_step (mvW HB.out) hb);(try clear hb);(try clear hb2);(try clear hk);(try clear hi))));(go_ret);(exact ⟨rv,mvW HB.out⟩)

/-! ### cells_cell_right: function 99 -/
def cells_cell_right.f (a5:ByteArray) (a7:ByteArray):Option (Bool):=if (a5.size:Int)≤513 then (some (decide ((a7.size:Int)≤2048))) else (some false)
set_option maxHeartbeats 8000000 in
set_option maxRecDepth 100000 in
theorem cells_cell_right.calls (a5:ByteArray) (a7:ByteArray) (r:Bool) (w:World) (h:cells_cell_right.f a5 a7=some r):
  Calls Tryz.prog 99 #[.agg #[.string a5,.string a7]] w fun e w'=>e=.returned (.bool r)∧Below w.heap.size w w':=by
 (have hu124:=Tryz.underlying124);(have HB:=Aside0.mk (Below.refl w.heap.size w));(have H:(if (a5.size:Int)≤513 then (some (decide ((a7.size:Int)≤2048))) else (some false))=some r:=h);(clear h);(by_cases c2:(a5.size:Int)≤513)
 ·(rw [if_pos c2] at H);(have O6:=decide_eq_true c2);(have bc1:decide (a5.size≤513)=true:=decide_eq_true (by omega));(clear c2);(obtain rfl:=Option.some.inj H);(go_enter Tryz.func99,Tryz.ntmps99);(go_wp2_with (first|((with_reducible refine gate_dst (N:=1) rfl ?_);(try (refine gate_guard (by rfl) ?_;dsimp only));refine bx (N:=1) (cs:=#[.string a5,.string a7]) (t:=124) ⟨mvW HB.out⟩ ?_;clear HB;intro gt5 hg w3 hb cb8 dm3 HB;have gt6:=dm3;clear hb hg;obtain ⟨ct2,ct3⟩:=bc2 cb8.out;obtain ⟨ct4,ct5⟩:=bf2 cb8.out)));(go_ret);(exact ⟨rv,mvW HB.out⟩)
 ·(rw [if_neg c2] at H);(have O6:decide ((a5.size:Int)≤513)=false:=decide_eq_false c2);(have bc1:decide (a5.size≤513)=false:=decide_eq_false (by omega));(clear c2);(obtain rfl:=Option.some.inj H);(go_enter Tryz.func99,Tryz.ntmps99);(go_wp2_with (first|((with_reducible refine gate_dst (N:=1) rfl ?_);(try (refine gate_guard (by rfl) ?_;dsimp only));refine bx (N:=1) (cs:=#[.string a5,.string a7]) (t:=124) ⟨mvW HB.out⟩ ?_;clear HB;intro gt5 hg w5 hb cb8 dm3 HB;have gt6:=dm3;clear hb hg;obtain ⟨ai6,ai7⟩:=bc2 cb8.out;obtain ⟨ai8,ai9⟩:=bf2 cb8.out)));(go_ret);(exact ⟨rv,mvW HB.out⟩)

end Go.Proofs.YtmfaopjfdedheaaGreat.S
