-- PRINTED by print.py (a twelfth state) out of the translation. Not trusted: Lean checks it.
import Derived.Test.YtmfaopjfdedheaaGreatSq
import Derived.Test.YtmfaopjfdedheaaGreatSh
import Derived.Test.YtmfaopjfdedheaaGreatMv
import Derived.Test.YtmfaopjfdedheaaGreatTx0
namespace Go.Proofs.YtmfaopjfdedheaaGreat.T
open Go.RowKit Go.Proofs.YtmfaopjfdedheaaGreatW Go.Proofs.YtmfaopjfdedheaaGreatW.PrintWords Go.Proofs.YtmfaopjfdedheaaGreatW.PrintLast Go.Proofs.YtmfaopjfdedheaaGreatW.PrintMore
attribute [local go_sem] GpMore.bytes_le max2_int min2_int max_two min_two max_three min_three max_four min_four   -- for this text's walks alone
set_option linter.unusedVariables false
set_option maxHeartbeats 8000000
set_option maxRecDepth 100000
set_option linter.unusedSimpArgs false

/-! ### q11_Small: function 7 -/
def q11_Small.l0:Nat→Int→Int→Int→Int→Int→ByteArray→ByteArray→Bool→Int→Int→List Int→List (S42)→Option (Bool)
 |0,_,_,_,_,_,_,_,_,_,_,_,_=>none
 |k+1,x3,x4,hq0,hq1,hq2,hq3,hq4,hq5,hq6,hq7,dc8,ay5=>if x4 < (ay5.length:Int) then (if x4 < 60 then (if 0≤x4 then (q11_Small.l0 k (wrap64 ((wrap64 (x3+(((rd_T42 ay5 x4).f0).size:Int)))+(((rd_T42 ay5 x4).f1).size:Int))) (wrap64 (x4+1)) hq0 hq1 hq2 hq3 hq4 hq5 hq6 hq7 dc8 ay5) else (none)) else (if (ay5.length:Int)≤60 then (if (dc8.length:Int)≤1100 then (some (decide (x3≤30000))) else (some false)) else (some false))) else (if (ay5.length:Int)≤60 then (if (dc8.length:Int)≤1100 then (some (decide (x3≤30000))) else (some false)) else (some false))
def q11_Small.f (k:Nat) (a5:Int) (a7:Int) (a8:Int) (b7:ByteArray) (b6:ByteArray) (b9:Bool) (d0:Int) (b5:Int) (b0:List Int) (a6:List (S42)):Option (Bool):=q11_Small.l0 k (wrap64 ((b7.size:Int)+(b6.size:Int))) 0 a5 a7 a8 b7 b6 b9 d0 b5 b0 a6
theorem q11_Small.calls (k:Nat) (a5:Int) (a7:Int) (a8:Int) (b7:ByteArray) (b6:ByteArray) (b9:Bool) (d0:Int) (b5:Int) (i3:Option Addr) (i4:Nat) (b0:List Int) (i7:Option Addr) (i5:Nat) (a6:List (S42)) (r:Bool) (w:World) (y3:Kd.C (Kd.int .u64) w i3 b0.length b0) (B5:b0.length≤i4) (t8:Kd.C k42 w i7 a6.length a6) (u4:a6.length≤i5) (h:q11_Small.f k a5 a7 a8 b7 b6 b9 d0 b5 b0 a6=some r):
  Calls Tryz.prog 7 #[.agg #[.int .u64 a5,.int .u64 a7,.int .u8 a8,.string b7,.string b6,.bool b9,.int .u64 d0,.int .u64 b5,.slice i3 b0.length i4,.slice i7 a6.length i5]] w fun e w'=>e=.returned (.bool r)∧Below w.heap.size w w':=by
 (have hu28:=Tryz.underlying28);(have n5:=AM y3);(have n6:=AM B5);(clear y3 B5);(have m9:=AM t8);(have n9:=AM u4);(clear t8 u4);(have HB:=AM (Below.refl w.heap.size w));(have H:(q11_Small.l0 k (wrap64 ((b7.size:Int)+(b6.size:Int))) 0 a5 a7 a8 b7 b6 b9 d0 b5 b0 a6)=some r:=h);(clear h);(have H':=AM H);(clear H);(go_enter Tryz.func7,Tryz.ntmps7);(go_wp2_with (first|((with_reducible refine gate_dst (N:=1) rfl ?_);(try (refine gate_guard (by rfl) ?_;dsimp only));refine bx (N:=1) (cs:=#[.int .u64 a5,.int .u64 a7,.int .u8 a8,.string b7,.string b6,.bool b9,.int .u64 d0,.int .u64 b5,.slice i3 b0.length i4,.slice i7 a6.length i5]) (t:=28) ⟨mvW HB.out⟩ ?_;clear HB;intro fj2 hg w2 hb M3 cx6 HB;have hh3:=cx6;clear hb hg;obtain ⟨au7,au8,br1,br2,br3,br4,br5,br6,br7,br8⟩:=bc10 M3.out;obtain ⟨au9,av0,br9,bs0,bs1,bs2,bs3,bs4,bs5,bs6⟩:=bf10 M3.out)));(repeat (go_quiet (first|((with_reducible refine gate_dst (N:=1) rfl ?_);(try (refine gate_guard (by rfl) ?_;dsimp only));refine bx (N:=1) (cs:=#[.int .u64 a5,.int .u64 a7,.int .u8 a8,.string b7,.string b6,.bool b9,.int .u64 d0,.int .u64 b5,.slice i3 b0.length i4,.slice i7 a6.length i5]) (t:=28) ⟨mvW HB.out⟩ ?_;clear HB;intro fj2 hg w2 hb M3 cx6 HB;have hh3:=cx6;clear hb hg;obtain ⟨au7,au8,br1,br2,br3,br4,br5,br6,br7,br8⟩:=bc10 M3.out;obtain ⟨au9,av0,br9,bs0,bs1,bs2,bs3,bs4,bs5,bs6⟩:=bf10 M3.out));try go_wp2_with (first|((with_reducible refine gate_dst (N:=1) rfl ?_);(try (refine gate_guard (by rfl) ?_;dsimp only));refine bx (N:=1) (cs:=#[.int .u64 a5,.int .u64 a7,.int .u8 a8,.string b7,.string b6,.bool b9,.int .u64 d0,.int .u64 b5,.slice i3 b0.length i4,.slice i7 a6.length i5]) (t:=28) ⟨mvW HB.out⟩ ?_;clear HB;intro fj2 hg w2 hb M3 cx6 HB;have hh3:=cx6;clear hb hg;obtain ⟨au7,au8,br1,br2,br3,br4,br5,br6,br7,br8⟩:=bc10 M3.out;obtain ⟨au9,av0,br9,bs0,bs1,bs2,bs3,bs4,bs5,bs6⟩:=bf10 M3.out))));(go_loopg [3,4] k (fun kq v3 v4 w'=>∃ (l3:Int) (C7:Int),v3=.int .i64 l3∧v4=.int .i64 C7∧Aside0 (q11_Small.l0 kq l3 C7 a5 a7 a8 b7 b6 b9 d0 b5 b0 a6=some r)∧Aside0 (kq≤k)∧Aside0 (w'.heap[fj2]? =some (.cells #[.int .u64 a5,.int .u64 a7,.int .u8 a8,.string b7,.string b6,.bool b9,.int .u64 d0,.int .u64 b5,(.slice i3 b0.length i4),(.slice i7 a6.length i5)] 28 (0,0)))∧Aside0 (Below w.heap.size w w')))
 case atStart=>exact ⟨(wrap64 ((b7.size:Int)+(b6.size:Int))),(0),sd,sd,H',⟨Nat.le_refl _⟩,⟨mvB M3.out⟩,⟨mvW HB.out⟩⟩
 case round=>
  (clear H');(try clear p2);(try clear au7 au8 br1 br2 br3 br4 br5 br6 br7 br8);(try clear au9 av0 br9 bs0 bs1 bs2 bs3 bs4 bs5 bs6);(obtain ⟨l3,C7,rfl,rfl,HA,G2,M3,HB⟩:=hrel)
  cases gk with
  |zero=>exact absurd HA.out (by simp [q11_Small.l0])
  |succ k1=>
   (have H:=HA.out);(clear HA);(simp only [q11_Small.l0] at H);(by_cases c4:C7 < (a6.length:Int))
   ·(rw [if_pos c4] at H);(have D1:=decide_eq_true c4);(clear c4);(by_cases c5:C7 < 60)
    ·(rw [if_pos c5] at H);(have au2:=decide_eq_true c5);(clear c5);(by_cases c6:0≤C7)
     ·(rw [if_pos c6] at H);(have J4:=decide_eq_true c6);(clear c6);(have H':=AM H);(clear H);(obtain ⟨ao9,ap0,bm3,cy9,cz0,cz1,cz2,cz3,cz4,cz5⟩:=bc10 M3.out);(obtain ⟨ap1,ap2,bm4,cz6,cz7,cz8,cz9,da0,da1,da2⟩:=bf10 M3.out);(have fw2:0≤(C7:Int):=od);(have fw3:C7 < (a6.length:Int):=od);(obtain ⟨ad102,e102,ku8,ku9⟩:=at_T42w HB m9.out C7 fw2 fw3);(cases e102);(replace fw2:=eq_true fw2);(replace fw3:=eq_true fw3);(have fw4:0≤(C7:Int):=od);(have fw5:C7 < (a6.length:Int):=od);(obtain ⟨ad103,e103,ei3,ei4⟩:=at_T42 m9.out C7 fw4 fw5);(obtain rfl:ad102=ad103:=(by injection e103));(replace ei3:=ct HB ei3);(replace ei4:=ct HB ei4);(replace fw4:=eq_true fw4);(replace fw5:=eq_true fw5);(go_wp2);(repeat (go_quiet (fail);try go_wp2));(go_roundg k1)
      case measure=>have:=G2.out;omega
      case rel=>exact ⟨(wrap64 ((wrap64 (l3+(((rd_T42 a6 C7).f0).size:Int)))+(((rd_T42 a6 C7).f1).size:Int))),(wrap64 (C7+1)),sd,sd,H',⟨by have:=G2.out;omega⟩,⟨mvB M3.out⟩,⟨mvW HB.out⟩⟩
     ·(rw [if_neg c6] at H);(exact absurd H (by simp))
    ·(rw [if_neg c5] at H);(have au2:decide (C7 < 60)=false:=decide_eq_false c5);(clear c5);(by_cases c8:(a6.length:Int)≤60)
     ·(rw [if_pos c8] at H);(have aj7:=decide_eq_true c8);(have ed2:decide (a6.length≤60)=true:=decide_eq_true (by omega));(clear c8);(by_cases c9:(b0.length:Int)≤1100)
      ·(rw [if_pos c9] at H);(have az1:=decide_eq_true c9);(have eb1:decide (b0.length≤1100)=true:=decide_eq_true (by omega));(clear c9);(obtain rfl:=Option.some.inj H);(obtain ⟨cb7,cb8,ek8,nw1,nw2,nw3,nw4,nw5,nw6,nw7⟩:=bc10 M3.out);(obtain ⟨cb9,cc0,ek9,nw8,nw9,nx0,nx1,nx2,nx3,nx4⟩:=bf10 M3.out);(go_wp2);(repeat (go_quiet (fail);try go_wp2));(go_ret);(exact ⟨rv,mvW HB.out⟩)
      ·(rw [if_neg c9] at H);(have az1:decide ((b0.length:Int)≤1100)=false:=decide_eq_false c9);(have eb1:decide (b0.length≤1100)=false:=decide_eq_false (by omega));(clear c9);(obtain rfl:=Option.some.inj H);(obtain ⟨aa3,aa4,bo4,cq5,cq6,cq7,cq8,cq9,cr0,cr1⟩:=bc10 M3.out);(obtain ⟨aa5,aa6,bo5,cr2,cr3,cr4,cr5,cr6,cr7,cr8⟩:=bf10 M3.out);(go_wp2);(repeat (go_quiet (fail);try go_wp2));(go_ret);(exact ⟨rv,mvW HB.out⟩)
     ·(rw [if_neg c8] at H);(have aj7:decide ((a6.length:Int)≤60)=false:=decide_eq_false c8);(have ed2:decide (a6.length≤60)=false:=decide_eq_false (by omega));(clear c8);(obtain rfl:=Option.some.inj H);(obtain ⟨ar4,ar5,fz0,nx5,nx6,nx7,nx8,nx9,ny0,ny1⟩:=bc10 M3.out);(obtain ⟨ar6,ar7,fz1,ny2,ny3,ny4,ny5,ny6,ny7,ny8⟩:=bf10 M3.out);(go_wp2);(repeat (go_quiet (fail);try go_wp2));(go_ret);(exact ⟨rv,mvW HB.out⟩)
   ·(rw [if_neg c4] at H);(have D1:decide (C7 < (a6.length:Int))=false:=decide_eq_false c4);(clear c4);(by_cases J8:(a6.length:Int)≤60)
    ·(rw [if_pos J8] at H);(have ag1:=decide_eq_true J8);(have ju2:decide (a6.length≤60)=true:=decide_eq_true (by omega));(clear J8);(by_cases c14:(b0.length:Int)≤1100)
     ·(rw [if_pos c14] at H);(have dg8:=decide_eq_true c14);(have ju3:decide (b0.length≤1100)=true:=decide_eq_true (by omega));(clear c14);(obtain rfl:=Option.some.inj H);(obtain ⟨ah2,ah3,ny9,nz0,nz1,nz2,nz3,nz4,nz5,nz6⟩:=bc10 M3.out);(obtain ⟨ah4,ah5,nz7,nz8,nz9,oa0,oa1,oa2,oa3,oa4⟩:=bf10 M3.out);(go_wp2);(repeat (go_quiet (fail);try go_wp2));(go_ret);(exact ⟨rv,mvW HB.out⟩)
     ·(rw [if_neg c14] at H);(have dg8:decide ((b0.length:Int)≤1100)=false:=decide_eq_false c14);(have ju3:decide (b0.length≤1100)=false:=decide_eq_false (by omega));(clear c14);(obtain rfl:=Option.some.inj H);(obtain ⟨ar0,ar1,ax3,bp0,bp1,bp2,bp3,bp4,bp5,bp6⟩:=bc10 M3.out);(obtain ⟨ar2,ar3,ax4,bp7,bp8,bp9,bq0,bq1,bq2,bq3⟩:=bf10 M3.out);(go_wp2);(repeat (go_quiet (fail);try go_wp2));(go_ret);(exact ⟨rv,mvW HB.out⟩)
    ·(rw [if_neg J8] at H);(have ag1:decide ((a6.length:Int)≤60)=false:=decide_eq_false J8);(have ju2:decide (a6.length≤60)=false:=decide_eq_false (by omega));(clear J8);(obtain rfl:=Option.some.inj H);(obtain ⟨dh0,dh1,hh0,jr0,jr1,jr2,jr3,jr4,jr5,jr6⟩:=bc10 M3.out);(obtain ⟨dh2,dh3,hh1,jr7,jr8,jr9,js0,js1,js2,js3⟩:=bf10 M3.out);(go_wp2);(repeat (go_quiet (fail);try go_wp2));(go_ret);(exact ⟨rv,mvW HB.out⟩)

/-! ### api_Errno: function 36 -/
def api_Errno.l0:Nat→Int→List Int→Int→Int→Option (Bool)
 |0,_,_,_,_=>none
 |k+1,x0,x7,x8,x9=>if x9 < x8 then (if 0≤x9 then (if x9 < (x7.length:Int) then (if (rd x7 x9)=x0 then (api_Errno.l0 k x0 x7 x8 (wrap64 (x9+1))) else (some false)) else (none)) else (none)) else (some true)
def api_Errno.f (k:Nat) (a0:Int) (l1:List Int):Option (Bool):=api_Errno.l0 k a0 l1 (l1.length:Int) 0
theorem api_Errno.calls (k:Nat) (a0:Int) (A1:Option Addr) (c1:Nat) (l1:List Int) (r:Bool) (w:World) (hr1:Kd.C (Kd.int .i64) w A1 l1.length l1) (hc1:l1.length≤c1) (h:api_Errno.f k a0 l1=some r):
  Calls Tryz.prog 36 #[.int .i64 a0,.slice A1 l1.length c1] w fun e w'=>e=.returned (.bool r)∧Drawn0 w w':=by
 (have HR1:=AM hr1);(have HC1:=AM hc1);(clear hr1 hc1);(have H:(api_Errno.l0 k a0 l1 (l1.length:Int) 0)=some r:=h);(clear h);(have H':=AM H);(clear H);(go_enter Tryz.func36,Tryz.ntmps36);(go_wp2);(go_loopg [9] k (fun kq v9 w'=>∃ (F5:Int),v9=.int .i64 F5∧Aside0 (api_Errno.l0 kq a0 l1 (l1.length:Int) F5=some r)∧Aside0 (kq≤k)∧Drawn0 w w'))
 case atStart=>exact ⟨(0),sd,H',⟨Nat.le_refl _⟩,by repeat (first|exact Drawn0.refl _ |apply Drawn0.step)⟩
 case round=>
  (clear H');(try clear c1);(try clear p2);(obtain ⟨F5,rfl,HA,G2,⟨m1,rfl⟩⟩:=hrel)
  cases gk with
  |zero=>exact absurd HA.out (by simp [api_Errno.l0])
  |succ k1=>
   (have H:=HA.out);(clear HA);(simp only [api_Errno.l0] at H);(by_cases c3:F5 < (l1.length:Int))
   ·(rw [if_pos c3] at H);(have ad6:=decide_eq_true c3);(clear c3);(by_cases c4:0≤F5)
    ·(rw [if_pos c4] at H);(have D1:=decide_eq_true c4);(clear c4);(by_cases c5:F5 < (l1.length:Int))
     ·(rw [if_pos c5] at H);(have au2:=decide_eq_true c5);(clear c5);(by_cases c6:(rd l1 F5)=a0)
      ·(rw [if_pos c6] at H);(have J4:((rd l1 F5)==a0)=true:=beq_iff_eq.mpr c6);(have au3:((rd l1 F5) != a0)=false:=bne_eq_false_iff_eq.mpr c6);(clear c6);(have H':=AM H);(clear H);(have cn9:0≤(F5:Int):=od);(have co0:F5 < (l1.length:Int):=od);(obtain ⟨ad104,e104,hq8⟩:=Kd.at_int HR1.out F5 cn9 co0);(cases e104);(replace cn9:=eq_true cn9);(replace co0:=eq_true co0);(go_wp2);(go_roundg k1)
       case measure=>have:=G2.out;omega
       case rel=>exact ⟨(wrap64 (F5+1)),sd,H',⟨by have:=G2.out;omega⟩,by repeat (first|exact Drawn0.refl _ |apply Drawn0.step)⟩
      ·(rw [if_neg c6] at H);(have J4:((rd l1 F5)==a0)=false:=beq_eq_false_iff_ne.mpr c6);(have au3:((rd l1 F5) != a0)=true:=bne_iff_ne.mpr c6);(obtain rfl:=Option.some.inj H);(have cn9:0≤(F5:Int):=od);(have co0:F5 < (l1.length:Int):=od);(obtain ⟨ad104,e104,hq8⟩:=Kd.at_int HR1.out F5 cn9 co0);(cases e104);(replace cn9:=eq_true cn9);(replace co0:=eq_true co0);(go_wp2);(go_ret);(exact ⟨by first|rfl|(simp;done)|(simp [*];done),by repeat (first|exact Drawn0.refl _ |apply Drawn0.step)⟩)
     ·(rw [if_neg c5] at H);(exact absurd H (by simp))
    ·(rw [if_neg c4] at H);(exact absurd H (by simp))
   ·(rw [if_neg c3] at H);(have ad6:decide (F5 < (l1.length:Int))=false:=decide_eq_false c3);(clear c3);(obtain rfl:=Option.some.inj H);(go_wp2);(go_ret);(exact ⟨by first|rfl|(simp;done)|(simp [*];done),by repeat (first|exact Drawn0.refl _ |apply Drawn0.step)⟩)

/-! ### page_Range: function 20 -/
def page_Range.f (a5:Int) (a7:Int) (a8:Int) (b7:ByteArray) (b6:ByteArray) (b9:Bool) (d0:Int) (b5:Int) (b0:List Int) (a6:List (S42)):Option (ByteArray×ByteArray×Bool):=some (b7,b6,b9)
theorem page_Range.calls (a5:Int) (a7:Int) (a8:Int) (b7:ByteArray) (b6:ByteArray) (b9:Bool) (d0:Int) (b5:Int) (i3:Option Addr) (i4:Nat) (b0:List Int) (i7:Option Addr) (i5:Nat) (a6:List (S42)) (r1:ByteArray) (r2:ByteArray) (r3:Bool) (w:World) (y3:Kd.C (Kd.int .u64) w i3 b0.length b0) (B5:b0.length≤i4) (t8:Kd.C k42 w i7 a6.length a6) (u4:a6.length≤i5) (h:page_Range.f a5 a7 a8 b7 b6 b9 d0 b5 b0 a6=some (r1,r2,r3)):
  Calls Tryz.prog 20 #[.agg #[.int .u64 a5,.int .u64 a7,.int .u8 a8,.string b7,.string b6,.bool b9,.int .u64 d0,.int .u64 b5,.slice i3 b0.length i4,.slice i7 a6.length i5]] w fun e w'=>e=.returned (.agg #[.string r1,.string r2,.bool r3])∧Below w.heap.size w w':=by
 (have hu28:=Tryz.underlying28);(have hu50:=Tryz.underlying50);(have n5:=AM y3);(have n6:=AM B5);(clear y3 B5);(have m9:=AM t8);(have n9:=AM u4);(clear t8 u4);(have HB:=AM (Below.refl w.heap.size w));(have H:(some (b7,b6,b9))=some (r1,r2,r3):=h);(clear h);(simp only [Option.some.injEq,Prod.mk.injEq] at H);(obtain ⟨rfl,rfl,rfl⟩:=H);(go_enter Tryz.func20,Tryz.ntmps20);(go_wp2_with (first|((with_reducible refine gate_dst (N:=1) rfl ?_);refine bx (N:=1) (cs:=#[.int .u64 a5,.int .u64 a7,.int .u8 a8,.string b7,.string b6,.bool b9,.int .u64 d0,.int .u64 b5,.slice i3 b0.length i4,.slice i7 a6.length i5]) (t:=28) ⟨mvW HB.out⟩ ?_;clear HB;intro oa5 hg w2 hb ch8 ju4 HB;have oa6:=ju4;clear hb hg)|((with_reducible refine gate_dst (N:=2) rfl ?_);refine bx (N:=2) (cs:=#[.string (⟨#[]⟩:ByteArray),.string (⟨#[]⟩:ByteArray),.bool false]) (t:=50) ⟨mvW HB.out⟩ ?_;clear HB;intro ju5 hg w3 hb fj3 ju6 HB;have oa7:=ju6;have fp5:=nbl hg ch8;have fp6:=nbg hg ch8;replace ch8:=AM (blk_below (mvB ch8.out) hb);clear hb hg;have kp0:=fp5.out;have hnc4:=fp6.out;obtain ⟨ak0,ak1,ap4,da6,da7,da8,da9,db0,db1,db2⟩:=bc10 ch8.out;obtain ⟨ak2,ak3,ap5,db3,db4,db5,db6,db7,db8,db9⟩:=bf10 ch8.out;obtain ⟨at8,at9,da4⟩:=bc3 fj3.out;obtain ⟨au0,au1,da5⟩:=bf3 fj3.out)));(refine bodyPost_ret (results_cell_row rfl _ _ ju5 50 #[.string b7,.string b6,.bool b9] (0,0) _ rfl (mvP fj3.out) Tryz.underlying50 rfl (by kernel_rfl)) rfl ?_);(exact ⟨rv,mvW HB.out⟩)

/-! ### span_Right: function 64 -/
mutual
def span_Right.j0:Nat→Bool→ByteArray→ByteArray→Bool→Option (Bool)
 |0,_,_,_,_=>none
 |k+1,x3,ch9,bl0,bl1=>if x3=true then (some false) else (if bl1=true then (span_Right.j1 k (!(Op.bytesLess ch9.toList bl0.toList)) ch9 bl0 bl1) else (span_Right.j1 k false ch9 bl0 bl1))
def span_Right.j1:Nat→Bool→ByteArray→ByteArray→Bool→Option (Bool)
 |0,_,_,_,_=>none
 |k+1,x14,ch9,bl0,bl1=>if x14=true then (some false) else (if bl1=true then (some true) else (if bl0.toList=([]:List UInt8) then (some true) else (some false)))
end
def span_Right.f (k:Nat) (a5:ByteArray) (a7:ByteArray) (a8:Bool):Option (Bool):=if (a5.size:Int) > 513 then (span_Right.j0 k true a5 a7 a8) else (span_Right.j0 k (decide ((a7.size:Int) > 513)) a5 a7 a8)
theorem span_Right.calls (k:Nat) (a5:ByteArray) (a7:ByteArray) (a8:Bool) (r:Bool) (w:World) (h:span_Right.f k a5 a7 a8=some r):
  Calls Tryz.prog 64 #[.agg #[.string a5,.string a7,.bool a8]] w fun e w'=>e=.returned (.bool r)∧Below w.heap.size w w':=by
 (have hu50:=Tryz.underlying50);(have HB:=AM (Below.refl w.heap.size w));(have H:(if (a5.size:Int) > 513 then (span_Right.j0 k true a5 a7 a8) else (span_Right.j0 k (decide ((a7.size:Int) > 513)) a5 a7 a8))=some r:=h);(clear h);(have HC2:=AM H);(clear H);(go_enter Tryz.func64,Tryz.ntmps64);(go_upto_region 1 with (first|((with_reducible refine gate_dst (N:=1) rfl ?_);(try (refine gate_guard (by rfl) ?_;dsimp only));refine bx (N:=1) (cs:=#[.string a5,.string a7,.bool a8]) (t:=50) ⟨mvW HB.out⟩ ?_;clear HB;intro hh4 hg w3 hb T5 ju7 HB;have oa8:=ju7;clear hb hg)));((try simp only [Act.put,List.setIfInBounds_toArray,List.set_cons_zero,List.set_cons_succ]));(go_cut [3] (fun v3 wc=>∃ (kq:Nat) (l3:Bool),v3=.bool l3∧Aside0 (span_Right.j0 kq l3 a5 a7 a8=some r)∧Aside0 (kq≤k)∧Aside0 (wc.heap[hh4]? =some (.cells #[.string a5,.string a7,.bool a8] 50 (0,0)))∧Aside0 (Below w.heap.size w wc)))
 case first=>
  (have H:=HC2.out);(clear HC2);(by_cases c4:(a5.size:Int) > 513)
  ·(rw [if_pos c4] at H);(have D1:decide (513 < (a5.size:Int))=true:=decide_eq_true c4);(have an6:decide (513 < a5.size)=true:=decide_eq_true (by omega));(clear c4);((first|rw [D1]|(simp only [i64_w,i32_w];rw [D1])|skip));(have H':=AM H);(clear H);(obtain ⟨ak0,ak1,ap4⟩:=bc3 T5.out);(obtain ⟨ak2,ak3,ap5⟩:=bf3 T5.out);(go_wp2);(go_meet)
   case rel=>exact ⟨_,(true),sd,H',⟨by first|omega|exact Nat.le_refl _⟩,⟨mvB T5.out⟩,⟨mvW HB.out⟩⟩
  ·(rw [if_neg c4] at H);(have D1:decide (513 < (a5.size:Int))=false:=decide_eq_false c4);(have an6:decide (513 < a5.size)=false:=decide_eq_false (by omega));(clear c4);((first|rw [D1]|(simp only [i64_w,i32_w];rw [D1])|skip));(have H':=AM H);(clear H);(obtain ⟨at8,at9,da4⟩:=bc3 T5.out);(obtain ⟨au0,au1,da5⟩:=bf3 T5.out);(go_wp2);(go_meet)
   case rel=>exact ⟨_,(decide ((a7.size:Int) > 513)),sd,H',⟨by first|omega|exact Nat.le_refl _⟩,⟨mvB T5.out⟩,⟨mvW HB.out⟩⟩
 case rest=>
  (clear HC2);(try clear p2);(try clear c4);(try clear D1);(try clear an6);(try clear c6);(try clear ak0 ak1 ap4);(try clear at8 at9 da4);(try clear ak2 ak3 ap5);(try clear au0 au1 da5);(obtain ⟨kq,l3,rfl,HA,HJ1,T5,HB⟩:=hcut)
  cases kq with
  |zero=>exact absurd HA.out (by simp [span_Right.j0])
  |succ kj1=>
   (have H:=HA.out);(clear HA);(simp only [span_Right.j0] at H);(by_cases c7:l3=true)
   ·(subst c7);(rw [if_pos rfl] at H);(obtain rfl:=Option.some.inj H);(go_wp2);(go_ret);(exact ⟨rv,mvW HB.out⟩)
   ·(replace c7:=Bool.eq_false_iff.mpr c7);(subst c7);(rw [if_neg (by first|decide|simp)] at H);(have HC8:=AM H);(clear H);(go_upto_region 2 with (fail));(go_cut [14] (fun v14 wc=>∃ (kq:Nat) (dx7:Bool),v14=.bool dx7∧Aside0 (span_Right.j1 kq dx7 a5 a7 a8=some r)∧Aside0 (kq≤kj1)∧Aside0 (wc.heap[hh4]? =some (.cells #[.string a5,.string a7,.bool a8] 50 (0,0)))∧Aside0 (Below w.heap.size w wc)))
    case first=>
     (have H:=HC8.out);(clear HC8);(by_cases c9:a8=true)
     ·(subst c9);(rw [if_pos rfl] at H);(have H':=AM H);(clear H);(obtain ⟨cb7,cb8,ek8⟩:=bc3 T5.out);(obtain ⟨cb9,cc0,ek9⟩:=bf3 T5.out);(go_wp2);(go_meet)
      case rel=>exact ⟨_,(!(Op.bytesLess a5.toList a7.toList)),sd,H',⟨by have:=HJ1.out;first|omega|exact Nat.le_refl _⟩,⟨mvB T5.out⟩,⟨mvW HB.out⟩⟩
     ·(replace c9:=Bool.eq_false_iff.mpr c9);(subst c9);(rw [if_neg (by first|decide|simp)] at H);(have H':=AM H);(clear H);(obtain ⟨aa3,aa4,bo4⟩:=bc3 T5.out);(obtain ⟨aa5,aa6,bo5⟩:=bf3 T5.out);(go_wp2);(go_meet)
      case rel=>exact ⟨_,(false),sd,H',⟨by have:=HJ1.out;first|omega|exact Nat.le_refl _⟩,⟨mvB T5.out⟩,⟨mvW HB.out⟩⟩
    case rest=>
     (clear HC8);(try clear p2);(try clear c4);(try clear D1);(try clear an6);(try clear c6);(try clear c7);(try clear c9);(try clear cb7 cb8 ek8);(try clear aa3 aa4 bo4);(try clear ak0 ak1 ap4);(try clear at8 at9 da4);(try clear cb9 cc0 ek9);(try clear aa5 aa6 bo5);(try clear ak2 ak3 ap5);(try clear au0 au1 da5);(try clear p2);(obtain ⟨kq,dx7,rfl,HA,HJ7,T5,HB⟩:=hcut)
     cases kq with
     |zero=>exact absurd HA.out (by simp [span_Right.j1])
     |succ kj7=>
      (have H:=HA.out);(clear HA);(simp only [span_Right.j1] at H);(by_cases S8:dx7=true)
      ·(subst S8);(rw [if_pos rfl] at H);(obtain rfl:=Option.some.inj H);(go_wp2);(go_ret);(exact ⟨rv,mvW HB.out⟩)
      ·(replace S8:=Bool.eq_false_iff.mpr S8);(subst S8);(rw [if_neg (by first|decide|simp)] at H);(by_cases J8:a8=true)
       ·(subst J8);(rw [if_pos rfl] at H);(obtain rfl:=Option.some.inj H);(obtain ⟨aw9,ax0,ba9⟩:=bc3 T5.out);(obtain ⟨ax1,ax2,bb0⟩:=bf3 T5.out);(go_wp2);(go_ret);(exact ⟨rv,mvW HB.out⟩)
       ·(replace J8:=Bool.eq_false_iff.mpr J8);(subst J8);(rw [if_neg (by first|decide|simp)] at H);(by_cases X7:a7.toList=([]:List UInt8))
        ·(rw [if_pos X7] at H);(have dg9:(a7.toList==([]:List UInt8))=true:=beq_iff_eq.mpr X7);(have ju8:(a7.toList != ([]:List UInt8))=false:=bne_eq_false_iff_eq.mpr X7);(clear X7);(obtain rfl:=Option.some.inj H);(obtain ⟨ar0,ar1,ax3⟩:=bc3 T5.out);(obtain ⟨ar2,ar3,ax4⟩:=bf3 T5.out);(go_wp2);(go_ret);(exact ⟨rv,mvW HB.out⟩)
        ·(rw [if_neg X7] at H);(have dg9:(a7.toList==([]:List UInt8))=false:=beq_eq_false_iff_ne.mpr X7);(have ju8:(a7.toList != ([]:List UInt8))=true:=bne_iff_ne.mpr X7);(obtain rfl:=Option.some.inj H);(obtain ⟨dh0,dh1,hh0⟩:=bc3 T5.out);(obtain ⟨dh2,dh3,hh1⟩:=bf3 T5.out);(go_wp2);(go_ret);(exact ⟨rv,mvW HB.out⟩)

/-! ### lsns_Right: function 66 -/
def lsns_Right.l0:Nat→Int→List Int→Int→Int→Int→List Int→Option (Bool)
 |0,_,_,_,_,_,_=>none
 |k+1,x3,x9,x10,x11,hq9,ei6=>if x11 < x10 then (if 0≤x11 then (if x11 < (x9.length:Int) then (if (rd x9 x11)≤x3 then (some false) else (lsns_Right.l0 k (rd x9 x11) x9 x10 (wrap64 (x11+1)) hq9 ei6)) else (none)) else (none)) else (some (decide ((ei6.length:Int)≤1000)))
def lsns_Right.f (k:Nat) (a5:Int) (d5:List Int):Option (Bool):=lsns_Right.l0 k a5 d5 (d5.length:Int) 0 a5 d5
theorem lsns_Right.calls (k:Nat) (a5:Int) (o1:Option Addr) (n7:Nat) (d5:List Int) (r:Bool) (w:World) (F9:Kd.C (Kd.int .u64) w o1 d5.length d5) (G9:d5.length≤n7) (h:lsns_Right.f k a5 d5=some r):
  Calls Tryz.prog 66 #[.agg #[.int .u64 a5,.slice o1 d5.length n7]] w fun e w'=>e=.returned (.bool r)∧Below w.heap.size w w':=by
 (have hu25:=Tryz.underlying25);(have C8:=AM F9);(have M0:=AM G9);(clear F9 G9);(have HB:=AM (Below.refl w.heap.size w));(have H:(lsns_Right.l0 k a5 d5 (d5.length:Int) 0 a5 d5)=some r:=h);(clear h);(have H':=AM H);(clear H);(go_enter Tryz.func66,Tryz.ntmps66);(go_wp2_with (first|((with_reducible refine gate_dst (N:=1) rfl ?_);refine bx (N:=1) (cs:=#[.int .u64 a5,.slice o1 d5.length n7]) (t:=25) ⟨mvW HB.out⟩ ?_;clear HB;intro ju9 hg w2 hb bs7 jv0 HB;have oa9:=jv0;clear hb hg;obtain ⟨au7,au8⟩:=bc2 bs7.out;obtain ⟨au9,av0⟩:=bf2 bs7.out)));(go_loopg [3,11] k (fun kq v3 v11 w'=>∃ (l3:Int) (ab6:Int),v3=.int .u64 l3∧v11=.int .i64 ab6∧Aside0 (lsns_Right.l0 kq l3 d5 (d5.length:Int) ab6 a5 d5=some r)∧Aside0 (kq≤k)∧Aside0 (w'.heap[ju9]? =some (.cells #[.int .u64 a5,(.slice o1 d5.length n7)] 25 (0,0)))∧Aside0 (Below w.heap.size w w')))
 case atStart=>exact ⟨(a5),(0),sd,sd,H',⟨Nat.le_refl _⟩,⟨mvB bs7.out⟩,⟨mvW HB.out⟩⟩
 case round=>
  (clear H');(try clear p2);(try clear au7 au8);(try clear au9 av0);(obtain ⟨l3,ab6,rfl,rfl,HA,G2,bs7,HB⟩:=hrel)
  cases gk with
  |zero=>exact absurd HA.out (by simp [lsns_Right.l0])
  |succ k1=>
   (have H:=HA.out);(clear HA);(simp only [lsns_Right.l0] at H);(by_cases c4:ab6 < (d5.length:Int))
   ·(rw [if_pos c4] at H);(have D1:=decide_eq_true c4);(clear c4);(by_cases c5:0≤ab6)
    ·(rw [if_pos c5] at H);(have au2:=decide_eq_true c5);(clear c5);(by_cases c6:ab6 < (d5.length:Int))
     ·(rw [if_pos c6] at H);(have J4:=decide_eq_true c6);(clear c6);(by_cases c7:(rd d5 ab6)≤l3)
      ·(rw [if_pos c7] at H);(have ai6:=decide_eq_true c7);(clear c7);(obtain rfl:=Option.some.inj H);(have co1:0≤(ab6:Int):=od);(have co2:ab6 < (d5.length:Int):=od);(obtain ⟨ad109,e109,bl2⟩:=Kd.at_int C8.out ab6 co1 co2);(cases e109);(replace bl2:=ct HB bl2);(replace co1:=eq_true co1);(replace co2:=eq_true co2);(go_wp2);(go_ret);(exact ⟨rv,mvW HB.out⟩)
      ·(rw [if_neg c7] at H);(have ai6:decide ((rd d5 ab6)≤l3)=false:=decide_eq_false c7);(clear c7);(have H':=AM H);(clear H);(have co1:0≤(ab6:Int):=od);(have co2:ab6 < (d5.length:Int):=od);(obtain ⟨ad109,e109,bl2⟩:=Kd.at_int C8.out ab6 co1 co2);(cases e109);(replace bl2:=ct HB bl2);(replace co1:=eq_true co1);(replace co2:=eq_true co2);(go_wp2);(go_roundg k1)
       case measure=>have:=G2.out;omega
       case rel=>exact ⟨(rd d5 ab6),(wrap64 (ab6+1)),sd,sd,H',⟨by have:=G2.out;omega⟩,⟨mvB bs7.out⟩,⟨mvW HB.out⟩⟩
     ·(rw [if_neg c6] at H);(exact absurd H (by simp))
    ·(rw [if_neg c5] at H);(exact absurd H (by simp))
   ·(rw [if_neg c4] at H);(have D1:decide (ab6 < (d5.length:Int))=false:=decide_eq_false c4);(clear c4);(obtain rfl:=Option.some.inj H);(obtain ⟨fi4,fi5⟩:=bc2 bs7.out);(obtain ⟨fi6,fi7⟩:=bf2 bs7.out);(go_wp2);(go_ret);(exact ⟨rv,mvW HB.out⟩)

/-! ### lsns_Most: function 67 -/
def lsns_Most.f (k:Nat) (a5:Int) (d5:List Int):Option (Int):=(lsns_Right.f k a5 d5).bind fun ed7=>(if ed7=true then (if (d5.length:Int) > 0 then (if 0≤(wrap64 ((d5.length:Int) - 1)) then (if (wrap64 ((d5.length:Int) - 1)) < (d5.length:Int) then (some (rd d5 (wrap64 ((d5.length:Int) - 1)))) else (none)) else (none)) else (some a5)) else (some 0))
theorem lsns_Most.calls (k:Nat) (a5:Int) (o1:Option Addr) (n7:Nat) (d5:List Int) (r:Int) (w:World) (F9:Kd.C (Kd.int .u64) w o1 d5.length d5) (G9:d5.length≤n7) (h:lsns_Most.f k a5 d5=some r):
  Calls Tryz.prog 67 #[.agg #[.int .u64 a5,.slice o1 d5.length n7]] w fun e w'=>e=.returned (.int .u64 r)∧Below w.heap.size w w':=by
 (have hu25:=Tryz.underlying25);(have C8:=AM F9);(have M0:=AM G9);(clear F9 G9);(have HB:=AM (Below.refl w.heap.size w));(have H:((lsns_Right.f k a5 d5).bind fun ed7=>(if ed7=true then (if (d5.length:Int) > 0 then (if 0≤(wrap64 ((d5.length:Int) - 1)) then (if (wrap64 ((d5.length:Int) - 1)) < (d5.length:Int) then (some (rd d5 (wrap64 ((d5.length:Int) - 1)))) else (none)) else (none)) else (some a5)) else (some 0)))=some r:=h);(clear h);(replace H:=Option.bind_eq_some_iff.mp H);(obtain ⟨ed7,A20,H⟩:=H);(have A2:=AM A20);(clear A20);(by_cases c3:ed7=true)
 ·(subst c3);(rw [if_pos rfl] at H);(by_cases c4:(d5.length:Int) > 0)
  ·(rw [if_pos c4] at H);(have D1:decide (0 < (d5.length:Int))=true:=decide_eq_true c4);(have an6:decide (0 < d5.length)=true:=decide_eq_true (by omega));(clear c4);(obtain ⟨ji5,hji5⟩:∃ j_:Int,(wrap64 ((d5.length:Int) - 1))=j_:=⟨_,rfl⟩);(first|rw [hji5] at H|simp only [hji5] at H);((try rw [hji5] at A2));(have hji5w:(IntKind.i64.wrap ((d5.length:Int) - 1))=ji5:=(i64_w _).trans hji5);(by_cases c6:0≤(ji5))
   ·(rw [if_pos c6] at H);(have J4:=decide_eq_true c6);(clear c6);(by_cases c7:(ji5) < (d5.length:Int))
    ·(rw [if_pos c7] at H);(have ai6:=decide_eq_true c7);(clear c7);(obtain rfl:=Option.some.inj H);(go_enter Tryz.func67,Tryz.ntmps67);(go_wp2_with (first|((with_reducible refine gate_dst (N:=1) rfl ?_);refine bx (N:=1) (cs:=#[.int .u64 a5,.slice o1 d5.length n7]) (t:=25) ⟨mvW HB.out⟩ ?_;clear HB;intro hh5 hg w8 hb aa9 cx7 HB;have hh6:=cx7;clear hb hg;obtain ⟨aj3,aj4⟩:=bc2 aa9.out;obtain ⟨aj5,aj6⟩:=bf2 aa9.out)|((with_reducible refine gate_callee (f:=66) rfl ?_);refine goesL_ (some 5) rfl rfl Tryz.func66 (by kernel_rfl) rfl #[.agg #[.int .u64 a5,.slice o1 d5.length n7]] rfl am ?_;(with_reducible refine (lsns_Right.calls k a5 _ _ d5 true _ ?side1 ?side2 A2.out).mono ?_);(case side1=>exact mvC (Kd.C_below C8.out HB.out));(case side2=>exact M0.out);rintro e w10 ⟨rfl,hb⟩;refine ⟨_,rfl,?_⟩;replace aa9:=AM (blk_below (mvB aa9.out) hb);replace HB:=AM (below_step (mvW HB.out) hb);clear hb;obtain ⟨aa3,aa4⟩:=bc2 aa9.out;obtain ⟨aa5,aa6⟩:=bf2 aa9.out;have fw6:0≤((ji5):Int):=od;have cm4:(ji5) < (d5.length:Int):=od;obtain ⟨ad112,e112,ei7⟩:=Kd.at_int C8.out (ji5) fw6 cm4;cases e112;replace ei7:=ct HB ei7;replace fw6:=eq_true fw6;replace cm4:=eq_true cm4)));(go_ret);(exact ⟨by first|rfl|(simp [errW_none,errW_some] <;> rfl)|(simp only [← hji5];first|rfl|(simp [errW_none,errW_some] <;> rfl))|(simp [*,errW_none,errW_some] <;> rfl),mvW HB.out⟩)
    ·(rw [if_neg c7] at H);(exact absurd H (by simp))
   ·(rw [if_neg c6] at H);(exact absurd H (by simp))
  ·(rw [if_neg c4] at H);(have D1:decide (0 < (d5.length:Int))=false:=decide_eq_false c4);(have an6:decide (0 < d5.length)=false:=decide_eq_false (by omega));(clear c4);(obtain rfl:=Option.some.inj H);(go_enter Tryz.func67,Tryz.ntmps67);(go_wp2_with (first|((with_reducible refine gate_dst (N:=1) rfl ?_);refine bx (N:=1) (cs:=#[.int .u64 a5,.slice o1 d5.length n7]) (t:=25) ⟨mvW HB.out⟩ ?_;clear HB;intro hh5 hg w12 hb aa9 cx7 HB;have hh6:=cx7;clear hb hg;obtain ⟨an0,an1⟩:=bc2 aa9.out;obtain ⟨an2,an3⟩:=bf2 aa9.out)|((with_reducible refine gate_callee (f:=66) rfl ?_);refine goesL_ (some 5) rfl rfl Tryz.func66 (by kernel_rfl) rfl #[.agg #[.int .u64 a5,.slice o1 d5.length n7]] rfl am ?_;(with_reducible refine (lsns_Right.calls k a5 _ _ d5 true _ ?side1 ?side2 A2.out).mono ?_);(case side1=>exact mvC (Kd.C_below C8.out HB.out));(case side2=>exact M0.out);rintro e w14 ⟨rfl,hb⟩;refine ⟨_,rfl,?_⟩;replace aa9:=AM (blk_below (mvB aa9.out) hb);replace HB:=AM (below_step (mvW HB.out) hb);clear hb;obtain ⟨ah2,ah3⟩:=bc2 aa9.out;obtain ⟨ah4,ah5⟩:=bf2 aa9.out)));(go_ret);(exact ⟨rv,mvW HB.out⟩)
 ·(replace c3:=Bool.eq_false_iff.mpr c3);(subst c3);(rw [if_neg (by first|decide|simp)] at H);(obtain rfl:=Option.some.inj H);(go_enter Tryz.func67,Tryz.ntmps67);(go_wp2_with (first|((with_reducible refine gate_dst (N:=1) rfl ?_);refine bx (N:=1) (cs:=#[.int .u64 a5,.slice o1 d5.length n7]) (t:=25) ⟨mvW HB.out⟩ ?_;clear HB;intro hh5 hg w16 hb aa9 cx7 HB;have hh6:=cx7;clear hb hg;obtain ⟨dh0,dh1⟩:=bc2 aa9.out;obtain ⟨dh2,dh3⟩:=bf2 aa9.out)|((with_reducible refine gate_callee (f:=66) rfl ?_);refine goesL_ (some 5) rfl rfl Tryz.func66 (by kernel_rfl) rfl #[.agg #[.int .u64 a5,.slice o1 d5.length n7]] rfl am ?_;(with_reducible refine (lsns_Right.calls k a5 _ _ d5 false _ ?side1 ?side2 A2.out).mono ?_);(case side1=>exact mvC (Kd.C_below C8.out HB.out));(case side2=>exact M0.out);rintro e w18 ⟨rfl,hb⟩;refine ⟨_,rfl,?_⟩;replace aa9:=AM (blk_below (mvB aa9.out) hb);replace HB:=AM (below_step (mvW HB.out) hb);(try clear hb);(try clear hb2);(try clear hk);(try clear hi))));(go_ret);(exact ⟨rv,mvW HB.out⟩)

/-! ### cells_cell_right: function 99 -/
def cells_cell_right.f (a5:ByteArray) (a7:ByteArray):Option (Bool):=if (a5.size:Int)≤513 then (some (decide ((a7.size:Int)≤2048))) else (some false)
theorem cells_cell_right.calls (a5:ByteArray) (a7:ByteArray) (r:Bool) (w:World) (h:cells_cell_right.f a5 a7=some r):
  Calls Tryz.prog 99 #[.agg #[.string a5,.string a7]] w fun e w'=>e=.returned (.bool r)∧Below w.heap.size w w':=by
 (have hu124:=Tryz.underlying124);(have HB:=AM (Below.refl w.heap.size w));(have H:(if (a5.size:Int)≤513 then (some (decide ((a7.size:Int)≤2048))) else (some false))=some r:=h);(clear h);(by_cases c2:(a5.size:Int)≤513)
 ·(rw [if_pos c2] at H);(have ac7:=decide_eq_true c2);(have bu8:decide (a5.size≤513)=true:=decide_eq_true (by omega));(clear c2);(obtain rfl:=Option.some.inj H);(go_enter Tryz.func99,Tryz.ntmps99);(go_wp2_with (first|((with_reducible refine gate_dst (N:=1) rfl ?_);(try (refine gate_guard (by rfl) ?_;dsimp only));refine bx (N:=1) (cs:=#[.string a5,.string a7]) (t:=124) ⟨mvW HB.out⟩ ?_;clear HB;intro jv1 hg w3 hb cx8 fj4 HB;have jv2:=fj4;clear hb hg;obtain ⟨dz8,dz9⟩:=bc2 cx8.out;obtain ⟨ea0,ea1⟩:=bf2 cx8.out)));(go_ret);(exact ⟨rv,mvW HB.out⟩)
 ·(rw [if_neg c2] at H);(have ac7:decide ((a5.size:Int)≤513)=false:=decide_eq_false c2);(have bu8:decide (a5.size≤513)=false:=decide_eq_false (by omega));(clear c2);(obtain rfl:=Option.some.inj H);(go_enter Tryz.func99,Tryz.ntmps99);(go_wp2_with (first|((with_reducible refine gate_dst (N:=1) rfl ?_);(try (refine gate_guard (by rfl) ?_;dsimp only));refine bx (N:=1) (cs:=#[.string a5,.string a7]) (t:=124) ⟨mvW HB.out⟩ ?_;clear HB;intro jv1 hg w5 hb cx8 fj4 HB;have jv2:=fj4;clear hb hg;obtain ⟨at8,at9⟩:=bc2 cx8.out;obtain ⟨au0,au1⟩:=bf2 cx8.out)));(go_ret);(exact ⟨rv,mvW HB.out⟩)

end Go.Proofs.YtmfaopjfdedheaaGreat.T
