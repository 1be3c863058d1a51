-- PRINTED by print.py (a twelfth state) out of the translation. Not trusted: Lean checks it.
import Derived.Test.YtoggblomknemoaaSh
import Derived.Test.YtoggblomknemoaaMv
import Derived.Test.YtoggblomknemoaaRx0
namespace Go.Proofs.Ytoggblomknemoaa.R
open Go.RowKit Go.Proofs.YtoggblomknemoaaW Go.Proofs.YtoggblomknemoaaW.PrintWords Go.Proofs.YtoggblomknemoaaW.PrintLast Go.Proofs.YtoggblomknemoaaW.PrintMore
attribute [local go_sem] GpMore.bytes_le max2_int min2_int max_two min_two max_three min_three max_four min_four   -- for this text's walks alone
set_option linter.unusedVariables false
set_option linter.unusedSimpArgs false

/-! ### lockkeeperlaw30_great: function 8 -/
def lockkeeperlaw30_great.l0:Nat→List (S42)→Int→Int→Option (Bool)
 |0,_,_,_=>none
 |k+1,x0,x3,x4=>if x4 < (x0.length:Int) then (if x4 < 40 then (if 0≤x4 then (lockkeeperlaw30_great.l0 k x0 (wrap64 ((wrap64 (x3+(((rd_T42 x0 x4).f0).size:Int)))+(((rd_T42 x0 x4).f1).size:Int))) (wrap64 (x4+1))) else (none)) else (if (x0.length:Int) > 40 then (some true) else (some (decide (x3 > 20000))))) else (if (x0.length:Int) > 40 then (some true) else (some (decide (x3 > 20000))))
def lockkeeperlaw30_great.f (k:Nat) (l0:List (S42)):Option (Bool):=lockkeeperlaw30_great.l0 k l0 0 0
theorem lockkeeperlaw30_great.mono_l:∀ k,(∀ y0 y1 y2,LeO (lockkeeperlaw30_great.l0 k y0 y1 y2) (lockkeeperlaw30_great.l0 (k+1) y0 y1 y2))
 |0=>fun _ _ _ r h=>by simp [lockkeeperlaw30_great.l0] at h
 |k+1=>by
  have ih0:=lockkeeperlaw30_great.mono_l k
  ·intro y0 y1 y2
   unfold lockkeeperlaw30_great.l0
   repeat' first
   |(with_reducible exact ih0 _ _ _)
   |(with_reducible exact LeO.refl _)
   |(with_reducible exact LeO.none _)
   |(with_reducible refine LeO.ite ?_ ?_)
   |(with_reducible refine LeO.bind ?_ (fun _=>?_))
   |exact ih0 _ _ _
   |exact LeO.none _
   |refine LeO.ite ?_ ?_
   |refine LeO.bind ?_ (fun _=>?_)
theorem lockkeeperlaw30_great.mono:∀ a0 k,LeO (lockkeeperlaw30_great.f k a0) (lockkeeperlaw30_great.f (k+1) a0):=by
 intro a0 k
 have ih0:=lockkeeperlaw30_great.mono_l k
 unfold lockkeeperlaw30_great.f
 repeat' first
   |(with_reducible exact ih0 _ _ _)
   |(with_reducible exact LeO.refl _)
   |(with_reducible exact LeO.none _)
   |(with_reducible refine LeO.ite ?_ ?_)
   |(with_reducible refine LeO.bind ?_ (fun _=>?_))
   |exact ih0 _ _ _
   |exact LeO.none _
   |refine LeO.ite ?_ ?_
   |refine LeO.bind ?_ (fun _=>?_)
set_option maxHeartbeats 8000000 in
set_option maxRecDepth 100000 in
theorem lockkeeperlaw30_great.calls (k:Nat) (A0:Option Addr) (c0:Nat) (l0:List (S42)) (r:Bool) (w:World) (hr0:Kd.C k42 w A0 l0.length l0) (hc0:l0.length≤c0) (h:lockkeeperlaw30_great.f k l0=some r):
  Calls Try.prog 8 #[.slice A0 l0.length c0] w fun e w'=>e=.returned (.bool r)∧Drawn0 w w':=by
 (have i3:=Aside0.mk hr0);(have l7:=Aside0.mk hc0);(clear hr0 hc0);(have H:(lockkeeperlaw30_great.l0 k l0 0 0)=some r:=h);(clear h);(have H':=Aside0.mk H);(clear H);(go_enter Try.func8,Try.ntmps8);(go_wp2);(repeat (go_quiet (fail);try go_wp2));(go_loopg [3,4] k (fun kq v3 v4 w'=>∃ (e9:Int) (S9:Int),v3=.int .i64 e9∧v4=.int .i64 S9∧Aside0 (lockkeeperlaw30_great.l0 kq l0 e9 S9=some r)∧Aside0 (kq≤k)∧Drawn0 w w'))
 case atStart=>exact ⟨(0),(0),sd,sd,H',⟨Nat.le_refl _⟩,by repeat (first|exact Drawn0.refl _ |apply Drawn0.step)⟩
 case round=>
  (clear H');(obtain ⟨e9,S9,rfl,rfl,HA,E3,⟨m1,rfl⟩⟩:=hrel)
  cases gk with
  |zero=>exact absurd HA.out (by simp [lockkeeperlaw30_great.l0])
  |succ k1=>
   (have H:=HA.out);(clear HA);(simp only [lockkeeperlaw30_great.l0] at H);(by_cases c2:S9 < (l0.length:Int))
   ·(rw [if_pos c2] at H);(have ag5:=decide_eq_true c2);(clear c2);(by_cases c3:S9 < 40)
    ·(rw [if_pos c3] at H);(have G8:=decide_eq_true c3);(clear c3);(by_cases c4:0≤S9)
     ·(rw [if_pos c4] at H);(have G4:=decide_eq_true c4);(clear c4);(have H':=Aside0.mk H);(clear H);(have ed8:0≤(S9:Int):=od);(have ed9:S9 < (l0.length:Int):=od);(obtain ⟨ad101,e101,gb6,gb7⟩:=at_T42 i3.out S9 ed8 ed9);(cases e101);(replace ed8:=eq_true ed8);(replace ed9:=eq_true ed9);(have ee0:0≤(S9:Int):=od);(have ee1:S9 < (l0.length:Int):=od);(obtain ⟨ad102,e102,gb8,gb9⟩:=at_T42 i3.out S9 ee0 ee1);(obtain rfl:ad101=ad102:=(by injection e102));(replace ee0:=eq_true ee0);(replace ee1:=eq_true ee1);(go_wp2);(repeat (go_quiet (fail);try go_wp2));(go_roundg k1)
      case measure=>have:=E3.out;omega
      case rel=>exact ⟨(wrap64 ((wrap64 (e9+(((rd_T42 l0 S9).f0).size:Int)))+(((rd_T42 l0 S9).f1).size:Int))),(wrap64 (S9+1)),sd,sd,H',⟨by have:=E3.out;omega⟩,by repeat (first|exact Drawn0.refl _ |apply Drawn0.step)⟩
     ·(rw [if_neg c4] at H);(exact absurd H (by simp))
    ·(rw [if_neg c3] at H);(have G8:decide (S9 < 40)=false:=decide_eq_false c3);(clear c3);(by_cases c5:(l0.length:Int) > 40)
     ·(rw [if_pos c5] at H);(have ad4:decide (40 < (l0.length:Int))=true:=decide_eq_true c5);(have cm3:decide (40 < l0.length)=true:=decide_eq_true (by omega));(clear c5);(obtain rfl:=Option.some.inj H);(go_wp2);(repeat (go_quiet (fail);try go_wp2));(go_ret);(exact ⟨by first|rfl|(simp;done)|(simp [*];done),by repeat (first|exact Drawn0.refl _ |apply Drawn0.step)⟩)
     ·(rw [if_neg c5] at H);(have ad4:decide (40 < (l0.length:Int))=false:=decide_eq_false c5);(have cm3:decide (40 < l0.length)=false:=decide_eq_false (by omega));(clear c5);(obtain rfl:=Option.some.inj H);(go_wp2);(repeat (go_quiet (fail);try go_wp2));(go_ret);(exact ⟨by first|rfl|(simp;done)|(simp [*];done),by repeat (first|exact Drawn0.refl _ |apply Drawn0.step)⟩)
   ·(rw [if_neg c2] at H);(have ag5:decide (S9 < (l0.length:Int))=false:=decide_eq_false c2);(clear c2);(by_cases c6:(l0.length:Int) > 40)
    ·(rw [if_pos c6] at H);(have V3:decide (40 < (l0.length:Int))=true:=decide_eq_true c6);(have bg4:decide (40 < l0.length)=true:=decide_eq_true (by omega));(clear c6);(obtain rfl:=Option.some.inj H);(go_wp2);(repeat (go_quiet (fail);try go_wp2));(go_ret);(exact ⟨by first|rfl|(simp;done)|(simp [*];done),by repeat (first|exact Drawn0.refl _ |apply Drawn0.step)⟩)
    ·(rw [if_neg c6] at H);(have V3:decide (40 < (l0.length:Int))=false:=decide_eq_false c6);(have bg4:decide (40 < l0.length)=false:=decide_eq_false (by omega));(clear c6);(obtain rfl:=Option.some.inj H);(go_wp2);(repeat (go_quiet (fail);try go_wp2));(go_ret);(exact ⟨by first|rfl|(simp;done)|(simp [*];done),by repeat (first|exact Drawn0.refl _ |apply Drawn0.step)⟩)

/-! ### cells_cell_right: function 52 -/
def cells_cell_right.f (e4:ByteArray) (d9:ByteArray):Option (Bool):=if (e4.size:Int)≤513 then (some (decide ((d9.size:Int)≤2048))) else (some false)
set_option maxHeartbeats 8000000 in
set_option maxRecDepth 100000 in
theorem cells_cell_right.calls (e4:ByteArray) (d9:ByteArray) (r:Bool) (w:World) (h:cells_cell_right.f e4 d9=some r):
  Calls Try.prog 52 #[.agg #[.string e4,.string d9]] w fun e w'=>e=.returned (.bool r)∧Below w.heap.size w w':=by
 (have hu80:=Try.underlying80);(have HB:=Aside0.mk (Below.refl w.heap.size w));(have H:(if (e4.size:Int)≤513 then (some (decide ((d9.size:Int)≤2048))) else (some false))=some r:=h);(clear h);(by_cases c2:(e4.size:Int)≤513)
 ·(rw [if_pos c2] at H);(have ag5:=decide_eq_true c2);(have ee2:decide (e4.size≤513)=true:=decide_eq_true (by omega));(clear c2);(obtain rfl:=Option.some.inj H);(go_enter Try.func52,Try.ntmps52);(go_wp2_with (first|((with_reducible refine gate_dst (N:=1) rfl ?_);(try (refine gate_guard (by rfl) ?_;dsimp only));refine bx (N:=1) (cs:=#[.string e4,.string d9]) (t:=80) ⟨mvW HB.out⟩ ?_;clear HB;intro fn2 hg w3 hb br7 dh3 HB;have fn3:=dh3;clear hb hg;obtain ⟨fx4,fx5⟩:=bc2 br7.out;obtain ⟨fx6,fx7⟩:=bf2 br7.out)));(go_ret);(exact ⟨rv,mvW HB.out⟩)
 ·(rw [if_neg c2] at H);(have ag5:decide ((e4.size:Int)≤513)=false:=decide_eq_false c2);(have ee2:decide (e4.size≤513)=false:=decide_eq_false (by omega));(clear c2);(obtain rfl:=Option.some.inj H);(go_enter Try.func52,Try.ntmps52);(go_wp2_with (first|((with_reducible refine gate_dst (N:=1) rfl ?_);(try (refine gate_guard (by rfl) ?_;dsimp only));refine bx (N:=1) (cs:=#[.string e4,.string d9]) (t:=80) ⟨mvW HB.out⟩ ?_;clear HB;intro fn2 hg w5 hb br7 dh3 HB;have fn3:=dh3;clear hb hg;obtain ⟨bt2,bt3⟩:=bc2 br7.out;obtain ⟨bt4,bt5⟩:=bf2 br7.out)));(go_ret);(exact ⟨rv,mvW HB.out⟩)

/-! ### cells_Right: function 28 -/
def cells_Right.l0:Nat→List (S42)→List (S42)→Int→Int→Option (Bool)
 |0,_,_,_,_=>none
 |k+1,x0,x5,x6,x7=>if x7 < x6 then (if 0≤x7 then (if x7 < (x5.length:Int) then ((cells_cell_right.f ((rd_T42 x5 x7).f0) ((rd_T42 x5 x7).f1)).bind fun ee3=>(if ee3=true then (if x7 > 0 then (if 0≤(wrap64 (x7 - 1)) then (if (wrap64 (x7 - 1)) < (x0.length:Int) then (if ((Op.bytesLess (((rd_T42 x0 (wrap64 (x7 - 1))).f0).toList) (((rd_T42 x5 x7).f0).toList))=true) then (cells_Right.l0 k x0 x5 x6 (wrap64 (x7+1))) else (some false)) else (none)) else (none)) else (cells_Right.l0 k x0 x5 x6 (wrap64 (x7+1)))) else (some false))) else (none)) else (none)) else (some true)
def cells_Right.f (k:Nat) (l0:List (S42)):Option (Bool):=cells_Right.l0 k l0 l0 (l0.length:Int) 0
theorem cells_Right.mono_l:∀ k,(∀ y0 y1 y2 y3,LeO (cells_Right.l0 k y0 y1 y2 y3) (cells_Right.l0 (k+1) y0 y1 y2 y3))
 |0=>fun _ _ _ _ r h=>by simp [cells_Right.l0] at h
 |k+1=>by
  have ih0:=cells_Right.mono_l k
  ·intro y0 y1 y2 y3
   unfold cells_Right.l0
   repeat' first
   |(with_reducible exact ih0 _ _ _ _)
   |(with_reducible exact LeO.refl _)
   |(with_reducible exact LeO.none _)
   |(with_reducible refine LeO.ite ?_ ?_)
   |(with_reducible refine LeO.bind ?_ (fun _=>?_))
   |exact ih0 _ _ _ _
   |exact LeO.none _
   |refine LeO.ite ?_ ?_
   |refine LeO.bind ?_ (fun _=>?_)
theorem cells_Right.mono:∀ a0 k,LeO (cells_Right.f k a0) (cells_Right.f (k+1) a0):=by
 intro a0 k
 have ih0:=cells_Right.mono_l k
 unfold cells_Right.f
 repeat' first
   |(with_reducible exact ih0 _ _ _ _)
   |(with_reducible exact LeO.refl _)
   |(with_reducible exact LeO.none _)
   |(with_reducible refine LeO.ite ?_ ?_)
   |(with_reducible refine LeO.bind ?_ (fun _=>?_))
   |exact ih0 _ _ _ _
   |exact LeO.none _
   |refine LeO.ite ?_ ?_
   |refine LeO.bind ?_ (fun _=>?_)
def cells_Right.T4:Bool×List (List Nat×List Nat):=(true,[([],[]),([0],[0]),([1],[1]),([2,1],[2]),([3],[3]),([4,3],[3,4]),([5,3,3],[3,5]),([6],[6]),([6],[6]),([8,6],[6,8]),([7,9,6],[6,7,9]),([10,6],[6,10]),([11,6],[6,11]),([6],[6]),([13,6],[6,13]),([12,14,6],[6,12,14]),([6,15,3],[3,6,15]),([3,16],[3,16])])
def cells_Right.B4:List Nat:=[0,1,3,7,15,31,63,127,127,383,1023,2047,4095,127,8319,32767,65535,131071]
theorem cells_Right.tab4:rtab .any (opsOf Try.f28 4)=cells_Right.T4:=by kernel_rfl
theorem cells_Right.bits4:waitsOk cells_Right.T4.2 cells_Right.B4=true:=by kernel_rfl
set_option maxHeartbeats 8000000 in
set_option maxRecDepth 100000 in
theorem cells_Right.calls (k:Nat) (A0:Option Addr) (c0:Nat) (l0:List (S42)) (r:Bool) (w:World) (hr0:Kd.C k42 w A0 l0.length l0) (hc0:l0.length≤c0) (h:cells_Right.f k l0=some r):
  Calls Try.prog 28 #[.slice A0 l0.length c0] w fun e w'=>e=.returned (.bool r)∧Below w.heap.size w w':=by
 (have hu42:=Try.underlying42);(have i3:=Aside0.mk hr0);(have l7:=Aside0.mk hc0);(clear hr0 hc0);(have HB:=Aside0.mk (Below.refl w.heap.size w));(have H:(cells_Right.l0 k l0 l0 (l0.length:Int) 0)=some r:=h);(clear h);(have H':=Aside0.mk H);(clear H);(go_enter Try.func28,Try.ntmps28);(go_wp2);(go_loopg [7] k (fun kq v7 w'=>∃ (e5:Int),v7=.int .i64 e5∧Aside0 (cells_Right.l0 kq l0 l0 (l0.length:Int) e5=some r)∧Aside0 (kq≤k)∧Aside0 (Below w.heap.size w w')))
 case atStart=>exact ⟨(0),sd,H',⟨Nat.le_refl _⟩,⟨mvW HB.out⟩⟩
 case round=>
  (clear H');(obtain ⟨e5,rfl,HA,E3,HB⟩:=hrel)
  cases gk with
  |zero=>exact absurd HA.out (by simp [cells_Right.l0])
  |succ k1=>
   (have H:=HA.out);(clear HA);(simp only [cells_Right.l0] at H);(by_cases c2:e5 < (l0.length:Int))
   ·(rw [if_pos c2] at H);(have ag5:=decide_eq_true c2);(clear c2);(by_cases c3:0≤e5)
    ·(rw [if_pos c3] at H);(have G8:=decide_eq_true c3);(clear c3);(by_cases c4:e5 < (l0.length:Int))
     ·(rw [if_pos c4] at H);(have G4:=decide_eq_true c4);(clear c4);(replace H:=Option.bind_eq_some_iff.mp H);(obtain ⟨ee3,A50,H⟩:=H);(have A5:=Aside0.mk A50);(clear A50);(by_cases c6:ee3=true)
      ·(subst c6);(rw [if_pos rfl] at H);(by_cases c7:e5 > 0)
       ·(rw [if_pos c7] at H);(have au5:decide (0 < e5)=true:=decide_eq_true c7);(clear c7);(obtain ⟨ji8,hji8⟩:∃ j_:Int,(wrap64 (e5 - 1))=j_:=⟨_,rfl⟩);(first|rw [hji8] at H|simp only [hji8] at H);((try rw [hji8] at A5));(have hji8w:(IntKind.i64.wrap (e5 - 1))=ji8:=(i64_w _).trans hji8);(by_cases c9:0≤(ji8))
        ·(rw [if_pos c9] at H);(have as2:=decide_eq_true c9);(clear c9);(by_cases s9:(ji8) < (l0.length:Int))
         ·(rw [if_pos s9] at H);(have az1:=decide_eq_true s9);(clear s9);(by_cases I2:((Op.bytesLess (((rd_T42 l0 (ji8)).f0).toList) (((rd_T42 l0 e5).f0).toList))=true))
          ·(rw [if_pos I2] at H);(have br8:(Op.bytesLess (((rd_T42 l0 (ji8)).f0).toList) (((rd_T42 l0 e5).f0).toList))=true:=I2);(clear I2);(have H':=Aside0.mk H);(clear H);(have W3:0≤(e5:Int):=od);(have W4:e5 < (l0.length:Int):=od);(obtain ⟨ad104,e104,M9,N0⟩:=at_T42 i3.out e5 W3 W4);(cases e104);(replace M9:=ct HB M9);(replace N0:=ct HB N0);(replace W3:=eq_true W3);(replace W4:=eq_true W4);(try go_wp2_with (first|((with_reducible refine gate_dst (N:=4) rfl ?_);refine bx (N:=4) (cs:=#[.string (⟨#[]⟩:ByteArray),.string (⟨#[]⟩:ByteArray)]) (t:=42) ⟨mvW HB.out⟩ ?_;clear HB;intro o2 hg w12 hb k0 at4 HB;have dh4:=at4;clear hb hg;obtain ⟨dh5,dh6⟩:=bc2 k0.out;obtain ⟨dh7,dh8⟩:=bf2 k0.out)));(have n0_:Aside0 (((w12.setCell ⟨o2,0,none⟩ (.string ((rd_T42 l0 e5).f0))).setCell ⟨o2,1,none⟩ (.string ((rd_T42 l0 e5).f1))).heap[o2]? =some (.cells #[.string ((rd_T42 l0 e5).f0),.string ((rd_T42 l0 e5).f1)] 42 (0,0))):=⟨mvP k0.out⟩);(have n1_:Aside0 (Below w.heap.size w ((w12.setCell ⟨o2,0,none⟩ (.string ((rd_T42 l0 e5).f0))).setCell ⟨o2,1,none⟩ (.string ((rd_T42 l0 e5).f1)))):=⟨mvW HB.out⟩);((try clear k0));((try clear HB));(generalize ((w12.setCell ⟨o2,0,none⟩ (.string ((rd_T42 l0 e5).f0))).setCell ⟨o2,1,none⟩ (.string ((rd_T42 l0 e5).f1)))=w14 at n0_ n1_ ⊢);(have k0:=n0_);(have HB:=n1_);(clear n0_ n1_);(replace k0:=Aside0.mk (blk_drew k0.out));(replace HB:=Aside0.mk (below_drew1 HB.out));(have bg5:0≤((ji8):Int):=od);(have bg6:(ji8) < (l0.length:Int):=od);(obtain ⟨ad107,e107,U3,U4⟩:=at_T42 i3.out (ji8) bg5 bg6);(have hw107_1:=U4);(have hw107_0:=U3);(obtain rfl:ad104=ad107:=(by injection e107));(replace U3:=ct HB U3);(replace U4:=ct HB U4);(replace bg5:=eq_true bg5);(replace bg6:=eq_true bg6);(refine start_ (n:=18) (S:=fun w'=>w'.cell? ⟨o2,0,none⟩=some (.string ((rd_T42 l0 e5).f0))∧w'.cell? ⟨o2,1,none⟩=some (.string ((rd_T42 l0 e5).f1))∧w'.cell? (ad104.add (((ji8)).toNat * 2))=some (.string ((rd_T42 l0 (ji8)).f0))∧w'.cell? ⟨(ad104.add (((ji8)).toNat * 2)).block,(ad104.add (((ji8)).toNat * 2)).off+1,none⟩=some (.string ((rd_T42 l0 (ji8)).f1))) (ds:=[]) #[false,false,false,false,false,false,false,false,false,false,false,false,false,false,false,false,false,false] (by kernel_rfl) rfl rfl ⟨(blk_cell k0.out 0).trans rfl,(blk_cell k0.out 1).trans rfl,(ct HB hw107_0),(ct HB hw107_1)⟩ (fun d4=>?_);refine with_tabW cells_Right.tab4 cells_Right.bits4 (fun HT_ HW_=>?_));(generalize w14.drew=w15 at k0 HB U3 U4 d4 ⊢);(refine tk 0 12 (bv 1 17) HT_ HW_ d4 ?_);(refine on 1 (some 13) (bv 2 16) HT_ (fun K hK=>?_));(refine goes_ Try.func52 (by kernel_rfl) rfl #[.agg #[.string ((rd_T42 l0 e5).f0),.string ((rd_T42 l0 e5).f1)]] (by rfl) rfl rfl am ?_);(with_reducible refine (cells_cell_right.calls ((rd_T42 l0 e5).f0) ((rd_T42 l0 e5).f1) true _ A5.out).mono ?_);(rintro e w16 ⟨rfl,hb⟩);(refine ⟨_,rfl,?_⟩);(replace k0:=Aside0.mk (blk_below (mvB k0.out) hb));(replace HB:=Aside0.mk (below_step (mvW HB.out) hb));(clear hb);(refine hK.out _ _ ⟨(blk_cell k0.out 0).trans rfl,(blk_cell k0.out 1).trans rfl,(ct HB hw107_0),(ct HB hw107_1)⟩ (fun d4=>?_));(clear hK K);(refine nm 13 ?_);(refine pu 2 14 (bv 3 15) HT_ ?_);(refine pu 3 15 (bv 4 14) HT_ ?_);(refine pu 4 16 (bv 5 13) HT_ ?_);(refine pu 5 17 (bv 6 12) HT_ ?_);(refine pu 6 18 (bv 7 11) HT_ ?_);(refine pu 7 19 (bv 8 10) HT_ ?_);(refine pu 8 20 (bv 9 9) HT_ ?_);(refine pu 9 21 (bv 10 8) HT_ ?_);(refine pu 10 22 (bv 11 7) HT_ ?_);(refine pu 11 23 (bv 12 6) HT_ ?_);(refine pu 13 25 #[true,true,true,true,true,true,true,true,true,true,true,true,false,true,false,false,false,false] HT_ ?_);(refine tk 12 24 (bv 14 4) HT_ HW_ d4 ?_);(refine tk 14 26 (bv 15 3) HT_ HW_ d4 ?_);(refine pu 15 27 (bv 16 2) HT_ ?_);(refine pu 16 28 (bv 17 1) HT_ ?_);(refine pu 17 29 (bv 18 0) HT_ ?_);(refine done_ (done_of HT_.out (by kernel_rfl)) ?_);(try go_wp2);(go_roundg k1)
           case measure=>have:=E3.out;omega
           case rel=>exact ⟨(wrap64 (e5+1)),sd,H',⟨by have:=E3.out;omega⟩,⟨mvW HB.out⟩⟩
          ·(rw [if_neg I2] at H);(have br8:(Op.bytesLess (((rd_T42 l0 (ji8)).f0).toList) (((rd_T42 l0 e5).f0).toList))=false:=by simpa using I2);(clear I2);(obtain rfl:=Option.some.inj H);(have W3:0≤(e5:Int):=od);(have W4:e5 < (l0.length:Int):=od);(obtain ⟨ad104,e104,M9,N0⟩:=at_T42 i3.out e5 W3 W4);(cases e104);(replace M9:=ct HB M9);(replace N0:=ct HB N0);(replace W3:=eq_true W3);(replace W4:=eq_true W4);(try go_wp2_with (first|((with_reducible refine gate_dst (N:=4) rfl ?_);refine bx (N:=4) (cs:=#[.string (⟨#[]⟩:ByteArray),.string (⟨#[]⟩:ByteArray)]) (t:=42) ⟨mvW HB.out⟩ ?_;clear HB;intro o2 hg w17 hb k0 at4 HB;have dh4:=at4;clear hb hg;obtain ⟨ax7,ax8⟩:=bc2 k0.out;obtain ⟨ax9,ay0⟩:=bf2 k0.out)));(have n0_:Aside0 (((w17.setCell ⟨o2,0,none⟩ (.string ((rd_T42 l0 e5).f0))).setCell ⟨o2,1,none⟩ (.string ((rd_T42 l0 e5).f1))).heap[o2]? =some (.cells #[.string ((rd_T42 l0 e5).f0),.string ((rd_T42 l0 e5).f1)] 42 (0,0))):=⟨mvP k0.out⟩);(have n1_:Aside0 (Below w.heap.size w ((w17.setCell ⟨o2,0,none⟩ (.string ((rd_T42 l0 e5).f0))).setCell ⟨o2,1,none⟩ (.string ((rd_T42 l0 e5).f1)))):=⟨mvW HB.out⟩);((try clear k0));((try clear HB));(generalize ((w17.setCell ⟨o2,0,none⟩ (.string ((rd_T42 l0 e5).f0))).setCell ⟨o2,1,none⟩ (.string ((rd_T42 l0 e5).f1)))=w19 at n0_ n1_ ⊢);(have k0:=n0_);(have HB:=n1_);(clear n0_ n1_);(replace k0:=Aside0.mk (blk_drew k0.out));(replace HB:=Aside0.mk (below_drew1 HB.out));(have bg5:0≤((ji8):Int):=od);(have bg6:(ji8) < (l0.length:Int):=od);(obtain ⟨ad107,e107,U3,U4⟩:=at_T42 i3.out (ji8) bg5 bg6);(have hw107_1:=U4);(have hw107_0:=U3);(obtain rfl:ad104=ad107:=(by injection e107));(replace U3:=ct HB U3);(replace U4:=ct HB U4);(replace bg5:=eq_true bg5);(replace bg6:=eq_true bg6);(refine start_ (n:=18) (S:=fun w'=>w'.cell? ⟨o2,0,none⟩=some (.string ((rd_T42 l0 e5).f0))∧w'.cell? ⟨o2,1,none⟩=some (.string ((rd_T42 l0 e5).f1))∧w'.cell? (ad104.add (((ji8)).toNat * 2))=some (.string ((rd_T42 l0 (ji8)).f0))∧w'.cell? ⟨(ad104.add (((ji8)).toNat * 2)).block,(ad104.add (((ji8)).toNat * 2)).off+1,none⟩=some (.string ((rd_T42 l0 (ji8)).f1))) (ds:=[]) #[false,false,false,false,false,false,false,false,false,false,false,false,false,false,false,false,false,false] (by kernel_rfl) rfl rfl ⟨(blk_cell k0.out 0).trans rfl,(blk_cell k0.out 1).trans rfl,(ct HB hw107_0),(ct HB hw107_1)⟩ (fun d4=>?_);refine with_tabW cells_Right.tab4 cells_Right.bits4 (fun HT_ HW_=>?_));(generalize w19.drew=w20 at k0 HB U3 U4 d4 ⊢);(refine tk 0 12 (bv 1 17) HT_ HW_ d4 ?_);(refine on 1 (some 13) (bv 2 16) HT_ (fun K hK=>?_));(refine goes_ Try.func52 (by kernel_rfl) rfl #[.agg #[.string ((rd_T42 l0 e5).f0),.string ((rd_T42 l0 e5).f1)]] (by rfl) rfl rfl am ?_);(with_reducible refine (cells_cell_right.calls ((rd_T42 l0 e5).f0) ((rd_T42 l0 e5).f1) true _ A5.out).mono ?_);(rintro e w21 ⟨rfl,hb⟩);(refine ⟨_,rfl,?_⟩);(replace k0:=Aside0.mk (blk_below (mvB k0.out) hb));(replace HB:=Aside0.mk (below_step (mvW HB.out) hb));(clear hb);(refine hK.out _ _ ⟨(blk_cell k0.out 0).trans rfl,(blk_cell k0.out 1).trans rfl,(ct HB hw107_0),(ct HB hw107_1)⟩ (fun d4=>?_));(clear hK K);(refine nm 13 ?_);(refine pu 2 14 (bv 3 15) HT_ ?_);(refine pu 3 15 (bv 4 14) HT_ ?_);(refine pu 4 16 (bv 5 13) HT_ ?_);(refine pu 5 17 (bv 6 12) HT_ ?_);(refine pu 6 18 (bv 7 11) HT_ ?_);(refine pu 7 19 (bv 8 10) HT_ ?_);(refine pu 8 20 (bv 9 9) HT_ ?_);(refine pu 9 21 (bv 10 8) HT_ ?_);(refine pu 10 22 (bv 11 7) HT_ ?_);(refine pu 11 23 (bv 12 6) HT_ ?_);(refine pu 13 25 #[true,true,true,true,true,true,true,true,true,true,true,true,false,true,false,false,false,false] HT_ ?_);(refine tk 12 24 (bv 14 4) HT_ HW_ d4 ?_);(refine tk 14 26 (bv 15 3) HT_ HW_ d4 ?_);(refine pu 15 27 (bv 16 2) HT_ ?_);(refine pu 16 28 (bv 17 1) HT_ ?_);(refine pu 17 29 (bv 18 0) HT_ ?_);(refine done_ (done_of HT_.out (by kernel_rfl)) ?_);(try go_wp2);(go_ret);(exact ⟨by first|rfl|(simp [errW_none,errW_some] <;> rfl)|(simp only [← hji8];first|rfl|(simp [errW_none,errW_some] <;> rfl))|(simp [*,errW_none,errW_some] <;> rfl),mvW HB.out⟩)
         ·(rw [if_neg s9] at H);(exact absurd H (by simp))
        ·(rw [if_neg c9] at H);(exact absurd H (by simp))
       ·(rw [if_neg c7] at H);(have au5:decide (0 < e5)=false:=decide_eq_false c7);(clear c7);(have H':=Aside0.mk H);(clear H);(have W3:0≤(e5:Int):=od);(have W4:e5 < (l0.length:Int):=od);(obtain ⟨ad104,e104,M9,N0⟩:=at_T42 i3.out e5 W3 W4);(cases e104);(replace M9:=ct HB M9);(replace N0:=ct HB N0);(replace W3:=eq_true W3);(replace W4:=eq_true W4);(try go_wp2_with (first|((with_reducible refine gate_dst (N:=4) rfl ?_);refine bx (N:=4) (cs:=#[.string (⟨#[]⟩:ByteArray),.string (⟨#[]⟩:ByteArray)]) (t:=42) ⟨mvW HB.out⟩ ?_;clear HB;intro o2 hg w22 hb k0 at4 HB;have dh4:=at4;clear hb hg;obtain ⟨gz4,gz5⟩:=bc2 k0.out;obtain ⟨gz6,gz7⟩:=bf2 k0.out)));(have n0_:Aside0 (((w22.setCell ⟨o2,0,none⟩ (.string ((rd_T42 l0 e5).f0))).setCell ⟨o2,1,none⟩ (.string ((rd_T42 l0 e5).f1))).heap[o2]? =some (.cells #[.string ((rd_T42 l0 e5).f0),.string ((rd_T42 l0 e5).f1)] 42 (0,0))):=⟨mvP k0.out⟩);(have n1_:Aside0 (Below w.heap.size w ((w22.setCell ⟨o2,0,none⟩ (.string ((rd_T42 l0 e5).f0))).setCell ⟨o2,1,none⟩ (.string ((rd_T42 l0 e5).f1)))):=⟨mvW HB.out⟩);((try clear k0));((try clear HB));(generalize ((w22.setCell ⟨o2,0,none⟩ (.string ((rd_T42 l0 e5).f0))).setCell ⟨o2,1,none⟩ (.string ((rd_T42 l0 e5).f1)))=w24 at n0_ n1_ ⊢);(have k0:=n0_);(have HB:=n1_);(clear n0_ n1_);(replace k0:=Aside0.mk (blk_drew k0.out));(replace HB:=Aside0.mk (below_drew1 HB.out));(refine start_ (n:=18) (S:=fun w'=>w'.cell? ⟨o2,0,none⟩=some (.string ((rd_T42 l0 e5).f0))∧w'.cell? ⟨o2,1,none⟩=some (.string ((rd_T42 l0 e5).f1))) (ds:=[]) #[false,false,false,false,false,false,false,false,false,false,false,false,false,false,false,false,false,false] (by kernel_rfl) rfl rfl (bc2 k0.out) (fun d4=>?_);refine with_tabW cells_Right.tab4 cells_Right.bits4 (fun HT_ HW_=>?_));(generalize w24.drew=w25 at k0 HB d4 ⊢);(refine tk 0 12 (bv 1 17) HT_ HW_ d4 ?_);(refine on 1 (some 13) (bv 2 16) HT_ (fun K hK=>?_));(refine goes_ Try.func52 (by kernel_rfl) rfl #[.agg #[.string ((rd_T42 l0 e5).f0),.string ((rd_T42 l0 e5).f1)]] (by rfl) rfl rfl am ?_);(with_reducible refine (cells_cell_right.calls ((rd_T42 l0 e5).f0) ((rd_T42 l0 e5).f1) true _ A5.out).mono ?_);(rintro e w26 ⟨rfl,hb⟩);(refine ⟨_,rfl,?_⟩);(replace k0:=Aside0.mk (blk_below (mvB k0.out) hb));(replace HB:=Aside0.mk (below_step (mvW HB.out) hb));(clear hb);(refine hK.out _ _ (bc2 k0.out) (fun d4=>?_));(clear hK K);(refine nm 13 ?_);(refine pu 2 14 (bv 3 15) HT_ ?_);(refine pu 3 15 (bv 4 14) HT_ ?_);(refine pu 4 16 (bv 5 13) HT_ ?_);(refine pu 5 17 (bv 6 12) HT_ ?_);(refine pu 6 18 (bv 7 11) HT_ ?_);(refine pn 7 19 (bv 8 10) HT_ ?_);(refine pn 8 20 (bv 9 9) HT_ ?_);(refine pn 9 21 (bv 10 8) HT_ ?_);(refine pn 10 22 (bv 11 7) HT_ ?_);(refine pn 11 23 (bv 12 6) HT_ ?_);(refine pn 12 24 (bv 13 5) HT_ ?_);(refine pn 13 25 (bv 14 4) HT_ ?_);(refine pn 14 26 (bv 15 3) HT_ ?_);(refine pn 15 27 (bv 16 2) HT_ ?_);(refine pu 16 28 (bv 17 1) HT_ ?_);(refine pu 17 29 (bv 18 0) HT_ ?_);(refine done_ (done_of HT_.out (by kernel_rfl)) ?_);(try go_wp2);(go_roundg k1)
        case measure=>have:=E3.out;omega
        case rel=>exact ⟨(wrap64 (e5+1)),sd,H',⟨by have:=E3.out;omega⟩,⟨mvW HB.out⟩⟩
      ·(replace c6:=Bool.eq_false_iff.mpr c6);(subst c6);(rw [if_neg (by decide)] at H);(obtain rfl:=Option.some.inj H);(have W3:0≤(e5:Int):=od);(have W4:e5 < (l0.length:Int):=od);(obtain ⟨ad104,e104,M9,N0⟩:=at_T42 i3.out e5 W3 W4);(cases e104);(replace M9:=ct HB M9);(replace N0:=ct HB N0);(replace W3:=eq_true W3);(replace W4:=eq_true W4);(try go_wp2_with (first|((with_reducible refine gate_dst (N:=4) rfl ?_);refine bx (N:=4) (cs:=#[.string (⟨#[]⟩:ByteArray),.string (⟨#[]⟩:ByteArray)]) (t:=42) ⟨mvW HB.out⟩ ?_;clear HB;intro o2 hg w27 hb k0 at4 HB;have dh4:=at4;clear hb hg;obtain ⟨gz8,gz9⟩:=bc2 k0.out;obtain ⟨ha0,ha1⟩:=bf2 k0.out)));(have n0_:Aside0 (((w27.setCell ⟨o2,0,none⟩ (.string ((rd_T42 l0 e5).f0))).setCell ⟨o2,1,none⟩ (.string ((rd_T42 l0 e5).f1))).heap[o2]? =some (.cells #[.string ((rd_T42 l0 e5).f0),.string ((rd_T42 l0 e5).f1)] 42 (0,0))):=⟨mvP k0.out⟩);(have n1_:Aside0 (Below w.heap.size w ((w27.setCell ⟨o2,0,none⟩ (.string ((rd_T42 l0 e5).f0))).setCell ⟨o2,1,none⟩ (.string ((rd_T42 l0 e5).f1)))):=⟨mvW HB.out⟩);((try clear k0));((try clear HB));(generalize ((w27.setCell ⟨o2,0,none⟩ (.string ((rd_T42 l0 e5).f0))).setCell ⟨o2,1,none⟩ (.string ((rd_T42 l0 e5).f1)))=w29 at n0_ n1_ ⊢);(have k0:=n0_);(have HB:=n1_);(clear n0_ n1_);(replace k0:=Aside0.mk (blk_drew k0.out));(replace HB:=Aside0.mk (below_drew1 HB.out));(refine start_ (n:=18) (S:=fun w'=>w'.cell? ⟨o2,0,none⟩=some (.string ((rd_T42 l0 e5).f0))∧w'.cell? ⟨o2,1,none⟩=some (.string ((rd_T42 l0 e5).f1))) (ds:=[]) #[false,false,false,false,false,false,false,false,false,false,false,false,false,false,false,false,false,false] (by kernel_rfl) rfl rfl (bc2 k0.out) (fun d4=>?_);refine with_tabW cells_Right.tab4 cells_Right.bits4 (fun HT_ HW_=>?_));(generalize w29.drew=w30 at k0 HB d4 ⊢);(refine tk 0 12 (bv 1 17) HT_ HW_ d4 ?_);(refine on 1 (some 13) (bv 2 16) HT_ (fun K hK=>?_));(refine goes_ Try.func52 (by kernel_rfl) rfl #[.agg #[.string ((rd_T42 l0 e5).f0),.string ((rd_T42 l0 e5).f1)]] (by rfl) rfl rfl am ?_);(with_reducible refine (cells_cell_right.calls ((rd_T42 l0 e5).f0) ((rd_T42 l0 e5).f1) false _ A5.out).mono ?_);(rintro e w31 ⟨rfl,hb⟩);(refine ⟨_,rfl,?_⟩);(replace k0:=Aside0.mk (blk_below (mvB k0.out) hb));(replace HB:=Aside0.mk (below_step (mvW HB.out) hb));(clear hb);(refine hK.out _ _ (bc2 k0.out) (fun d4=>?_));(clear hK K);(refine nm 13 ?_);(refine pu 2 14 (bv 3 15) HT_ ?_);(refine pu 3 15 (bv 4 14) HT_ ?_);(refine pn 4 16 (bv 5 13) HT_ ?_);(refine pn 5 17 (bv 6 12) HT_ ?_);(refine pn 6 18 (bv 7 11) HT_ ?_);(refine pn 7 19 (bv 8 10) HT_ ?_);(refine pn 8 20 (bv 9 9) HT_ ?_);(refine pn 9 21 (bv 10 8) HT_ ?_);(refine pn 10 22 (bv 11 7) HT_ ?_);(refine pn 11 23 (bv 12 6) HT_ ?_);(refine pn 12 24 (bv 13 5) HT_ ?_);(refine pn 13 25 (bv 14 4) HT_ ?_);(refine pn 14 26 (bv 15 3) HT_ ?_);(refine pn 15 27 (bv 16 2) HT_ ?_);(refine pn 16 28 (bv 17 1) HT_ ?_);(refine pu 17 29 (bv 18 0) HT_ ?_);(refine done_ (done_of HT_.out (by kernel_rfl)) ?_);(try go_wp2);(go_ret);(exact ⟨rv,mvW HB.out⟩)
     ·(rw [if_neg c4] at H);(exact absurd H (by simp))
    ·(rw [if_neg c3] at H);(exact absurd H (by simp))
   ·(rw [if_neg c2] at H);(have ag5:decide (e5 < (l0.length:Int))=false:=decide_eq_false c2);(clear c2);(obtain rfl:=Option.some.inj H);(go_wp2);(go_ret);(exact ⟨rv,mvW HB.out⟩)

/-! ### model_key: function 30 -/
def model_key.f (e4:Int) (d9:ByteArray) (e8:ByteArray) (o9:ByteArray) (k9:ByteArray) (n0:Bool) (I1:Int):Option (Bool×Bool):=if e4≥2 then (if d9.toList=([]:List UInt8) then (some (decide (e4≤5),false)) else (if (d9.size:Int)≤512 then (some (decide (e4≤5),decide ((e8.size:Int)≤2048))) else (some (decide (e4≤5),false)))) else (if d9.toList=([]:List UInt8) then (some (false,false)) else (if (d9.size:Int)≤512 then (some (false,decide ((e8.size:Int)≤2048))) else (some (false,false))))
set_option maxHeartbeats 8000000 in
set_option maxRecDepth 100000 in
theorem model_key.calls (e4:Int) (d9:ByteArray) (e8:ByteArray) (o9:ByteArray) (k9:ByteArray) (n0:Bool) (I1:Int) (r1:Bool) (r2:Bool) (w:World) (h:model_key.f e4 d9 e8 o9 k9 n0 I1=some (r1,r2)):
  Calls Try.prog 30 #[.agg #[.int .u8 e4,.string d9,.string e8,.string o9,.string k9,.bool n0,.int .i64 I1]] w fun e w'=>e=.returned (.tuple #[.bool r1,.bool r2])∧Below w.heap.size w w':=by
 (have hu26:=Try.underlying26);(have HB:=Aside0.mk (Below.refl w.heap.size w));(have H:(if e4≥2 then (if d9.toList=([]:List UInt8) then (some (decide (e4≤5),false)) else (if (d9.size:Int)≤512 then (some (decide (e4≤5),decide ((e8.size:Int)≤2048))) else (some (decide (e4≤5),false)))) else (if d9.toList=([]:List UInt8) then (some (false,false)) else (if (d9.size:Int)≤512 then (some (false,decide ((e8.size:Int)≤2048))) else (some (false,false)))))=some (r1,r2):=h);(clear h);(by_cases c2:e4≥2)
 ·(rw [if_pos c2] at H);(have ag5:decide (2≤e4)=true:=decide_eq_true c2);(clear c2);(by_cases c3:d9.toList=([]:List UInt8))
  ·(rw [if_pos c3] at H);(have G8:(d9.toList==([]:List UInt8))=true:=beq_iff_eq.mpr c3);(have Z9:(d9.toList != ([]:List UInt8))=false:=bne_eq_false_iff_eq.mpr c3);(clear c3);(simp only [Option.some.injEq,Prod.mk.injEq] at H);(obtain ⟨rfl,rfl⟩:=H);(go_enter Try.func30,Try.ntmps30);(go_wp2_with (first|((with_reducible refine gate_dst (N:=1) rfl ?_);(try (refine gate_guard (by rfl) ?_;dsimp only));refine bx (N:=1) (cs:=#[.int .u8 e4,.string d9,.string e8,.string o9,.string k9,.bool n0,.int .i64 I1]) (t:=26) ⟨mvW HB.out⟩ ?_;clear HB;intro K4 hg w4 hb k8 p5 HB;have K5:=p5;clear hb hg;obtain ⟨ar2,ar3,ar4,fb2,fb3,fb4,fb5⟩:=bc7 k8.out;obtain ⟨ar5,ar6,ar7,fb6,fb7,fb8,fb9⟩:=bf7 k8.out)));(repeat (go_quiet (first|((with_reducible refine gate_dst (N:=1) rfl ?_);(try (refine gate_guard (by rfl) ?_;dsimp only));refine bx (N:=1) (cs:=#[.int .u8 e4,.string d9,.string e8,.string o9,.string k9,.bool n0,.int .i64 I1]) (t:=26) ⟨mvW HB.out⟩ ?_;clear HB;intro K4 hg w4 hb k8 p5 HB;have K5:=p5;clear hb hg;obtain ⟨ar2,ar3,ar4,fb2,fb3,fb4,fb5⟩:=bc7 k8.out;obtain ⟨ar5,ar6,ar7,fb6,fb7,fb8,fb9⟩:=bf7 k8.out));try go_wp2_with (first|((with_reducible refine gate_dst (N:=1) rfl ?_);(try (refine gate_guard (by rfl) ?_;dsimp only));refine bx (N:=1) (cs:=#[.int .u8 e4,.string d9,.string e8,.string o9,.string k9,.bool n0,.int .i64 I1]) (t:=26) ⟨mvW HB.out⟩ ?_;clear HB;intro K4 hg w4 hb k8 p5 HB;have K5:=p5;clear hb hg;obtain ⟨ar2,ar3,ar4,fb2,fb3,fb4,fb5⟩:=bc7 k8.out;obtain ⟨ar5,ar6,ar7,fb6,fb7,fb8,fb9⟩:=bf7 k8.out))));(go_ret2);(exact ⟨rv,mvW HB.out⟩)
  ·(rw [if_neg c3] at H);(have G8:(d9.toList==([]:List UInt8))=false:=beq_eq_false_iff_ne.mpr c3);(have Z9:(d9.toList != ([]:List UInt8))=true:=bne_iff_ne.mpr c3);(by_cases c6:(d9.size:Int)≤512)
   ·(rw [if_pos c6] at H);(have V3:=decide_eq_true c6);(have bg4:decide (d9.size≤512)=true:=decide_eq_true (by omega));(clear c6);(simp only [Option.some.injEq,Prod.mk.injEq] at H);(obtain ⟨rfl,rfl⟩:=H);(go_enter Try.func30,Try.ntmps30);(go_wp2_with (first|((with_reducible refine gate_dst (N:=1) rfl ?_);(try (refine gate_guard (by rfl) ?_;dsimp only));refine bx (N:=1) (cs:=#[.int .u8 e4,.string d9,.string e8,.string o9,.string k9,.bool n0,.int .i64 I1]) (t:=26) ⟨mvW HB.out⟩ ?_;clear HB;intro K4 hg w7 hb k8 p5 HB;have K5:=p5;clear hb hg;obtain ⟨ee4,ee5,ee6,fc0,fc1,fc2,fc3⟩:=bc7 k8.out;obtain ⟨ee7,ee8,ee9,fc4,fc5,fc6,fc7⟩:=bf7 k8.out)));(repeat (go_quiet (first|((with_reducible refine gate_dst (N:=1) rfl ?_);(try (refine gate_guard (by rfl) ?_;dsimp only));refine bx (N:=1) (cs:=#[.int .u8 e4,.string d9,.string e8,.string o9,.string k9,.bool n0,.int .i64 I1]) (t:=26) ⟨mvW HB.out⟩ ?_;clear HB;intro K4 hg w7 hb k8 p5 HB;have K5:=p5;clear hb hg;obtain ⟨ee4,ee5,ee6,fc0,fc1,fc2,fc3⟩:=bc7 k8.out;obtain ⟨ee7,ee8,ee9,fc4,fc5,fc6,fc7⟩:=bf7 k8.out));try go_wp2_with (first|((with_reducible refine gate_dst (N:=1) rfl ?_);(try (refine gate_guard (by rfl) ?_;dsimp only));refine bx (N:=1) (cs:=#[.int .u8 e4,.string d9,.string e8,.string o9,.string k9,.bool n0,.int .i64 I1]) (t:=26) ⟨mvW HB.out⟩ ?_;clear HB;intro K4 hg w7 hb k8 p5 HB;have K5:=p5;clear hb hg;obtain ⟨ee4,ee5,ee6,fc0,fc1,fc2,fc3⟩:=bc7 k8.out;obtain ⟨ee7,ee8,ee9,fc4,fc5,fc6,fc7⟩:=bf7 k8.out))));(go_ret2);(exact ⟨rv,mvW HB.out⟩)
   ·(rw [if_neg c6] at H);(have V3:decide ((d9.size:Int)≤512)=false:=decide_eq_false c6);(have bg4:decide (d9.size≤512)=false:=decide_eq_false (by omega));(clear c6);(simp only [Option.some.injEq,Prod.mk.injEq] at H);(obtain ⟨rfl,rfl⟩:=H);(go_enter Try.func30,Try.ntmps30);(go_wp2_with (first|((with_reducible refine gate_dst (N:=1) rfl ?_);(try (refine gate_guard (by rfl) ?_;dsimp only));refine bx (N:=1) (cs:=#[.int .u8 e4,.string d9,.string e8,.string o9,.string k9,.bool n0,.int .i64 I1]) (t:=26) ⟨mvW HB.out⟩ ?_;clear HB;intro K4 hg w9 hb k8 p5 HB;have K5:=p5;clear hb hg;obtain ⟨ag8,ag9,ah0,bl9,bm0,bm1,bm2⟩:=bc7 k8.out;obtain ⟨ah1,ah2,ah3,bm3,bm4,bm5,bm6⟩:=bf7 k8.out)));(repeat (go_quiet (first|((with_reducible refine gate_dst (N:=1) rfl ?_);(try (refine gate_guard (by rfl) ?_;dsimp only));refine bx (N:=1) (cs:=#[.int .u8 e4,.string d9,.string e8,.string o9,.string k9,.bool n0,.int .i64 I1]) (t:=26) ⟨mvW HB.out⟩ ?_;clear HB;intro K4 hg w9 hb k8 p5 HB;have K5:=p5;clear hb hg;obtain ⟨ag8,ag9,ah0,bl9,bm0,bm1,bm2⟩:=bc7 k8.out;obtain ⟨ah1,ah2,ah3,bm3,bm4,bm5,bm6⟩:=bf7 k8.out));try go_wp2_with (first|((with_reducible refine gate_dst (N:=1) rfl ?_);(try (refine gate_guard (by rfl) ?_;dsimp only));refine bx (N:=1) (cs:=#[.int .u8 e4,.string d9,.string e8,.string o9,.string k9,.bool n0,.int .i64 I1]) (t:=26) ⟨mvW HB.out⟩ ?_;clear HB;intro K4 hg w9 hb k8 p5 HB;have K5:=p5;clear hb hg;obtain ⟨ag8,ag9,ah0,bl9,bm0,bm1,bm2⟩:=bc7 k8.out;obtain ⟨ah1,ah2,ah3,bm3,bm4,bm5,bm6⟩:=bf7 k8.out))));(go_ret2);(exact ⟨rv,mvW HB.out⟩)
 ·(rw [if_neg c2] at H);(have ag5:decide (2≤e4)=false:=decide_eq_false c2);(clear c2);(by_cases I2:d9.toList=([]:List UInt8))
  ·(rw [if_pos I2] at H);(have br8:(d9.toList==([]:List UInt8))=true:=beq_iff_eq.mpr I2);(have el2:(d9.toList != ([]:List UInt8))=false:=bne_eq_false_iff_eq.mpr I2);(clear I2);(simp only [Option.some.injEq,Prod.mk.injEq] at H);(obtain ⟨rfl,rfl⟩:=H);(go_enter Try.func30,Try.ntmps30);(go_wp2_with (first|((with_reducible refine gate_dst (N:=1) rfl ?_);(try (refine gate_guard (by rfl) ?_;dsimp only));refine bx (N:=1) (cs:=#[.int .u8 e4,.string d9,.string e8,.string o9,.string k9,.bool n0,.int .i64 I1]) (t:=26) ⟨mvW HB.out⟩ ?_;clear HB;intro K4 hg w12 hb k8 p5 HB;have K5:=p5;clear hb hg;obtain ⟨dh5,dh6,el3,el4,el5,el6,el7⟩:=bc7 k8.out;obtain ⟨dh7,dh8,el8,el9,em0,em1,em2⟩:=bf7 k8.out)));(repeat (go_quiet (first|((with_reducible refine gate_dst (N:=1) rfl ?_);(try (refine gate_guard (by rfl) ?_;dsimp only));refine bx (N:=1) (cs:=#[.int .u8 e4,.string d9,.string e8,.string o9,.string k9,.bool n0,.int .i64 I1]) (t:=26) ⟨mvW HB.out⟩ ?_;clear HB;intro K4 hg w12 hb k8 p5 HB;have K5:=p5;clear hb hg;obtain ⟨dh5,dh6,el3,el4,el5,el6,el7⟩:=bc7 k8.out;obtain ⟨dh7,dh8,el8,el9,em0,em1,em2⟩:=bf7 k8.out));try go_wp2_with (first|((with_reducible refine gate_dst (N:=1) rfl ?_);(try (refine gate_guard (by rfl) ?_;dsimp only));refine bx (N:=1) (cs:=#[.int .u8 e4,.string d9,.string e8,.string o9,.string k9,.bool n0,.int .i64 I1]) (t:=26) ⟨mvW HB.out⟩ ?_;clear HB;intro K4 hg w12 hb k8 p5 HB;have K5:=p5;clear hb hg;obtain ⟨dh5,dh6,el3,el4,el5,el6,el7⟩:=bc7 k8.out;obtain ⟨dh7,dh8,el8,el9,em0,em1,em2⟩:=bf7 k8.out))));(go_ret2);(exact ⟨rv,mvW HB.out⟩)
  ·(rw [if_neg I2] at H);(have br8:(d9.toList==([]:List UInt8))=false:=beq_eq_false_iff_ne.mpr I2);(have el2:(d9.toList != ([]:List UInt8))=true:=bne_iff_ne.mpr I2);(by_cases t7:(d9.size:Int)≤512)
   ·(rw [if_pos t7] at H);(have Q6:=decide_eq_true t7);(have em3:decide (d9.size≤512)=true:=decide_eq_true (by omega));(clear t7);(simp only [Option.some.injEq,Prod.mk.injEq] at H);(obtain ⟨rfl,rfl⟩:=H);(go_enter Try.func30,Try.ntmps30);(go_wp2_with (first|((with_reducible refine gate_dst (N:=1) rfl ?_);(try (refine gate_guard (by rfl) ?_;dsimp only));refine bx (N:=1) (cs:=#[.int .u8 e4,.string d9,.string e8,.string o9,.string k9,.bool n0,.int .i64 I1]) (t:=26) ⟨mvW HB.out⟩ ?_;clear HB;intro K4 hg w15 hb k8 p5 HB;have K5:=p5;clear hb hg;obtain ⟨ax1,ax2,ax3,ce9,cf0,cf1,cf2⟩:=bc7 k8.out;obtain ⟨ax4,ax5,ax6,cf3,cf4,cf5,cf6⟩:=bf7 k8.out)));(repeat (go_quiet (first|((with_reducible refine gate_dst (N:=1) rfl ?_);(try (refine gate_guard (by rfl) ?_;dsimp only));refine bx (N:=1) (cs:=#[.int .u8 e4,.string d9,.string e8,.string o9,.string k9,.bool n0,.int .i64 I1]) (t:=26) ⟨mvW HB.out⟩ ?_;clear HB;intro K4 hg w15 hb k8 p5 HB;have K5:=p5;clear hb hg;obtain ⟨ax1,ax2,ax3,ce9,cf0,cf1,cf2⟩:=bc7 k8.out;obtain ⟨ax4,ax5,ax6,cf3,cf4,cf5,cf6⟩:=bf7 k8.out));try go_wp2_with (first|((with_reducible refine gate_dst (N:=1) rfl ?_);(try (refine gate_guard (by rfl) ?_;dsimp only));refine bx (N:=1) (cs:=#[.int .u8 e4,.string d9,.string e8,.string o9,.string k9,.bool n0,.int .i64 I1]) (t:=26) ⟨mvW HB.out⟩ ?_;clear HB;intro K4 hg w15 hb k8 p5 HB;have K5:=p5;clear hb hg;obtain ⟨ax1,ax2,ax3,ce9,cf0,cf1,cf2⟩:=bc7 k8.out;obtain ⟨ax4,ax5,ax6,cf3,cf4,cf5,cf6⟩:=bf7 k8.out))));(go_ret2);(exact ⟨rv,mvW HB.out⟩)
   ·(rw [if_neg t7] at H);(have Q6:decide ((d9.size:Int)≤512)=false:=decide_eq_false t7);(have em3:decide (d9.size≤512)=false:=decide_eq_false (by omega));(clear t7);(simp only [Option.some.injEq,Prod.mk.injEq] at H);(obtain ⟨rfl,rfl⟩:=H);(go_enter Try.func30,Try.ntmps30);(go_wp2_with (first|((with_reducible refine gate_dst (N:=1) rfl ?_);(try (refine gate_guard (by rfl) ?_;dsimp only));refine bx (N:=1) (cs:=#[.int .u8 e4,.string d9,.string e8,.string o9,.string k9,.bool n0,.int .i64 I1]) (t:=26) ⟨mvW HB.out⟩ ?_;clear HB;intro K4 hg w17 hb k8 p5 HB;have K5:=p5;clear hb hg;obtain ⟨ax7,ax8,bl7,dh9,di0,di1,di2⟩:=bc7 k8.out;obtain ⟨ax9,ay0,bl8,di3,di4,di5,di6⟩:=bf7 k8.out)));(repeat (go_quiet (first|((with_reducible refine gate_dst (N:=1) rfl ?_);(try (refine gate_guard (by rfl) ?_;dsimp only));refine bx (N:=1) (cs:=#[.int .u8 e4,.string d9,.string e8,.string o9,.string k9,.bool n0,.int .i64 I1]) (t:=26) ⟨mvW HB.out⟩ ?_;clear HB;intro K4 hg w17 hb k8 p5 HB;have K5:=p5;clear hb hg;obtain ⟨ax7,ax8,bl7,dh9,di0,di1,di2⟩:=bc7 k8.out;obtain ⟨ax9,ay0,bl8,di3,di4,di5,di6⟩:=bf7 k8.out));try go_wp2_with (first|((with_reducible refine gate_dst (N:=1) rfl ?_);(try (refine gate_guard (by rfl) ?_;dsimp only));refine bx (N:=1) (cs:=#[.int .u8 e4,.string d9,.string e8,.string o9,.string k9,.bool n0,.int .i64 I1]) (t:=26) ⟨mvW HB.out⟩ ?_;clear HB;intro K4 hg w17 hb k8 p5 HB;have K5:=p5;clear hb hg;obtain ⟨ax7,ax8,bl7,dh9,di0,di1,di2⟩:=bc7 k8.out;obtain ⟨ax9,ay0,bl8,di3,di4,di5,di6⟩:=bf7 k8.out))));(go_ret2);(exact ⟨rv,mvW HB.out⟩)

/-! ### sort_Search: function 63 -/
/-- Go's binary search from i to j. -/
def bsearch (p:Nat→Bool) (i j:Nat):Nat:=
 if h:i < j then (if p ((i+j) / 2) then bsearch p i ((i+j) / 2) else bsearch p ((i+j) / 2+1) j) else i
  termination_by j - i
  decreasing_by all_goals omega
theorem bsearch_done (p:Nat→Bool) (i:Nat):bsearch p i i=i:=by unfold bsearch;rw [dif_neg (by omega)]
theorem bsearch_yes {p:Nat→Bool} {i j:Nat} (h:i < j) (hp:p ((i+j) / 2)=true):bsearch p i j=bsearch p i ((i+j) / 2):=by rw [bsearch,dif_pos h,if_pos hp]
theorem bsearch_no {p:Nat→Bool} {i j:Nat} (h:i < j) (hp:p ((i+j) / 2)=false):bsearch p i j=bsearch p ((i+j) / 2+1) j:=by rw [bsearch,dif_pos h,if_neg (by rw [hp];simp)]
set_option maxHeartbeats 4000000 in
set_option maxRecDepth 100000 in
theorem search_calls (g:Nat) (cb:Array Value) (n:Nat) (p:Nat→Bool) (w:World) (eg:∀ args w,(callFunc g args).run Try.prog w=.ok (.enter g args) w) (hsz:n < 4611686018427387904)
  (hf:∀ (W:World) (i:Nat),Below w.heap.size w W→i < n→Calls Try.prog g (#[.int .i64 i]++cb) W fun e w'=>e=.returned (.bool (p i))∧Below W.heap.size W w'):
  Calls Try.prog 63 #[.int .i64 n,.func (.func g) #[] cb] w fun e w'=>e=.returned (.int .i64 (bsearch p 0 n:Nat))∧Below w.heap.size w w':=by
 have HF:Aside0 _:=⟨hf⟩
 clear hf
 obtain ⟨r,hr⟩:∃ r,r=bsearch p 0 n:=⟨_,rfl⟩
 rw [← hr]
 have HR:Aside0 (bsearch p 0 n=r):=⟨hr.symm⟩
 clear hr
 go_enter Try.func63,Try.ntmps63
 go_wp2
 go_loopg [5,6] n (fun kx s5 s6 wr=>∃ (lo hi:Nat),s5=.int .i64 lo∧s6=.int .i64 hi∧lo≤hi∧hi≤n∧hi - lo≤kx∧Aside0 (Below w.heap.size w wr)∧Aside0 (bsearch p lo hi=r))
 case atStart=>exact ⟨0,n,rfl,rfl,Nat.zero_le _,Nat.le_refl _,by omega,⟨Below.refl _ _⟩,HR⟩
 case round=>
  obtain ⟨lo,hi,rfl,rfl,hlh,hin,hg,HB,I⟩:=hrel
  by_cases hlt:lo < hi
  ·have hc:=HF.out wr ((lo+hi) / 2) HB.out (by omega)
   rw [show (((lo+hi) / 2:Nat):Int)=((lo:Int)+(hi:Int)) / 2 by omega] at hc
   cases hp:p ((lo+hi) / 2) <;> rw [hp] at hc
   ·have HP:Aside0 (p ((lo+hi) / 2)=false):=⟨hp⟩
    clear hp
    go_wp2_with (go_at_fn g;refine hc.mono ?_;rintro e w1 ⟨rfl,hb1⟩)
    go_roundg (hi - ((lo+hi) / 2+1))
    case measure=>omega
    case rel=>exact ⟨(lo+hi) / 2+1,hi,by rw [show ((lo:Int)+(hi:Int)) / 2+1=(((lo+hi) / 2+1:Nat):Int) by omega],rfl,by omega,hin,Nat.le_refl _,⟨below_step HB.out hb1⟩,⟨(bsearch_no hlt HP.out).symm.trans I.out⟩⟩
   ·have HP:Aside0 (p ((lo+hi) / 2)=true):=⟨hp⟩
    clear hp
    go_wp2_with (go_at_fn g;refine hc.mono ?_;rintro e w1 ⟨rfl,hb1⟩)
    go_roundg ((lo+hi) / 2 - lo)
    case measure=>omega
    case rel=>exact ⟨lo,(lo+hi) / 2,rfl,by rw [show ((lo:Int)+(hi:Int)) / 2=(((lo+hi) / 2:Nat):Int) by omega],by omega,by omega,Nat.le_refl _,⟨below_step HB.out hb1⟩,⟨(bsearch_yes hlt HP.out).symm.trans I.out⟩⟩
  ·obtain rfl:hi=lo:=by omega
   have e:=I.out
   rw [bsearch_done] at e
   subst e
   go_wp2
   go_ret
   exact ⟨rfl,HB.out⟩
theorem bsearch_le0 (p:Nat→Bool):∀ (d i j:Nat),j - i=d→i≤j→i≤bsearch p i j∧bsearch p i j≤j:=by
 intro d
 induction d using Nat.strongRecOn with
 |_ d ih=>
  intro i j hd hij
  by_cases h:i < j
  ·cases hp:p ((i+j) / 2)
   ·rw [bsearch_no h hp]
    have:=ih (j - ((i+j) / 2+1)) (by omega) ((i+j) / 2+1) j rfl (by omega)
    omega
   ·rw [bsearch_yes h hp]
    have:=ih ((i+j) / 2 - i) (by omega) i ((i+j) / 2) rfl (by omega)
    omega
  ·obtain rfl:i=j:=by omega
   rw [bsearch_done]
   omega

/-! ### cells_At: function 53 -/
/-- Is a text greater than another one? -/
def cells_At_gt (a b:ByteArray):Bool:=Op.bytesLess b.toList a.toList
def cells_At.f (k:Nat) (l0:List S42) (a1:ByteArray):Option (Int):=(cells_Right.f k l0).bind fun t=>if t=true then (if l0.length < 4611686018427387904 then some (((bsearch (fun i=>cells_At_gt (rd_T42 l0 i).f0 a1) 0 l0.length:Nat):Int) - 1) else none) else some (-1)
theorem cells_At.mono:∀ a0 a1 k,LeO (cells_At.f k a0 a1) (cells_At.f (k+1) a0 a1):=by
 intro a0 a1 k
 exact LeO.bind (cells_Right.mono _ _) (fun _=>LeO.refl _)
set_option maxHeartbeats 4000000 in
theorem cells_At_clo_calls (ba bx:Nat) (A0:Option Addr) (c:Nat) (l:List S42) (x:ByteArray) (i:Nat) (W:World) (hi:i < l.length) (hr:Kd.C k42 W A0 l.length l)
  (ha:W.cell? ⟨ba,0,none⟩=some (.slice A0 l.length c)) (hx:W.cell? ⟨bx,0,none⟩=some (.string x)):
  Calls Try.prog 76 (#[.int .i64 i]++#[.pointer (some ⟨ba,0,none⟩),.pointer (some ⟨bx,0,none⟩)]) W fun e w'=>e=.returned (.bool (cells_At_gt (rd_T42 l i).f0 x))∧Below W.heap.size W w':=by
 obtain ⟨ad,rfl,hc,_⟩:=at_T42 hr i (by omega) (by omega)
 rw [Int.toNat_natCast] at hc
 generalize rd_T42 l i=y at hc ⊢
 have hiz:(i:Int) < (l.length:Int):=by omega
 have hu:=Try.underlying42
 clear hr
 go_enter Try.func76,Try.ntmps76
 go_wp2
 go_region
 all_goals go_wp2
 all_goals go_ret
 all_goals exact ⟨by first|rfl|simp,below_drew1 (Below.refl _ _)⟩
set_option maxHeartbeats 4000000 in
theorem cells_At_above (A0:Option Addr) (n c0:Nat) (x:ByteArray) (w:World):Calls Try.prog 62 #[.slice A0 n c0,.string x] w fun e w'=>
  e=.returned (.func (.func 76) #[] #[.pointer (some ⟨w.heap.size,0,none⟩),.pointer (some ⟨w.heap.size+1,0,none⟩)])∧w'=(w.alloc (.cells #[.slice A0 n c0] 89)).alloc (.cells #[.string x] 9):=by
 have hmf:∀ (fn:Fn) (first cap:Array Value) (w:World),(Instr.makeFunc fn first cap).run Try.prog w=.ok (.func fn first cap) w:=fun _ _ _ _=>rfl
 go_enter Try.func62,Try.ntmps62
 go_wp2
 go_ret
 exact ⟨rfl,rfl⟩
set_option maxHeartbeats 4000000 in
set_option maxRecDepth 100000 in
theorem cells_At.calls (k:Nat) (A0:Option Addr) (c0:Nat) (l0:List S42) (a1:ByteArray) (r:Int) (w:World) (hr0:Kd.C k42 w A0 l0.length l0) (hc0:l0.length≤c0) (h:cells_At.f k l0 a1=some r):
  Calls Try.prog 53 #[.slice A0 l0.length c0,.string a1] w fun e w'=>e=.returned (.int .i64 r)∧Below w.heap.size w w':=by
 obtain ⟨t,ht,h⟩:=Option.bind_eq_some_iff.1 h
 have hR:=cells_Right.calls k A0 c0 l0 t w hr0 hc0 ht
 cases t
 ·rw [if_neg (by simp)] at h
  obtain rfl:=Option.some.inj h
  go_enter Try.func53,Try.ntmps53
  go_wp2_with (go_at_call 28;refine hR.mono ?_;rintro e w1 ⟨rfl,hb⟩;have HB:=Aside0.mk hb;clear hb)
  go_ret
  exact ⟨rfl,HB.out⟩
 ·rw [if_pos rfl] at h
  have hlen:l0.length < 4611686018427387904:=by
   by_cases hl:l0.length < 4611686018427387904
   ·exact hl
   ·rw [if_neg hl] at h;cases h
  rw [if_pos hlen] at h
  obtain rfl:=Option.some.inj h
  clear h
  have eg:∀ args w,(callFunc 76 args).run Try.prog w=.ok (.enter 76 args) w:=enters_of Try.func76 (by kernel_rfl) rfl
  have hS:∀ w1,Below w.heap.size w w1→Calls Try.prog 63 #[.int .i64 l0.length,.func (.func 76) #[] #[.pointer (some ⟨w1.heap.size,0,none⟩),.pointer (some ⟨w1.heap.size+1,0,none⟩)]] ((w1.alloc (.cells #[.slice A0 l0.length c0] 89)).alloc (.cells #[.string a1] 9))
    fun e w'=>e=.returned (.int .i64 (bsearch (fun i=>cells_At_gt (rd_T42 l0 i).f0 a1) 0 l0.length:Nat))∧Below w.heap.size w w':=by
   intro w1 hb1
   obtain ⟨W0,hW0⟩:∃ W0,W0=(w1.alloc (.cells #[.slice A0 l0.length c0] 89)).alloc (.cells #[.string a1] 9):=⟨_,rfl⟩
   have hB0:Below w.heap.size w W0:=by rw [hW0];exact below_alloc (below_alloc hb1 _) _
   have ca:W0.cell? ⟨w1.heap.size,0,none⟩=some (.slice A0 l0.length c0):=by
    rw [hW0];exact (blk_cell (blk_alloc (blk_new w1 _) _) 0).trans rfl
   have cx:W0.cell? ⟨w1.heap.size+1,0,none⟩=some (.string a1):=by
    have hb:=blk_new (w1.alloc (.cells #[.slice A0 l0.length c0] 89)) (.cells #[.string a1] 9)
    rw [World.size_alloc] at hb
    rw [hW0]
    exact (blk_cell hb 0).trans rfl
   rw [← hW0]
   refine (search_calls 76 #[.pointer (some ⟨w1.heap.size,0,none⟩),.pointer (some ⟨w1.heap.size+1,0,none⟩)] l0.length (fun i=>cells_At_gt (rd_T42 l0 i).f0 a1) W0 eg hlen
    (fun W i hB hi=>cells_At_clo_calls w1.heap.size (w1.heap.size+1) A0 c0 l0 a1 i W hi (Kd.C_below (Kd.C_below hr0 hB0) hB) (pw_cell_below hB ca) (pw_cell_below hB cx))).mono ?_
   rintro e w' ⟨rfl,hb⟩
   exact ⟨rfl,below_step hB0 hb⟩
  have hle:=(bsearch_le0 (fun i=>cells_At_gt (rd_T42 l0 i).f0 a1) l0.length 0 l0.length rfl (Nat.zero_le _)).2
  have HS:=Aside0.mk hS
  generalize bsearch (fun i=>cells_At_gt (rd_T42 l0 i).f0 a1) 0 l0.length=r at HS hle ⊢
  have hw:wrap64 ((r:Int) - 1)=(r:Int) - 1:=by unfold wrap64;omega
  clear hS hr0 hle hlen
  go_enter Try.func53,Try.ntmps53
  go_wp2_with (go_at_call 28;refine hR.mono ?_;rintro e w1 ⟨rfl,hb⟩;have HB:=Aside0.mk hb;clear hb)
  refine (cells_At_above A0 l0.length c0 a1 w1).mono ?_
  rintro e w2 ⟨rfl,rfl⟩
  go_wp2_with (go_at_call 63;refine (HS.out w1 HB.out).mono ?_;rintro e w3 ⟨rfl,hb⟩;have HB2:=Aside0.mk hb;clear hb)
  go_ret
  exact ⟨by show Ending.returned (.int .i64 (wrap64 ((r:Int) - 1)))=_;rw [hw],HB2.out⟩

/-! ### cells_Find: function 32 -/
def cells_Find.f (k:Nat) (l0:List (S42)) (a1:ByteArray):Option (ByteArray×Bool):=(cells_At.f k l0 a1).bind fun z8=>(if z8≥0 then (if 0≤z8 then (if z8 < (l0.length:Int) then (if ((rd_T42 l0 z8).f0).toList=a1.toList then (some ((rd_T42 l0 z8).f1,true)) else (some ((⟨#[]⟩:ByteArray),false))) else (none)) else (none)) else (some ((⟨#[]⟩:ByteArray),false)))
theorem cells_Find.mono:∀ a0 a1 k,LeO (cells_Find.f k a0 a1) (cells_Find.f (k+1) a0 a1):=by
 intro a0 a1 k
 unfold cells_Find.f
 repeat' first
   |(with_reducible exact cells_At.mono _ _ _)
   |(with_reducible exact LeO.refl _)
   |(with_reducible exact LeO.none _)
   |(with_reducible refine LeO.ite ?_ ?_)
   |(with_reducible refine LeO.bind ?_ (fun _=>?_))
   |exact cells_At.mono _ _ _
   |exact LeO.none _
   |refine LeO.ite ?_ ?_
   |refine LeO.bind ?_ (fun _=>?_)
set_option maxHeartbeats 8000000 in
set_option maxRecDepth 100000 in
theorem cells_Find.calls (k:Nat) (A0:Option Addr) (c0:Nat) (l0:List (S42)) (a1:ByteArray) (r1:ByteArray) (r2:Bool) (w:World) (hr0:Kd.C k42 w A0 l0.length l0) (hc0:l0.length≤c0) (h:cells_Find.f k l0 a1=some (r1,r2)):
  Calls Try.prog 32 #[.slice A0 l0.length c0,.string a1] w fun e w'=>e=.returned (.tuple #[.string r1,.bool r2])∧Below w.heap.size w w':=by
 (have i3:=Aside0.mk hr0);(have l7:=Aside0.mk hc0);(clear hr0 hc0);(have HB:=Aside0.mk (Below.refl w.heap.size w));(have H:((cells_At.f k l0 a1).bind fun z8=>(if z8≥0 then (if 0≤z8 then (if z8 < (l0.length:Int) then (if ((rd_T42 l0 z8).f0).toList=a1.toList then (some ((rd_T42 l0 z8).f1,true)) else (some ((⟨#[]⟩:ByteArray),false))) else (none)) else (none)) else (some ((⟨#[]⟩:ByteArray),false))))=some (r1,r2):=h);(clear h);(replace H:=Option.bind_eq_some_iff.mp H);(obtain ⟨z8,A30,H⟩:=H);(have A3:=Aside0.mk A30);(clear A30);(by_cases c4:z8≥0)
 ·(rw [if_pos c4] at H);(have G4:decide (0≤z8)=true:=decide_eq_true c4);(clear c4);(by_cases c5:0≤z8)
  ·(rw [if_pos c5] at H);(have ad4:=decide_eq_true c5);(clear c5);(by_cases c6:z8 < (l0.length:Int))
   ·(rw [if_pos c6] at H);(have V3:=decide_eq_true c6);(clear c6);(by_cases c7:((rd_T42 l0 z8).f0).toList=a1.toList)
    ·(rw [if_pos c7] at H);(have au5:(((rd_T42 l0 z8).f0).toList==a1.toList)=true:=beq_iff_eq.mpr c7);(have fx8:(((rd_T42 l0 z8).f0).toList != a1.toList)=false:=bne_eq_false_iff_eq.mpr c7);(clear c7);(simp only [Option.some.injEq,Prod.mk.injEq] at H);(obtain ⟨rfl,rfl⟩:=H);(go_enter Try.func32,Try.ntmps32);(go_wp2_with (first|((with_reducible refine gate_callee (f:=53) rfl ?_);refine goesL_ (some 9) rfl rfl Try.func53 (by kernel_rfl) rfl #[.slice A0 l0.length c0,.string a1] rfl am ?_;(with_reducible refine (cells_At.calls k _ _ l0 a1 z8 _ ?side1 ?side2 A3.out).mono ?_);(case side1=>exact mvC i3.out);(case side2=>exact l7.out);rintro e w8 ⟨rfl,hb⟩;refine ⟨_,rfl,?_⟩;replace HB:=Aside0.mk (below_step (mvW HB.out) hb);clear hb;have bg7:0≤(z8:Int):=od;have bg8:z8 < (l0.length:Int):=od;obtain ⟨ad110,e110,an4,an5⟩:=at_T42 i3.out z8 bg7 bg8;cases e110;replace an4:=ct HB an4;replace an5:=ct HB an5;replace bg7:=eq_true bg7;replace bg8:=eq_true bg8;have ef0:0≤(z8:Int):=od;have ef1:z8 < (l0.length:Int):=od;obtain ⟨ad111,e111,cs7,cs8⟩:=at_T42 i3.out z8 ef0 ef1;obtain rfl:ad110=ad111:=(by injection e111);replace cs7:=ct HB cs7;replace cs8:=ct HB cs8;replace ef0:=eq_true ef0;replace ef1:=eq_true ef1)));(go_ret2);(exact ⟨rv,mvW HB.out⟩)
    ·(rw [if_neg c7] at H);(have au5:(((rd_T42 l0 z8).f0).toList==a1.toList)=false:=beq_eq_false_iff_ne.mpr c7);(have fx8:(((rd_T42 l0 z8).f0).toList != a1.toList)=true:=bne_iff_ne.mpr c7);(simp only [Option.some.injEq,Prod.mk.injEq] at H);(obtain ⟨rfl,rfl⟩:=H);(go_enter Try.func32,Try.ntmps32);(go_wp2_with (first|((with_reducible refine gate_callee (f:=53) rfl ?_);refine goesL_ (some 9) rfl rfl Try.func53 (by kernel_rfl) rfl #[.slice A0 l0.length c0,.string a1] rfl am ?_;(with_reducible refine (cells_At.calls k _ _ l0 a1 z8 _ ?side1 ?side2 A3.out).mono ?_);(case side1=>exact mvC i3.out);(case side2=>exact l7.out);rintro e w9 ⟨rfl,hb⟩;refine ⟨_,rfl,?_⟩;replace HB:=Aside0.mk (below_step (mvW HB.out) hb);clear hb;have bg7:0≤(z8:Int):=od;have bg8:z8 < (l0.length:Int):=od;obtain ⟨ad110,e110,an4,an5⟩:=at_T42 i3.out z8 bg7 bg8;cases e110;replace an4:=ct HB an4;replace an5:=ct HB an5;replace bg7:=eq_true bg7;replace bg8:=eq_true bg8)));(go_ret2);(exact ⟨rv,mvW HB.out⟩)
   ·(rw [if_neg c6] at H);(exact absurd H (by simp))
  ·(rw [if_neg c5] at H);(exact absurd H (by simp))
 ·(rw [if_neg c4] at H);(have G4:decide (0≤z8)=false:=decide_eq_false c4);(clear c4);(simp only [Option.some.injEq,Prod.mk.injEq] at H);(obtain ⟨rfl,rfl⟩:=H);(go_enter Try.func32,Try.ntmps32);(go_wp2_with (first|((with_reducible refine gate_callee (f:=53) rfl ?_);refine goesL_ (some 9) rfl rfl Try.func53 (by kernel_rfl) rfl #[.slice A0 l0.length c0,.string a1] rfl am ?_;(with_reducible refine (cells_At.calls k _ _ l0 a1 z8 _ ?side1 ?side2 A3.out).mono ?_);(case side1=>exact mvC i3.out);(case side2=>exact l7.out);rintro e S6 ⟨rfl,hb⟩;refine ⟨_,rfl,?_⟩;replace HB:=Aside0.mk (below_step (mvW HB.out) hb);(try clear hb);(try clear hb2);(try clear hk);(try clear hi))));(go_ret2);(exact ⟨rv,mvW HB.out⟩)

end Go.Proofs.Ytoggblomknemoaa.R
