-- PRINTED by print.py (a twelfth state) out of the translation. Not trusted: Lean checks it.
import Derived.Test.YtmfaopjfdedheaaGreatSq
import Derived.Test.YtmfaopjfdedheaaGreatSh
import Derived.Test.YtmfaopjfdedheaaGreatMv
import Derived.Test.YtmfaopjfdedheaaGreatTx0
import Derived.Test.YtmfaopjfdedheaaGreatTx2
namespace Go.Proofs.YtmfaopjfdedheaaGreat.T
open Go.RowKit Go.Proofs.YtmfaopjfdedheaaGreatW Go.Proofs.YtmfaopjfdedheaaGreatW.PrintWords Go.Proofs.YtmfaopjfdedheaaGreatW.PrintLast Go.Proofs.YtmfaopjfdedheaaGreatW.PrintMore
attribute [local go_sem] GpMore.bytes_le max2_int min2_int max_two min_two max_three min_three max_four min_four   -- for this text's walks alone
set_option linter.unusedVariables false
set_option maxHeartbeats 8000000
set_option maxRecDepth 100000
set_option linter.unusedSimpArgs false

/-! ### cells_Right: function 69 -/
def cells_Right.l0:Nat→List (S42)→List (S42)→Int→Int→Option (Bool)
 |0,_,_,_,_=>none
 |k+1,x0,x5,x6,x7=>if x7 < x6 then (if 0≤x7 then (if x7 < (x5.length:Int) then ((cells_cell_right.f ((rd_T42 x5 x7).f0) ((rd_T42 x5 x7).f1)).bind fun fx0=>(if fx0=true then (if x7 > 0 then (if 0≤(wrap64 (x7 - 1)) then (if (wrap64 (x7 - 1)) < (x0.length:Int) then (if ((Op.bytesLess (((rd_T42 x0 (wrap64 (x7 - 1))).f0).toList) (((rd_T42 x5 x7).f0).toList))=true) then (cells_Right.l0 k x0 x5 x6 (wrap64 (x7+1))) else (some false)) else (none)) else (none)) else (cells_Right.l0 k x0 x5 x6 (wrap64 (x7+1)))) else (some false))) else (none)) else (none)) else (some true)
def cells_Right.f (k:Nat) (l0:List (S42)):Option (Bool):=cells_Right.l0 k l0 l0 (l0.length:Int) 0
def cells_Right.T4:Bool×List (List Nat×List Nat):=(true,[([],[]),([0],[0]),([1],[1]),([2,1],[2]),([3],[3]),([4,3],[3,4]),([5,3,3],[3,5]),([6],[6]),([6],[6]),([8,6],[6,8]),([7,9,6],[6,7,9]),([10,6],[6,10]),([11,6],[6,11]),([6],[6]),([13,6],[6,13]),([12,14,6],[6,12,14]),([6,15,3],[3,6,15]),([3,16],[3,16])])
def cells_Right.B4:List Nat:=[0,1,3,7,15,31,63,127,127,383,1023,2047,4095,127,8319,32767,65535,131071]
theorem cells_Right.tab4:rtab .any (opsOf Tryz.f69 4)=cells_Right.T4:=by kernel_rfl
theorem cells_Right.bits4:waitsOk cells_Right.T4.2 cells_Right.B4=true:=by kernel_rfl
theorem cells_Right.calls (k:Nat) (A0:Option Addr) (c0:Nat) (l0:List (S42)) (r:Bool) (w:World) (hr0:Kd.C k42 w A0 l0.length l0) (hc0:l0.length≤c0) (h:cells_Right.f k l0=some r):
  Calls Tryz.prog 69 #[.slice A0 l0.length c0] w fun e w'=>e=.returned (.bool r)∧Below w.heap.size w w':=by
 (have hu42:=Tryz.underlying42);(have R7:=AM hr0);(have HC0:=AM hc0);(clear hr0 hc0);(have HB:=AM (Below.refl w.heap.size w));(have H:(cells_Right.l0 k l0 l0 (l0.length:Int) 0)=some r:=h);(clear h);(have H':=AM H);(clear H);(go_enter Tryz.func69,Tryz.ntmps69);(go_wp2);(go_loopg [7] k (fun kq v7 w'=>∃ (o7:Int),v7=.int .i64 o7∧Aside0 (cells_Right.l0 kq l0 l0 (l0.length:Int) o7=some r)∧Aside0 (kq≤k)∧Aside0 (Below w.heap.size w w')))
 case atStart=>exact ⟨(0),sd,H',⟨Nat.le_refl _⟩,⟨mvW HB.out⟩⟩
 case round=>
  (clear H');(obtain ⟨o7,rfl,HA,G2,HB⟩:=hrel)
  cases gk with
  |zero=>exact absurd HA.out (by simp [cells_Right.l0])
  |succ k1=>
   (have H:=HA.out);(clear HA);(simp only [cells_Right.l0] at H);(by_cases c2:o7 < (l0.length:Int))
   ·(rw [if_pos c2] at H);(have ac7:=decide_eq_true c2);(clear c2);(by_cases c3:0≤o7)
    ·(rw [if_pos c3] at H);(have ad6:=decide_eq_true c3);(clear c3);(by_cases c4:o7 < (l0.length:Int))
     ·(rw [if_pos c4] at H);(have D1:=decide_eq_true c4);(clear c4);(replace H:=Option.bind_eq_some_iff.mp H);(obtain ⟨fx0,A50,H⟩:=H);(have A5:=AM A50);(clear A50);(by_cases c6:fx0=true)
      ·(subst c6);(rw [if_pos rfl] at H);(by_cases c7:o7 > 0)
       ·(rw [if_pos c7] at H);(have ai6:decide (0 < o7)=true:=decide_eq_true c7);(clear c7);(obtain ⟨ji8,hji8⟩:∃ j_:Int,(wrap64 (o7 - 1))=j_:=⟨_,rfl⟩);(first|rw [hji8] at H|simp only [hji8] at H);((try rw [hji8] at A5));(have hji8w:(IntKind.i64.wrap (o7 - 1))=ji8:=(i64_w _).trans hji8);(by_cases c9:0≤(ji8))
        ·(rw [if_pos c9] at H);(have az1:=decide_eq_true c9);(clear c9);(by_cases F3:(ji8) < (l0.length:Int))
         ·(rw [if_pos F3] at H);(have U3:=decide_eq_true F3);(clear F3);(by_cases X6:((Op.bytesLess (((rd_T42 l0 (ji8)).f0).toList) (((rd_T42 l0 o7).f0).toList))=true))
          ·(rw [if_pos X6] at H);(have ek3:(Op.bytesLess (((rd_T42 l0 (ji8)).f0).toList) (((rd_T42 l0 o7).f0).toList))=true:=X6);(clear X6);(have H':=AM H);(clear H);(have ac3:0≤(o7:Int):=od);(have ac4:o7 < (l0.length:Int):=od);(obtain ⟨ad114,e114,bl3,bl4⟩:=at_T42w HB R7.out o7 ac3 ac4);(cases e114);(replace ac3:=eq_true ac3);(replace ac4:=eq_true ac4);(try go_wp2_with (first|((with_reducible refine gate_dst (N:=4) rfl ?_);refine bx (N:=4) (cs:=#[.string (⟨#[]⟩:ByteArray),.string (⟨#[]⟩:ByteArray)]) (t:=42) ⟨mvW HB.out⟩ ?_;clear HB;intro D7 hg w12 hb s8 bt3 HB;have fk1:=bt3;clear hb hg;obtain ⟨an0,an1⟩:=bc2 s8.out;obtain ⟨an2,an3⟩:=bf2 s8.out)));(have n0_:Aside0 (((w12.setCell ⟨D7,0,none⟩ (.string ((rd_T42 l0 o7).f0))).setCell ⟨D7,1,none⟩ (.string ((rd_T42 l0 o7).f1))).heap[D7]? =some (.cells #[.string ((rd_T42 l0 o7).f0),.string ((rd_T42 l0 o7).f1)] 42 (0,0))):=⟨mvP s8.out⟩);(have n1_:Aside0 (Below w.heap.size w ((w12.setCell ⟨D7,0,none⟩ (.string ((rd_T42 l0 o7).f0))).setCell ⟨D7,1,none⟩ (.string ((rd_T42 l0 o7).f1)))):=⟨mvW HB.out⟩);((try clear s8));((try clear HB));(generalize ((w12.setCell ⟨D7,0,none⟩ (.string ((rd_T42 l0 o7).f0))).setCell ⟨D7,1,none⟩ (.string ((rd_T42 l0 o7).f1)))=w14 at n0_ n1_ ⊢);(have s8:=n0_);(have HB:=n1_);(clear n0_ n1_);(replace s8:=AM (blk_drew s8.out));(replace HB:=AM (below_drew1 HB.out));(have co3:0≤((ji8):Int):=od);(have co4:(ji8) < (l0.length:Int):=od);(obtain ⟨ad117,e117,ai0,ai1⟩:=at_T42 R7.out (ji8) co3 co4);(have hw117_1:=ai1);(have hw117_0:=ai0);(obtain rfl:ad114=ad117:=(by injection e117));(replace ai0:=ct HB ai0);(replace ai1:=ct HB ai1);(replace co3:=eq_true co3);(replace co4:=eq_true co4);(refine start_ (n:=18) (S:=fun w'=>w'.cell? ⟨D7,0,none⟩=some (.string ((rd_T42 l0 o7).f0))∧w'.cell? ⟨D7,1,none⟩=some (.string ((rd_T42 l0 o7).f1))∧w'.cell? (ad114.add (((ji8)).toNat * 2))=some (.string ((rd_T42 l0 (ji8)).f0))∧w'.cell? ⟨(ad114.add (((ji8)).toNat * 2)).block,(ad114.add (((ji8)).toNat * 2)).off+1,none⟩=some (.string ((rd_T42 l0 (ji8)).f1))) (ds:=[]) (bm 18 0) (by kernel_rfl) rfl rfl ⟨(blk_cell s8.out 0).trans rfl,(blk_cell s8.out 1).trans rfl,(ct HB hw117_0),(ct HB hw117_1)⟩ (fun b8=>?_);refine with_tabW cells_Right.tab4 cells_Right.bits4 (fun HT_ HW_=>?_));(generalize w14.drew=w15 at s8 HB ai0 ai1 b8 ⊢);(refine tk 0 12 (bv 1 17) HT_ HW_ b8 ?_);(refine on 1 (some 13) (bv 2 16) HT_ (fun K hK=>?_));(refine goes_ Tryz.func99 (by kernel_rfl) rfl #[.agg #[.string ((rd_T42 l0 o7).f0),.string ((rd_T42 l0 o7).f1)]] (by rfl) rfl rfl am ?_);(with_reducible refine (cells_cell_right.calls ((rd_T42 l0 o7).f0) ((rd_T42 l0 o7).f1) true _ A5.out).mono ?_);(rintro e w16 ⟨rfl,hb⟩);(refine ⟨_,rfl,?_⟩);(replace s8:=AM (blk_below (mvB s8.out) hb));(replace HB:=AM (below_step (mvW HB.out) hb));(clear hb);(refine hK.out _ _ ⟨(blk_cell s8.out 0).trans rfl,(blk_cell s8.out 1).trans rfl,(ct HB hw117_0),(ct HB hw117_1)⟩ (fun b8=>?_));(clear hK K);(refine nm 13 ?_);(refine pu 2 14 (bv 3 15) HT_ ?_);(refine pu 3 15 (bv 4 14) HT_ ?_);(refine pu 4 16 (bv 5 13) HT_ ?_);(refine pu 5 17 (bv 6 12) HT_ ?_);(refine pu 6 18 (bv 7 11) HT_ ?_);(refine pu 7 19 (bv 8 10) HT_ ?_);(refine pu 8 20 (bv 9 9) HT_ ?_);(refine pu 9 21 (bv 10 8) HT_ ?_);(refine pu 10 22 (bv 11 7) HT_ ?_);(refine pu 11 23 (bv 12 6) HT_ ?_);(refine pu 13 25 (bm 18 12287) HT_ ?_);(refine tk 12 24 (bv 14 4) HT_ HW_ b8 ?_);(refine tk 14 26 (bv 15 3) HT_ HW_ b8 ?_);(refine pu 15 27 (bv 16 2) HT_ ?_);(refine pu 16 28 (bv 17 1) HT_ ?_);(refine pu 17 29 (bv 18 0) HT_ ?_);(refine done_ (done_of HT_.out (by kernel_rfl)) ?_);(try go_wp2);(go_roundg k1)
           case measure=>have:=G2.out;omega
           case rel=>exact ⟨(wrap64 (o7+1)),sd,H',⟨by have:=G2.out;omega⟩,⟨mvW HB.out⟩⟩
          ·(rw [if_neg X6] at H);(have ek3:(Op.bytesLess (((rd_T42 l0 (ji8)).f0).toList) (((rd_T42 l0 o7).f0).toList))=false:=by simpa using X6);(clear X6);(obtain rfl:=Option.some.inj H);(have ac3:0≤(o7:Int):=od);(have ac4:o7 < (l0.length:Int):=od);(obtain ⟨ad114,e114,bl3,bl4⟩:=at_T42w HB R7.out o7 ac3 ac4);(cases e114);(replace ac3:=eq_true ac3);(replace ac4:=eq_true ac4);(try go_wp2_with (first|((with_reducible refine gate_dst (N:=4) rfl ?_);refine bx (N:=4) (cs:=#[.string (⟨#[]⟩:ByteArray),.string (⟨#[]⟩:ByteArray)]) (t:=42) ⟨mvW HB.out⟩ ?_;clear HB;intro D7 hg w17 hb s8 bt3 HB;have fk1:=bt3;clear hb hg;obtain ⟨ek4,ek5⟩:=bc2 s8.out;obtain ⟨ek6,ek7⟩:=bf2 s8.out)));(have n0_:Aside0 (((w17.setCell ⟨D7,0,none⟩ (.string ((rd_T42 l0 o7).f0))).setCell ⟨D7,1,none⟩ (.string ((rd_T42 l0 o7).f1))).heap[D7]? =some (.cells #[.string ((rd_T42 l0 o7).f0),.string ((rd_T42 l0 o7).f1)] 42 (0,0))):=⟨mvP s8.out⟩);(have n1_:Aside0 (Below w.heap.size w ((w17.setCell ⟨D7,0,none⟩ (.string ((rd_T42 l0 o7).f0))).setCell ⟨D7,1,none⟩ (.string ((rd_T42 l0 o7).f1)))):=⟨mvW HB.out⟩);((try clear s8));((try clear HB));(generalize ((w17.setCell ⟨D7,0,none⟩ (.string ((rd_T42 l0 o7).f0))).setCell ⟨D7,1,none⟩ (.string ((rd_T42 l0 o7).f1)))=w19 at n0_ n1_ ⊢);(have s8:=n0_);(have HB:=n1_);(clear n0_ n1_);(replace s8:=AM (blk_drew s8.out));(replace HB:=AM (below_drew1 HB.out));(have co3:0≤((ji8):Int):=od);(have co4:(ji8) < (l0.length:Int):=od);(obtain ⟨ad117,e117,ai0,ai1⟩:=at_T42 R7.out (ji8) co3 co4);(have hw117_1:=ai1);(have hw117_0:=ai0);(obtain rfl:ad114=ad117:=(by injection e117));(replace ai0:=ct HB ai0);(replace ai1:=ct HB ai1);(replace co3:=eq_true co3);(replace co4:=eq_true co4);(refine start_ (n:=18) (S:=fun w'=>w'.cell? ⟨D7,0,none⟩=some (.string ((rd_T42 l0 o7).f0))∧w'.cell? ⟨D7,1,none⟩=some (.string ((rd_T42 l0 o7).f1))∧w'.cell? (ad114.add (((ji8)).toNat * 2))=some (.string ((rd_T42 l0 (ji8)).f0))∧w'.cell? ⟨(ad114.add (((ji8)).toNat * 2)).block,(ad114.add (((ji8)).toNat * 2)).off+1,none⟩=some (.string ((rd_T42 l0 (ji8)).f1))) (ds:=[]) (bm 18 0) (by kernel_rfl) rfl rfl ⟨(blk_cell s8.out 0).trans rfl,(blk_cell s8.out 1).trans rfl,(ct HB hw117_0),(ct HB hw117_1)⟩ (fun b8=>?_);refine with_tabW cells_Right.tab4 cells_Right.bits4 (fun HT_ HW_=>?_));(generalize w19.drew=w20 at s8 HB ai0 ai1 b8 ⊢);(refine tk 0 12 (bv 1 17) HT_ HW_ b8 ?_);(refine on 1 (some 13) (bv 2 16) HT_ (fun K hK=>?_));(refine goes_ Tryz.func99 (by kernel_rfl) rfl #[.agg #[.string ((rd_T42 l0 o7).f0),.string ((rd_T42 l0 o7).f1)]] (by rfl) rfl rfl am ?_);(with_reducible refine (cells_cell_right.calls ((rd_T42 l0 o7).f0) ((rd_T42 l0 o7).f1) true _ A5.out).mono ?_);(rintro e w21 ⟨rfl,hb⟩);(refine ⟨_,rfl,?_⟩);(replace s8:=AM (blk_below (mvB s8.out) hb));(replace HB:=AM (below_step (mvW HB.out) hb));(clear hb);(refine hK.out _ _ ⟨(blk_cell s8.out 0).trans rfl,(blk_cell s8.out 1).trans rfl,(ct HB hw117_0),(ct HB hw117_1)⟩ (fun b8=>?_));(clear hK K);(refine nm 13 ?_);(refine pu 2 14 (bv 3 15) HT_ ?_);(refine pu 3 15 (bv 4 14) HT_ ?_);(refine pu 4 16 (bv 5 13) HT_ ?_);(refine pu 5 17 (bv 6 12) HT_ ?_);(refine pu 6 18 (bv 7 11) HT_ ?_);(refine pu 7 19 (bv 8 10) HT_ ?_);(refine pu 8 20 (bv 9 9) HT_ ?_);(refine pu 9 21 (bv 10 8) HT_ ?_);(refine pu 10 22 (bv 11 7) HT_ ?_);(refine pu 11 23 (bv 12 6) HT_ ?_);(refine pu 13 25 (bm 18 12287) HT_ ?_);(refine tk 12 24 (bv 14 4) HT_ HW_ b8 ?_);(refine tk 14 26 (bv 15 3) HT_ HW_ b8 ?_);(refine pu 15 27 (bv 16 2) HT_ ?_);(refine pu 16 28 (bv 17 1) HT_ ?_);(refine pu 17 29 (bv 18 0) HT_ ?_);(refine done_ (done_of HT_.out (by kernel_rfl)) ?_);(try go_wp2);(go_ret);(exact ⟨by first|rfl|(simp [errW_none,errW_some] <;> rfl)|(simp only [← hji8];first|rfl|(simp [errW_none,errW_some] <;> rfl))|(simp [*,errW_none,errW_some] <;> rfl),mvW HB.out⟩)
         ·(rw [if_neg F3] at H);(exact absurd H (by simp))
        ·(rw [if_neg c9] at H);(exact absurd H (by simp))
       ·(rw [if_neg c7] at H);(have ai6:decide (0 < o7)=false:=decide_eq_false c7);(clear c7);(have H':=AM H);(clear H);(have ac3:0≤(o7:Int):=od);(have ac4:o7 < (l0.length:Int):=od);(obtain ⟨ad114,e114,bl3,bl4⟩:=at_T42w HB R7.out o7 ac3 ac4);(cases e114);(replace ac3:=eq_true ac3);(replace ac4:=eq_true ac4);(try go_wp2_with (first|((with_reducible refine gate_dst (N:=4) rfl ?_);refine bx (N:=4) (cs:=#[.string (⟨#[]⟩:ByteArray),.string (⟨#[]⟩:ByteArray)]) (t:=42) ⟨mvW HB.out⟩ ?_;clear HB;intro D7 hg w22 hb s8 bt3 HB;have fk1:=bt3;clear hb hg;obtain ⟨ar8,ar9⟩:=bc2 s8.out;obtain ⟨as0,as1⟩:=bf2 s8.out)));(have n0_:Aside0 (((w22.setCell ⟨D7,0,none⟩ (.string ((rd_T42 l0 o7).f0))).setCell ⟨D7,1,none⟩ (.string ((rd_T42 l0 o7).f1))).heap[D7]? =some (.cells #[.string ((rd_T42 l0 o7).f0),.string ((rd_T42 l0 o7).f1)] 42 (0,0))):=⟨mvP s8.out⟩);(have n1_:Aside0 (Below w.heap.size w ((w22.setCell ⟨D7,0,none⟩ (.string ((rd_T42 l0 o7).f0))).setCell ⟨D7,1,none⟩ (.string ((rd_T42 l0 o7).f1)))):=⟨mvW HB.out⟩);((try clear s8));((try clear HB));(generalize ((w22.setCell ⟨D7,0,none⟩ (.string ((rd_T42 l0 o7).f0))).setCell ⟨D7,1,none⟩ (.string ((rd_T42 l0 o7).f1)))=w24 at n0_ n1_ ⊢);(have s8:=n0_);(have HB:=n1_);(clear n0_ n1_);(replace s8:=AM (blk_drew s8.out));(replace HB:=AM (below_drew1 HB.out));(refine start_ (n:=18) (S:=fun w'=>w'.cell? ⟨D7,0,none⟩=some (.string ((rd_T42 l0 o7).f0))∧w'.cell? ⟨D7,1,none⟩=some (.string ((rd_T42 l0 o7).f1))) (ds:=[]) (bm 18 0) (by kernel_rfl) rfl rfl (bc2 s8.out) (fun b8=>?_);refine with_tabW cells_Right.tab4 cells_Right.bits4 (fun HT_ HW_=>?_));(generalize w24.drew=w25 at s8 HB b8 ⊢);(refine tk 0 12 (bv 1 17) HT_ HW_ b8 ?_);(refine on 1 (some 13) (bv 2 16) HT_ (fun K hK=>?_));(refine goes_ Tryz.func99 (by kernel_rfl) rfl #[.agg #[.string ((rd_T42 l0 o7).f0),.string ((rd_T42 l0 o7).f1)]] (by rfl) rfl rfl am ?_);(with_reducible refine (cells_cell_right.calls ((rd_T42 l0 o7).f0) ((rd_T42 l0 o7).f1) true _ A5.out).mono ?_);(rintro e w26 ⟨rfl,hb⟩);(refine ⟨_,rfl,?_⟩);(replace s8:=AM (blk_below (mvB s8.out) hb));(replace HB:=AM (below_step (mvW HB.out) hb));(clear hb);(refine hK.out _ _ (bc2 s8.out) (fun b8=>?_));(clear hK K);(refine nm 13 ?_);(refine pu 2 14 (bv 3 15) HT_ ?_);(refine pu 3 15 (bv 4 14) HT_ ?_);(refine pu 4 16 (bv 5 13) HT_ ?_);(refine pu 5 17 (bv 6 12) HT_ ?_);(refine pu 6 18 (bv 7 11) HT_ ?_);(refine pn 7 19 (bv 8 10) HT_ ?_);(refine pn 8 20 (bv 9 9) HT_ ?_);(refine pn 9 21 (bv 10 8) HT_ ?_);(refine pn 10 22 (bv 11 7) HT_ ?_);(refine pn 11 23 (bv 12 6) HT_ ?_);(refine pn 12 24 (bv 13 5) HT_ ?_);(refine pn 13 25 (bv 14 4) HT_ ?_);(refine pn 14 26 (bv 15 3) HT_ ?_);(refine pn 15 27 (bv 16 2) HT_ ?_);(refine pu 16 28 (bv 17 1) HT_ ?_);(refine pu 17 29 (bv 18 0) HT_ ?_);(refine done_ (done_of HT_.out (by kernel_rfl)) ?_);(try go_wp2);(go_roundg k1)
        case measure=>have:=G2.out;omega
        case rel=>exact ⟨(wrap64 (o7+1)),sd,H',⟨by have:=G2.out;omega⟩,⟨mvW HB.out⟩⟩
      ·(replace c6:=Bool.eq_false_iff.mpr c6);(subst c6);(rw [if_neg (by first|decide|simp)] at H);(obtain rfl:=Option.some.inj H);(have ac3:0≤(o7:Int):=od);(have ac4:o7 < (l0.length:Int):=od);(obtain ⟨ad114,e114,bl3,bl4⟩:=at_T42w HB R7.out o7 ac3 ac4);(cases e114);(replace ac3:=eq_true ac3);(replace ac4:=eq_true ac4);(try go_wp2_with (first|((with_reducible refine gate_dst (N:=4) rfl ?_);refine bx (N:=4) (cs:=#[.string (⟨#[]⟩:ByteArray),.string (⟨#[]⟩:ByteArray)]) (t:=42) ⟨mvW HB.out⟩ ?_;clear HB;intro D7 hg w27 hb s8 bt3 HB;have fk1:=bt3;clear hb hg;obtain ⟨iy6,iy7⟩:=bc2 s8.out;obtain ⟨iy8,iy9⟩:=bf2 s8.out)));(have n0_:Aside0 (((w27.setCell ⟨D7,0,none⟩ (.string ((rd_T42 l0 o7).f0))).setCell ⟨D7,1,none⟩ (.string ((rd_T42 l0 o7).f1))).heap[D7]? =some (.cells #[.string ((rd_T42 l0 o7).f0),.string ((rd_T42 l0 o7).f1)] 42 (0,0))):=⟨mvP s8.out⟩);(have n1_:Aside0 (Below w.heap.size w ((w27.setCell ⟨D7,0,none⟩ (.string ((rd_T42 l0 o7).f0))).setCell ⟨D7,1,none⟩ (.string ((rd_T42 l0 o7).f1)))):=⟨mvW HB.out⟩);((try clear s8));((try clear HB));(generalize ((w27.setCell ⟨D7,0,none⟩ (.string ((rd_T42 l0 o7).f0))).setCell ⟨D7,1,none⟩ (.string ((rd_T42 l0 o7).f1)))=w29 at n0_ n1_ ⊢);(have s8:=n0_);(have HB:=n1_);(clear n0_ n1_);(replace s8:=AM (blk_drew s8.out));(replace HB:=AM (below_drew1 HB.out));(refine start_ (n:=18) (S:=fun w'=>w'.cell? ⟨D7,0,none⟩=some (.string ((rd_T42 l0 o7).f0))∧w'.cell? ⟨D7,1,none⟩=some (.string ((rd_T42 l0 o7).f1))) (ds:=[]) (bm 18 0) (by kernel_rfl) rfl rfl (bc2 s8.out) (fun b8=>?_);refine with_tabW cells_Right.tab4 cells_Right.bits4 (fun HT_ HW_=>?_));(generalize w29.drew=w30 at s8 HB b8 ⊢);(refine tk 0 12 (bv 1 17) HT_ HW_ b8 ?_);(refine on 1 (some 13) (bv 2 16) HT_ (fun K hK=>?_));(refine goes_ Tryz.func99 (by kernel_rfl) rfl #[.agg #[.string ((rd_T42 l0 o7).f0),.string ((rd_T42 l0 o7).f1)]] (by rfl) rfl rfl am ?_);(with_reducible refine (cells_cell_right.calls ((rd_T42 l0 o7).f0) ((rd_T42 l0 o7).f1) false _ A5.out).mono ?_);(rintro e w31 ⟨rfl,hb⟩);(refine ⟨_,rfl,?_⟩);(replace s8:=AM (blk_below (mvB s8.out) hb));(replace HB:=AM (below_step (mvW HB.out) hb));(clear hb);(refine hK.out _ _ (bc2 s8.out) (fun b8=>?_));(clear hK K);(refine nm 13 ?_);(refine pu 2 14 (bv 3 15) HT_ ?_);(refine pu 3 15 (bv 4 14) HT_ ?_);(refine pn 4 16 (bv 5 13) HT_ ?_);(refine pn 5 17 (bv 6 12) HT_ ?_);(refine pn 6 18 (bv 7 11) HT_ ?_);(refine pn 7 19 (bv 8 10) HT_ ?_);(refine pn 8 20 (bv 9 9) HT_ ?_);(refine pn 9 21 (bv 10 8) HT_ ?_);(refine pn 10 22 (bv 11 7) HT_ ?_);(refine pn 11 23 (bv 12 6) HT_ ?_);(refine pn 12 24 (bv 13 5) HT_ ?_);(refine pn 13 25 (bv 14 4) HT_ ?_);(refine pn 14 26 (bv 15 3) HT_ ?_);(refine pn 15 27 (bv 16 2) HT_ ?_);(refine pn 16 28 (bv 17 1) HT_ ?_);(refine pu 17 29 (bv 18 0) HT_ ?_);(refine done_ (done_of HT_.out (by kernel_rfl)) ?_);(try go_wp2);(go_ret);(exact ⟨rv,mvW HB.out⟩)
     ·(rw [if_neg c4] at H);(exact absurd H (by simp))
    ·(rw [if_neg c3] at H);(exact absurd H (by simp))
   ·(rw [if_neg c2] at H);(have ac7:decide (o7 < (l0.length:Int))=false:=decide_eq_false c2);(clear c2);(obtain rfl:=Option.some.inj H);(go_wp2);(go_ret);(exact ⟨rv,mvW HB.out⟩)

/-! ### cells_Delete: function 49 -/
theorem cells_slice {w:World} {base:Nat} {ok:Nat→Prop} {v:Value} {xs:List S42} (h:Kd.R k42 42 w base ok v xs):∃ A c,v=.slice A xs.length c:=by
 obtain ⟨_,_,⟨_,ho⟩,_⟩:=h
 rcases ho with ⟨rfl,h0⟩|⟨g,cap,cur,rfl,_⟩
 ·exact ⟨none,0,by rw [h0]⟩
 ·exact ⟨_,_,rfl⟩
theorem cells_base {w:World} {base base':Nat} {ok:Nat→Prop} {v:Value} {xs:List S42} (h:Kd.R k42 42 w base ok v xs) (hb:base'≤base):Kd.R k42 42 w base' ok v xs:=by
 obtain ⟨h0,inner,⟨hl,ho⟩,hr⟩:=h
 refine ⟨h0,inner,⟨hl,?_⟩,hr.imp_ (fun p c hp=>by rw [k42_openM hp];exact k42_mkM _ _ _ _)⟩
 rcases ho with h|⟨g,cap,cur,h1,h2,h3⟩
 ·exact .inl h
 ·exact .inr ⟨g,cap,cur,h1,Nat.le_trans hb h2,h3⟩
theorem cells_Delete_filter_next (l:List S42) (p:S42→Bool) (j:Nat) (h:j < l.length):(l.take (j+1)).filter p=(l.take j).filter p++(if p (rd_T42 l (j:Int))=true then [rd_T42 l (j:Int)] else []):=by
 have e:rd_T42 l (j:Int)=l[j]:=by unfold rd_T42;simp [h]
 rw [e,List.take_add_one,List.filter_append,List.getElem?_eq_getElem h]
 cases hp:p l[j] <;> simp [hp]
set_option maxHeartbeats 4000000 in
theorem cells_Delete_kept_calls (g:Nat) (cb:Array Value) (A0:Option Addr) (c0:Nat) (l0:List S42) (p:S42→Bool) (w:World) (eg:∀ args w,(callFunc g args).run Tryz.prog w=.ok (.enter g args) w) (hsz:l0.length < 4398046511104) (hr0:Kd.C k42 w A0 l0.length l0)
  (hf:∀ (W:World) (x:S42),Below w.heap.size w W→Calls Tryz.prog g (#[.agg #[.string x.f0,.string x.f1]]++cb) W fun e w'=>e=.returned (.bool (p x))∧Below W.heap.size W w'):
  Calls Tryz.prog 89 #[.slice A0 l0.length c0,.func (.func g) #[] cb] w fun e w'=>∃ v0_:Value,e=.returned v0_∧Kd.R k42 42 w' w.heap.size (fun _=>True) v0_ (l0.filter p)∧Below w.heap.size w w':=by
 have HF:Aside0 _:=⟨hf⟩
 have HR:=AM hr0
 have HL:=AM hsz
 have hu63:=Tryz.underlying42
 clear hf hr0 hsz
 go_enter Tryz.func89,Tryz.ntmps89
 go_wp2
 go_loopg [5,10] l0.length (fun kx s5 s10 wr=>∃ (j:Nat),s10=.int .i64 j∧j≤l0.length∧l0.length - j≤kx∧Aside0 (Below w.heap.size w wr)∧Aside0 (Kd.R k42 42 wr w.heap.size (fun _=>True) s5 ((l0.take j).filter p)))
 case atStart=>exact ⟨0,rfl,Nat.zero_le _,Nat.le_refl _,⟨Below.refl _ _⟩,⟨Kd.R_nil _ _ _ _ _⟩⟩
 case round=>
  obtain ⟨j,rfl,hj,hg,HB,HO⟩:=hrel
  by_cases hlt:j < l0.length
  ·have hlt':(j:Int) < (l0.length:Int):=by omega
   obtain ⟨ad,e,hx,hy⟩:=at_T42 (Kd.C_below HR.out HB.out) (j:Int) (by omega) hlt'
   cases e
   rw [Int.toNat_natCast] at hx hy
   have hn:=AM (cells_Delete_filter_next l0 p j hlt)
   have hj1:wrap64 ((j:Int)+1)=((j+1:Nat):Int):=by have:=HL.out;unfold wrap64;omega
   have hlen:((l0.take j).filter p).length≤l0.length:=Nat.le_trans (List.length_filter_le _ _) (by rw [List.length_take];omega)
   have HN:=AM hlen
   clear hlen
   revert hx hy hn
   generalize rd_T42 l0 (j:Int)=x
   intro hx hy hn
   have HX:=AM hx
   go_wp2
   refine (HF.out _ x (below_alloc HB.out _)).mono ?_
   rintro e w1 ⟨rfl,hb1⟩
   have BK:=AM (blk_below (blk_new wr (.cells #[.string x.f0,.string x.f1] 42)) hb1)
   have I5:=AM (below_step (below_alloc HB.out _) hb1)
   have HO1:=AM (Kd.R_below (Kd.R_alloc HO.out _) hb1)
   have z0:=(blk_cell BK.out 0).trans rfl
   have z1:=(blk_cell BK.out 1).trans rfl
   clear hb1 hx hy
   cases hp:p x
   ·have hn':(l0.take (j+1)).filter p=(l0.take j).filter p:=by rw [hn.out,hp];simp
    have HM:=AM hn'
    clear hn hn' hp
    go_wp2
    go_roundg (l0.length - (j+1))
    case measure=>omega
    case rel=>exact ⟨j+1,by rw [hj1],by omega,Nat.le_refl _,I5,⟨HM.out ▸ HO1.out⟩⟩
   ·have hn':(l0.take (j+1)).filter p=(l0.take j).filter p++[x]:=by rw [hn.out,hp];simp
    have HM:=AM hn'
    clear hn hn' hp
    go_wp2_with ((with_reducible refine gate_builtin (b:=.append) (xs:=#[.tmp 17,.tmp 19]) rfl ?_);at_builtin;refine Kd.R_append k42 (w0:=w) w.heap.size rfl (.tmp 17) (.tmp 19) 26 42 (.agg #[(.string ⟨#[]⟩),(.string ⟨#[]⟩)]) 32 rfl Tryz.underlying26 info42 rfl (by decide) (by omega) u5 ((l0.take j).filter p) x [.string x.f0,.string x.f1] (fun _=>True) (fun _=>False) rfl rfl ?aP (fun _ hk=>hk.elim) ?aF ?aO ?aB ?aS ?aL ?_;(case aP=>exact k42_mkM _ _ _ x);(case aB=>exact I5.out);(case aF=>exact fun _ _=>trivial);(case aO=>exact HO1.out);(case aS=>exact below_size I5.out);(case aL=>have:=HL.out;have:=HN.out;omega);intro v2 w2 ho2 hb2 hg2 hat2;clear hg2 hat2;have HO2:=AM ho2;have HB2:=AM hb2;clear ho2 hb2)
    go_roundg (l0.length - (j+1))
    case measure=>omega
    case rel=>exact ⟨j+1,by rw [hj1],by omega,Nat.le_refl _,⟨HB2.out⟩,⟨HM.out ▸ HO2.out⟩⟩
  ·obtain rfl:j=l0.length:=by omega
   have hO:=HO.out
   rw [List.take_length] at hO
   have HO1:=AM hO
   clear hO HO
   go_wp2
   go_ret
   exact ⟨_,rfl,HO1.out,HB.out⟩
def cells_Delete.f (k:Nat) (l0:List S42) (a1:ByteArray):Option (List S42×Int):=(cells_Right.f k l0).bind fun t=>if t=true then (if l0.length < 4398046511104 then some (l0.filter (fun y=> !(y.f0.toList==a1.toList)),0) else none) else some ([],100)
theorem cells_Delete_clo_calls (bx:Nat) (x:ByteArray) (y:S42) (W:World) (hx:W.cell? ⟨bx,0,none⟩=some (.string x)):
  Calls Tryz.prog 90 (#[.agg #[.string y.f0,.string y.f1]]++#[.pointer (some ⟨bx,0,none⟩)]) W fun e w'=>e=.returned (.bool (!(y.f0.toList==x.toList)))∧Below W.heap.size W w':=by
 have hu63:=Tryz.underlying42
 have hlt:bx < W.heap.size:=World.block_lt_of_cell? W _ hx
 go_enter Tryz.func90,Tryz.ntmps90
 go_wp2
 go_ret
 exact ⟨rfl,below_alloc (Below.refl _ _) _⟩
set_option maxHeartbeats 4000000 in
theorem cells_Delete.calls (k:Nat) (A0:Option Addr) (c0:Nat) (l0:List (S42)) (a1:ByteArray) (r1:List (S42)) (r2:Int) (w:World) (hr0:Kd.C k42 w A0 l0.length l0) (hc0:l0.length≤c0) (h:cells_Delete.f k l0 a1=some (r1,r2)):
  Calls Tryz.prog 49 #[.slice A0 l0.length c0,.string a1] w fun e w'=>∃ v0_:Value,e=.returned (.tuple #[v0_,.int .i64 r2])∧Kd.R k42 42 w' w.heap.size (fun _=>True) v0_ r1∧Below w.heap.size w w':=by
 obtain ⟨t,ht,h⟩:=Option.bind_eq_some_iff.1 h
 have hB0:Below w.heap.size w (w.alloc (.cells #[.string a1] 9)):=below_alloc (Below.refl _ _) _
 have hR:=cells_Right.calls k A0 c0 l0 t _ (Kd.C_below hr0 hB0) hc0 ht
 have HB0:=AM hB0
 clear hB0
 cases t
 ·rw [if_neg (by simp)] at h
  simp only [Option.some.injEq,Prod.mk.injEq] at h
  obtain ⟨rfl,rfl⟩:=h
  go_enter Tryz.func49,Tryz.ntmps49
  go_wp2_with (go_at_call 69;refine hR.mono ?_;rintro e w1 ⟨rfl,hb⟩;have HB:=AM (below_step HB0.out hb);clear hb)
  go_ret2
  exact ⟨_,rfl,Kd.R_nil _ _ _ _ _,HB.out⟩
 ·rw [if_pos rfl] at h
  have hlen:l0.length < 4398046511104:=by
   by_cases hl:l0.length < 4398046511104
   ·exact hl
   ·rw [if_neg hl] at h;cases h
  rw [if_pos hlen] at h
  simp only [Option.some.injEq,Prod.mk.injEq] at h
  obtain ⟨rfl,rfl⟩:=h
  have eg:∀ args w,(callFunc 90 args).run Tryz.prog w=.ok (.enter 90 args) w:=enters_of Tryz.func90 (by kernel_rfl) rfl
  have cx:(w.alloc (.cells #[.string a1] 9)).cell? ⟨w.heap.size,0,none⟩=some (.string a1):=(blk_cell (blk_new w _) 0).trans rfl
  have hK:=fun (w1:World) (hb:Below (w.alloc (.cells #[.string a1] 9)).heap.size (w.alloc (.cells #[.string a1] 9)) w1)=>cells_Delete_kept_calls 90 #[.pointer (some ⟨w.heap.size,0,none⟩)] A0 c0 l0 (fun y=> !(y.f0.toList==a1.toList)) w1 eg hlen (Kd.C_below (Kd.C_below hr0 HB0.out) hb)
   (fun W y hB=>cells_Delete_clo_calls w.heap.size a1 y W (pw_cell_below hB (pw_cell_below hb cx)))
  have HK:=AM hK
  clear hK cx hr0
  go_enter Tryz.func49,Tryz.ntmps49
  go_wp2_with (first|(go_at_call 69;refine hR.mono ?_;rintro e w1 ⟨rfl,hb⟩;have HBX:=AM hb;have HB:=AM (below_step HB0.out hb);clear hb)|(go_at_call 89;refine (HK.out w1 HBX.out).mono ?_;rintro e w2 ⟨v,rfl,ho,hb⟩;have HO:=AM ho;have HB2:=AM (below_step HB.out hb);have HZ:=AM HB.out.size;clear ho hb))
  go_ret2
  refine ⟨_,rfl,?_,HB2.out⟩
  exact cells_base HO.out HZ.out

/-! ### span_bounds_over: function 128 -/
def span_bounds_over.f (a5:ByteArray) (a7:ByteArray) (a8:Bool) (a1:ByteArray):Option (Bool):=if a8=true then (some (!(Op.bytesLess a1.toList a7.toList))) else (some false)
theorem span_bounds_over.calls (a5:ByteArray) (a7:ByteArray) (a8:Bool) (a1:ByteArray) (r:Bool) (w:World) (h:span_bounds_over.f a5 a7 a8 a1=some r):
  Calls Tryz.prog 128 #[.agg #[.string a5,.string a7,.bool a8],.string a1] w fun e w'=>e=.returned (.bool r)∧Below w.heap.size w w':=by
 (have hu154:=Tryz.underlying154);(have HB:=AM (Below.refl w.heap.size w));(have H:(if a8=true then (some (!(Op.bytesLess a1.toList a7.toList))) else (some false))=some r:=h);(clear h);(by_cases c3:a8=true)
 ·(subst c3);(rw [if_pos rfl] at H);(obtain rfl:=Option.some.inj H);(go_enter Tryz.func128,Tryz.ntmps128);(go_wp2_with (first|((with_reducible refine gate_dst (N:=2) rfl ?_);refine bx (N:=2) (cs:=#[.string a5,.string a7,.bool true]) (t:=154) ⟨mvW HB.out⟩ ?_;clear HB;intro jw8 hg w4 hb cx9 fk2 HB;have jw9:=fk2;clear hb hg;obtain ⟨ak0,ak1,ap4⟩:=bc3 cx9.out;obtain ⟨ak2,ak3,ap5⟩:=bf3 cx9.out)));(go_ret);(exact ⟨rv,mvW HB.out⟩)
 ·(replace c3:=Bool.eq_false_iff.mpr c3);(subst c3);(rw [if_neg (by first|decide|simp)] at H);(obtain rfl:=Option.some.inj H);(go_enter Tryz.func128,Tryz.ntmps128);(go_wp2_with (first|((with_reducible refine gate_dst (N:=2) rfl ?_);refine bx (N:=2) (cs:=#[.string a5,.string a7,.bool false]) (t:=154) ⟨mvW HB.out⟩ ?_;clear HB;intro jw8 hg w6 hb cx9 fk2 HB;have jw9:=fk2;clear hb hg;obtain ⟨ao9,ap0,bm3⟩:=bc3 cx9.out;obtain ⟨ap1,ap2,bm4⟩:=bf3 cx9.out)));(go_ret);(exact ⟨rv,mvW HB.out⟩)

/-! ### span_bounds_has: function 113 -/
def span_bounds_has.f (a5:ByteArray) (a7:ByteArray) (a8:Bool) (a1:ByteArray):Option (Bool):=if ((Op.bytesLess a1.toList a5.toList)=true) then (some false) else ((span_bounds_over.f a5 a7 a8 a1).bind fun ee2=>(some (!ee2)))
theorem span_bounds_has.calls (a5:ByteArray) (a7:ByteArray) (a8:Bool) (a1:ByteArray) (r:Bool) (w:World) (h:span_bounds_has.f a5 a7 a8 a1=some r):
  Calls Tryz.prog 113 #[.agg #[.string a5,.string a7,.bool a8],.string a1] w fun e w'=>e=.returned (.bool r)∧Below w.heap.size w w':=by
 (have hu154:=Tryz.underlying154);(have HB:=AM (Below.refl w.heap.size w));(have H:(if ((Op.bytesLess a1.toList a5.toList)=true) then (some false) else ((span_bounds_over.f a5 a7 a8 a1).bind fun ee2=>(some (!ee2))))=some r:=h);(clear h);(by_cases c3:((Op.bytesLess a1.toList a5.toList)=true))
 ·(rw [if_pos c3] at H);(have ad6:(Op.bytesLess a1.toList a5.toList)=true:=c3);(clear c3);(obtain rfl:=Option.some.inj H);(go_enter Tryz.func113,Tryz.ntmps113);(go_wp2_with (first|((with_reducible refine gate_dst (N:=2) rfl ?_);refine bx (N:=2) (cs:=#[.string a5,.string a7,.bool a8]) (t:=154) ⟨mvW HB.out⟩ ?_;clear HB;intro jx0 hg w4 hb bt4 fk3 HB;have jx1:=fk3;clear hb hg;obtain ⟨ak0,ak1,ap4⟩:=bc3 bt4.out;obtain ⟨ak2,ak3,ap5⟩:=bf3 bt4.out)));(go_ret);(exact ⟨rv,mvW HB.out⟩)
 ·(rw [if_neg c3] at H);(have ad6:(Op.bytesLess a1.toList a5.toList)=false:=by simpa using c3);(clear c3);(replace H:=Option.bind_eq_some_iff.mp H);(obtain ⟨ee2,A60,H⟩:=H);(have A6:=AM A60);(clear A60);(obtain rfl:=Option.some.inj H);(go_enter Tryz.func113,Tryz.ntmps113);(go_wp2_with (first|((with_reducible refine gate_dst (N:=2) rfl ?_);refine bx (N:=2) (cs:=#[.string a5,.string a7,.bool a8]) (t:=154) ⟨mvW HB.out⟩ ?_;clear HB;intro jx0 hg w7 hb bt4 fk3 HB;have jx1:=fk3;clear hb hg;obtain ⟨fi4,fi5,oz9⟩:=bc3 bt4.out;obtain ⟨fi6,fi7,pa0⟩:=bf3 bt4.out)|(go_at_call 128;(with_reducible refine (span_bounds_over.calls a5 a7 a8 a1 ee2 _ A6.out).mono ?_);rintro e w9 ⟨rfl,hb⟩;replace bt4:=AM (blk_below (mvB bt4.out) hb);replace HB:=AM (below_step (mvW HB.out) hb);(try clear hb);(try clear hb2);(try clear hk);(try clear hi))));(go_ret);(exact ⟨rv,mvW HB.out⟩)

/-! ### span_Has: function 101 -/
def span_Has.f (k:Nat) (a5:ByteArray) (a7:ByteArray) (a8:Bool) (a1:ByteArray):Option (Bool):=(span_Right.f k a5 a7 a8).bind fun ee3=>(if ee3=true then ((span_bounds_has.f a5 a7 a8 a1).bind fun ee4=>(some ee4)) else (some false))
theorem span_Has.calls (k:Nat) (a5:ByteArray) (a7:ByteArray) (a8:Bool) (a1:ByteArray) (r:Bool) (w:World) (h:span_Has.f k a5 a7 a8 a1=some r):
  Calls Tryz.prog 101 #[.agg #[.string a5,.string a7,.bool a8],.string a1] w fun e w'=>e=.returned (.bool r)∧Below w.heap.size w w':=by
 (have hu50:=Tryz.underlying50);(have HB:=AM (Below.refl w.heap.size w));(have H:((span_Right.f k a5 a7 a8).bind fun ee3=>(if ee3=true then ((span_bounds_has.f a5 a7 a8 a1).bind fun ee4=>(some ee4)) else (some false)))=some r:=h);(clear h);(replace H:=Option.bind_eq_some_iff.mp H);(obtain ⟨ee3,A30,H⟩:=H);(have A3:=AM A30);(clear A30);(by_cases c4:ee3=true)
 ·(subst c4);(rw [if_pos rfl] at H);(replace H:=Option.bind_eq_some_iff.mp H);(obtain ⟨ee4,A50,H⟩:=H);(have A5:=AM A50);(clear A50);(obtain rfl:=Option.some.inj H);(go_enter Tryz.func101,Tryz.ntmps101);(go_wp2_with (first|((with_reducible refine gate_dst (N:=2) rfl ?_);refine bx (N:=2) (cs:=#[.string a5,.string a7,.bool a8]) (t:=50) ⟨mvW HB.out⟩ ?_;clear HB;intro jx2 hg w6 hb ai2 fk4 HB;have jx3:=fk4;clear hb hg;obtain ⟨ao9,ap0,bm3⟩:=bc3 ai2.out;obtain ⟨ap1,ap2,bm4⟩:=bf3 ai2.out)|((with_reducible refine gate_callee (f:=64) rfl ?_);refine goesL_ (some 6) rfl rfl Tryz.func64 (by kernel_rfl) rfl #[.agg #[.string a5,.string a7,.bool a8]] rfl am ?_;(with_reducible refine (span_Right.calls k a5 a7 a8 true _ A3.out).mono ?_);rintro e w8 ⟨rfl,hb⟩;refine ⟨_,rfl,?_⟩;replace ai2:=AM (blk_below (mvB ai2.out) hb);replace HB:=AM (below_step (mvW HB.out) hb);clear hb;obtain ⟨aj3,aj4,bu6⟩:=bc3 ai2.out;obtain ⟨aj5,aj6,bu7⟩:=bf3 ai2.out)|(go_at_call 113;(with_reducible refine (span_bounds_has.calls a5 a7 a8 a1 ee4 _ A5.out).mono ?_);rintro e w10 ⟨rfl,hb⟩;replace ai2:=AM (blk_below (mvB ai2.out) hb);replace HB:=AM (below_step (mvW HB.out) hb);(try clear hb);(try clear hb2);(try clear hk);(try clear hi))));(go_ret);(exact ⟨rv,mvW HB.out⟩)
 ·(replace c4:=Bool.eq_false_iff.mpr c4);(subst c4);(rw [if_neg (by first|decide|simp)] at H);(obtain rfl:=Option.some.inj H);(go_enter Tryz.func101,Tryz.ntmps101);(go_wp2_with (first|((with_reducible refine gate_dst (N:=2) rfl ?_);refine bx (N:=2) (cs:=#[.string a5,.string a7,.bool a8]) (t:=50) ⟨mvW HB.out⟩ ?_;clear HB;intro jx2 hg w11 hb ai2 fk4 HB;have jx3:=fk4;clear hb hg;obtain ⟨ar4,ar5,fz0⟩:=bc3 ai2.out;obtain ⟨ar6,ar7,fz1⟩:=bf3 ai2.out)|((with_reducible refine gate_callee (f:=64) rfl ?_);refine goesL_ (some 6) rfl rfl Tryz.func64 (by kernel_rfl) rfl #[.agg #[.string a5,.string a7,.bool a8]] rfl am ?_;(with_reducible refine (span_Right.calls k a5 a7 a8 false _ A3.out).mono ?_);rintro e w13 ⟨rfl,hb⟩;refine ⟨_,rfl,?_⟩;replace ai2:=AM (blk_below (mvB ai2.out) hb);replace HB:=AM (below_step (mvW HB.out) hb);(try clear hb);(try clear hb2);(try clear hk);(try clear hi))));(go_ret);(exact ⟨rv,mvW HB.out⟩)

/-! ### cells_Part: function 70 -/
/-- Does a range (its bounds being right) have a key? -/
def inside (a b:ByteArray) (e:Bool) (key:ByteArray):Bool:= !Op.bytesLess key.toList a.toList && !(e && !Op.bytesLess key.toList b.toList)
theorem has_inside (k:Nat) (a b:ByteArray) (e:Bool) (key:ByteArray) (t:Bool) (h:span_Right.f k a b e=some t):span_Has.f k a b e key=some (t && inside a b e key):=by
 unfold span_Has.f span_bounds_has.f span_bounds_over.f inside
 rw [h]
 cases t
 ·rfl
 ·cases h1:Op.bytesLess key.toList a.toList <;> cases e <;> simp [h1]
def cells_Part.f (k:Nat) (l0:List S42) (d3:ByteArray) (d4:ByteArray) (d7:Bool):Option (List S42):=(cells_Right.f k l0).bind fun t=>if t=true then ((span_Right.f k d3 d4 d7).bind fun s=>if l0.length < 4398046511104 then some (l0.filter (fun y=>s && inside d3 d4 d7 y.f0)) else none) else some []
set_option maxHeartbeats 4000000 in
theorem cells_Part_clo_calls (k bx:Nat) (a b:ByteArray) (e:Bool) (t:Bool) (y:S42) (W:World) (ht:span_Right.f k a b e=some t) (h0:W.cell? ⟨bx,0,none⟩=some (.string a)) (h1:W.cell? ⟨bx,1,none⟩=some (.string b)) (h2:W.cell? ⟨bx,2,none⟩=some (.bool e)):
  Calls Tryz.prog 100 (#[.agg #[.string y.f0,.string y.f1]]++#[.pointer (some ⟨bx,0,none⟩)]) W fun e_ w'=>e_=.returned (.bool (t && inside a b e y.f0))∧Below W.heap.size W w':=by
 have hu:=Tryz.underlying42
 have hu2:=Tryz.underlying50
 have hlt:bx < W.heap.size:=World.block_lt_of_cell? W _ h0
 have hC:=span_Has.calls k a b e y.f0 _ (W.alloc (.cells #[.string y.f0,.string y.f1] 42)) (has_inside k a b e y.f0 t ht)
 have HB:=AM (below_alloc (Below.refl W.heap.size W) (.cells #[.string y.f0,.string y.f1] 42))
 generalize (t && inside a b e y.f0)=q at hC ⊢
 go_enter Tryz.func100,Tryz.ntmps100
 go_wp2_with (go_at_call 101;refine hC.mono ?_;rintro e_ w1 ⟨rfl,hb⟩;have I5:=AM (below_step HB.out hb);clear hb)
 go_ret
 exact ⟨rfl,I5.out⟩
set_option maxHeartbeats 4000000 in
theorem cells_Part.calls (k:Nat) (A0:Option Addr) (c0:Nat) (l0:List (S42)) (d3:ByteArray) (d4:ByteArray) (d7:Bool) (r:List (S42)) (w:World) (hr0:Kd.C k42 w A0 l0.length l0) (hc0:l0.length≤c0) (h:cells_Part.f k l0 d3 d4 d7=some r):
  Calls Tryz.prog 70 #[.slice A0 l0.length c0,.agg #[.string d3,.string d4,.bool d7]] w fun e w'=>∃ v0_:Value,e=.returned (v0_)∧Kd.R k42 42 w' w.heap.size (fun _=>True) v0_ r∧Below w.heap.size w w':=by
 obtain ⟨t,ht,h⟩:=Option.bind_eq_some_iff.1 h
 have hu2:=Tryz.underlying50
 have hB0:Below w.heap.size w (w.alloc (.cells #[.string d3,.string d4,.bool d7] 50)):=below_alloc (Below.refl _ _) _
 have hR:=cells_Right.calls k A0 c0 l0 t _ (Kd.C_below hr0 hB0) hc0 ht
 have HB0:=AM hB0
 clear hB0
 cases t
 ·rw [if_neg (by simp)] at h
  obtain rfl:=Option.some.inj h
  go_enter Tryz.func70,Tryz.ntmps70
  go_wp2_with (go_at_call 69;refine hR.mono ?_;rintro e w1 ⟨rfl,hb⟩;have HB:=AM (below_step HB0.out hb);clear hb)
  go_ret
  exact ⟨_,rfl,Kd.R_nil _ _ _ _ _,HB.out⟩
 ·rw [if_pos rfl] at h
  obtain ⟨s,hs,h⟩:=Option.bind_eq_some_iff.1 h
  have hlen:l0.length < 4398046511104:=by
   by_cases hl:l0.length < 4398046511104
   ·exact hl
   ·rw [if_neg hl] at h;cases h
  rw [if_pos hlen] at h
  obtain rfl:=Option.some.inj h
  have eg:∀ args w,(callFunc 100 args).run Tryz.prog w=.ok (.enter 100 args) w:=enters_of Tryz.func100 (by kernel_rfl) rfl
  have c0_:(w.alloc (.cells #[.string d3,.string d4,.bool d7] 50)).cell? ⟨w.heap.size,0,none⟩=some (.string d3):=(blk_cell (blk_new w _) 0).trans rfl
  have c1_:(w.alloc (.cells #[.string d3,.string d4,.bool d7] 50)).cell? ⟨w.heap.size,1,none⟩=some (.string d4):=(blk_cell (blk_new w _) 1).trans rfl
  have c2_:(w.alloc (.cells #[.string d3,.string d4,.bool d7] 50)).cell? ⟨w.heap.size,2,none⟩=some (.bool d7):=(blk_cell (blk_new w _) 2).trans rfl
  have hK:=fun (w1:World) (hb:Below (w.alloc (.cells #[.string d3,.string d4,.bool d7] 50)).heap.size (w.alloc (.cells #[.string d3,.string d4,.bool d7] 50)) w1)=>cells_Delete_kept_calls 100 #[.pointer (some ⟨w.heap.size,0,none⟩)] A0 c0 l0 (fun y=>s && inside d3 d4 d7 y.f0) w1 eg hlen (Kd.C_below (Kd.C_below hr0 HB0.out) hb)
   (fun W y hB=>cells_Part_clo_calls k w.heap.size d3 d4 d7 s y W hs (pw_cell_below hB (pw_cell_below hb c0_)) (pw_cell_below hB (pw_cell_below hb c1_)) (pw_cell_below hB (pw_cell_below hb c2_)))
  have HK:=AM hK
  clear hK c0_ c1_ c2_ hr0
  go_enter Tryz.func70,Tryz.ntmps70
  go_wp2_with (first|(go_at_call 69;refine hR.mono ?_;rintro e w1 ⟨rfl,hb⟩;have HBX:=AM hb;have HB:=AM (below_step HB0.out hb);clear hb)|(go_at_call 89;refine (HK.out w1 HBX.out).mono ?_;rintro e w2 ⟨v,rfl,ho,hb⟩;have HO:=AM ho;have HB2:=AM (below_step HB.out hb);have HZ:=AM HB.out.size;clear ho hb))
  go_ret
  exact ⟨_,rfl,cells_base HO.out HZ.out,HB2.out⟩

/-! ### page_leaf: function 72 -/
def page_leaf.l0:Nat→List (S42)→Int→Int→Option (Bool)
 |0,_,_,_=>none
 |k+1,x6,x7,x8=>if x8 < x7 then (if 0≤x8 then (if x8 < (x6.length:Int) then (if (((rd_T42 x6 x8).f0).size:Int) > 512 then (some false) else (page_leaf.l0 k x6 x7 (wrap64 (x8+1)))) else (none)) else (none)) else (some true)
def page_leaf.f (k:Nat) (a5:Int) (a7:Int) (a8:Int) (b7:ByteArray) (b6:ByteArray) (b9:Bool) (d0:Int) (b5:Int) (b0:List Int) (a6:List (S42)):Option (Bool):=page_leaf.l0 k a6 (a6.length:Int) 0
theorem page_leaf.calls (k:Nat) (a5:Int) (a7:Int) (a8:Int) (b7:ByteArray) (b6:ByteArray) (b9:Bool) (d0:Int) (b5:Int) (i3:Option Addr) (i4:Nat) (b0:List Int) (i7:Option Addr) (i5:Nat) (a6:List (S42)) (r:Bool) (w:World) (y3:Kd.C (Kd.int .u64) w i3 b0.length b0) (B5:b0.length≤i4) (t8:Kd.C k42 w i7 a6.length a6) (u4:a6.length≤i5) (h:page_leaf.f k a5 a7 a8 b7 b6 b9 d0 b5 b0 a6=some r):
  Calls Tryz.prog 72 #[.agg #[.int .u64 a5,.int .u64 a7,.int .u8 a8,.string b7,.string b6,.bool b9,.int .u64 d0,.int .u64 b5,.slice i3 b0.length i4,.slice i7 a6.length i5]] w fun e w'=>e=.returned (.bool r)∧Below w.heap.size w w':=by
 (have hu28:=Tryz.underlying28);(have hu42:=Tryz.underlying42);(have n5:=AM y3);(have n6:=AM B5);(clear y3 B5);(have m9:=AM t8);(have n9:=AM u4);(clear t8 u4);(have HB:=AM (Below.refl w.heap.size w));(have H:(page_leaf.l0 k a6 (a6.length:Int) 0)=some r:=h);(clear h);(have H':=AM H);(clear H);(go_enter Tryz.func72,Tryz.ntmps72);(go_wp2_with (first|((with_reducible refine gate_dst (N:=1) rfl ?_);refine bx (N:=1) (cs:=#[.int .u64 a5,.int .u64 a7,.int .u8 a8,.string b7,.string b6,.bool b9,.int .u64 d0,.int .u64 b5,.slice i3 b0.length i4,.slice i7 a6.length i5]) (t:=28) ⟨mvW HB.out⟩ ?_;clear HB;intro jx4 hg w2 hb ai3 jx5 HB;have oh4:=jx5;clear hb hg;obtain ⟨au7,au8,br1,br2,br3,br4,br5,br6,br7,br8⟩:=bc10 ai3.out;obtain ⟨au9,av0,br9,bs0,bs1,bs2,bs3,bs4,bs5,bs6⟩:=bf10 ai3.out)));(go_loopg [8] k (fun kq v8 w'=>∃ (D8:Int),v8=.int .i64 D8∧Aside0 (page_leaf.l0 kq a6 (a6.length:Int) D8=some r)∧Aside0 (kq≤k)∧Aside0 (w'.heap[jx4]? =some (.cells #[.int .u64 a5,.int .u64 a7,.int .u8 a8,.string b7,.string b6,.bool b9,.int .u64 d0,.int .u64 b5,(.slice i3 b0.length i4),(.slice i7 a6.length i5)] 28 (0,0)))∧Aside0 (Below w.heap.size w w')))
 case atStart=>exact ⟨(0),sd,H',⟨Nat.le_refl _⟩,⟨mvB ai3.out⟩,⟨mvW HB.out⟩⟩
 case round=>
  (clear H');(try clear p2);(try clear au7 au8 br1 br2 br3 br4 br5 br6 br7 br8);(try clear au9 av0 br9 bs0 bs1 bs2 bs3 bs4 bs5 bs6);(obtain ⟨D8,rfl,HA,G2,ai3,HB⟩:=hrel)
  cases gk with
  |zero=>exact absurd HA.out (by simp [page_leaf.l0])
  |succ k1=>
   (have H:=HA.out);(clear HA);(simp only [page_leaf.l0] at H);(by_cases c4:D8 < (a6.length:Int))
   ·(rw [if_pos c4] at H);(have D1:=decide_eq_true c4);(clear c4);(by_cases c5:0≤D8)
    ·(rw [if_pos c5] at H);(have au2:=decide_eq_true c5);(clear c5);(by_cases c6:D8 < (a6.length:Int))
     ·(rw [if_pos c6] at H);(have J4:=decide_eq_true c6);(clear c6);(by_cases c7:(((rd_T42 a6 D8).f0).size:Int) > 512)
      ·(rw [if_pos c7] at H);(have ai6:decide (512 < (((rd_T42 a6 D8).f0).size:Int))=true:=decide_eq_true c7);(have cl7:decide (512 < ((rd_T42 a6 D8).f0).size)=true:=decide_eq_true (by omega));(clear c7);(obtain rfl:=Option.some.inj H);(have co5:0≤(D8:Int):=od);(have co6:D8 < (a6.length:Int):=od);(obtain ⟨ad125,e125,hr2,hr3⟩:=at_T42w HB m9.out D8 co5 co6);(cases e125);(replace co5:=eq_true co5);(replace co6:=eq_true co6);(go_wp2_with (first|((with_reducible refine gate_dst (N:=4) rfl ?_);refine bx (N:=4) (cs:=#[.string (⟨#[]⟩:ByteArray),.string (⟨#[]⟩:ByteArray)]) (t:=42) ⟨mvW HB.out⟩ ?_;clear HB;intro jx6 hg w8 hb cy0 fk5 HB;have jx7:=fk5;have bz2:=nbl hg ai3;have bz3:=nbg hg ai3;replace ai3:=AM (blk_below (mvB ai3.out) hb);clear hb hg;have pa1:=bz3.out;have hnc9:=bz2.out;obtain ⟨cb7,cb8⟩:=bc2 cy0.out;obtain ⟨cb9,cc0⟩:=bf2 cy0.out)));(go_ret);(exact ⟨rv,mvW HB.out⟩)
      ·(rw [if_neg c7] at H);(have ai6:decide (512 < (((rd_T42 a6 D8).f0).size:Int))=false:=decide_eq_false c7);(have cl7:decide (512 < ((rd_T42 a6 D8).f0).size)=false:=decide_eq_false (by omega));(clear c7);(have H':=AM H);(clear H);(have co5:0≤(D8:Int):=od);(have co6:D8 < (a6.length:Int):=od);(obtain ⟨ad125,e125,hr2,hr3⟩:=at_T42w HB m9.out D8 co5 co6);(cases e125);(replace co5:=eq_true co5);(replace co6:=eq_true co6);(go_wp2_with (first|((with_reducible refine gate_dst (N:=4) rfl ?_);refine bx (N:=4) (cs:=#[.string (⟨#[]⟩:ByteArray),.string (⟨#[]⟩:ByteArray)]) (t:=42) ⟨mvW HB.out⟩ ?_;clear HB;intro jx6 hg w11 hb cy0 fk5 HB;have jx7:=fk5;have bz2:=nbl hg ai3;have bz3:=nbg hg ai3;replace ai3:=AM (blk_below (mvB ai3.out) hb);clear hb hg;have jv6:=bz3.out;have hnc12:=bz2.out;obtain ⟨an0,an1⟩:=bc2 cy0.out;obtain ⟨an2,an3⟩:=bf2 cy0.out)));(go_roundg k1)
       case measure=>have:=G2.out;omega
       case rel=>exact ⟨(wrap64 (D8+1)),sd,H',⟨by have:=G2.out;omega⟩,⟨mvB ai3.out⟩,⟨mvW HB.out⟩⟩
     ·(rw [if_neg c6] at H);(exact absurd H (by simp))
    ·(rw [if_neg c5] at H);(exact absurd H (by simp))
   ·(rw [if_neg c4] at H);(have D1:decide (D8 < (a6.length:Int))=false:=decide_eq_false c4);(clear c4);(obtain rfl:=Option.some.inj H);(go_wp2);(go_ret);(exact ⟨rv,mvW HB.out⟩)

/-! ### octet_wide: function 96 -/
def octet_wide.l0:Nat→Int→Int→Int→Option (Bool)
 |0,_,_,_=>none
 |k+1,x0,x1,x5=>if x5≤x1 then (if x5=x0 then (some true) else (octet_wide.l0 k x0 x1 (wrap64 (x5 * 2)))) else (some false)
def octet_wide.f (k:Nat) (a0:Int) (a1:Int):Option (Bool):=octet_wide.l0 k a0 a1 1
theorem octet_wide.mono_l:∀ k,(∀ y0 y1 y2,LeO (octet_wide.l0 k y0 y1 y2) (octet_wide.l0 (k+1) y0 y1 y2))
 |0=>fun _ _ _ r h=>by simp [octet_wide.l0] at h
 |k+1=>by
  have ih0:=octet_wide.mono_l k
  ·intro y0 y1 y2
   unfold octet_wide.l0
   repeat' first
   |(with_reducible exact ih0 _ _ _)
   |(with_reducible exact LeO.refl _)
   |(with_reducible exact LeO.none _)
   |(with_reducible refine LeO.ite ?_ ?_)
   |(with_reducible refine LeO.bind ?_ (fun _=>?_))
   |exact ih0 _ _ _
   |exact LeO.none _
   |refine LeO.ite ?_ ?_
   |refine LeO.bind ?_ (fun _=>?_)
theorem octet_wide.mono:∀ a0 a1 k,LeO (octet_wide.f k a0 a1) (octet_wide.f (k+1) a0 a1):=by
 intro a0 a1 k
 have ih0:=octet_wide.mono_l k
 unfold octet_wide.f
 repeat' first
   |(with_reducible exact ih0 _ _ _)
   |(with_reducible exact LeO.refl _)
   |(with_reducible exact LeO.none _)
   |(with_reducible refine LeO.ite ?_ ?_)
   |(with_reducible refine LeO.bind ?_ (fun _=>?_))
   |exact ih0 _ _ _
   |exact LeO.none _
   |refine LeO.ite ?_ ?_
   |refine LeO.bind ?_ (fun _=>?_)
theorem octet_wide.calls (k:Nat) (a0:Int) (a1:Int) (r:Bool) (w:World) (h:octet_wide.f k a0 a1=some r):
  Calls Tryz.prog 96 #[.int .i64 a0,.int .i64 a1] w fun e w'=>e=.returned (.bool r)∧Drawn0 w w':=by
 (have H:(octet_wide.l0 k a0 a1 1)=some r:=h);(clear h);(have H':=AM H);(clear H);(go_enter Tryz.func96,Tryz.ntmps96);(go_wp2);(go_loopg [5] k (fun kq v5 w'=>∃ (E6:Int),v5=.int .i64 E6∧Aside0 (octet_wide.l0 kq a0 a1 E6=some r)∧Aside0 (kq≤k)∧Drawn0 w w'))
 case atStart=>exact ⟨(1),sd,H',⟨Nat.le_refl _⟩,by repeat (first|exact Drawn0.refl _ |apply Drawn0.step)⟩
 case round=>
  (clear H');(try clear p2);(obtain ⟨E6,rfl,HA,G2,⟨m1,rfl⟩⟩:=hrel)
  cases gk with
  |zero=>exact absurd HA.out (by simp [octet_wide.l0])
  |succ k1=>
   (have H:=HA.out);(clear HA);(simp only [octet_wide.l0] at H);(by_cases c3:E6≤a1)
   ·(rw [if_pos c3] at H);(have ad6:=decide_eq_true c3);(clear c3);(by_cases c4:E6=a0)
    ·(rw [if_pos c4] at H);(have D1:(E6==a0)=true:=beq_iff_eq.mpr c4);(have an6:(E6 != a0)=false:=bne_eq_false_iff_eq.mpr c4);(clear c4);(obtain rfl:=Option.some.inj H);(go_wp2);(go_ret);(exact ⟨by first|rfl|(simp;done)|(simp [*];done),by repeat (first|exact Drawn0.refl _ |apply Drawn0.step)⟩)
    ·(rw [if_neg c4] at H);(have D1:(E6==a0)=false:=beq_eq_false_iff_ne.mpr c4);(have an6:(E6 != a0)=true:=bne_iff_ne.mpr c4);(have H':=AM H);(clear H);(go_wp2);(go_roundg k1)
     case measure=>have:=G2.out;omega
     case rel=>exact ⟨(wrap64 (E6 * 2)),sd,H',⟨by have:=G2.out;omega⟩,by repeat (first|exact Drawn0.refl _ |apply Drawn0.step)⟩
   ·(rw [if_neg c3] at H);(have ad6:decide (E6≤a1)=false:=decide_eq_false c3);(clear c3);(obtain rfl:=Option.some.inj H);(go_wp2);(go_ret);(exact ⟨by first|rfl|(simp;done)|(simp [*];done),by repeat (first|exact Drawn0.refl _ |apply Drawn0.step)⟩)

/-! ### octet_grown: function 97 -/
def octet_grown.f (l0:List Int) (a1:Int):Option (List Int):=if 0≤a1 then (if l0.length+a1.toNat < 140737488355328 then some (l0++List.replicate a1.toNat 0) else none) else none
set_option maxHeartbeats 4000000 in
theorem octet_grown.calls (A0:Option Addr) (c0:Nat) (l0:List Int) (a1:Int) (r:List Int) (w:World) (hr0:Kd.C (Kd.int .u8) w A0 l0.length l0) (hc0:l0.length≤c0) (h:octet_grown.f l0 a1=some r):
  Calls Tryz.prog 97 #[.slice A0 l0.length c0,.int .i64 a1] w fun e w'=>∃ v0_:Value,e=.returned (v0_)∧Kd.R (Kd.int .u8) 5 w' w.heap.size (fun _=>True) v0_ r∧Below w.heap.size w w':=by
 unfold octet_grown.f at h
 by_cases h0:0≤a1
 ·rw [if_pos h0] at h
  by_cases hl:l0.length+a1.toNat < 140737488355328
  ·rw [if_pos hl] at h
   obtain rfl:=Option.some.inj h
   clear h
   have H0:=AM h0
   have HL:=AM hl
   have HR:=AM hr0
   clear h0 hl hr0
   have hw:wrap64 ((l0.length:Int)+a1)=(l0.length:Int)+a1:=by have:=HL.out;have:=H0.out;unfold wrap64;omega
   go_enter Tryz.func97,Tryz.ntmps97
   go_wp2_with (first|((with_reducible refine gate_dst (N:=10) rfl ?_);refine Kd.R_make (Kd.int .u8) (w0:=w) w.heap.size 5 rfl (N:=10) rfl 109 _ _ rfl (wrap64 ((l0.length:Int)+a1)) rfl rfl Tryz.underlying109 (.int .u8 0) 1 info5 rfl (by decide) (by omega) 0 (ok:=fun _=>True) (okp:=fun _=>True) rfl (fun _ h=>h) trivial (by rw [hw];have:=H0.out;omega) (by rw [hw];have:=HL.out;have:=H0.out;omega) (Below.refl _ _) (Nat.le_refl _) ?_;rw [hw];intro v5 w5 ho5 hb5 hg_ hnew_;clear hg_ hnew_;have HO:=AM ho5;have HB:=AM hb5;clear ho5 hb5)|((with_reducible refine gate_dst (N:=13) rfl ?_);refine GpMore.R_copy (fun x:Int=>.int .u8 x) (h1:=fun _=>rfl) (w0:=w) w.heap.size rfl (.tmp 11) (.tmp 12) 109 109 5 rfl Tryz.underlying109 (by kernel_rfl) (ok:=fun _=>True) v5 (List.replicate ((l0.length:Int)+a1).toNat (0:Int)) l0 A0 l0.length c0 rfl rfl ?aO ?aR ?aL HB.out ?_;(case aO=>exact HO.out);(case aR=>exact Kd.C_below HR.out HB.out);(case aL=>rw [List.length_replicate];have:=H0.out;omega);intro w6 ho6 hb6;have HO6:=AM ho6;have HB6:=AM hb6;clear ho6 hb6))
   go_ret
   refine ⟨_,rfl,?_,HB6.out⟩
   have e1:(l0++(List.replicate ((l0.length:Int)+a1).toNat (0:Int)).drop l0.length)=l0++List.replicate a1.toNat 0:=by
    have:=H0.out
    rw [List.drop_replicate];congr 2;omega
   rw [← e1];exact HO6.out
  ·rw [if_neg hl] at h;cases h
 ·rw [if_neg h0] at h;cases h

/-! ### octet_lay: function 98 -/
def octet_lay.l0:Nat→List Int→Int→Int→Int→Option (List Int)
 |0,_,_,_,_=>none
 |k+1,x0,x1,x7,x8=>if x8 < x7 then (if 0≤(wrap64 (8 * x8)) then (if 0≤(wrap64 ((wrap64 ((x0.length:Int) - 1)) - x8)) then (if (wrap64 ((wrap64 ((x0.length:Int) - 1)) - x8)) < (x0.length:Int) then (octet_lay.l0 k (x0.set ((wrap64 ((wrap64 ((x0.length:Int) - 1)) - x8)):Int).toNat ((shr .u64 x1 (wrap64 (8 * x8))) % 256)) x1 x7 (wrap64 (x8+1))) else (none)) else (none)) else (none)) else (some x0)
def octet_lay.f (k:Nat) (l0:List Int) (a1:Int) (a2:Int):Option (List Int):=octet_lay.l0 k l0 a1 a2 0
theorem octet_lay.calls (k:Nat) (P0_:Nat→Prop) (u9000_:Value) (l0:List Int) (a1:Int) (a2:Int) (r:List Int) (w0 w:World) (hB:Below w0.heap.size w0 w) (m5:Kd.R (Kd.int .u8) 5 w w0.heap.size P0_ u9000_ l0) (h:octet_lay.f k l0 a1 a2=some r):
  Calls Tryz.prog 98 #[u9000_,.int .u64 a1,.int .i64 a2] w fun e w'=>e=.returned (.tuple #[])∧Kd.R (Kd.int .u8) 5 w' w0.heap.size (fun k_=>(P0_ k_∨w.heap.size≤k_)) u9000_ r∧Below w0.heap.size w0 w'∧Kept w w' (fun k_=>P0_ k_):=by
 (have HO0:=AM (show Kd.R (Kd.int .u8) 5 w w0.heap.size (fun k_=>(P0_ k_∨w.heap.size≤k_)) u9000_ l0 from Kd.R_mono m5 (fun k_ hk=>(.inl hk))));(have HK:=AM (Kept.refl w (fun k_=>P0_ k_)));(have HW0:=AM hB.size);(have HB:=AM hB);(clear hB);(have H:(octet_lay.l0 k l0 a1 a2 0)=some r:=h);(clear h);(have H':=AM H);(clear H);(go_enter Tryz.func98,Tryz.ntmps98);(go_wp2);(go_loopg [8] k (fun kq v8 w'=>∃ (bt5:List Int) (D8:Int),v8=.int .i64 D8∧Aside0 (octet_lay.l0 kq bt5 a1 a2 D8=some r)∧Aside0 (kq≤k)∧Aside0 (Kd.R (Kd.int .u8) 5 w' w0.heap.size (fun k_=>(P0_ k_∨w.heap.size≤k_)) u9000_ bt5)∧Aside0 (Kept w w' (fun k_=>P0_ k_))∧Aside0 (Below w0.heap.size w0 w')))
 case atStart=>exact ⟨(l0),(0),sd,H',⟨Nat.le_refl _⟩,⟨mvR HO0.out⟩,⟨by repeat (first|(with_reducible first|exact HK.out|apply Kept.alloc|apply Kept.drewN|apply Kept.drew)|exact HK.out)⟩,⟨mvW HB.out⟩⟩
 case round=>
  (clear H');(try clear p2);(obtain ⟨bt5,D8,rfl,HA,G2,HO_0,HK,HB⟩:=hrel)
  cases gk with
  |zero=>exact absurd HA.out (by simp [octet_lay.l0])
  |succ k1=>
   (have H:=HA.out);(clear HA);(simp only [octet_lay.l0] at H);(by_cases c4:D8 < a2)
   ·(rw [if_pos c4] at H);(have D1:=decide_eq_true c4);(clear c4);(obtain ⟨ji5,hji5⟩:∃ j_:Int,(wrap64 (8 * D8))=j_:=⟨_,rfl⟩);(first|rw [hji5] at H|simp only [hji5] at H);(have hji5w:(IntKind.i64.wrap (8 * D8))=ji5:=(i64_w _).trans hji5);(by_cases c6:0≤(ji5))
    ·(rw [if_pos c6] at H);(have J4:=eq_true c6);(have au3:=decide_eq_true c6);(clear c6);(obtain ⟨ji7,hji7⟩:∃ j_:Int,(shr .u64 a1 (ji5))=j_:=⟨_,rfl⟩);(first|rw [hji7] at H|simp only [hji7] at H);(have hji7_:(a1 / 2 ^ min (ji5).toNat 64)=ji7:=hji7);(have hji7z:(ji5)≤64→(a1 / 2 ^ (ji5).toNat)=ji7:=shr_small hji7);(obtain ⟨ji8,hji8⟩:∃ j_:Int,(wrap64 ((wrap64 ((bt5.length:Int) - 1)) - D8))=j_:=⟨_,rfl⟩);(first|rw [hji8] at H|simp only [hji8] at H);(have hji8w:(IntKind.i64.wrap ((wrap64 ((bt5.length:Int) - 1)) - D8))=ji8:=(i64_w _).trans hji8);(by_cases c9:0≤(ji8))
     ·(rw [if_pos c9] at H);(have az1:=decide_eq_true c9);(clear c9);(by_cases F3:(ji8) < (bt5.length:Int))
      ·(rw [if_pos F3] at H);(have U3:=decide_eq_true F3);(clear F3);(obtain ⟨y127,hy127⟩:∃ y_:List Int,y_=(bt5.set ((ji8):Int).toNat ((ji7) % 256)):=⟨_,rfl⟩);(replace H:(octet_lay.l0 k1 y127 a1 a2 (wrap64 (D8+1)))=some r:=by first|(rw [hy127];with_reducible exact H)|(have H2_:=(Option.bind_some _ _).symm.trans H;rw [hy127];with_reducible exact H2_)|(have H2_:=(Option.bind_some _ _).symm.trans H;with_reducible exact H2_)|with_reducible exact H|(rw [hy127];exact H)|exact H);(have Ny127:=AM hy127);(clear hy127);(have H':=AM H);(clear H);(obtain ⟨ht8,fs3,eo12⟩:=Kd.R_slice HO_0.out);(subst eo12);(have p11:0≤((ji8):Int):=od);(have q11:((ji8):Int) < ((bt5.length:Int):Int):=od);(obtain ⟨go11,pa2,eo11,ii6,gl11,cl11,ii7⟩:=Kd.R_form HO_0.out (by omega));((first|cases eo11|(injection eo11 with ea_ en_ ec_;(first|subst ea_|(injection ea_ with ea_;subst ea_));subst ec_;clear en_)));(have GB11:=AM ii6);(have GG11:=AM ii7);(clear ii6 gl11 ii7);(have HMgo11:=AM (show (P0_ go11∨w.heap.size≤go11) from (HO_0.out.1 _ rfl)));(obtain ⟨mp1,hf11_0⟩:=Kd.R_celln 0 HO_0.out ((ji8):Int) p11 q11);(replace p11:=eq_true p11);(replace q11:=eq_true q11);(have fx1:=Kd.R_putg HO_0.out ((ji8):Int) ((ji7) % 256));(go_wp2_with (first|((with_reducible refine gate_store (t:=5) (p:=22) rfl ?_);refine store_event (t:=5) (p:=22) (v:=?vo_w14) (w1:=(wr.setCell ⟨go11,((ji8):Int).toNat,none⟩ (.int .u8 ((ji7) % 256)))) ?hg ?ho ?hn ?hr ?_;(case ho=>rfl);(case hg=>rfl);(case hn=>rfl);(case hr=>first|(go_simp;done)|(go_simp;rfl));intro w14 hw;have hg:wr.grownBy w14 (some go11):=(by rw [hw];exact fx1.2);have hp_:Kd.R (Kd.int .u8) 5 w14 w0.heap.size (fun k_=>(P0_ k_∨w.heap.size≤k_)) (.slice (some ⟨go11,0,none⟩) bt5.length fs3) y127:=(by rw [hw,Ny127.out];exact fx1.1);clear fx1;replace HB:=AM ((by rw [hw];exact below_set (HB.out) GB11.out:Below w0.heap.size w0 w14));replace HK:=AM (Kept.of_grown (S:=(fun k_=>P0_ k_)) hg (by repeat (first|(with_reducible first|exact HK.out|apply Kept.alloc|apply Kept.drewN|apply Kept.drew)|exact HK.out)) (fun k_ e_=>(HO_0.out.1 k_ e_)));replace HO_0:=AM (hp_);clear hg hw hp_)));(go_roundg k1)
       case measure=>have:=G2.out;omega
       case rel=>exact ⟨(y127),(wrap64 (D8+1)),sd,H',⟨by have:=G2.out;omega⟩,⟨mvR HO_0.out⟩,⟨by repeat (first|(with_reducible first|exact HK.out|apply Kept.alloc|apply Kept.drewN|apply Kept.drew)|exact HK.out)⟩,⟨mvW HB.out⟩⟩
      ·(rw [if_neg F3] at H);(exact absurd H (by simp))
     ·(rw [if_neg c9] at H);(exact absurd H (by simp))
    ·(rw [if_neg c6] at H);(exact absurd H (by simp))
   ·(rw [if_neg c4] at H);(have D1:decide (D8 < a2)=false:=decide_eq_false c4);(clear c4);(obtain rfl:=Option.some.inj H);(go_wp2);(first|go_end0|((try simp only [Exit.inBlock,Exit.then]);refine bodyPost_ret (results_none rfl _ _ _) rfl ?_));(exact ⟨rv,mvR HO_0.out,mvW HB.out,by repeat (first|(with_reducible first|exact HK.out|apply Kept.alloc|apply Kept.drewN|apply Kept.drew)|exact HK.out)⟩)

end Go.Proofs.YtmfaopjfdedheaaGreat.T
