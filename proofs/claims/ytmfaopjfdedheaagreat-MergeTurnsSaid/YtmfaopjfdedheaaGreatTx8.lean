-- PRINTED by print.py (a twelfth state) out of the translation. Not trusted: Lean checks it.
import Derived.Test.YtmfaopjfdedheaaGreatSq
import Derived.Test.YtmfaopjfdedheaaGreatSh
import Derived.Test.YtmfaopjfdedheaaGreatMv
import Derived.Test.YtmfaopjfdedheaaGreatTx0
import Derived.Test.YtmfaopjfdedheaaGreatTx3
import Derived.Test.YtmfaopjfdedheaaGreatTx5
namespace Go.Proofs.YtmfaopjfdedheaaGreat.T
open Go.RowKit Go.Proofs.YtmfaopjfdedheaaGreatW Go.Proofs.YtmfaopjfdedheaaGreatW.PrintWords Go.Proofs.YtmfaopjfdedheaaGreatW.PrintLast Go.Proofs.YtmfaopjfdedheaaGreatW.PrintMore
attribute [local go_sem] GpMore.bytes_le max2_int min2_int max_two min_two max_three min_three max_four min_four   -- for this text's walks alone
set_option linter.unusedVariables false
set_option maxHeartbeats 8000000
set_option maxRecDepth 100000
set_option linter.unusedSimpArgs false

/-! ### cells_cell_size: function 85 -/
def cells_cell_size.f (a5:ByteArray) (a7:ByteArray):Option (Int):=some (wrap64 ((wrap64 (4+(a5.size:Int)))+(a7.size:Int)))
theorem cells_cell_size.calls (a5:ByteArray) (a7:ByteArray) (r:Int) (w:World) (h:cells_cell_size.f a5 a7=some r):
  Calls Tryz.prog 85 #[.agg #[.string a5,.string a7]] w fun e w'=>e=.returned (.int .i64 r)∧Below w.heap.size w w':=by
 (have hu124:=Tryz.underlying124);(have HB:=AM (Below.refl w.heap.size w));(have H:(some (wrap64 ((wrap64 (4+(a5.size:Int)))+(a7.size:Int))))=some r:=h);(clear h);(obtain rfl:=Option.some.inj H);(go_enter Tryz.func85,Tryz.ntmps85);(go_wp2_with (first|((with_reducible refine gate_dst (N:=1) rfl ?_);refine bx (N:=1) (cs:=#[.string a5,.string a7]) (t:=124) ⟨mvW HB.out⟩ ?_;clear HB;intro op9 hg w2 hb hm3 km9 HB;have oq0:=km9;clear hb hg;obtain ⟨au7,au8⟩:=bc2 hm3.out;obtain ⟨au9,av0⟩:=bf2 hm3.out)));(go_ret);(exact ⟨rv,mvW HB.out⟩)

/-! ### cells_Size: function 45 -/
def cells_Size.l0:Nat→Int→List (S42)→Int→Int→Option (Int)
 |0,_,_,_,_=>none
 |k+1,x3,x6,x7,x8=>if x8 < x7 then (if 0≤x8 then (if x8 < (x6.length:Int) then ((cells_cell_size.f ((rd_T42 x6 x8).f0) ((rd_T42 x6 x8).f1)).bind fun fl4=>(cells_Size.l0 k (wrap64 (x3+fl4)) x6 x7 (wrap64 (x8+1)))) else (none)) else (none)) else (some x3)
def cells_Size.f (k:Nat) (l0:List (S42)):Option (Int):=cells_Size.l0 k 0 l0 (l0.length:Int) 0
theorem cells_Size.calls (k:Nat) (A0:Option Addr) (c0:Nat) (l0:List (S42)) (r:Int) (w:World) (hr0:Kd.C k42 w A0 l0.length l0) (hc0:l0.length≤c0) (h:cells_Size.f k l0=some r):
  Calls Tryz.prog 45 #[.slice A0 l0.length c0] w fun e w'=>e=.returned (.int .i64 r)∧Below w.heap.size w w':=by
 (have hu42:=Tryz.underlying42);(have R7:=AM hr0);(have HC0:=AM hc0);(clear hr0 hc0);(have HB:=AM (Below.refl w.heap.size w));(have H:(cells_Size.l0 k 0 l0 (l0.length:Int) 0)=some r:=h);(clear h);(have H':=AM H);(clear H);(go_enter Tryz.func45,Tryz.ntmps45);(go_wp2);(go_loopg [3,8] k (fun kq v3 v8 w'=>∃ (l3:Int) (D8:Int),v3=.int .i64 l3∧v8=.int .i64 D8∧Aside0 (cells_Size.l0 kq l3 l0 (l0.length:Int) D8=some r)∧Aside0 (kq≤k)∧Aside0 (Below w.heap.size w w')))
 case atStart=>exact ⟨(0),(0),sd,sd,H',⟨Nat.le_refl _⟩,⟨mvW HB.out⟩⟩
 case round=>
  (clear H');(obtain ⟨l3,D8,rfl,rfl,HA,G2,HB⟩:=hrel)
  cases gk with
  |zero=>exact absurd HA.out (by simp [cells_Size.l0])
  |succ k1=>
   (have H:=HA.out);(clear HA);(simp only [cells_Size.l0] at H);(by_cases c2:D8 < (l0.length:Int))
   ·(rw [if_pos c2] at H);(have ac7:=decide_eq_true c2);(clear c2);(by_cases c3:0≤D8)
    ·(rw [if_pos c3] at H);(have ad6:=decide_eq_true c3);(clear c3);(by_cases c4:D8 < (l0.length:Int))
     ·(rw [if_pos c4] at H);(have D1:=decide_eq_true c4);(clear c4);(replace H:=Option.bind_eq_some_iff.mp H);(obtain ⟨fl4,A50,H⟩:=H);(have A5:=AM A50);(clear A50);(have H':=AM H);(clear H);(have fy0:0≤(D8:Int):=od);(have fy1:D8 < (l0.length:Int):=od);(obtain ⟨ad198,e198,kv3,kv4⟩:=at_T42w HB R7.out D8 fy0 fy1);(cases e198);(replace fy0:=eq_true fy0);(replace fy1:=eq_true fy1);(go_wp2_with (first|((with_reducible refine gate_dst (N:=5) rfl ?_);refine bx (N:=5) (cs:=#[.string (⟨#[]⟩:ByteArray),.string (⟨#[]⟩:ByteArray)]) (t:=42) ⟨mvW HB.out⟩ ?_;clear HB;intro kn0 hg w6 hb dy2 kn1 HB;have oq1:=kn1;clear hb hg;obtain ⟨ao9,ap0⟩:=bc2 dy2.out;obtain ⟨ap1,ap2⟩:=bf2 dy2.out)|((with_reducible refine gate_callee (f:=85) rfl ?_);refine goesL_ (some 14) rfl rfl Tryz.func85 (by kernel_rfl) rfl #[.agg #[.string ((rd_T42 l0 D8).f0),.string ((rd_T42 l0 D8).f1)]] rfl am ?_;(with_reducible refine (cells_cell_size.calls ((rd_T42 l0 D8).f0) ((rd_T42 l0 D8).f1) fl4 _ A5.out).mono ?_);rintro e w8 ⟨rfl,hb⟩;refine ⟨_,rfl,?_⟩;replace dy2:=AM (blk_below (g:=kn0) (o:=.cells #[.string ((rd_T42 l0 D8).f0),.string ((rd_T42 l0 D8).f1)] 42 (0,0)) (mvP dy2.out) hb);replace HB:=AM (below_step (mvW HB.out) hb);(try clear hb);(try clear hb2);(try clear hk);(try clear hi))));(go_roundg k1)
      case measure=>have:=G2.out;omega
      case rel=>exact ⟨(wrap64 (l3+fl4)),(wrap64 (D8+1)),sd,sd,H',⟨by have:=G2.out;omega⟩,⟨mvW HB.out⟩⟩
     ·(rw [if_neg c4] at H);(exact absurd H (by simp))
    ·(rw [if_neg c3] at H);(exact absurd H (by simp))
   ·(rw [if_neg c2] at H);(have ac7:decide (D8 < (l0.length:Int))=false:=decide_eq_false c2);(clear c2);(obtain rfl:=Option.some.inj H);(go_wp2);(go_ret);(exact ⟨rv,mvW HB.out⟩)

/-! ### merge_Under: function 15 -/
def merge_Under.f (k:Nat) (a5:Int) (a7:Int) (a8:Int) (b7:ByteArray) (b6:ByteArray) (b9:Bool) (d0:Int) (b5:Int) (b0:List Int) (a6:List (S42)) (d3:Int) (d4:Int) (d7:Int) (d9:ByteArray) (e6:ByteArray) (e4:Bool) (f9:Int) (e7:Int) (d8:List Int) (d6:List (S42)) (a2:Int):Option (Bool):=(merge_Beside.f k a5 a7 a8 b7 b6 b9 d0 b5 b0 a6 d3 d4 d7 d9 e6 e4 f9 e7 d8 d6).bind fun ef6=>(if ef6=true then ((cells_Size.f k a6).bind fun ef7=>((cells_Size.f k d6).bind fun ef8=>(some (decide ((wrap64 (ef7+ef8))≤a2))))) else (some false))
def merge_Under.T1:Bool×List (List Nat×List Nat):=(true,[([],[]),([],[]),([0,1],[0,1]),([2,2],[2]),([3],[3]),([4,3],[3,4]),([5,3,3],[3,5]),([3],[3]),([7,3],[3,7]),([8,6,3],[3,8]),([6,9,3],[3,6,9]),([3],[3]),([10,11,3],[3,10,11]),([3,12],[3,12]),([13,9,0,1,2,3,4,5,6,7,8,9,10,11,12,13],[13])])
def merge_Under.B1:List Nat:=[0,0,3,7,15,31,63,15,143,511,1023,15,4095,8191,16383]
theorem merge_Under.tab1:rtab .any (opsOf Tryz.f15 1)=merge_Under.T1:=by kernel_rfl
theorem merge_Under.bits1:waitsOk merge_Under.T1.2 merge_Under.B1=true:=by kernel_rfl
theorem merge_Under.calls (k:Nat) (a5:Int) (a7:Int) (a8:Int) (b7:ByteArray) (b6:ByteArray) (b9:Bool) (d0:Int) (b5:Int) (i3:Option Addr) (i4:Nat) (b0:List Int) (i7:Option Addr) (i5:Nat) (a6:List (S42)) (d3:Int) (d4:Int) (d7:Int) (d9:ByteArray) (e6:ByteArray) (e4:Bool) (f9:Int) (e7:Int) (k0:Option Addr) (k5:Nat) (d8:List Int) (k8:Option Addr) (k9:Nat) (d6:List (S42)) (a2:Int) (r:Bool) (w:World) (y3:Kd.C (Kd.int .u64) w i3 b0.length b0) (B5:b0.length≤i4) (t8:Kd.C k42 w i7 a6.length a6) (u4:a6.length≤i5) (J9:Kd.C (Kd.int .u64) w k0 d8.length d8) (K0:d8.length≤k5) (K8:Kd.C k42 w k8 d6.length d6) (K9:d6.length≤k9) (h:merge_Under.f k a5 a7 a8 b7 b6 b9 d0 b5 b0 a6 d3 d4 d7 d9 e6 e4 f9 e7 d8 d6 a2=some r):
  Calls Tryz.prog 15 #[.agg #[.int .u64 a5,.int .u64 a7,.int .u8 a8,.string b7,.string b6,.bool b9,.int .u64 d0,.int .u64 b5,.slice i3 b0.length i4,.slice i7 a6.length i5],.agg #[.int .u64 d3,.int .u64 d4,.int .u8 d7,.string d9,.string e6,.bool e4,.int .u64 f9,.int .u64 e7,.slice k0 d8.length k5,.slice k8 d6.length k9],.int .i64 a2] w fun e w'=>e=.returned (.bool r)∧Below w.heap.size w w':=by
 (have hu28:=Tryz.underlying28);(have n5:=AM y3);(have n6:=AM B5);(clear y3 B5);(have m9:=AM t8);(have n9:=AM u4);(clear t8 u4);(have y6:=AM J9);(have y9:=AM K0);(clear J9 K0);(have u6:=AM K8);(have B8:=AM K9);(clear K8 K9);(have HB:=AM (Below.refl w.heap.size w));(have H:((merge_Beside.f k a5 a7 a8 b7 b6 b9 d0 b5 b0 a6 d3 d4 d7 d9 e6 e4 f9 e7 d8 d6).bind fun ef6=>(if ef6=true then ((cells_Size.f k a6).bind fun ef7=>((cells_Size.f k d6).bind fun ef8=>(some (decide ((wrap64 (ef7+ef8))≤a2))))) else (some false)))=some r:=h);(clear h);(replace H:=Option.bind_eq_some_iff.mp H);(obtain ⟨ef6,A40,H⟩:=H);(have A4:=AM A40);(clear A40);(by_cases c5:ef6=true)
 ·(subst c5);(rw [if_pos rfl] at H);(replace H:=Option.bind_eq_some_iff.mp H);(obtain ⟨ef7,A60,H⟩:=H);(have A6:=AM A60);(clear A60);(replace H:=Option.bind_eq_some_iff.mp H);(obtain ⟨ef8,A70,H⟩:=H);(have A7:=AM A70);(clear A70);(obtain rfl:=Option.some.inj H);(go_enter Tryz.func15,Tryz.ntmps15);(try go_wp2_with (first|((with_reducible refine gate_dst (N:=3) rfl ?_);refine bx (N:=3) (cs:=#[.int .u64 a5,.int .u64 a7,.int .u8 a8,.string b7,.string b6,.bool b9,.int .u64 d0,.int .u64 b5,.slice i3 b0.length i4,.slice i7 a6.length i5]) (t:=28) ⟨mvW HB.out⟩ ?_;clear HB;intro R4 hg w8 hb I1 fl5 HB;have kn2:=fl5;clear hb hg)|((with_reducible refine gate_dst (N:=4) rfl ?_);refine bx (N:=4) (cs:=#[.int .u64 d3,.int .u64 d4,.int .u8 d7,.string d9,.string e6,.bool e4,.int .u64 f9,.int .u64 e7,.slice k0 d8.length k5,.slice k8 d6.length k9]) (t:=28) ⟨mvW HB.out⟩ ?_;clear HB;intro R5 hg w9 hb R6 fl6 HB;have kn3:=fl6;have fr8:=nbl hg I1;have fr9:=nbg hg I1;replace I1:=AM (blk_below (mvB I1.out) hb);clear hb hg)));(replace I1:=AM (blk_drew I1.out));(replace R6:=AM (blk_drew R6.out));(replace HB:=AM (below_drew1 HB.out));(refine start_ (n:=15) (S:=fun w'=>w'.cell? ⟨R4,0,none⟩=some (.int .u64 a5)∧w'.cell? ⟨R4,1,none⟩=some (.int .u64 a7)∧w'.cell? ⟨R4,2,none⟩=some (.int .u8 a8)∧w'.cell? ⟨R4,3,none⟩=some (.string b7)∧w'.cell? ⟨R4,4,none⟩=some (.string b6)∧w'.cell? ⟨R4,5,none⟩=some (.bool b9)∧w'.cell? ⟨R4,6,none⟩=some (.int .u64 d0)∧w'.cell? ⟨R4,7,none⟩=some (.int .u64 b5)∧w'.cell? ⟨R4,8,none⟩=some (.slice i3 b0.length i4)∧w'.cell? ⟨R4,9,none⟩=some (.slice i7 a6.length i5)∧w'.cell? ⟨R5,0,none⟩=some (.int .u64 d3)∧w'.cell? ⟨R5,1,none⟩=some (.int .u64 d4)∧w'.cell? ⟨R5,2,none⟩=some (.int .u8 d7)∧w'.cell? ⟨R5,3,none⟩=some (.string d9)∧w'.cell? ⟨R5,4,none⟩=some (.string e6)∧w'.cell? ⟨R5,5,none⟩=some (.bool e4)∧w'.cell? ⟨R5,6,none⟩=some (.int .u64 f9)∧w'.cell? ⟨R5,7,none⟩=some (.int .u64 e7)∧w'.cell? ⟨R5,8,none⟩=some (.slice k0 d8.length k5)∧w'.cell? ⟨R5,9,none⟩=some (.slice k8 d6.length k9)) (ds:=[]) (bm 15 0) (by kernel_rfl) rfl rfl (ap10 (bc10 I1.out) (bc10 R6.out)) (fun b8=>?_);refine with_tabW merge_Under.tab1 merge_Under.bits1 (fun HT_ HW_=>?_));(generalize w9.drew=w10 at I1 R6 HB b8 ⊢);(refine tk 0 7 (bv 1 14) HT_ HW_ b8 ?_);(refine tk 1 8 (bv 2 13) HT_ HW_ b8 ?_);(refine on 2 (some 9) (bv 3 12) HT_ (fun K hK=>?_));(refine goes_ Tryz.func13 (by kernel_rfl) rfl #[.agg #[.int .u64 a5,.int .u64 a7,.int .u8 a8,.string b7,.string b6,.bool b9,.int .u64 d0,.int .u64 b5,.slice i3 b0.length i4,.slice i7 a6.length i5],.agg #[.int .u64 d3,.int .u64 d4,.int .u8 d7,.string d9,.string e6,.bool e4,.int .u64 f9,.int .u64 e7,.slice k0 d8.length k5,.slice k8 d6.length k9]] (by rfl) rfl rfl am ?_);(with_reducible refine (merge_Beside.calls k a5 a7 a8 b7 b6 b9 d0 b5 _ _ b0 _ _ a6 d3 d4 d7 d9 e6 e4 f9 e7 _ _ d8 _ _ d6 true _ ?side1 ?side2 ?side3 ?side4 ?side5 ?side6 ?side7 ?side8 A4.out).mono ?_);((case side1=>exact mvC (Kd.C_below n5.out HB.out)));((case side2=>exact n6.out));((case side3=>exact mvC (Kd.C_below m9.out HB.out)));((case side4=>exact n9.out));((case side5=>exact mvC (Kd.C_below y6.out HB.out)));((case side6=>exact y9.out));((case side7=>exact mvC (Kd.C_below u6.out HB.out)));((case side8=>exact B8.out));(rintro e w11 ⟨rfl,hb⟩);(refine ⟨_,rfl,?_⟩);(replace I1:=AM (blk_below (mvB I1.out) hb));(replace R6:=AM (blk_below (mvB R6.out) hb));(replace HB:=AM (below_step (mvW HB.out) hb));(clear hb);(refine hK.out _ _ (ap10 (bc10 I1.out) (bc10 R6.out)) (fun b8=>?_));(clear hK K);(refine nm 9 ?_);(refine pu 3 10 (bv 4 11) HT_ ?_);(refine pu 4 11 (bv 5 10) HT_ ?_);(refine pu 7 14 (bm 15 159) HT_ ?_);(refine pu 11 18 (bm 15 2207) HT_ ?_);(refine tk 5 12 (bm 15 2239) HT_ HW_ b8 ?_);(refine tk 8 15 (bm 15 2495) HT_ HW_ b8 ?_);(refine on 6 (some 13) (bm 15 2559) HT_ (fun K hK=>?_));(refine goes_ Tryz.func45 (by kernel_rfl) rfl #[.slice i7 a6.length i5] (by rfl) rfl rfl am ?_);(with_reducible refine (cells_Size.calls k _ _ a6 ef7 _ ?side1 ?side2 A6.out).mono ?_);((case side1=>exact mvC (Kd.C_below m9.out HB.out)));((case side2=>exact n9.out));(rintro e w12 ⟨rfl,hb⟩);(refine ⟨_,rfl,?_⟩);(replace I1:=AM (blk_below (mvB I1.out) hb));(replace R6:=AM (blk_below (mvB R6.out) hb));(replace HB:=AM (below_step (mvW HB.out) hb));(clear hb);(refine hK.out _ _ (ap10 (bc10 I1.out) (bc10 R6.out)) (fun b8=>?_));(clear hK K);(refine nm 13 ?_);(refine on 9 (some 16) (bm 15 3071) HT_ (fun K hK=>?_));(refine goes_ Tryz.func45 (by kernel_rfl) rfl #[.slice k8 d6.length k9] (by rfl) rfl rfl am ?_);(with_reducible refine (cells_Size.calls k _ _ d6 ef8 _ ?side1 ?side2 A7.out).mono ?_);((case side1=>exact mvC (Kd.C_below u6.out HB.out)));((case side2=>exact B8.out));(rintro e w13 ⟨rfl,hb⟩);(refine ⟨_,rfl,?_⟩);(replace I1:=AM (blk_below (mvB I1.out) hb));(replace R6:=AM (blk_below (mvB R6.out) hb));(replace HB:=AM (below_step (mvW HB.out) hb));(clear hb);(refine hK.out _ _ (ap10 (bc10 I1.out) (bc10 R6.out)) (fun b8=>?_));(clear hK K);(refine nm 16 ?_);(refine pu 10 17 (bv 12 3) HT_ ?_);(refine pu 12 19 (bv 13 2) HT_ ?_);(refine pu 13 20 (bv 14 1) HT_ ?_);(refine pu 14 6 (bv 15 0) HT_ ?_);(refine done_ (done_of HT_.out (by kernel_rfl)) ?_);(try go_wp2);(go_ret);(exact ⟨rv,mvW HB.out⟩)
 ·(replace c5:=Bool.eq_false_iff.mpr c5);(subst c5);(rw [if_neg (by first|decide|simp)] at H);(obtain rfl:=Option.some.inj H);(go_enter Tryz.func15,Tryz.ntmps15);(try go_wp2_with (first|((with_reducible refine gate_dst (N:=3) rfl ?_);refine bx (N:=3) (cs:=#[.int .u64 a5,.int .u64 a7,.int .u8 a8,.string b7,.string b6,.bool b9,.int .u64 d0,.int .u64 b5,.slice i3 b0.length i4,.slice i7 a6.length i5]) (t:=28) ⟨mvW HB.out⟩ ?_;clear HB;intro R4 hg w14 hb I1 fl5 HB;have kn2:=fl5;clear hb hg)|((with_reducible refine gate_dst (N:=4) rfl ?_);refine bx (N:=4) (cs:=#[.int .u64 d3,.int .u64 d4,.int .u8 d7,.string d9,.string e6,.bool e4,.int .u64 f9,.int .u64 e7,.slice k0 d8.length k5,.slice k8 d6.length k9]) (t:=28) ⟨mvW HB.out⟩ ?_;clear HB;intro R5 hg w15 hb R6 fl6 HB;have kn3:=fl6;have fr8:=nbl hg I1;have fr9:=nbg hg I1;replace I1:=AM (blk_below (mvB I1.out) hb);clear hb hg)));(replace I1:=AM (blk_drew I1.out));(replace R6:=AM (blk_drew R6.out));(replace HB:=AM (below_drew1 HB.out));(refine start_ (n:=15) (S:=fun w'=>w'.cell? ⟨R4,0,none⟩=some (.int .u64 a5)∧w'.cell? ⟨R4,1,none⟩=some (.int .u64 a7)∧w'.cell? ⟨R4,2,none⟩=some (.int .u8 a8)∧w'.cell? ⟨R4,3,none⟩=some (.string b7)∧w'.cell? ⟨R4,4,none⟩=some (.string b6)∧w'.cell? ⟨R4,5,none⟩=some (.bool b9)∧w'.cell? ⟨R4,6,none⟩=some (.int .u64 d0)∧w'.cell? ⟨R4,7,none⟩=some (.int .u64 b5)∧w'.cell? ⟨R4,8,none⟩=some (.slice i3 b0.length i4)∧w'.cell? ⟨R4,9,none⟩=some (.slice i7 a6.length i5)∧w'.cell? ⟨R5,0,none⟩=some (.int .u64 d3)∧w'.cell? ⟨R5,1,none⟩=some (.int .u64 d4)∧w'.cell? ⟨R5,2,none⟩=some (.int .u8 d7)∧w'.cell? ⟨R5,3,none⟩=some (.string d9)∧w'.cell? ⟨R5,4,none⟩=some (.string e6)∧w'.cell? ⟨R5,5,none⟩=some (.bool e4)∧w'.cell? ⟨R5,6,none⟩=some (.int .u64 f9)∧w'.cell? ⟨R5,7,none⟩=some (.int .u64 e7)∧w'.cell? ⟨R5,8,none⟩=some (.slice k0 d8.length k5)∧w'.cell? ⟨R5,9,none⟩=some (.slice k8 d6.length k9)) (ds:=[]) (bm 15 0) (by kernel_rfl) rfl rfl (ap10 (bc10 I1.out) (bc10 R6.out)) (fun b8=>?_);refine with_tabW merge_Under.tab1 merge_Under.bits1 (fun HT_ HW_=>?_));(generalize w15.drew=w16 at I1 R6 HB b8 ⊢);(refine tk 0 7 (bv 1 14) HT_ HW_ b8 ?_);(refine tk 1 8 (bv 2 13) HT_ HW_ b8 ?_);(refine on 2 (some 9) (bv 3 12) HT_ (fun K hK=>?_));(refine goes_ Tryz.func13 (by kernel_rfl) rfl #[.agg #[.int .u64 a5,.int .u64 a7,.int .u8 a8,.string b7,.string b6,.bool b9,.int .u64 d0,.int .u64 b5,.slice i3 b0.length i4,.slice i7 a6.length i5],.agg #[.int .u64 d3,.int .u64 d4,.int .u8 d7,.string d9,.string e6,.bool e4,.int .u64 f9,.int .u64 e7,.slice k0 d8.length k5,.slice k8 d6.length k9]] (by rfl) rfl rfl am ?_);(with_reducible refine (merge_Beside.calls k a5 a7 a8 b7 b6 b9 d0 b5 _ _ b0 _ _ a6 d3 d4 d7 d9 e6 e4 f9 e7 _ _ d8 _ _ d6 false _ ?side1 ?side2 ?side3 ?side4 ?side5 ?side6 ?side7 ?side8 A4.out).mono ?_);((case side1=>exact mvC (Kd.C_below n5.out HB.out)));((case side2=>exact n6.out));((case side3=>exact mvC (Kd.C_below m9.out HB.out)));((case side4=>exact n9.out));((case side5=>exact mvC (Kd.C_below y6.out HB.out)));((case side6=>exact y9.out));((case side7=>exact mvC (Kd.C_below u6.out HB.out)));((case side8=>exact B8.out));(rintro e w17 ⟨rfl,hb⟩);(refine ⟨_,rfl,?_⟩);(replace I1:=AM (blk_below (mvB I1.out) hb));(replace R6:=AM (blk_below (mvB R6.out) hb));(replace HB:=AM (below_step (mvW HB.out) hb));(clear hb);(refine hK.out _ _ (ap10 (bc10 I1.out) (bc10 R6.out)) (fun b8=>?_));(clear hK K);(refine nm 9 ?_);(refine pu 3 10 (bv 4 11) HT_ ?_);(refine pn 4 11 (bv 5 10) HT_ ?_);(refine pn 5 12 (bv 6 9) HT_ ?_);(refine pn 6 13 (bv 7 8) HT_ ?_);(refine pn 7 14 (bv 8 7) HT_ ?_);(refine pn 8 15 (bv 9 6) HT_ ?_);(refine pn 9 16 (bv 10 5) HT_ ?_);(refine pn 10 17 (bv 11 4) HT_ ?_);(refine pn 11 18 (bv 12 3) HT_ ?_);(refine pn 12 19 (bv 13 2) HT_ ?_);(refine pu 13 20 (bv 14 1) HT_ ?_);(refine pu 14 6 (bv 15 0) HT_ ?_);(refine done_ (done_of HT_.out (by kernel_rfl)) ?_);(try go_wp2);(go_ret);(exact ⟨rv,mvW HB.out⟩)

/-! ### sort_Search: function 109 -/
/-- Go's binary search from i to j. -/
def bsearch (p:Nat→Bool) (i j:Nat):Nat:=
 if h:i < j then (if p ((i+j) / 2) then bsearch p i ((i+j) / 2) else bsearch p ((i+j) / 2+1) j) else i
 termination_by j - i
 decreasing_by all_goals omega
theorem bsearch_done (p:Nat→Bool) (i:Nat):bsearch p i i=i:=by unfold bsearch;rw [dif_neg (by omega)]
theorem bsearch_yes {p:Nat→Bool} {i j:Nat} (h:i < j) (hp:p ((i+j) / 2)=true):bsearch p i j=bsearch p i ((i+j) / 2):=by rw [bsearch,dif_pos h,if_pos hp]
theorem bsearch_no {p:Nat→Bool} {i j:Nat} (h:i < j) (hp:p ((i+j) / 2)=false):bsearch p i j=bsearch p ((i+j) / 2+1) j:=by rw [bsearch,dif_pos h,if_neg (by rw [hp];simp)]
set_option maxHeartbeats 4000000 in
theorem search_calls (g:Nat) (cb:Array Value) (n:Nat) (p:Nat→Bool) (w:World) (eg:∀ args w,(callFunc g args).run Tryz.prog w=.ok (.enter g args) w) (hsz:n < 4611686018427387904)
  (hf:∀ (W:World) (i:Nat),Below w.heap.size w W→i < n→Calls Tryz.prog g (#[.int .i64 i]++cb) W fun e w'=>e=.returned (.bool (p i))∧Below W.heap.size W w'):
  Calls Tryz.prog 109 #[.int .i64 n,.func (.func g) #[] cb] w fun e w'=>e=.returned (.int .i64 (bsearch p 0 n:Nat))∧Below w.heap.size w w':=by
 have HF:Aside0 _:=⟨hf⟩
 clear hf
 obtain ⟨r,hr⟩:∃ r,r=bsearch p 0 n:=⟨_,rfl⟩
 rw [← hr]
 have HR:Aside0 (bsearch p 0 n=r):=⟨hr.symm⟩
 clear hr
 go_enter Tryz.func109,Tryz.ntmps109
 go_wp2
 go_loopg [5,6] n (fun kx s5 s6 wr=>∃ (lo hi:Nat),s5=.int .i64 lo∧s6=.int .i64 hi∧lo≤hi∧hi≤n∧hi - lo≤kx∧Aside0 (Below w.heap.size w wr)∧Aside0 (bsearch p lo hi=r))
 case atStart=>exact ⟨0,n,rfl,rfl,Nat.zero_le _,Nat.le_refl _,by omega,⟨Below.refl _ _⟩,HR⟩
 case round=>
  obtain ⟨lo,hi,rfl,rfl,hlh,hin,hg,HB,I⟩:=hrel
  by_cases hlt:lo < hi
  ·have hc:=HF.out wr ((lo+hi) / 2) HB.out (by omega)
   rw [show (((lo+hi) / 2:Nat):Int)=((lo:Int)+(hi:Int)) / 2 by omega] at hc
   cases hp:p ((lo+hi) / 2) <;> rw [hp] at hc
   ·have HP:Aside0 (p ((lo+hi) / 2)=false):=⟨hp⟩
    clear hp
    go_wp2_with (go_at_fn g;refine hc.mono ?_;rintro e w1 ⟨rfl,hb1⟩)
    go_roundg (hi - ((lo+hi) / 2+1))
    case measure=>omega
    case rel=>exact ⟨(lo+hi) / 2+1,hi,by rw [show ((lo:Int)+(hi:Int)) / 2+1=(((lo+hi) / 2+1:Nat):Int) by omega],rfl,by omega,hin,Nat.le_refl _,⟨below_step HB.out hb1⟩,⟨(bsearch_no hlt HP.out).symm.trans I.out⟩⟩
   ·have HP:Aside0 (p ((lo+hi) / 2)=true):=⟨hp⟩
    clear hp
    go_wp2_with (go_at_fn g;refine hc.mono ?_;rintro e w1 ⟨rfl,hb1⟩)
    go_roundg ((lo+hi) / 2 - lo)
    case measure=>omega
    case rel=>exact ⟨lo,(lo+hi) / 2,rfl,by rw [show ((lo:Int)+(hi:Int)) / 2=(((lo+hi) / 2:Nat):Int) by omega],by omega,by omega,Nat.le_refl _,⟨below_step HB.out hb1⟩,⟨(bsearch_yes hlt HP.out).symm.trans I.out⟩⟩
  ·obtain rfl:hi=lo:=by omega
   have e:=I.out
   rw [bsearch_done] at e
   subst e
   go_wp2
   go_ret
   exact ⟨rfl,HB.out⟩
theorem bsearch_le0 (p:Nat→Bool):∀ (d i j:Nat),j - i=d→i≤j→i≤bsearch p i j∧bsearch p i j≤j:=by
 intro d
 induction d using Nat.strongRecOn with
 |_ d ih=>
  intro i j hd hij
  by_cases h:i < j
  ·cases hp:p ((i+j) / 2)
   ·rw [bsearch_no h hp]
    have:=ih (j - ((i+j) / 2+1)) (by omega) ((i+j) / 2+1) j rfl (by omega)
    omega
   ·rw [bsearch_yes h hp]
    have:=ih ((i+j) / 2 - i) (by omega) i ((i+j) / 2) rfl (by omega)
    omega
  ·obtain rfl:i=j:=by omega
   rw [bsearch_done]
   omega

/-! ### cells_At: function 86 -/
/-- Is a text greater than another one? -/
def cells_At_gt (a b:ByteArray):Bool:=Op.bytesLess b.toList a.toList
def cells_At.f (k:Nat) (l0:List S42) (a1:ByteArray):Option (Int):=(cells_Right.f k l0).bind fun t=>if t=true then (if l0.length < 4611686018427387904 then some (((bsearch (fun i=>cells_At_gt (rd_T42 l0 i).f0 a1) 0 l0.length:Nat):Int) - 1) else none) else some (-1)
set_option maxHeartbeats 4000000 in
theorem cells_At_clo_calls (ba bx:Nat) (A0:Option Addr) (c:Nat) (l:List S42) (x:ByteArray) (i:Nat) (W:World) (hi:i < l.length) (hr:Kd.C k42 W A0 l.length l)
  (ha:W.cell? ⟨ba,0,none⟩=some (.slice A0 l.length c)) (hx:W.cell? ⟨bx,0,none⟩=some (.string x)):
  Calls Tryz.prog 125 (#[.int .i64 i]++#[.pointer (some ⟨ba,0,none⟩),.pointer (some ⟨bx,0,none⟩)]) W fun e w'=>e=.returned (.bool (cells_At_gt (rd_T42 l i).f0 x))∧Below W.heap.size W w':=by
 obtain ⟨ad,rfl,hc,_⟩:=at_T42 hr i (by omega) (by omega)
 rw [Int.toNat_natCast] at hc
 generalize rd_T42 l i=y at hc ⊢
 have hiz:(i:Int) < (l.length:Int):=by omega
 have hu:=Tryz.underlying42
 clear hr
 go_enter Tryz.func125,Tryz.ntmps125
 go_wp2
 go_region
 all_goals go_wp2
 all_goals go_ret
 all_goals exact ⟨by first|rfl|simp,below_drew1 (Below.refl _ _)⟩
set_option maxHeartbeats 4000000 in
theorem cells_At_above (A0:Option Addr) (n c0:Nat) (x:ByteArray) (w:World):Calls Tryz.prog 108 #[.slice A0 n c0,.string x] w fun e w'=>
  e=.returned (.func (.func 125) #[] #[.pointer (some ⟨w.heap.size,0,none⟩),.pointer (some ⟨w.heap.size+1,0,none⟩)])∧w'=(w.alloc (.cells #[.slice A0 n c0] 147)).alloc (.cells #[.string x] 9):=by
 have hmf:∀ (fn:Fn) (first cap:Array Value) (w:World),(Instr.makeFunc fn first cap).run Tryz.prog w=.ok (.func fn first cap) w:=fun _ _ _ _=>rfl
 go_enter Tryz.func108,Tryz.ntmps108
 go_wp2
 go_ret
 exact ⟨rfl,rfl⟩
set_option maxHeartbeats 4000000 in
theorem cells_At.calls (k:Nat) (A0:Option Addr) (c0:Nat) (l0:List S42) (a1:ByteArray) (r:Int) (w:World) (hr0:Kd.C k42 w A0 l0.length l0) (hc0:l0.length≤c0) (h:cells_At.f k l0 a1=some r):
  Calls Tryz.prog 86 #[.slice A0 l0.length c0,.string a1] w fun e w'=>e=.returned (.int .i64 r)∧Below w.heap.size w w':=by
 obtain ⟨t,ht,h⟩:=Option.bind_eq_some_iff.1 h
 have hR:=cells_Right.calls k A0 c0 l0 t w hr0 hc0 ht
 cases t
 ·rw [if_neg (by simp)] at h
  obtain rfl:=Option.some.inj h
  go_enter Tryz.func86,Tryz.ntmps86
  go_wp2_with (go_at_call 69;refine hR.mono ?_;rintro e w1 ⟨rfl,hb⟩;have HB:=AM hb;clear hb)
  go_ret
  exact ⟨rfl,HB.out⟩
 ·rw [if_pos rfl] at h
  have hlen:l0.length < 4611686018427387904:=by
   by_cases hl:l0.length < 4611686018427387904
   ·exact hl
   ·rw [if_neg hl] at h;cases h
  rw [if_pos hlen] at h
  obtain rfl:=Option.some.inj h
  clear h
  have eg:∀ args w,(callFunc 125 args).run Tryz.prog w=.ok (.enter 125 args) w:=enters_of Tryz.func125 (by kernel_rfl) rfl
  have hS:∀ w1,Below w.heap.size w w1→Calls Tryz.prog 109 #[.int .i64 l0.length,.func (.func 125) #[] #[.pointer (some ⟨w1.heap.size,0,none⟩),.pointer (some ⟨w1.heap.size+1,0,none⟩)]] ((w1.alloc (.cells #[.slice A0 l0.length c0] 147)).alloc (.cells #[.string a1] 9))
    fun e w'=>e=.returned (.int .i64 (bsearch (fun i=>cells_At_gt (rd_T42 l0 i).f0 a1) 0 l0.length:Nat))∧Below w.heap.size w w':=by
   intro w1 hb1
   obtain ⟨W0,hW0⟩:∃ W0,W0=(w1.alloc (.cells #[.slice A0 l0.length c0] 147)).alloc (.cells #[.string a1] 9):=⟨_,rfl⟩
   have hB0:Below w.heap.size w W0:=by rw [hW0];exact below_alloc (below_alloc hb1 _) _
   have ca:W0.cell? ⟨w1.heap.size,0,none⟩=some (.slice A0 l0.length c0):=by
    rw [hW0];exact (blk_cell (blk_alloc (blk_new w1 _) _) 0).trans rfl
   have cx:W0.cell? ⟨w1.heap.size+1,0,none⟩=some (.string a1):=by
    have hb:=blk_new (w1.alloc (.cells #[.slice A0 l0.length c0] 147)) (.cells #[.string a1] 9)
    rw [World.size_alloc] at hb
    rw [hW0]
    exact (blk_cell hb 0).trans rfl
   rw [← hW0]
   refine (search_calls 125 #[.pointer (some ⟨w1.heap.size,0,none⟩),.pointer (some ⟨w1.heap.size+1,0,none⟩)] l0.length (fun i=>cells_At_gt (rd_T42 l0 i).f0 a1) W0 eg hlen
    (fun W i hB hi=>cells_At_clo_calls w1.heap.size (w1.heap.size+1) A0 c0 l0 a1 i W hi (Kd.C_below (Kd.C_below hr0 hB0) hB) (pw_cell_below hB ca) (pw_cell_below hB cx))).mono ?_
   rintro e w' ⟨rfl,hb⟩
   exact ⟨rfl,below_step hB0 hb⟩
  have hle:=(bsearch_le0 (fun i=>cells_At_gt (rd_T42 l0 i).f0 a1) l0.length 0 l0.length rfl (Nat.zero_le _)).2
  have HS:=AM hS
  generalize bsearch (fun i=>cells_At_gt (rd_T42 l0 i).f0 a1) 0 l0.length=r at HS hle ⊢
  have hw:wrap64 ((r:Int) - 1)=(r:Int) - 1:=by unfold wrap64;omega
  clear hS hr0 hle hlen
  go_enter Tryz.func86,Tryz.ntmps86
  go_wp2_with (go_at_call 69;refine hR.mono ?_;rintro e w1 ⟨rfl,hb⟩;have HB:=AM hb;clear hb)
  refine (cells_At_above A0 l0.length c0 a1 w1).mono ?_
  rintro e w2 ⟨rfl,rfl⟩
  go_wp2_with (go_at_call 109;refine (HS.out w1 HB.out).mono ?_;rintro e w3 ⟨rfl,hb⟩;have HB2:=AM hb;clear hb)
  go_ret
  exact ⟨by show Ending.returned (.int .i64 (wrap64 ((r:Int) - 1)))=_;rw [hw],HB2.out⟩

/-! ### cells_Find: function 47 -/
def cells_Find.f (k:Nat) (l0:List (S42)) (a1:ByteArray):Option (ByteArray×Bool):=(cells_At.f k l0 a1).bind fun J3=>(if J3≥0 then (if 0≤J3 then (if J3 < (l0.length:Int) then (if ((rd_T42 l0 J3).f0).toList=a1.toList then (some ((rd_T42 l0 J3).f1,true)) else (some ((⟨#[]⟩:ByteArray),false))) else (none)) else (none)) else (some ((⟨#[]⟩:ByteArray),false)))
theorem cells_Find.calls (k:Nat) (A0:Option Addr) (c0:Nat) (l0:List (S42)) (a1:ByteArray) (r1:ByteArray) (r2:Bool) (w:World) (hr0:Kd.C k42 w A0 l0.length l0) (hc0:l0.length≤c0) (h:cells_Find.f k l0 a1=some (r1,r2)):
  Calls Tryz.prog 47 #[.slice A0 l0.length c0,.string a1] w fun e w'=>e=.returned (.tuple #[.string r1,.bool r2])∧Below w.heap.size w w':=by
 (have R7:=AM hr0);(have HC0:=AM hc0);(clear hr0 hc0);(have HB:=AM (Below.refl w.heap.size w));(have H:((cells_At.f k l0 a1).bind fun J3=>(if J3≥0 then (if 0≤J3 then (if J3 < (l0.length:Int) then (if ((rd_T42 l0 J3).f0).toList=a1.toList then (some ((rd_T42 l0 J3).f1,true)) else (some ((⟨#[]⟩:ByteArray),false))) else (none)) else (none)) else (some ((⟨#[]⟩:ByteArray),false))))=some (r1,r2):=h);(clear h);(replace H:=Option.bind_eq_some_iff.mp H);(obtain ⟨J3,A30,H⟩:=H);(have A3:=AM A30);(clear A30);(by_cases c4:J3≥0)
 ·(rw [if_pos c4] at H);(have D1:decide (0≤J3)=true:=decide_eq_true c4);(clear c4);(by_cases c5:0≤J3)
  ·(rw [if_pos c5] at H);(have au2:=decide_eq_true c5);(clear c5);(by_cases c6:J3 < (l0.length:Int))
   ·(rw [if_pos c6] at H);(have J4:=decide_eq_true c6);(clear c6);(by_cases c7:((rd_T42 l0 J3).f0).toList=a1.toList)
    ·(rw [if_pos c7] at H);(have ai6:(((rd_T42 l0 J3).f0).toList==a1.toList)=true:=beq_iff_eq.mpr c7);(have cl7:(((rd_T42 l0 J3).f0).toList != a1.toList)=false:=bne_eq_false_iff_eq.mpr c7);(clear c7);(simp only [Option.some.injEq,Prod.mk.injEq] at H);(obtain ⟨rfl,rfl⟩:=H);(go_enter Tryz.func47,Tryz.ntmps47);(go_wp2_with (first|((with_reducible refine gate_callee (f:=86) rfl ?_);refine goesL_ (some 9) rfl rfl Tryz.func86 (by kernel_rfl) rfl #[.slice A0 l0.length c0,.string a1] rfl am ?_;(with_reducible refine (cells_At.calls k _ _ l0 a1 J3 _ ?side1 ?side2 A3.out).mono ?_);(case side1=>exact mvC R7.out);(case side2=>exact HC0.out);rintro e w8 ⟨rfl,hb⟩;refine ⟨_,rfl,?_⟩;replace HB:=AM (below_step (mvW HB.out) hb);clear hb;have cp6:0≤(J3:Int):=od;have cp7:J3 < (l0.length:Int):=od;obtain ⟨ad207,e207,bm0,bm1⟩:=at_T42 R7.out J3 cp6 cp7;cases e207;replace bm0:=ct HB bm0;replace bm1:=ct HB bm1;replace cp6:=eq_true cp6;replace cp7:=eq_true cp7;have fy2:0≤(J3:Int):=od;have fy3:J3 < (l0.length:Int):=od;obtain ⟨ad208,e208,ej9,ek0⟩:=at_T42 R7.out J3 fy2 fy3;obtain rfl:ad207=ad208:=(by injection e208);replace ej9:=ct HB ej9;replace ek0:=ct HB ek0;replace fy2:=eq_true fy2;replace fy3:=eq_true fy3)));(go_ret2);(exact ⟨rv,mvW HB.out⟩)
    ·(rw [if_neg c7] at H);(have ai6:(((rd_T42 l0 J3).f0).toList==a1.toList)=false:=beq_eq_false_iff_ne.mpr c7);(have cl7:(((rd_T42 l0 J3).f0).toList != a1.toList)=true:=bne_iff_ne.mpr c7);(simp only [Option.some.injEq,Prod.mk.injEq] at H);(obtain ⟨rfl,rfl⟩:=H);(go_enter Tryz.func47,Tryz.ntmps47);(go_wp2_with (first|((with_reducible refine gate_callee (f:=86) rfl ?_);refine goesL_ (some 9) rfl rfl Tryz.func86 (by kernel_rfl) rfl #[.slice A0 l0.length c0,.string a1] rfl am ?_;(with_reducible refine (cells_At.calls k _ _ l0 a1 J3 _ ?side1 ?side2 A3.out).mono ?_);(case side1=>exact mvC R7.out);(case side2=>exact HC0.out);rintro e w9 ⟨rfl,hb⟩;refine ⟨_,rfl,?_⟩;replace HB:=AM (below_step (mvW HB.out) hb);clear hb;have cp6:0≤(J3:Int):=od;have cp7:J3 < (l0.length:Int):=od;obtain ⟨ad207,e207,bm0,bm1⟩:=at_T42 R7.out J3 cp6 cp7;cases e207;replace bm0:=ct HB bm0;replace bm1:=ct HB bm1;replace cp6:=eq_true cp6;replace cp7:=eq_true cp7)));(go_ret2);(exact ⟨rv,mvW HB.out⟩)
   ·(rw [if_neg c6] at H);(exact absurd H (by simp))
  ·(rw [if_neg c5] at H);(exact absurd H (by simp))
 ·(rw [if_neg c4] at H);(have D1:decide (0≤J3)=false:=decide_eq_false c4);(clear c4);(simp only [Option.some.injEq,Prod.mk.injEq] at H);(obtain ⟨rfl,rfl⟩:=H);(go_enter Tryz.func47,Tryz.ntmps47);(go_wp2_with (first|((with_reducible refine gate_callee (f:=86) rfl ?_);refine goesL_ (some 9) rfl rfl Tryz.func86 (by kernel_rfl) rfl #[.slice A0 l0.length c0,.string a1] rfl am ?_;(with_reducible refine (cells_At.calls k _ _ l0 a1 J3 _ ?side1 ?side2 A3.out).mono ?_);(case side1=>exact mvC R7.out);(case side2=>exact HC0.out);rintro e w10 ⟨rfl,hb⟩;refine ⟨_,rfl,?_⟩;replace HB:=AM (below_step (mvW HB.out) hb);(try clear hb);(try clear hb2);(try clear hk);(try clear hi))));(go_ret2);(exact ⟨rv,mvW HB.out⟩)

end Go.Proofs.YtmfaopjfdedheaaGreat.T
