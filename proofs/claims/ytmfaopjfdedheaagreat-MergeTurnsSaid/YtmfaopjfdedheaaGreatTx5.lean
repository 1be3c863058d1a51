-- PRINTED by print.py (a twelfth state) out of the translation. Not trusted: Lean checks it.
import Derived.Test.YtmfaopjfdedheaaGreatSq
import Derived.Test.YtmfaopjfdedheaaGreatSh
import Derived.Test.YtmfaopjfdedheaaGreatMv
import Derived.Test.YtmfaopjfdedheaaGreatTx0
import Derived.Test.YtmfaopjfdedheaaGreatTx2
import Derived.Test.YtmfaopjfdedheaaGreatTx4
namespace Go.Proofs.YtmfaopjfdedheaaGreat.T
open Go.RowKit Go.Proofs.YtmfaopjfdedheaaGreatW Go.Proofs.YtmfaopjfdedheaaGreatW.PrintWords Go.Proofs.YtmfaopjfdedheaaGreatW.PrintLast Go.Proofs.YtmfaopjfdedheaaGreatW.PrintMore
attribute [local go_sem] GpMore.bytes_le max2_int min2_int max_two min_two max_three min_three max_four min_four   -- for this text's walks alone
set_option linter.unusedVariables false
set_option maxHeartbeats 8000000
set_option maxRecDepth 100000
set_option linter.unusedSimpArgs false

/-! ### merge_Beside: function 13 -/
def merge_Beside.f (k:Nat) (a5:Int) (a7:Int) (a8:Int) (b7:ByteArray) (b6:ByteArray) (b9:Bool) (d0:Int) (b5:Int) (b0:List Int) (a6:List (S42)) (d3:Int) (d4:Int) (d7:Int) (d9:ByteArray) (e6:ByteArray) (e4:Bool) (f9:Int) (e7:Int) (d8:List Int) (d6:List (S42)):Option (Bool):=(page_Check.f k a5 a7 a8 b7 b6 b9 d0 b5 b0 a6).bind fun ak9=>((page_Check.f k d3 d4 d7 d9 e6 e4 f9 e7 d8 d6).bind fun al0=>((api_Errno.f k 0 (([ak9,al0]:List Int))).bind fun cp3=>(if cp3=true then ((merge_every_bool.f k true (([(a8==d7),(a7==d3),(d4 != a5),b9,(b6.toList==d9.toList)]:List Bool))).bind fun bt7=>(some bt7)) else (some false))))
def merge_Beside.T1:Bool×List (List Nat×List Nat):=(true,[([],[]),([0],[0]),([],[]),([2,1],[2]),([1,3],[1,3]),([4,3],[4]),([5,5],[5]),([6],[6]),([7,6],[6,7]),([6],[6]),([9,6],[6,9]),([8,10,6],[6,8,10]),([6],[6]),([12,6],[6,12]),([6],[6]),([14,6],[6,14]),([13,15,6],[6,13,15]),([6],[6]),([17,6],[6,17]),([6],[6]),([19,6],[6,19]),([18,20,6],[6,18,20]),([6],[6]),([22,6],[6,22]),([6],[6]),([24,6],[6,24]),([6],[6]),([26,6],[6,26]),([25,27,6],[6,25,27]),([11,16,21,23,28,6],[6,11,16,21,23,28]),([29,6,6],[6,29]),([6,30],[6,30]),([31,30,0,1,2,3,4,5,6,7,8,9,10,11,12,13,14,15,16,17,18,19,20,21,22,23,24,25,26,27,28,29,30,31],[31])])
def merge_Beside.B1:List Nat:=[0,1,0,7,15,31,63,127,255,127,639,2047,127,4223,127,16511,61567,127,131199,127,524415,1966207,127,4194431,127,16777343,127,67108991,251658367,536870911,1073741823,2147483647,4294967295]
theorem merge_Beside.tab1:rtab .any (opsOf Tryz.f13 1)=merge_Beside.T1:=by kernel_rfl
theorem merge_Beside.bits1:waitsOk merge_Beside.T1.2 merge_Beside.B1=true:=by kernel_rfl
theorem merge_Beside.calls (k:Nat) (a5:Int) (a7:Int) (a8:Int) (b7:ByteArray) (b6:ByteArray) (b9:Bool) (d0:Int) (b5:Int) (i3:Option Addr) (i4:Nat) (b0:List Int) (i7:Option Addr) (i5:Nat) (a6:List (S42)) (d3:Int) (d4:Int) (d7:Int) (d9:ByteArray) (e6:ByteArray) (e4:Bool) (f9:Int) (e7:Int) (k0:Option Addr) (k5:Nat) (d8:List Int) (k8:Option Addr) (k9:Nat) (d6:List (S42)) (r:Bool) (w:World) (y3:Kd.C (Kd.int .u64) w i3 b0.length b0) (B5:b0.length≤i4) (t8:Kd.C k42 w i7 a6.length a6) (u4:a6.length≤i5) (J9:Kd.C (Kd.int .u64) w k0 d8.length d8) (K0:d8.length≤k5) (K8:Kd.C k42 w k8 d6.length d6) (K9:d6.length≤k9) (h:merge_Beside.f k a5 a7 a8 b7 b6 b9 d0 b5 b0 a6 d3 d4 d7 d9 e6 e4 f9 e7 d8 d6=some r):
  Calls Tryz.prog 13 #[.agg #[.int .u64 a5,.int .u64 a7,.int .u8 a8,.string b7,.string b6,.bool b9,.int .u64 d0,.int .u64 b5,.slice i3 b0.length i4,.slice i7 a6.length i5],.agg #[.int .u64 d3,.int .u64 d4,.int .u8 d7,.string d9,.string e6,.bool e4,.int .u64 f9,.int .u64 e7,.slice k0 d8.length k5,.slice k8 d6.length k9]] w fun e w'=>e=.returned (.bool r)∧Below w.heap.size w w':=by
 (have hu28:=Tryz.underlying28);(have n5:=AM y3);(have n6:=AM B5);(clear y3 B5);(have m9:=AM t8);(have n9:=AM u4);(clear t8 u4);(have y6:=AM J9);(have y9:=AM K0);(clear J9 K0);(have u6:=AM K8);(have B8:=AM K9);(clear K8 K9);(have HB:=AM (Below.refl w.heap.size w));(have H:((page_Check.f k a5 a7 a8 b7 b6 b9 d0 b5 b0 a6).bind fun ak9=>((page_Check.f k d3 d4 d7 d9 e6 e4 f9 e7 d8 d6).bind fun al0=>((api_Errno.f k 0 (([ak9,al0]:List Int))).bind fun cp3=>(if cp3=true then ((merge_every_bool.f k true (([(a8==d7),(a7==d3),(d4 != a5),b9,(b6.toList==d9.toList)]:List Bool))).bind fun bt7=>(some bt7)) else (some false)))))=some r:=h);(clear h);(replace H:=Option.bind_eq_some_iff.mp H);(obtain ⟨ak9,A30,H⟩:=H);(have A3:=AM A30);(clear A30);(replace H:=Option.bind_eq_some_iff.mp H);(obtain ⟨al0,A40,H⟩:=H);(have A4:=AM A40);(clear A40);(obtain ⟨y150,hy150⟩:∃ y_:List Int,y_=(([ak9,al0]:List Int)):=⟨_,rfl⟩);(replace H:((api_Errno.f k 0 y150).bind fun cp3=>(if cp3=true then ((merge_every_bool.f k true (([(a8==d7),(a7==d3),(d4 != a5),b9,(b6.toList==d9.toList)]:List Bool))).bind fun bt7=>(some bt7)) else (some false)))=some r:=by first|(rw [hy150];with_reducible exact H)|(have H2_:=(Option.bind_some _ _).symm.trans H;rw [hy150];with_reducible exact H2_)|(have H2_:=(Option.bind_some _ _).symm.trans H;with_reducible exact H2_)|with_reducible exact H|(rw [hy150];exact H)|exact H);(have Ny150:=AM hy150);(clear hy150);(replace H:=Option.bind_eq_some_iff.mp H);(obtain ⟨cp3,A50,H⟩:=H);(have A5:=AM A50);(clear A50);(by_cases c6:cp3=true)
 ·(subst c6);(rw [if_pos rfl] at H);(obtain ⟨y154,hy154⟩:∃ y_:List Bool,y_=(([(a8==d7),(a7==d3),(d4 != a5),b9,(b6.toList==d9.toList)]:List Bool)):=⟨_,rfl⟩);(replace H:((merge_every_bool.f k true y154).bind fun bt7=>(some bt7))=some r:=by first|(rw [hy154];with_reducible exact H)|(have H2_:=(Option.bind_some _ _).symm.trans H;rw [hy154];with_reducible exact H2_)|(have H2_:=(Option.bind_some _ _).symm.trans H;with_reducible exact H2_)|with_reducible exact H|(rw [hy154];exact H)|exact H);(have Ny154:=AM hy154);(clear hy154);(replace H:=Option.bind_eq_some_iff.mp H);(obtain ⟨bt7,A70,H⟩:=H);(have A7:=AM A70);(clear A70);(obtain rfl:=Option.some.inj H);(go_enter Tryz.func13,Tryz.ntmps13);(try go_wp2_with (first|((with_reducible refine gate_dst (N:=2) rfl ?_);(try (refine gate_guard (by rfl) ?_;dsimp only));refine bx (N:=2) (cs:=#[.int .u64 a5,.int .u64 a7,.int .u8 a8,.string b7,.string b6,.bool b9,.int .u64 d0,.int .u64 b5,.slice i3 b0.length i4,.slice i7 a6.length i5]) (t:=28) ⟨mvW HB.out⟩ ?_;clear HB;intro R2 hg w8 hb D5 fk7 HB;have jy5:=fk7;clear hb hg)|((with_reducible refine gate_dst (N:=3) rfl ?_);(try (refine gate_guard (by rfl) ?_;dsimp only));refine bx (N:=3) (cs:=#[.int .u64 d3,.int .u64 d4,.int .u8 d7,.string d9,.string e6,.bool e4,.int .u64 f9,.int .u64 e7,.slice k0 d8.length k5,.slice k8 d6.length k9]) (t:=28) ⟨mvW HB.out⟩ ?_;clear HB;intro R3 hg w9 hb F7 fk8 HB;have jy6:=fk8;have fq6:=nbl hg D5;have fq7:=nbg hg D5;replace D5:=AM (blk_below (mvB D5.out) hb);clear hb hg)));(replace D5:=AM (blk_drew D5.out));(replace F7:=AM (blk_drew F7.out));(replace HB:=AM (below_drew1 HB.out));(refine start_ (n:=33) (S:=fun w'=>w'.cell? ⟨R2,0,none⟩=some (.int .u64 a5)∧w'.cell? ⟨R2,1,none⟩=some (.int .u64 a7)∧w'.cell? ⟨R2,2,none⟩=some (.int .u8 a8)∧w'.cell? ⟨R2,3,none⟩=some (.string b7)∧w'.cell? ⟨R2,4,none⟩=some (.string b6)∧w'.cell? ⟨R2,5,none⟩=some (.bool b9)∧w'.cell? ⟨R2,6,none⟩=some (.int .u64 d0)∧w'.cell? ⟨R2,7,none⟩=some (.int .u64 b5)∧w'.cell? ⟨R2,8,none⟩=some (.slice i3 b0.length i4)∧w'.cell? ⟨R2,9,none⟩=some (.slice i7 a6.length i5)∧w'.cell? ⟨R3,0,none⟩=some (.int .u64 d3)∧w'.cell? ⟨R3,1,none⟩=some (.int .u64 d4)∧w'.cell? ⟨R3,2,none⟩=some (.int .u8 d7)∧w'.cell? ⟨R3,3,none⟩=some (.string d9)∧w'.cell? ⟨R3,4,none⟩=some (.string e6)∧w'.cell? ⟨R3,5,none⟩=some (.bool e4)∧w'.cell? ⟨R3,6,none⟩=some (.int .u64 f9)∧w'.cell? ⟨R3,7,none⟩=some (.int .u64 e7)∧w'.cell? ⟨R3,8,none⟩=some (.slice k0 d8.length k5)∧w'.cell? ⟨R3,9,none⟩=some (.slice k8 d6.length k9)) (ds:=[]) (bm 33 0) (by kernel_rfl) rfl rfl (ap10 (bc10 D5.out) (bc10 F7.out)) (fun b8=>?_);refine with_tabW merge_Beside.tab1 merge_Beside.bits1 (fun HT_ HW_=>?_));(generalize w9.drew=w10 at D5 F7 HB b8 ⊢);(refine tk 0 5 (bv 1 32) HT_ HW_ b8 ?_);(refine tk 2 7 (bm 33 5) HT_ HW_ b8 ?_);(refine on 1 (some 6) (bv 3 30) HT_ (fun K hK=>?_));(refine goes_ Tryz.func37 (by kernel_rfl) rfl #[.agg #[.int .u64 a5,.int .u64 a7,.int .u8 a8,.string b7,.string b6,.bool b9,.int .u64 d0,.int .u64 b5,.slice i3 b0.length i4,.slice i7 a6.length i5]] (by rfl) rfl rfl am ?_);(with_reducible refine (page_Check.calls k a5 a7 a8 b7 b6 b9 d0 b5 _ _ b0 _ _ a6 ak9 _ ?side1 ?side2 ?side3 ?side4 A3.out).mono ?_);((case side1=>exact mvC (Kd.C_below n5.out HB.out)));((case side2=>exact n6.out));((case side3=>exact mvC (Kd.C_below m9.out HB.out)));((case side4=>exact n9.out));(rintro e w11 ⟨rfl,hb⟩);(refine ⟨_,rfl,?_⟩);(replace D5:=AM (blk_below (mvB D5.out) hb));(replace F7:=AM (blk_below (mvB F7.out) hb));(replace HB:=AM (below_step (mvW HB.out) hb));(clear hb);(refine hK.out _ _ (ap10 (bc10 D5.out) (bc10 F7.out)) (fun b8=>?_));(clear hK K);(refine nm 6 ?_);(refine on 3 (some 8) (bv 4 29) HT_ (fun K hK=>?_));(refine goes_ Tryz.func37 (by kernel_rfl) rfl #[.agg #[.int .u64 d3,.int .u64 d4,.int .u8 d7,.string d9,.string e6,.bool e4,.int .u64 f9,.int .u64 e7,.slice k0 d8.length k5,.slice k8 d6.length k9]] (by rfl) rfl rfl am ?_);(with_reducible refine (page_Check.calls k d3 d4 d7 d9 e6 e4 f9 e7 _ _ d8 _ _ d6 al0 _ ?side1 ?side2 ?side3 ?side4 A4.out).mono ?_);((case side1=>exact mvC (Kd.C_below y6.out HB.out)));((case side2=>exact y9.out));((case side3=>exact mvC (Kd.C_below u6.out HB.out)));((case side4=>exact B8.out));(rintro e w12 ⟨rfl,hb⟩);(refine ⟨_,rfl,?_⟩);(replace D5:=AM (blk_below (mvB D5.out) hb));(replace F7:=AM (blk_below (mvB F7.out) hb));(replace HB:=AM (below_step (mvW HB.out) hb));(clear hb);(refine hK.out _ _ (ap10 (bc10 D5.out) (bc10 F7.out)) (fun b8=>?_));(clear hK K);(refine nm 8 ?_);(refine on 4 (some 9) (bv 5 28) HT_ (fun K hK=>?_));(refine Kd.R_lit_step (Kd.int .i64) _ 34 ?hg (N:=9) ?hd (xs:=([ak9,al0]:List Int)) (inner:=[.int .i64 ak9,.int .i64 al0]) (ok:=fun _=>True) (okp:=fun _=>True) ?hr ?hp (fun _ hk=>hk) trivial (Below.refl _ _) (Nat.le_refl _) (by simp) ?_;(case hd=>rfl);(case hg=>rfl);(case hr=>first|(go_simp;done)|(go_simp;rfl));(case hp=>exact (Reps.one (show Kd.M (Kd.int .i64) _ _ _ ak9 [.int .i64 ak9] from rfl) (Reps.one (show Kd.M (Kd.int .i64) _ _ _ al0 [.int .i64 al0] from rfl) (Reps.none _ _)))));(intro kr0 w13 ee9 hb hg_ hnew_);(clear hg_ hnew_);((first|rw [← Ny150.out] at ee9|(simp only [Int.reduceToNat] at ee9;rw [← Ny150.out] at ee9)));(have ax8:=AM (Kd.R_lower ee9 (below_size (mvW HB.out))));(replace D5:=AM (blk_below (mvB D5.out) hb));(replace F7:=AM (blk_below (mvB F7.out) hb));(replace HB:=AM (below_step (mvW HB.out) hb));(clear hb ee9);(obtain ⟨kr1,kr2,eo15⟩:=Kd.R_slice ax8.out);((first|subst eo15|(injection eo15 with f1_ f2_ f3_;have f4_:=f1_.symm;have f5_:=f3_.symm;clear f1_ f2_ f3_;subst f4_;subst f5_)));(refine hK.out _ _ (ap10 (bc10 D5.out) (bc10 F7.out)) (fun b8=>?_));(clear hK K);(refine nm 9 ?_);(refine on 5 (some 10) (bv 6 27) HT_ (fun K hK=>?_));(refine goes_ Tryz.func36 (by kernel_rfl) rfl #[.int .i64 0,.slice kr1 y150.length kr2] (by rfl) rfl rfl am ?_);(with_reducible refine (api_Errno.calls k 0 _ _ y150 true _ ?side1 ?side2 A5.out).mono ?_);((case side1=>exact mvC (Kd.R_reads' ax8.out).2.2));((case side2=>exact (Kd.R_reads' ax8.out).2.1));(rintro e w' ⟨rfl,⟨nd,rfl⟩⟩);(refine ⟨_,rfl,?_⟩);(refine hK.out _ _ (ap10 (bc10 D5.out) (bc10 F7.out)) (fun b8=>?_));(clear hK K);(refine nm 10 ?_);(refine pu 6 11 (bv 7 26) HT_ ?_);(refine pu 7 12 (bv 8 25) HT_ ?_);(refine pu 9 14 (bm 33 767) HT_ ?_);(refine pu 12 17 (bm 33 4863) HT_ ?_);(refine pu 14 19 (bm 33 21247) HT_ ?_);(refine pu 17 22 (bm 33 152319) HT_ ?_);(refine pu 19 24 (bm 33 676607) HT_ ?_);(refine pu 22 27 (bm 33 4870911) HT_ ?_);(refine pu 24 29 (bm 33 21648127) HT_ ?_);(refine pu 26 31 (bm 33 88756991) HT_ ?_);(refine tk 8 13 (bm 33 88757247) HT_ HW_ b8 ?_);(refine tk 10 15 (bm 33 88758271) HT_ HW_ b8 ?_);(refine pu 11 16 (bm 33 88760319) HT_ ?_);(refine tk 13 18 (bm 33 88768511) HT_ HW_ b8 ?_);(refine tk 15 20 (bm 33 88801279) HT_ HW_ b8 ?_);(refine pu 16 21 (bm 33 88866815) HT_ ?_);(refine tk 18 23 (bm 33 89128959) HT_ HW_ b8 ?_);(refine tk 20 25 (bm 33 90177535) HT_ HW_ b8 ?_);(refine pu 21 26 (bm 33 92274687) HT_ ?_);(refine tk 23 28 (bm 33 100663295) HT_ HW_ b8 ?_);(refine tk 25 30 (bv 27 6) HT_ HW_ b8 ?_);(refine tk 27 32 (bv 28 5) HT_ HW_ b8 ?_);(refine pu 28 33 (bv 29 4) HT_ ?_);(refine on 29 (some 34) (bv 30 3) HT_ (fun K hK=>?_));(refine Kd.R_lit_step Kd.bool _ 4 ?hg (N:=34) ?hd (xs:=([(a8==d7),(a7==d3),(d4 != a5),b9,(b6.toList==d9.toList)]:List Bool)) (inner:=[.bool (a8==d7),.bool (a7==d3),.bool (d4 != a5),.bool b9,.bool (b6.toList==d9.toList)]) (ok:=fun _=>True) (okp:=fun _=>True) ?hr ?hp (fun _ hk=>hk) trivial (Below.refl _ _) (Nat.le_refl _) (by simp) ?_;(case hd=>rfl);(case hg=>rfl);(case hr=>first|(go_simp;done)|(go_simp;rfl));(case hp=>exact (Reps.one (show Kd.M Kd.bool _ _ _ (a8==d7) [.bool (a8==d7)] from rfl) (Reps.one (show Kd.M Kd.bool _ _ _ (a7==d3) [.bool (a7==d3)] from rfl) (Reps.one (show Kd.M Kd.bool _ _ _ (d4 != a5) [.bool (d4 != a5)] from rfl) (Reps.one (show Kd.M Kd.bool _ _ _ b9 [.bool b9] from rfl) (Reps.one (show Kd.M Kd.bool _ _ _ (b6.toList==d9.toList) [.bool (b6.toList==d9.toList)] from rfl) (Reps.none _ _))))))));(intro pa7 w16 ef0 hb hg_ hnew_);(clear hg_ hnew_);((first|rw [← Ny154.out] at ef0|(simp only [Int.reduceToNat] at ef0;rw [← Ny154.out] at ef0)));(replace ax8:=AM (Kd.R_below (mvR ax8.out) hb));(have fk9:=AM (Kd.R_lower ef0 (below_size (mvW HB.out))));(replace D5:=AM (blk_below (mvB D5.out) hb));(replace F7:=AM (blk_below (mvB F7.out) hb));(replace HB:=AM (below_step (mvW HB.out) hb));(clear hb ef0);(obtain ⟨kr3,kr4,eo18⟩:=Kd.R_slice fk9.out);((first|subst eo18|(injection eo18 with f1_ f2_ f3_;have f4_:=f1_.symm;have f5_:=f3_.symm;clear f1_ f2_ f3_;subst f4_;subst f5_)));(refine hK.out _ _ (ap10 (bc10 D5.out) (bc10 F7.out)) (fun b8=>?_));(clear hK K);(refine nm 34 ?_);(refine on 30 (some 35) (bv 31 2) HT_ (fun K hK=>?_));(refine goes_ Tryz.func44 (by kernel_rfl) rfl #[.bool true,.slice kr3 y154.length kr4] (by rfl) rfl rfl am ?_);(with_reducible refine (merge_every_bool.calls k true _ _ y154 bt7 _ ?side1 ?side2 A7.out).mono ?_);((case side1=>exact mvC (Kd.R_reads' fk9.out).2.2));((case side2=>exact (Kd.R_reads' fk9.out).2.1));(rintro e w' ⟨rfl,⟨nd,rfl⟩⟩);(refine ⟨_,rfl,?_⟩);(refine hK.out _ _ (ap10 (bc10 D5.out) (bc10 F7.out)) (fun b8=>?_));(clear hK K);(refine nm 35 ?_);(refine pu 31 36 (bv 32 1) HT_ ?_);(refine pu 32 4 (bv 33 0) HT_ ?_);(refine done_ (done_of HT_.out (by kernel_rfl)) ?_);(try go_wp2);(go_ret);(exact ⟨rv,mvW HB.out⟩)
 ·(replace c6:=Bool.eq_false_iff.mpr c6);(subst c6);(rw [if_neg (by first|decide|simp)] at H);(obtain rfl:=Option.some.inj H);(go_enter Tryz.func13,Tryz.ntmps13);(try go_wp2_with (first|((with_reducible refine gate_dst (N:=2) rfl ?_);(try (refine gate_guard (by rfl) ?_;dsimp only));refine bx (N:=2) (cs:=#[.int .u64 a5,.int .u64 a7,.int .u8 a8,.string b7,.string b6,.bool b9,.int .u64 d0,.int .u64 b5,.slice i3 b0.length i4,.slice i7 a6.length i5]) (t:=28) ⟨mvW HB.out⟩ ?_;clear HB;intro R2 hg w19 hb D5 fk7 HB;have jy5:=fk7;clear hb hg)|((with_reducible refine gate_dst (N:=3) rfl ?_);(try (refine gate_guard (by rfl) ?_;dsimp only));refine bx (N:=3) (cs:=#[.int .u64 d3,.int .u64 d4,.int .u8 d7,.string d9,.string e6,.bool e4,.int .u64 f9,.int .u64 e7,.slice k0 d8.length k5,.slice k8 d6.length k9]) (t:=28) ⟨mvW HB.out⟩ ?_;clear HB;intro R3 hg w20 hb F7 fk8 HB;have jy6:=fk8;have fq6:=nbl hg D5;have fq7:=nbg hg D5;replace D5:=AM (blk_below (mvB D5.out) hb);clear hb hg)));(replace D5:=AM (blk_drew D5.out));(replace F7:=AM (blk_drew F7.out));(replace HB:=AM (below_drew1 HB.out));(refine start_ (n:=33) (S:=fun w'=>w'.cell? ⟨R2,0,none⟩=some (.int .u64 a5)∧w'.cell? ⟨R2,1,none⟩=some (.int .u64 a7)∧w'.cell? ⟨R2,2,none⟩=some (.int .u8 a8)∧w'.cell? ⟨R2,3,none⟩=some (.string b7)∧w'.cell? ⟨R2,4,none⟩=some (.string b6)∧w'.cell? ⟨R2,5,none⟩=some (.bool b9)∧w'.cell? ⟨R2,6,none⟩=some (.int .u64 d0)∧w'.cell? ⟨R2,7,none⟩=some (.int .u64 b5)∧w'.cell? ⟨R2,8,none⟩=some (.slice i3 b0.length i4)∧w'.cell? ⟨R2,9,none⟩=some (.slice i7 a6.length i5)∧w'.cell? ⟨R3,0,none⟩=some (.int .u64 d3)∧w'.cell? ⟨R3,1,none⟩=some (.int .u64 d4)∧w'.cell? ⟨R3,2,none⟩=some (.int .u8 d7)∧w'.cell? ⟨R3,3,none⟩=some (.string d9)∧w'.cell? ⟨R3,4,none⟩=some (.string e6)∧w'.cell? ⟨R3,5,none⟩=some (.bool e4)∧w'.cell? ⟨R3,6,none⟩=some (.int .u64 f9)∧w'.cell? ⟨R3,7,none⟩=some (.int .u64 e7)∧w'.cell? ⟨R3,8,none⟩=some (.slice k0 d8.length k5)∧w'.cell? ⟨R3,9,none⟩=some (.slice k8 d6.length k9)) (ds:=[]) (bm 33 0) (by kernel_rfl) rfl rfl (ap10 (bc10 D5.out) (bc10 F7.out)) (fun b8=>?_);refine with_tabW merge_Beside.tab1 merge_Beside.bits1 (fun HT_ HW_=>?_));(generalize w20.drew=w21 at D5 F7 HB b8 ⊢);(refine tk 0 5 (bv 1 32) HT_ HW_ b8 ?_);(refine tk 2 7 (bm 33 5) HT_ HW_ b8 ?_);(refine on 1 (some 6) (bv 3 30) HT_ (fun K hK=>?_));(refine goes_ Tryz.func37 (by kernel_rfl) rfl #[.agg #[.int .u64 a5,.int .u64 a7,.int .u8 a8,.string b7,.string b6,.bool b9,.int .u64 d0,.int .u64 b5,.slice i3 b0.length i4,.slice i7 a6.length i5]] (by rfl) rfl rfl am ?_);(with_reducible refine (page_Check.calls k a5 a7 a8 b7 b6 b9 d0 b5 _ _ b0 _ _ a6 ak9 _ ?side1 ?side2 ?side3 ?side4 A3.out).mono ?_);((case side1=>exact mvC (Kd.C_below n5.out HB.out)));((case side2=>exact n6.out));((case side3=>exact mvC (Kd.C_below m9.out HB.out)));((case side4=>exact n9.out));(rintro e w22 ⟨rfl,hb⟩);(refine ⟨_,rfl,?_⟩);(replace D5:=AM (blk_below (mvB D5.out) hb));(replace F7:=AM (blk_below (mvB F7.out) hb));(replace HB:=AM (below_step (mvW HB.out) hb));(clear hb);(refine hK.out _ _ (ap10 (bc10 D5.out) (bc10 F7.out)) (fun b8=>?_));(clear hK K);(refine nm 6 ?_);(refine on 3 (some 8) (bv 4 29) HT_ (fun K hK=>?_));(refine goes_ Tryz.func37 (by kernel_rfl) rfl #[.agg #[.int .u64 d3,.int .u64 d4,.int .u8 d7,.string d9,.string e6,.bool e4,.int .u64 f9,.int .u64 e7,.slice k0 d8.length k5,.slice k8 d6.length k9]] (by rfl) rfl rfl am ?_);(with_reducible refine (page_Check.calls k d3 d4 d7 d9 e6 e4 f9 e7 _ _ d8 _ _ d6 al0 _ ?side1 ?side2 ?side3 ?side4 A4.out).mono ?_);((case side1=>exact mvC (Kd.C_below y6.out HB.out)));((case side2=>exact y9.out));((case side3=>exact mvC (Kd.C_below u6.out HB.out)));((case side4=>exact B8.out));(rintro e w23 ⟨rfl,hb⟩);(refine ⟨_,rfl,?_⟩);(replace D5:=AM (blk_below (mvB D5.out) hb));(replace F7:=AM (blk_below (mvB F7.out) hb));(replace HB:=AM (below_step (mvW HB.out) hb));(clear hb);(refine hK.out _ _ (ap10 (bc10 D5.out) (bc10 F7.out)) (fun b8=>?_));(clear hK K);(refine nm 8 ?_);(refine on 4 (some 9) (bv 5 28) HT_ (fun K hK=>?_));(refine Kd.R_lit_step (Kd.int .i64) _ 34 ?hg (N:=9) ?hd (xs:=([ak9,al0]:List Int)) (inner:=[.int .i64 ak9,.int .i64 al0]) (ok:=fun _=>True) (okp:=fun _=>True) ?hr ?hp (fun _ hk=>hk) trivial (Below.refl _ _) (Nat.le_refl _) (by simp) ?_;(case hd=>rfl);(case hg=>rfl);(case hr=>first|(go_simp;done)|(go_simp;rfl));(case hp=>exact (Reps.one (show Kd.M (Kd.int .i64) _ _ _ ak9 [.int .i64 ak9] from rfl) (Reps.one (show Kd.M (Kd.int .i64) _ _ _ al0 [.int .i64 al0] from rfl) (Reps.none _ _)))));(intro kr0 w24 ef1 hb hg_ hnew_);(clear hg_ hnew_);((first|rw [← Ny150.out] at ef1|(simp only [Int.reduceToNat] at ef1;rw [← Ny150.out] at ef1)));(have ax8:=AM (Kd.R_lower ef1 (below_size (mvW HB.out))));(replace D5:=AM (blk_below (mvB D5.out) hb));(replace F7:=AM (blk_below (mvB F7.out) hb));(replace HB:=AM (below_step (mvW HB.out) hb));(clear hb ef1);(obtain ⟨kr5,kr6,eo26⟩:=Kd.R_slice ax8.out);((first|subst eo26|(injection eo26 with f1_ f2_ f3_;have f4_:=f1_.symm;have f5_:=f3_.symm;clear f1_ f2_ f3_;subst f4_;subst f5_)));(refine hK.out _ _ (ap10 (bc10 D5.out) (bc10 F7.out)) (fun b8=>?_));(clear hK K);(refine nm 9 ?_);(refine on 5 (some 10) (bv 6 27) HT_ (fun K hK=>?_));(refine goes_ Tryz.func36 (by kernel_rfl) rfl #[.int .i64 0,.slice kr5 y150.length kr6] (by rfl) rfl rfl am ?_);(with_reducible refine (api_Errno.calls k 0 _ _ y150 false _ ?side1 ?side2 A5.out).mono ?_);((case side1=>exact mvC (Kd.R_reads' ax8.out).2.2));((case side2=>exact (Kd.R_reads' ax8.out).2.1));(rintro e w' ⟨rfl,⟨nd,rfl⟩⟩);(refine ⟨_,rfl,?_⟩);(refine hK.out _ _ (ap10 (bc10 D5.out) (bc10 F7.out)) (fun b8=>?_));(clear hK K);(refine nm 10 ?_);(refine pu 6 11 (bv 7 26) HT_ ?_);(refine pn 7 12 (bv 8 25) HT_ ?_);(refine pn 8 13 (bv 9 24) HT_ ?_);(refine pn 9 14 (bv 10 23) HT_ ?_);(refine pn 10 15 (bv 11 22) HT_ ?_);(refine pn 11 16 (bv 12 21) HT_ ?_);(refine pn 12 17 (bv 13 20) HT_ ?_);(refine pn 13 18 (bv 14 19) HT_ ?_);(refine pn 14 19 (bv 15 18) HT_ ?_);(refine pn 15 20 (bv 16 17) HT_ ?_);(refine pn 16 21 (bv 17 16) HT_ ?_);(refine pn 17 22 (bv 18 15) HT_ ?_);(refine pn 18 23 (bv 19 14) HT_ ?_);(refine pn 19 24 (bv 20 13) HT_ ?_);(refine pn 20 25 (bv 21 12) HT_ ?_);(refine pn 21 26 (bv 22 11) HT_ ?_);(refine pn 22 27 (bv 23 10) HT_ ?_);(refine pn 23 28 (bv 24 9) HT_ ?_);(refine pn 24 29 (bv 25 8) HT_ ?_);(refine pn 25 30 (bv 26 7) HT_ ?_);(refine pn 26 31 (bv 27 6) HT_ ?_);(refine pn 27 32 (bv 28 5) HT_ ?_);(refine pn 28 33 (bv 29 4) HT_ ?_);(refine pn 29 34 (bv 30 3) HT_ ?_);(refine pn 30 35 (bv 31 2) HT_ ?_);(refine pu 31 36 (bv 32 1) HT_ ?_);(refine pu 32 4 (bv 33 0) HT_ ?_);(refine done_ (done_of HT_.out (by kernel_rfl)) ?_);(try go_wp2);(go_ret);(exact ⟨rv,mvW HB.out⟩)

/-! ### slices_Clone_uint64_uint64: function 38 -/
def slices_Clone_uint64_uint64.f (l0:List Int):Option (List Int):=if l0.length < 17592186044416 then some l0 else none
set_option maxHeartbeats 4000000 in
theorem slices_Clone_uint64_uint64.calls (A0:Option Addr) (c0:Nat) (l0:List Int) (r:List Int) (w:World) (hr0:Kd.C (Kd.int .u64) w A0 l0.length l0) (hc0:l0.length≤c0) (h:slices_Clone_uint64_uint64.f l0=some r):
  Calls Tryz.prog 38 #[.slice A0 l0.length c0] w fun e w'=>∃ v0_:Value,e=.returned (v0_)∧Kd.R (Kd.int .u64) 22 w' w.heap.size (fun _=>True) v0_ r∧Below w.heap.size w w':=by
 unfold slices_Clone_uint64_uint64.f at h
 by_cases hl:l0.length < 17592186044416
 ·rw [if_pos hl] at h
  obtain rfl:=Option.some.inj h
  have HL:=AM hl
  have HR:=AM hr0
  clear h hl hr0
  rcases A0 with _ |ad
  ·obtain rfl:l0=[]:=by
    rcases Nat.eq_zero_or_pos l0.length with h0|h0
    ·exact List.eq_nil_of_length_eq_zero h0
    ·obtain ⟨ad,h,_⟩:=HR.out.2.2 h0
     cases h
   have he:=fun w=>Lib.run_eql_slice_nil (P:=Tryz.prog) w 23 22 none ([]:List Int).length c0 0 0 Tryz.underlying23
   simp only [Option.isNone,List.length_nil] at he
   go_enter Tryz.func38,Tryz.ntmps38
   go_wp2
   go_ret
   exact ⟨_,rfl,Kd.R_nil _ _ _ _ _,Below.refl _ _⟩
  ·have he:=fun w=>Lib.run_eql_slice_nil (P:=Tryz.prog) w 23 22 (some ad) l0.length c0 0 0 Tryz.underlying23
   simp only [Option.isNone,List.length_nil] at he
   go_enter Tryz.func38,Tryz.ntmps38
   go_wp2_with (first|((with_reducible refine gate_dst (N:=5) rfl ?_);refine Kd.R_lit (Kd.int .u64) _ 22 ?hg (N:=5) ?hd (xs:=([]:List Int)) (inner:=[]) (ok:=fun _=>True) (okp:=fun _=>True) ?hr ?hp (fun _ hk=>hk) trivial (Below.refl _ _) (Nat.le_refl _) (by simp) ?_;(case hd=>rfl);(case hg=>rfl);(case hr=>first|(go_simp;done)|(go_simp;rfl));(case hp=>exact Reps.none _ _);intro v5 w5 ho5 hb5 hg_ hnew_;clear hg_ hnew_;have HO:=AM ho5;have HB:=AM hb5;clear ho5 hb5)|((with_reducible refine gate_builtin (b:=.append) (xs:=#[.tmp 5,.tmp 6]) rfl ?_);at_builtin;refine Kd.R_append_rows (Kd.int .u64) (w0:=w) w.heap.size rfl (.tmp 5) (.tmp 6) 23 22 (.int .u64 0) 8 rfl Tryz.underlying23 info22 rfl (by decide) (by omega) v5 ([]:List Int) l0 _ _ _ (fun _=>True) (fun _=>False) rfl rfl ?aO ?aR (fun _ _ h=>h) (fun _ h=>h.elim) ?aF ?aB ?aS ?aL ?_;(case aO=>exact HO.out);(case aR=>exact Kd.C_below HR.out HB.out);(case aF=>exact fun _ _=>trivial);(case aB=>exact HB.out);(case aS=>exact below_size HB.out);(case aL=>have:=HL.out;simp only [List.length_nil];omega);intro v6 w6 ho6 hb6 hg6 hat6;rw [List.nil_append] at ho6;have HO6:=AM ho6;have HB6:=AM hb6;clear ho6 hb6 hg6 hat6))
   go_ret
   exact ⟨_,rfl,HO6.out,HB6.out⟩
 ·rw [if_neg hl] at h
  cases h

/-! ### api_Cell: function 39 -/
section
open Go.Shelf Go.Lib
def api_Cell_ren:Go.Shelf.Ren:=⟨fun|4=>75|n=>n,fun|22=>26|25=>42|n=>n,fun n=>n⟩
theorem api_Cell_lays:Lays8.n4 Tryz.prog api_Cell_ren where
 mixed:=by kernel_rfl
 f4:=⟨Tryz.f75.name,by kernel_rfl,Tryz.func75.trans (congrArg some (by kernel_rfl))⟩
 t0:=Tryz.underlying0
 a0:=Tryz.isAgg0
 z0:=Tryz.sizeOf0
 v0:=Tryz.zeroValue0
 t3:=Tryz.underlying3
 a3:=Tryz.isAgg3
 z3:=Tryz.sizeOf3
 v3:=Tryz.zeroValue3
 t4:=Tryz.underlying4
 a4:=Tryz.isAgg4
 z4:=Tryz.sizeOf4
 v4:=Tryz.zeroValue4
 t9:=Tryz.underlying9
 a9:=Tryz.isAgg9
 z9:=Tryz.sizeOf9
 v9:=Tryz.zeroValue9
 t20:=Tryz.underlying20
 a20:=Tryz.isAgg20
 z20:=Tryz.sizeOf20
 v20:=Tryz.zeroValue20
 t22:=Tryz.underlying26
 a22:=Tryz.isAgg26
 z22:=Tryz.sizeOf26
 v22:=Tryz.zeroValue26
theorem api_Cell_grow (n:Nat) (hn:n * 32≤140737488355328) (w:World):Calls Tryz.prog 75 #[.slice none 0 0,.int .i64 (n:Int)] w fun e w'=>
  ∃ v:Value,e=.returned v∧Kd.R k42 42 w' w.heap.size (fun _=>True) v []∧Below w.heap.size w w':=by
 rcases Nat.eq_zero_or_pos n with rfl|h0
 ·refine (Any8.slices_Grow_room api_Cell_lays none 0 0 0 w (Nat.le_refl _) (by decide) (by decide) (by decide)).mono ?_
  rintro e w' ⟨rfl,rfl⟩
  exact ⟨_,rfl,Kd.R_nil _ _ _ _ _,Below.refl _ _⟩
 ·obtain ⟨i0,hi,hzz⟩:=Option.map_eq_some_iff.1 info42
  simp only [Prod.mk.injEq] at hzz
  obtain ⟨hz0,hz1,hz2⟩:=hzz
  refine (Any8.slices_Grow_grow api_Cell_lays i0 (.agg #[.string ⟨#[]⟩,.string ⟨#[]⟩]) hi hz0 (by rw [hz1];decide) none 0 0 n [] w (Nat.le_refl _) (by omega) (by rw [hz2];omega) (by omega) (by simp) (fun _=>rfl) (fun a h=>by cases h)).mono ?_
  rintro e w' ⟨rfl,rfl⟩
  have e1:api_Cell_ren.t 25=42:=rfl
  have hc:=grownCap_le_maxLen w n 0 42 (by unfold maxLen;omega)
  have hg:=grownCap_ge w n 0 42
  rw [e1,Nat.zero_add]
  refine ⟨_,rfl,own_fresh trivial (Nat.le_refl _) (by have h:=blk_new w.drew (.cells (([]:List Value).toArray++Builtin.zeroCells (Value.agg #[.string ⟨#[]⟩,.string ⟨#[]⟩]).cells (n - 0)++Builtin.zeroCells (Value.agg #[.string ⟨#[]⟩,.string ⟨#[]⟩]).cells (grownCap w n 0 42 - n)) 42);exact h) hc ?_,below_alloc (below_drew1 (Below.refl _ _)) _⟩
  have es:(Value.agg #[.string ⟨#[]⟩,.string ⟨#[]⟩]).cells.size=2:=by kernel_rfl
  have ed:(k42).sz=2:=rfl
  rw [Array.size_append,Array.size_append,size_zeroCells,size_zeroCells,es,ed]
  simp
  omega
end
/-- Concat of two rows of cells: both, one behind the other, in a row of its own. -/
def api_Cell.f (k:Nat) (l0:List S42) (l1:List S42):Option (List S42):=if l0.length+l1.length < 4398046511104 then some (l0++l1) else none
set_option maxHeartbeats 4000000 in
theorem api_Cell.calls (k:Nat) (A0:Option Addr) (c0:Nat) (l0:List S42) (A1:Option Addr) (c1:Nat) (l1:List S42) (r:List S42) (w:World) (hA:Kd.C k42 w A0 l0.length l0) (hc0:l0.length≤c0) (hB:Kd.C k42 w A1 l1.length l1) (hc1:l1.length≤c1) (h:api_Cell.f k l0 l1=some r) (b:Nat) (hb:w.heap[b]? =some (.cells #[.slice A0 l0.length c0,.slice A1 l1.length c1] 26 (0,0))):
  Calls Tryz.prog 39 #[.slice (some ⟨b,0,none⟩) 2 2] w fun e w'=>∃ v:Value,e=.returned v∧Kd.R k42 42 w' w.heap.size (fun _=>True) v r∧Below w.heap.size w w':=by
 unfold api_Cell.f at h
 by_cases hl:l0.length+l1.length < 4398046511104
 case neg=>rw [if_neg hl] at h;cases h
 rw [if_pos hl] at h
 obtain rfl:=Option.some.inj h
 have HA:=AM hA
 have HB':=AM hB
 have HL:=AM hl
 have BL:=AM hb
 have h0:=(blk_cell hb 0).trans rfl
 have h1:=(blk_cell hb 1).trans rfl
 clear hA hB hb h
 have e1:wrap64 (l0.length:Int)=l0.length:=by unfold wrap64;omega
 have e2:wrap64 ((l0.length:Int)+(l1.length:Int))=((l0.length+l1.length:Nat):Int):=by unfold wrap64;omega
 have hG:∀ W,Calls Tryz.prog 75 #[.slice none 0 0,.int .i64 (wrap64 ((l0.length:Int)+(l1.length:Int)))] W fun e w'=>∃ v:Value,e=.returned v∧Kd.R k42 42 w' W.heap.size (fun _=>True) v []∧Below W.heap.size W w':=fun W=>by
  rw [e2];exact api_Cell_grow (l0.length+l1.length) (by omega) W
 have hd:decide (wrap64 ((l0.length:Int)+(l1.length:Int)) < 0)=false:=decide_eq_false (by rw [e2];omega)
 have hd1:decide (wrap64 (l0.length:Int) < 0)=false:=decide_eq_false (by rw [e1];omega)
 have HG:=AM hG
 clear hl e2 hG
 go_enter Tryz.func39,Tryz.ntmps39
 go_wp2
 refine wp_loop_rounds 3 ?_
 rw [rounds_succ]
 go_wp2
 rw [rounds_succ]
 go_wp2
 rw [rounds_succ]
 go_wp2_with (go_at_call 75;refine (HG.out _).mono ?_;rintro e w1 ⟨v,rfl,hr,hbb⟩;have HR:=AM hr;have HB:=AM hbb;have B1:=AM (blk_below BL.out hbb);clear hr hbb;have g0:=(blk_cell B1.out 0).trans rfl;have g1:=(blk_cell B1.out 1).trans rfl)
 refine wp_loop_rounds 3 ?_
 rw [rounds_succ]
 go_wp2_with ((with_reducible refine gate_builtin (b:=.append) (xs:=#[.tmp 31,.tmp 32]) rfl ?_);at_builtin;(refine Kd.R_append_rows k42 (w0:=w) w.heap.size rfl (.tmp 31) (.tmp 32) 26 42 (.agg #[(.string ⟨#[]⟩),(.string ⟨#[]⟩)]) 32 rfl Tryz.underlying26 info42 rfl (by decide) (by omega) v [] l0 A0 l0.length c0 (fun _=>True) (fun _=>False) rfl rfl ?aO ?aR (fun _ _ h=>h) (fun _ h=>h.elim) ?aF ?aB ?aS ?aL ?_;(case aR=>exact Kd.C_below HA.out HB.out);(case aB=>exact HB.out);(case aF=>exact fun _ _=>trivial);(case aO=>exact HR.out);(case aS=>exact below_size HB.out);(case aL=>have:=HL.out;simp;omega);intro v1 w2 ho hb hg hat;have HO1:=AM ho;have I5:=AM hb;have B2:=AM (blk_below BL.out hb);have k1:=(blk_cell B2.out 1).trans rfl;clear ho hb hg hat))
 rw [rounds_succ]
 go_wp2_with ((with_reducible refine gate_builtin (b:=.append) (xs:=#[.tmp 31,.tmp 32]) rfl ?_);at_builtin;(refine Kd.R_append_rows k42 (w0:=w) w.heap.size rfl (.tmp 31) (.tmp 32) 26 42 (.agg #[(.string ⟨#[]⟩),(.string ⟨#[]⟩)]) 32 rfl Tryz.underlying26 info42 rfl (by decide) (by omega) v1 ([]++l0) l1 A1 l1.length c1 (fun _=>True) (fun _=>False) rfl rfl ?aO ?aR (fun _ _ h=>h) (fun _ h=>h.elim) ?aF ?aB ?aS ?aL ?_;(case aR=>exact Kd.C_below HB'.out I5.out);(case aB=>exact I5.out);(case aF=>exact fun _ _=>trivial);(case aO=>exact HO1.out);(case aS=>exact below_size I5.out);(case aL=>have:=HL.out;simp;omega);intro v2 w3 ho hb hg hat;have HO2:=AM ho;have HB2:=AM hb;clear ho hb hg hat))
 rw [rounds_succ]
 go_wp2
 go_ret
 exact ⟨_,rfl,HO2.out,HB2.out⟩

/-! ### lsns_Raise: function 76 -/
theorem lsns_Raise_filter_next (l:List Int) (p:Int→Bool) (j:Nat) (h:j < l.length):(l.take (j+1)).filter p=(l.take j).filter p++(if p (rd l (j:Int))=true then [rd l (j:Int)] else []):=by
 have e:rd l (j:Int)=l[j]:=by unfold rd;simp [h]
 rw [e,List.take_add_one,List.filter_append,List.getElem?_eq_getElem h]
 cases hp:p l[j] <;> simp [hp]
set_option maxHeartbeats 4000000 in
theorem lsns_Raise_kept_calls (g:Nat) (cb:Array Value) (A0:Option Addr) (c0:Nat) (l0:List Int) (p:Int→Bool) (w:World) (eg:∀ args w,(callFunc g args).run Tryz.prog w=.ok (.enter g args) w) (hsz:l0.length < 17592186044416) (hr0:Kd.C (Kd.int .u64) w A0 l0.length l0)
  (hf:∀ (W:World) (x:Int),Below w.heap.size w W→Calls Tryz.prog g (#[.int .u64 x]++cb) W fun e w'=>e=.returned (.bool (p x))∧Below W.heap.size W w'):
  Calls Tryz.prog 102 #[.slice A0 l0.length c0,.func (.func g) #[] cb] w fun e w'=>∃ v0_:Value,e=.returned v0_∧Kd.R (Kd.int .u64) 22 w' w.heap.size (fun _=>True) v0_ (l0.filter p)∧Below w.heap.size w w':=by
 have HF:Aside0 _:=⟨hf⟩
 have HR:=AM hr0
 have HL:=AM hsz
 clear hf hr0 hsz
 go_enter Tryz.func102,Tryz.ntmps102
 go_wp2
 go_loopg [5,10] l0.length (fun kx s5 s10 wr=>∃ (j:Nat),s10=.int .i64 j∧j≤l0.length∧l0.length - j≤kx∧Aside0 (Below w.heap.size w wr)∧Aside0 (Kd.R (Kd.int .u64) 22 wr w.heap.size (fun _=>True) s5 ((l0.take j).filter p)))
 case atStart=>exact ⟨0,rfl,Nat.zero_le _,Nat.le_refl _,⟨Below.refl _ _⟩,⟨Kd.R_nil _ _ _ _ _⟩⟩
 case round=>
  obtain ⟨j,rfl,hj,hg,HB,HO⟩:=hrel
  by_cases hlt:j < l0.length
  ·have hlt':(j:Int) < (l0.length:Int):=by omega
   obtain ⟨ad,e,hx⟩:=Kd.at_int HR.out (j:Int) (by omega) hlt'
   cases e
   rw [Int.toNat_natCast] at hx
   replace hx:=ct HB hx
   have hc:=HF.out wr (rd l0 (j:Int)) HB.out
   have hn:=AM (lsns_Raise_filter_next l0 p j hlt)
   have hj1:wrap64 ((j:Int)+1)=((j+1:Nat):Int):=by have:=HL.out;unfold wrap64;omega
   have hlen:((l0.take j).filter p).length≤l0.length:=Nat.le_trans (List.length_filter_le _ _) (by rw [List.length_take];omega)
   have HN:=AM hlen
   clear hlen
   revert hx hc hn
   generalize rd l0 (j:Int)=x
   intro hx hc hn
   cases hp:p x <;> rw [hp] at hc
   ·have hn':(l0.take (j+1)).filter p=(l0.take j).filter p:=by rw [hn.out,hp];simp
    have HM:=AM hn'
    clear hn hn' hp
    go_wp2_with (go_at_fn g;refine hc.mono ?_;rintro e w1 ⟨rfl,hb1⟩)
    go_roundg (l0.length - (j+1))
    case measure=>omega
    case rel=>exact ⟨j+1,by rw [hj1],by omega,Nat.le_refl _,⟨below_step HB.out hb1⟩,⟨HM.out ▸ Kd.R_below HO.out hb1⟩⟩
   ·have hn':(l0.take (j+1)).filter p=(l0.take j).filter p++[x]:=by rw [hn.out,hp];simp
    have HM:=AM hn'
    clear hn hn' hp
    go_wp2_with (first|(go_at_fn g;refine hc.mono ?_;rintro e w1 ⟨rfl,hb1⟩;have I5:=AM (below_step HB.out hb1);have HO1:=AM (Kd.R_below HO.out hb1);clear hb1)|((with_reducible refine gate_builtin (b:=.append) (xs:=#[.tmp 17,.tmp 19]) rfl ?_);at_builtin;refine Kd.R_append (Kd.int .u64) (w0:=w) w.heap.size rfl (.tmp 17) (.tmp 19) 23 22 (.int .u64 0) 8 rfl Tryz.underlying23 info22 rfl (by decide) (by omega) u5 ((l0.take j).filter p) x [.int .u64 x] (fun _=>True) (fun _=>False) rfl rfl ?aP (fun _ hk=>hk.elim) ?aF ?aO ?aB ?aS ?aL ?_;(case aP=>exact rfl);(case aB=>exact I5.out);(case aF=>exact fun _ _=>trivial);(case aO=>exact HO1.out);(case aS=>exact below_size I5.out);(case aL=>have:=HL.out;have:=HN.out;omega);intro v2 w2 ho2 hb2 hg2 hat2;clear hg2 hat2;have HO2:=AM ho2;have HB2:=AM hb2;clear ho2 hb2))
    go_roundg (l0.length - (j+1))
    case measure=>omega
    case rel=>exact ⟨j+1,by rw [hj1],by omega,Nat.le_refl _,⟨HB2.out⟩,⟨HM.out ▸ HO2.out⟩⟩
  ·obtain rfl:j=l0.length:=by omega
   have hO:=HO.out
   rw [List.take_length] at hO
   have HO1:=AM hO
   clear hO HO
   go_wp2
   go_ret
   exact ⟨_,rfl,HO1.out,HB.out⟩
theorem lsns_Raise_raise_clo_calls (bx:Nat) (x y:Int) (W:World) (hx:W.cell? ⟨bx,0,none⟩=some (.int .u64 x)):
  Calls Tryz.prog 103 (#[.int .u64 y]++#[.pointer (some ⟨bx,0,none⟩)]) W fun e w'=>e=.returned (.bool (decide (y > x)))∧Below W.heap.size W w':=by
 go_enter Tryz.func103,Tryz.ntmps103
 go_wp2
 go_ret
 exact ⟨by first|rfl|simp,Below.refl _ _⟩
def lsns_Raise.f (k:Nat) (a5:Int) (d5:List Int) (a1:Int):Option (Int×List Int×Int):=
 (lsns_Right.f k a5 d5).bind fun b=>if b=true then (if d5.length < 17592186044416 then some (mx a1 a5,d5.filter (fun x=>decide (x > mx a1 a5)),0) else none) else some (0,[],40)
def lsns_Raise.T4:Bool×List (List Nat×List Nat):=(true,[([],[]),([],[]),([1],[1]),([],[]),([2,3],[2,3]),([0,4],[0,4]),([5,4,0,1,2,3,4,5],[5]),([6,0,1,2,3,4,5,6],[])])
def lsns_Raise.B4:List Nat:=[0,0,2,0,14,31,63,127]
theorem lsns_Raise.tab4:rtab .any (opsOf Tryz.f76 4)=lsns_Raise.T4:=by kernel_rfl
theorem lsns_Raise.bits4:waitsOk lsns_Raise.T4.2 lsns_Raise.B4=true:=by kernel_rfl
set_option maxHeartbeats 4000000 in
theorem lsns_Raise.calls (k:Nat) (a5:Int) (o1:Option Addr) (n7:Nat) (d5:List Int) (a1:Int) (r1:Int) (r2:List Int) (r3:Int) (w:World) (F9:Kd.C (Kd.int .u64) w o1 d5.length d5) (G9:d5.length≤n7) (h:lsns_Raise.f k a5 d5 a1=some (r1,r2,r3)):
  Calls Tryz.prog 76 #[.agg #[.int .u64 a5,.slice o1 d5.length n7],.int .u64 a1] w fun e w'=>∃ v1_:Value,e=.returned (.tuple #[.agg #[.int .u64 r1,v1_],.int .i64 r3])∧Kd.R (Kd.int .u64) 22 w' w.heap.size (fun _=>True) v1_ r2∧Below w.heap.size w w':=by

 obtain ⟨b,hb,h⟩:=Option.bind_eq_some_iff.1 h
 have hu25:=Tryz.underlying25
 have HR:=AM F9
 have HRight:=AM hb
 clear F9 hb
 obtain ⟨W0,hW0⟩:∃ W0,W0=((w.alloc (.cells #[.int .u64 a5,.slice o1 d5.length n7] 25)).alloc (.cells #[.int .u64 a1] 22)).alloc (.cells #[.int .u64 0,.slice none 0 0] 25):=⟨_,rfl⟩
 have hB0:Below w.heap.size w W0:=by rw [hW0];exact below_alloc (below_alloc (below_alloc (Below.refl _ _) _) _) _
 have b2:W0.heap[w.heap.size]? =some (.cells #[.int .u64 a5,.slice o1 d5.length n7] 25 (0,0)):=by
  rw [hW0];exact blk_alloc (blk_alloc (blk_new w _) _) _
 have b3:W0.heap[w.heap.size+1]? =some (.cells #[.int .u64 a1] 22 (0,0)):=by
  have hb:=blk_new (w.alloc (.cells #[.int .u64 a5,.slice o1 d5.length n7] 25)) (.cells #[.int .u64 a1] 22)
  rw [World.size_alloc] at hb
  rw [hW0];exact blk_alloc hb _
 have b4:W0.heap[w.heap.size+1+1]? =some (.cells #[.int .u64 0,.slice none 0 0] 25 (0,0)):=by
  have hb:=blk_new ((w.alloc (.cells #[.int .u64 a5,.slice o1 d5.length n7] 25)).alloc (.cells #[.int .u64 a1] 22)) (.cells #[.int .u64 0,.slice none 0 0] 25)
  rw [World.size_alloc,World.size_alloc] at hb
  rw [hW0];exact hb
 have hc:=lsns_Right.calls k a5 o1 n7 d5 b W0 (Kd.C_below HR.out hB0) G9 HRight.out
 have HB0:=AM hB0
 have B2:=AM b2
 have B3:=AM b3
 have B4:=AM b4
 clear b2 b3 b4 hB0
 cases b
 ·rw [if_neg (by simp)] at h
  simp only [Option.some.injEq,Prod.mk.injEq] at h
  obtain ⟨rfl,rfl,rfl⟩:=h
  go_enter Tryz.func76,Tryz.ntmps76
  go_wp2_with (go_at_call 66;rw [← hW0];refine hc.mono ?_;rintro e w1 ⟨rfl,hb⟩;have I5:=AM (below_step HB0.out hb);have C4:=AM (blk_below B4.out hb);clear hb;have hz0:=(blk_cell C4.out 0).trans rfl;have hz1:=(blk_cell C4.out 1).trans rfl;have hf0:=blk_frozen C4.out 0;have hf1:=blk_frozen C4.out 1)
  refine bodyPost_ret (results_ct rfl _ _ (w.heap.size+1+1) 25 #[.int .u64 0,.slice none 0 0] (0,0) _ rfl (by refine blk_put (cs:=#[.int .u64 0,.slice none 0 0]) ?_ 1 _ rfl;refine blk_put (cs:=#[.int .u64 0,.slice none 0 0]) ?_ 0 _ rfl;exact C4.out) Tryz.underlying25 rfl (by kernel_rfl)) rfl ?_
  exact ⟨_,rfl,Kd.R_nil _ _ _ _ _,below_set (below_set I5.out (by show w.heap.size≤w.heap.size+1+1;omega)) (by show w.heap.size≤w.heap.size+1+1;omega)⟩
 ·by_cases hl:d5.length < 17592186044416
  ·rw [if_pos rfl,if_pos hl] at h
   simp only [Option.some.injEq,Prod.mk.injEq] at h
   obtain ⟨rfl,rfl,rfl⟩:=h
   have HL:=AM hl
   clear hl
   obtain ⟨m,hm⟩:∃ m,(if a1 < a5 then a5 else a1)=m:=⟨_,rfl⟩
   rw [show mx a1 a5=m from hm]
   go_enter Tryz.func76,Tryz.ntmps76
   go_wp2_with (go_at_call 66;rw [← hW0];refine hc.mono ?_;rintro e w1 ⟨rfl,hb⟩;have I5:=AM (below_step HB0.out hb);have C2:=AM (blk_below B2.out hb);have C3:=AM (blk_below B3.out hb);have C4:=AM (blk_below B4.out hb);clear hb;have hz3:=(blk_cell C3.out 0).trans rfl;have hf3:=blk_frozen C3.out 0;have hz2:=(blk_cell C2.out 0).trans rfl;have hy2:=(blk_cell C2.out 1).trans rfl)
   have D2:Aside0 (((w1.setCell ⟨w.heap.size+1,0,none⟩ (.int .u64 m)).drew).heap[w.heap.size]? =some (.cells #[.int .u64 a5,.slice o1 d5.length n7] 25 (0,0))):=⟨blk_drew (blk_far C2.out (p:=⟨w.heap.size+1,0,none⟩) (by show w.heap.size≠w.heap.size+1;omega) _)⟩
   have D3:Aside0 (((w1.setCell ⟨w.heap.size+1,0,none⟩ (.int .u64 m)).drew).heap[w.heap.size+1]? =some (.cells #[.int .u64 m] 22 (0,0))):=⟨blk_drew ((blk_set C3.out 0 _).trans rfl)⟩
   have D4:Aside0 (((w1.setCell ⟨w.heap.size+1,0,none⟩ (.int .u64 m)).drew).heap[w.heap.size+1+1]? =some (.cells #[.int .u64 0,.slice none 0 0] 25 (0,0))):=⟨blk_drew (blk_far C4.out (p:=⟨w.heap.size+1,0,none⟩) (by show w.heap.size+1+1≠w.heap.size+1;omega) _)⟩
   have HD:=AM (below_drew1 (below_set (g:=w.heap.size+1) (j:=0) (v:=.int .u64 m) I5.out (by omega)))
   clear hc hz3 hf3 hz2 hy2 B2 B3 B4 C2 C3 C4 I5 HB0 hm
   refine start_ (n:=8) (S:=fun w'=>w'.cell? ⟨w.heap.size+1,0,none⟩=some (.int .u64 m)∧w'.cell? ⟨w.heap.size,1,none⟩=some (.slice o1 d5.length n7)) (ds:=[]) (bm 8 0) (by kernel_rfl) rfl rfl ⟨(blk_cell D3.out 0).trans rfl,(blk_cell D2.out 1).trans rfl⟩ (fun b8=>?_)
   refine with_tabW lsns_Raise.tab4 lsns_Raise.bits4 (fun HT_ HW_=>?_)
   generalize ((w1.setCell ⟨w.heap.size+1,0,none⟩ (.int .u64 m)).drew)=w5 at D2 D3 D4 HD b8 ⊢
   (refine pu 1 15 (bm 8 2) HT_ ?_);(refine pu 3 17 (bm 8 10) HT_ ?_);(refine tk 0 14 (bm 8 11) HT_ HW_ b8 ?_);(refine tk 2 16 (bv 4 4) HT_ HW_ b8 ?_);(refine on 4 (some 18) (bv 5 3) HT_ (fun K hK=>?_))
   refine goes_ Tryz.func102 (by kernel_rfl) rfl #[.slice o1 d5.length n7,.func (.func 103) #[] #[.pointer (some ⟨w.heap.size+1,0,none⟩)]] (by rfl) rfl rfl (by (try simp only [List.map_toArray,List.map_cons,List.map_nil]);first|done|rfl|(simp only [*];rfl)) ?_
   refine (lsns_Raise_kept_calls 103 #[.pointer (some ⟨w.heap.size+1,0,none⟩)] o1 n7 d5 (fun x=>decide (x > m)) w5 (enters_of Tryz.func103 (by kernel_rfl) rfl) HL.out (Kd.C_below HR.out HD.out) (fun W x hB=>lsns_Raise_raise_clo_calls (w.heap.size+1) m x W (pw_cell_below hB ((blk_cell D3.out 0).trans rfl)))).mono ?_
   rintro e w6 ⟨v6,rfl,ho,hb⟩
   refine ⟨_,rfl,?_⟩
   have E2:=AM (blk_below D2.out hb)
   have E3:=AM (blk_below D3.out hb)
   have E4:=AM (blk_below D4.out hb)
   have HE:=AM (below_step HD.out hb)
   obtain ⟨ys,hys⟩:∃ ys,ys=d5.filter (fun x=>decide (x > m)):=⟨_,rfl⟩
   rw [← hys] at ho
   have HY:=AM hys
   clear hys
   have HO:=AM (Kd.R_lower ho (below_size HD.out))
   clear ho hb D2 D3 D4 HD
   obtain ⟨Ao,co,eo⟩:=Kd.R_slice HO.out
   subst eo
   refine hK.out _ _ ⟨(blk_cell E3.out 0).trans rfl,(blk_cell E2.out 1).trans rfl⟩ (fun b8=>?_)
   clear hK K
   (refine nm 18 ?_);(refine pu 5 19 (bv 6 2) HT_ ?_);(refine on 6 none (bv 7 1) HT_ (fun K hK=>?_))
   have hs18:w6.cell? ⟨w.heap.size+1+1,0,none⟩=some (.int .u64 0):=(blk_cell E4.out 0).trans rfl
   have hfs18:=blk_frozen E4.out 0
   have hs19:w6.cell? ⟨w.heap.size+1+1,1,none⟩=some (.slice none 0 0):=(blk_cell E4.out 1).trans rfl
   have hfs19:=blk_frozen E4.out 1
   (refine skip_ (w1:=?_) (by rfl) rfl ?_ ?_);(rotate_left)
   ·(go_simp);(rfl)
   (refine hK.out _ _ ⟨((cell_far (p:=⟨w.heap.size+1+1,_,none⟩) (by show w.heap.size+1≠w.heap.size+1+1;omega) _).trans (((cell_far (p:=⟨w.heap.size+1+1,_,none⟩) (by show w.heap.size+1≠w.heap.size+1+1;omega) _).trans (b8.1)))),((cell_far (p:=⟨w.heap.size+1+1,_,none⟩) (by show w.heap.size≠w.heap.size+1+1;omega) _).trans (((cell_far (p:=⟨w.heap.size+1+1,_,none⟩) (by show w.heap.size≠w.heap.size+1+1;omega) _).trans (b8.2))))⟩ (fun b8=>?_));(clear hK K);(refine pu 7 5 (bv 8 0) HT_ ?_);(refine done_ (done_of HT_.out (by kernel_rfl)) ?_);(try go_wp2)
   refine bodyPost_ret (results_ct rfl _ _ (w.heap.size+1+1) 25 #[.int .u64 m,.slice Ao ys.length co] (0,0) _ rfl (by refine blk_put (cs:=#[.int .u64 m,.slice none 0 0]) ?_ 1 _ rfl;refine blk_put (cs:=#[.int .u64 0,.slice none 0 0]) ?_ 0 _ rfl;exact E4.out) Tryz.underlying25 rfl (by kernel_rfl)) rfl ?_
   exact ⟨_,rfl,HY.out ▸ Kd.R_mono (Kd.R_far (p:=⟨w.heap.size+1+1,1,none⟩) (Kd.R_far (p:=⟨w.heap.size+1+1,0,none⟩) (Kd.R_types HO.out E4.out (by decide)) (fun _ hk=>hk.2) (.int .u64 m)) (fun _ hk=>hk.2) (.slice Ao ys.length co)) (fun _ hk=>trivial),below_set (below_set HE.out (by omega)) (by omega)⟩
  ·rw [if_pos rfl,if_neg hl] at h;cases h

/-! ### merge_set_raised: function 40 -/
def merge_set_raised.f (k:Nat) (a5:Int) (d5:List Int) (a1:Int):Option (Int×List Int):=(lsns_Raise.f k a5 d5 a1).bind fun cy5=>(some (cy5.1,cy5.2.1))
theorem merge_set_raised.calls (k:Nat) (a5:Int) (o1:Option Addr) (n7:Nat) (d5:List Int) (a1:Int) (r1:Int) (r2:List Int) (w:World) (F9:Kd.C (Kd.int .u64) w o1 d5.length d5) (G9:d5.length≤n7) (h:merge_set_raised.f k a5 d5 a1=some (r1,r2)):
  Calls Tryz.prog 40 #[.agg #[.int .u64 a5,.slice o1 d5.length n7],.int .u64 a1] w fun e w'=>∃ v1_:Value,e=.returned (.agg #[.int .u64 r1,v1_])∧Kd.R (Kd.int .u64) 22 w' w.heap.size (fun _=>True) v1_ r2∧Below w.heap.size w w':=by
 (have hu79:=Tryz.underlying79);(have hu25:=Tryz.underlying25);(have C8:=AM F9);(have M0:=AM G9);(clear F9 G9);(have HB:=AM (Below.refl w.heap.size w));(have H:((lsns_Raise.f k a5 d5 a1).bind fun cy5=>(some (cy5.1,cy5.2.1)))=some (r1,r2):=h);(clear h);(replace H:=Option.bind_eq_some_iff.mp H);(obtain ⟨⟨ik0,ik1,kr7⟩,A30,H⟩:=H);(have A3:=AM A30);(clear A30);(simp only [Option.some.injEq,Prod.mk.injEq] at H);(obtain ⟨rfl,rfl⟩:=H);(go_enter Tryz.func40,Tryz.ntmps40);(go_wp2_with (first|((with_reducible refine gate_dst (N:=2) rfl ?_);refine bx (N:=2) (cs:=#[.int .u64 a5,.slice o1 d5.length n7]) (t:=79) ⟨mvW HB.out⟩ ?_;clear HB;intro ol3 hg w4 hb aj2 jy7 HB;have ol4:=jy7;clear hb hg)|((with_reducible refine gate_dst (N:=4) rfl ?_);refine bx (N:=4) (cs:=#[.int .u64 0,.slice none 0 0]) (t:=25) ⟨mvW HB.out⟩ ?_;clear HB;intro hj4 hg w5 hb as3 jy8 HB;have ol5:=jy8;have fq8:=nbl hg aj2;have fq9:=nbg hg aj2;replace aj2:=AM (blk_below (mvB aj2.out) hb);clear hb hg;have ko9:=fq8.out;have hnc6:=fq9.out;obtain ⟨ao9,ap0⟩:=bc2 aj2.out;obtain ⟨ap1,ap2⟩:=bf2 aj2.out)|((with_reducible refine gate_callee (f:=76) rfl ?_);refine goesL_ (some 10) rfl rfl Tryz.func76 (by kernel_rfl) rfl #[.agg #[.int .u64 a5,.slice o1 d5.length n7],.int .u64 a1] rfl am ?_;(with_reducible refine (lsns_Raise.calls k a5 _ _ d5 a1 ik0 ik1 kr7 _ ?side1 ?side2 A3.out).mono ?_);(case side1=>exact mvC (Kd.C_below C8.out HB.out));(case side2=>exact M0.out);rintro e w8 ⟨pa8,rfl,m5,hb⟩;refine ⟨_,rfl,?_⟩;have dx9:=AM (Kd.R_lower m5 (below_size (mvW HB.out)));replace aj2:=AM (blk_below (mvB aj2.out) hb);replace as3:=AM (blk_below (mvB as3.out) hb);replace HB:=AM (below_step (mvW HB.out) hb);(try clear hb);(try clear hb2);(try clear hk);(try clear hi);(try clear m5))|((with_reducible refine gate_dst (N:=5) rfl ?_);refine bx (N:=5) (cs:=#[.int .u64 0,.slice none 0 0]) (t:=25) ⟨mvW HB.out⟩ ?_;clear HB;intro jy9 hg w9 hb fl0 jz0 HB;have ol6:=jz0;replace dx9:=AM (Kd.R_below (mvR dx9.out) hb);have fr0:=nbl hg aj2;have fr4:=nbg hg aj2;replace aj2:=AM (blk_below (mvB aj2.out) hb);have fr5:=nbl hg as3;have fr6:=nbg hg as3;replace as3:=AM (blk_below (mvB as3.out) hb);clear hb hg;have cw6:=fr4.out;have hnc10:=fr0.out;have gv1:=fr6.out;have hnc11:=fr5.out;obtain ⟨ar4,ar5⟩:=bc2 fl0.out;obtain ⟨ar6,ar7⟩:=bf2 fl0.out;obtain ⟨kr8,kr9,eo13⟩:=Kd.R_slice dx9.out;subst eo13;obtain ⟨aw9,ax0⟩:=bc2 as3.out;obtain ⟨ax1,ax2⟩:=bf2 as3.out)));(refine bodyPost_ret (results_cell_row rfl _ _ hj4 25 #[.int .u64 ik0,.slice kr8 ik1.length kr9] (0,0) _ rfl (mvP as3.out) Tryz.underlying25 rfl (by kernel_rfl)) rfl ?_);(exact ⟨_,rv,Kd.R_mono (fr2 hj4 jy9 (Kd.R_types (Kd.R_types dx9.out fl0.out (by decide)) as3.out (by decide)) (fun _ hk=>hk.2) (fun _ hk=>hk.1.2)) (fun _ hk=>trivial),mvW HB.out⟩)

/-! ### lsns_Join: function 41 -/
def lsns_Join_l (l m:List Int):List Int:=Go.Lib.compact (sortL (l++m))
/-- Join, whole: both are right, the lows are one: both rows, one behind the other, sorted, each number once. -/
def lsns_Join.f (k:Nat) (a5:Int) (d5:List Int) (d3:Int) (m0:List Int):Option (Int×List Int×Int):=
 (lsns_Right.f k a5 d5).bind fun b=>(lsns_Right.f k d3 m0).bind fun c=>if b=true∧c=true then
  (if a5=d3 then (if d5.length+m0.length < 17592186044416 then (if 1000 < (lsns_Join_l d5 m0).length then some (0,[],6) else some (a5,lsns_Join_l d5 m0,0)) else none) else some (0,[],9)) else some (0,[],40)
set_option maxHeartbeats 4000000 in
theorem lsns_Join.calls (k:Nat) (a5:Int) (o1:Option Addr) (n7:Nat) (d5:List Int) (d3:Int) (T8:Option Addr) (U0:Nat) (m0:List Int) (r1:Int) (r2:List Int) (r3:Int) (w:World) (F9:Kd.C (Kd.int .u64) w o1 d5.length d5) (G9:d5.length≤n7) (be9:Kd.C (Kd.int .u64) w T8 m0.length m0) (bq5:m0.length≤U0) (h:lsns_Join.f k a5 d5 d3 m0=some (r1,r2,r3)):
  Calls Tryz.prog 41 #[.agg #[.int .u64 a5,.slice o1 d5.length n7],.agg #[.int .u64 d3,.slice T8 m0.length U0]] w fun e w'=>∃ v1_:Value,e=.returned (.tuple #[.agg #[.int .u64 r1,v1_],.int .i64 r3])∧Kd.R (Kd.int .u64) 22 w' w.heap.size (fun _=>True) v1_ r2∧Below w.heap.size w w':=by
 obtain ⟨b,hb,h⟩:=Option.bind_eq_some_iff.1 h
 obtain ⟨c,hc,h⟩:=Option.bind_eq_some_iff.1 h
 have hu25:=Tryz.underlying25
 have HR:=AM F9
 have HR2:=AM be9
 have HRight:=AM hb
 have HRight2:=AM hc
 clear F9 hb be9 hc
 obtain ⟨W0,hW0⟩:∃ W0,W0=((w.alloc (.cells #[.int .u64 a5,.slice o1 d5.length n7] 25)).alloc (.cells #[.int .u64 d3,.slice T8 m0.length U0] 25)).alloc (.cells #[.int .u64 0,.slice none 0 0] 25):=⟨_,rfl⟩
 have hB0:Below w.heap.size w W0:=by rw [hW0];exact below_alloc (below_alloc (below_alloc (Below.refl _ _) _) _) _
 have b2:W0.heap[w.heap.size]? =some (.cells #[.int .u64 a5,.slice o1 d5.length n7] 25 (0,0)):=by
  rw [hW0];exact blk_alloc (blk_alloc (blk_new w _) _) _
 have b3:W0.heap[w.heap.size+1]? =some (.cells #[.int .u64 d3,.slice T8 m0.length U0] 25 (0,0)):=by
  have hb:=blk_new (w.alloc (.cells #[.int .u64 a5,.slice o1 d5.length n7] 25)) (.cells #[.int .u64 d3,.slice T8 m0.length U0] 25)
  rw [World.size_alloc] at hb
  rw [hW0];exact blk_alloc hb _
 have b4:W0.heap[w.heap.size+1+1]? =some (.cells #[.int .u64 0,.slice none 0 0] 25 (0,0)):=by
  have hb:=blk_new ((w.alloc (.cells #[.int .u64 a5,.slice o1 d5.length n7] 25)).alloc (.cells #[.int .u64 d3,.slice T8 m0.length U0] 25)) (.cells #[.int .u64 0,.slice none 0 0] 25)
  rw [World.size_alloc,World.size_alloc] at hb
  rw [hW0];exact hb
 have hs0:W0.heap.size=w.heap.size+1+1+1:=by rw [hW0,World.size_alloc,World.size_alloc,World.size_alloc]
 have HS0:=AM hs0
 have hc1:=lsns_Right.calls k a5 o1 n7 d5 b W0 (Kd.C_below HR.out hB0) G9 HRight.out
 have HB0:=AM hB0
 have hc2:=fun (w1:World) (hb:Below W0.heap.size W0 w1)=>lsns_Right.calls k d3 T8 U0 m0 c w1 (Kd.C_below HR2.out (below_step HB0.out hb)) bq5 HRight2.out
 have HC2:=AM hc2
 have B2:=AM b2
 have B3:=AM b3
 have B4:=AM b4
 clear b2 b3 b4 hB0 hc2 hs0
 cases b
 ·rw [if_neg (by simp)] at h
  simp only [Option.some.injEq,Prod.mk.injEq] at h
  obtain ⟨rfl,rfl,rfl⟩:=h
  go_enter Tryz.func41,Tryz.ntmps41
  go_wp2_with (go_at_call 66;rw [← hW0];refine hc1.mono ?_;rintro e w1 ⟨rfl,hb⟩;have I5:=AM (below_step HB0.out hb);have D4:=AM (blk_below B4.out hb);clear hb;have hz0:=(blk_cell D4.out 0).trans rfl;have hz1:=(blk_cell D4.out 1).trans rfl;have hf0:=blk_frozen D4.out 0;have hf1:=blk_frozen D4.out 1)
  refine bodyPost_ret (results_ct rfl _ _ (w.heap.size+1+1) 25 #[.int .u64 0,.slice none 0 0] (0,0) _ rfl (by refine blk_put (cs:=#[.int .u64 0,.slice none 0 0]) ?_ 1 _ rfl;refine blk_put (cs:=#[.int .u64 0,.slice none 0 0]) ?_ 0 _ rfl;exact D4.out) Tryz.underlying25 rfl (by kernel_rfl)) rfl ?_
  exact ⟨_,rfl,Kd.R_nil _ _ _ _ _,below_set (below_set I5.out (by omega)) (by omega)⟩
 cases c
 ·rw [if_neg (by simp)] at h
  simp only [Option.some.injEq,Prod.mk.injEq] at h
  obtain ⟨rfl,rfl,rfl⟩:=h
  go_enter Tryz.func41,Tryz.ntmps41
  go_wp2_with (first|(go_at_call 66;rw [← hW0];refine hc1.mono ?_;rintro e w1 ⟨rfl,hb⟩;have HBX:=AM hb;have I5:=AM (below_step HB0.out hb);have C3:=AM (blk_below B3.out hb);have C4:=AM (blk_below B4.out hb);clear hb;have hz3:=(blk_cell C3.out 0).trans rfl;have hy3:=(blk_cell C3.out 1).trans rfl)|(go_at_call 66;refine (HC2.out _ HBX.out).mono ?_;rintro e w2 ⟨rfl,hb⟩;have HB2:=AM (below_step I5.out hb);have D4:=AM (blk_below C4.out hb);clear hb;have hz0:=(blk_cell D4.out 0).trans rfl;have hz1:=(blk_cell D4.out 1).trans rfl;have hf0:=blk_frozen D4.out 0;have hf1:=blk_frozen D4.out 1))
  refine bodyPost_ret (results_ct rfl _ _ (w.heap.size+1+1) 25 #[.int .u64 0,.slice none 0 0] (0,0) _ rfl (by refine blk_put (cs:=#[.int .u64 0,.slice none 0 0]) ?_ 1 _ rfl;refine blk_put (cs:=#[.int .u64 0,.slice none 0 0]) ?_ 0 _ rfl;exact D4.out) Tryz.underlying25 rfl (by kernel_rfl)) rfl ?_
  exact ⟨_,rfl,Kd.R_nil _ _ _ _ _,below_set (below_set HB2.out (by omega)) (by omega)⟩
 rw [if_pos ⟨rfl,rfl⟩] at h
 by_cases he:a5=d3
 ·rw [if_pos he] at h
  by_cases hl:d5.length+m0.length < 17592186044416
  ·rw [if_pos hl] at h
   have heb:(a5 != d3)=false:=by rw [he];simp
   have HE:=AM he
   have HL:=AM hl
   have HF:=AM h
   clear he hl h
   go_enter Tryz.func41,Tryz.ntmps41
   go_wp2_with (first|(go_at_call 66;rw [← hW0];refine hc1.mono ?_;rintro e w1 ⟨rfl,hb⟩;have HBX:=AM hb;have I5:=AM (below_step HB0.out hb);have C2:=AM (blk_below B2.out hb);have C3:=AM (blk_below B3.out hb);have C4:=AM (blk_below B4.out hb);clear hb;have hz3:=(blk_cell C3.out 0).trans rfl;have hy3:=(blk_cell C3.out 1).trans rfl;have hz2:=(blk_cell C2.out 0).trans rfl;have hy2:=(blk_cell C2.out 1).trans rfl)|(go_at_call 66;refine (HC2.out _ HBX.out).mono ?_;rintro e w2 ⟨rfl,hb⟩;have HS2:=AM (Nat.le_trans (Nat.le_of_eq HS0.out.symm) (Nat.le_trans HBX.out.size hb.size));have HB2:=AM (below_step I5.out hb);have D2:=AM (blk_below C2.out hb);have D3:=AM (blk_below C3.out hb);have D4:=AM (blk_below C4.out hb);clear hb;have gz3:=(blk_cell D3.out 0).trans rfl;have gy3:=(blk_cell D3.out 1).trans rfl;have gz2:=(blk_cell D2.out 0).trans rfl;have gy2:=(blk_cell D2.out 1).trans rfl)|(go_at_call 77;refine (concatU w2.heap.size o1 T8 n7 U0 d5 m0 _ (blk_new w2 _) (Kd.C_below HR.out (below_alloc HB2.out _)) (Kd.C_below HR2.out (below_alloc HB2.out _)) HL.out).mono ?_;rintro e w3 ⟨v3,rfl,ho3,hb3⟩;have HO3:=AM ho3;have HZ3:=AM hb3;clear ho3 hb3)|(go_at_call 78;refine (sortU.calls (fun _=>True) v3 (d5++m0) (sortL (d5++m0)) _ w3 HZ3.out HO3.out (if_pos (by have:=HL.out;rw [List.length_append];omega))).mono ?_;rintro e w4 ⟨rfl,ho4,hb4,hk4⟩;have HO4:=AM ho4;have HZ4:=AM hb4;clear ho4 hb4 hk4)|(go_at_call 79;refine (compactU_R (by have:=HL.out;rw [sortL_length,List.length_append];omega) HZ4.out.size HO4.out).mono ?_;rintro e w5 ⟨v5,rfl,ho5,hb5⟩;have HZ5:=AM (HZ4.out.trans hb5);obtain ⟨A5,c5,e5⟩:=own_slice ho5;have HO5:=AM ho5;clear ho5 hb5;subst e5;have E2:=AM (blk_below (blk_alloc D2.out _) HZ5.out);have E3:=AM (blk_below (blk_alloc D3.out _) HZ5.out);have E4:=AM (blk_below (blk_alloc D4.out _) HZ5.out);have hz0:=(blk_cell E4.out 0).trans rfl;have hz1:=(blk_cell E4.out 1).trans rfl;have hf0:=blk_frozen E4.out 0;have hf1:=blk_frozen E4.out 1;have kz2:=(blk_cell E2.out 0).trans rfl))
   ·have hq:1000 < (lsns_Join_l d5 m0).length:=by unfold lsns_Join_l;omega
    have hF:=HF.out
    rw [if_pos hq] at hF
    simp only [Option.some.injEq,Prod.mk.injEq] at hF
    obtain ⟨rfl,rfl,rfl⟩:=hF
    have HB5:=below_step (below_alloc HB2.out _) HZ5.out
    refine bodyPost_ret (results_ct rfl _ _ (w.heap.size+1+1) 25 #[.int .u64 0,.slice none 0 0] (0,0) _ rfl (by refine blk_put (cs:=#[.int .u64 0,.slice none 0 0]) ?_ 1 _ rfl;refine blk_put (cs:=#[.int .u64 0,.slice none 0 0]) ?_ 0 _ rfl;exact E4.out) Tryz.underlying25 rfl (by kernel_rfl)) rfl ?_
    exact ⟨_,rfl,Kd.R_nil _ _ _ _ _,below_set (below_set HB5 (by omega)) (by omega)⟩
   ·have hq:¬ 1000 < (lsns_Join_l d5 m0).length:=by unfold lsns_Join_l;omega
    have hF:=HF.out
    rw [if_neg hq] at hF
    simp only [Option.some.injEq,Prod.mk.injEq] at hF
    obtain ⟨rfl,rfl,rfl⟩:=hF
    have HB5:=below_step (below_alloc HB2.out _) HZ5.out
    have hO:Kd.R (Kd.int .u64) 22 ((w5.setCell ⟨w.heap.size+1+1,0,none⟩ (.int .u64 a5)).setCell ⟨w.heap.size+1+1,1,none⟩ (.slice A5 (Go.Lib.compact (sortL (d5++m0))).length c5)) w.heap.size (fun _=>True) (.slice A5 (Go.Lib.compact (sortL (d5++m0))).length c5) (Go.Lib.compact (sortL (d5++m0))):=by
     rcases own_opened HO5.out with ⟨e1,e2⟩|⟨g,cap,cur,e1,_,hb,hg,h1,h2,h3,h4⟩
     ·rw [e1,e2];exact Kd.R_nil _ _ _ _ _
     ·rw [World.size_alloc] at hb
      have hs:=HS2.out
      rw [e1]
      exact own_closed _ trivial (by omega) (blk_far (blk_far hg (p:=⟨w.heap.size+1+1,0,none⟩) (by show g≠w.heap.size+1+1;omega) _) (p:=⟨w.heap.size+1+1,1,none⟩) (by show g≠w.heap.size+1+1;omega) _) h1 h2 h3 h4
    refine bodyPost_ret (results_ct rfl _ _ (w.heap.size+1+1) 25 #[.int .u64 a5,.slice A5 (Go.Lib.compact (sortL (d5++m0))).length c5] (0,0) _ rfl (by refine blk_put (cs:=#[.int .u64 a5,.slice none 0 0]) ?_ 1 _ rfl;refine blk_put (cs:=#[.int .u64 0,.slice none 0 0]) ?_ 0 _ rfl;exact E4.out) Tryz.underlying25 rfl (by kernel_rfl)) rfl ?_
    exact ⟨_,rfl,hO,below_set (below_set HB5 (by omega)) (by omega)⟩
  ·rw [if_neg hl] at h
   cases h
 ·rw [if_neg he] at h
  simp only [Option.some.injEq,Prod.mk.injEq] at h
  obtain ⟨rfl,rfl,rfl⟩:=h
  have hneb:=bne_iff_ne.mpr he
  clear he
  go_enter Tryz.func41,Tryz.ntmps41
  go_wp2_with (first|(go_at_call 66;rw [← hW0];refine hc1.mono ?_;rintro e w1 ⟨rfl,hb⟩;have HBX:=AM hb;have I5:=AM (below_step HB0.out hb);have C2:=AM (blk_below B2.out hb);have C3:=AM (blk_below B3.out hb);have C4:=AM (blk_below B4.out hb);clear hb;have hz3:=(blk_cell C3.out 0).trans rfl;have hy3:=(blk_cell C3.out 1).trans rfl;have hz2:=(blk_cell C2.out 0).trans rfl;have hy2:=(blk_cell C2.out 1).trans rfl)|(go_at_call 66;refine (HC2.out _ HBX.out).mono ?_;rintro e w2 ⟨rfl,hb⟩;have HB2:=AM (below_step I5.out hb);have D2:=AM (blk_below C2.out hb);have D3:=AM (blk_below C3.out hb);have D4:=AM (blk_below C4.out hb);clear hb;have gz3:=(blk_cell D3.out 0).trans rfl;have gz2:=(blk_cell D2.out 0).trans rfl;have hz0:=(blk_cell D4.out 0).trans rfl;have hz1:=(blk_cell D4.out 1).trans rfl;have hf0:=blk_frozen D4.out 0;have hf1:=blk_frozen D4.out 1))
  refine bodyPost_ret (results_ct rfl _ _ (w.heap.size+1+1) 25 #[.int .u64 0,.slice none 0 0] (0,0) _ rfl (by refine blk_put (cs:=#[.int .u64 0,.slice none 0 0]) ?_ 1 _ rfl;refine blk_put (cs:=#[.int .u64 0,.slice none 0 0]) ?_ 0 _ rfl;exact D4.out) Tryz.underlying25 rfl (by kernel_rfl)) rfl ?_
  exact ⟨_,rfl,Kd.R_nil _ _ _ _ _,below_set (below_set HB2.out (by omega)) (by omega)⟩

end Go.Proofs.YtmfaopjfdedheaaGreat.T
