-- PRINTED by print.py (a twelfth state) out of the translation. Not trusted: Lean checks it.
import Derived.Test.YtoggblomknemoaaSh
import Derived.Test.YtoggblomknemoaaMv
import Derived.Test.YtoggblomknemoaaRx0
import Derived.Test.YtoggblomknemoaaRx2
namespace Go.Proofs.Ytoggblomknemoaa.R
open Go.RowKit Go.Proofs.YtoggblomknemoaaW Go.Proofs.YtoggblomknemoaaW.PrintWords Go.Proofs.YtoggblomknemoaaW.PrintLast Go.Proofs.YtoggblomknemoaaW.PrintMore
attribute [local go_sem] GpMore.bytes_le max2_int min2_int max_two min_two max_three min_three max_four min_four   -- for this text's walks alone
set_option linter.unusedVariables false
set_option linter.unusedSimpArgs false

/-! ### api_Cell_50: function 50 -/
def api_Cell_50.f (l0:List (S42)):Option (List (S42)):=if l0.length < 4398046511104 then some l0 else none
set_option maxHeartbeats 4000000 in
set_option maxRecDepth 100000 in
theorem api_Cell_50.calls (A0:Option Addr) (c0:Nat) (l0:List (S42)) (r:List (S42)) (w:World) (hr0:Kd.C k42 w A0 l0.length l0) (hc0:l0.length≤c0) (h:api_Cell_50.f l0=some r):
  Calls Try.prog 50 #[.slice A0 l0.length c0] w fun e w'=>∃ v0_:Value,e=.returned (v0_)∧Kd.R k42 42 w' w.heap.size (fun _=>True) v0_ r∧Below w.heap.size w w':=by
 unfold api_Cell_50.f at h
 by_cases hl:l0.length < 4398046511104
 ·rw [if_pos hl] at h
  obtain rfl:=Option.some.inj h
  have HL:=Aside0.mk hl
  have HR:=Aside0.mk hr0
  clear h hl hr0
  rcases A0 with _ |ad
  ·obtain rfl:l0=[]:=by
    rcases Nat.eq_zero_or_pos l0.length with h0|h0
    ·exact List.eq_nil_of_length_eq_zero h0
    ·obtain ⟨ad,h,_⟩:=HR.out.2.2 h0
     cases h
   have he:=fun w=>Lib.run_eql_slice_nil (P:=Try.prog) w 22 42 none ([]:List (S42)).length c0 0 0 Try.underlying22
   simp only [Option.isNone,List.length_nil] at he
   go_enter Try.func50,Try.ntmps50
   go_wp2
   go_ret
   exact ⟨_,rfl,Kd.R_nil _ _ _ _ _,Below.refl _ _⟩
  ·have he:=fun w=>Lib.run_eql_slice_nil (P:=Try.prog) w 22 42 (some ad) l0.length c0 0 0 Try.underlying22
   simp only [Option.isNone,List.length_nil] at he
   go_enter Try.func50,Try.ntmps50
   go_wp2_with (first|((with_reducible refine gate_dst (N:=5) rfl ?_);refine Kd.R_lit k42 _ 42 ?hg (N:=5) ?hd (xs:=([]:List (S42))) (inner:=[]) (ok:=fun _=>True) (okp:=fun _=>True) ?hr ?hp (fun _ hk=>hk) trivial (Below.refl _ _) (Nat.le_refl _) (by simp) ?_;(case hd=>rfl);(case hg=>rfl);(case hr=>first|(go_simp;done)|(go_simp;rfl));(case hp=>exact Reps.none _ _);intro v5 w5 ho5 hb5 hg_ hnew_;clear hg_ hnew_;have HO:=Aside0.mk ho5;have HB:=Aside0.mk hb5;clear ho5 hb5)|((with_reducible refine gate_builtin (b:=.append) (xs:=#[.tmp 5,.tmp 6]) rfl ?_);at_builtin;refine Kd.R_append_rows k42 (w0:=w) w.heap.size rfl (.tmp 5) (.tmp 6) 22 42 (.agg #[(.string ⟨#[]⟩),(.string ⟨#[]⟩)]) 32 rfl Try.underlying22 info42 rfl (by decide) (by omega) v5 ([]:List (S42)) l0 _ _ _ (fun _=>True) (fun _=>False) rfl rfl ?aO ?aR (fun _ _ h=>h) (fun _ h=>h.elim) ?aF ?aB ?aS ?aL ?_;(case aO=>exact HO.out);(case aR=>exact Kd.C_below HR.out HB.out);(case aF=>exact fun _ _=>trivial);(case aB=>exact HB.out);(case aS=>exact below_size HB.out);(case aL=>have:=HL.out;simp only [List.length_nil];omega);intro v6 w6 ho6 hb6 hg6 hat6;rw [List.nil_append] at ho6;have HO6:=Aside0.mk ho6;have HB6:=Aside0.mk hb6;clear ho6 hb6 hg6 hat6))
   go_ret
   exact ⟨_,rfl,HO6.out,HB6.out⟩
 ·rw [if_neg hl] at h
  cases h

/-! ### cells_Put: function 35 -/
def cells_Put.j0:Nat→List (S42)→Bool→ByteArray→ByteArray→Option ((List (S42))×Int)
 |0,_,_,_,_=>none
 |k+1,x0,x15,an6,bx6=>if x15=true then (some (([]:List (S42)),100)) else ((cells_At.f k x0 an6).bind fun l5=>(if l5≥0 then (if 0≤l5 then (if l5 < (x0.length:Int) then (if ((rd_T42 x0 l5).f0).toList=an6.toList then ((api_Cell_50.f x0).bind fun aa1=>(if l5 < (aa1.length:Int) then (some ((aa1.set (l5:Int).toNat (⟨an6,bx6⟩:S42)),0)) else (none))) else (if 0≤(wrap64 (l5+1)) then (if (wrap64 (l5+1))≤(x0.length:Int) then ((some (x0.take ((wrap64 (l5+1)):Int).toNat:List (S42))).bind fun y121=>(if y121.length < 4398046511104 then ((some (y121++[(⟨an6,bx6⟩:S42)]:List (S42))).bind fun y125=>((some (x0.drop ((wrap64 (l5+1)):Int).toNat:List (S42))).bind fun y128=>(if y125.length+y128.length < 4398046511104 then (some ((y125++y128),0)) else (none)))) else (none))) else (none)) else (none))) else (none)) else (none)) else (if 0≤(wrap64 (l5+1)) then (if (wrap64 (l5+1))≤(x0.length:Int) then ((some (x0.take ((wrap64 (l5+1)):Int).toNat:List (S42))).bind fun y135=>(if y135.length < 4398046511104 then ((some (y135++[(⟨an6,bx6⟩:S42)]:List (S42))).bind fun y139=>((some (x0.drop ((wrap64 (l5+1)):Int).toNat:List (S42))).bind fun y142=>(if y139.length+y142.length < 4398046511104 then (some ((y139++y142),0)) else (none)))) else (none))) else (none)) else (none))))
def cells_Put.f (k:Nat) (l0:List (S42)) (b7:ByteArray) (d8:ByteArray):Option ((List (S42))×Int):=(cells_Right.f k l0).bind fun cm4=>(if cm4=true then ((cells_cell_right.f b7 d8).bind fun bx7=>(cells_Put.j0 k l0 (!bx7) b7 d8)) else (cells_Put.j0 k l0 true b7 d8))
theorem cells_Put.mono_l:∀ k,(∀ y0 y1 y2 y3,LeO (cells_Put.j0 k y0 y1 y2 y3) (cells_Put.j0 (k+1) y0 y1 y2 y3))
 |0=>fun _ _ _ _ r h=>by simp [cells_Put.j0] at h
 |k+1=>by
  have ih0:=cells_Put.mono_l k
  ·intro y0 y1 y2 y3
   unfold cells_Put.j0
   repeat' first
   |(with_reducible exact ih0 _ _ _ _)
   |(with_reducible exact cells_At.mono _ _ _)
   |(with_reducible exact cells_Right.mono _ _)
   |(with_reducible exact LeO.refl _)
   |(with_reducible exact LeO.none _)
   |(with_reducible refine LeO.ite ?_ ?_)
   |(with_reducible refine LeO.bind ?_ (fun _=>?_))
   |exact ih0 _ _ _ _
   |exact cells_At.mono _ _ _
   |exact cells_Right.mono _ _
   |exact LeO.none _
   |refine LeO.ite ?_ ?_
   |refine LeO.bind ?_ (fun _=>?_)
theorem cells_Put.mono:∀ a0 a1 a2 k,LeO (cells_Put.f k a0 a1 a2) (cells_Put.f (k+1) a0 a1 a2):=by
 intro a0 a1 a2 k
 have ih0:=cells_Put.mono_l k
 unfold cells_Put.f
 repeat' first
   |(with_reducible exact ih0 _ _ _ _)
   |(with_reducible exact cells_At.mono _ _ _)
   |(with_reducible exact cells_Right.mono _ _)
   |(with_reducible exact LeO.refl _)
   |(with_reducible exact LeO.none _)
   |(with_reducible refine LeO.ite ?_ ?_)
   |(with_reducible refine LeO.bind ?_ (fun _=>?_))
   |exact ih0 _ _ _ _
   |exact cells_At.mono _ _ _
   |exact cells_Right.mono _ _
   |exact LeO.none _
   |refine LeO.ite ?_ ?_
   |refine LeO.bind ?_ (fun _=>?_)
def cells_Put.T4:Bool×List (List Nat×List Nat):=(true,[([],[]),([0],[0]),([1],[1]),([2],[2]),([2],[2]),([3,4,2],[2,3,4]),([5,2],[2,5]),([6,2],[2,6]),([2],[2]),([8,2],[2,8]),([7,9,2],[2,7,9]),([2,10],[2,10])])
def cells_Put.B4:List Nat:=[0,1,3,7,7,31,63,127,7,263,1023,2047]
theorem cells_Put.tab4:rtab .any (opsOf Try.f35 4)=cells_Put.T4:=by kernel_rfl
theorem cells_Put.bits4:waitsOk cells_Put.T4.2 cells_Put.B4=true:=by kernel_rfl
def cells_Put.T8:Bool×List (List Nat×List Nat):=(true,[([],[]),([],[]),([1],[1]),([],[]),([3],[3]),([0,2,4],[0,2,4]),([],[]),([6],[6]),([5,7],[5,7]),([],[]),([],[]),([10],[10]),([9,11],[9,11]),([8,12,8],[8,12]),([13,13,0,1,2,3,4,5,6,7,8,9,10,11,12,13],[13]),([14,0,1,2,3,4,5,6,7,8,9,10,11,12,13,14],[])])
def cells_Put.B8:List Nat:=[0,0,2,0,8,31,0,64,255,0,0,1024,3584,8191,16383,32767]
theorem cells_Put.tab8:rtab .any (opsOf Try.f35 8)=cells_Put.T8:=by kernel_rfl
theorem cells_Put.bits8:waitsOk cells_Put.T8.2 cells_Put.B8=true:=by kernel_rfl
set_option maxHeartbeats 8000000 in
set_option maxRecDepth 100000 in
theorem cells_Put.calls (k:Nat) (A0:Option Addr) (c0:Nat) (l0:List (S42)) (b7:ByteArray) (d8:ByteArray) (r1:List (S42)) (r2:Int) (w:World) (hr0:Kd.C k42 w A0 l0.length l0) (hc0:l0.length≤c0) (h:cells_Put.f k l0 b7 d8=some (r1,r2)):
  Calls Try.prog 35 #[.slice A0 l0.length c0,.agg #[.string b7,.string d8]] w fun e w'=>∃ v0_:Value,e=.returned (.tuple #[v0_,.int .i64 r2])∧Kd.R k42 42 w' w.heap.size (fun _=>True) v0_ r1∧Below w.heap.size w w':=by
 (have hu42:=Try.underlying42);(have i3:=Aside0.mk hr0);(have l7:=Aside0.mk hc0);(clear hr0 hc0);(have HB:=Aside0.mk (Below.refl w.heap.size w));(have H:((cells_Right.f k l0).bind fun cm4=>(if cm4=true then ((cells_cell_right.f b7 d8).bind fun bx7=>(cells_Put.j0 k l0 (!bx7) b7 d8)) else (cells_Put.j0 k l0 true b7 d8)))=some (r1,r2):=h);(clear h);(have HC3:=Aside0.mk H);(clear H);(go_enter Try.func35,Try.ntmps35);(go_upto_region 1 with (first|((with_reducible refine gate_dst (N:=3) rfl ?_);refine bx (N:=3) (cs:=#[.string b7,.string d8]) (t:=42) ⟨mvW HB.out⟩ ?_;clear HB;intro G9 hg w4 hb i8 fn4 HB;have ha2:=fn4;clear hb hg)));((try simp only [Act.put,List.setIfInBounds_toArray,List.set_cons_zero,List.set_cons_succ]));(go_cut [15] (fun v15 wc=>∃ (kq:Nat) (ae9:Bool),v15=.bool ae9∧Aside0 (cells_Put.j0 kq l0 ae9 b7 d8=some (r1,r2))∧Aside0 (kq≤k)∧Aside0 (wc.heap[G9]? =some (.cells #[.string b7,.string d8] 42 (0,0)))∧Aside0 (Below w.heap.size w wc)))
 case first=>
  (have H:=HC3.out);(clear HC3);(replace H:=Option.bind_eq_some_iff.mp H);(obtain ⟨cm4,A50,H⟩:=H);(have A5:=Aside0.mk A50);(clear A50);(by_cases c6:cm4=true)
  ·(subst c6);(rw [if_pos rfl] at H);(replace H:=Option.bind_eq_some_iff.mp H);(obtain ⟨bx7,A70,H⟩:=H);(have A7:=Aside0.mk A70);(clear A70);(have H':=Aside0.mk H);(clear H);(go_wp2_with (first|((with_reducible refine gate_callee (f:=28) rfl ?_);refine goesL_ (some 9) rfl rfl Try.func28 (by kernel_rfl) rfl #[.slice A0 l0.length c0] rfl am ?_;(with_reducible refine (cells_Right.calls k _ _ l0 true _ ?side1 ?side2 A5.out).mono ?_);(case side1=>exact mvC (Kd.C_below i3.out HB.out));(case side2=>exact l7.out);rintro e w8 ⟨rfl,hb⟩;refine ⟨_,rfl,?_⟩;replace i8:=Aside0.mk (blk_below (mvB i8.out) hb);replace HB:=Aside0.mk (below_step (mvW HB.out) hb);clear hb;obtain ⟨ai5,ai6⟩:=bc2 i8.out;obtain ⟨ai7,ai8⟩:=bf2 i8.out)|(go_at_call 52;(with_reducible refine (cells_cell_right.calls b7 d8 bx7 _ A7.out).mono ?_);rintro e S6 ⟨rfl,hb⟩;replace i8:=Aside0.mk (blk_below (mvB i8.out) hb);replace HB:=Aside0.mk (below_step (mvW HB.out) hb);(try clear hb);(try clear hb2);(try clear hk);(try clear hi))));(go_meet)
   case rel=>exact ⟨_,(!bx7),sd,H',⟨by first|omega|exact Nat.le_refl _⟩,⟨mvB i8.out⟩,⟨mvW HB.out⟩⟩
  ·(replace c6:=Bool.eq_false_iff.mpr c6);(subst c6);(rw [if_neg (by decide)] at H);(have H':=Aside0.mk H);(clear H);(go_wp2_with (first|((with_reducible refine gate_callee (f:=28) rfl ?_);refine goesL_ (some 9) rfl rfl Try.func28 (by kernel_rfl) rfl #[.slice A0 l0.length c0] rfl am ?_;(with_reducible refine (cells_Right.calls k _ _ l0 false _ ?side1 ?side2 A5.out).mono ?_);(case side1=>exact mvC (Kd.C_below i3.out HB.out));(case side2=>exact l7.out);rintro e w11 ⟨rfl,hb⟩;refine ⟨_,rfl,?_⟩;replace i8:=Aside0.mk (blk_below (mvB i8.out) hb);replace HB:=Aside0.mk (below_step (mvW HB.out) hb);(try clear hb);(try clear hb2);(try clear hk);(try clear hi))));(go_meet)
   case rel=>exact ⟨_,(true),sd,H',⟨by first|omega|exact Nat.le_refl _⟩,⟨mvB i8.out⟩,⟨mvW HB.out⟩⟩
 case rest=>
  (clear HC3);(try clear c2);(try clear p2);(try clear c3);(try clear c6);(try clear ai5 ai6);(try clear ai7 ai8);(obtain ⟨kq,ae9,rfl,HA,P0,i8,HB⟩:=hcut)
  cases kq with
  |zero=>exact absurd HA.out (by simp [cells_Put.j0])
  |succ kj2=>
   (have H:=HA.out);(clear HA);(simp only [cells_Put.j0] at H);(by_cases s7:ae9=true)
   ·(subst s7);(rw [if_pos rfl] at H);(simp only [Option.some.injEq,Prod.mk.injEq] at H);(obtain ⟨rfl,rfl⟩:=H);(go_wp2);(go_ret2);(exact ⟨_,rv,by first|exact Kd.R_nil _ _ _ _ _ |exact Kd.N_nil _ _ _ _ _ |exact Kd.V_nil _ _ _ _ _ |exact Kd.Q_nil _ _ _ _ _ |exact Kd.S_nil _ _ _ _ _,mvW HB.out⟩)
   ·(replace s7:=Bool.eq_false_iff.mpr s7);(subst s7);(rw [if_neg (by decide)] at H);(replace H:=Option.bind_eq_some_iff.mp H);(obtain ⟨l5,A130,H⟩:=H);(have A13:=Aside0.mk A130);(clear A130);(by_cases t7:l5≥0)
    ·(rw [if_pos t7] at H);(have Q6:decide (0≤l5)=true:=decide_eq_true t7);(clear t7);(by_cases t2:0≤l5)
     ·(rw [if_pos t2] at H);(have N5:=decide_eq_true t2);(clear t2);(by_cases C2:l5 < (l0.length:Int))
      ·(rw [if_pos C2] at H);(have az2:=decide_eq_true C2);(clear C2);(by_cases I0:((rd_T42 l0 l5).f0).toList=b7.toList)
       ·(rw [if_pos I0] at H);(have Q7:(((rd_T42 l0 l5).f0).toList==b7.toList)=true:=beq_iff_eq.mpr I0);(have em4:(((rd_T42 l0 l5).f0).toList != b7.toList)=false:=bne_eq_false_iff_eq.mpr I0);(clear I0);(replace H:=Option.bind_eq_some_iff.mp H);(obtain ⟨aa1,A180,H⟩:=H);(have A18:=Aside0.mk A180);(clear A180);(by_cases E4:l5 < (aa1.length:Int))
        ·(rw [if_pos E4] at H);(have ae8:=decide_eq_true E4);(clear E4);(obtain ⟨y120,hy120⟩:∃ y_:List (S42),y_=(aa1.set (l5:Int).toNat (⟨b7,d8⟩:S42)):=⟨_,rfl⟩);(replace H:(some (y120,0))=some (r1,r2):=by first|(rw [hy120];with_reducible exact H)|(have H2_:=(Option.bind_some _ _).symm.trans H;rw [hy120];with_reducible exact H2_)|(have H2_:=(Option.bind_some _ _).symm.trans H;with_reducible exact H2_)|with_reducible exact H|(rw [hy120];exact H)|exact H);(have Ny120:=Aside0.mk hy120);(clear hy120);(simp only [Option.some.injEq,Prod.mk.injEq] at H);(obtain ⟨rfl,rfl⟩:=H);(obtain ⟨aq7,aq8⟩:=bc2 i8.out);(obtain ⟨aq9,ar0⟩:=bf2 i8.out);(try go_wp2_with (first|((with_reducible refine gate_callee (f:=53) rfl ?_);refine goesL_ (some 19) rfl rfl Try.func53 (by kernel_rfl) rfl #[.slice A0 l0.length c0,.string b7] rfl am ?_;(with_reducible refine (cells_At.calls kj2 _ _ l0 b7 l5 _ ?side1 ?side2 A13.out).mono ?_);(case side1=>exact mvC (Kd.C_below i3.out HB.out));(case side2=>exact l7.out);rintro e w22 ⟨rfl,hb⟩;refine ⟨_,rfl,?_⟩;replace i8:=Aside0.mk (blk_below (mvB i8.out) hb);replace HB:=Aside0.mk (below_step (mvW HB.out) hb);(try clear hb);(try clear hb2);(try clear hk);(try clear hi))));(replace i8:=Aside0.mk (blk_drew i8.out));(replace HB:=Aside0.mk (below_drew1 HB.out));(have bg9:0≤(l5:Int):=od);(have bh0:l5 < (l0.length:Int):=od);(obtain ⟨ad116,e116,U5,U6⟩:=at_T42 i3.out l5 bg9 bh0);(have hw116_1:=U6);(have hw116_0:=U5);(cases e116);(replace U5:=ct HB U5);(replace U6:=ct HB U6);(replace bg9:=eq_true bg9);(replace bh0:=eq_true bh0);(refine start_ (n:=12) (S:=fun w'=>w'.cell? ⟨G9,0,none⟩=some (.string b7)∧w'.cell? ⟨G9,1,none⟩=some (.string d8)∧w'.cell? (ad116.add ((l5).toNat * 2))=some (.string ((rd_T42 l0 l5).f0))∧w'.cell? ⟨(ad116.add ((l5).toNat * 2)).block,(ad116.add ((l5).toNat * 2)).off+1,none⟩=some (.string ((rd_T42 l0 l5).f1))) (ds:=[]) #[false,false,false,false,false,false,false,false,false,false,false,false] (by kernel_rfl) rfl rfl ⟨(blk_cell i8.out 0).trans rfl,(blk_cell i8.out 1).trans rfl,(ct HB hw116_0),(ct HB hw116_1)⟩ (fun d4=>?_);refine with_tabW cells_Put.tab4 cells_Put.bits4 (fun HT_ HW_=>?_));(generalize w22.drew=w23 at i8 HB U5 U6 d4 ⊢);(refine pu 0 20 (bv 1 11) HT_ ?_);(refine pu 1 21 (bv 2 10) HT_ ?_);(refine pu 2 22 (bv 3 9) HT_ ?_);(refine pu 3 23 (bv 4 8) HT_ ?_);(refine pu 4 24 (bv 5 7) HT_ ?_);(refine pu 5 25 (bv 6 6) HT_ ?_);(refine pu 6 26 (bv 7 5) HT_ ?_);(refine pu 8 28 #[true,true,true,true,true,true,true,false,true,false,false,false] HT_ ?_);(refine tk 7 27 (bv 9 3) HT_ HW_ d4 ?_);(refine tk 9 29 (bv 10 2) HT_ HW_ d4 ?_);(refine pu 10 30 (bv 11 1) HT_ ?_);(refine pu 11 31 (bv 12 0) HT_ ?_);(refine done_ (done_of HT_.out (by kernel_rfl)) ?_);(try go_wp2_with (first|((with_reducible refine gate_callee (f:=50) rfl ?_);refine goesL_ (some 33) rfl rfl Try.func50 (by kernel_rfl) rfl #[.slice (some ad116) l0.length c0] rfl am ?_;(with_reducible refine (api_Cell_50.calls _ _ l0 aa1 _ ?side1 ?side2 A18.out).mono ?_);(case side1=>exact mvC (Kd.C_below i3.out HB.out));(case side2=>exact l7.out);rintro e w24 ⟨hw3,rfl,i4,hb⟩;refine ⟨_,rfl,?_⟩;have aa2:=Aside0.mk (Kd.R_lower (Kd.R_newB i4 (g:=G9) (o:=.cells #[.string b7,.string d8] 42 (0,0)) (mvB i8.out)) (below_size (mvW HB.out)));replace i8:=Aside0.mk (blk_below (mvB i8.out) hb);replace HB:=Aside0.mk (below_step (mvW HB.out) hb);clear hb i4;obtain ⟨fn5,fn6⟩:=bc2 i8.out;obtain ⟨fn7,fn8⟩:=bf2 i8.out;have p20:0≤(l5:Int):=od;have q20:(l5:Int) < ((aa1.length:Int):Int):=od;obtain ⟨go20,fd2,eo20,fd3,gl20,cl20,fd4⟩:=Kd.R_form aa2.out (by omega);(first|cases eo20|(injection eo20 with ea_ en_ ec_;(first|subst ea_|(injection ea_ with ea_;subst ea_));subst ec_;clear en_));have GB20:=Aside0.mk fd3;have GG20:=Aside0.mk fd4;clear fd3 gl20 fd4;obtain ⟨ce20,hcl20,hM20,hcc20,hfr20⟩:=Kd.R_elem aa2.out z42 (l5:Int) p20 q20;obtain rfl:=k42_openM hM20;have gu1:w24.cell? ⟨go20,(l5:Int).toNat * 2,none⟩=some (.string ((rd_T42 aa1 l5).f0)):=hcc20 0 _ rfl;have gu2:w24.cell? ⟨go20,(l5:Int).toNat * 2+1,none⟩=some (.string ((rd_T42 aa1 l5).f1)):=hcc20 1 _ rfl;have hf20_0:w24.frozen? ⟨go20,(l5:Int).toNat * 2,none⟩=false:=hfr20 0;have hf20_1:w24.frozen? ⟨go20,(l5:Int).toNat * 2+1,none⟩=false:=hfr20 1;clear hcl20 hcc20 hfr20 hM20;replace p20:=eq_true p20;replace q20:=eq_true q20;have n_:=Aside0.mk (Kd.R_mono (ok':=(fun k_=>k_≠G9)) aa2.out (fun k_ hk=>hk.2));clear aa2;have aa2:=n_;clear n_;have fd5:=Aside0.mk (show Kd.R k42 42 w24 w.heap.size (fun k_=>k_≠G9) (.slice (some ⟨go20,0,none⟩) aa1.length fd2) aa1 from (mvR aa2.out));obtain ⟨ce26,hcl26,hM26,hcc26,hfr26⟩:=Kd.R_elem fd5.out z42 (l5:Int) (od) (by have h_:(l5:Int) < ((aa1.length:Int):Int):=od;first|exact h_|(have e_:=(Kd.R_reads' aa2.out).1;omega)|simpa using h_);obtain rfl:=k42_openM hM26;have ef2:=Kd.R_seg fd5.out (l5:Int) (od) (by have h_:(l5:Int) < ((aa1.length:Int):Int):=od;first|exact h_|(have e_:=(Kd.R_reads' aa2.out).1;omega)|simpa using h_) (seg:=[.string b7,.string d8]) (j:=0) hcl26 hcc26 (show 2≤2 from by decide) (x':=(⟨b7,d8⟩:S42)) (k42_mkM _ _ _ (⟨b7,d8⟩:S42)) (fun _ hk=>hk);have fd6:=hcc26 0 _ rfl;(try simp only [show (k42).sz=2 from rfl,Nat.mul_one,Nat.add_zero] at fd6);have hf26_0:=hfr26 0;(try simp only [show (k42).sz=2 from rfl,Nat.mul_one,Nat.add_zero] at hf26_0);have fd7:=hcc26 1 _ rfl;(try simp only [show (k42).sz=2 from rfl,Nat.mul_one,Nat.add_zero] at fd7);have hf26_1:=hfr26 1;(try simp only [show (k42).sz=2 from rfl,Nat.mul_one,Nat.add_zero] at hf26_1);clear hcl26 hcc26 hfr26 hM26)|((with_reducible refine gate_store (t:=42) (p:=37) rfl ?_);refine store_event (t:=42) (p:=37) (v:=?vo_w27) (w1:=((w24.setCell ⟨go20,(l5:Int).toNat * 2,none⟩ (.string b7)).setCell ⟨go20,(l5:Int).toNat * 2+1,none⟩ (.string d8))) ?hg ?ho ?hn ?hr ?_;(case ho=>rfl);(case hg=>rfl);(case hn=>rfl);(case hr=>first|(go_simp;done)|(go_simp;rfl));intro w27 hw;have hg:w24.grownBy w27 (some go20):=(by rw [hw];exact ef2.2);have hp_:Kd.R k42 42 w27 w.heap.size (fun k_=>k_≠G9) (.slice (some ⟨go20,0,none⟩) aa1.length fd2) y120:=(by rw [hw,Ny120.out];exact ef2.1);clear ef2;replace i8:=Aside0.mk (blk_grown (mvB i8.out) hg (Kd.R_away aa2.out (fun _ hk=>hk)));replace aa2:=Aside0.mk (hp_);replace HB:=Aside0.mk ((by rw [hw];exact below_set (below_set (HB.out) GB20.out) GB20.out:Below w.heap.size w w27));clear hg hw hp_)));(go_ret2);(exact ⟨_,rv,by (with_reducible repeat (first|apply Kd.R_alloc|apply Kd.R_drewN|apply Kd.R_drew));exact Kd.R_mono aa2.out (fun _ hk=>trivial),mvW HB.out⟩)
        ·(rw [if_neg E4] at H);(exact absurd H (by simp))
       ·(rw [if_neg I0] at H);(have Q7:(((rd_T42 l0 l5).f0).toList==b7.toList)=false:=beq_eq_false_iff_ne.mpr I0);(have em4:(((rd_T42 l0 l5).f0).toList != b7.toList)=true:=bne_iff_ne.mpr I0);(obtain ⟨ji28,hji28⟩:∃ j_:Int,(wrap64 (l5+1))=j_:=⟨_,rfl⟩);(first|rw [hji28] at H|simp only [hji28] at H);((try rw [hji28] at A13));(have hji28w:(IntKind.i64.wrap (l5+1))=ji28:=(i64_w _).trans hji28);(by_cases c29:0≤(ji28))
        ·(rw [if_pos c29] at H);(have em5:=eq_true c29);(have ha3:=decide_eq_true c29);(clear c29);(by_cases S7:(ji28)≤(l0.length:Int))
         ·(rw [if_pos S7] at H);(have as8:=eq_true S7);(have br0:=decide_eq_true S7);(clear S7);(obtain ⟨y121,hy121⟩:∃ y_:List (S42),y_=(l0.take ((ji28):Int).toNat):=⟨_,rfl⟩);(replace H:(if y121.length < 4398046511104 then ((some (y121++[(⟨b7,d8⟩:S42)]:List (S42))).bind fun y125=>((some (l0.drop ((ji28):Int).toNat:List (S42))).bind fun y128=>(if y125.length+y128.length < 4398046511104 then (some ((y125++y128),0)) else (none)))) else (none))=some (r1,r2):=by first|(rw [hy121];with_reducible exact H)|(have H2_:=(Option.bind_some _ _).symm.trans H;rw [hy121];with_reducible exact H2_)|(have H2_:=(Option.bind_some _ _).symm.trans H;with_reducible exact H2_)|with_reducible exact H|(rw [hy121];exact H)|exact H);(have Ny121:=Aside0.mk hy121);(clear hy121);(by_cases c31:y121.length < 4398046511104)
          ·(rw [if_pos c31] at H);(have LMc31:=Aside0.mk c31);(clear c31);(obtain ⟨y125,hy125⟩:∃ y_:List (S42),y_=(y121++[(⟨b7,d8⟩:S42)]):=⟨_,rfl⟩);(replace H:((some (l0.drop ((ji28):Int).toNat:List (S42))).bind fun y128=>(if y125.length+y128.length < 4398046511104 then (some ((y125++y128),0)) else (none)))=some (r1,r2):=by first|(rw [hy125];with_reducible exact H)|(have H2_:=(Option.bind_some _ _).symm.trans H;rw [hy125];with_reducible exact H2_)|(have H2_:=(Option.bind_some _ _).symm.trans H;with_reducible exact H2_)|with_reducible exact H|(rw [hy125];exact H)|exact H);(have Ny125:=Aside0.mk hy125);(clear hy125);(have fn9:=eq_true (od:0≤(ji28)));(have fo0:=eq_true (od:(ji28)≤(l0.length:Int)));(obtain ⟨y128,hy128⟩:∃ y_:List (S42),y_=(l0.drop ((ji28):Int).toNat):=⟨_,rfl⟩);(replace H:(if y125.length+y128.length < 4398046511104 then (some ((y125++y128),0)) else (none))=some (r1,r2):=by first|(rw [hy128];with_reducible exact H)|(have H2_:=(Option.bind_some _ _).symm.trans H;rw [hy128];with_reducible exact H2_)|(have H2_:=(Option.bind_some _ _).symm.trans H;with_reducible exact H2_)|with_reducible exact H|(rw [hy128];exact H)|exact H);(have Ny128:=Aside0.mk hy128);(clear hy128);(by_cases c34:y125.length+y128.length < 4398046511104)
           ·(rw [if_pos c34] at H);(have LMc34:=Aside0.mk c34);(clear c34);(obtain ⟨y132,hy132⟩:∃ y_:List (S42),y_=(y125++y128):=⟨_,rfl⟩);(replace H:(some (y132,0))=some (r1,r2):=by first|(rw [hy132];with_reducible exact H)|(have H2_:=(Option.bind_some _ _).symm.trans H;rw [hy132];with_reducible exact H2_)|(have H2_:=(Option.bind_some _ _).symm.trans H;with_reducible exact H2_)|with_reducible exact H|(rw [hy132];exact H)|exact H);(have Ny132:=Aside0.mk hy132);(clear hy132);(simp only [Option.some.injEq,Prod.mk.injEq] at H);(obtain ⟨rfl,rfl⟩:=H);(obtain ⟨cy1,cy2⟩:=bc2 i8.out);(obtain ⟨cy3,cy4⟩:=bf2 i8.out);(try go_wp2_with (first|((with_reducible refine gate_callee (f:=53) rfl ?_);refine goesL_ (some 19) rfl rfl Try.func53 (by kernel_rfl) rfl #[.slice A0 l0.length c0,.string b7] rfl am ?_;(with_reducible refine (cells_At.calls kj2 _ _ l0 b7 l5 _ ?side1 ?side2 A13.out).mono ?_);(case side1=>exact mvC (Kd.C_below i3.out HB.out));(case side2=>exact l7.out);rintro e w36 ⟨rfl,hb⟩;refine ⟨_,rfl,?_⟩;replace i8:=Aside0.mk (blk_below (mvB i8.out) hb);replace HB:=Aside0.mk (below_step (mvW HB.out) hb);(try clear hb);(try clear hb2);(try clear hk);(try clear hi))));(replace i8:=Aside0.mk (blk_drew i8.out));(replace HB:=Aside0.mk (below_drew1 HB.out));(have bg9:0≤(l5:Int):=od);(have bh0:l5 < (l0.length:Int):=od);(obtain ⟨ad116,e116,U5,U6⟩:=at_T42 i3.out l5 bg9 bh0);(have hw116_1:=U6);(have hw116_0:=U5);(cases e116);(replace U5:=ct HB U5);(replace U6:=ct HB U6);(replace bg9:=eq_true bg9);(replace bh0:=eq_true bh0);(refine start_ (n:=12) (S:=fun w'=>w'.cell? ⟨G9,0,none⟩=some (.string b7)∧w'.cell? ⟨G9,1,none⟩=some (.string d8)∧w'.cell? (ad116.add ((l5).toNat * 2))=some (.string ((rd_T42 l0 l5).f0))∧w'.cell? ⟨(ad116.add ((l5).toNat * 2)).block,(ad116.add ((l5).toNat * 2)).off+1,none⟩=some (.string ((rd_T42 l0 l5).f1))) (ds:=[]) #[false,false,false,false,false,false,false,false,false,false,false,false] (by kernel_rfl) rfl rfl ⟨(blk_cell i8.out 0).trans rfl,(blk_cell i8.out 1).trans rfl,(ct HB hw116_0),(ct HB hw116_1)⟩ (fun d4=>?_);refine with_tabW cells_Put.tab4 cells_Put.bits4 (fun HT_ HW_=>?_));(generalize w36.drew=w37 at i8 HB U5 U6 d4 ⊢);(refine pu 0 20 (bv 1 11) HT_ ?_);(refine pu 1 21 (bv 2 10) HT_ ?_);(refine pu 2 22 (bv 3 9) HT_ ?_);(refine pu 3 23 (bv 4 8) HT_ ?_);(refine pu 4 24 (bv 5 7) HT_ ?_);(refine pu 5 25 (bv 6 6) HT_ ?_);(refine pu 6 26 (bv 7 5) HT_ ?_);(refine pu 8 28 #[true,true,true,true,true,true,true,false,true,false,false,false] HT_ ?_);(refine tk 7 27 (bv 9 3) HT_ HW_ d4 ?_);(refine tk 9 29 (bv 10 2) HT_ HW_ d4 ?_);(refine pu 10 30 (bv 11 1) HT_ ?_);(refine pu 11 31 (bv 12 0) HT_ ?_);(refine done_ (done_of HT_.out (by kernel_rfl)) ?_);(try go_wp2);(replace i8:=Aside0.mk (blk_drew i8.out));(replace HB:=Aside0.mk (below_drew1 HB.out));(have q39:((ji28):Int)≤((l0.length:Int):Int):=od);(obtain ⟨i039,hi039,_,hsz39,_⟩:=info_parts info42);(have hroom39:l0.length≤c0:=l7.out);(have hC39:Kd.C k42 _ (some ad116) l0.length l0:=i3.out);(have hcut39:=GpMore.cut_to3 (P:=Try.prog) 22 42 .i64 .i64 Try.underlying22 hi039 (some ad116) l0.length c0 (ji28) (od) q39 hroom39);(have hr39:=Kd.C_take (m:=((ji28):Int).toNat) hC39 (by omega));(have hy39:y121.length=((ji28):Int).toNat:=(by rw [Ny121.out,List.length_take];omega));(rw [← Ny121.out] at hr39);(rw [← hy39] at hcut39);(have em6:=Aside0.mk hr39);(have ha4:=Aside0.mk (show y121.length≤y121.length from by omega));(clear hr39 hC39 hroom39 hi039 hsz39);(have KY39:=Aside0.mk hy39);(clear hy39);(replace q39:=eq_true q39);(have q40:((ji28):Int)≤((l0.length:Int):Int):=od);(obtain ⟨i040,hi040,_,hsz40,_⟩:=info_parts info42);(have hroom40:l0.length≤c0:=l7.out);(have hC40:Kd.C k42 _ (some ad116) l0.length l0:=i3.out);(have fx9:(0:Int)≤((ji28):Int):=od);(have hcut40:=cut_from (P:=Try.prog) 22 42 .i64 Try.underlying22 hi040 2 hsz40 (some ad116) l0.length c0 (ji28) fx9 q40);(have hr40:=Kd.C_drop (m:=((ji28):Int).toNat) (c:=c0) hC40 (by omega) hroom40);(obtain ⟨A40,hA40⟩:∃ A1,A1=(if c0=((ji28):Int).toNat then (some ad116) else ((some ad116):Option Addr).map (·.add (((ji28):Int).toNat * 2))):=⟨_,rfl⟩);(obtain ⟨c40,hc40⟩:∃ c1,c1=c0 - ((ji28):Int).toNat:=⟨_,rfl⟩);(have hy40:y128.length=l0.length - ((ji28):Int).toNat:=(by rw [Ny128.out,List.length_drop] <;> omega));(rw [show (l0).drop ((ji28):Int).toNat=y128 from Ny128.out.symm] at hr40);(replace hr40:Kd.C k42 _ A40 y128.length y128:=(by rw [hA40];exact hr40));(rw [← hy40,← hA40,← hc40] at hcut40);(have em7:=Aside0.mk hr40);(have ha5:=Aside0.mk (show y128.length≤c40 from by rw [hy40,hc40];exact Nat.sub_le_sub_right hroom40 _));(clear hr40 hC40 hroom40 hi040 hsz40 hc40);(have KY40:=Aside0.mk hy40);(have KA40:=Aside0.mk hA40);(clear hy40 hA40);(replace q40:=eq_true q40);(refine start_ (n:=16) (S:=fun w'=>w'.cell? ⟨G9,0,none⟩=some (.string b7)∧w'.cell? ⟨G9,1,none⟩=some (.string d8)) (ds:=[]) #[false,false,false,false,false,false,false,false,false,false,false,false,false,false,false,false] (by kernel_rfl) rfl rfl (bc2 i8.out) (fun d4=>?_);refine with_tabW cells_Put.tab8 cells_Put.bits8 (fun HT_ HW_=>?_));(generalize w37.drew=w38 at i8 HB em6 em7 d4 ⊢);(refine pu 0 39 (bv 1 15) HT_ ?_);(refine pu 1 40 (bv 2 14) HT_ ?_);(refine pu 2 41 (bv 3 13) HT_ ?_);(refine pu 3 42 (bv 4 12) HT_ ?_);(refine pu 4 43 (bv 5 11) HT_ ?_);(refine pu 5 44 (bv 6 10) HT_ ?_);(refine pu 9 48 #[true,true,true,true,true,true,false,false,false,true,false,false,false,false,false,false] HT_ ?_);(refine pu 10 49 #[true,true,true,true,true,true,false,false,false,true,true,false,false,false,false,false] HT_ ?_);(refine pu 11 50 #[true,true,true,true,true,true,false,false,false,true,true,true,false,false,false,false] HT_ ?_);(refine pu 12 51 #[true,true,true,true,true,true,false,false,false,true,true,true,true,false,false,false] HT_ ?_);(refine tk 6 45 #[true,true,true,true,true,true,true,false,false,true,true,true,true,false,false,false] HT_ HW_ d4 ?_);(refine on 7 (some 46) #[true,true,true,true,true,true,true,true,false,true,true,true,true,false,false,false] HT_ (fun K hK=>?_));(refine value_ (w1:=?_) (v:=?_) (by rfl) rfl ?_ ?_);(rotate_left 2)
            ·(go_simp);(constructor)
             ·rfl
             ·rfl
            (refine hK.out _ _ ⟨(blk_cell (blk_alloc i8.out _) 0).trans rfl,(blk_cell (blk_alloc i8.out _) 1).trans rfl⟩ (fun d4=>?_));(clear hK K);(refine nm 46 ?_);(refine on 8 (some 47) (bv 13 3) HT_ (fun K hK=>?_));(refine GpMore.R_append_full_step k42 (w0:=w) w.heap.size (by rfl) (.tmp 44) (.tmp 46) 22 42 (.agg #[(.string ⟨#[]⟩),(.string ⟨#[]⟩)]) 32 rfl Try.underlying22 info42 rfl (by decide) (by omega) (.slice (some ad116) y121.length y121.length) y121 (⟨b7,d8⟩:S42) [.string b7,.string d8] (fun k_=>k_≠G9) (fun _=>False) rfl rfl ?aP (fun _ hk=>hk) ?aF (fun _ _ h=>h) ?aO ?aB ?aS ?aL ?_);((case aP=>exact k42_mkM _ _ _ (⟨b7,d8⟩:S42)));((case aB=>exact (mvW HB.out)));((case aF=>exact (fun k_ hk=>Kd.freshB (g:=G9) (o:=.cells #[.string b7,.string d8] 42 (0,0)) (mvB i8.out) k_ hk)));((case aO=>refine ⟨_,rfl,?_⟩;exact mvC (Kd.C_below em6.out HB.out)));((case aS=>exact (below_size (mvW HB.out))));((case aL=>have:=LMc31.out;omega));(intro fy0 w41 ho hb hg hat);(rw [← Ny125.out] at ho);(replace i8:=Aside0.mk (blk_grown (mvB i8.out) hg (by simp [Value.ownBlock])));(replace HB:=Aside0.mk (hb));(have di7:=Aside0.mk (ho));(clear ho hb hg hat);(refine hK.out _ _ (bc2 i8.out) (fun d4=>?_));(clear hK K);(refine nm 47 ?_);(refine on 13 (some 52) (bv 14 2) HT_ (fun K hK=>?_));(refine Kd.R_append_rows_step k42 (w0:=w) w.heap.size (by rfl) (.tmp 47) (.tmp 51) 22 42 (.agg #[(.string ⟨#[]⟩),(.string ⟨#[]⟩)]) 32 rfl Try.underlying22 info42 rfl (by decide) (by omega) fy0 y125 y128 _ _ _ (fun k_=>k_≠G9) (fun _=>False) rfl rfl ?aO ?aR (fun _ _ h=>h) (fun _ h=>h.elim) ?aF ?aB ?aS ?aL ?_);((case aR=>exact mvC (Kd.C_below em7.out HB.out)));((case aB=>exact (mvW HB.out)));((case aF=>exact (fun k_ hk=>Kd.freshB (g:=G9) (o:=.cells #[.string b7,.string d8] 42 (0,0)) (mvB i8.out) k_ hk)));((case aO=>exact (mvR di7.out)));((case aS=>exact (below_size (mvW HB.out))));((case aL=>have:=LMc34.out;omega));(intro hw4 w42 ho hb hg hat);(rw [← Ny132.out] at ho);(replace i8:=Aside0.mk (blk_grown (mvB i8.out) hg (Kd.R_away di7.out (fun _ hk=>hk))));(replace HB:=Aside0.mk (hb));(have fo1:=Aside0.mk (ho));(clear di7);(clear ho hb hg hat);(refine hK.out _ _ (bc2 i8.out) (fun d4=>?_));(clear hK K);(refine nm 52 ?_);(refine pu 14 4 (bv 15 1) HT_ ?_);(refine pu 15 5 (bv 16 0) HT_ ?_);(refine done_ (done_of HT_.out (by kernel_rfl)) ?_);(try go_wp2);(go_ret2);(exact ⟨_,by first|rfl|(simp [errW_none,errW_some] <;> rfl)|(simp only [← hji28];first|rfl|(simp [errW_none,errW_some] <;> rfl))|(simp [*,errW_none,errW_some] <;> rfl),by (with_reducible repeat (first|apply Kd.R_alloc|apply Kd.R_drewN|apply Kd.R_drew));exact Kd.R_mono fo1.out (fun _ hk=>trivial),mvW HB.out⟩)
           ·(rw [if_neg c34] at H);(exact absurd H (by simp))
          ·(rw [if_neg c31] at H);(exact absurd H (by simp))
         ·(rw [if_neg S7] at H);(exact absurd H (by simp))
        ·(rw [if_neg c29] at H);(exact absurd H (by simp))
      ·(rw [if_neg C2] at H);(exact absurd H (by simp))
     ·(rw [if_neg t2] at H);(exact absurd H (by simp))
    ·(rw [if_neg t7] at H);(have Q6:decide (0≤l5)=false:=decide_eq_false t7);(clear t7);(obtain ⟨ji43,hji43⟩:∃ j_:Int,(wrap64 (l5+1))=j_:=⟨_,rfl⟩);(first|rw [hji43] at H|simp only [hji43] at H);((try rw [hji43] at A13));(have hji43w:(IntKind.i64.wrap (l5+1))=ji43:=(i64_w _).trans hji43);(by_cases c44:0≤(ji43))
     ·(rw [if_pos c44] at H);(have ha6:=eq_true c44);(have ha7:=decide_eq_true c44);(clear c44);(by_cases c45:(ji43)≤(l0.length:Int))
      ·(rw [if_pos c45] at H);(have ha8:=eq_true c45);(have ha9:=decide_eq_true c45);(clear c45);(obtain ⟨y135,hy135⟩:∃ y_:List (S42),y_=(l0.take ((ji43):Int).toNat):=⟨_,rfl⟩);(replace H:(if y135.length < 4398046511104 then ((some (y135++[(⟨b7,d8⟩:S42)]:List (S42))).bind fun y139=>((some (l0.drop ((ji43):Int).toNat:List (S42))).bind fun y142=>(if y139.length+y142.length < 4398046511104 then (some ((y139++y142),0)) else (none)))) else (none))=some (r1,r2):=by first|(rw [hy135];with_reducible exact H)|(have H2_:=(Option.bind_some _ _).symm.trans H;rw [hy135];with_reducible exact H2_)|(have H2_:=(Option.bind_some _ _).symm.trans H;with_reducible exact H2_)|with_reducible exact H|(rw [hy135];exact H)|exact H);(have Ny135:=Aside0.mk hy135);(clear hy135);(by_cases c46:y135.length < 4398046511104)
       ·(rw [if_pos c46] at H);(have LMc46:=Aside0.mk c46);(clear c46);(obtain ⟨y139,hy139⟩:∃ y_:List (S42),y_=(y135++[(⟨b7,d8⟩:S42)]):=⟨_,rfl⟩);(replace H:((some (l0.drop ((ji43):Int).toNat:List (S42))).bind fun y142=>(if y139.length+y142.length < 4398046511104 then (some ((y139++y142),0)) else (none)))=some (r1,r2):=by first|(rw [hy139];with_reducible exact H)|(have H2_:=(Option.bind_some _ _).symm.trans H;rw [hy139];with_reducible exact H2_)|(have H2_:=(Option.bind_some _ _).symm.trans H;with_reducible exact H2_)|with_reducible exact H|(rw [hy139];exact H)|exact H);(have Ny139:=Aside0.mk hy139);(clear hy139);(have dg2:=eq_true (od:0≤(ji43)));(have hb0:=eq_true (od:(ji43)≤(l0.length:Int)));(obtain ⟨y142,hy142⟩:∃ y_:List (S42),y_=(l0.drop ((ji43):Int).toNat):=⟨_,rfl⟩);(replace H:(if y139.length+y142.length < 4398046511104 then (some ((y139++y142),0)) else (none))=some (r1,r2):=by first|(rw [hy142];with_reducible exact H)|(have H2_:=(Option.bind_some _ _).symm.trans H;rw [hy142];with_reducible exact H2_)|(have H2_:=(Option.bind_some _ _).symm.trans H;with_reducible exact H2_)|with_reducible exact H|(rw [hy142];exact H)|exact H);(have Ny142:=Aside0.mk hy142);(clear hy142);(by_cases c49:y139.length+y142.length < 4398046511104)
        ·(rw [if_pos c49] at H);(have LMc49:=Aside0.mk c49);(clear c49);(obtain ⟨y146,hy146⟩:∃ y_:List (S42),y_=(y139++y142):=⟨_,rfl⟩);(replace H:(some (y146,0))=some (r1,r2):=by first|(rw [hy146];with_reducible exact H)|(have H2_:=(Option.bind_some _ _).symm.trans H;rw [hy146];with_reducible exact H2_)|(have H2_:=(Option.bind_some _ _).symm.trans H;with_reducible exact H2_)|with_reducible exact H|(rw [hy146];exact H)|exact H);(have Ny146:=Aside0.mk hy146);(clear hy146);(simp only [Option.some.injEq,Prod.mk.injEq] at H);(obtain ⟨rfl,rfl⟩:=H);(obtain ⟨hb7,hc3⟩:=bc2 i8.out);(obtain ⟨hc4,hc5⟩:=bf2 i8.out);(try go_wp2_with (first|((with_reducible refine gate_callee (f:=53) rfl ?_);refine goesL_ (some 19) rfl rfl Try.func53 (by kernel_rfl) rfl #[.slice A0 l0.length c0,.string b7] rfl am ?_;(with_reducible refine (cells_At.calls kj2 _ _ l0 b7 l5 _ ?side1 ?side2 A13.out).mono ?_);(case side1=>exact mvC (Kd.C_below i3.out HB.out));(case side2=>exact l7.out);rintro e w51 ⟨rfl,hb⟩;refine ⟨_,rfl,?_⟩;replace i8:=Aside0.mk (blk_below (mvB i8.out) hb);replace HB:=Aside0.mk (below_step (mvW HB.out) hb);(try clear hb);(try clear hb2);(try clear hk);(try clear hi))));(replace i8:=Aside0.mk (blk_drew i8.out));(replace HB:=Aside0.mk (below_drew1 HB.out));(refine start_ (n:=12) (S:=fun w'=>True) (ds:=[]) #[false,false,false,false,false,false,false,false,false,false,false,false] (by kernel_rfl) rfl rfl trivial (fun d4=>?_);refine with_tabW cells_Put.tab4 cells_Put.bits4 (fun HT_ HW_=>?_));(generalize w51.drew=w52 at i8 HB d4 ⊢);(refine pu 0 20 (bv 1 11) HT_ ?_);(refine pu 1 21 (bv 2 10) HT_ ?_);(refine pu 2 22 (bv 3 9) HT_ ?_);(refine pn 3 23 (bv 4 8) HT_ ?_);(refine pn 4 24 (bv 5 7) HT_ ?_);(refine pn 5 25 (bv 6 6) HT_ ?_);(refine pn 6 26 (bv 7 5) HT_ ?_);(refine pn 7 27 (bv 8 4) HT_ ?_);(refine pn 8 28 (bv 9 3) HT_ ?_);(refine pn 9 29 (bv 10 2) HT_ ?_);(refine pn 10 30 (bv 11 1) HT_ ?_);(refine pu 11 31 (bv 12 0) HT_ ?_);(refine done_ (done_of HT_.out (by kernel_rfl)) ?_);(try go_wp2);(replace i8:=Aside0.mk (blk_drew i8.out));(replace HB:=Aside0.mk (below_drew1 HB.out));(have q54:((ji43):Int)≤((l0.length:Int):Int):=od);(obtain ⟨i054,hi054,_,hsz54,_⟩:=info_parts info42);(have hroom54:l0.length≤c0:=l7.out);(have hC54:Kd.C k42 _ A0 l0.length l0:=i3.out);(have hcut54:=GpMore.cut_to3 (P:=Try.prog) 22 42 .i64 .i64 Try.underlying22 hi054 A0 l0.length c0 (ji43) (od) q54 hroom54);(have hr54:=Kd.C_take (m:=((ji43):Int).toNat) hC54 (by omega));(have hy54:y135.length=((ji43):Int).toNat:=(by rw [Ny135.out,List.length_take];omega));(rw [← Ny135.out] at hr54);(rw [← hy54] at hcut54);(have em8:=Aside0.mk hr54);(have hc6:=Aside0.mk (show y135.length≤y135.length from by omega));(clear hr54 hC54 hroom54 hi054 hsz54);(have KY54:=Aside0.mk hy54);(clear hy54);(replace q54:=eq_true q54);(have q55:((ji43):Int)≤((l0.length:Int):Int):=od);(obtain ⟨i055,hi055,_,hsz55,_⟩:=info_parts info42);(have hroom55:l0.length≤c0:=l7.out);(have hC55:Kd.C k42 _ A0 l0.length l0:=i3.out);(have fy1:(0:Int)≤((ji43):Int):=od);(have hcut55:=cut_from (P:=Try.prog) 22 42 .i64 Try.underlying22 hi055 2 hsz55 A0 l0.length c0 (ji43) fy1 q55);(have hr55:=Kd.C_drop (m:=((ji43):Int).toNat) (c:=c0) hC55 (by omega) hroom55);(obtain ⟨A55,hA55⟩:∃ A1,A1=(if c0=((ji43):Int).toNat then A0 else (A0:Option Addr).map (·.add (((ji43):Int).toNat * 2))):=⟨_,rfl⟩);(obtain ⟨c55,hc55⟩:∃ c1,c1=c0 - ((ji43):Int).toNat:=⟨_,rfl⟩);(have hy55:y142.length=l0.length - ((ji43):Int).toNat:=(by rw [Ny142.out,List.length_drop] <;> omega));(rw [show (l0).drop ((ji43):Int).toNat=y142 from Ny142.out.symm] at hr55);(replace hr55:Kd.C k42 _ A55 y142.length y142:=(by rw [hA55];exact hr55));(rw [← hy55,← hA55,← hc55] at hcut55);(have em9:=Aside0.mk hr55);(have hc7:=Aside0.mk (show y142.length≤c55 from by rw [hy55,hc55];exact Nat.sub_le_sub_right hroom55 _));(clear hr55 hC55 hroom55 hi055 hsz55 hc55);(have KY55:=Aside0.mk hy55);(have KA55:=Aside0.mk hA55);(clear hy55 hA55);(replace q55:=eq_true q55);(refine start_ (n:=16) (S:=fun w'=>w'.cell? ⟨G9,0,none⟩=some (.string b7)∧w'.cell? ⟨G9,1,none⟩=some (.string d8)) (ds:=[]) #[false,false,false,false,false,false,false,false,false,false,false,false,false,false,false,false] (by kernel_rfl) rfl rfl (bc2 i8.out) (fun d4=>?_);refine with_tabW cells_Put.tab8 cells_Put.bits8 (fun HT_ HW_=>?_));(generalize w52.drew=w53 at i8 HB em8 em9 d4 ⊢);(refine pu 0 39 (bv 1 15) HT_ ?_);(refine pu 1 40 (bv 2 14) HT_ ?_);(refine pu 2 41 (bv 3 13) HT_ ?_);(refine pu 3 42 (bv 4 12) HT_ ?_);(refine pu 4 43 (bv 5 11) HT_ ?_);(refine pu 5 44 (bv 6 10) HT_ ?_);(refine pu 9 48 #[true,true,true,true,true,true,false,false,false,true,false,false,false,false,false,false] HT_ ?_);(refine pu 10 49 #[true,true,true,true,true,true,false,false,false,true,true,false,false,false,false,false] HT_ ?_);(refine pu 11 50 #[true,true,true,true,true,true,false,false,false,true,true,true,false,false,false,false] HT_ ?_);(refine pu 12 51 #[true,true,true,true,true,true,false,false,false,true,true,true,true,false,false,false] HT_ ?_);(refine tk 6 45 #[true,true,true,true,true,true,true,false,false,true,true,true,true,false,false,false] HT_ HW_ d4 ?_);(refine on 7 (some 46) #[true,true,true,true,true,true,true,true,false,true,true,true,true,false,false,false] HT_ (fun K hK=>?_));(refine value_ (w1:=?_) (v:=?_) (by rfl) rfl ?_ ?_);(rotate_left 2)
         ·(go_simp);(constructor)
          ·rfl
          ·rfl
         (refine hK.out _ _ ⟨(blk_cell (blk_alloc i8.out _) 0).trans rfl,(blk_cell (blk_alloc i8.out _) 1).trans rfl⟩ (fun d4=>?_));(clear hK K);(refine nm 46 ?_);(refine on 8 (some 47) (bv 13 3) HT_ (fun K hK=>?_));(refine GpMore.R_append_full_step k42 (w0:=w) w.heap.size (by rfl) (.tmp 44) (.tmp 46) 22 42 (.agg #[(.string ⟨#[]⟩),(.string ⟨#[]⟩)]) 32 rfl Try.underlying22 info42 rfl (by decide) (by omega) (.slice A0 y135.length y135.length) y135 (⟨b7,d8⟩:S42) [.string b7,.string d8] (fun k_=>k_≠G9) (fun _=>False) rfl rfl ?aP (fun _ hk=>hk) ?aF (fun _ _ h=>h) ?aO ?aB ?aS ?aL ?_);((case aP=>exact k42_mkM _ _ _ (⟨b7,d8⟩:S42)));((case aB=>exact (mvW HB.out)));((case aF=>exact (fun k_ hk=>Kd.freshB (g:=G9) (o:=.cells #[.string b7,.string d8] 42 (0,0)) (mvB i8.out) k_ hk)));((case aO=>refine ⟨_,rfl,?_⟩;exact mvC (Kd.C_below em8.out HB.out)));((case aS=>exact (below_size (mvW HB.out))));((case aL=>have:=LMc46.out;omega));(intro fy2 w56 ho hb hg hat);(rw [← Ny139.out] at ho);(replace i8:=Aside0.mk (blk_grown (mvB i8.out) hg (by simp [Value.ownBlock])));(replace HB:=Aside0.mk (hb));(have di8:=Aside0.mk (ho));(clear ho hb hg hat);(refine hK.out _ _ (bc2 i8.out) (fun d4=>?_));(clear hK K);(refine nm 47 ?_);(refine on 13 (some 52) (bv 14 2) HT_ (fun K hK=>?_));(refine Kd.R_append_rows_step k42 (w0:=w) w.heap.size (by rfl) (.tmp 47) (.tmp 51) 22 42 (.agg #[(.string ⟨#[]⟩),(.string ⟨#[]⟩)]) 32 rfl Try.underlying22 info42 rfl (by decide) (by omega) fy2 y139 y142 _ _ _ (fun k_=>k_≠G9) (fun _=>False) rfl rfl ?aO ?aR (fun _ _ h=>h) (fun _ h=>h.elim) ?aF ?aB ?aS ?aL ?_);((case aR=>exact mvC (Kd.C_below em9.out HB.out)));((case aB=>exact (mvW HB.out)));((case aF=>exact (fun k_ hk=>Kd.freshB (g:=G9) (o:=.cells #[.string b7,.string d8] 42 (0,0)) (mvB i8.out) k_ hk)));((case aO=>exact (mvR di8.out)));((case aS=>exact (below_size (mvW HB.out))));((case aL=>have:=LMc49.out;omega));(intro hw5 w57 ho hb hg hat);(rw [← Ny146.out] at ho);(replace i8:=Aside0.mk (blk_grown (mvB i8.out) hg (Kd.R_away di8.out (fun _ hk=>hk))));(replace HB:=Aside0.mk (hb));(have fo2:=Aside0.mk (ho));(clear di8);(clear ho hb hg hat);(refine hK.out _ _ (bc2 i8.out) (fun d4=>?_));(clear hK K);(refine nm 52 ?_);(refine pu 14 4 (bv 15 1) HT_ ?_);(refine pu 15 5 (bv 16 0) HT_ ?_);(refine done_ (done_of HT_.out (by kernel_rfl)) ?_);(try go_wp2);(go_ret2);(exact ⟨_,by first|rfl|(simp [errW_none,errW_some] <;> rfl)|(simp only [← hji43];first|rfl|(simp [errW_none,errW_some] <;> rfl))|(simp [*,errW_none,errW_some] <;> rfl),by (with_reducible repeat (first|apply Kd.R_alloc|apply Kd.R_drewN|apply Kd.R_drew));exact Kd.R_mono fo2.out (fun _ hk=>trivial),mvW HB.out⟩)
        ·(rw [if_neg c49] at H);(exact absurd H (by simp))
       ·(rw [if_neg c46] at H);(exact absurd H (by simp))
      ·(rw [if_neg c45] at H);(exact absurd H (by simp))
     ·(rw [if_neg c44] at H);(exact absurd H (by simp))

/-! ### cells_Delete: function 38 -/
theorem cells_slice {w:World} {base:Nat} {ok:Nat→Prop} {v:Value} {xs:List S42} (h:Kd.R k42 42 w base ok v xs):∃ A c,v=.slice A xs.length c:=by
 obtain ⟨_,_,⟨_,ho⟩,_⟩:=h
 rcases ho with ⟨rfl,h0⟩|⟨g,cap,cur,rfl,_⟩
 ·exact ⟨none,0,by rw [h0]⟩
 ·exact ⟨_,_,rfl⟩
theorem cells_base {w:World} {base base':Nat} {ok:Nat→Prop} {v:Value} {xs:List S42} (h:Kd.R k42 42 w base ok v xs) (hb:base'≤base):Kd.R k42 42 w base' ok v xs:=by
 obtain ⟨h0,inner,⟨hl,ho⟩,hr⟩:=h
 refine ⟨h0,inner,⟨hl,?_⟩,hr.imp_ (fun p c hp=>by rw [k42_openM hp];exact k42_mkM _ _ _ _)⟩
 rcases ho with h|⟨g,cap,cur,h1,h2,h3⟩
 ·exact .inl h
 ·exact .inr ⟨g,cap,cur,h1,Nat.le_trans hb h2,h3⟩
theorem cells_Delete_filter_next (l:List S42) (p:S42→Bool) (j:Nat) (h:j < l.length):(l.take (j+1)).filter p=(l.take j).filter p++(if p (rd_T42 l (j:Int))=true then [rd_T42 l (j:Int)] else []):=by
 have e:rd_T42 l (j:Int)=l[j]:=by unfold rd_T42;simp [h]
 rw [e,List.take_add_one,List.filter_append,List.getElem?_eq_getElem h]
 cases hp:p l[j] <;> simp [hp]
set_option maxHeartbeats 4000000 in
set_option maxRecDepth 100000 in
theorem cells_Delete_kept_calls (g:Nat) (cb:Array Value) (A0:Option Addr) (c0:Nat) (l0:List S42) (p:S42→Bool) (w:World) (eg:∀ args w,(callFunc g args).run Try.prog w=.ok (.enter g args) w) (hsz:l0.length < 4398046511104) (hr0:Kd.C k42 w A0 l0.length l0)
  (hf:∀ (W:World) (x:S42),Below w.heap.size w W→Calls Try.prog g (#[.agg #[.string x.f0,.string x.f1]]++cb) W fun e w'=>e=.returned (.bool (p x))∧Below W.heap.size W w'):
  Calls Try.prog 54 #[.slice A0 l0.length c0,.func (.func g) #[] cb] w fun e w'=>∃ v0_:Value,e=.returned v0_∧Kd.R k42 42 w' w.heap.size (fun _=>True) v0_ (l0.filter p)∧Below w.heap.size w w':=by
 have HF:Aside0 _:=⟨hf⟩
 have HR:=Aside0.mk hr0
 have HL:=Aside0.mk hsz
 have hu63:=Try.underlying42
 clear hf hr0 hsz
 go_enter Try.func54,Try.ntmps54
 go_wp2
 go_loopg [5,10] l0.length (fun kx s5 s10 wr=>∃ (j:Nat),s10=.int .i64 j∧j≤l0.length∧l0.length - j≤kx∧Aside0 (Below w.heap.size w wr)∧Aside0 (Kd.R k42 42 wr w.heap.size (fun _=>True) s5 ((l0.take j).filter p)))
 case atStart=>exact ⟨0,rfl,Nat.zero_le _,Nat.le_refl _,⟨Below.refl _ _⟩,⟨Kd.R_nil _ _ _ _ _⟩⟩
 case round=>
  obtain ⟨j,rfl,hj,hg,HB,HO⟩:=hrel
  by_cases hlt:j < l0.length
  ·have hlt':(j:Int) < (l0.length:Int):=by omega
   obtain ⟨ad,e,hx,hy⟩:=at_T42 (Kd.C_below HR.out HB.out) (j:Int) (by omega) hlt'
   cases e
   rw [Int.toNat_natCast] at hx hy
   have hn:=Aside0.mk (cells_Delete_filter_next l0 p j hlt)
   have hj1:wrap64 ((j:Int)+1)=((j+1:Nat):Int):=by have:=HL.out;unfold wrap64;omega
   have hlen:((l0.take j).filter p).length≤l0.length:=Nat.le_trans (List.length_filter_le _ _) (by rw [List.length_take];omega)
   have HN:=Aside0.mk hlen
   clear hlen
   revert hx hy hn
   generalize rd_T42 l0 (j:Int)=x
   intro hx hy hn
   have HX:=Aside0.mk hx
   go_wp2
   refine (HF.out _ x (below_alloc HB.out _)).mono ?_
   rintro e w1 ⟨rfl,hb1⟩
   have BK:=Aside0.mk (blk_below (blk_new wr (.cells #[.string x.f0,.string x.f1] 42)) hb1)
   have HB1:=Aside0.mk (below_step (below_alloc HB.out _) hb1)
   have HO1:=Aside0.mk (Kd.R_below (Kd.R_alloc HO.out _) hb1)
   have z0:=(blk_cell BK.out 0).trans rfl
   have z1:=(blk_cell BK.out 1).trans rfl
   clear hb1 hx hy
   cases hp:p x
   ·have hn':(l0.take (j+1)).filter p=(l0.take j).filter p:=by rw [hn.out,hp];simp
    have HM:=Aside0.mk hn'
    clear hn hn' hp
    go_wp2
    go_roundg (l0.length - (j+1))
    case measure=>omega
    case rel=>exact ⟨j+1,by rw [hj1],by omega,Nat.le_refl _,HB1,⟨HM.out ▸ HO1.out⟩⟩
   ·have hn':(l0.take (j+1)).filter p=(l0.take j).filter p++[x]:=by rw [hn.out,hp];simp
    have HM:=Aside0.mk hn'
    clear hn hn' hp
    go_wp2_with ((with_reducible refine gate_builtin (b:=.append) (xs:=#[.tmp 17,.tmp 19]) rfl ?_);at_builtin;refine Kd.R_append k42 (w0:=w) w.heap.size rfl (.tmp 17) (.tmp 19) 22 42 (.agg #[(.string ⟨#[]⟩),(.string ⟨#[]⟩)]) 32 rfl Try.underlying22 info42 rfl (by decide) (by omega) u5 ((l0.take j).filter p) x [.string x.f0,.string x.f1] (fun _=>True) (fun _=>False) rfl rfl ?aP (fun _ hk=>hk.elim) ?aF ?aO ?aB ?aS ?aL ?_;(case aP=>exact k42_mkM _ _ _ x);(case aB=>exact HB1.out);(case aF=>exact fun _ _=>trivial);(case aO=>exact HO1.out);(case aS=>exact below_size HB1.out);(case aL=>have:=HL.out;have:=HN.out;omega);intro v2 w2 ho2 hb2 hg2 hat2;clear hg2 hat2;have HO2:=Aside0.mk ho2;have HB2:=Aside0.mk hb2;clear ho2 hb2)
    go_roundg (l0.length - (j+1))
    case measure=>omega
    case rel=>exact ⟨j+1,by rw [hj1],by omega,Nat.le_refl _,⟨HB2.out⟩,⟨HM.out ▸ HO2.out⟩⟩
  ·obtain rfl:j=l0.length:=by omega
   have hO:=HO.out
   rw [List.take_length] at hO
   have HO1:=Aside0.mk hO
   clear hO HO
   go_wp2
   go_ret
   exact ⟨_,rfl,HO1.out,HB.out⟩
def cells_Delete.f (k:Nat) (l0:List S42) (a1:ByteArray):Option (List S42×Int):=(cells_Right.f k l0).bind fun t=>if t=true then (if l0.length < 4398046511104 then some (l0.filter (fun y=> !(y.f0.toList==a1.toList)),0) else none) else some ([],100)
theorem cells_Delete.mono:∀ a0 a1 k,LeO (cells_Delete.f k a0 a1) (cells_Delete.f (k+1) a0 a1):=by
 intro a0 a1 k
 exact LeO.bind (cells_Right.mono _ _) (fun _=>LeO.refl _)
theorem cells_Delete_clo_calls (bx:Nat) (x:ByteArray) (y:S42) (W:World) (hx:W.cell? ⟨bx,0,none⟩=some (.string x)):
  Calls Try.prog 55 (#[.agg #[.string y.f0,.string y.f1]]++#[.pointer (some ⟨bx,0,none⟩)]) W fun e w'=>e=.returned (.bool (!(y.f0.toList==x.toList)))∧Below W.heap.size W w':=by
 have hu63:=Try.underlying42
 have hlt:bx < W.heap.size:=World.block_lt_of_cell? W _ hx
 go_enter Try.func55,Try.ntmps55
 go_wp2
 go_ret
 exact ⟨rfl,below_alloc (Below.refl _ _) _⟩
set_option maxHeartbeats 4000000 in
set_option maxRecDepth 100000 in
theorem cells_Delete.calls (k:Nat) (A0:Option Addr) (c0:Nat) (l0:List (S42)) (a1:ByteArray) (r1:List (S42)) (r2:Int) (w:World) (hr0:Kd.C k42 w A0 l0.length l0) (hc0:l0.length≤c0) (h:cells_Delete.f k l0 a1=some (r1,r2)):
  Calls Try.prog 38 #[.slice A0 l0.length c0,.string a1] w fun e w'=>∃ v0_:Value,e=.returned (.tuple #[v0_,.int .i64 r2])∧Kd.R k42 42 w' w.heap.size (fun _=>True) v0_ r1∧Below w.heap.size w w':=by
 obtain ⟨t,ht,h⟩:=Option.bind_eq_some_iff.1 h
 have hB0:Below w.heap.size w (w.alloc (.cells #[.string a1] 9)):=below_alloc (Below.refl _ _) _
 have hR:=cells_Right.calls k A0 c0 l0 t _ (Kd.C_below hr0 hB0) hc0 ht
 have HB0:=Aside0.mk hB0
 clear hB0
 cases t
 ·rw [if_neg (by simp)] at h
  simp only [Option.some.injEq,Prod.mk.injEq] at h
  obtain ⟨rfl,rfl⟩:=h
  go_enter Try.func38,Try.ntmps38
  go_wp2_with (go_at_call 28;refine hR.mono ?_;rintro e w1 ⟨rfl,hb⟩;have HB:=Aside0.mk (below_step HB0.out hb);clear hb)
  go_ret2
  exact ⟨_,rfl,Kd.R_nil _ _ _ _ _,HB.out⟩
 ·rw [if_pos rfl] at h
  have hlen:l0.length < 4398046511104:=by
   by_cases hl:l0.length < 4398046511104
   ·exact hl
   ·rw [if_neg hl] at h;cases h
  rw [if_pos hlen] at h
  simp only [Option.some.injEq,Prod.mk.injEq] at h
  obtain ⟨rfl,rfl⟩:=h
  have eg:∀ args w,(callFunc 55 args).run Try.prog w=.ok (.enter 55 args) w:=enters_of Try.func55 (by kernel_rfl) rfl
  have cx:(w.alloc (.cells #[.string a1] 9)).cell? ⟨w.heap.size,0,none⟩=some (.string a1):=(blk_cell (blk_new w _) 0).trans rfl
  have hK:=fun (w1:World) (hb:Below (w.alloc (.cells #[.string a1] 9)).heap.size (w.alloc (.cells #[.string a1] 9)) w1)=>cells_Delete_kept_calls 55 #[.pointer (some ⟨w.heap.size,0,none⟩)] A0 c0 l0 (fun y=> !(y.f0.toList==a1.toList)) w1 eg hlen (Kd.C_below (Kd.C_below hr0 HB0.out) hb)
   (fun W y hB=>cells_Delete_clo_calls w.heap.size a1 y W (pw_cell_below hB (pw_cell_below hb cx)))
  have HK:=Aside0.mk hK
  clear hK cx hr0
  go_enter Try.func38,Try.ntmps38
  go_wp2_with (first|(go_at_call 28;refine hR.mono ?_;rintro e w1 ⟨rfl,hb⟩;have HBX:=Aside0.mk hb;have HB:=Aside0.mk (below_step HB0.out hb);clear hb)|(go_at_call 54;refine (HK.out w1 HBX.out).mono ?_;rintro e w2 ⟨v,rfl,ho,hb⟩;have HO:=Aside0.mk ho;have HB2:=Aside0.mk (below_step HB.out hb);have HZ:=Aside0.mk HB.out.size;clear ho hb))
  go_ret2
  refine ⟨_,rfl,?_,HB2.out⟩
  exact cells_base HO.out HZ.out

/-! ### span_Right: function 40 -/
mutual
def span_Right.j0:Nat→Bool→ByteArray→ByteArray→Bool→Option (Bool)
 |0,_,_,_,_=>none
 |k+1,x3,bc8,an7,an8=>if x3=true then (some false) else (if an8=true then (span_Right.j1 k (!(Op.bytesLess bc8.toList an7.toList)) bc8 an7 an8) else (span_Right.j1 k false bc8 an7 an8))
def span_Right.j1:Nat→Bool→ByteArray→ByteArray→Bool→Option (Bool)
 |0,_,_,_,_=>none
 |k+1,x14,bc8,an7,an8=>if x14=true then (some false) else (if an8=true then (some true) else (if an7.toList=([]:List UInt8) then (some true) else (some false)))
end
def span_Right.f (k:Nat) (e4:ByteArray) (d9:ByteArray) (e8:Bool):Option (Bool):=if (e4.size:Int) > 513 then (span_Right.j0 k true e4 d9 e8) else (span_Right.j0 k (decide ((d9.size:Int) > 513)) e4 d9 e8)
theorem span_Right.mono_l:∀ k,(∀ y0 y1 y2 y3,LeO (span_Right.j0 k y0 y1 y2 y3) (span_Right.j0 (k+1) y0 y1 y2 y3))∧(∀ y0 y1 y2 y3,LeO (span_Right.j1 k y0 y1 y2 y3) (span_Right.j1 (k+1) y0 y1 y2 y3))
 |0=>⟨fun _ _ _ _ r h=>by simp [span_Right.j0] at h,fun _ _ _ _ r h=>by simp [span_Right.j1] at h⟩
 |k+1=>by
  obtain ⟨ih0,ih1⟩:=span_Right.mono_l k
  refine ⟨?_,?_⟩
  all_goals (intros;first|unfold span_Right.j0|unfold span_Right.j1)
  all_goals repeat' first
   |(with_reducible exact ih0 _ _ _ _)
   |(with_reducible exact ih1 _ _ _ _)
   |(with_reducible exact LeO.refl _)
   |(with_reducible exact LeO.none _)
   |(with_reducible refine LeO.ite ?_ ?_)
   |(with_reducible refine LeO.bind ?_ (fun _=>?_))
   |exact ih0 _ _ _ _
   |exact ih1 _ _ _ _
   |exact LeO.none _
   |refine LeO.ite ?_ ?_
   |refine LeO.bind ?_ (fun _=>?_)
theorem span_Right.mono:∀ a0 a1 a2 k,LeO (span_Right.f k a0 a1 a2) (span_Right.f (k+1) a0 a1 a2):=by
 intro a0 a1 a2 k
 obtain ⟨ih0,ih1⟩:=span_Right.mono_l k
 unfold span_Right.f
 repeat' first
   |(with_reducible exact ih0 _ _ _ _)
   |(with_reducible exact ih1 _ _ _ _)
   |(with_reducible exact LeO.refl _)
   |(with_reducible exact LeO.none _)
   |(with_reducible refine LeO.ite ?_ ?_)
   |(with_reducible refine LeO.bind ?_ (fun _=>?_))
   |exact ih0 _ _ _ _
   |exact ih1 _ _ _ _
   |exact LeO.none _
   |refine LeO.ite ?_ ?_
   |refine LeO.bind ?_ (fun _=>?_)
set_option maxHeartbeats 8000000 in
set_option maxRecDepth 100000 in
theorem span_Right.calls (k:Nat) (e4:ByteArray) (d9:ByteArray) (e8:Bool) (r:Bool) (w:World) (h:span_Right.f k e4 d9 e8=some r):
  Calls Try.prog 40 #[.agg #[.string e4,.string d9,.bool e8]] w fun e w'=>e=.returned (.bool r)∧Below w.heap.size w w':=by
 (have hu24:=Try.underlying24);(have HB:=Aside0.mk (Below.refl w.heap.size w));(have H:(if (e4.size:Int) > 513 then (span_Right.j0 k true e4 d9 e8) else (span_Right.j0 k (decide ((d9.size:Int) > 513)) e4 d9 e8))=some r:=h);(clear h);(have HC2:=Aside0.mk H);(clear H);(go_enter Try.func40,Try.ntmps40);(go_upto_region 1 with (first|((with_reducible refine gate_dst (N:=1) rfl ?_);(try (refine gate_guard (by rfl) ?_;dsimp only));refine bx (N:=1) (cs:=#[.string e4,.string d9,.bool e8]) (t:=24) ⟨mvW HB.out⟩ ?_;clear HB;intro en0 hg w3 hb J0 fo3 HB;have hc8:=fo3;clear hb hg)));((try simp only [Act.put,List.setIfInBounds_toArray,List.set_cons_zero,List.set_cons_succ]));(go_cut [3] (fun v3 wc=>∃ (kq:Nat) (e9:Bool),v3=.bool e9∧Aside0 (span_Right.j0 kq e9 e4 d9 e8=some r)∧Aside0 (kq≤k)∧Aside0 (wc.heap[en0]? =some (.cells #[.string e4,.string d9,.bool e8] 24 (0,0)))∧Aside0 (Below w.heap.size w wc)))
 case first=>
  (have H:=HC2.out);(clear HC2);(by_cases c4:(e4.size:Int) > 513)
  ·(rw [if_pos c4] at H);(have G4:decide (513 < (e4.size:Int))=true:=decide_eq_true c4);(have aj0:decide (513 < e4.size)=true:=decide_eq_true (by omega));(clear c4);((first|rw [G4]|(simp only [i64_w,i32_w];rw [G4])|skip));(have H':=Aside0.mk H);(clear H);(obtain ⟨ar2,ar3,ar4⟩:=bc3 J0.out);(obtain ⟨ar5,ar6,ar7⟩:=bf3 J0.out);(go_wp2);(go_meet)
   case rel=>exact ⟨_,(true),sd,H',⟨by first|omega|exact Nat.le_refl _⟩,⟨mvB J0.out⟩,⟨mvW HB.out⟩⟩
  ·(rw [if_neg c4] at H);(have G4:decide (513 < (e4.size:Int))=false:=decide_eq_false c4);(have aj0:decide (513 < e4.size)=false:=decide_eq_false (by omega));(clear c4);((first|rw [G4]|(simp only [i64_w,i32_w];rw [G4])|skip));(have H':=Aside0.mk H);(clear H);(obtain ⟨bt2,bt3,cu4⟩:=bc3 J0.out);(obtain ⟨bt4,bt5,cu5⟩:=bf3 J0.out);(go_wp2);(go_meet)
   case rel=>exact ⟨_,(decide ((d9.size:Int) > 513)),sd,H',⟨by first|omega|exact Nat.le_refl _⟩,⟨mvB J0.out⟩,⟨mvW HB.out⟩⟩
 case rest=>
  (clear HC2);(try clear p2);(try clear c4);(try clear G4);(try clear aj0);(try clear ar2 ar3 ar4);(try clear bt2 bt3 cu4);(try clear ar5 ar6 ar7);(try clear bt4 bt5 cu5);(obtain ⟨kq,e9,rfl,HA,HJ1,J0,HB⟩:=hcut)
  cases kq with
  |zero=>exact absurd HA.out (by simp [span_Right.j0])
  |succ kj1=>
   (have H:=HA.out);(clear HA);(simp only [span_Right.j0] at H);(by_cases c7:e9=true)
   ·(subst c7);(rw [if_pos rfl] at H);(obtain rfl:=Option.some.inj H);(go_wp2);(go_ret);(exact ⟨rv,mvW HB.out⟩)
   ·(replace c7:=Bool.eq_false_iff.mpr c7);(subst c7);(rw [if_neg (by decide)] at H);(have HC8:=Aside0.mk H);(clear H);(go_upto_region 2 with (fail));(go_cut [14] (fun v14 wc=>∃ (kq:Nat) (cf7:Bool),v14=.bool cf7∧Aside0 (span_Right.j1 kq cf7 e4 d9 e8=some r)∧Aside0 (kq≤kj1)∧Aside0 (wc.heap[en0]? =some (.cells #[.string e4,.string d9,.bool e8] 24 (0,0)))∧Aside0 (Below w.heap.size w wc)))
    case first=>
     (have H:=HC8.out);(clear HC8);(by_cases c9:e8=true)
     ·(subst c9);(rw [if_pos rfl] at H);(have H':=Aside0.mk H);(clear H);(obtain ⟨ag8,ag9,ah0⟩:=bc3 J0.out);(obtain ⟨ah1,ah2,ah3⟩:=bf3 J0.out);(go_wp2);(go_meet)
      case rel=>exact ⟨_,(!(Op.bytesLess e4.toList d9.toList)),sd,H',⟨by have:=HJ1.out;first|omega|exact Nat.le_refl _⟩,⟨mvB J0.out⟩,⟨mvW HB.out⟩⟩
     ·(replace c9:=Bool.eq_false_iff.mpr c9);(subst c9);(rw [if_neg (by decide)] at H);(have H':=Aside0.mk H);(clear H);(obtain ⟨cf8,cf9,cg0⟩:=bc3 J0.out);(obtain ⟨cg1,cg2,cg3⟩:=bf3 J0.out);(go_wp2);(go_meet)
      case rel=>exact ⟨_,(false),sd,H',⟨by have:=HJ1.out;first|omega|exact Nat.le_refl _⟩,⟨mvB J0.out⟩,⟨mvW HB.out⟩⟩
    case rest=>
     (clear HC8);(try clear p2);(try clear c4);(try clear G4);(try clear aj0);(try clear c7);(try clear c9);(try clear ag8 ag9 ah0);(try clear cf8 cf9 cg0);(try clear ar2 ar3 ar4);(try clear bt2 bt3 cu4);(try clear ah1 ah2 ah3);(try clear cg1 cg2 cg3);(try clear ar5 ar6 ar7);(try clear bt4 bt5 cu5);(try clear p2);(obtain ⟨kq,cf7,rfl,HA,HJ7,J0,HB⟩:=hcut)
     cases kq with
     |zero=>exact absurd HA.out (by simp [span_Right.j1])
     |succ kj7=>
      (have H:=HA.out);(clear HA);(simp only [span_Right.j1] at H);(by_cases s7:cf7=true)
      ·(subst s7);(rw [if_pos rfl] at H);(obtain rfl:=Option.some.inj H);(go_wp2);(go_ret);(exact ⟨rv,mvW HB.out⟩)
      ·(replace s7:=Bool.eq_false_iff.mpr s7);(subst s7);(rw [if_neg (by decide)] at H);(by_cases D3:e8=true)
       ·(subst D3);(rw [if_pos rfl] at H);(obtain rfl:=Option.some.inj H);(obtain ⟨bl1,bl2,bl3⟩:=bc3 J0.out);(obtain ⟨bl4,bl5,bl6⟩:=bf3 J0.out);(go_wp2);(go_ret);(exact ⟨rv,mvW HB.out⟩)
       ·(replace D3:=Bool.eq_false_iff.mpr D3);(subst D3);(rw [if_neg (by decide)] at H);(by_cases t2:d9.toList=([]:List UInt8))
        ·(rw [if_pos t2] at H);(have N5:(d9.toList==([]:List UInt8))=true:=beq_iff_eq.mpr t2);(have fo4:(d9.toList != ([]:List UInt8))=false:=bne_eq_false_iff_eq.mpr t2);(clear t2);(obtain rfl:=Option.some.inj H);(obtain ⟨ax1,ax2,ax3⟩:=bc3 J0.out);(obtain ⟨ax4,ax5,ax6⟩:=bf3 J0.out);(go_wp2);(go_ret);(exact ⟨rv,mvW HB.out⟩)
        ·(rw [if_neg t2] at H);(have N5:(d9.toList==([]:List UInt8))=false:=beq_eq_false_iff_ne.mpr t2);(have fo4:(d9.toList != ([]:List UInt8))=true:=bne_iff_ne.mpr t2);(obtain rfl:=Option.some.inj H);(obtain ⟨aw7,aw8,cd5⟩:=bc3 J0.out);(obtain ⟨aw9,ax0,cd6⟩:=bf3 J0.out);(go_wp2);(go_ret);(exact ⟨rv,mvW HB.out⟩)

/-! ### span_bounds_over: function 77 -/
def span_bounds_over.f (e4:ByteArray) (d9:ByteArray) (e8:Bool) (a1:ByteArray):Option (Bool):=if e8=true then (some (!(Op.bytesLess a1.toList d9.toList))) else (some false)
set_option maxHeartbeats 8000000 in
set_option maxRecDepth 100000 in
theorem span_bounds_over.calls (e4:ByteArray) (d9:ByteArray) (e8:Bool) (a1:ByteArray) (r:Bool) (w:World) (h:span_bounds_over.f e4 d9 e8 a1=some r):
  Calls Try.prog 77 #[.agg #[.string e4,.string d9,.bool e8],.string a1] w fun e w'=>e=.returned (.bool r)∧Below w.heap.size w w':=by
 (have hu92:=Try.underlying92);(have HB:=Aside0.mk (Below.refl w.heap.size w));(have H:(if e8=true then (some (!(Op.bytesLess a1.toList d9.toList))) else (some false))=some r:=h);(clear h);(by_cases c3:e8=true)
 ·(subst c3);(rw [if_pos rfl] at H);(obtain rfl:=Option.some.inj H);(go_enter Try.func77,Try.ntmps77);(go_wp2_with (first|((with_reducible refine gate_dst (N:=2) rfl ?_);refine bx (N:=2) (cs:=#[.string e4,.string d9,.bool true]) (t:=92) ⟨mvW HB.out⟩ ?_;clear HB;intro fo5 hg w4 hb br9 di9 HB;have fo6:=di9;clear hb hg;obtain ⟨ar2,ar3,ar4⟩:=bc3 br9.out;obtain ⟨ar5,ar6,ar7⟩:=bf3 br9.out)));(go_ret);(exact ⟨rv,mvW HB.out⟩)
 ·(replace c3:=Bool.eq_false_iff.mpr c3);(subst c3);(rw [if_neg (by decide)] at H);(obtain rfl:=Option.some.inj H);(go_enter Try.func77,Try.ntmps77);(go_wp2_with (first|((with_reducible refine gate_dst (N:=2) rfl ?_);refine bx (N:=2) (cs:=#[.string e4,.string d9,.bool false]) (t:=92) ⟨mvW HB.out⟩ ?_;clear HB;intro fo5 hg w6 hb br9 di9 HB;have fo6:=di9;clear hb hg;obtain ⟨et3,et4,et5⟩:=bc3 br9.out;obtain ⟨et6,et7,et8⟩:=bf3 br9.out)));(go_ret);(exact ⟨rv,mvW HB.out⟩)

/-! ### span_bounds_has: function 64 -/
def span_bounds_has.f (e4:ByteArray) (d9:ByteArray) (e8:Bool) (a1:ByteArray):Option (Bool):=if ((Op.bytesLess a1.toList e4.toList)=true) then (some false) else ((span_bounds_over.f e4 d9 e8 a1).bind fun cm6=>(some (!cm6)))
set_option maxHeartbeats 8000000 in
set_option maxRecDepth 100000 in
theorem span_bounds_has.calls (e4:ByteArray) (d9:ByteArray) (e8:Bool) (a1:ByteArray) (r:Bool) (w:World) (h:span_bounds_has.f e4 d9 e8 a1=some r):
  Calls Try.prog 64 #[.agg #[.string e4,.string d9,.bool e8],.string a1] w fun e w'=>e=.returned (.bool r)∧Below w.heap.size w w':=by
 (have hu92:=Try.underlying92);(have HB:=Aside0.mk (Below.refl w.heap.size w));(have H:(if ((Op.bytesLess a1.toList e4.toList)=true) then (some false) else ((span_bounds_over.f e4 d9 e8 a1).bind fun cm6=>(some (!cm6))))=some r:=h);(clear h);(by_cases c3:((Op.bytesLess a1.toList e4.toList)=true))
 ·(rw [if_pos c3] at H);(have G8:(Op.bytesLess a1.toList e4.toList)=true:=c3);(clear c3);(obtain rfl:=Option.some.inj H);(go_enter Try.func64,Try.ntmps64);(go_wp2_with (first|((with_reducible refine gate_dst (N:=2) rfl ?_);refine bx (N:=2) (cs:=#[.string e4,.string d9,.bool e8]) (t:=92) ⟨mvW HB.out⟩ ?_;clear HB;intro fo7 hg w4 hb at5 dj0 HB;have fo8:=dj0;clear hb hg;obtain ⟨ar2,ar3,ar4⟩:=bc3 at5.out;obtain ⟨ar5,ar6,ar7⟩:=bf3 at5.out)));(go_ret);(exact ⟨rv,mvW HB.out⟩)
 ·(rw [if_neg c3] at H);(have G8:(Op.bytesLess a1.toList e4.toList)=false:=by simpa using c3);(clear c3);(replace H:=Option.bind_eq_some_iff.mp H);(obtain ⟨cm6,A60,H⟩:=H);(have A6:=Aside0.mk A60);(clear A60);(obtain rfl:=Option.some.inj H);(go_enter Try.func64,Try.ntmps64);(go_wp2_with (first|((with_reducible refine gate_dst (N:=2) rfl ?_);refine bx (N:=2) (cs:=#[.string e4,.string d9,.bool e8]) (t:=92) ⟨mvW HB.out⟩ ?_;clear HB;intro fo7 hg w7 hb at5 dj0 HB;have fo8:=dj0;clear hb hg;obtain ⟨ee4,ee5,ee6⟩:=bc3 at5.out;obtain ⟨ee7,ee8,ee9⟩:=bf3 at5.out)|(go_at_call 77;(with_reducible refine (span_bounds_over.calls e4 d9 e8 a1 cm6 _ A6.out).mono ?_);rintro e w9 ⟨rfl,hb⟩;replace at5:=Aside0.mk (blk_below (mvB at5.out) hb);replace HB:=Aside0.mk (below_step (mvW HB.out) hb);(try clear hb);(try clear hb2);(try clear hk);(try clear hi))));(go_ret);(exact ⟨rv,mvW HB.out⟩)

/-! ### span_Has: function 57 -/
def span_Has.f (k:Nat) (e4:ByteArray) (d9:ByteArray) (e8:Bool) (a1:ByteArray):Option (Bool):=(span_Right.f k e4 d9 e8).bind fun cm7=>(if cm7=true then ((span_bounds_has.f e4 d9 e8 a1).bind fun cm8=>(some cm8)) else (some false))
theorem span_Has.mono:∀ a0 a1 a2 a3 k,LeO (span_Has.f k a0 a1 a2 a3) (span_Has.f (k+1) a0 a1 a2 a3):=by
 intro a0 a1 a2 a3 k
 unfold span_Has.f
 repeat' first
   |(with_reducible exact span_Right.mono _ _ _ _)
   |(with_reducible exact LeO.refl _)
   |(with_reducible exact LeO.none _)
   |(with_reducible refine LeO.ite ?_ ?_)
   |(with_reducible refine LeO.bind ?_ (fun _=>?_))
   |exact span_Right.mono _ _ _ _
   |exact LeO.none _
   |refine LeO.ite ?_ ?_
   |refine LeO.bind ?_ (fun _=>?_)
set_option maxHeartbeats 8000000 in
set_option maxRecDepth 100000 in
theorem span_Has.calls (k:Nat) (e4:ByteArray) (d9:ByteArray) (e8:Bool) (a1:ByteArray) (r:Bool) (w:World) (h:span_Has.f k e4 d9 e8 a1=some r):
  Calls Try.prog 57 #[.agg #[.string e4,.string d9,.bool e8],.string a1] w fun e w'=>e=.returned (.bool r)∧Below w.heap.size w w':=by
 (have hu24:=Try.underlying24);(have HB:=Aside0.mk (Below.refl w.heap.size w));(have H:((span_Right.f k e4 d9 e8).bind fun cm7=>(if cm7=true then ((span_bounds_has.f e4 d9 e8 a1).bind fun cm8=>(some cm8)) else (some false)))=some r:=h);(clear h);(replace H:=Option.bind_eq_some_iff.mp H);(obtain ⟨cm7,A30,H⟩:=H);(have A3:=Aside0.mk A30);(clear A30);(by_cases c4:cm7=true)
 ·(subst c4);(rw [if_pos rfl] at H);(replace H:=Option.bind_eq_some_iff.mp H);(obtain ⟨cm8,A50,H⟩:=H);(have A5:=Aside0.mk A50);(clear A50);(obtain rfl:=Option.some.inj H);(go_enter Try.func57,Try.ntmps57);(go_wp2_with (first|((with_reducible refine gate_dst (N:=2) rfl ?_);refine bx (N:=2) (cs:=#[.string e4,.string d9,.bool e8]) (t:=24) ⟨mvW HB.out⟩ ?_;clear HB;intro fo9 hg w6 hb U7 dj1 HB;have fp0:=dj1;clear hb hg;obtain ⟨et3,et4,et5⟩:=bc3 U7.out;obtain ⟨et6,et7,et8⟩:=bf3 U7.out)|((with_reducible refine gate_callee (f:=40) rfl ?_);refine goesL_ (some 6) rfl rfl Try.func40 (by kernel_rfl) rfl #[.agg #[.string e4,.string d9,.bool e8]] rfl am ?_;(with_reducible refine (span_Right.calls k e4 d9 e8 true _ A3.out).mono ?_);rintro e w8 ⟨rfl,hb⟩;refine ⟨_,rfl,?_⟩;replace U7:=Aside0.mk (blk_below (mvB U7.out) hb);replace HB:=Aside0.mk (below_step (mvW HB.out) hb);clear hb;obtain ⟨ai5,ai6,et1⟩:=bc3 U7.out;obtain ⟨ai7,ai8,et2⟩:=bf3 U7.out)|(go_at_call 64;(with_reducible refine (span_bounds_has.calls e4 d9 e8 a1 cm8 _ A5.out).mono ?_);rintro e S6 ⟨rfl,hb⟩;replace U7:=Aside0.mk (blk_below (mvB U7.out) hb);replace HB:=Aside0.mk (below_step (mvW HB.out) hb);(try clear hb);(try clear hb2);(try clear hk);(try clear hi))));(go_ret);(exact ⟨rv,mvW HB.out⟩)
 ·(replace c4:=Bool.eq_false_iff.mpr c4);(subst c4);(rw [if_neg (by decide)] at H);(obtain rfl:=Option.some.inj H);(go_enter Try.func57,Try.ntmps57);(go_wp2_with (first|((with_reducible refine gate_dst (N:=2) rfl ?_);refine bx (N:=2) (cs:=#[.string e4,.string d9,.bool e8]) (t:=24) ⟨mvW HB.out⟩ ?_;clear HB;intro fo9 hg w11 hb U7 dj1 HB;have fp0:=dj1;clear hb hg;obtain ⟨cu8,cu9,cv0⟩:=bc3 U7.out;obtain ⟨cv1,cv2,cv3⟩:=bf3 U7.out)|((with_reducible refine gate_callee (f:=40) rfl ?_);refine goesL_ (some 6) rfl rfl Try.func40 (by kernel_rfl) rfl #[.agg #[.string e4,.string d9,.bool e8]] rfl am ?_;(with_reducible refine (span_Right.calls k e4 d9 e8 false _ A3.out).mono ?_);rintro e w13 ⟨rfl,hb⟩;refine ⟨_,rfl,?_⟩;replace U7:=Aside0.mk (blk_below (mvB U7.out) hb);replace HB:=Aside0.mk (below_step (mvW HB.out) hb);(try clear hb);(try clear hb2);(try clear hk);(try clear hi))));(go_ret);(exact ⟨rv,mvW HB.out⟩)

end Go.Proofs.Ytoggblomknemoaa.R
