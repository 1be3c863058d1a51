-- PRINTED by print.py (a twelfth state) out of the translation. Not trusted: Lean checks it.
import Derived.Test.YtoggblomknemoaaSh
import Derived.Test.YtoggblomknemoaaMv
import Derived.Test.YtoggblomknemoaaRx0
import Derived.Test.YtoggblomknemoaaRx6
import Derived.Test.YtoggblomknemoaaRx7
import Derived.Test.YtoggblomknemoaaRx9
namespace Go.Proofs.Ytoggblomknemoaa.R
open Go.RowKit Go.Proofs.YtoggblomknemoaaW Go.Proofs.YtoggblomknemoaaW.PrintWords Go.Proofs.YtoggblomknemoaaW.PrintLast Go.Proofs.YtoggblomknemoaaW.PrintMore
attribute [local go_sem] GpMore.bytes_le max2_int min2_int max_two min_two max_three min_three max_four min_four   -- for this text's walks alone
set_option linter.unusedVariables false
set_option linter.unusedSimpArgs false

/-! ### lockkeeperref10_Put: function 45 -/
mutual
def lockkeeperref10_Put.j0:Nat→List (S42)→Bool→ByteArray→ByteArray→Option ((List (S42))×Int)
 |0,_,_,_,_=>none
 |k+1,x0,u9,L5,T9=>if u9=true then (some (([]:List (S42)),100)) else (lockkeeperref10_Put.l0 k x0 ([]:List (S42)) 0 L5 T9)
def lockkeeperref10_Put.l0:Nat→List (S42)→List (S42)→Int→ByteArray→ByteArray→Option ((List (S42))×Int)
 |0,_,_,_,_,_=>none
 |k+1,x0,x6,x7,L5,T9=>if x7 < (x0.length:Int) then (if 0≤x7 then (if (Op.bytesLess (((rd_T42 x0 x7).f0).toList) L5.toList)=true then (if x6.length < 4398046511104 then (lockkeeperref10_Put.l0 k x0 (x6++[(⟨(rd_T42 x0 x7).f0,(rd_T42 x0 x7).f1⟩:S42)]) (wrap64 (x7+1)) L5 T9) else (none)) else (lockkeeperref10_Put.l0 k x0 x6 (wrap64 (x7+1)) L5 T9)) else (none)) else (if x6.length < 4398046511104 then (lockkeeperref10_Put.l1 k x0 (x6++[(⟨L5,T9⟩:S42)]) 0 L5 T9) else (none))
def lockkeeperref10_Put.l1:Nat→List (S42)→List (S42)→Int→ByteArray→ByteArray→Option ((List (S42))×Int)
 |0,_,_,_,_,_=>none
 |k+1,x0,x6,x8,L5,T9=>if x8 < (x0.length:Int) then (if 0≤x8 then (if (Op.bytesLess L5.toList (((rd_T42 x0 x8).f0).toList))=true then (if x6.length < 4398046511104 then (lockkeeperref10_Put.l1 k x0 (x6++[(⟨(rd_T42 x0 x8).f0,(rd_T42 x0 x8).f1⟩:S42)]) (wrap64 (x8+1)) L5 T9) else (none)) else (lockkeeperref10_Put.l1 k x0 x6 (wrap64 (x8+1)) L5 T9)) else (none)) else (some (x6,0))
end
def lockkeeperref10_Put.f (k:Nat) (l0:List (S42)) (b7:ByteArray) (d8:ByteArray):Option ((List (S42))×Int):=(lockkeeperref10_Right.f k l0).bind fun cg9=>(if cg9=true then ((lockkeeperref10_fits.f b7 d8).bind fun au1=>(lockkeeperref10_Put.j0 k l0 (!au1) b7 d8)) else (lockkeeperref10_Put.j0 k l0 true b7 d8))
theorem lockkeeperref10_Put.mono_l:∀ k,(∀ y0 y1 y2 y3,LeO (lockkeeperref10_Put.j0 k y0 y1 y2 y3) (lockkeeperref10_Put.j0 (k+1) y0 y1 y2 y3))∧(∀ y0 y1 y2 y3 y4,LeO (lockkeeperref10_Put.l0 k y0 y1 y2 y3 y4) (lockkeeperref10_Put.l0 (k+1) y0 y1 y2 y3 y4))∧(∀ y0 y1 y2 y3 y4,LeO (lockkeeperref10_Put.l1 k y0 y1 y2 y3 y4) (lockkeeperref10_Put.l1 (k+1) y0 y1 y2 y3 y4))
 |0=>⟨fun _ _ _ _ r h=>by simp [lockkeeperref10_Put.j0] at h,fun _ _ _ _ _ r h=>by simp [lockkeeperref10_Put.l0] at h,fun _ _ _ _ _ r h=>by simp [lockkeeperref10_Put.l1] at h⟩
 |k+1=>by
  obtain ⟨ih0,ih1,ih2⟩:=lockkeeperref10_Put.mono_l k
  refine ⟨?_,?_,?_⟩
  all_goals (intros;first|unfold lockkeeperref10_Put.j0|unfold lockkeeperref10_Put.l0|unfold lockkeeperref10_Put.l1)
  all_goals repeat' first
   |(with_reducible exact ih0 _ _ _ _)
   |(with_reducible exact ih1 _ _ _ _ _)
   |(with_reducible exact ih2 _ _ _ _ _)
   |(with_reducible exact lockkeeperref10_Right.mono _ _)
   |(with_reducible exact LeO.refl _)
   |(with_reducible exact LeO.none _)
   |(with_reducible refine LeO.ite ?_ ?_)
   |(with_reducible refine LeO.bind ?_ (fun _=>?_))
   |exact ih0 _ _ _ _
   |exact ih1 _ _ _ _ _
   |exact ih2 _ _ _ _ _
   |exact lockkeeperref10_Right.mono _ _
   |exact LeO.none _
   |refine LeO.ite ?_ ?_
   |refine LeO.bind ?_ (fun _=>?_)
theorem lockkeeperref10_Put.mono:∀ a0 a1 a2 k,LeO (lockkeeperref10_Put.f k a0 a1 a2) (lockkeeperref10_Put.f (k+1) a0 a1 a2):=by
 intro a0 a1 a2 k
 obtain ⟨ih0,ih1,ih2⟩:=lockkeeperref10_Put.mono_l k
 unfold lockkeeperref10_Put.f
 repeat' first
   |(with_reducible exact ih0 _ _ _ _)
   |(with_reducible exact ih1 _ _ _ _ _)
   |(with_reducible exact ih2 _ _ _ _ _)
   |(with_reducible exact lockkeeperref10_Right.mono _ _)
   |(with_reducible exact LeO.refl _)
   |(with_reducible exact LeO.none _)
   |(with_reducible refine LeO.ite ?_ ?_)
   |(with_reducible refine LeO.bind ?_ (fun _=>?_))
   |exact ih0 _ _ _ _
   |exact ih1 _ _ _ _ _
   |exact ih2 _ _ _ _ _
   |exact lockkeeperref10_Right.mono _ _
   |exact LeO.none _
   |refine LeO.ite ?_ ?_
   |refine LeO.bind ?_ (fun _=>?_)
set_option maxHeartbeats 8000000 in
set_option maxRecDepth 100000 in
theorem lockkeeperref10_Put.calls (k:Nat) (A0:Option Addr) (c0:Nat) (l0:List (S42)) (b7:ByteArray) (d8:ByteArray) (r1:List (S42)) (r2:Int) (w:World) (hr0:Kd.C k42 w A0 l0.length l0) (hc0:l0.length≤c0) (h:lockkeeperref10_Put.f k l0 b7 d8=some (r1,r2)):
  Calls Try.prog 45 #[.slice A0 l0.length c0,.agg #[.string b7,.string d8]] w fun e w'=>∃ v0_:Value,e=.returned (.tuple #[v0_,.int .i64 r2])∧Kd.R k42 42 w' w.heap.size (fun _=>True) v0_ r1∧Below w.heap.size w w':=by
 (have hu42:=Try.underlying42);(have i3:=Aside0.mk hr0);(have l7:=Aside0.mk hc0);(clear hr0 hc0);(have HB:=Aside0.mk (Below.refl w.heap.size w));(have H:((lockkeeperref10_Right.f k l0).bind fun cg9=>(if cg9=true then ((lockkeeperref10_fits.f b7 d8).bind fun au1=>(lockkeeperref10_Put.j0 k l0 (!au1) b7 d8)) else (lockkeeperref10_Put.j0 k l0 true b7 d8)))=some (r1,r2):=h);(clear h);(have HC3:=Aside0.mk H);(clear H);(go_enter Try.func45,Try.ntmps45);(go_upto_region 1 with (first|((with_reducible refine gate_dst (N:=3) rfl ?_);refine bx (N:=3) (cs:=#[.string b7,.string d8]) (t:=42) ⟨mvW HB.out⟩ ?_;clear HB;intro C9 hg w4 hb i6 bk5 HB;have eh5:=bk5;clear hb hg)));(repeat (go_quiet (first|((with_reducible refine gate_dst (N:=3) rfl ?_);refine bx (N:=3) (cs:=#[.string b7,.string d8]) (t:=42) ⟨mvW HB.out⟩ ?_;clear HB;intro C9 hg w4 hb i6 bk5 HB;have eh5:=bk5;clear hb hg));go_upto_region 1 with (first|((with_reducible refine gate_dst (N:=3) rfl ?_);refine bx (N:=3) (cs:=#[.string b7,.string d8]) (t:=42) ⟨mvW HB.out⟩ ?_;clear HB;intro C9 hg w4 hb i6 bk5 HB;have eh5:=bk5;clear hb hg))));((try simp only [Act.put,List.setIfInBounds_toArray,List.set_cons_zero,List.set_cons_succ]));(go_cut [16] (fun v16 wc=>∃ (kq:Nat) (ca4:Bool),v16=.bool ca4∧Aside0 (lockkeeperref10_Put.j0 kq l0 ca4 b7 d8=some (r1,r2))∧Aside0 (kq≤k)∧Aside0 (wc.heap[C9]? =some (.cells #[.string b7,.string d8] 42 (0,0)))∧Aside0 (Below w.heap.size w wc)))
 case first=>
  (have H:=HC3.out);(clear HC3);(replace H:=Option.bind_eq_some_iff.mp H);(obtain ⟨cg9,A50,H⟩:=H);(have A5:=Aside0.mk A50);(clear A50);(by_cases c6:cg9=true)
  ·(subst c6);(rw [if_pos rfl] at H);(replace H:=Option.bind_eq_some_iff.mp H);(obtain ⟨au1,A70,H⟩:=H);(have A7:=Aside0.mk A70);(clear A70);(have H':=Aside0.mk H);(clear H);(go_wp2_with (first|(go_at_call 10;(with_reducible refine (lockkeeperref10_Right.calls k _ _ l0 true _ ?side1 ?side2 A5.out).mono ?_);(case side1=>exact mvC (Kd.C_below i3.out HB.out));(case side2=>exact l7.out);rintro e w8 ⟨rfl,hb⟩;replace i6:=Aside0.mk (blk_below (mvB i6.out) hb);replace HB:=Aside0.mk (below_step (mvW HB.out) hb);clear hb;obtain ⟨ai5,ai6⟩:=bc2 i6.out;obtain ⟨ai7,ai8⟩:=bf2 i6.out)|(go_at_call 27;(with_reducible refine (lockkeeperref10_fits.calls b7 d8 au1 _ A7.out).mono ?_);rintro e S6 ⟨rfl,hb⟩;replace i6:=Aside0.mk (blk_below (mvB i6.out) hb);replace HB:=Aside0.mk (below_step (mvW HB.out) hb);(try clear hb);(try clear hb2);(try clear hk);(try clear hi))));(repeat (go_quiet (first|(go_at_call 10;(with_reducible refine (lockkeeperref10_Right.calls k _ _ l0 true _ ?side1 ?side2 A5.out).mono ?_);(case side1=>exact mvC (Kd.C_below i3.out HB.out));(case side2=>exact l7.out);rintro e w8 ⟨rfl,hb⟩;replace i6:=Aside0.mk (blk_below (mvB i6.out) hb);replace HB:=Aside0.mk (below_step (mvW HB.out) hb);clear hb;obtain ⟨ai5,ai6⟩:=bc2 i6.out;obtain ⟨ai7,ai8⟩:=bf2 i6.out)|(go_at_call 27;(with_reducible refine (lockkeeperref10_fits.calls b7 d8 au1 _ A7.out).mono ?_);rintro e S6 ⟨rfl,hb⟩;replace i6:=Aside0.mk (blk_below (mvB i6.out) hb);replace HB:=Aside0.mk (below_step (mvW HB.out) hb);(try clear hb);(try clear hb2);(try clear hk);(try clear hi)));try go_wp2_with (first|(go_at_call 10;(with_reducible refine (lockkeeperref10_Right.calls k _ _ l0 true _ ?side1 ?side2 A5.out).mono ?_);(case side1=>exact mvC (Kd.C_below i3.out HB.out));(case side2=>exact l7.out);rintro e w8 ⟨rfl,hb⟩;replace i6:=Aside0.mk (blk_below (mvB i6.out) hb);replace HB:=Aside0.mk (below_step (mvW HB.out) hb);clear hb;obtain ⟨ai5,ai6⟩:=bc2 i6.out;obtain ⟨ai7,ai8⟩:=bf2 i6.out)|(go_at_call 27;(with_reducible refine (lockkeeperref10_fits.calls b7 d8 au1 _ A7.out).mono ?_);rintro e S6 ⟨rfl,hb⟩;replace i6:=Aside0.mk (blk_below (mvB i6.out) hb);replace HB:=Aside0.mk (below_step (mvW HB.out) hb);(try clear hb);(try clear hb2);(try clear hk);(try clear hi)))));(go_meet)
   case rel=>exact ⟨_,(!au1),sd,H',⟨by first|omega|exact Nat.le_refl _⟩,⟨mvB i6.out⟩,⟨mvW HB.out⟩⟩
  ·(replace c6:=Bool.eq_false_iff.mpr c6);(subst c6);(rw [if_neg (by decide)] at H);(have H':=Aside0.mk H);(clear H);(go_wp2_with (first|(go_at_call 10;(with_reducible refine (lockkeeperref10_Right.calls k _ _ l0 false _ ?side1 ?side2 A5.out).mono ?_);(case side1=>exact mvC (Kd.C_below i3.out HB.out));(case side2=>exact l7.out);rintro e w11 ⟨rfl,hb⟩;replace i6:=Aside0.mk (blk_below (mvB i6.out) hb);replace HB:=Aside0.mk (below_step (mvW HB.out) hb);(try clear hb);(try clear hb2);(try clear hk);(try clear hi))));(repeat (go_quiet (first|(go_at_call 10;(with_reducible refine (lockkeeperref10_Right.calls k _ _ l0 false _ ?side1 ?side2 A5.out).mono ?_);(case side1=>exact mvC (Kd.C_below i3.out HB.out));(case side2=>exact l7.out);rintro e w11 ⟨rfl,hb⟩;replace i6:=Aside0.mk (blk_below (mvB i6.out) hb);replace HB:=Aside0.mk (below_step (mvW HB.out) hb);(try clear hb);(try clear hb2);(try clear hk);(try clear hi)));try go_wp2_with (first|(go_at_call 10;(with_reducible refine (lockkeeperref10_Right.calls k _ _ l0 false _ ?side1 ?side2 A5.out).mono ?_);(case side1=>exact mvC (Kd.C_below i3.out HB.out));(case side2=>exact l7.out);rintro e w11 ⟨rfl,hb⟩;replace i6:=Aside0.mk (blk_below (mvB i6.out) hb);replace HB:=Aside0.mk (below_step (mvW HB.out) hb);(try clear hb);(try clear hb2);(try clear hk);(try clear hi)))));(go_meet)
   case rel=>exact ⟨_,(true),sd,H',⟨by first|omega|exact Nat.le_refl _⟩,⟨mvB i6.out⟩,⟨mvW HB.out⟩⟩
 case rest=>
  (clear HC3);(try clear p2);(try clear c4);(try clear c6);(try clear ai5 ai6);(try clear ai7 ai8);(obtain ⟨kq,ca4,rfl,HA,P0,i6,HB⟩:=hcut)
  cases kq with
  |zero=>exact absurd HA.out (by simp [lockkeeperref10_Put.j0])
  |succ kj2=>
   (have H:=HA.out);(clear HA);(simp only [lockkeeperref10_Put.j0] at H);(by_cases s7:ca4=true)
   ·(subst s7);(rw [if_pos rfl] at H);(simp only [Option.some.injEq,Prod.mk.injEq] at H);(obtain ⟨rfl,rfl⟩:=H);(go_wp2);(repeat (go_quiet (fail);try go_wp2));(go_ret2);(exact ⟨_,rv,by first|exact Kd.R_nil _ _ _ _ _ |exact Kd.N_nil _ _ _ _ _ |exact Kd.V_nil _ _ _ _ _ |exact Kd.Q_nil _ _ _ _ _ |exact Kd.S_nil _ _ _ _ _,mvW HB.out⟩)
   ·(replace s7:=Bool.eq_false_iff.mpr s7);(subst s7);(rw [if_neg (by decide)] at H);(have H':=Aside0.mk H);(clear H);(go_wp2);(repeat (go_quiet (fail);try go_wp2));(go_loopg [6,7] kj2 (fun kq v6 v7 w'=>∃ (h8:List (S42)) (e3:Int),v7=.int .i64 e3∧Aside0 (lockkeeperref10_Put.l0 kq l0 h8 e3 b7 d8=some (r1,r2))∧Aside0 (kq≤kj2)∧Aside0 (Kd.R k42 42 w' w.heap.size (fun k_=>k_≠C9) v6 h8)∧Aside0 (w'.heap[C9]? =some (.cells #[.string b7,.string d8] 42 (0,0)))∧Aside0 (Below w.heap.size w w')))
    case atStart=>exact ⟨(([]:List (S42))),(0),sd,H',⟨Nat.le_refl _⟩,⟨by first|exact Kd.R_nil _ _ _ _ _ |exact Kd.N_nil _ _ _ _ _ |exact Kd.V_nil _ _ _ _ _ |exact Kd.Q_nil _ _ _ _ _ |exact Kd.S_nil _ _ _ _ _⟩,⟨mvB i6.out⟩,⟨mvW HB.out⟩⟩
    case round=>
     (clear H');(try clear c1);(try clear p2);(try clear c4);(try clear c6);(try clear s7);(try clear ai5 ai6);(try clear ai7 ai8);(try clear p2);(obtain ⟨h8,e3,rfl,HA,n8,HO_6,i6,HB⟩:=hrel)
     cases gk with
     |zero=>exact absurd HA.out (by simp [lockkeeperref10_Put.l0])
     |succ k2=>
      (have H:=HA.out);(clear HA);(simp only [lockkeeperref10_Put.l0] at H);(by_cases D3:e3 < (l0.length:Int))
      ·(rw [if_pos D3] at H);(have ct4:=decide_eq_true D3);(clear D3);(by_cases t7:0≤e3)
       ·(rw [if_pos t7] at H);(have Q6:=decide_eq_true t7);(clear t7);(by_cases t2:(Op.bytesLess (((rd_T42 l0 e3).f0).toList) b7.toList)=true)
        ·(rw [if_pos t2] at H);(have N5:(Op.bytesLess (((rd_T42 l0 e3).f0).toList) b7.toList)=true:=t2);(clear t2);(by_cases C2:h8.length < 4398046511104)
         ·(rw [if_pos C2] at H);(have LMc16:=Aside0.mk C2);(clear C2);(obtain ⟨y324,hy324⟩:∃ y_:List (S42),y_=(h8++[(⟨(rd_T42 l0 e3).f0,(rd_T42 l0 e3).f1⟩:S42)]):=⟨_,rfl⟩);(replace H:(lockkeeperref10_Put.l0 k2 l0 y324 (wrap64 (e3+1)) b7 d8)=some (r1,r2):=by first|(rw [hy324];with_reducible exact H)|(have H2_:=(Option.bind_some _ _).symm.trans H;rw [hy324];with_reducible exact H2_)|(have H2_:=(Option.bind_some _ _).symm.trans H;with_reducible exact H2_)|with_reducible exact H|(rw [hy324];exact H)|exact H);(have Ny324:=Aside0.mk hy324);(clear hy324);(have H':=Aside0.mk H);(clear H);(have au3:0≤(e3:Int):=od);(have au4:e3 < (l0.length:Int):=od);(obtain ⟨ad322,e322,af5,af6⟩:=at_T42 i3.out e3 au3 au4);(cases e322);(replace af5:=ct HB af5);(replace af6:=ct HB af6);(replace au3:=eq_true au3);(replace au4:=eq_true au4);(obtain ⟨aw7,aw8⟩:=bc2 i6.out);(obtain ⟨aw9,ax0⟩:=bf2 i6.out);(have ct5:0≤(e3:Int):=od);(have ct6:e3 < (l0.length:Int):=od);(obtain ⟨ad323,e323,bt0,bt1⟩:=at_T42 i3.out e3 ct5 ct6);(obtain rfl:ad322=ad323:=(by injection e323));(replace bt0:=ct HB bt0);(replace bt1:=ct HB bt1);(replace ct5:=eq_true ct5);(replace ct6:=eq_true ct6);(go_wp2_with (first|((with_reducible refine gate_builtin (b:=.append) (xs:=#[.tmp 31,.tmp 36]) rfl ?_);at_builtin;refine Kd.R_append k42 (w0:=w) w.heap.size rfl (.tmp 31) (.tmp 36) 22 42 (.agg #[(.string ⟨#[]⟩),(.string ⟨#[]⟩)]) 32 rfl Try.underlying22 info42 rfl (by decide) (by omega) u6 h8 (⟨(rd_T42 l0 e3).f0,(rd_T42 l0 e3).f1⟩:S42) [.string ((rd_T42 l0 e3).f0),.string ((rd_T42 l0 e3).f1)] (fun k_=>k_≠C9) (fun _=>False) rfl rfl ?aP (fun _ hk=>hk.elim) ?aF ?aO ?aB ?aS ?aL ?_;(case aP=>exact k42_mkM _ _ _ (⟨(rd_T42 l0 e3).f0,(rd_T42 l0 e3).f1⟩:S42));(case aB=>exact (mvW HB.out));(case aF=>exact (fun k_ hk=>Kd.freshB (g:=C9) (o:=.cells #[.string b7,.string d8] 42 (0,0)) (mvB i6.out) k_ hk));(case aO=>exact (mvR HO_6.out));(case aS=>exact (below_size (mvW HB.out)));(case aL=>have:=LMc16.out;omega);intro es7 w18 ho hb hg hat;rw [← Ny324.out] at ho;replace i6:=Aside0.mk (blk_grown (mvB i6.out) hg (Kd.R_away HO_6.out (fun _ hk=>hk)));replace HB:=Aside0.mk (hb);have ct7:=Aside0.mk (ho);clear HO_6;clear ho hb hg hat)));(repeat (go_quiet (first|((with_reducible refine gate_builtin (b:=.append) (xs:=#[.tmp 31,.tmp 36]) rfl ?_);at_builtin;refine Kd.R_append k42 (w0:=w) w.heap.size rfl (.tmp 31) (.tmp 36) 22 42 (.agg #[(.string ⟨#[]⟩),(.string ⟨#[]⟩)]) 32 rfl Try.underlying22 info42 rfl (by decide) (by omega) u6 h8 (⟨(rd_T42 l0 e3).f0,(rd_T42 l0 e3).f1⟩:S42) [.string ((rd_T42 l0 e3).f0),.string ((rd_T42 l0 e3).f1)] (fun k_=>k_≠C9) (fun _=>False) rfl rfl ?aP (fun _ hk=>hk.elim) ?aF ?aO ?aB ?aS ?aL ?_;(case aP=>exact k42_mkM _ _ _ (⟨(rd_T42 l0 e3).f0,(rd_T42 l0 e3).f1⟩:S42));(case aB=>exact (mvW HB.out));(case aF=>exact (fun k_ hk=>Kd.freshB (g:=C9) (o:=.cells #[.string b7,.string d8] 42 (0,0)) (mvB i6.out) k_ hk));(case aO=>exact (mvR HO_6.out));(case aS=>exact (below_size (mvW HB.out)));(case aL=>have:=LMc16.out;omega);intro es7 w18 ho hb hg hat;rw [← Ny324.out] at ho;replace i6:=Aside0.mk (blk_grown (mvB i6.out) hg (Kd.R_away HO_6.out (fun _ hk=>hk)));replace HB:=Aside0.mk (hb);have ct7:=Aside0.mk (ho);clear HO_6;clear ho hb hg hat));try go_wp2_with (first|((with_reducible refine gate_builtin (b:=.append) (xs:=#[.tmp 31,.tmp 36]) rfl ?_);at_builtin;refine Kd.R_append k42 (w0:=w) w.heap.size rfl (.tmp 31) (.tmp 36) 22 42 (.agg #[(.string ⟨#[]⟩),(.string ⟨#[]⟩)]) 32 rfl Try.underlying22 info42 rfl (by decide) (by omega) u6 h8 (⟨(rd_T42 l0 e3).f0,(rd_T42 l0 e3).f1⟩:S42) [.string ((rd_T42 l0 e3).f0),.string ((rd_T42 l0 e3).f1)] (fun k_=>k_≠C9) (fun _=>False) rfl rfl ?aP (fun _ hk=>hk.elim) ?aF ?aO ?aB ?aS ?aL ?_;(case aP=>exact k42_mkM _ _ _ (⟨(rd_T42 l0 e3).f0,(rd_T42 l0 e3).f1⟩:S42));(case aB=>exact (mvW HB.out));(case aF=>exact (fun k_ hk=>Kd.freshB (g:=C9) (o:=.cells #[.string b7,.string d8] 42 (0,0)) (mvB i6.out) k_ hk));(case aO=>exact (mvR HO_6.out));(case aS=>exact (below_size (mvW HB.out)));(case aL=>have:=LMc16.out;omega);intro es7 w18 ho hb hg hat;rw [← Ny324.out] at ho;replace i6:=Aside0.mk (blk_grown (mvB i6.out) hg (Kd.R_away HO_6.out (fun _ hk=>hk)));replace HB:=Aside0.mk (hb);have ct7:=Aside0.mk (ho);clear HO_6;clear ho hb hg hat))));(go_roundg k2)
          case measure=>have:=P0.out;have:=n8.out;omega
          case rel=>exact ⟨(y324),(wrap64 (e3+1)),sd,H',⟨by have:=P0.out;have:=n8.out;omega⟩,⟨mvR ct7.out⟩,⟨mvB i6.out⟩,⟨mvW HB.out⟩⟩
         ·(rw [if_neg C2] at H);(exact absurd H (by simp))
        ·(rw [if_neg t2] at H);(have N5:(Op.bytesLess (((rd_T42 l0 e3).f0).toList) b7.toList)=false:=by simpa using t2);(clear t2);(have H':=Aside0.mk H);(clear H);(have au3:0≤(e3:Int):=od);(have au4:e3 < (l0.length:Int):=od);(obtain ⟨ad322,e322,af5,af6⟩:=at_T42 i3.out e3 au3 au4);(cases e322);(replace af5:=ct HB af5);(replace af6:=ct HB af6);(replace au3:=eq_true au3);(replace au4:=eq_true au4);(obtain ⟨ff9,fg0⟩:=bc2 i6.out);(obtain ⟨fg1,fg2⟩:=bf2 i6.out);(go_wp2);(repeat (go_quiet (fail);try go_wp2));(go_roundg k2)
         case measure=>have:=P0.out;have:=n8.out;omega
         case rel=>exact ⟨(h8),(wrap64 (e3+1)),sd,H',⟨by have:=P0.out;have:=n8.out;omega⟩,⟨mvR HO_6.out⟩,⟨mvB i6.out⟩,⟨mvW HB.out⟩⟩
       ·(rw [if_neg t7] at H);(exact absurd H (by simp))
      ·(rw [if_neg D3] at H);(have ct4:decide (e3 < (l0.length:Int))=false:=decide_eq_false D3);(clear D3);(by_cases Y1:h8.length < 4398046511104)
       ·(rw [if_pos Y1] at H);(have LMc20:=Aside0.mk Y1);(clear Y1);(obtain ⟨y327,hy327⟩:∃ y_:List (S42),y_=(h8++[(⟨b7,d8⟩:S42)]):=⟨_,rfl⟩);(replace H:(lockkeeperref10_Put.l1 k2 l0 y327 0 b7 d8)=some (r1,r2):=by first|(rw [hy327];with_reducible exact H)|(have H2_:=(Option.bind_some _ _).symm.trans H;rw [hy327];with_reducible exact H2_)|(have H2_:=(Option.bind_some _ _).symm.trans H;with_reducible exact H2_)|with_reducible exact H|(rw [hy327];exact H)|exact H);(have Ny327:=Aside0.mk hy327);(clear hy327);(have H':=Aside0.mk H);(clear H);(obtain ⟨aq7,aq8⟩:=bc2 i6.out);(obtain ⟨aq9,ar0⟩:=bf2 i6.out);(go_wp2_with (first|((with_reducible refine gate_builtin (b:=.append) (xs:=#[.tmp 38,.tmp 40]) rfl ?_);at_builtin;refine Kd.R_append k42 (w0:=w) w.heap.size rfl (.tmp 38) (.tmp 40) 22 42 (.agg #[(.string ⟨#[]⟩),(.string ⟨#[]⟩)]) 32 rfl Try.underlying22 info42 rfl (by decide) (by omega) u6 h8 (⟨b7,d8⟩:S42) [.string b7,.string d8] (fun k_=>k_≠C9) (fun _=>False) rfl rfl ?aP (fun _ hk=>hk.elim) ?aF ?aO ?aB ?aS ?aL ?_;(case aP=>exact k42_mkM _ _ _ (⟨b7,d8⟩:S42));(case aB=>exact (mvW HB.out));(case aF=>exact (fun k_ hk=>Kd.freshB (g:=C9) (o:=.cells #[.string b7,.string d8] 42 (0,0)) (mvB i6.out) k_ hk));(case aO=>exact (mvR HO_6.out));(case aS=>exact (below_size (mvW HB.out)));(case aL=>have:=LMc20.out;omega);intro es8 w22 ho hb hg hat;rw [← Ny327.out] at ho;replace i6:=Aside0.mk (blk_grown (mvB i6.out) hg (Kd.R_away HO_6.out (fun _ hk=>hk)));replace HB:=Aside0.mk (hb);have ct8:=Aside0.mk (ho);clear HO_6;clear ho hb hg hat)));(repeat (go_quiet (first|((with_reducible refine gate_builtin (b:=.append) (xs:=#[.tmp 38,.tmp 40]) rfl ?_);at_builtin;refine Kd.R_append k42 (w0:=w) w.heap.size rfl (.tmp 38) (.tmp 40) 22 42 (.agg #[(.string ⟨#[]⟩),(.string ⟨#[]⟩)]) 32 rfl Try.underlying22 info42 rfl (by decide) (by omega) u6 h8 (⟨b7,d8⟩:S42) [.string b7,.string d8] (fun k_=>k_≠C9) (fun _=>False) rfl rfl ?aP (fun _ hk=>hk.elim) ?aF ?aO ?aB ?aS ?aL ?_;(case aP=>exact k42_mkM _ _ _ (⟨b7,d8⟩:S42));(case aB=>exact (mvW HB.out));(case aF=>exact (fun k_ hk=>Kd.freshB (g:=C9) (o:=.cells #[.string b7,.string d8] 42 (0,0)) (mvB i6.out) k_ hk));(case aO=>exact (mvR HO_6.out));(case aS=>exact (below_size (mvW HB.out)));(case aL=>have:=LMc20.out;omega);intro es8 w22 ho hb hg hat;rw [← Ny327.out] at ho;replace i6:=Aside0.mk (blk_grown (mvB i6.out) hg (Kd.R_away HO_6.out (fun _ hk=>hk)));replace HB:=Aside0.mk (hb);have ct8:=Aside0.mk (ho);clear HO_6;clear ho hb hg hat));try go_wp2_with (first|((with_reducible refine gate_builtin (b:=.append) (xs:=#[.tmp 38,.tmp 40]) rfl ?_);at_builtin;refine Kd.R_append k42 (w0:=w) w.heap.size rfl (.tmp 38) (.tmp 40) 22 42 (.agg #[(.string ⟨#[]⟩),(.string ⟨#[]⟩)]) 32 rfl Try.underlying22 info42 rfl (by decide) (by omega) u6 h8 (⟨b7,d8⟩:S42) [.string b7,.string d8] (fun k_=>k_≠C9) (fun _=>False) rfl rfl ?aP (fun _ hk=>hk.elim) ?aF ?aO ?aB ?aS ?aL ?_;(case aP=>exact k42_mkM _ _ _ (⟨b7,d8⟩:S42));(case aB=>exact (mvW HB.out));(case aF=>exact (fun k_ hk=>Kd.freshB (g:=C9) (o:=.cells #[.string b7,.string d8] 42 (0,0)) (mvB i6.out) k_ hk));(case aO=>exact (mvR HO_6.out));(case aS=>exact (below_size (mvW HB.out)));(case aL=>have:=LMc20.out;omega);intro es8 w22 ho hb hg hat;rw [← Ny327.out] at ho;replace i6:=Aside0.mk (blk_grown (mvB i6.out) hg (Kd.R_away HO_6.out (fun _ hk=>hk)));replace HB:=Aside0.mk (hb);have ct8:=Aside0.mk (ho);clear HO_6;clear ho hb hg hat))));(go_loopg [6,8] k2 (fun kq v6 v8 w'=>∃ (ar1:List (S42)) (o8:Int),v8=.int .i64 o8∧Aside0 (lockkeeperref10_Put.l1 kq l0 ar1 o8 b7 d8=some (r1,r2))∧Aside0 (kq≤k2)∧Aside0 (Kd.R k42 42 w' w.heap.size (fun k_=>k_≠C9) v6 ar1)∧Aside0 (w'.heap[C9]? =some (.cells #[.string b7,.string d8] 42 (0,0)))∧Aside0 (Below w.heap.size w w')))
        case atStart=>exact ⟨(y327),(0),sd,H',⟨Nat.le_refl _⟩,⟨mvR ct8.out⟩,⟨mvB i6.out⟩,⟨mvW HB.out⟩⟩
        case round=>
         (clear H');(try clear c1);(try clear c2);(try clear p2);(try clear p3);(try clear q3);(try clear hx3);(try clear c4);(try clear c6);(try clear p6);(try clear s7);(try clear D3);(try clear ct4);(try clear t7);(try clear Q6);(try clear t2);(try clear N5);(try clear C2);(try clear Y1);(try clear aw7 aw8);(try clear ff9 fg0);(try clear aq7 aq8);(try clear ai5 ai6);(try clear aw9 ax0);(try clear fg1 fg2);(try clear aq9 ar0);(try clear ai7 ai8);(try clear af5);(try clear af6);(try clear bt0);(try clear bt1);(try clear p2);(try clear au3);(try clear ct5);(try clear au4);(try clear ct6);(obtain ⟨ar1,o8,rfl,HA,HK3,HO_6,i6,HB⟩:=hrel)
         cases gk with
         |zero=>exact absurd HA.out (by simp [lockkeeperref10_Put.l1])
         |succ k3=>
          (have H:=HA.out);(clear HA);(simp only [lockkeeperref10_Put.l1] at H);(by_cases K3:o8 < (l0.length:Int))
          ·(rw [if_pos K3] at H);(have ae7:=decide_eq_true K3);(clear K3);(by_cases c24:0≤o8)
           ·(rw [if_pos c24] at H);(have bk8:=decide_eq_true c24);(clear c24);(by_cases c25:(Op.bytesLess b7.toList (((rd_T42 l0 o8).f0).toList))=true)
            ·(rw [if_pos c25] at H);(have bk9:(Op.bytesLess b7.toList (((rd_T42 l0 o8).f0).toList))=true:=c25);(clear c25);(by_cases c26:ar1.length < 4398046511104)
             ·(rw [if_pos c26] at H);(have LMc26:=Aside0.mk c26);(clear c26);(obtain ⟨y332,hy332⟩:∃ y_:List (S42),y_=(ar1++[(⟨(rd_T42 l0 o8).f0,(rd_T42 l0 o8).f1⟩:S42)]):=⟨_,rfl⟩);(replace H:(lockkeeperref10_Put.l1 k3 l0 y332 (wrap64 (o8+1)) b7 d8)=some (r1,r2):=by first|(rw [hy332];with_reducible exact H)|(have H2_:=(Option.bind_some _ _).symm.trans H;rw [hy332];with_reducible exact H2_)|(have H2_:=(Option.bind_some _ _).symm.trans H;with_reducible exact H2_)|with_reducible exact H|(rw [hy332];exact H)|exact H);(have Ny332:=Aside0.mk hy332);(clear hy332);(have H':=Aside0.mk H);(clear H);(have bd8:0≤(o8:Int):=od);(have bd9:o8 < (l0.length:Int):=od);(obtain ⟨ad330,e330,ak0,ak1⟩:=at_T42 i3.out o8 bd8 bd9);(cases e330);(replace ak0:=ct HB ak0);(replace ak1:=ct HB ak1);(replace bd8:=eq_true bd8);(replace bd9:=eq_true bd9);(obtain ⟨ct9,cu0⟩:=bc2 i6.out);(obtain ⟨cu1,cu2⟩:=bf2 i6.out);(have ea2:0≤(o8:Int):=od);(have ea3:o8 < (l0.length:Int):=od);(obtain ⟨ad331,e331,co7,co8⟩:=at_T42 i3.out o8 ea2 ea3);(obtain rfl:ad330=ad331:=(by injection e331));(replace co7:=ct HB co7);(replace co8:=ct HB co8);(replace ea2:=eq_true ea2);(replace ea3:=eq_true ea3);(go_wp2_with (first|((with_reducible refine gate_builtin (b:=.append) (xs:=#[.tmp 56,.tmp 61]) rfl ?_);at_builtin;refine Kd.R_append k42 (w0:=w) w.heap.size rfl (.tmp 56) (.tmp 61) 22 42 (.agg #[(.string ⟨#[]⟩),(.string ⟨#[]⟩)]) 32 rfl Try.underlying22 info42 rfl (by decide) (by omega) u6 ar1 (⟨(rd_T42 l0 o8).f0,(rd_T42 l0 o8).f1⟩:S42) [.string ((rd_T42 l0 o8).f0),.string ((rd_T42 l0 o8).f1)] (fun k_=>k_≠C9) (fun _=>False) rfl rfl ?aP (fun _ hk=>hk.elim) ?aF ?aO ?aB ?aS ?aL ?_;(case aP=>exact k42_mkM _ _ _ (⟨(rd_T42 l0 o8).f0,(rd_T42 l0 o8).f1⟩:S42));(case aB=>exact (mvW HB.out));(case aF=>exact (fun k_ hk=>Kd.freshB (g:=C9) (o:=.cells #[.string b7,.string d8] 42 (0,0)) (mvB i6.out) k_ hk));(case aO=>exact (mvR HO_6.out));(case aS=>exact (below_size (mvW HB.out)));(case aL=>have:=LMc26.out;omega);intro es9 w28 ho hb hg hat;rw [← Ny332.out] at ho;replace i6:=Aside0.mk (blk_grown (mvB i6.out) hg (Kd.R_away HO_6.out (fun _ hk=>hk)));replace HB:=Aside0.mk (hb);have cu3:=Aside0.mk (ho);clear HO_6;clear ho hb hg hat)));(repeat (go_quiet (first|((with_reducible refine gate_builtin (b:=.append) (xs:=#[.tmp 56,.tmp 61]) rfl ?_);at_builtin;refine Kd.R_append k42 (w0:=w) w.heap.size rfl (.tmp 56) (.tmp 61) 22 42 (.agg #[(.string ⟨#[]⟩),(.string ⟨#[]⟩)]) 32 rfl Try.underlying22 info42 rfl (by decide) (by omega) u6 ar1 (⟨(rd_T42 l0 o8).f0,(rd_T42 l0 o8).f1⟩:S42) [.string ((rd_T42 l0 o8).f0),.string ((rd_T42 l0 o8).f1)] (fun k_=>k_≠C9) (fun _=>False) rfl rfl ?aP (fun _ hk=>hk.elim) ?aF ?aO ?aB ?aS ?aL ?_;(case aP=>exact k42_mkM _ _ _ (⟨(rd_T42 l0 o8).f0,(rd_T42 l0 o8).f1⟩:S42));(case aB=>exact (mvW HB.out));(case aF=>exact (fun k_ hk=>Kd.freshB (g:=C9) (o:=.cells #[.string b7,.string d8] 42 (0,0)) (mvB i6.out) k_ hk));(case aO=>exact (mvR HO_6.out));(case aS=>exact (below_size (mvW HB.out)));(case aL=>have:=LMc26.out;omega);intro es9 w28 ho hb hg hat;rw [← Ny332.out] at ho;replace i6:=Aside0.mk (blk_grown (mvB i6.out) hg (Kd.R_away HO_6.out (fun _ hk=>hk)));replace HB:=Aside0.mk (hb);have cu3:=Aside0.mk (ho);clear HO_6;clear ho hb hg hat));try go_wp2_with (first|((with_reducible refine gate_builtin (b:=.append) (xs:=#[.tmp 56,.tmp 61]) rfl ?_);at_builtin;refine Kd.R_append k42 (w0:=w) w.heap.size rfl (.tmp 56) (.tmp 61) 22 42 (.agg #[(.string ⟨#[]⟩),(.string ⟨#[]⟩)]) 32 rfl Try.underlying22 info42 rfl (by decide) (by omega) u6 ar1 (⟨(rd_T42 l0 o8).f0,(rd_T42 l0 o8).f1⟩:S42) [.string ((rd_T42 l0 o8).f0),.string ((rd_T42 l0 o8).f1)] (fun k_=>k_≠C9) (fun _=>False) rfl rfl ?aP (fun _ hk=>hk.elim) ?aF ?aO ?aB ?aS ?aL ?_;(case aP=>exact k42_mkM _ _ _ (⟨(rd_T42 l0 o8).f0,(rd_T42 l0 o8).f1⟩:S42));(case aB=>exact (mvW HB.out));(case aF=>exact (fun k_ hk=>Kd.freshB (g:=C9) (o:=.cells #[.string b7,.string d8] 42 (0,0)) (mvB i6.out) k_ hk));(case aO=>exact (mvR HO_6.out));(case aS=>exact (below_size (mvW HB.out)));(case aL=>have:=LMc26.out;omega);intro es9 w28 ho hb hg hat;rw [← Ny332.out] at ho;replace i6:=Aside0.mk (blk_grown (mvB i6.out) hg (Kd.R_away HO_6.out (fun _ hk=>hk)));replace HB:=Aside0.mk (hb);have cu3:=Aside0.mk (ho);clear HO_6;clear ho hb hg hat))));(go_roundg k3)
              case measure=>have:=P0.out;have:=n8.out;have:=HK3.out;omega
              case rel=>exact ⟨(y332),(wrap64 (o8+1)),sd,H',⟨by have:=P0.out;have:=n8.out;have:=HK3.out;omega⟩,⟨mvR cu3.out⟩,⟨mvB i6.out⟩,⟨mvW HB.out⟩⟩
             ·(rw [if_neg c26] at H);(exact absurd H (by simp))
            ·(rw [if_neg c25] at H);(have bk9:(Op.bytesLess b7.toList (((rd_T42 l0 o8).f0).toList))=false:=by simpa using c25);(clear c25);(have H':=Aside0.mk H);(clear H);(have bd8:0≤(o8:Int):=od);(have bd9:o8 < (l0.length:Int):=od);(obtain ⟨ad330,e330,ak0,ak1⟩:=at_T42 i3.out o8 bd8 bd9);(cases e330);(replace ak0:=ct HB ak0);(replace ak1:=ct HB ak1);(replace bd8:=eq_true bd8);(replace bd9:=eq_true bd9);(obtain ⟨ca5,ca6⟩:=bc2 i6.out);(obtain ⟨ca7,ca8⟩:=bf2 i6.out);(go_wp2);(repeat (go_quiet (fail);try go_wp2));(go_roundg k3)
             case measure=>have:=P0.out;have:=n8.out;have:=HK3.out;omega
             case rel=>exact ⟨(ar1),(wrap64 (o8+1)),sd,H',⟨by have:=P0.out;have:=n8.out;have:=HK3.out;omega⟩,⟨mvR HO_6.out⟩,⟨mvB i6.out⟩,⟨mvW HB.out⟩⟩
           ·(rw [if_neg c24] at H);(exact absurd H (by simp))
          ·(rw [if_neg K3] at H);(have ae7:decide (o8 < (l0.length:Int))=false:=decide_eq_false K3);(clear K3);(simp only [Option.some.injEq,Prod.mk.injEq] at H);(obtain ⟨rfl,rfl⟩:=H);(go_wp2);(repeat (go_quiet (fail);try go_wp2));(go_ret2);(exact ⟨_,rv,by (with_reducible repeat (first|apply Kd.R_alloc|apply Kd.R_drewN|apply Kd.R_drew));exact Kd.R_mono HO_6.out (fun _ hk=>trivial),mvW HB.out⟩)
       ·(rw [if_neg Y1] at H);(exact absurd H (by simp))

/-! ### lockkeeperref10_Delete: function 46 -/
def lockkeeperref10_Delete.l0:Nat→List (S42)→ByteArray→List (S42)→Int→Option ((List (S42))×Int)
 |0,_,_,_,_=>none
 |k+1,x0,x1,x6,x7=>if x7 < (x0.length:Int) then (if 0≤x7 then (if ((rd_T42 x0 x7).f0).toList=x1.toList then (lockkeeperref10_Delete.l0 k x0 x1 x6 (wrap64 (x7+1))) else (if x6.length < 4398046511104 then (lockkeeperref10_Delete.l0 k x0 x1 (x6++[(⟨(rd_T42 x0 x7).f0,(rd_T42 x0 x7).f1⟩:S42)]) (wrap64 (x7+1))) else (none))) else (none)) else (some (x6,0))
def lockkeeperref10_Delete.f (k:Nat) (l0:List (S42)) (a1:ByteArray):Option ((List (S42))×Int):=(lockkeeperref10_Right.f k l0).bind fun ch1=>(if ch1=true then (lockkeeperref10_Delete.l0 k l0 a1 ([]:List (S42)) 0) else (some (([]:List (S42)),100)))
theorem lockkeeperref10_Delete.mono_l:∀ k,(∀ y0 y1 y2 y3,LeO (lockkeeperref10_Delete.l0 k y0 y1 y2 y3) (lockkeeperref10_Delete.l0 (k+1) y0 y1 y2 y3))
 |0=>fun _ _ _ _ r h=>by simp [lockkeeperref10_Delete.l0] at h
 |k+1=>by
  have ih0:=lockkeeperref10_Delete.mono_l k
  ·intro y0 y1 y2 y3
   unfold lockkeeperref10_Delete.l0
   repeat' first
   |(with_reducible exact ih0 _ _ _ _)
   |(with_reducible exact lockkeeperref10_Right.mono _ _)
   |(with_reducible exact LeO.refl _)
   |(with_reducible exact LeO.none _)
   |(with_reducible refine LeO.ite ?_ ?_)
   |(with_reducible refine LeO.bind ?_ (fun _=>?_))
   |exact ih0 _ _ _ _
   |exact lockkeeperref10_Right.mono _ _
   |exact LeO.none _
   |refine LeO.ite ?_ ?_
   |refine LeO.bind ?_ (fun _=>?_)
theorem lockkeeperref10_Delete.mono:∀ a0 a1 k,LeO (lockkeeperref10_Delete.f k a0 a1) (lockkeeperref10_Delete.f (k+1) a0 a1):=by
 intro a0 a1 k
 have ih0:=lockkeeperref10_Delete.mono_l k
 unfold lockkeeperref10_Delete.f
 repeat' first
   |(with_reducible exact ih0 _ _ _ _)
   |(with_reducible exact lockkeeperref10_Right.mono _ _)
   |(with_reducible exact LeO.refl _)
   |(with_reducible exact LeO.none _)
   |(with_reducible refine LeO.ite ?_ ?_)
   |(with_reducible refine LeO.bind ?_ (fun _=>?_))
   |exact ih0 _ _ _ _
   |exact lockkeeperref10_Right.mono _ _
   |exact LeO.none _
   |refine LeO.ite ?_ ?_
   |refine LeO.bind ?_ (fun _=>?_)
set_option maxHeartbeats 8000000 in
set_option maxRecDepth 100000 in
theorem lockkeeperref10_Delete.calls (k:Nat) (A0:Option Addr) (c0:Nat) (l0:List (S42)) (a1:ByteArray) (r1:List (S42)) (r2:Int) (w:World) (hr0:Kd.C k42 w A0 l0.length l0) (hc0:l0.length≤c0) (h:lockkeeperref10_Delete.f k l0 a1=some (r1,r2)):
  Calls Try.prog 46 #[.slice A0 l0.length c0,.string a1] w fun e w'=>∃ v0_:Value,e=.returned (.tuple #[v0_,.int .i64 r2])∧Kd.R k42 42 w' w.heap.size (fun _=>True) v0_ r1∧Below w.heap.size w w':=by
 (have hu42:=Try.underlying42);(have i3:=Aside0.mk hr0);(have l7:=Aside0.mk hc0);(clear hr0 hc0);(have HB:=Aside0.mk (Below.refl w.heap.size w));(have H:((lockkeeperref10_Right.f k l0).bind fun ch1=>(if ch1=true then (lockkeeperref10_Delete.l0 k l0 a1 ([]:List (S42)) 0) else (some (([]:List (S42)),100))))=some (r1,r2):=h);(clear h);(replace H:=Option.bind_eq_some_iff.mp H);(obtain ⟨ch1,A30,H⟩:=H);(have A3:=Aside0.mk A30);(clear A30);(by_cases c4:ch1=true)
 ·(subst c4);(rw [if_pos rfl] at H);(have H':=Aside0.mk H);(clear H);(go_enter Try.func46,Try.ntmps46);(go_wp2_with (first|((with_reducible refine gate_callee (f:=10) rfl ?_);refine goesL_ (some 9) rfl rfl Try.func10 (by kernel_rfl) rfl #[.slice A0 l0.length c0] rfl am ?_;(with_reducible refine (lockkeeperref10_Right.calls k _ _ l0 true _ ?side1 ?side2 A3.out).mono ?_);(case side1=>exact mvC i3.out);(case side2=>exact l7.out);rintro e w5 ⟨rfl,hb⟩;refine ⟨_,rfl,?_⟩;replace HB:=Aside0.mk (below_step (mvW HB.out) hb);(try clear hb);(try clear hb2);(try clear hk);(try clear hi))));(go_loopg [6,7] k (fun kq v6 v7 w'=>∃ (P9:List (S42)) (e5:Int),v7=.int .i64 e5∧Aside0 (lockkeeperref10_Delete.l0 kq l0 a1 P9 e5=some (r1,r2))∧Aside0 (kq≤k)∧Aside0 (Kd.R k42 42 w' w.heap.size (fun _=>True) v6 P9)∧Aside0 (Below w.heap.size w w')))
  case atStart=>exact ⟨(([]:List (S42))),(0),sd,H',⟨Nat.le_refl _⟩,⟨by first|exact Kd.R_nil _ _ _ _ _ |exact Kd.N_nil _ _ _ _ _ |exact Kd.V_nil _ _ _ _ _ |exact Kd.Q_nil _ _ _ _ _ |exact Kd.S_nil _ _ _ _ _⟩,⟨mvW HB.out⟩⟩
  case round=>
   (clear H');(try clear c1);(try clear p2);(try clear c4);(obtain ⟨P9,e5,rfl,HA,E3,HO_6,HB⟩:=hrel)
   cases gk with
   |zero=>exact absurd HA.out (by simp [lockkeeperref10_Delete.l0])
   |succ k1=>
    (have H:=HA.out);(clear HA);(simp only [lockkeeperref10_Delete.l0] at H);(by_cases c6:e5 < (l0.length:Int))
    ·(rw [if_pos c6] at H);(have V3:=decide_eq_true c6);(clear c6);(by_cases c7:0≤e5)
     ·(rw [if_pos c7] at H);(have au5:=decide_eq_true c7);(clear c7);(by_cases c8:((rd_T42 l0 e5).f0).toList=a1.toList)
      ·(rw [if_pos c8] at H);(have ai9:(((rd_T42 l0 e5).f0).toList==a1.toList)=true:=beq_iff_eq.mpr c8);(have et0:(((rd_T42 l0 e5).f0).toList != a1.toList)=false:=bne_eq_false_iff_eq.mpr c8);(clear c8);(have H':=Aside0.mk H);(clear H);(have be0:0≤(e5:Int):=od);(have be1:e5 < (l0.length:Int):=od);(obtain ⟨ad336,e336,ak2,ak3⟩:=at_T42 i3.out e5 be0 be1);(cases e336);(replace ak2:=ct HB ak2);(replace ak3:=ct HB ak3);(replace be0:=eq_true be0);(replace be1:=eq_true be1);(go_wp2);(go_roundg k1)
       case measure=>have:=E3.out;omega
       case rel=>exact ⟨(P9),(wrap64 (e5+1)),sd,H',⟨by have:=E3.out;omega⟩,⟨mvR HO_6.out⟩,⟨mvW HB.out⟩⟩
      ·(rw [if_neg c8] at H);(have ai9:(((rd_T42 l0 e5).f0).toList==a1.toList)=false:=beq_eq_false_iff_ne.mpr c8);(have et0:(((rd_T42 l0 e5).f0).toList != a1.toList)=true:=bne_iff_ne.mpr c8);(by_cases c9:P9.length < 4398046511104)
       ·(rw [if_pos c9] at H);(have LMc9:=Aside0.mk c9);(clear c9);(obtain ⟨y338,hy338⟩:∃ y_:List (S42),y_=(P9++[(⟨(rd_T42 l0 e5).f0,(rd_T42 l0 e5).f1⟩:S42)]):=⟨_,rfl⟩);(replace H:(lockkeeperref10_Delete.l0 k1 l0 a1 y338 (wrap64 (e5+1)))=some (r1,r2):=by first|(rw [hy338];with_reducible exact H)|(have H2_:=(Option.bind_some _ _).symm.trans H;rw [hy338];with_reducible exact H2_)|(have H2_:=(Option.bind_some _ _).symm.trans H;with_reducible exact H2_)|with_reducible exact H|(rw [hy338];exact H)|exact H);(have Ny338:=Aside0.mk hy338);(clear hy338);(have H':=Aside0.mk H);(clear H);(have be0:0≤(e5:Int):=od);(have be1:e5 < (l0.length:Int):=od);(obtain ⟨ad336,e336,ak2,ak3⟩:=at_T42 i3.out e5 be0 be1);(cases e336);(replace ak2:=ct HB ak2);(replace ak3:=ct HB ak3);(replace be0:=eq_true be0);(replace be1:=eq_true be1);(have ea4:0≤(e5:Int):=od);(have ea5:e5 < (l0.length:Int):=od);(obtain ⟨ad337,e337,co9,cp0⟩:=at_T42 i3.out e5 ea4 ea5);(obtain rfl:ad336=ad337:=(by injection e337));(replace co9:=ct HB co9);(replace cp0:=ct HB cp0);(replace ea4:=eq_true ea4);(replace ea5:=eq_true ea5);(go_wp2_with (first|((with_reducible refine gate_builtin (b:=.append) (xs:=#[.tmp 24,.tmp 29]) rfl ?_);at_builtin;refine Kd.R_append k42 (w0:=w) w.heap.size rfl (.tmp 24) (.tmp 29) 22 42 (.agg #[(.string ⟨#[]⟩),(.string ⟨#[]⟩)]) 32 rfl Try.underlying22 info42 rfl (by decide) (by omega) u6 P9 (⟨(rd_T42 l0 e5).f0,(rd_T42 l0 e5).f1⟩:S42) [.string ((rd_T42 l0 e5).f0),.string ((rd_T42 l0 e5).f1)] (fun _=>True) (fun _=>False) rfl rfl ?aP (fun _ hk=>hk.elim) ?aF ?aO ?aB ?aS ?aL ?_;(case aP=>exact k42_mkM _ _ _ (⟨(rd_T42 l0 e5).f0,(rd_T42 l0 e5).f1⟩:S42));(case aB=>exact (mvW HB.out));(case aF=>exact (fun _ _=>trivial));(case aO=>exact (mvR HO_6.out));(case aS=>exact (below_size (mvW HB.out)));(case aL=>have:=LMc9.out;omega);intro hs2 S6 ho hb hg hat;rw [← Ny338.out] at ho;replace HB:=Aside0.mk (hb);have fg3:=Aside0.mk (ho);clear HO_6;clear ho hb hg hat)));(go_roundg k1)
        case measure=>have:=E3.out;omega
        case rel=>exact ⟨(y338),(wrap64 (e5+1)),sd,H',⟨by have:=E3.out;omega⟩,⟨mvR fg3.out⟩,⟨mvW HB.out⟩⟩
       ·(rw [if_neg c9] at H);(exact absurd H (by simp))
     ·(rw [if_neg c7] at H);(exact absurd H (by simp))
    ·(rw [if_neg c6] at H);(have V3:decide (e5 < (l0.length:Int))=false:=decide_eq_false c6);(clear c6);(simp only [Option.some.injEq,Prod.mk.injEq] at H);(obtain ⟨rfl,rfl⟩:=H);(go_wp2);(go_ret2);(exact ⟨_,rv,by (with_reducible repeat (first|apply Kd.R_alloc|apply Kd.R_drewN|apply Kd.R_drew));exact HO_6.out,mvW HB.out⟩)
 ·(replace c4:=Bool.eq_false_iff.mpr c4);(subst c4);(rw [if_neg (by decide)] at H);(simp only [Option.some.injEq,Prod.mk.injEq] at H);(obtain ⟨rfl,rfl⟩:=H);(go_enter Try.func46,Try.ntmps46);(go_wp2_with (first|((with_reducible refine gate_callee (f:=10) rfl ?_);refine goesL_ (some 9) rfl rfl Try.func10 (by kernel_rfl) rfl #[.slice A0 l0.length c0] rfl am ?_;(with_reducible refine (lockkeeperref10_Right.calls k _ _ l0 false _ ?side1 ?side2 A3.out).mono ?_);(case side1=>exact mvC i3.out);(case side2=>exact l7.out);rintro e w11 ⟨rfl,hb⟩;refine ⟨_,rfl,?_⟩;replace HB:=Aside0.mk (below_step (mvW HB.out) hb);(try clear hb);(try clear hb2);(try clear hk);(try clear hi))));(go_ret2);(exact ⟨_,rv,by first|exact Kd.R_nil _ _ _ _ _ |exact Kd.N_nil _ _ _ _ _ |exact Kd.V_nil _ _ _ _ _ |exact Kd.Q_nil _ _ _ _ _ |exact Kd.S_nil _ _ _ _ _,mvW HB.out⟩)

/-! ### lockkeeperref03_Right: function 47 -/
def lockkeeperref03_Right.j0:Nat→Bool→ByteArray→ByteArray→Bool→Option (Bool)
 |0,_,_,_,_=>none
 |k+1,x12,ep5,cp1,ep6=>if x12=true then (some false) else (if ep6=true then (some (Op.bytesLess ep5.toList cp1.toList)) else (some (cp1.toList==([]:List UInt8))))
def lockkeeperref03_Right.f (k:Nat) (e4:ByteArray) (d9:ByteArray) (e8:Bool):Option (Bool):=if (e4.size:Int) > 513 then (lockkeeperref03_Right.j0 k true e4 d9 e8) else (lockkeeperref03_Right.j0 k (decide ((d9.size:Int) > 513)) e4 d9 e8)
theorem lockkeeperref03_Right.mono_l:∀ k,(∀ y0 y1 y2 y3,LeO (lockkeeperref03_Right.j0 k y0 y1 y2 y3) (lockkeeperref03_Right.j0 (k+1) y0 y1 y2 y3))
 |0=>fun _ _ _ _ r h=>by simp [lockkeeperref03_Right.j0] at h
 |k+1=>by
  have ih0:=lockkeeperref03_Right.mono_l k
  ·intro y0 y1 y2 y3
   unfold lockkeeperref03_Right.j0
   repeat' first
   |(with_reducible exact ih0 _ _ _ _)
   |(with_reducible exact LeO.refl _)
   |(with_reducible exact LeO.none _)
   |(with_reducible refine LeO.ite ?_ ?_)
   |(with_reducible refine LeO.bind ?_ (fun _=>?_))
   |exact ih0 _ _ _ _
   |exact LeO.none _
   |refine LeO.ite ?_ ?_
   |refine LeO.bind ?_ (fun _=>?_)
theorem lockkeeperref03_Right.mono:∀ a0 a1 a2 k,LeO (lockkeeperref03_Right.f k a0 a1 a2) (lockkeeperref03_Right.f (k+1) a0 a1 a2):=by
 intro a0 a1 a2 k
 have ih0:=lockkeeperref03_Right.mono_l k
 unfold lockkeeperref03_Right.f
 repeat' first
   |(with_reducible exact ih0 _ _ _ _)
   |(with_reducible exact LeO.refl _)
   |(with_reducible exact LeO.none _)
   |(with_reducible refine LeO.ite ?_ ?_)
   |(with_reducible refine LeO.bind ?_ (fun _=>?_))
   |exact ih0 _ _ _ _
   |exact LeO.none _
   |refine LeO.ite ?_ ?_
   |refine LeO.bind ?_ (fun _=>?_)
set_option maxHeartbeats 8000000 in
set_option maxRecDepth 100000 in
theorem lockkeeperref03_Right.calls (k:Nat) (e4:ByteArray) (d9:ByteArray) (e8:Bool) (r:Bool) (w:World) (h:lockkeeperref03_Right.f k e4 d9 e8=some r):
  Calls Try.prog 47 #[.agg #[.string e4,.string d9,.bool e8]] w fun e w'=>e=.returned (.bool r)∧Below w.heap.size w w':=by
 (have hu24:=Try.underlying24);(have HB:=Aside0.mk (Below.refl w.heap.size w));(have H:(if (e4.size:Int) > 513 then (lockkeeperref03_Right.j0 k true e4 d9 e8) else (lockkeeperref03_Right.j0 k (decide ((d9.size:Int) > 513)) e4 d9 e8))=some r:=h);(clear h);(have HC2:=Aside0.mk H);(clear H);(go_enter Try.func47,Try.ntmps47);(go_upto_region 1 with (first|((with_reducible refine gate_dst (N:=1) rfl ?_);(try (refine gate_guard (by rfl) ?_;dsimp only));refine bx (N:=1) (cs:=#[.string e4,.string d9,.bool e8]) (t:=24) ⟨mvW HB.out⟩ ?_;clear HB;intro fg4 hg w3 hb Y2 fg5 HB;have gv9:=fg5;clear hb hg)));((try simp only [Act.put,List.setIfInBounds_toArray,List.set_cons_zero,List.set_cons_succ]));(go_cut [12] (fun v12 wc=>∃ (kq:Nat) (ca9:Bool),v12=.bool ca9∧Aside0 (lockkeeperref03_Right.j0 kq ca9 e4 d9 e8=some r)∧Aside0 (kq≤k)∧Aside0 (wc.heap[fg4]? =some (.cells #[.string e4,.string d9,.bool e8] 24 (0,0)))∧Aside0 (Below w.heap.size w wc)))
 case first=>
  (have H:=HC2.out);(clear HC2);(by_cases c4:(e4.size:Int) > 513)
  ·(rw [if_pos c4] at H);(have G4:decide (513 < (e4.size:Int))=true:=decide_eq_true c4);(have aj0:decide (513 < e4.size)=true:=decide_eq_true (by omega));(clear c4);((first|rw [G4]|(simp only [i64_w,i32_w];rw [G4])|skip));(have H':=Aside0.mk H);(clear H);(obtain ⟨ar2,ar3,ar4⟩:=bc3 Y2.out);(obtain ⟨ar5,ar6,ar7⟩:=bf3 Y2.out);(go_wp2);(go_meet)
   case rel=>exact ⟨_,(true),sd,H',⟨by first|omega|exact Nat.le_refl _⟩,⟨mvB Y2.out⟩,⟨mvW HB.out⟩⟩
  ·(rw [if_neg c4] at H);(have G4:decide (513 < (e4.size:Int))=false:=decide_eq_false c4);(have aj0:decide (513 < e4.size)=false:=decide_eq_false (by omega));(clear c4);((first|rw [G4]|(simp only [i64_w,i32_w];rw [G4])|skip));(have H':=Aside0.mk H);(clear H);(obtain ⟨bt2,bt3,cu4⟩:=bc3 Y2.out);(obtain ⟨bt4,bt5,cu5⟩:=bf3 Y2.out);(go_wp2);(go_meet)
   case rel=>exact ⟨_,(decide ((d9.size:Int) > 513)),sd,H',⟨by first|omega|exact Nat.le_refl _⟩,⟨mvB Y2.out⟩,⟨mvW HB.out⟩⟩
 case rest=>
  (clear HC2);(try clear p2);(try clear c4);(try clear G4);(try clear aj0);(try clear ar2 ar3 ar4);(try clear bt2 bt3 cu4);(try clear ar5 ar6 ar7);(try clear bt4 bt5 cu5);(obtain ⟨kq,ca9,rfl,HA,HJ1,Y2,HB⟩:=hcut)
  cases kq with
  |zero=>exact absurd HA.out (by simp [lockkeeperref03_Right.j0])
  |succ kj1=>
   (have H:=HA.out);(clear HA);(simp only [lockkeeperref03_Right.j0] at H);(by_cases c7:ca9=true)
   ·(subst c7);(rw [if_pos rfl] at H);(obtain rfl:=Option.some.inj H);(go_wp2);(go_ret);(exact ⟨rv,mvW HB.out⟩)
   ·(replace c7:=Bool.eq_false_iff.mpr c7);(subst c7);(rw [if_neg (by decide)] at H);(by_cases c8:e8=true)
    ·(subst c8);(rw [if_pos rfl] at H);(obtain rfl:=Option.some.inj H);(obtain ⟨ai5,ai6,et1⟩:=bc3 Y2.out);(obtain ⟨ai7,ai8,et2⟩:=bf3 Y2.out);(go_wp2);(go_ret);(exact ⟨rv,mvW HB.out⟩)
    ·(replace c8:=Bool.eq_false_iff.mpr c8);(subst c8);(rw [if_neg (by decide)] at H);(obtain rfl:=Option.some.inj H);(obtain ⟨ag8,ag9,ah0⟩:=bc3 Y2.out);(obtain ⟨ah1,ah2,ah3⟩:=bf3 Y2.out);(go_wp2);(go_ret);(exact ⟨rv,mvW HB.out⟩)

/-! ### lockkeeperref03_Has: function 48 -/
def lockkeeperref03_Has.f (k:Nat) (e4:ByteArray) (d9:ByteArray) (e8:Bool) (a1:ByteArray):Option (Bool):=(lockkeeperref03_Right.f k e4 d9 e8).bind fun ch2=>(if ch2=true then (if ((Op.bytesLess a1.toList e4.toList)=true) then (some false) else (if e8=true then (some (Op.bytesLess a1.toList d9.toList)) else (some true))) else (some false))
theorem lockkeeperref03_Has.mono:∀ a0 a1 a2 a3 k,LeO (lockkeeperref03_Has.f k a0 a1 a2 a3) (lockkeeperref03_Has.f (k+1) a0 a1 a2 a3):=by
 intro a0 a1 a2 a3 k
 unfold lockkeeperref03_Has.f
 repeat' first
   |(with_reducible exact lockkeeperref03_Right.mono _ _ _ _)
   |(with_reducible exact LeO.refl _)
   |(with_reducible exact LeO.none _)
   |(with_reducible refine LeO.ite ?_ ?_)
   |(with_reducible refine LeO.bind ?_ (fun _=>?_))
   |exact lockkeeperref03_Right.mono _ _ _ _
   |exact LeO.none _
   |refine LeO.ite ?_ ?_
   |refine LeO.bind ?_ (fun _=>?_)
set_option maxHeartbeats 8000000 in
set_option maxRecDepth 100000 in
theorem lockkeeperref03_Has.calls (k:Nat) (e4:ByteArray) (d9:ByteArray) (e8:Bool) (a1:ByteArray) (r:Bool) (w:World) (h:lockkeeperref03_Has.f k e4 d9 e8 a1=some r):
  Calls Try.prog 48 #[.agg #[.string e4,.string d9,.bool e8],.string a1] w fun e w'=>e=.returned (.bool r)∧Below w.heap.size w w':=by
 (have hu24:=Try.underlying24);(have HB:=Aside0.mk (Below.refl w.heap.size w));(have H:((lockkeeperref03_Right.f k e4 d9 e8).bind fun ch2=>(if ch2=true then (if ((Op.bytesLess a1.toList e4.toList)=true) then (some false) else (if e8=true then (some (Op.bytesLess a1.toList d9.toList)) else (some true))) else (some false)))=some r:=h);(clear h);(replace H:=Option.bind_eq_some_iff.mp H);(obtain ⟨ch2,A30,H⟩:=H);(have A3:=Aside0.mk A30);(clear A30);(by_cases c4:ch2=true)
 ·(subst c4);(rw [if_pos rfl] at H);(by_cases c5:((Op.bytesLess a1.toList e4.toList)=true))
  ·(rw [if_pos c5] at H);(have ad4:(Op.bytesLess a1.toList e4.toList)=true:=c5);(clear c5);(obtain rfl:=Option.some.inj H);(go_enter Try.func48,Try.ntmps48);(go_wp2_with (first|((with_reducible refine gate_dst (N:=2) rfl ?_);refine bx (N:=2) (cs:=#[.string e4,.string d9,.bool e8]) (t:=24) ⟨mvW HB.out⟩ ?_;clear HB;intro cu6 hg w6 hb D0 ar8 HB;have cu7:=ar8;clear hb hg;obtain ⟨et3,et4,et5⟩:=bc3 D0.out;obtain ⟨et6,et7,et8⟩:=bf3 D0.out)|((with_reducible refine gate_callee (f:=47) rfl ?_);refine goesL_ (some 6) rfl rfl Try.func47 (by kernel_rfl) rfl #[.agg #[.string e4,.string d9,.bool e8]] rfl am ?_;(with_reducible refine (lockkeeperref03_Right.calls k e4 d9 e8 true _ A3.out).mono ?_);rintro e w8 ⟨rfl,hb⟩;refine ⟨_,rfl,?_⟩;replace D0:=Aside0.mk (blk_below (mvB D0.out) hb);replace HB:=Aside0.mk (below_step (mvW HB.out) hb);clear hb;obtain ⟨ai5,ai6,et1⟩:=bc3 D0.out;obtain ⟨ai7,ai8,et2⟩:=bf3 D0.out)));(go_ret);(exact ⟨rv,mvW HB.out⟩)
  ·(rw [if_neg c5] at H);(have ad4:(Op.bytesLess a1.toList e4.toList)=false:=by simpa using c5);(clear c5);(by_cases s9:e8=true)
   ·(subst s9);(rw [if_pos rfl] at H);(obtain rfl:=Option.some.inj H);(go_enter Try.func48,Try.ntmps48);(go_wp2_with (first|((with_reducible refine gate_dst (N:=2) rfl ?_);refine bx (N:=2) (cs:=#[.string e4,.string d9,.bool true]) (t:=24) ⟨mvW HB.out⟩ ?_;clear HB;intro cu6 hg w11 hb D0 ar8 HB;have cu7:=ar8;clear hb hg;obtain ⟨cu8,cu9,cv0⟩:=bc3 D0.out;obtain ⟨cv1,cv2,cv3⟩:=bf3 D0.out)|((with_reducible refine gate_callee (f:=47) rfl ?_);refine goesL_ (some 6) rfl rfl Try.func47 (by kernel_rfl) rfl #[.agg #[.string e4,.string d9,.bool true]] rfl am ?_;(with_reducible refine (lockkeeperref03_Right.calls k e4 d9 true true _ A3.out).mono ?_);rintro e w13 ⟨rfl,hb⟩;refine ⟨_,rfl,?_⟩;replace D0:=Aside0.mk (blk_below (mvB D0.out) hb);replace HB:=Aside0.mk (below_step (mvW HB.out) hb);clear hb;obtain ⟨bl1,bl2,bl3⟩:=bc3 D0.out;obtain ⟨bl4,bl5,bl6⟩:=bf3 D0.out)));(go_ret);(exact ⟨rv,mvW HB.out⟩)
   ·(replace s9:=Bool.eq_false_iff.mpr s9);(subst s9);(rw [if_neg (by decide)] at H);(obtain rfl:=Option.some.inj H);(go_enter Try.func48,Try.ntmps48);(go_wp2_with (first|((with_reducible refine gate_dst (N:=2) rfl ?_);refine bx (N:=2) (cs:=#[.string e4,.string d9,.bool false]) (t:=24) ⟨mvW HB.out⟩ ?_;clear HB;intro cu6 hg w15 hb D0 ar8 HB;have cu7:=ar8;clear hb hg;obtain ⟨ax1,ax2,ax3⟩:=bc3 D0.out;obtain ⟨ax4,ax5,ax6⟩:=bf3 D0.out)|((with_reducible refine gate_callee (f:=47) rfl ?_);refine goesL_ (some 6) rfl rfl Try.func47 (by kernel_rfl) rfl #[.agg #[.string e4,.string d9,.bool false]] rfl am ?_;(with_reducible refine (lockkeeperref03_Right.calls k e4 d9 false true _ A3.out).mono ?_);rintro e w17 ⟨rfl,hb⟩;refine ⟨_,rfl,?_⟩;replace D0:=Aside0.mk (blk_below (mvB D0.out) hb);replace HB:=Aside0.mk (below_step (mvW HB.out) hb);clear hb;obtain ⟨ax7,ax8,bl7⟩:=bc3 D0.out;obtain ⟨ax9,ay0,bl8⟩:=bf3 D0.out)));(go_ret);(exact ⟨rv,mvW HB.out⟩)
 ·(replace c4:=Bool.eq_false_iff.mpr c4);(subst c4);(rw [if_neg (by decide)] at H);(obtain rfl:=Option.some.inj H);(go_enter Try.func48,Try.ntmps48);(go_wp2_with (first|((with_reducible refine gate_dst (N:=2) rfl ?_);refine bx (N:=2) (cs:=#[.string e4,.string d9,.bool e8]) (t:=24) ⟨mvW HB.out⟩ ?_;clear HB;intro cu6 hg w19 hb D0 ar8 HB;have cu7:=ar8;clear hb hg;obtain ⟨gw0,gw1,gw2⟩:=bc3 D0.out;obtain ⟨gw3,gw4,gw5⟩:=bf3 D0.out)|((with_reducible refine gate_callee (f:=47) rfl ?_);refine goesL_ (some 6) rfl rfl Try.func47 (by kernel_rfl) rfl #[.agg #[.string e4,.string d9,.bool e8]] rfl am ?_;(with_reducible refine (lockkeeperref03_Right.calls k e4 d9 e8 false _ A3.out).mono ?_);rintro e w21 ⟨rfl,hb⟩;refine ⟨_,rfl,?_⟩;replace D0:=Aside0.mk (blk_below (mvB D0.out) hb);replace HB:=Aside0.mk (below_step (mvW HB.out) hb);(try clear hb);(try clear hb2);(try clear hk);(try clear hi))));(go_ret);(exact ⟨rv,mvW HB.out⟩)

/-! ### lockkeeperref30_Do: function 17 -/
mutual
def lockkeeperref30_Do.j0:Nat→List (S42)→List (S42)→Bool→Int→ByteArray→ByteArray→ByteArray→ByteArray→Bool→Int→Int→Int→Int→Int→Bool→ByteArray→Option ((List (S42))×Int×Int×Int×Int×Bool×ByteArray×(List (S42)))
 |0,_,_,_,_,_,_,_,_,_,_,_,_,_,_,_,_=>none
 |k+1,x0,x7,x46,s0,C3,D4,D5,D6,D7,D8,o5,o6,s8,o7,p9,p0=>if x46=true then (some (x7,o5,o6,3,o7,p9,p0,([]:List (S42)))) else (lockkeeperref30_Do.l0 k x0 x7 (-1) 0 s0 C3 D4 D5 D6 D7 D8 o5 o6 s8 o7 p9 p0)
def lockkeeperref30_Do.l0:Nat→List (S42)→List (S42)→Int→Int→Int→ByteArray→ByteArray→ByteArray→ByteArray→Bool→Int→Int→Int→Int→Int→Bool→ByteArray→Option ((List (S42))×Int×Int×Int×Int×Bool×ByteArray×(List (S42)))
 |0,_,_,_,_,_,_,_,_,_,_,_,_,_,_,_,_,_=>none
 |k+1,x0,x7,x8,x9,s0,C3,D4,D5,D6,D7,D8,o5,o6,s8,o7,p9,p0=>if x9 < (x0.length:Int) then (if 0≤x9 then (if ((rd_T42 x0 x9).f0).toList=C3.toList then (lockkeeperref30_Do.l0 k x0 x7 x9 (wrap64 (x9+1)) s0 C3 D4 D5 D6 D7 D8 o5 o6 s8 o7 p9 p0) else (lockkeeperref30_Do.l0 k x0 x7 x8 (wrap64 (x9+1)) s0 C3 D4 D5 D6 D7 D8 o5 o6 s8 o7 p9 p0)) else (none)) else (if s0=2 then (if x8≥0 then (if 0≤x8 then (if x8 < (x0.length:Int) then (some (x7,o5,o6,s8,o7,true,(rd_T42 x0 x8).f1,([]:List (S42)))) else (none)) else (none)) else (some (x7,o5,o6,s8,o7,p9,p0,([]:List (S42))))) else (if s0=3 then (if x8≥0 then (some (x7,o5,o6,8,o7,p9,p0,([]:List (S42)))) else ((lockkeeperref10_Put.f k x0 C3 D4).bind fun fg6=>(some (fg6.1,o5,o6,s8,o7,p9,p0,([]:List (S42)))))) else (if s0=4 then (lockkeeperref30_Do.j2 k x0 x7 x8 s0 (s0==4) s0 C3 D4 D5 D6 D7 D8 o5 o6 s8 o7 p9 p0) else (lockkeeperref30_Do.j2 k x0 x7 x8 s0 (s0==5) s0 C3 D4 D5 D6 D7 D8 o5 o6 s8 o7 p9 p0))))
def lockkeeperref30_Do.j2:Nat→List (S42)→List (S42)→Int→Int→Bool→Int→ByteArray→ByteArray→ByteArray→ByteArray→Bool→Int→Int→Int→Int→Int→Bool→ByteArray→Option ((List (S42))×Int×Int×Int×Int×Bool×ByteArray×(List (S42)))
 |0,_,_,_,_,_,_,_,_,_,_,_,_,_,_,_,_,_,_=>none
 |k+1,x0,x7,x8,x66,x96,s0,C3,D4,D5,D6,D7,D8,o5,o6,s8,o7,p9,p0=>if x96=true then (if x8 < 0 then (some (x7,o5,o6,7,o7,p9,p0,([]:List (S42)))) else (if s0=4 then (if 0≤x8 then (if x8 < (x7.length:Int) then (some ((x7.set (x8:Int).toNat (⟨(rd_T42 x7 x8).f0,D4⟩:S42)),o5,o6,s8,o7,p9,p0,([]:List (S42)))) else (none)) else (none)) else ((lockkeeperref10_Delete.f k x0 C3).bind fun fg7=>(some (fg7.1,o5,o6,s8,o7,p9,p0,([]:List (S42))))))) else (if x66=6 then ((lockkeeperref03_Right.f k D5 D6 D7).bind fun ea6=>(if ea6=true then (lockkeeperref30_Do.j3 k x0 x7 (decide (D8 < 1)) s0 C3 D4 D5 D6 D7 D8 o5 o6 s8 o7 p9 p0) else (lockkeeperref30_Do.j3 k x0 x7 true s0 C3 D4 D5 D6 D7 D8 o5 o6 s8 o7 p9 p0))) else (some (x7,o5,o6,2,o7,p9,p0,([]:List (S42)))))
def lockkeeperref30_Do.j3:Nat→List (S42)→List (S42)→Bool→Int→ByteArray→ByteArray→ByteArray→ByteArray→Bool→Int→Int→Int→Int→Int→Bool→ByteArray→Option ((List (S42))×Int×Int×Int×Int×Bool×ByteArray×(List (S42)))
 |0,_,_,_,_,_,_,_,_,_,_,_,_,_,_,_,_=>none
 |k+1,x0,x7,fu1,s0,C3,D4,D5,D6,D7,D8,o5,o6,s8,o7,p9,p0=>if fu1=true then (some (x7,o5,o6,2,o7,p9,p0,([]:List (S42)))) else (lockkeeperref30_Do.l1 k x0 x7 0 s0 C3 D4 D5 D6 D7 D8 o5 o6 s8 o7 p9 p0 ([]:List (S42)))
def lockkeeperref30_Do.l1:Nat→List (S42)→List (S42)→Int→Int→ByteArray→ByteArray→ByteArray→ByteArray→Bool→Int→Int→Int→Int→Int→Bool→ByteArray→List (S42)→Option ((List (S42))×Int×Int×Int×Int×Bool×ByteArray×(List (S42)))
 |0,_,_,_,_,_,_,_,_,_,_,_,_,_,_,_,_,_=>none
 |k+1,x0,x7,x10,s0,C3,D4,D5,D6,D7,D8,o5,o6,s8,o7,p9,p0,af7=>if x10 < (x0.length:Int) then (if 0≤x10 then ((lockkeeperref03_Has.f k D5 D6 D7 ((rd_T42 x0 x10).f0)).bind fun ea7=>(if ea7=true then (if (af7.length:Int)=D8 then (lockkeeperref30_Do.l1 k x0 x7 (wrap64 (x10+1)) s0 C3 D4 D5 D6 D7 D8 o5 o6 s8 o7 true p0 af7) else (if af7.length < 4398046511104 then (lockkeeperref30_Do.l1 k x0 x7 (wrap64 (x10+1)) s0 C3 D4 D5 D6 D7 D8 o5 o6 s8 o7 p9 p0 (af7++[(⟨(rd_T42 x0 x10).f0,(rd_T42 x0 x10).f1⟩:S42)])) else (none))) else (lockkeeperref30_Do.l1 k x0 x7 (wrap64 (x10+1)) s0 C3 D4 D5 D6 D7 D8 o5 o6 s8 o7 p9 p0 af7))) else (none)) else (some (x7,o5,o6,s8,o7,p9,p0,af7))
end
def lockkeeperref30_Do.f (k:Nat) (l0:List (S42)) (b7:Int) (d8:ByteArray) (g7:ByteArray) (j5:ByteArray) (i2:ByteArray) (i5:Bool) (m2:Int):Option ((List (S42))×Int×Int×Int×Int×Bool×ByteArray×(List (S42))):=(lockkeeperref10_Right.f k l0).bind fun ch4=>(if ch4=true then ((lockkeeperref10_Copy.f l0).bind fun p8=>(if b7≥2 then (if b7≤5 then (if (d8.size:Int) < 1 then (lockkeeperref30_Do.j0 k l0 p8 true b7 d8 g7 j5 i2 i5 m2 0 b7 0 0 false (⟨#[]⟩:ByteArray)) else (if (d8.size:Int) > 512 then (lockkeeperref30_Do.j0 k l0 p8 true b7 d8 g7 j5 i2 i5 m2 0 b7 0 0 false (⟨#[]⟩:ByteArray)) else (lockkeeperref30_Do.j0 k l0 p8 (decide ((g7.size:Int) > 2048)) b7 d8 g7 j5 i2 i5 m2 0 b7 0 0 false (⟨#[]⟩:ByteArray)))) else (lockkeeperref30_Do.j0 k l0 p8 false b7 d8 g7 j5 i2 i5 m2 0 b7 0 0 false (⟨#[]⟩:ByteArray))) else (lockkeeperref30_Do.j0 k l0 p8 false b7 d8 g7 j5 i2 i5 m2 0 b7 0 0 false (⟨#[]⟩:ByteArray)))) else (some (([]:List (S42)),0,b7,100,0,false,(⟨#[]⟩:ByteArray),([]:List (S42)))))
theorem lockkeeperref30_Do.mono_l:∀ k,(∀ y0 y1 y2 y3 y4 y5 y6 y7 y8 y9 y10 y11 y12 y13 y14 y15,LeO (lockkeeperref30_Do.j0 k y0 y1 y2 y3 y4 y5 y6 y7 y8 y9 y10 y11 y12 y13 y14 y15) (lockkeeperref30_Do.j0 (k+1) y0 y1 y2 y3 y4 y5 y6 y7 y8 y9 y10 y11 y12 y13 y14 y15))∧(∀ y0 y1 y2 y3 y4 y5 y6 y7 y8 y9 y10 y11 y12 y13 y14 y15 y16,LeO (lockkeeperref30_Do.l0 k y0 y1 y2 y3 y4 y5 y6 y7 y8 y9 y10 y11 y12 y13 y14 y15 y16) (lockkeeperref30_Do.l0 (k+1) y0 y1 y2 y3 y4 y5 y6 y7 y8 y9 y10 y11 y12 y13 y14 y15 y16))∧(∀ y0 y1 y2 y3 y4 y5 y6 y7 y8 y9 y10 y11 y12 y13 y14 y15 y16 y17,LeO (lockkeeperref30_Do.j2 k y0 y1 y2 y3 y4 y5 y6 y7 y8 y9 y10 y11 y12 y13 y14 y15 y16 y17) (lockkeeperref30_Do.j2 (k+1) y0 y1 y2 y3 y4 y5 y6 y7 y8 y9 y10 y11 y12 y13 y14 y15 y16 y17))∧(∀ y0 y1 y2 y3 y4 y5 y6 y7 y8 y9 y10 y11 y12 y13 y14 y15,LeO (lockkeeperref30_Do.j3 k y0 y1 y2 y3 y4 y5 y6 y7 y8 y9 y10 y11 y12 y13 y14 y15) (lockkeeperref30_Do.j3 (k+1) y0 y1 y2 y3 y4 y5 y6 y7 y8 y9 y10 y11 y12 y13 y14 y15))∧(∀ y0 y1 y2 y3 y4 y5 y6 y7 y8 y9 y10 y11 y12 y13 y14 y15 y16,LeO (lockkeeperref30_Do.l1 k y0 y1 y2 y3 y4 y5 y6 y7 y8 y9 y10 y11 y12 y13 y14 y15 y16) (lockkeeperref30_Do.l1 (k+1) y0 y1 y2 y3 y4 y5 y6 y7 y8 y9 y10 y11 y12 y13 y14 y15 y16))
 |0=>⟨fun _ _ _ _ _ _ _ _ _ _ _ _ _ _ _ _ r h=>by simp [lockkeeperref30_Do.j0] at h,fun _ _ _ _ _ _ _ _ _ _ _ _ _ _ _ _ _ r h=>by simp [lockkeeperref30_Do.l0] at h,fun _ _ _ _ _ _ _ _ _ _ _ _ _ _ _ _ _ _ r h=>by simp [lockkeeperref30_Do.j2] at h,fun _ _ _ _ _ _ _ _ _ _ _ _ _ _ _ _ r h=>by simp [lockkeeperref30_Do.j3] at h,fun _ _ _ _ _ _ _ _ _ _ _ _ _ _ _ _ _ r h=>by simp [lockkeeperref30_Do.l1] at h⟩
 |k+1=>by
  obtain ⟨ih0,ih1,ih2,ih3,ih4⟩:=lockkeeperref30_Do.mono_l k
  refine ⟨?_,?_,?_,?_,?_⟩
  all_goals (intros;first|unfold lockkeeperref30_Do.j0|unfold lockkeeperref30_Do.l0|unfold lockkeeperref30_Do.j2|unfold lockkeeperref30_Do.j3|unfold lockkeeperref30_Do.l1)
  all_goals repeat' first
   |(with_reducible exact ih0 _ _ _ _ _ _ _ _ _ _ _ _ _ _ _ _)
   |(with_reducible exact ih1 _ _ _ _ _ _ _ _ _ _ _ _ _ _ _ _ _)
   |(with_reducible exact ih2 _ _ _ _ _ _ _ _ _ _ _ _ _ _ _ _ _ _)
   |(with_reducible exact ih3 _ _ _ _ _ _ _ _ _ _ _ _ _ _ _ _)
   |(with_reducible exact ih4 _ _ _ _ _ _ _ _ _ _ _ _ _ _ _ _ _)
   |(with_reducible exact lockkeeperref03_Has.mono _ _ _ _ _)
   |(with_reducible exact lockkeeperref03_Right.mono _ _ _ _)
   |(with_reducible exact lockkeeperref10_Delete.mono _ _ _)
   |(with_reducible exact lockkeeperref10_Put.mono _ _ _ _)
   |(with_reducible exact lockkeeperref10_Right.mono _ _)
   |(with_reducible exact LeO.refl _)
   |(with_reducible exact LeO.none _)
   |(with_reducible refine LeO.ite ?_ ?_)
   |(with_reducible refine LeO.bind ?_ (fun _=>?_))
   |exact ih0 _ _ _ _ _ _ _ _ _ _ _ _ _ _ _ _
   |exact ih1 _ _ _ _ _ _ _ _ _ _ _ _ _ _ _ _ _
   |exact ih2 _ _ _ _ _ _ _ _ _ _ _ _ _ _ _ _ _ _
   |exact ih3 _ _ _ _ _ _ _ _ _ _ _ _ _ _ _ _
   |exact ih4 _ _ _ _ _ _ _ _ _ _ _ _ _ _ _ _ _
   |exact lockkeeperref03_Has.mono _ _ _ _ _
   |exact lockkeeperref03_Right.mono _ _ _ _
   |exact lockkeeperref10_Delete.mono _ _ _
   |exact lockkeeperref10_Put.mono _ _ _ _
   |exact lockkeeperref10_Right.mono _ _
   |exact LeO.none _
   |refine LeO.ite ?_ ?_
   |refine LeO.bind ?_ (fun _=>?_)
theorem lockkeeperref30_Do.mono:∀ a0 a1 a2 a3 a4 a5 a6 a7 k,LeO (lockkeeperref30_Do.f k a0 a1 a2 a3 a4 a5 a6 a7) (lockkeeperref30_Do.f (k+1) a0 a1 a2 a3 a4 a5 a6 a7):=by
 intro a0 a1 a2 a3 a4 a5 a6 a7 k
 obtain ⟨ih0,ih1,ih2,ih3,ih4⟩:=lockkeeperref30_Do.mono_l k
 unfold lockkeeperref30_Do.f
 repeat' first
   |(with_reducible exact ih0 _ _ _ _ _ _ _ _ _ _ _ _ _ _ _ _)
   |(with_reducible exact ih1 _ _ _ _ _ _ _ _ _ _ _ _ _ _ _ _ _)
   |(with_reducible exact ih2 _ _ _ _ _ _ _ _ _ _ _ _ _ _ _ _ _ _)
   |(with_reducible exact ih3 _ _ _ _ _ _ _ _ _ _ _ _ _ _ _ _)
   |(with_reducible exact ih4 _ _ _ _ _ _ _ _ _ _ _ _ _ _ _ _ _)
   |(with_reducible exact lockkeeperref03_Has.mono _ _ _ _ _)
   |(with_reducible exact lockkeeperref03_Right.mono _ _ _ _)
   |(with_reducible exact lockkeeperref10_Delete.mono _ _ _)
   |(with_reducible exact lockkeeperref10_Put.mono _ _ _ _)
   |(with_reducible exact lockkeeperref10_Right.mono _ _)
   |(with_reducible exact LeO.refl _)
   |(with_reducible exact LeO.none _)
   |(with_reducible refine LeO.ite ?_ ?_)
   |(with_reducible refine LeO.bind ?_ (fun _=>?_))
   |exact ih0 _ _ _ _ _ _ _ _ _ _ _ _ _ _ _ _
   |exact ih1 _ _ _ _ _ _ _ _ _ _ _ _ _ _ _ _ _
   |exact ih2 _ _ _ _ _ _ _ _ _ _ _ _ _ _ _ _ _ _
   |exact ih3 _ _ _ _ _ _ _ _ _ _ _ _ _ _ _ _
   |exact ih4 _ _ _ _ _ _ _ _ _ _ _ _ _ _ _ _ _
   |exact lockkeeperref03_Has.mono _ _ _ _ _
   |exact lockkeeperref03_Right.mono _ _ _ _
   |exact lockkeeperref10_Delete.mono _ _ _
   |exact lockkeeperref10_Put.mono _ _ _ _
   |exact lockkeeperref10_Right.mono _ _
   |exact LeO.none _
   |refine LeO.ite ?_ ?_
   |refine LeO.bind ?_ (fun _=>?_)

end Go.Proofs.Ytoggblomknemoaa.R
