-- PRINTED by print.py (a twelfth state) out of the translation. Not trusted: Lean checks it.
import Derived.Test.YtmfaopjfdedheaaGreatSv
import Derived.Test.YtmfaopjfdedheaaGreatSh
import Derived.Test.YtmfaopjfdedheaaGreatMv
import Derived.Test.YtmfaopjfdedheaaGreatFx0
import Derived.Test.YtmfaopjfdedheaaGreatFx10
import Derived.Test.YtmfaopjfdedheaaGreatFx11
import Derived.Test.YtmfaopjfdedheaaGreatFx12
import Derived.Test.YtmfaopjfdedheaaGreatFx14
import Derived.Test.YtmfaopjfdedheaaGreatFx15
import Derived.Test.YtmfaopjfdedheaaGreatFx16
namespace Go.Proofs.YtmfaopjfdedheaaGreat.F
open Go.RowKit Go.Proofs.YtmfaopjfdedheaaGreatW Go.Proofs.YtmfaopjfdedheaaGreatW.PrintWords Go.Proofs.YtmfaopjfdedheaaGreatW.PrintLast Go.Proofs.YtmfaopjfdedheaaGreatW.PrintMore
attribute [local go_sem] GpMore.bytes_le max2_int min2_int max_two min_two max_three min_three max_four min_four   -- for this text's walks alone
set_option linter.unusedVariables false
set_option linter.unusedSimpArgs false

/-! ### lockkeeperref14_Cells: function 26 -/
def lockkeeperref14_Cells.l0:Nat→List (S42)→List (S28)→Int→Option ((List (S42)))
 |0,_,_,_=>none
 |k+1,x5,x6,x8=>if x8 < (x6.length:Int) then (if 0≤x8 then (if x5.length+((rd_T28 x6 x8).f8).length < 4398046511104 then (lockkeeperref14_Cells.l0 k (x5++((rd_T28 x6 x8).f8)) x6 (wrap64 (x8+1))) else (none)) else (none)) else (some x5)
def lockkeeperref14_Cells.f (k:Nat) (l0:List (S28)) (a1:Int):Option ((List (S42))):=(lockkeeperref14_Check.f k l0 a1).bind fun aw8=>(if aw8=0 then ((lockkeeperref14_row.f k l0 0).bind fun ef8=>(lockkeeperref14_Cells.l0 k ([]:List (S42)) ef8.1 0)) else (some ([]:List (S42))))
set_option maxHeartbeats 8000000 in
set_option maxRecDepth 100000 in
theorem lockkeeperref14_Cells.calls (k:Nat) (A0:Option Addr) (c0:Nat) (l0:List (S28)) (a1:Int) (r:List (S42)) (w:World) (hr0:Kd.C k28 w A0 l0.length l0) (hc0:l0.length≤c0) (h:lockkeeperref14_Cells.f k l0 a1=some r):
  Calls Tryz.prog 26 #[.slice A0 l0.length c0,.int .u64 a1] w fun e w'=>∃ v0_:Value,e=.returned (v0_)∧Kd.R k42 42 w' w.heap.size (fun _=>True) v0_ r∧Below w.heap.size w w':=by
 (have m9:=Aside0.mk hr0);(have D6:=Aside0.mk hc0);(clear hr0 hc0);(have HB:=Aside0.mk (Below.refl w.heap.size w));(unfold lockkeeperref14_Cells.f at h);(have H:=h);(clear h);(replace H:=bs H);(obtain ⟨aw8,A3,H⟩:=H);(by_cases c4:aw8=0)
 ·(rw [if_pos c4] at H);(have p2:(aw8==0)=true:=beq_iff_eq.mpr c4);(have ao5:(aw8 != 0)=false:=bne_eq_false_iff_eq.mpr c4);(clear c4);(replace H:=bs H);(obtain ⟨⟨al9,es7⟩,A5,H⟩:=H);(have H':=Aside0.mk H);(clear H);(go_enter Tryz.func26,Tryz.ntmps26);(go_wp2_with (first|((with_reducible refine gate_callee (f:=25) rfl ?_);refine goesL_ (some 11) rfl rfl Tryz.func25 (by kernel_rfl) rfl #[.slice A0 l0.length c0,.int .u64 a1] rfl am ?_;(with_reducible refine (lockkeeperref14_Check.calls k _ _ l0 a1 aw8 _ ?_ ?_ A3.out).mono ?_);(exact mvC m9.out);(exact D6.out);rintro e w6 ⟨rfl,hb⟩;refine ⟨_,rfl,?_⟩;replace HB:=sb HB hb)|((with_reducible refine gate_callee (f:=57) rfl ?_);refine goesL_ (some 15) rfl rfl Tryz.func57 (by kernel_rfl) rfl #[.slice A0 l0.length c0,.int .u8 0] rfl am ?_;(with_reducible refine (lockkeeperref14_row.calls k (fun k_=>k_ < w.heap.size) _ _ l0 0 al9 es7 _ ?_ A5.out).mono ?_);(exact Kd.V_mk D6.out (Kd.F_below (Kd.C_F k28_heap m9.out) (mvW HB.out)));rintro e w7 ⟨es8,rfl,i3,hb⟩;refine ⟨_,rfl,?_⟩;have ef9:=Aside0.mk (Kd.N_lower (Kd.N_mono (ok':=fun k_=>True) i3 (fun k_ hk_=>trivial)) (below_size (mvW HB.out)));replace HB:=sb HB hb)));(go_loopg [5,8] k (fun kq v5 v8 w'=>∃ (k7:List (S42)) (o7:Int),v8=.int .i64 o7∧Aside0 (lockkeeperref14_Cells.l0 kq k7 al9 o7=some r)∧Aside0 (kq≤k)∧Aside0 (Kd.R k42 42 w' w.heap.size (fun _=>True) v5 k7)∧Aside0 (Kd.N k28 28 w' w.heap.size (fun k_=>some k_≠(v5:Value).ownBlock) es8 al9)∧Aside0 (Below w.heap.size w w')))
  case atStart=>exact ⟨(([]:List (S42))),(0),sd,H',⟨Nat.le_refl _⟩,⟨by first|exact Kd.R_nil _ _ _ _ _ |exact Kd.N_nil _ _ _ _ _ |exact Kd.V_nil _ _ _ _ _ |exact Kd.Q_nil _ _ _ _ _ |exact Kd.S_nil _ _ _ _ _⟩,⟨by (with_reducible repeat (first|apply Kd.N_alloc|apply Kd.N_drewN|apply Kd.N_drew));exact Kd.N_mono ef9.out (fun _ hk=>(by simp [Value.ownBlock]))⟩,⟨mvW HB.out⟩⟩
  case round=>
   (clear H');(obtain ⟨k7,o7,rfl,HA,l7,HO_5,HO_6,HB⟩:=hrel)
   cases gk with
   |zero=>exact absurd HA.out (by simp [lockkeeperref14_Cells.l0])
   |succ k1=>
    (have H:=HA.out);(clear HA);(simp only [lockkeeperref14_Cells.l0] at H);(replace H:=sp H);(rcases H with ⟨aa3,H⟩|⟨aa3,H⟩)
    ·(replace H:=gd H);(obtain ⟨W9,H⟩:=H);(by_cases Q6:k7.length+((rd_T28 al9 o7).f8).length < 4398046511104)
     ·(rw [if_pos Q6] at H);(have LMc10:=Aside0.mk Q6);(clear Q6);(obtain ⟨y373,hy373⟩:∃ y_:List (S42),y_=(k7++((rd_T28 al9 o7).f8)):=⟨_,rfl⟩);(replace H:(lockkeeperref14_Cells.l0 k1 y373 al9 (wrap64 (o7+1)))=some r:=by first|(rw [hy373];with_reducible exact H)|(have H2_:=(Option.bind_some _ _).symm.trans H;rw [hy373];with_reducible exact H2_)|(have H2_:=(Option.bind_some _ _).symm.trans H;with_reducible exact H2_)|with_reducible exact H|(rw [hy373];exact H)|exact H);(have Ny373:=Aside0.mk hy373);(clear hy373);(have H':=Aside0.mk H);(clear H);(obtain ⟨dr0,ca5,eo11⟩:=Kd.N_slice HO_6.out);(subst eo11);(have cm2:0≤(o7:Int):=od);(have cm3:o7 < (al9.length:Int):=od);(obtain ⟨ad372,fd9,fe0,fe1,fe2,e372,ex2,ex3,ex4,ex5,ex6,ex7,ex8,ex9,dg2,dg3,hl372_8,hi372_8,hl372_9,hi372_9⟩:=at_T28 (Kd.N_reads' HO_6.out).2.2 o7 cm2 cm3);(cases e372);(obtain ⟨ce372,hce372,hMe372,hcc372⟩:=Kd.N_get HO_6.out z28 o7 cm2 (by first|exact cm3|exact od|(have e_:=(Kd.N_reads' HO_6.out).1;omega)));(obtain ⟨ua372_8,uc372_8,ua372_9,uc372_9,rfl,ul372_8,ge372_8,ul372_9,ge372_9⟩:=k28_openF hMe372);(have hv372_8:=hcc372 8 _ rfl);(rw [add_field _ _ 8 (by omega)] at hv372_8);(replace hv372_8:=Option.some.inj (hv372_8.symm.trans dg2));(injection hv372_8 with hva_ hvn_ hvc_);(rw [hva_] at ge372_8);(rw [hvc_] at ul372_8);(have cg1:=Aside0.mk (show Kd.V (Kd.int .u64) 22 _ w.heap.size _ _ ((rd_T28 al9 o7).f7.f1) from Kd.V_mk ul372_8 ge372_8));(clear hva_ hvn_ hvc_ ge372_8 ul372_8);(have hv372_9:=hcc372 9 _ rfl);(rw [add_field _ _ 9 (by omega)] at hv372_9);(replace hv372_9:=Option.some.inj (hv372_9.symm.trans dg3));(injection hv372_9 with hva_ hvn_ hvc_);(rw [hva_] at ge372_9);(rw [hvc_] at ul372_9);(have cg2:=Aside0.mk (show Kd.V k42 42 _ w.heap.size _ _ ((rd_T28 al9 o7).f8) from Kd.V_mk ul372_9 ge372_9));(clear hva_ hvn_ hvc_ ge372_9 ul372_9);(clear hcc372 hce372);(have ey0:=Aside0.mk hi372_8);(have ey1:=Aside0.mk hl372_8);(clear hi372_8 hl372_8);(have dg4:=Aside0.mk hi372_9);(have ey2:=Aside0.mk hl372_9);(clear hi372_9 hl372_9);(replace cm2:=eq_true cm2);(replace cm3:=eq_true cm3);(go_wp2_with (first|((with_reducible refine gate_builtin (b:=.append) (xs:=#[.tmp 24,.tmp 29]) rfl ?_);at_builtin;refine Kd.R_append_rows k42 (w0:=w) w.heap.size rfl (.tmp 24) (.tmp 29) 26 42 (.agg #[(.string ⟨#[]⟩),(.string ⟨#[]⟩)]) 32 rfl Tryz.underlying26 info42 rfl (by decide) (by omega) u5 k7 ((rd_T28 al9 o7).f8) _ _ _ (fun _=>True) (fun _=>False) rfl rfl ?aO ?aR (fun _ _ h=>h) (fun _ h=>h.elim) ?aF ?aB ?aS ?aL ?_;(case aR=>repeat (first|exact (mvC dg4.out)|(with_reducible refine Kd.C_alloc ?_ _)|(with_reducible refine Kd.C_drewN ?_ _)|(with_reducible refine Kd.C_drew ?_)));(case aB=>exact (mvW HB.out));(case aF=>exact (fun _ _=>trivial));(case aO=>exact (mvR HO_5.out));(case aS=>exact (below_size (mvW HB.out)));(case aL=>have:=LMc10.out;omega);intro fy7 w12 ho hb hg hat;rw [← Ny373.out] at ho;replace HO_6:=Aside0.mk (Kd.N_afterv (ok:=(fun _=>True)) (by (with_reducible repeat (first|apply Kd.N_alloc|apply Kd.N_drewN|apply Kd.N_drew));exact Kd.N_mono HO_6.out (fun _ hk=>⟨trivial,hk⟩)) hg hat);replace cg1:=Aside0.mk (Kd.V_afterv (ok:=(fun k_=>some k_≠(.slice (some ad372) al9.length ca5:Value).ownBlock)) (mvV (Kd.V_mono cg1.out (fun _ hk=>⟨hk.2,hk.1⟩))) hg hat);replace cg2:=Aside0.mk (Kd.V_afterv (ok:=(fun k_=>some k_≠(.slice (some ad372) al9.length ca5:Value).ownBlock)) (mvV (Kd.V_mono cg2.out (fun _ hk=>⟨hk.2,hk.1⟩))) hg hat);replace HB:=Aside0.mk (hb);have eg0:=Aside0.mk (ho);clear HO_5;clear ho hb hg hat)));(go_roundg k1)
      case measure=>have:=l7.out;omega
      case rel=>exact ⟨(y373),(wrap64 (o7+1)),sd,H',⟨by have:=l7.out;omega⟩,⟨mvR eg0.out⟩,⟨by (with_reducible repeat (first|apply Kd.N_alloc|apply Kd.N_drewN|apply Kd.N_drew));exact Kd.N_mono HO_6.out (fun _ hk=>hk.2)⟩,⟨mvW HB.out⟩⟩
     ·(rw [if_neg Q6] at H);(exact absurd H (by simp))
    ·(obtain rfl:=Option.some.inj H);(obtain ⟨ds5,ds6,eo13⟩:=Kd.N_slice HO_6.out);(subst eo13);(go_wp2);(go_ret);(exact ⟨_,rv,mvR HO_5.out,mvW HB.out⟩)
 ·(rw [if_neg c4] at H);(have p2:(aw8==0)=false:=beq_eq_false_iff_ne.mpr c4);(have ao5:(aw8 != 0)=true:=bne_iff_ne.mpr c4);(obtain rfl:=Option.some.inj H);(go_enter Tryz.func26,Tryz.ntmps26);(go_wp2_with (first|((with_reducible refine gate_callee (f:=25) rfl ?_);refine goesL_ (some 11) rfl rfl Tryz.func25 (by kernel_rfl) rfl #[.slice A0 l0.length c0,.int .u64 a1] rfl am ?_;(with_reducible refine (lockkeeperref14_Check.calls k _ _ l0 a1 aw8 _ ?_ ?_ A3.out).mono ?_);(exact mvC m9.out);(exact D6.out);rintro e w14 ⟨rfl,hb⟩;refine ⟨_,rfl,?_⟩;replace HB:=sb HB hb)));(go_ret);(exact ⟨_,rv,by first|exact Kd.R_nil _ _ _ _ _ |exact Kd.N_nil _ _ _ _ _ |exact Kd.V_nil _ _ _ _ _ |exact Kd.Q_nil _ _ _ _ _ |exact Kd.S_nil _ _ _ _ _,mvW HB.out⟩)

/-! ### lockkeeperref14_Posted: function 29 -/
mutual
def lockkeeperref14_Posted.l0:Nat→List (S28)→Int→Int→Option (Bool)
 |0,_,_,_=>none
 |k+1,x0,x1,x5=>if x5 < (x0.length:Int) then (lockkeeperref14_Posted.l1 k x0 x1 x5 0) else (some false)
def lockkeeperref14_Posted.l1:Nat→List (S28)→Int→Int→Int→Option (Bool)
 |0,_,_,_,_=>none
 |k+1,x0,x1,x5,x6=>if 0≤x5 then (if x5 < (x0.length:Int) then (if x6 < (((rd_T28 x0 x5).f8).length:Int) then (lockkeeperref14_Posted.j2 k x0 x1 x5 x6 (decide (((rd_T28 x0 x5).f2) > 0))) else (lockkeeperref14_Posted.j2 k x0 x1 x5 x6 false)) else (none)) else (none)
def lockkeeperref14_Posted.j2:Nat→List (S28)→Int→Int→Int→Bool→Option (Bool)
 |0,_,_,_,_,_=>none
 |k+1,x0,x1,x5,x6,x30=>if x30=true then (if 0≤x5 then (if x5 < (x0.length:Int) then (if 0≤x6 then (if x6 < (((rd_T28 x0 x5).f8).length:Int) then ((lockkeeperref11_Id.f k ((rd_T42 ((rd_T28 x0 x5).f8) x6).f1)).bind fun eg8=>(if eg8.1=x1 then (some true) else (lockkeeperref14_Posted.l1 k x0 x1 x5 (wrap64 (x6+1))))) else (none)) else (none)) else (none)) else (none)) else (lockkeeperref14_Posted.l0 k x0 x1 (wrap64 (x5+1)))
end
def lockkeeperref14_Posted.f (k:Nat) (l0:List (S28)) (a1:Int):Option (Bool):=lockkeeperref14_Posted.l0 k l0 a1 0
set_option maxHeartbeats 8000000 in
set_option maxRecDepth 100000 in
theorem lockkeeperref14_Posted.calls (k:Nat) (A0:Option Addr) (c0:Nat) (l0:List (S28)) (a1:Int) (r:Bool) (w:World) (hr0:Kd.C k28 w A0 l0.length l0) (hc0:l0.length≤c0) (h:lockkeeperref14_Posted.f k l0 a1=some r):
  Calls Tryz.prog 29 #[.slice A0 l0.length c0,.int .u64 a1] w fun e w'=>e=.returned (.bool r)∧Drawn0 w w':=by
 (have m9:=Aside0.mk hr0);(have D6:=Aside0.mk hc0);(clear hr0 hc0);(unfold lockkeeperref14_Posted.f at h);(have H:=h);(clear h);(have H':=Aside0.mk H);(clear H);(go_enter Tryz.func29,Tryz.ntmps29);(go_wp2);(go_loopg [5] k (fun kq v5 w'=>∃ (k7:Int),v5=.int .i64 k7∧Aside0 (lockkeeperref14_Posted.l0 kq l0 a1 k7=some r)∧Aside0 (kq≤k)∧Drawn0 w w'))
 case atStart=>exact ⟨(0),sd,H',⟨Nat.le_refl _⟩,by repeat (first|exact Drawn0.refl _ |apply Drawn0.step)⟩
 case round=>
  (clear H');(obtain ⟨k7,rfl,HA,l7,⟨m1,rfl⟩⟩:=hrel)
  cases gk with
  |zero=>exact absurd HA.out (by simp [lockkeeperref14_Posted.l0])
  |succ k1=>
   (have H:=HA.out);(clear HA);(simp only [lockkeeperref14_Posted.l0] at H);(replace H:=sp H);(rcases H with ⟨N6,H⟩|⟨N6,H⟩)
   ·(have H':=Aside0.mk H);(clear H);(go_wp2);(go_loopg [6] k1 (fun kq v6 w'=>∃ (P7:Int),v6=.int .i64 P7∧Aside0 (lockkeeperref14_Posted.l1 kq l0 a1 k7 P7=some r)∧Aside0 (kq≤k1)∧Drawn0 w w'))
    case atStart=>exact ⟨(0),sd,H',⟨Nat.le_refl _⟩,by repeat (first|exact Drawn0.refl _ |apply Drawn0.step)⟩
    case round=>
     (clear H');(obtain ⟨P7,rfl,HA,I0,⟨m2,rfl⟩⟩:=hrel)
     cases gk with
     |zero=>exact absurd HA.out (by simp [lockkeeperref14_Posted.l1])
     |succ k2=>
      (have H:=HA.out);(clear HA);(simp only [lockkeeperref14_Posted.l1] at H);(have HC4:=Aside0.mk H);(clear H);(go_upto_region 5 with (fail));(go_cut [30] (fun v30 wc=>∃ (kq:Nat) (cm4:Bool),v30=.bool cm4∧Aside0 (lockkeeperref14_Posted.j2 kq l0 a1 k7 P7 cm4=some r)∧Aside0 (kq≤k2)∧Drawn0 w wc))
      case first=>
       (have H:=HC4.out);(clear HC4);(replace H:=gd H);(obtain ⟨S1,H⟩:=H);((first|rw [S1]|(simp only [i64_w,i32_w];rw [S1])|skip));(replace H:=gd H);(obtain ⟨J0,H⟩:=H);(replace H:=sp H);(rcases H with ⟨T6,H⟩|⟨T6,H⟩)
       ·(have H':=Aside0.mk H);(clear H);(have bj8:0≤(k7:Int):=od);(have bj9:k7 < (l0.length:Int):=od);(obtain ⟨ad376,ds7,ds8,ds9,dt0,e376,dg5,dg6,dg7,dg8,dg9,dh0,dh1,dh2,cg3,cg4,hl376_8,hi376_8,hl376_9,hi376_9⟩:=at_T28 m9.out k7 bj8 bj9);(cases e376);(have dh3:=Aside0.mk hi376_8);(have dh4:=Aside0.mk hl376_8);(clear hi376_8 hl376_8);(have dh5:=Aside0.mk hi376_9);(have dh6:=Aside0.mk hl376_9);(clear hi376_9 hl376_9);(replace bj8:=eq_true bj8);(replace bj9:=eq_true bj9);(have cw9:0≤(k7:Int):=od);(have cx0:k7 < (l0.length:Int):=od);(obtain ⟨ad377,fe5,fe6,fe7,fe8,e377,ey3,ey4,ey5,ey6,ey7,ey8,ey9,ez0,dh7,dh8,hl377_8,hi377_8,hl377_9,hi377_9⟩:=at_T28 m9.out k7 cw9 cx0);(obtain rfl:ad376=ad377:=(by injection e377));(have ez1:=Aside0.mk hi377_8);(have ez2:=Aside0.mk hl377_8);(clear hi377_8 hl377_8);(have ez3:=Aside0.mk hi377_9);(have ez4:=Aside0.mk hl377_9);(clear hi377_9 hl377_9);(replace cw9:=eq_true cw9);(replace cx0:=eq_true cx0);(have ea_:=Option.some.inj (cg3.symm.trans dh7));(injection ea_ with ea_ en_ ec_);(subst ea_);(subst ec_);(clear en_);(have ea_:=Option.some.inj (cg4.symm.trans dh8));(injection ea_ with ea_ en_ ec_);(subst ea_);(subst ec_);(clear en_);(go_wp2);(go_meet)
        case rel=>exact ⟨_,(decide (((rd_T28 l0 k7).f2) > 0)),sd,H',⟨by have:=l7.out;have:=I0.out;first|omega|exact Nat.le_refl _⟩,by repeat (first|exact Drawn0.refl _ |apply Drawn0.step)⟩
       ·(have H':=Aside0.mk H);(clear H);(have bj8:0≤(k7:Int):=od);(have bj9:k7 < (l0.length:Int):=od);(obtain ⟨ad376,ds7,ds8,ds9,dt0,e376,dg5,dg6,dg7,dg8,dg9,dh0,dh1,dh2,cg3,cg4,hl376_8,hi376_8,hl376_9,hi376_9⟩:=at_T28 m9.out k7 bj8 bj9);(cases e376);(have dh3:=Aside0.mk hi376_8);(have dh4:=Aside0.mk hl376_8);(clear hi376_8 hl376_8);(have dh5:=Aside0.mk hi376_9);(have dh6:=Aside0.mk hl376_9);(clear hi376_9 hl376_9);(replace bj8:=eq_true bj8);(replace bj9:=eq_true bj9);(go_wp2);(go_meet)
        case rel=>exact ⟨_,(false),sd,H',⟨by have:=l7.out;have:=I0.out;first|omega|exact Nat.le_refl _⟩,by repeat (first|exact Drawn0.refl _ |apply Drawn0.step)⟩
      case rest=>
       (clear HC4);(obtain ⟨kq,cm4,rfl,HA,U4,⟨mc3,rfl⟩⟩:=hcut)
       cases kq with
       |zero=>exact absurd HA.out (by simp [lockkeeperref14_Posted.j2])
       |succ kj3=>
        (have H:=HA.out);(clear HA);(simp only [lockkeeperref14_Posted.j2] at H);(replace H:=sB H);(rcases H with ⟨rfl,H⟩|⟨rfl,H⟩)
        ·(replace H:=gd H);(obtain ⟨W9,H⟩:=H);(replace H:=gd H);(obtain ⟨Q7,H⟩:=H);(replace H:=gd H);(obtain ⟨bo5,H⟩:=H);(replace H:=gd H);(obtain ⟨bx9,H⟩:=H);(replace H:=bs H);(obtain ⟨⟨bk0,dt1⟩,A13,H⟩:=H);(by_cases c14:bk0=a1)
         ·(rw [if_pos c14] at H);(have ak4:(bk0==a1)=true:=beq_iff_eq.mpr c14);(have bp1:(bk0 != a1)=false:=bne_eq_false_iff_eq.mpr c14);(clear c14);(obtain rfl:=Option.some.inj H);(have bk1:0≤(k7:Int):=od);(have bk2:k7 < (l0.length:Int):=od);(obtain ⟨ad378,dt2,dt3,dt4,dt5,e378,dh9,di0,di1,di2,di3,di4,di5,di6,di7,di8,hl378_8,hi378_8,hl378_9,hi378_9⟩:=at_T28 m9.out k7 bk1 bk2);(cases e378);(have di9:=Aside0.mk hi378_8);(have dj0:=Aside0.mk hl378_8);(clear hi378_8 hl378_8);(have bu3:=Aside0.mk hi378_9);(have dj1:=Aside0.mk hl378_9);(clear hi378_9 hl378_9);(replace bk1:=eq_true bk1);(replace bk2:=eq_true bk2);(have bk3:0≤(P7:Int):=od);(have bk4:P7 < (((rd_T28 l0 k7).f8).length:Int):=od);(obtain ⟨ad379,e379,dj2,dj3⟩:=at_T42 bu3.out P7 bk3 bk4);(cases e379);(replace bk3:=eq_true bk3);(replace bk4:=eq_true bk4);(go_wp2_with (first|((with_reducible refine gate_callee (f:=58) rfl ?_);refine goesL_ (some 43) rfl rfl Tryz.func58 (by kernel_rfl) rfl #[.string ((rd_T42 ((rd_T28 l0 k7).f8) P7).f1)] rfl am ?_;(with_reducible refine (lockkeeperref11_Id.calls kj3 ((rd_T42 ((rd_T28 l0 k7).f8) P7).f1) bk0 dt1 _ A13.out).mono ?_);rintro e w' ⟨rfl,⟨nd,rfl⟩⟩;refine ⟨_,rfl,?_⟩)));(go_ret);(exact ⟨by first|rfl|(simp;done)|(simp [*];done),by repeat (first|exact Drawn0.refl _ |apply Drawn0.step)⟩)
         ·(rw [if_neg c14] at H);(have ak4:(bk0==a1)=false:=beq_eq_false_iff_ne.mpr c14);(have bp1:(bk0 != a1)=true:=bne_iff_ne.mpr c14);(have H':=Aside0.mk H);(clear H);(have bk1:0≤(k7:Int):=od);(have bk2:k7 < (l0.length:Int):=od);(obtain ⟨ad378,dt2,dt3,dt4,dt5,e378,dh9,di0,di1,di2,di3,di4,di5,di6,di7,di8,hl378_8,hi378_8,hl378_9,hi378_9⟩:=at_T28 m9.out k7 bk1 bk2);(cases e378);(have di9:=Aside0.mk hi378_8);(have dj0:=Aside0.mk hl378_8);(clear hi378_8 hl378_8);(have bu3:=Aside0.mk hi378_9);(have dj1:=Aside0.mk hl378_9);(clear hi378_9 hl378_9);(replace bk1:=eq_true bk1);(replace bk2:=eq_true bk2);(have bk3:0≤(P7:Int):=od);(have bk4:P7 < (((rd_T28 l0 k7).f8).length:Int):=od);(obtain ⟨ad379,e379,dj2,dj3⟩:=at_T42 bu3.out P7 bk3 bk4);(cases e379);(replace bk3:=eq_true bk3);(replace bk4:=eq_true bk4);(go_wp2_with (first|((with_reducible refine gate_callee (f:=58) rfl ?_);refine goesL_ (some 43) rfl rfl Tryz.func58 (by kernel_rfl) rfl #[.string ((rd_T42 ((rd_T28 l0 k7).f8) P7).f1)] rfl am ?_;(with_reducible refine (lockkeeperref11_Id.calls kj3 ((rd_T42 ((rd_T28 l0 k7).f8) P7).f1) bk0 dt1 _ A13.out).mono ?_);rintro e w' ⟨rfl,⟨nd,rfl⟩⟩;refine ⟨_,rfl,?_⟩)));(go_roundg kj3)
          case measure=>have:=l7.out;have:=I0.out;have:=U4.out;omega
          case rel=>exact ⟨(wrap64 (P7+1)),sd,H',⟨by have:=l7.out;have:=I0.out;have:=U4.out;omega⟩,by repeat (first|exact Drawn0.refl _ |apply Drawn0.step)⟩
        ·(have H':=Aside0.mk H);(clear H);(go_wp2);(go_roundg kj3)
         case measure=>have:=l7.out;have:=I0.out;have:=U4.out;omega
         case rel=>exact ⟨(wrap64 (k7+1)),sd,H',⟨by have:=l7.out;have:=I0.out;have:=U4.out;omega⟩,by repeat (first|exact Drawn0.refl _ |apply Drawn0.step)⟩
   ·(obtain rfl:=Option.some.inj H);(go_wp2);(go_ret);(exact ⟨by first|rfl|(simp;done)|(simp [*];done),by repeat (first|exact Drawn0.refl _ |apply Drawn0.step)⟩)

/-! ### lockkeeperref14_Unposted: function 27 -/
def lockkeeperref14_Unposted.l0:Nat→List (S28)→Int→List Int→Int→Option (List Int)
 |0,_,_,_,_=>none
 |k+1,x0,x1,x5,x6=>if x6 < (x0.length:Int) then (if 0≤x6 then (if ((rd_T28 x0 x6).f0)=x1 then (lockkeeperref14_Unposted.l0 k x0 x1 x5 (wrap64 (x6+1))) else ((lockkeeperref14_Posted.f k x0 ((rd_T28 x0 x6).f0)).bind fun dt6=>(if dt6=true then (lockkeeperref14_Unposted.l0 k x0 x1 x5 (wrap64 (x6+1))) else (if x5.length < 17592186044416 then (lockkeeperref14_Unposted.l0 k x0 x1 (x5++[(rd_T28 x0 x6).f0]) (wrap64 (x6+1))) else (none))))) else (none)) else (some x5)
def lockkeeperref14_Unposted.f (k:Nat) (l0:List (S28)) (a1:Int):Option (List Int):=(lockkeeperref14_Check.f k l0 a1).bind fun aw9=>(if aw9=0 then (lockkeeperref14_Unposted.l0 k l0 a1 ([]:List Int) 0) else (some ([]:List Int)))
set_option maxHeartbeats 8000000 in
set_option maxRecDepth 100000 in
theorem lockkeeperref14_Unposted.calls (k:Nat) (A0:Option Addr) (c0:Nat) (l0:List (S28)) (a1:Int) (r:List Int) (w:World) (hr0:Kd.C k28 w A0 l0.length l0) (hc0:l0.length≤c0) (h:lockkeeperref14_Unposted.f k l0 a1=some r):
  Calls Tryz.prog 27 #[.slice A0 l0.length c0,.int .u64 a1] w fun e w'=>∃ v0_:Value,e=.returned (v0_)∧Kd.R (Kd.int .u64) 22 w' w.heap.size (fun _=>True) v0_ r∧Below w.heap.size w w':=by
 (have m9:=Aside0.mk hr0);(have D6:=Aside0.mk hc0);(clear hr0 hc0);(have HB:=Aside0.mk (Below.refl w.heap.size w));(unfold lockkeeperref14_Unposted.f at h);(have H:=h);(clear h);(replace H:=bs H);(obtain ⟨aw9,A3,H⟩:=H);(by_cases c4:aw9=0)
 ·(rw [if_pos c4] at H);(have p2:(aw9==0)=true:=beq_iff_eq.mpr c4);(have ao5:(aw9 != 0)=false:=bne_eq_false_iff_eq.mpr c4);(clear c4);(have H':=Aside0.mk H);(clear H);(go_enter Tryz.func27,Tryz.ntmps27);(go_wp2_with (first|((with_reducible refine gate_callee (f:=25) rfl ?_);refine goesL_ (some 9) rfl rfl Tryz.func25 (by kernel_rfl) rfl #[.slice A0 l0.length c0,.int .u64 a1] rfl am ?_;(with_reducible refine (lockkeeperref14_Check.calls k _ _ l0 a1 aw9 _ ?_ ?_ A3.out).mono ?_);(exact mvC m9.out);(exact D6.out);rintro e w5 ⟨rfl,hb⟩;refine ⟨_,rfl,?_⟩;replace HB:=sb HB hb)));(go_loopg [5,6] k (fun kq v5 v6 w'=>∃ (k7:List Int) (d4:Int),v6=.int .i64 d4∧Aside0 (lockkeeperref14_Unposted.l0 kq l0 a1 k7 d4=some r)∧Aside0 (kq≤k)∧Aside0 (Kd.R (Kd.int .u64) 22 w' w.heap.size (fun _=>True) v5 k7)∧Aside0 (Below w.heap.size w w')))
  case atStart=>exact ⟨(([]:List Int)),(0),sd,H',⟨Nat.le_refl _⟩,⟨by first|exact Kd.R_nil _ _ _ _ _ |exact Kd.N_nil _ _ _ _ _ |exact Kd.V_nil _ _ _ _ _ |exact Kd.Q_nil _ _ _ _ _ |exact Kd.S_nil _ _ _ _ _⟩,⟨mvW HB.out⟩⟩
  case round=>
   (clear H');(obtain ⟨k7,d4,rfl,HA,l7,HO_5,HB⟩:=hrel)
   cases gk with
   |zero=>exact absurd HA.out (by simp [lockkeeperref14_Unposted.l0])
   |succ k1=>
    (have H:=HA.out);(clear HA);(simp only [lockkeeperref14_Unposted.l0] at H);(replace H:=sp H);(rcases H with ⟨J0,H⟩|⟨J0,H⟩)
    ·(replace H:=gd H);(obtain ⟨T6,H⟩:=H);(by_cases c8:((rd_T28 l0 d4).f0)=a1)
     ·(rw [if_pos c8] at H);(have aa3:(((rd_T28 l0 d4).f0)==a1)=true:=beq_iff_eq.mpr c8);(have bi9:(((rd_T28 l0 d4).f0) != a1)=false:=bne_eq_false_iff_eq.mpr c8);(clear c8);(have H':=Aside0.mk H);(clear H);(obtain ⟨ad383,cs1,cs2,cs3,cs4,e383,hw383,hx383,pq383,cg5,cg6,cg7,cg8⟩:=rd28 HB m9 d4);(cases e383);(go_wp2);(go_roundg k1)
      case measure=>have:=l7.out;omega
      case rel=>exact ⟨(k7),(wrap64 (d4+1)),sd,H',⟨by have:=l7.out;omega⟩,⟨mvR HO_5.out⟩,⟨mvW HB.out⟩⟩
     ·(rw [if_neg c8] at H);(have aa3:(((rd_T28 l0 d4).f0)==a1)=false:=beq_eq_false_iff_ne.mpr c8);(have bi9:(((rd_T28 l0 d4).f0) != a1)=true:=bne_iff_ne.mpr c8);(replace H:=bs H);(obtain ⟨dt6,A9,H⟩:=H);(replace H:=sB H);(rcases H with ⟨rfl,H⟩|⟨rfl,H⟩)
      ·(have H':=Aside0.mk H);(clear H);(obtain ⟨ad383,cs1,cs2,cs3,cs4,e383,hw383,hx383,pq383,cg5,cg6,cg7,cg8⟩:=rd28 HB m9 d4);(cases e383);(go_wp2_with (first|(go_at_call 29;(with_reducible refine (lockkeeperref14_Posted.calls k1 _ _ l0 ((rd_T28 l0 d4).f0) true _ ?_ ?_ A9.out).mono ?_);(exact mvC (Kd.C_below m9.out HB.out));(exact D6.out);rintro e w' ⟨rfl,⟨nd,rfl⟩⟩)));(go_roundg k1)
       case measure=>have:=l7.out;omega
       case rel=>exact ⟨(k7),(wrap64 (d4+1)),sd,H',⟨by have:=l7.out;omega⟩,⟨mvR HO_5.out⟩,⟨mvW HB.out⟩⟩
      ·(by_cases c11:k7.length < 17592186044416)
       ·(rw [if_pos c11] at H);(have LMc11:=Aside0.mk c11);(clear c11);(obtain ⟨y387,hy387⟩:∃ y_:List Int,y_=(k7++[(rd_T28 l0 d4).f0]):=⟨_,rfl⟩);(replace H:(lockkeeperref14_Unposted.l0 k1 l0 a1 y387 (wrap64 (d4+1)))=some r:=by first|(rw [hy387];with_reducible exact H)|(have H2_:=(Option.bind_some _ _).symm.trans H;rw [hy387];with_reducible exact H2_)|(have H2_:=(Option.bind_some _ _).symm.trans H;with_reducible exact H2_)|with_reducible exact H|(rw [hy387];exact H)|exact H);(have Ny387:=Aside0.mk hy387);(clear hy387);(have H':=Aside0.mk H);(clear H);(obtain ⟨ad383,cs1,cs2,cs3,cs4,e383,hw383,hx383,pq383,cg5,cg6,cg7,cg8⟩:=rd28 HB m9 d4);(cases e383);(go_wp2_with (first|(go_at_call 29;(with_reducible refine (lockkeeperref14_Posted.calls k1 _ _ l0 ((rd_T28 l0 d4).f0) false _ ?_ ?_ A9.out).mono ?_);(exact mvC (Kd.C_below m9.out HB.out));(exact D6.out);rintro e w' ⟨rfl,⟨nd,rfl⟩⟩;obtain ⟨ad386,fe9,ff0,ff1,ff2,e386,hw386,hx386,pq386,ez5,ez6,ez7,ez8⟩:=rd28 HB m9 d4;obtain rfl:ad383=ad386:=(by injection e386);have ea_:=Option.some.inj (hx383.2.2.2.2.2.2.2.2.1.symm.trans hx386.2.2.2.2.2.2.2.2.1);injection ea_ with ea_ en_ ec_;subst ea_;subst ec_;clear en_;have ea_:=Option.some.inj (hx383.2.2.2.2.2.2.2.2.2.symm.trans hx386.2.2.2.2.2.2.2.2.2);injection ea_ with ea_ en_ ec_;subst ea_;subst ec_;clear en_)|((with_reducible refine gate_builtin (b:=.append) (xs:=#[.tmp 34,.tmp 40]) rfl ?_);at_builtin;refine Kd.R_append (Kd.int .u64) (w0:=w) w.heap.size rfl (.tmp 34) (.tmp 40) 23 22 (.int .u64 0) 8 rfl Tryz.underlying23 info22 rfl (by decide) (by omega) u5 k7 ((rd_T28 l0 d4).f0) [.int .u64 ((rd_T28 l0 d4).f0)] (fun _=>True) (fun _=>False) rfl rfl ?aP (fun _ hk=>hk.elim) ?aF ?aO ?aB ?aS ?aL ?_;(case aP=>exact rfl);(case aB=>exact (mvW HB.out));(case aF=>exact (fun _ _=>trivial));(case aO=>exact (mvR HO_5.out));(case aS=>exact (below_size (mvW HB.out)));(case aL=>have:=LMc11.out;omega);intro fy8 w12 ho hb hg hat;rw [← Ny387.out] at ho;replace HB:=Aside0.mk (hb);have eg9:=Aside0.mk (ho);clear HO_5;clear ho hb hg hat)));(go_roundg k1)
        case measure=>have:=l7.out;omega
        case rel=>exact ⟨(y387),(wrap64 (d4+1)),sd,H',⟨by have:=l7.out;omega⟩,⟨mvR eg9.out⟩,⟨mvW HB.out⟩⟩
       ·(rw [if_neg c11] at H);(exact absurd H (by simp))
    ·(obtain rfl:=Option.some.inj H);(go_wp2);(go_ret);(exact ⟨_,rv,mvR HO_5.out,mvW HB.out⟩)
 ·(rw [if_neg c4] at H);(have p2:(aw9==0)=false:=beq_eq_false_iff_ne.mpr c4);(have ao5:(aw9 != 0)=true:=bne_iff_ne.mpr c4);(obtain rfl:=Option.some.inj H);(go_enter Tryz.func27,Tryz.ntmps27);(go_wp2_with (first|((with_reducible refine gate_callee (f:=25) rfl ?_);refine goesL_ (some 9) rfl rfl Tryz.func25 (by kernel_rfl) rfl #[.slice A0 l0.length c0,.int .u64 a1] rfl am ?_;(with_reducible refine (lockkeeperref14_Check.calls k _ _ l0 a1 aw9 _ ?_ ?_ A3.out).mono ?_);(exact mvC m9.out);(exact D6.out);rintro e w13 ⟨rfl,hb⟩;refine ⟨_,rfl,?_⟩;replace HB:=sb HB hb)));(go_ret);(exact ⟨_,rv,by first|exact Kd.R_nil _ _ _ _ _ |exact Kd.N_nil _ _ _ _ _ |exact Kd.V_nil _ _ _ _ _ |exact Kd.Q_nil _ _ _ _ _ |exact Kd.S_nil _ _ _ _ _,mvW HB.out⟩)

/-! ### lockkeeperref10_At: function 112 -/
mutual
def lockkeeperref10_At.l0:Nat→List (S42)→ByteArray→Int→Int→Option (Int)
 |0,_,_,_,_=>none
 |k+1,x0,x1,x5,x6=>if x6 < (x0.length:Int) then ((lockkeeperref10_Right.f k x0).bind fun cm5=>(lockkeeperref10_At.j1 k x0 x1 x5 x6 cm5)) else (lockkeeperref10_At.j1 k x0 x1 x5 x6 false)
def lockkeeperref10_At.j1:Nat→List (S42)→ByteArray→Int→Int→Bool→Option (Int)
 |0,_,_,_,_,_=>none
 |k+1,x0,x1,x5,x6,x14=>if x14=true then (if 0≤x6 then (if x6 < (x0.length:Int) then (if ((Op.bytesLess x1.toList (((rd_T42 x0 x6).f0).toList))=true) then (lockkeeperref10_At.l0 k x0 x1 x5 (wrap64 (x6+1))) else (lockkeeperref10_At.l0 k x0 x1 x6 (wrap64 (x6+1)))) else (none)) else (none)) else (some x5)
end
def lockkeeperref10_At.f (k:Nat) (l0:List (S42)) (a1:ByteArray):Option (Int):=lockkeeperref10_At.l0 k l0 a1 (-1) 0
set_option maxHeartbeats 8000000 in
set_option maxRecDepth 100000 in
theorem lockkeeperref10_At.calls (k:Nat) (A0:Option Addr) (c0:Nat) (l0:List (S42)) (a1:ByteArray) (r:Int) (w:World) (hr0:Kd.C k42 w A0 l0.length l0) (hc0:l0.length≤c0) (h:lockkeeperref10_At.f k l0 a1=some r):
  Calls Tryz.prog 112 #[.slice A0 l0.length c0,.string a1] w fun e w'=>e=.returned (.int .i64 r)∧Below w.heap.size w w':=by
 (have m9:=Aside0.mk hr0);(have D6:=Aside0.mk hc0);(clear hr0 hc0);(have HB:=Aside0.mk (Below.refl w.heap.size w));(unfold lockkeeperref10_At.f at h);(have H:=h);(clear h);(have H':=Aside0.mk H);(clear H);(go_enter Tryz.func112,Tryz.ntmps112);(go_wp2);(go_loopg [5,6] k (fun kq v5 v6 w'=>∃ (k7:Int) (d4:Int),v5=.int .i64 k7∧v6=.int .i64 d4∧Aside0 (lockkeeperref10_At.l0 kq l0 a1 k7 d4=some r)∧Aside0 (kq≤k)∧Aside0 (Below w.heap.size w w')))
 case atStart=>exact ⟨((-1)),(0),sd,sd,H',⟨Nat.le_refl _⟩,⟨mvW HB.out⟩⟩
 case round=>
  (clear H');(obtain ⟨k7,d4,rfl,rfl,HA,l7,HB⟩:=hrel)
  cases gk with
  |zero=>exact absurd HA.out (by simp [lockkeeperref10_At.l0])
  |succ k1=>
   (have H:=HA.out);(clear HA);(simp only [lockkeeperref10_At.l0] at H);(have HC3:=Aside0.mk H);(clear H);(go_upto_region 3 with (fail));(go_cut [14] (fun v14 wc=>∃ (kq:Nat) (cm6:Bool),v14=.bool cm6∧Aside0 (lockkeeperref10_At.j1 kq l0 a1 k7 d4 cm6=some r)∧Aside0 (kq≤k1)∧Aside0 (Below w.heap.size w wc)))
   case first=>
    (have H:=HC3.out);(clear HC3);(replace H:=sp H);(rcases H with ⟨p2,H⟩|⟨p2,H⟩)
    ·((first|rw [p2]|(simp only [i64_w,i32_w];rw [p2])|skip));(replace H:=bs H);(obtain ⟨cm5,A5,H⟩:=H);(have H':=Aside0.mk H);(clear H);(go_wp2_with (first|(go_at_call 83;(with_reducible refine (lockkeeperref10_Right.calls k1 _ _ l0 cm5 _ ?_ ?_ A5.out).mono ?_);(exact mvC (Kd.C_below m9.out HB.out));(exact D6.out);rintro e w6 ⟨rfl,hb⟩;replace HB:=sb HB hb)));(go_meet)
     case rel=>exact ⟨_,(cm5),sd,H',⟨by have:=l7.out;first|omega|exact Nat.le_refl _⟩,⟨mvW HB.out⟩⟩
    ·((first|rw [p2]|(simp only [i64_w,i32_w];rw [p2])|skip));(have H':=Aside0.mk H);(clear H);(go_wp2);(go_meet)
     case rel=>exact ⟨_,(false),sd,H',⟨by have:=l7.out;first|omega|exact Nat.le_refl _⟩,⟨mvW HB.out⟩⟩
   case rest=>
    (clear HC3);(obtain ⟨kq,cm6,rfl,HA,HJ2,HB⟩:=hcut)
    cases kq with
    |zero=>exact absurd HA.out (by simp [lockkeeperref10_At.j1])
    |succ kj2=>
     (have H:=HA.out);(clear HA);(simp only [lockkeeperref10_At.j1] at H);(replace H:=sB H);(rcases H with ⟨rfl,H⟩|⟨rfl,H⟩)
     ·(replace H:=gd H);(obtain ⟨aa3,H⟩:=H);(replace H:=gd H);(obtain ⟨W9,H⟩:=H);(by_cases Q6:((Op.bytesLess a1.toList (((rd_T42 l0 d4).f0).toList))=true))
      ·(rw [if_pos Q6] at H);(have Q7:(Op.bytesLess a1.toList (((rd_T42 l0 d4).f0).toList))=true:=Q6);(clear Q6);(have H':=Aside0.mk H);(clear H);(obtain ⟨ad391,e391,hw391,hx391,pq391⟩:=rd42 HB m9 d4);(cases e391);(go_wp2);(go_roundg kj2)
       case measure=>have:=l7.out;have:=HJ2.out;omega
       case rel=>exact ⟨(k7),(wrap64 (d4+1)),sd,sd,H',⟨by have:=l7.out;have:=HJ2.out;omega⟩,⟨mvW HB.out⟩⟩
      ·(rw [if_neg Q6] at H);(have Q7:(Op.bytesLess a1.toList (((rd_T42 l0 d4).f0).toList))=false:=by simpa using Q6);(clear Q6);(have H':=Aside0.mk H);(clear H);(obtain ⟨ad391,e391,hw391,hx391,pq391⟩:=rd42 HB m9 d4);(cases e391);(go_wp2);(go_roundg kj2)
       case measure=>have:=l7.out;have:=HJ2.out;omega
       case rel=>exact ⟨(d4),(wrap64 (d4+1)),sd,sd,H',⟨by have:=l7.out;have:=HJ2.out;omega⟩,⟨mvW HB.out⟩⟩
     ·(obtain rfl:=Option.some.inj H);(go_wp2);(go_ret);(exact ⟨rv,mvW HB.out⟩)

/-! ### lockkeeperref11_Child: function 95 -/
def lockkeeperref11_Child.j0:Nat→ByteArray→Bool→Int→Int→Int→ByteArray→ByteArray→Bool→Int→Int→List Int→List (S42)→Option (Int×Int)
 |0,_,_,_,_,_,_,_,_,_,_,_,_=>none
 |k+1,x1,x20,ez9,fa0,fa1,fa2,fa3,fa4,fa5,fa6,fa7,bu4=>if x20=true then (some (0,110)) else ((lockkeeperref10_At.f k bu4 x1).bind fun az5=>(if 0≤az5 then (if az5 < (bu4.length:Int) then ((lockkeeperref11_Id.f k ((rd_T42 bu4 az5).f1)).bind fun db4=>(some (db4.1,db4.2))) else (none)) else (none)))
def lockkeeperref11_Child.f (k:Nat) (a6:Int) (b0:Int) (b5:Int) (b9:ByteArray) (d1:ByteArray) (d2:Bool) (d3:Int) (d0:Int) (b7:List Int) (a8:List (S42)) (a1:ByteArray):Option (Int×Int):=(lockkeeperref11_Check.f k a6 b0 b5 b9 d1 d2 d3 d0 b7 a8).bind fun as6=>(if as6=0 then (if b5=0 then (lockkeeperref11_Child.j0 k a1 true a6 b0 b5 b9 d1 d2 d3 d0 b7 a8) else ((lockkeeperref11_Range.f a6 b0 b5 b9 d1 d2 d3 d0 b7 a8).bind fun cm7=>((lockkeeperref03_Has.f k cm7.1 cm7.2.1 cm7.2.2 a1).bind fun cm8=>(lockkeeperref11_Child.j0 k a1 (!cm8) a6 b0 b5 b9 d1 d2 d3 d0 b7 a8)))) else (lockkeeperref11_Child.j0 k a1 true a6 b0 b5 b9 d1 d2 d3 d0 b7 a8))
def lockkeeperref11_Child.T3:Bool×List (List Nat×List Nat):=(true,[([],[]),([0],[0]),([],[]),([2],[2]),([],[]),([3,4],[3,4]),([1,5],[1,5]),([6],[6]),([7],[7]),([8,5],[8]),([9],[9]),([9],[9]),([10,9,0,1,2,3,4,5,6,7,8,9,10,11],[10]),([11,12,0,1,2,3,4,5,6,7,8,9,10,11,12],[11])])
def lockkeeperref11_Child.B3:List Nat:=[0,1,0,4,0,28,63,127,255,511,1023,1023,4095,8191]
theorem lockkeeperref11_Child.tab3:rtab .any (opsOf Tryz.f95 3)=lockkeeperref11_Child.T3:=by kernel_rfl
theorem lockkeeperref11_Child.bits3:waitsOk lockkeeperref11_Child.T3.2 lockkeeperref11_Child.B3=true:=by kernel_rfl
set_option maxHeartbeats 8000000 in
set_option maxRecDepth 100000 in
theorem lockkeeperref11_Child.calls (k:Nat) (a6:Int) (b0:Int) (b5:Int) (b9:ByteArray) (d1:ByteArray) (d2:Bool) (d3:Int) (d0:Int) (j6:Option Addr) (j7:Nat) (b7:List Int) (l5:Option Addr) (j8:Nat) (a8:List (S42)) (a1:ByteArray) (r1:Int) (r2:Int) (w:World) (y4:Kd.C (Kd.int .u64) w j6 b7.length b7) (C1:b7.length≤j7) (s9:Kd.C k42 w l5 a8.length a8) (u7:a8.length≤j8) (h:lockkeeperref11_Child.f k a6 b0 b5 b9 d1 d2 d3 d0 b7 a8 a1=some (r1,r2)):
  Calls Tryz.prog 95 #[.agg #[.int .u64 a6,.int .u64 b0,.int .u8 b5,.string b9,.string d1,.bool d2,.int .u64 d3,.int .u64 d0,.slice j6 b7.length j7,.slice l5 a8.length j8],.string a1] w fun e w'=>e=.returned (.tuple #[.int .u64 r1,.int .i64 r2])∧Below w.heap.size w w':=by
 (have hu28:=Tryz.underlying28);(have t1:=Aside0.mk y4);(have t2:=Aside0.mk C1);(clear y4 C1);(have o1:=Aside0.mk s9);(have s3:=Aside0.mk u7);(clear s9 u7);(have HB:=Aside0.mk (Below.refl w.heap.size w));(unfold lockkeeperref11_Child.f at h);(have H:=h);(clear h);(have HC3:=Aside0.mk H);(clear H);(go_enter Tryz.func95,Tryz.ntmps95);(go_upto_region 1 with (first|((with_reducible refine gate_dst (N:=2) rfl ?_);refine bx (N:=2) (cs:=#[.int .u64 a6,.int .u64 b0,.int .u8 b5,.string b9,.string d1,.bool d2,.int .u64 d3,.int .u64 d0,.slice j6 b7.length j7,.slice l5 a8.length j8]) (t:=28) ⟨mvW HB.out⟩ ?_;clear HB;intro eh0 hg w4 hb I8 eh1 HB;have fp4:=eh1;clear hb hg)));((try simp only [Act.put,List.setIfInBounds_toArray,List.set_cons_zero,List.set_cons_succ]));(go_cut [20] (fun v20 wc=>∃ (kq:Nat) (cm9:Bool),v20=.bool cm9∧Aside0 (lockkeeperref11_Child.j0 kq a1 cm9 a6 b0 b5 b9 d1 d2 d3 d0 b7 a8=some (r1,r2))∧Aside0 (kq≤k)∧Aside0 (wc.heap[eh0]? =some (.cells #[.int .u64 a6,.int .u64 b0,.int .u8 b5,.string b9,.string d1,.bool d2,.int .u64 d3,.int .u64 d0,(.slice j6 b7.length j7),(.slice l5 a8.length j8)] 28 (0,0)))∧Aside0 (Below w.heap.size w wc)))
 case first=>
  (have H:=HC3.out);(clear HC3);(replace H:=bs H);(obtain ⟨as6,A5,H⟩:=H);(by_cases c6:as6=0)
  ·(rw [if_pos c6] at H);(have J0:(as6==0)=true:=beq_iff_eq.mpr c6);(have az6:(as6 != 0)=false:=bne_eq_false_iff_eq.mpr c6);(clear c6);((first|rw [J0]|(simp only [i64_w,i32_w];rw [J0])|skip));(by_cases c7:b5=0)
   ·(rw [if_pos c7] at H);(have T6:(b5==0)=true:=beq_iff_eq.mpr c7);(have cc0:(b5 != 0)=false:=bne_eq_false_iff_eq.mpr c7);(clear c7);(have H':=Aside0.mk H);(clear H);(have Z8:=b10 I8);(go_wp2_with (first|((with_reducible refine gate_callee (f:=42) rfl ?_);refine goesL_ (some 7) rfl rfl Tryz.func42 (by kernel_rfl) rfl #[.agg #[.int .u64 a6,.int .u64 b0,.int .u8 b5,.string b9,.string d1,.bool d2,.int .u64 d3,.int .u64 d0,.slice j6 b7.length j7,.slice l5 a8.length j8]] rfl am ?_;(with_reducible refine (lockkeeperref11_Check.calls k a6 b0 b5 b9 d1 d2 d3 d0 _ _ b7 _ _ a8 as6 _ ?_ ?_ ?_ ?_ A5.out).mono ?_);(exact mvC (Kd.C_below t1.out HB.out));(exact t2.out);(exact mvC (Kd.C_below o1.out HB.out));(exact s3.out);rintro e w9 ⟨rfl,hb⟩;refine ⟨_,rfl,?_⟩;replace I8:=bb I8 hb;replace HB:=sb HB hb;clear hb;have Z10:=b10 I8)));(go_meet)
    case rel=>exact ⟨_,(true),sd,H',⟨by first|omega|exact Nat.le_refl _⟩,⟨mvB I8.out⟩,⟨mvW HB.out⟩⟩
   ·(rw [if_neg c7] at H);(have T6:(b5==0)=false:=beq_eq_false_iff_ne.mpr c7);(have cc0:(b5 != 0)=true:=bne_iff_ne.mpr c7);(replace H:=bs H);(obtain ⟨⟨dt9,du0,du1⟩,A11,H⟩:=H);(replace H:=bs H);(obtain ⟨cm8,A12,H⟩:=H);(have H':=Aside0.mk H);(clear H);(have Z13:=b10 I8);(go_wp2_with (first|((with_reducible refine gate_callee (f:=42) rfl ?_);refine goesL_ (some 7) rfl rfl Tryz.func42 (by kernel_rfl) rfl #[.agg #[.int .u64 a6,.int .u64 b0,.int .u8 b5,.string b9,.string d1,.bool d2,.int .u64 d3,.int .u64 d0,.slice j6 b7.length j7,.slice l5 a8.length j8]] rfl am ?_;(with_reducible refine (lockkeeperref11_Check.calls k a6 b0 b5 b9 d1 d2 d3 d0 _ _ b7 _ _ a8 as6 _ ?_ ?_ ?_ ?_ A5.out).mono ?_);(exact mvC (Kd.C_below t1.out HB.out));(exact t2.out);(exact mvC (Kd.C_below o1.out HB.out));(exact s3.out);rintro e w14 ⟨rfl,hb⟩;refine ⟨_,rfl,?_⟩;replace I8:=bb I8 hb;replace HB:=sb HB hb;clear hb;have Z15:=b10 I8)|(go_at_call 81;(with_reducible refine (lockkeeperref11_Range.calls a6 b0 b5 b9 d1 d2 d3 d0 _ _ b7 _ _ a8 dt9 du0 du1 _ ?_ ?_ ?_ ?_ A11.out).mono ?_);(exact mvC (Kd.C_below t1.out HB.out));(exact t2.out);(exact mvC (Kd.C_below o1.out HB.out));(exact s3.out);rintro e w16 ⟨rfl,hb⟩;replace I8:=bb I8 hb;replace HB:=sb HB hb)|(go_at_call 84;(with_reducible refine (lockkeeperref03_Has.calls k dt9 du0 du1 a1 cm8 _ A12.out).mono ?_);rintro e w17 ⟨rfl,hb⟩;replace I8:=bb I8 hb;replace HB:=sb HB hb)));(go_meet)
    case rel=>exact ⟨_,(!cm8),sd,H',⟨by first|omega|exact Nat.le_refl _⟩,⟨mvB I8.out⟩,⟨mvW HB.out⟩⟩
  ·(rw [if_neg c6] at H);(have J0:(as6==0)=false:=beq_eq_false_iff_ne.mpr c6);(have az6:(as6 != 0)=true:=bne_iff_ne.mpr c6);((first|rw [J0]|(simp only [i64_w,i32_w];rw [J0])|skip));(have H':=Aside0.mk H);(clear H);(have Z18:=b10 I8);(go_wp2_with (first|((with_reducible refine gate_callee (f:=42) rfl ?_);refine goesL_ (some 7) rfl rfl Tryz.func42 (by kernel_rfl) rfl #[.agg #[.int .u64 a6,.int .u64 b0,.int .u8 b5,.string b9,.string d1,.bool d2,.int .u64 d3,.int .u64 d0,.slice j6 b7.length j7,.slice l5 a8.length j8]] rfl am ?_;(with_reducible refine (lockkeeperref11_Check.calls k a6 b0 b5 b9 d1 d2 d3 d0 _ _ b7 _ _ a8 as6 _ ?_ ?_ ?_ ?_ A5.out).mono ?_);(exact mvC (Kd.C_below t1.out HB.out));(exact t2.out);(exact mvC (Kd.C_below o1.out HB.out));(exact s3.out);rintro e w19 ⟨rfl,hb⟩;refine ⟨_,rfl,?_⟩;replace I8:=bb I8 hb;replace HB:=sb HB hb)));(go_meet)
   case rel=>exact ⟨_,(true),sd,H',⟨by first|omega|exact Nat.le_refl _⟩,⟨mvB I8.out⟩,⟨mvW HB.out⟩⟩
 case rest=>
  (clear HC3);(obtain ⟨kq,cm9,rfl,HA,HJ2,I8,HB⟩:=hcut)
  cases kq with
  |zero=>exact absurd HA.out (by simp [lockkeeperref11_Child.j0])
  |succ kj2=>
   (have H:=HA.out);(clear HA);(simp only [lockkeeperref11_Child.j0] at H);(replace H:=sB H);(rcases H with ⟨rfl,H⟩|⟨rfl,H⟩)
   ·(simp only [Option.some.injEq,Prod.mk.injEq] at H);(obtain ⟨rfl,rfl⟩:=H);(go_wp2);(go_ret2);(exact ⟨rv,mvW HB.out⟩)
   ·(replace H:=bs H);(obtain ⟨az5,A21,H⟩:=H);(replace H:=gd H);(obtain ⟨fp5,H⟩:=H);(replace H:=gd H);(obtain ⟨fp6,H⟩:=H);(replace H:=bs H);(obtain ⟨⟨es9,et0⟩,A24,H⟩:=H);(simp only [Option.some.injEq,Prod.mk.injEq] at H);(obtain ⟨rfl,rfl⟩:=H);(try go_wp2);(replace I8:=bd I8);(replace HB:=wd HB);(obtain ⟨ad399,e399,hw399,hx399,pq399⟩:=rd42 HB o1 az5);(cases e399);(refine st2 (bm 14 0) (cc10 I8) (mc42 HB hw399) lockkeeperref11_Child.tab3 lockkeeperref11_Child.bits3 (fun a7 HT_ HW_=>?_));(generalize wc.drew=w25 at I8 HB hx399 a7 ⊢);(refine pu 0 21 (bv 1 13) HT_ ?_);(refine pu 2 23 (bm 14 5) HT_ ?_);(refine pu 4 25 (bm 14 21) HT_ ?_);(refine tk 1 22 (bm 14 23) HT_ HW_ a7 ?_);(refine tk 3 24 (bv 5 9) HT_ HW_ a7 ?_);(refine on 5 (some 26) (bv 6 8) HT_ (fun K hK=>?_));(refine goes_ Tryz.func112 (by kernel_rfl) rfl #[.slice (some ad399) a8.length j8,.string a1] (by rfl) rfl rfl am ?_);(with_reducible refine (lockkeeperref10_At.calls kj2 _ _ a8 a1 az5 _ ?_ ?_ A21.out).mono ?_);(exact mvC (Kd.C_below o1.out HB.out));(exact s3.out);(rintro e w26 ⟨rfl,hb⟩);(refine ⟨_,rfl,?_⟩);(replace I8:=bb I8 hb);(replace HB:=sb HB hb);(clear hb);(refine hK.out _ _ ⟨cc10 I8,mc42 HB hw399⟩ (fun a7=>?_));(clear hK K);(refine nm 26 ?_);(refine pu2 6 27 (bv 8 6) HT_ ?_);(refine tk 8 29 (bv 9 5) HT_ HW_ a7 ?_);(refine on 9 (some 30) (bv 10 4) HT_ (fun K hK=>?_));(refine goes_ Tryz.func58 (by kernel_rfl) rfl #[.string ((rd_T42 a8 az5).f1)] (by rfl) rfl rfl am ?_);(with_reducible refine (lockkeeperref11_Id.calls kj2 ((rd_T42 a8 az5).f1) es9 et0 _ A24.out).mono ?_);(rintro e w' ⟨rfl,⟨nd,rfl⟩⟩);(refine ⟨_,rfl,?_⟩);(refine hK.out _ _ ⟨cc10 I8,mc42 HB hw399⟩ (fun a7=>?_));(clear hK K);(refine nm 30 ?_);(refine pu2 10 31 (bv 12 2) HT_ ?_);(refine pu2 12 4 (bv 14 0) HT_ ?_);(refine done_ (done_of HT_.out (by kernel_rfl)) ?_);(try go_wp2);(go_ret2);(exact ⟨rv,mvW HB.out⟩)
end Go.Proofs.YtmfaopjfdedheaaGreat.F
