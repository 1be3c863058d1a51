-- PRINTED by print.py (a twelfth state) out of the translation. Not trusted: Lean checks it.
import Derived.Test.YtmfaopjfdedheaaGreatSv
import Derived.Test.YtmfaopjfdedheaaGreatSh
import Derived.Test.YtmfaopjfdedheaaGreatMv
import Derived.Test.YtmfaopjfdedheaaGreatFx0
import Derived.Test.YtmfaopjfdedheaaGreatFx2
import Derived.Test.YtmfaopjfdedheaaGreatFx3
namespace Go.Proofs.YtmfaopjfdedheaaGreat.F
open Go.RowKit Go.Proofs.YtmfaopjfdedheaaGreatW Go.Proofs.YtmfaopjfdedheaaGreatW.PrintWords Go.Proofs.YtmfaopjfdedheaaGreatW.PrintLast Go.Proofs.YtmfaopjfdedheaaGreatW.PrintMore
attribute [local go_sem] GpMore.bytes_le max2_int min2_int max_two min_two max_three min_three max_four min_four   -- for this text's walks alone
set_option linter.unusedVariables false
set_option linter.unusedSimpArgs false

/-! ### page_Check: function 37 -/
section
variable (k:Nat) (a6 b0 b5:Int) (b9 d1:ByteArray) (d2:Bool) (d3 d0:Int) (b7:List Int) (a8:List S42)
def page_Check_1:Bool:=decide (1≤a6) && decide (a6≤400) && decide (b0≤400) && (b0 != a6)
def page_Check_2:Bool:=decide (b5≤10) && decide (d3≤281474976710656)
def page_Check_3:Option Bool:=(span_Right.f k b9 d1 d2).bind fun s=>some (s && (d2==(b0 != 0)))
def page_Check_4:Option Bool:=(lsns_Right.f k d0 b7).bind fun s=>if s=true then (lsns_Most.f k d0 b7).bind fun m=>some (decide (m≤281474976710656)) else some false
def page_Check_5:Option Bool:=(cells_Right.f k a8).bind fun s=>if s=true then (cells_Part.f k a8 b9 d1 d2).bind fun p=>some ((p.length:Int)==(a8.length:Int)) else some false
def page_Check_6:Option Bool:=if 0 < b5 then some true else page_leaf.f k a6 b0 b5 b9 d1 d2 d3 d0 b7 a8
def page_Check_7:Option Bool:=if b5=0 then some true else page_inner.f k a6 b0 b5 b9 d1 d2 d3 d0 b7 a8
def page_Check.f:Option Int:=
 if page_Check_1 a6 b0=true∧page_Check_2 b5 d3=true then
  (page_Check_3 k b0 b9 d1 d2).bind fun t3=>if t3=true then ((page_Check_4 k d0 b7).bind fun t4=>if t4=true then ((page_Check_5 k b9 d1 d2 a8).bind fun t5=>if t5=true then
   ((page_Check_6 k a6 b0 b5 b9 d1 d2 d3 d0 b7 a8).bind fun t6=>if t6=true then ((page_Check_7 k a6 b0 b5 b9 d1 d2 d3 d0 b7 a8).bind fun t7=>if t7=true then some 0 else some 110) else some 110) else some 110) else some 110) else some 110
 else some 110
end
def page_Check.T1:Bool×List (List Nat×List Nat):=(true,[([],[]),([0],[0]),([1],[1]),([2,2],[2]),([3],[3]),([4,3],[3,4]),([3],[3]),([6,3,3],[3,6]),([5,7,7,3],[3,5,7]),([8,3],[3,8]),([3],[3]),([10,3],[3,10]),([11,3],[3,11]),([9,12,3],[3,9,12]),([3,13],[3,13]),([14,8,0,1,2,3,4,5,6,7,8,9,10,11,12,13,14],[14])])
def page_Check.B1:List Nat:=[0,1,3,7,15,31,15,79,255,511,15,1039,3087,8191,16383,32767]
theorem page_Check.tab1:rtab .any (opsOf Tryz.f68 1)=page_Check.T1:=by kernel_rfl
theorem page_Check.bits1:waitsOk page_Check.T1.2 page_Check.B1=true:=by kernel_rfl
section
variable {bp:Nat} {a6 b0 b5:Int} {b9 d1:ByteArray} {d2:Bool} {d3 d0:Int} {A8:Option Addr} {c8:Nat} {b7:List Int} {A9:Option Addr} {c9:Nat} {a8:List S42} {W:World}
set_option maxHeartbeats 4000000 in
set_option maxRecDepth 100000 in
theorem page_Check_c1 (hp:W.heap[bp]? =some (.cells #[.int .u64 a6,.int .u64 b0,.int .u8 b5,.string b9,.string d1,.bool d2,.int .u64 d3,.int .u64 d0,.slice A8 b7.length c8,.slice A9 a8.length c9] 28 (0,0))):
  Calls Tryz.prog 61 #[.pointer (some ⟨bp,0,none⟩)] W fun e w'=>e=.returned (.bool (page_Check_1 a6 b0))∧Below W.heap.size W w':=by
 have hu:=Tryz.underlying28
 have z0:=(blk_cell hp 0).trans rfl
 have z1:=(blk_cell hp 1).trans rfl
 unfold page_Check_1
 clear hp
 go_enter Tryz.func61,Tryz.ntmps61
 go_wp2
 all_goals go_ret
 all_goals refine ⟨congrArg Ending.returned (congrArg Value.bool ?_),Below.refl _ _⟩
 all_goals first|rfl|(simp [*];done)|(simp [*];omega)|(simp_all;done)|(simp_all;omega)
set_option maxHeartbeats 4000000 in
set_option maxRecDepth 100000 in
theorem page_Check_c2 (hp:W.heap[bp]? =some (.cells #[.int .u64 a6,.int .u64 b0,.int .u8 b5,.string b9,.string d1,.bool d2,.int .u64 d3,.int .u64 d0,.slice A8 b7.length c8,.slice A9 a8.length c9] 28 (0,0))):
  Calls Tryz.prog 62 #[.pointer (some ⟨bp,0,none⟩)] W fun e w'=>e=.returned (.bool (page_Check_2 b5 d3))∧Below W.heap.size W w':=by
 have hu:=Tryz.underlying28
 have z2:=(blk_cell hp 2).trans rfl
 have z6:=(blk_cell hp 6).trans rfl
 unfold page_Check_2
 clear hp
 go_enter Tryz.func62,Tryz.ntmps62
 go_wp2
 all_goals go_ret
 all_goals refine ⟨congrArg Ending.returned (congrArg Value.bool ?_),Below.refl _ _⟩
 all_goals first|rfl|(simp [*];done)|(simp [*];omega)|(simp_all;done)|(simp_all;omega)
set_option maxHeartbeats 4000000 in
set_option maxRecDepth 100000 in
theorem page_Check_c3 (hp:W.heap[bp]? =some (.cells #[.int .u64 a6,.int .u64 b0,.int .u8 b5,.string b9,.string d1,.bool d2,.int .u64 d3,.int .u64 d0,.slice A8 b7.length c8,.slice A9 a8.length c9] 28 (0,0))) (hr8:Kd.C (Kd.int .u64) W A8 b7.length b7) (hc8:b7.length≤c8) (hr9:Kd.C k42 W A9 a8.length a8) (hc9:a8.length≤c9) {k:Nat} {t:Bool} (ht:page_Check_3 k b0 b9 d1 d2=some t):
  Calls Tryz.prog 63 #[.pointer (some ⟨bp,0,none⟩)] W fun e w'=>e=.returned (.bool t)∧Below W.heap.size W w':=by
 have hu:=Tryz.underlying28
 have hu2:=Tryz.underlying50
 have hu3:=Tryz.underlying25
 have z0:=(blk_cell hp 0).trans rfl
 have z1:=(blk_cell hp 1).trans rfl
 have z2:=(blk_cell hp 2).trans rfl
 have z3:=(blk_cell hp 3).trans rfl
 have z4:=(blk_cell hp 4).trans rfl
 have z5:=(blk_cell hp 5).trans rfl
 have z6:=(blk_cell hp 6).trans rfl
 have z7:=(blk_cell hp 7).trans rfl
 have z8:=(blk_cell hp 8).trans rfl
 have z9:=(blk_cell hp 9).trans rfl
 have BP:=Aside0.mk hp
 obtain ⟨s,hs,hq⟩:=Option.bind_eq_some_iff.1 ht
 obtain rfl:=Option.some.inj hq
 have hR:=page_Range.calls a6 b0 b5 b9 d1 d2 d3 d0 A8 c8 b7 A9 c9 a8 b9 d1 d2 W hr8 hc8 hr9 hc9 rfl
 have HS:=Aside0.mk (fun w1=>span_Right.calls k b9 d1 d2 s w1 hs)
 clear hp hq ht hs hr8 hr9
 go_enter Tryz.func63,Tryz.ntmps63
 go_wp2_with (first|(go_at_call 20;refine hR.mono ?_;rintro e w1 ⟨rfl,hb⟩;have I1:=Aside0.mk hb;have P1:=Aside0.mk (blk_below BP.out hb);clear hb)|(go_at_call 64;refine (HS.out _).mono ?_;rintro e w2 ⟨rfl,hb⟩;have S4:=Aside0.mk (below_step I1.out hb);have P2:=Aside0.mk (blk_below P1.out hb);clear hb;have y1:=(blk_cell P2.out 1).trans rfl;have y5:=(blk_cell P2.out 5).trans rfl))
 all_goals go_ret
 all_goals refine ⟨congrArg Ending.returned (congrArg Value.bool ?_),S4.out⟩
 all_goals first|rfl|(simp [*];done)|(simp [*];omega)|(simp_all;done)|(simp_all;omega)
set_option maxHeartbeats 4000000 in
set_option maxRecDepth 100000 in
theorem page_Check_c4 (hp:W.heap[bp]? =some (.cells #[.int .u64 a6,.int .u64 b0,.int .u8 b5,.string b9,.string d1,.bool d2,.int .u64 d3,.int .u64 d0,.slice A8 b7.length c8,.slice A9 a8.length c9] 28 (0,0))) (hr8:Kd.C (Kd.int .u64) W A8 b7.length b7) (hc8:b7.length≤c8) {k:Nat} {t:Bool} (ht:page_Check_4 k d0 b7=some t):
  Calls Tryz.prog 65 #[.pointer (some ⟨bp,0,none⟩)] W fun e w'=>e=.returned (.bool t)∧Below W.heap.size W w':=by
 have hu:=Tryz.underlying28
 have hu3:=Tryz.underlying25
 have z7:=(blk_cell hp 7).trans rfl
 have z8:=(blk_cell hp 8).trans rfl
 have BP:=Aside0.mk hp
 obtain ⟨s,hs,hq⟩:=Option.bind_eq_some_iff.1 ht
 have hR:=lsns_Right.calls k d0 A8 c8 b7 s W hr8 hc8 hs
 have HM:=Aside0.mk (fun (w1:World) (hb:Below W.heap.size W w1) (m:Int) (hm:lsns_Most.f k d0 b7=some m)=>lsns_Most.calls k d0 A8 c8 b7 m w1 (Kd.C_below hr8 hb) hc8 hm)
 clear hp ht hs hr8
 cases s
 ·rw [if_neg (by simp)] at hq
  obtain rfl:=Option.some.inj hq
  go_enter Tryz.func65,Tryz.ntmps65
  go_wp2_with (go_at_call 66;refine hR.mono ?_;rintro e w1 ⟨rfl,hb⟩;have I1:=Aside0.mk hb;clear hb)
  go_ret
  exact ⟨rfl,I1.out⟩
 ·rw [if_pos rfl] at hq
  obtain ⟨m,hm,hq⟩:=Option.bind_eq_some_iff.1 hq
  obtain rfl:=Option.some.inj hq
  have HQ:=Aside0.mk hm
  clear hm hq
  go_enter Tryz.func65,Tryz.ntmps65
  go_wp2_with (first|(go_at_call 66;refine hR.mono ?_;rintro e w1 ⟨rfl,hb⟩;have I1:=Aside0.mk hb;have P1:=Aside0.mk (blk_below BP.out hb);clear hb;have y7:=(blk_cell P1.out 7).trans rfl;have y8:=(blk_cell P1.out 8).trans rfl)|(go_at_call 67;refine (HM.out _ I1.out m HQ.out).mono ?_;rintro e w2 ⟨rfl,hb⟩;have S4:=Aside0.mk (below_step I1.out hb);clear hb))
  all_goals go_ret
  all_goals refine ⟨congrArg Ending.returned (congrArg Value.bool ?_),S4.out⟩
  all_goals first|rfl|(simp [*];done)|(simp [*];omega)
set_option maxHeartbeats 4000000 in
set_option maxRecDepth 100000 in
theorem page_Check_c6 (hp:W.heap[bp]? =some (.cells #[.int .u64 a6,.int .u64 b0,.int .u8 b5,.string b9,.string d1,.bool d2,.int .u64 d3,.int .u64 d0,.slice A8 b7.length c8,.slice A9 a8.length c9] 28 (0,0))) (hr8:Kd.C (Kd.int .u64) W A8 b7.length b7) (hc8:b7.length≤c8) (hr9:Kd.C k42 W A9 a8.length a8) (hc9:a8.length≤c9) {k:Nat} {t:Bool} (ht:page_Check_6 k a6 b0 b5 b9 d1 d2 d3 d0 b7 a8=some t):
  Calls Tryz.prog 71 #[.pointer (some ⟨bp,0,none⟩)] W fun e w'=>e=.returned (.bool t)∧Below W.heap.size W w':=by
 have hu:=Tryz.underlying28
 have hu3:=Tryz.underlying25
 have z0:=(blk_cell hp 0).trans rfl
 have z1:=(blk_cell hp 1).trans rfl
 have z2:=(blk_cell hp 2).trans rfl
 have z3:=(blk_cell hp 3).trans rfl
 have z4:=(blk_cell hp 4).trans rfl
 have z5:=(blk_cell hp 5).trans rfl
 have z6:=(blk_cell hp 6).trans rfl
 have z7:=(blk_cell hp 7).trans rfl
 have z8:=(blk_cell hp 8).trans rfl
 have z9:=(blk_cell hp 9).trans rfl
 unfold page_Check_6 at ht
 by_cases hc:0 < b5
 ·rw [if_pos hc] at ht
  obtain rfl:=Option.some.inj ht
  clear hp ht
  go_enter Tryz.func71,Tryz.ntmps71
  go_wp2
  all_goals go_ret
  all_goals exact ⟨by first|rfl|(simp [*];done)|(simp_all;done)|(exfalso;omega),Below.refl _ _⟩
 ·rw [if_neg hc] at ht
  have hL:=page_leaf.calls k a6 b0 b5 b9 d1 d2 d3 d0 A8 c8 b7 A9 c9 a8 t W hr8 hc8 hr9 hc9 ht
  clear hp ht hr8 hr9
  go_enter Tryz.func71,Tryz.ntmps71
  go_wp2_with (go_at_call 72;refine hL.mono ?_;rintro e w1 ⟨rfl,hb⟩;have I1:=Aside0.mk hb;clear hb)
  all_goals go_ret
  all_goals first|exact ⟨rfl,I1.out⟩|exact ⟨by simp [hc],I1.out⟩|(exfalso;omega)
set_option maxHeartbeats 4000000 in
set_option maxRecDepth 100000 in
theorem page_Check_c7 (hp:W.heap[bp]? =some (.cells #[.int .u64 a6,.int .u64 b0,.int .u8 b5,.string b9,.string d1,.bool d2,.int .u64 d3,.int .u64 d0,.slice A8 b7.length c8,.slice A9 a8.length c9] 28 (0,0))) (hr8:Kd.C (Kd.int .u64) W A8 b7.length b7) (hc8:b7.length≤c8) (hr9:Kd.C k42 W A9 a8.length a8) (hc9:a8.length≤c9) {k:Nat} {t:Bool} (ht:page_Check_7 k a6 b0 b5 b9 d1 d2 d3 d0 b7 a8=some t):
  Calls Tryz.prog 73 #[.pointer (some ⟨bp,0,none⟩)] W fun e w'=>e=.returned (.bool t)∧Below W.heap.size W w':=by
 have hu:=Tryz.underlying28
 have hu3:=Tryz.underlying25
 have z0:=(blk_cell hp 0).trans rfl
 have z1:=(blk_cell hp 1).trans rfl
 have z2:=(blk_cell hp 2).trans rfl
 have z3:=(blk_cell hp 3).trans rfl
 have z4:=(blk_cell hp 4).trans rfl
 have z5:=(blk_cell hp 5).trans rfl
 have z6:=(blk_cell hp 6).trans rfl
 have z7:=(blk_cell hp 7).trans rfl
 have z8:=(blk_cell hp 8).trans rfl
 have z9:=(blk_cell hp 9).trans rfl
 unfold page_Check_7 at ht
 by_cases hc:b5=0
 ·rw [if_pos hc] at ht
  obtain rfl:=Option.some.inj ht
  clear hp ht
  go_enter Tryz.func73,Tryz.ntmps73
  go_wp2
  all_goals go_ret
  all_goals exact ⟨by first|rfl|(simp [*];done)|(simp_all;done)|(exfalso;omega),Below.refl _ _⟩
 ·rw [if_neg hc] at ht
  have hL:=page_inner.calls k a6 b0 b5 b9 d1 d2 d3 d0 A8 c8 b7 A9 c9 a8 t W hr8 hc8 hr9 hc9 ht
  clear hp ht hr8 hr9
  go_enter Tryz.func73,Tryz.ntmps73
  go_wp2_with (go_at_call 74;refine hL.mono ?_;rintro e w1 ⟨rfl,hb⟩;have I1:=Aside0.mk hb;clear hb)
  all_goals go_ret
  all_goals first|exact ⟨rfl,I1.out⟩|exact ⟨by simp [hc],I1.out⟩|(exfalso;omega)
set_option maxHeartbeats 4000000 in
set_option maxRecDepth 100000 in
theorem page_Check_c5 (hp:W.heap[bp]? =some (.cells #[.int .u64 a6,.int .u64 b0,.int .u8 b5,.string b9,.string d1,.bool d2,.int .u64 d3,.int .u64 d0,.slice A8 b7.length c8,.slice A9 a8.length c9] 28 (0,0))) (hr8:Kd.C (Kd.int .u64) W A8 b7.length b7) (hc8:b7.length≤c8) (hr9:Kd.C k42 W A9 a8.length a8) (hc9:a8.length≤c9) {k:Nat} {t:Bool} (ht:page_Check_5 k b9 d1 d2 a8=some t):
  Calls Tryz.prog 68 #[.pointer (some ⟨bp,0,none⟩)] W fun e w'=>e=.returned (.bool t)∧Below W.heap.size W w':=by
 have hu:=Tryz.underlying28
 have hu2:=Tryz.underlying50
 have hu3:=Tryz.underlying25
 have z0:=(blk_cell hp 0).trans rfl
 have z1:=(blk_cell hp 1).trans rfl
 have z2:=(blk_cell hp 2).trans rfl
 have z3:=(blk_cell hp 3).trans rfl
 have z4:=(blk_cell hp 4).trans rfl
 have z5:=(blk_cell hp 5).trans rfl
 have z6:=(blk_cell hp 6).trans rfl
 have z7:=(blk_cell hp 7).trans rfl
 have z8:=(blk_cell hp 8).trans rfl
 have z9:=(blk_cell hp 9).trans rfl
 have BP:=Aside0.mk hp
 obtain ⟨s,hs,hq⟩:=Option.bind_eq_some_iff.1 ht
 have hC:=Aside0.mk (fun (w1:World) (hb:Below W.heap.size W w1)=>cells_Right.calls k A9 c9 a8 s w1 (Kd.C_below hr9 hb) hc9 hs)
 have hRg:=Aside0.mk (fun (w1:World) (hb:Below W.heap.size W w1)=>page_Range.calls a6 b0 b5 b9 d1 d2 d3 d0 A8 c8 b7 A9 c9 a8 b9 d1 d2 w1 (Kd.C_below hr8 hb) hc8 (Kd.C_below hr9 hb) hc9 rfl)
 have hPt:=Aside0.mk (fun (w1:World) (hb:Below W.heap.size W w1) (p:List S42) (hp:cells_Part.f k a8 b9 d1 d2=some p)=>cells_Part.calls k A9 c9 a8 b9 d1 d2 p w1 (Kd.C_below hr9 hb) hc9 hp)
 clear hp ht hs hr8 hr9
 cases s
 ·rw [if_neg (by simp)] at hq
  obtain rfl:=Option.some.inj hq
  clear hRg hPt
  go_enter Tryz.func68,Tryz.ntmps68
  go_wp2
  (refine st1 (bv 0 16) (cc10 BP) page_Check.tab1 page_Check.bits1 (fun a7 HT_ HW_=>?_))
  have T0:=Aside0.mk (below_drew1 (Below.refl W.heap.size W));have P0:=bd BP
  (refine pu 0 2 (bv 1 15) HT_ ?_);(refine tk 1 3 (bv 2 14) HT_ HW_ a7 ?_);(refine on 2 (some 4) (bv 3 13) HT_ (fun K hK=>?_));(refine goes_ Tryz.func69 (by kernel_rfl) rfl #[.slice A9 a8.length c9] (by rfl) rfl rfl (by (try simp only [List.map_toArray,List.map_cons,List.map_nil]);first|done|rfl) ?_);(refine (hC.out _ T0.out).mono ?_);(rintro e w1 ⟨rfl,hb⟩);(refine ⟨_,rfl,?_⟩);have I1:=Aside0.mk (below_step T0.out hb);have P1:=Aside0.mk (blk_below P0.out hb);clear hb;(refine hK.out _ _ (cc10 P1) (fun a7=>?_));(clear hK K);(refine nm 4 ?_);(refine pu 3 5 (bv 4 12) HT_ ?_);(refine pn8 4 6 (bv 12 4) HT_ ?_);(refine pn2 12 14 (bv 14 2) HT_ ?_);(refine pu 14 16 (bv 15 1) HT_ ?_);(refine pu 15 1 (bv 16 0) HT_ ?_);(refine done_ (done_of HT_.out (by kernel_rfl)) ?_);(try go_wp2)
  go_ret
  exact ⟨rfl,I1.out⟩
 ·rw [if_pos rfl] at hq
  obtain ⟨p,hp,hq⟩:=Option.bind_eq_some_iff.1 hq
  obtain rfl:=Option.some.inj hq
  have HQ:=Aside0.mk hp
  clear hp hq
  go_enter Tryz.func68,Tryz.ntmps68
  go_wp2
  (refine st1 (bv 0 16) (cc10 BP) page_Check.tab1 page_Check.bits1 (fun a7 HT_ HW_=>?_))
  have T0:=Aside0.mk (below_drew1 (Below.refl W.heap.size W));have P0:=bd BP
  (refine pu 0 2 (bv 1 15) HT_ ?_);(refine tk 1 3 (bv 2 14) HT_ HW_ a7 ?_);(refine on 2 (some 4) (bv 3 13) HT_ (fun K hK=>?_));(refine goes_ Tryz.func69 (by kernel_rfl) rfl #[.slice A9 a8.length c9] (by rfl) rfl rfl (by (try simp only [List.map_toArray,List.map_cons,List.map_nil]);first|done|rfl) ?_);(refine (hC.out _ T0.out).mono ?_);(rintro e w1 ⟨rfl,hb⟩);(refine ⟨_,rfl,?_⟩);have I1:=Aside0.mk (below_step T0.out hb);have P1:=Aside0.mk (blk_below P0.out hb);clear hb;(refine hK.out _ _ (cc10 P1) (fun a7=>?_));(clear hK K);(refine nm 4 ?_);(refine pu2 3 5 (bv 5 11) HT_ ?_);(refine tk 5 7 (bv 6 10) HT_ HW_ a7 ?_);(refine tk 6 8 (bv 7 9) HT_ HW_ a7 ?_);(refine pu 10 12 (bm 16 1151) HT_ ?_);(refine tk 11 13 (bm 16 3199) HT_ HW_ a7 ?_);(refine pu 12 14 (bm 16 7295) HT_ ?_);(refine on 7 (some 9) (bm 16 7423) HT_ (fun K hK=>?_));(refine goes_ Tryz.func20 (by kernel_rfl) rfl #[.agg #[.int .u64 a6,.int .u64 b0,.int .u8 b5,.string b9,.string d1,.bool d2,.int .u64 d3,.int .u64 d0,.slice A8 b7.length c8,.slice A9 a8.length c9]] (by rfl) rfl rfl (by (try simp only [List.map_toArray,List.map_cons,List.map_nil]);first|done|rfl) ?_);(refine (hRg.out _ I1.out).mono ?_);(rintro e w2 ⟨rfl,hb⟩);(refine ⟨_,rfl,?_⟩);have S4:=Aside0.mk (below_step I1.out hb);have P2:=Aside0.mk (blk_below P1.out hb);clear hb;(refine hK.out _ _ (cc10 P2) (fun a7=>?_));(clear hK K);(refine nm 9 ?_);(refine on 8 (some 10) (bm 16 7679) HT_ (fun K hK=>?_));(refine goes_ Tryz.func70 (by kernel_rfl) rfl #[.slice A9 a8.length c9,.agg #[.string b9,.string d1,.bool d2]] (by rfl) rfl rfl (by (try simp only [List.map_toArray,List.map_cons,List.map_nil]);first|done|rfl) ?_);(refine (hPt.out _ S4.out p HQ.out).mono ?_);(rintro e w3 ⟨v,rfl,ho,hb⟩);(obtain ⟨Ap,cp,ep⟩:=cells_slice ho);(subst ep);(refine ⟨_,rfl,?_⟩);have HB3:=Aside0.mk (below_step S4.out hb);have P3:=Aside0.mk (blk_below P2.out hb);clear hb;(refine hK.out _ _ (cc10 P3) (fun a7=>?_));(clear hK K);(refine nm 10 ?_);(refine pu 9 11 (bv 13 3) HT_ ?_);(refine pu2 13 15 (bv 15 1) HT_ ?_);(refine pu 15 1 (bv 16 0) HT_ ?_);(refine done_ (done_of HT_.out (by kernel_rfl)) ?_);(try go_wp2)
  go_ret
  exact ⟨rfl,HB3.out⟩
end
set_option maxHeartbeats 4000000 in
set_option maxRecDepth 100000 in
theorem page_Check.calls (k:Nat) (a6:Int) (b0:Int) (b5:Int) (b9:ByteArray) (d1:ByteArray) (d2:Bool) (d3:Int) (d0:Int) (j6:Option Addr) (j7:Nat) (b7:List Int) (l5:Option Addr) (j8:Nat) (a8:List (S42)) (r:Int) (w:World) (y4:Kd.C (Kd.int .u64) w j6 b7.length b7) (C1:b7.length≤j7) (s9:Kd.C k42 w l5 a8.length a8) (u7:a8.length≤j8) (h:page_Check.f k a6 b0 b5 b9 d1 d2 d3 d0 b7 a8=some r):
  Calls Tryz.prog 37 #[.agg #[.int .u64 a6,.int .u64 b0,.int .u8 b5,.string b9,.string d1,.bool d2,.int .u64 d3,.int .u64 d0,.slice j6 b7.length j7,.slice l5 a8.length j8]] w fun e w'=>e=.returned (.int .i64 r)∧Below w.heap.size w w':=by
 have hu:=Tryz.underlying28
 have hu3:=Tryz.underlying25
 have hmf:∀ (fn:Fn) (first cap:Array Value) (w:World),(Instr.makeFunc fn first cap).run Tryz.prog w=.ok (.func fn first cap) w:=fun _ _ _ _=>rfl
 obtain ⟨W1,hW1⟩:∃ W1,W1=(w.alloc (.cells #[.int .u64 a6,.int .u64 b0,.int .u8 b5,.string b9,.string d1,.bool d2,.int .u64 d3,.int .u64 d0,.slice j6 b7.length j7,.slice l5 a8.length j8] 28)).alloc (.cells #[.func (.func 61) #[] #[.pointer (some ⟨w.heap.size,0,none⟩)],.func (.func 62) #[] #[.pointer (some ⟨w.heap.size,0,none⟩)],.func (.func 63) #[] #[.pointer (some ⟨w.heap.size,0,none⟩)],.func (.func 65) #[] #[.pointer (some ⟨w.heap.size,0,none⟩)],.func (.func 68) #[] #[.pointer (some ⟨w.heap.size,0,none⟩)],.func (.func 71) #[] #[.pointer (some ⟨w.heap.size,0,none⟩)],.func (.func 73) #[] #[.pointer (some ⟨w.heap.size,0,none⟩)]] 32):=⟨_,rfl⟩
 have hB:Below w.heap.size w W1:=by rw [hW1];exact below_alloc (below_alloc (Below.refl _ _) _) _
 have bp:W1.heap[w.heap.size]? =some (.cells #[.int .u64 a6,.int .u64 b0,.int .u8 b5,.string b9,.string d1,.bool d2,.int .u64 d3,.int .u64 d0,.slice j6 b7.length j7,.slice l5 a8.length j8] 28 (0,0)):=by rw [hW1];exact blk_alloc (blk_new w _) _
 have bs:W1.heap[w.heap.size+1]? =some (.cells #[.func (.func 61) #[] #[.pointer (some ⟨w.heap.size,0,none⟩)],.func (.func 62) #[] #[.pointer (some ⟨w.heap.size,0,none⟩)],.func (.func 63) #[] #[.pointer (some ⟨w.heap.size,0,none⟩)],.func (.func 65) #[] #[.pointer (some ⟨w.heap.size,0,none⟩)],.func (.func 68) #[] #[.pointer (some ⟨w.heap.size,0,none⟩)],.func (.func 71) #[] #[.pointer (some ⟨w.heap.size,0,none⟩)],.func (.func 73) #[] #[.pointer (some ⟨w.heap.size,0,none⟩)]] 32 (0,0)):=by
  have hb:=blk_new (w.alloc (.cells #[.int .u64 a6,.int .u64 b0,.int .u8 b5,.string b9,.string d1,.bool d2,.int .u64 d3,.int .u64 d0,.slice j6 b7.length j7,.slice l5 a8.length j8] 28)) (.cells #[.func (.func 61) #[] #[.pointer (some ⟨w.heap.size,0,none⟩)],.func (.func 62) #[] #[.pointer (some ⟨w.heap.size,0,none⟩)],.func (.func 63) #[] #[.pointer (some ⟨w.heap.size,0,none⟩)],.func (.func 65) #[] #[.pointer (some ⟨w.heap.size,0,none⟩)],.func (.func 68) #[] #[.pointer (some ⟨w.heap.size,0,none⟩)],.func (.func 71) #[] #[.pointer (some ⟨w.heap.size,0,none⟩)],.func (.func 73) #[] #[.pointer (some ⟨w.heap.size,0,none⟩)]] 32)
  rw [World.size_alloc] at hb
  rw [hW1];exact hb
 have BS:=Aside0.mk bs
 have HB:=Aside0.mk hB
 have K1:=Aside0.mk (fun (V:World) (hb:Below W1.heap.size W1 V)=>page_Check_c1 (blk_below bp hb))
 have K2:=Aside0.mk (fun (V:World) (hb:Below W1.heap.size W1 V)=>page_Check_c2 (blk_below bp hb))
 have K3:=Aside0.mk (fun (V:World) (hb:Below W1.heap.size W1 V) (t:Bool) (ht:page_Check_3 k b0 b9 d1 d2=some t)=>page_Check_c3 (blk_below bp hb) (Kd.C_below (Kd.C_below y4 hB) hb) C1 (Kd.C_below (Kd.C_below s9 hB) hb) u7 ht)
 have K4:=Aside0.mk (fun (V:World) (hb:Below W1.heap.size W1 V) (t:Bool) (ht:page_Check_4 k d0 b7=some t)=>page_Check_c4 (blk_below bp hb) (Kd.C_below (Kd.C_below y4 hB) hb) C1 ht)
 have K5:=Aside0.mk (fun (V:World) (hb:Below W1.heap.size W1 V) (t:Bool) (ht:page_Check_5 k b9 d1 d2 a8=some t)=>page_Check_c5 (blk_below bp hb) (Kd.C_below (Kd.C_below y4 hB) hb) C1 (Kd.C_below (Kd.C_below s9 hB) hb) u7 ht)
 have K6:=Aside0.mk (fun (V:World) (hb:Below W1.heap.size W1 V) (t:Bool) (ht:page_Check_6 k a6 b0 b5 b9 d1 d2 d3 d0 b7 a8=some t)=>page_Check_c6 (blk_below bp hb) (Kd.C_below (Kd.C_below y4 hB) hb) C1 (Kd.C_below (Kd.C_below s9 hB) hb) u7 ht)
 have K7:=Aside0.mk (fun (V:World) (hb:Below W1.heap.size W1 V) (t:Bool) (ht:page_Check_7 k a6 b0 b5 b9 d1 d2 d3 d0 b7 a8=some t)=>page_Check_c7 (blk_below bp hb) (Kd.C_below (Kd.C_below y4 hB) hb) C1 (Kd.C_below (Kd.C_below s9 hB) hb) u7 ht)
 clear bp hB y4 s9
 unfold page_Check.f at h
 have HH:=Aside0.mk h
 clear h
 obtain ⟨g1,HG1⟩:∃ g,Aside0 (g=61):=⟨_,⟨rfl⟩⟩
 have eg1:∀ args w,(callFunc g1 args).run Tryz.prog w=.ok (.enter g1 args) w:=by rw [HG1.out];exact enters_of Tryz.func61 (by kernel_rfl) rfl
 obtain ⟨g2,HG2⟩:∃ g,Aside0 (g=62):=⟨_,⟨rfl⟩⟩
 have eg2:∀ args w,(callFunc g2 args).run Tryz.prog w=.ok (.enter g2 args) w:=by rw [HG2.out];exact enters_of Tryz.func62 (by kernel_rfl) rfl
 obtain ⟨g3,HG3⟩:∃ g,Aside0 (g=63):=⟨_,⟨rfl⟩⟩
 have eg3:∀ args w,(callFunc g3 args).run Tryz.prog w=.ok (.enter g3 args) w:=by rw [HG3.out];exact enters_of Tryz.func63 (by kernel_rfl) rfl
 obtain ⟨g4,HG4⟩:∃ g,Aside0 (g=65):=⟨_,⟨rfl⟩⟩
 have eg4:∀ args w,(callFunc g4 args).run Tryz.prog w=.ok (.enter g4 args) w:=by rw [HG4.out];exact enters_of Tryz.func65 (by kernel_rfl) rfl
 obtain ⟨g5,HG5⟩:∃ g,Aside0 (g=68):=⟨_,⟨rfl⟩⟩
 have eg5:∀ args w,(callFunc g5 args).run Tryz.prog w=.ok (.enter g5 args) w:=by rw [HG5.out];exact enters_of Tryz.func68 (by kernel_rfl) rfl
 obtain ⟨g6,HG6⟩:∃ g,Aside0 (g=71):=⟨_,⟨rfl⟩⟩
 have eg6:∀ args w,(callFunc g6 args).run Tryz.prog w=.ok (.enter g6 args) w:=by rw [HG6.out];exact enters_of Tryz.func71 (by kernel_rfl) rfl
 obtain ⟨g7,HG7⟩:∃ g,Aside0 (g=73):=⟨_,⟨rfl⟩⟩
 have eg7:∀ args w,(callFunc g7 args).run Tryz.prog w=.ok (.enter g7 args) w:=by rw [HG7.out];exact enters_of Tryz.func73 (by kernel_rfl) rfl
 have HV0:=Aside0.mk (Below.refl W1.heap.size W1)
 have z0:W1.cell? ⟨w.heap.size+1,0,none⟩=some (.func (.func g1) #[] #[.pointer (some ⟨w.heap.size,0,none⟩)]):=by rw [HG1.out];exact (blk_cell bs 0).trans rfl
 clear bs
 go_enter Tryz.func37,Tryz.ntmps37
 go_wp2
 rw [← hW1]
 clear hW1
 refine wp_loop_rounds 8 ?_
 rw [rounds_succ]
 have k_:=K1.out W1 HV0.out
 rw [← HG1.out] at k_
 cases hb1:page_Check_1 a6 b0 <;> rw [hb1] at k_
 ·have h:=HH.out
  rw [if_neg (by rw [hb1];simp)] at h
  obtain rfl:=Option.some.inj h
  clear h HH
  go_wp2_with (go_at_fn g1;refine k_.mono ?_;rintro e V1 ⟨rfl,hb⟩;have HV1:=Aside0.mk (below_step HV0.out hb);clear hb)
  go_ret
  exact ⟨rfl,below_step HB.out HV1.out⟩
 go_wp2_with (go_at_fn g1;refine k_.mono ?_;rintro e V1 ⟨rfl,hb⟩;have HV1:=Aside0.mk (below_step HV0.out hb);clear hb)
 clear k_
 have z1:V1.cell? ⟨w.heap.size+1,1,none⟩=some (.func (.func g2) #[] #[.pointer (some ⟨w.heap.size,0,none⟩)]):=by rw [HG2.out];exact (blk_cell (blk_below BS.out HV1.out) 1).trans rfl
 rw [rounds_succ]
 have k_:=K2.out V1 HV1.out
 rw [← HG2.out] at k_
 cases hb2:page_Check_2 b5 d3 <;> rw [hb2] at k_
 ·have h:=HH.out
  rw [if_neg (by rw [hb2];simp)] at h
  obtain rfl:=Option.some.inj h
  clear h HH
  go_wp2_with (go_at_fn g2;refine k_.mono ?_;rintro e V2 ⟨rfl,hb⟩;have HV2:=Aside0.mk (below_step HV1.out hb);clear hb)
  go_ret
  exact ⟨rfl,below_step HB.out HV2.out⟩
 go_wp2_with (go_at_fn g2;refine k_.mono ?_;rintro e V2 ⟨rfl,hb⟩;have HV2:=Aside0.mk (below_step HV1.out hb);clear hb)
 have h:=HH.out
 rw [if_pos ⟨hb1,hb2⟩] at h
 clear HH
 obtain ⟨t3,h3,h⟩:=Option.bind_eq_some_iff.1 h
 have HH:=Aside0.mk h
 have H3:=Aside0.mk h3
 clear h h3 hb1 hb2
 clear k_
 have z2:V2.cell? ⟨w.heap.size+1,2,none⟩=some (.func (.func g3) #[] #[.pointer (some ⟨w.heap.size,0,none⟩)]):=by rw [HG3.out];exact (blk_cell (blk_below BS.out HV2.out) 2).trans rfl
 rw [rounds_succ]
 have k_:=K3.out V2 HV2.out t3 H3.out
 rw [← HG3.out] at k_
 cases t3
 ·have h:=HH.out
  rw [if_neg (by simp)] at h
  obtain rfl:=Option.some.inj h
  clear h HH
  go_wp2_with (go_at_fn g3;refine k_.mono ?_;rintro e V3 ⟨rfl,hb⟩;have HV3:=Aside0.mk (below_step HV2.out hb);clear hb)
  go_ret
  exact ⟨rfl,below_step HB.out HV3.out⟩
 go_wp2_with (go_at_fn g3;refine k_.mono ?_;rintro e V3 ⟨rfl,hb⟩;have HV3:=Aside0.mk (below_step HV2.out hb);clear hb)
 have h:=HH.out
 first|rw [if_pos rfl] at h|rw [if_pos True.intro] at h
 clear HH
 obtain ⟨t4,h4,h⟩:=Option.bind_eq_some_iff.1 h
 have HH:=Aside0.mk h
 have H4:=Aside0.mk h4
 clear h h4
 clear k_
 have z3:V3.cell? ⟨w.heap.size+1,3,none⟩=some (.func (.func g4) #[] #[.pointer (some ⟨w.heap.size,0,none⟩)]):=by rw [HG4.out];exact (blk_cell (blk_below BS.out HV3.out) 3).trans rfl
 rw [rounds_succ]
 have k_:=K4.out V3 HV3.out t4 H4.out
 rw [← HG4.out] at k_
 cases t4
 ·have h:=HH.out
  rw [if_neg (by simp)] at h
  obtain rfl:=Option.some.inj h
  clear h HH
  go_wp2_with (go_at_fn g4;refine k_.mono ?_;rintro e V4 ⟨rfl,hb⟩;have HV4:=Aside0.mk (below_step HV3.out hb);clear hb)
  go_ret
  exact ⟨rfl,below_step HB.out HV4.out⟩
 go_wp2_with (go_at_fn g4;refine k_.mono ?_;rintro e V4 ⟨rfl,hb⟩;have HV4:=Aside0.mk (below_step HV3.out hb);clear hb)
 have h:=HH.out
 first|rw [if_pos rfl] at h|rw [if_pos True.intro] at h
 clear HH
 obtain ⟨t5,h5,h⟩:=Option.bind_eq_some_iff.1 h
 have HH:=Aside0.mk h
 have H5:=Aside0.mk h5
 clear h h5
 clear k_
 have z4:V4.cell? ⟨w.heap.size+1,4,none⟩=some (.func (.func g5) #[] #[.pointer (some ⟨w.heap.size,0,none⟩)]):=by rw [HG5.out];exact (blk_cell (blk_below BS.out HV4.out) 4).trans rfl
 rw [rounds_succ]
 have k_:=K5.out V4 HV4.out t5 H5.out
 rw [← HG5.out] at k_
 cases t5
 ·have h:=HH.out
  rw [if_neg (by simp)] at h
  obtain rfl:=Option.some.inj h
  clear h HH
  go_wp2_with (go_at_fn g5;refine k_.mono ?_;rintro e V5 ⟨rfl,hb⟩;have HV5:=Aside0.mk (below_step HV4.out hb);clear hb)
  go_ret
  exact ⟨rfl,below_step HB.out HV5.out⟩
 go_wp2_with (go_at_fn g5;refine k_.mono ?_;rintro e V5 ⟨rfl,hb⟩;have HV5:=Aside0.mk (below_step HV4.out hb);clear hb)
 have h:=HH.out
 first|rw [if_pos rfl] at h|rw [if_pos True.intro] at h
 clear HH
 obtain ⟨t6,h6,h⟩:=Option.bind_eq_some_iff.1 h
 have HH:=Aside0.mk h
 have H6:=Aside0.mk h6
 clear h h6
 clear k_
 have z5:V5.cell? ⟨w.heap.size+1,5,none⟩=some (.func (.func g6) #[] #[.pointer (some ⟨w.heap.size,0,none⟩)]):=by rw [HG6.out];exact (blk_cell (blk_below BS.out HV5.out) 5).trans rfl
 rw [rounds_succ]
 have k_:=K6.out V5 HV5.out t6 H6.out
 rw [← HG6.out] at k_
 cases t6
 ·have h:=HH.out
  rw [if_neg (by simp)] at h
  obtain rfl:=Option.some.inj h
  clear h HH
  go_wp2_with (go_at_fn g6;refine k_.mono ?_;rintro e V6 ⟨rfl,hb⟩;have HV6:=Aside0.mk (below_step HV5.out hb);clear hb)
  go_ret
  exact ⟨rfl,below_step HB.out HV6.out⟩
 go_wp2_with (go_at_fn g6;refine k_.mono ?_;rintro e V6 ⟨rfl,hb⟩;have HV6:=Aside0.mk (below_step HV5.out hb);clear hb)
 have h:=HH.out
 first|rw [if_pos rfl] at h|rw [if_pos True.intro] at h
 clear HH
 obtain ⟨t7,h7,h⟩:=Option.bind_eq_some_iff.1 h
 have HH:=Aside0.mk h
 have H7:=Aside0.mk h7
 clear h h7
 clear k_
 have z6:V6.cell? ⟨w.heap.size+1,6,none⟩=some (.func (.func g7) #[] #[.pointer (some ⟨w.heap.size,0,none⟩)]):=by rw [HG7.out];exact (blk_cell (blk_below BS.out HV6.out) 6).trans rfl
 rw [rounds_succ]
 have k_:=K7.out V6 HV6.out t7 H7.out
 rw [← HG7.out] at k_
 cases t7
 ·have h:=HH.out
  rw [if_neg (by simp)] at h
  obtain rfl:=Option.some.inj h
  clear h HH
  go_wp2_with (go_at_fn g7;refine k_.mono ?_;rintro e V7 ⟨rfl,hb⟩;have HV7:=Aside0.mk (below_step HV6.out hb);clear hb)
  go_ret
  exact ⟨rfl,below_step HB.out HV7.out⟩
 go_wp2_with (go_at_fn g7;refine k_.mono ?_;rintro e V7 ⟨rfl,hb⟩;have HV7:=Aside0.mk (below_step HV6.out hb);clear hb)
 have h:=HH.out
 first|rw [if_pos rfl] at h|rw [if_pos True.intro] at h
 obtain rfl:=Option.some.inj h
 clear h HH
 clear k_
 rw [rounds_succ]
 go_wp2
 go_ret
 exact ⟨rfl,below_step HB.out HV7.out⟩

/-! ### merge_every_bool: function 44 -/
def merge_every_bool.l0:Nat→Bool→List Bool→Int→Int→Option (Bool)
 |0,_,_,_,_=>none
 |k+1,x0,x7,x8,x9=>if x9 < x8 then (if 0≤x9 then (if x9 < (x7.length:Int) then (if ((rdOf false x7 x9) != x0)=true then (some false) else (merge_every_bool.l0 k x0 x7 x8 (wrap64 (x9+1)))) else (none)) else (none)) else (some true)
def merge_every_bool.f (k:Nat) (a0:Bool) (l1:List Bool):Option (Bool):=merge_every_bool.l0 k a0 l1 (l1.length:Int) 0
set_option maxHeartbeats 8000000 in
set_option maxRecDepth 100000 in
theorem merge_every_bool.calls (k:Nat) (a0:Bool) (A1:Option Addr) (c1:Nat) (l1:List Bool) (r:Bool) (w:World) (hr1:Kd.C Kd.bool w A1 l1.length l1) (hc1:l1.length≤c1) (h:merge_every_bool.f k a0 l1=some r):
  Calls Tryz.prog 44 #[.bool a0,.slice A1 l1.length c1] w fun e w'=>e=.returned (.bool r)∧Drawn0 w w':=by
 (have HR1:=Aside0.mk hr1);(have HC1:=Aside0.mk hc1);(clear hr1 hc1);(unfold merge_every_bool.f at h);(have H:=h);(clear h);(have H':=Aside0.mk H);(clear H);(go_enter Tryz.func44,Tryz.ntmps44);(go_wp2);(go_loopg [9] k (fun kq v9 w'=>∃ (E1:Int),v9=.int .i64 E1∧Aside0 (merge_every_bool.l0 kq a0 l1 (l1.length:Int) E1=some r)∧Aside0 (kq≤k)∧Drawn0 w w'))
 case atStart=>exact ⟨(0),sd,H',⟨Nat.le_refl _⟩,by repeat (first|exact Drawn0.refl _ |apply Drawn0.step)⟩
 case round=>
  (clear H');(obtain ⟨E1,rfl,HA,l7,⟨m1,rfl⟩⟩:=hrel)
  cases gk with
  |zero=>exact absurd HA.out (by simp [merge_every_bool.l0])
  |succ k1=>
   (have H:=HA.out);(clear HA);(simp only [merge_every_bool.l0] at H);(replace H:=sp H);(rcases H with ⟨N6,H⟩|⟨N6,H⟩)
   ·(replace H:=gd H);(obtain ⟨p2,H⟩:=H);(replace H:=gd H);(obtain ⟨S1,H⟩:=H);(by_cases c6:((rdOf false l1 E1) != a0)=true)
    ·(rw [if_pos c6] at H);(have J0:((rdOf false l1 E1) != a0)=true:=c6);((try (have az6:decide ((rdOf false l1 E1)=a0)=false:=by simpa using c6)));((try (have eu3:((rdOf false l1 E1)==a0)=false:=by simpa using c6)));((try (have gd4:¬ ((rdOf false l1 E1)=a0):=by simpa using c6)));(clear c6);(obtain rfl:=Option.some.inj H);(have bm4:0≤(E1:Int):=od);(have bm5:E1 < (l1.length:Int):=od);(obtain ⟨ad142,e142,dm5⟩:=Kd.at_bool HR1.out E1 bm4 bm5);(cases e142);(replace bm4:=eq_true bm4);(replace bm5:=eq_true bm5);(go_wp2);(go_ret);(exact ⟨by first|rfl|(simp;done)|(simp [*];done),by repeat (first|exact Drawn0.refl _ |apply Drawn0.step)⟩)
    ·(rw [if_neg c6] at H);(have J0:((rdOf false l1 E1) != a0)=false:=by simpa using c6);((try (have az6:decide ((rdOf false l1 E1)=a0)=true:=by simpa using c6)));((try (have eu3:((rdOf false l1 E1)==a0)=true:=by simpa using c6)));(clear c6);(have H':=Aside0.mk H);(clear H);(have bm4:0≤(E1:Int):=od);(have bm5:E1 < (l1.length:Int):=od);(obtain ⟨ad142,e142,dm5⟩:=Kd.at_bool HR1.out E1 bm4 bm5);(cases e142);(replace bm4:=eq_true bm4);(replace bm5:=eq_true bm5);(go_wp2);(go_roundg k1)
     case measure=>have:=l7.out;omega
     case rel=>exact ⟨(wrap64 (E1+1)),sd,H',⟨by have:=l7.out;omega⟩,by repeat (first|exact Drawn0.refl _ |apply Drawn0.step)⟩
   ·(obtain rfl:=Option.some.inj H);(go_wp2);(go_ret);(exact ⟨by first|rfl|(simp;done)|(simp [*];done),by repeat (first|exact Drawn0.refl _ |apply Drawn0.step)⟩)

/-! ### merge_Beside: function 13 -/
def merge_Beside.f (k:Nat) (a6:Int) (b0:Int) (b5:Int) (b9:ByteArray) (d1:ByteArray) (d2:Bool) (d3:Int) (d0:Int) (b7:List Int) (a8:List (S42)) (f9:Int) (i4:Int) (i5:Int) (i9:ByteArray) (k5:ByteArray) (k6:Bool) (k8:Int) (j9:Int) (i6:List Int) (i7:List (S42)):Option (Bool):=(page_Check.f k a6 b0 b5 b9 d1 d2 d3 d0 b7 a8).bind fun aj0=>((page_Check.f k f9 i4 i5 i9 k5 k6 k8 j9 i6 i7).bind fun aj1=>((api_Errno.f k 0 (([aj0,aj1]:List Int))).bind fun cq1=>(if cq1=true then ((merge_every_bool.f k true (([(b5==i5),(b0==f9),(i4 != a6),d2,(d1.toList==i9.toList)]:List Bool))).bind fun bm6=>(some bm6)) else (some false))))
def merge_Beside.T1:Bool×List (List Nat×List Nat):=(true,[([],[]),([0],[0]),([],[]),([2,1],[2]),([1,3],[1,3]),([4,3],[4]),([5,5],[5]),([6],[6]),([7,6],[6,7]),([6],[6]),([9,6],[6,9]),([8,10,6],[6,8,10]),([6],[6]),([12,6],[6,12]),([6],[6]),([14,6],[6,14]),([13,15,6],[6,13,15]),([6],[6]),([17,6],[6,17]),([6],[6]),([19,6],[6,19]),([18,20,6],[6,18,20]),([6],[6]),([22,6],[6,22]),([6],[6]),([24,6],[6,24]),([6],[6]),([26,6],[6,26]),([25,27,6],[6,25,27]),([11,16,21,23,28,6],[6,11,16,21,23,28]),([29,6,6],[6,29]),([6,30],[6,30]),([31,30,0,1,2,3,4,5,6,7,8,9,10,11,12,13,14,15,16,17,18,19,20,21,22,23,24,25,26,27,28,29,30,31],[31])])
def merge_Beside.B1:List Nat:=[0,1,0,7,15,31,63,127,255,127,639,2047,127,4223,127,16511,61567,127,131199,127,524415,1966207,127,4194431,127,16777343,127,67108991,251658367,536870911,1073741823,2147483647,4294967295]
theorem merge_Beside.tab1:rtab .any (opsOf Tryz.f13 1)=merge_Beside.T1:=by kernel_rfl
theorem merge_Beside.bits1:waitsOk merge_Beside.T1.2 merge_Beside.B1=true:=by kernel_rfl
set_option maxHeartbeats 8000000 in
set_option maxRecDepth 100000 in
theorem merge_Beside.calls (k:Nat) (a6:Int) (b0:Int) (b5:Int) (b9:ByteArray) (d1:ByteArray) (d2:Bool) (d3:Int) (d0:Int) (j6:Option Addr) (j7:Nat) (b7:List Int) (l5:Option Addr) (j8:Nat) (a8:List (S42)) (f9:Int) (i4:Int) (i5:Int) (i9:ByteArray) (k5:ByteArray) (k6:Bool) (k8:Int) (j9:Int) (o3:Option Addr) (o4:Nat) (i6:List Int) (o5:Option Addr) (o6:Nat) (i7:List (S42)) (r:Bool) (w:World) (y4:Kd.C (Kd.int .u64) w j6 b7.length b7) (C1:b7.length≤j7) (s9:Kd.C k42 w l5 a8.length a8) (u7:a8.length≤j8) (af2:Kd.C (Kd.int .u64) w o3 i6.length i6) (af3:i6.length≤o4) (af4:Kd.C k42 w o5 i7.length i7) (af5:i7.length≤o6) (h:merge_Beside.f k a6 b0 b5 b9 d1 d2 d3 d0 b7 a8 f9 i4 i5 i9 k5 k6 k8 j9 i6 i7=some r):
  Calls Tryz.prog 13 #[.agg #[.int .u64 a6,.int .u64 b0,.int .u8 b5,.string b9,.string d1,.bool d2,.int .u64 d3,.int .u64 d0,.slice j6 b7.length j7,.slice l5 a8.length j8],.agg #[.int .u64 f9,.int .u64 i4,.int .u8 i5,.string i9,.string k5,.bool k6,.int .u64 k8,.int .u64 j9,.slice o3 i6.length o4,.slice o5 i7.length o6]] w fun e w'=>e=.returned (.bool r)∧Below w.heap.size w w':=by
 (have hu28:=Tryz.underlying28);(have t1:=Aside0.mk y4);(have t2:=Aside0.mk C1);(clear y4 C1);(have o1:=Aside0.mk s9);(have s3:=Aside0.mk u7);(clear s9 u7);(have S5:=Aside0.mk af2);(have S6:=Aside0.mk af3);(clear af2 af3);(have R8:=Aside0.mk af4);(have R9:=Aside0.mk af5);(clear af4 af5);(have HB:=Aside0.mk (Below.refl w.heap.size w));(unfold merge_Beside.f at h);(have H:=h);(clear h);(replace H:=bs H);(obtain ⟨aj0,A3,H⟩:=H);(replace H:=bs H);(obtain ⟨aj1,A4,H⟩:=H);(obtain ⟨y147,hy147⟩:∃ y_:List Int,y_=(([aj0,aj1]:List Int)):=⟨_,rfl⟩);(replace H:((api_Errno.f k 0 y147).bind fun cq1=>(if cq1=true then ((merge_every_bool.f k true (([(b5==i5),(b0==f9),(i4 != a6),d2,(d1.toList==i9.toList)]:List Bool))).bind fun bm6=>(some bm6)) else (some false)))=some r:=by first|(rw [hy147];with_reducible exact H)|(have H2_:=(Option.bind_some _ _).symm.trans H;rw [hy147];with_reducible exact H2_)|(have H2_:=(Option.bind_some _ _).symm.trans H;with_reducible exact H2_)|with_reducible exact H|(rw [hy147];exact H)|exact H);(have Ny147:=Aside0.mk hy147);(clear hy147);(replace H:=bs H);(obtain ⟨cq1,A5,H⟩:=H);(replace H:=sB H);(rcases H with ⟨rfl,H⟩|⟨rfl,H⟩)
 ·(obtain ⟨y151,hy151⟩:∃ y_:List Bool,y_=(([(b5==i5),(b0==f9),(i4 != a6),d2,(d1.toList==i9.toList)]:List Bool)):=⟨_,rfl⟩);(replace H:((merge_every_bool.f k true y151).bind fun bm6=>(some bm6))=some r:=by first|(rw [hy151];with_reducible exact H)|(have H2_:=(Option.bind_some _ _).symm.trans H;rw [hy151];with_reducible exact H2_)|(have H2_:=(Option.bind_some _ _).symm.trans H;with_reducible exact H2_)|with_reducible exact H|(rw [hy151];exact H)|exact H);(have Ny151:=Aside0.mk hy151);(clear hy151);(replace H:=bs H);(obtain ⟨bm6,A7,H⟩:=H);(obtain rfl:=Option.some.inj H);(go_enter Tryz.func13,Tryz.ntmps13);(try go_wp2_with (first|((with_reducible refine gate_dst (N:=2) rfl ?_);(try (refine gate_guard (by rfl) ?_;dsimp only));refine bx (N:=2) (cs:=#[.int .u64 a6,.int .u64 b0,.int .u8 b5,.string b9,.string d1,.bool d2,.int .u64 d3,.int .u64 d0,.slice j6 b7.length j7,.slice l5 a8.length j8]) (t:=28) ⟨mvW HB.out⟩ ?_;clear HB;intro el5 hg w8 hb u4 cq2 HB;have el6:=cq2;clear hb hg)|((with_reducible refine gate_dst (N:=3) rfl ?_);(try (refine gate_guard (by rfl) ?_;dsimp only));refine bx (N:=3) (cs:=#[.int .u64 f9,.int .u64 i4,.int .u8 i5,.string i9,.string k5,.bool k6,.int .u64 k8,.int .u64 j9,.slice o3 i6.length o4,.slice o5 i7.length o6]) (t:=28) ⟨mvW HB.out⟩ ?_;clear HB;intro el7 hg w9 hb E0 cq3 HB;have el8:=cq3;have ct4:=nbl hg u4;have ct5:=nbg hg u4;replace u4:=bb u4 hb;clear hb hg)));(replace u4:=bd u4);(replace E0:=bd E0);(replace HB:=wd HB);(refine st2 (bm 33 0) (cc10 u4) (cc10 E0) merge_Beside.tab1 merge_Beside.bits1 (fun a7 HT_ HW_=>?_));(generalize w9.drew=w10 at u4 E0 HB a7 ⊢);(refine tk 0 5 (bv 1 32) HT_ HW_ a7 ?_);(refine tk 2 7 (bm 33 5) HT_ HW_ a7 ?_);(refine on 1 (some 6) (bv 3 30) HT_ (fun K hK=>?_));(refine goes_ Tryz.func37 (by kernel_rfl) rfl #[.agg #[.int .u64 a6,.int .u64 b0,.int .u8 b5,.string b9,.string d1,.bool d2,.int .u64 d3,.int .u64 d0,.slice j6 b7.length j7,.slice l5 a8.length j8]] (by rfl) rfl rfl am ?_);(with_reducible refine (page_Check.calls k a6 b0 b5 b9 d1 d2 d3 d0 _ _ b7 _ _ a8 aj0 _ ?_ ?_ ?_ ?_ A3.out).mono ?_);(exact mvC (Kd.C_below t1.out HB.out));(exact t2.out);(exact mvC (Kd.C_below o1.out HB.out));(exact s3.out);(rintro e w11 ⟨rfl,hb⟩);(refine ⟨_,rfl,?_⟩);(replace u4:=bb u4 hb);(replace E0:=bb E0 hb);(replace HB:=sb HB hb);(clear hb);(refine hK.out _ _ ⟨cc10 u4,cc10 E0⟩ (fun a7=>?_));(clear hK K);(refine nm 6 ?_);(refine on 3 (some 8) (bv 4 29) HT_ (fun K hK=>?_));(refine goes_ Tryz.func37 (by kernel_rfl) rfl #[.agg #[.int .u64 f9,.int .u64 i4,.int .u8 i5,.string i9,.string k5,.bool k6,.int .u64 k8,.int .u64 j9,.slice o3 i6.length o4,.slice o5 i7.length o6]] (by rfl) rfl rfl am ?_);(with_reducible refine (page_Check.calls k f9 i4 i5 i9 k5 k6 k8 j9 _ _ i6 _ _ i7 aj1 _ ?_ ?_ ?_ ?_ A4.out).mono ?_);(exact mvC (Kd.C_below S5.out HB.out));(exact S6.out);(exact mvC (Kd.C_below R8.out HB.out));(exact R9.out);(rintro e w12 ⟨rfl,hb⟩);(refine ⟨_,rfl,?_⟩);(replace u4:=bb u4 hb);(replace E0:=bb E0 hb);(replace HB:=sb HB hb);(clear hb);(refine hK.out _ _ ⟨cc10 u4,cc10 E0⟩ (fun a7=>?_));(clear hK K);(refine nm 8 ?_);(refine on 4 (some 9) (bv 5 28) HT_ (fun K hK=>?_));(refine Kd.R_lit_step (Kd.int .i64) _ 34 ?hg (N:=9) ?hd (xs:=([aj0,aj1]:List Int)) (inner:=[.int .i64 aj0,.int .i64 aj1]) (ok:=fun _=>True) (okp:=fun _=>True) ?hr ?hp (fun _ hk=>hk) trivial (Below.refl _ _) (Nat.le_refl _) (by simp) ?_;(case hd=>rfl);(case hg=>rfl);(case hr=>first|(go_simp;done)|(go_simp;rfl));(case hp=>exact (Reps.one (show Kd.M (Kd.int .i64) _ _ _ aj0 [.int .i64 aj0] from rfl) (Reps.one (show Kd.M (Kd.int .i64) _ _ _ aj1 [.int .i64 aj1] from rfl) (Reps.none _ _)))));(intro eu4 w13 cd1 hb hg_ hnew_);(clear hg_ hnew_);((first|rw [← Ny147.out] at cd1|(simp only [Int.reduceToNat] at cd1;rw [← Ny147.out] at cd1)));(have an1:=Aside0.mk (Kd.R_lower cd1 (below_size (mvW HB.out))));(replace u4:=bb u4 hb);(replace E0:=bb E0 hb);(replace HB:=sb HB hb);(clear hb cd1);(obtain ⟨cv7,cv8,eo15⟩:=Kd.R_slice an1.out);((first|subst eo15|(injection eo15 with f1_ f2_ f3_;have f4_:=f1_.symm;have f5_:=f3_.symm;clear f1_ f2_ f3_;subst f4_;subst f5_)));(refine hK.out _ _ ⟨cc10 u4,cc10 E0⟩ (fun a7=>?_));(clear hK K);(refine nm 9 ?_);(refine on 5 (some 10) (bv 6 27) HT_ (fun K hK=>?_));(refine goes_ Tryz.func36 (by kernel_rfl) rfl #[.int .i64 0,.slice cv7 y147.length cv8] (by rfl) rfl rfl am ?_);(with_reducible refine (api_Errno.calls k 0 _ _ y147 true _ ?_ ?_ A5.out).mono ?_);(exact mvC (Kd.R_reads' an1.out).2.2);(exact (Kd.R_reads' an1.out).2.1);(rintro e w' ⟨rfl,⟨nd,rfl⟩⟩);(refine ⟨_,rfl,?_⟩);(refine hK.out _ _ ⟨cc10 u4,cc10 E0⟩ (fun a7=>?_));(clear hK K);(refine nm 10 ?_);(refine pu2 6 11 (bv 8 25) HT_ ?_);(refine pu 9 14 (bm 33 767) HT_ ?_);(refine pu 12 17 (bm 33 4863) HT_ ?_);(refine pu 14 19 (bm 33 21247) HT_ ?_);(refine pu 17 22 (bm 33 152319) HT_ ?_);(refine pu 19 24 (bm 33 676607) HT_ ?_);(refine pu 22 27 (bm 33 4870911) HT_ ?_);(refine pu 24 29 (bm 33 21648127) HT_ ?_);(refine pu 26 31 (bm 33 88756991) HT_ ?_);(refine tk 8 13 (bm 33 88757247) HT_ HW_ a7 ?_);(refine tk 10 15 (bm 33 88758271) HT_ HW_ a7 ?_);(refine pu 11 16 (bm 33 88760319) HT_ ?_);(refine tk 13 18 (bm 33 88768511) HT_ HW_ a7 ?_);(refine tk 15 20 (bm 33 88801279) HT_ HW_ a7 ?_);(refine pu 16 21 (bm 33 88866815) HT_ ?_);(refine tk 18 23 (bm 33 89128959) HT_ HW_ a7 ?_);(refine tk 20 25 (bm 33 90177535) HT_ HW_ a7 ?_);(refine pu 21 26 (bm 33 92274687) HT_ ?_);(refine tk 23 28 (bm 33 100663295) HT_ HW_ a7 ?_);(refine tk 25 30 (bv 27 6) HT_ HW_ a7 ?_);(refine tk 27 32 (bv 28 5) HT_ HW_ a7 ?_);(refine pu 28 33 (bv 29 4) HT_ ?_);(refine on 29 (some 34) (bv 30 3) HT_ (fun K hK=>?_));(refine Kd.R_lit_step Kd.bool _ 4 ?hg (N:=34) ?hd (xs:=([(b5==i5),(b0==f9),(i4 != a6),d2,(d1.toList==i9.toList)]:List Bool)) (inner:=[.bool (b5==i5),.bool (b0==f9),.bool (i4 != a6),.bool d2,.bool (d1.toList==i9.toList)]) (ok:=fun _=>True) (okp:=fun _=>True) ?hr ?hp (fun _ hk=>hk) trivial (Below.refl _ _) (Nat.le_refl _) (by simp) ?_;(case hd=>rfl);(case hg=>rfl);(case hr=>first|(go_simp;done)|(go_simp;rfl));(case hp=>exact (Reps.one (show Kd.M Kd.bool _ _ _ (b5==i5) [.bool (b5==i5)] from rfl) (Reps.one (show Kd.M Kd.bool _ _ _ (b0==f9) [.bool (b0==f9)] from rfl) (Reps.one (show Kd.M Kd.bool _ _ _ (i4 != a6) [.bool (i4 != a6)] from rfl) (Reps.one (show Kd.M Kd.bool _ _ _ d2 [.bool d2] from rfl) (Reps.one (show Kd.M Kd.bool _ _ _ (d1.toList==i9.toList) [.bool (d1.toList==i9.toList)] from rfl) (Reps.none _ _))))))));(intro gd5 w16 cd2 hb hg_ hnew_);(clear hg_ hnew_);((first|rw [← Ny151.out] at cd2|(simp only [Int.reduceToNat] at cd2;rw [← Ny151.out] at cd2)));(replace an1:=rb an1 hb);(have cq4:=Aside0.mk (Kd.R_lower cd2 (below_size (mvW HB.out))));(replace u4:=bb u4 hb);(replace E0:=bb E0 hb);(replace HB:=sb HB hb);(clear hb cd2);(obtain ⟨eu5,eu6,eo18⟩:=Kd.R_slice cq4.out);((first|subst eo18|(injection eo18 with f1_ f2_ f3_;have f4_:=f1_.symm;have f5_:=f3_.symm;clear f1_ f2_ f3_;subst f4_;subst f5_)));(refine hK.out _ _ ⟨cc10 u4,cc10 E0⟩ (fun a7=>?_));(clear hK K);(refine nm 34 ?_);(refine on 30 (some 35) (bv 31 2) HT_ (fun K hK=>?_));(refine goes_ Tryz.func44 (by kernel_rfl) rfl #[.bool true,.slice eu5 y151.length eu6] (by rfl) rfl rfl am ?_);(with_reducible refine (merge_every_bool.calls k true _ _ y151 bm6 _ ?_ ?_ A7.out).mono ?_);(exact mvC (Kd.R_reads' cq4.out).2.2);(exact (Kd.R_reads' cq4.out).2.1);(rintro e w' ⟨rfl,⟨nd,rfl⟩⟩);(refine ⟨_,rfl,?_⟩);(refine hK.out _ _ ⟨cc10 u4,cc10 E0⟩ (fun a7=>?_));(clear hK K);(refine nm 35 ?_);(refine pu 31 36 (bv 32 1) HT_ ?_);(refine pu 32 4 (bv 33 0) HT_ ?_);(refine done_ (done_of HT_.out (by kernel_rfl)) ?_);(try go_wp2);(go_ret);(exact ⟨rv,mvW HB.out⟩)
 ·(obtain rfl:=Option.some.inj H);(go_enter Tryz.func13,Tryz.ntmps13);(try go_wp2_with (first|((with_reducible refine gate_dst (N:=2) rfl ?_);(try (refine gate_guard (by rfl) ?_;dsimp only));refine bx (N:=2) (cs:=#[.int .u64 a6,.int .u64 b0,.int .u8 b5,.string b9,.string d1,.bool d2,.int .u64 d3,.int .u64 d0,.slice j6 b7.length j7,.slice l5 a8.length j8]) (t:=28) ⟨mvW HB.out⟩ ?_;clear HB;intro el5 hg w19 hb u4 cq2 HB;have el6:=cq2;clear hb hg)|((with_reducible refine gate_dst (N:=3) rfl ?_);(try (refine gate_guard (by rfl) ?_;dsimp only));refine bx (N:=3) (cs:=#[.int .u64 f9,.int .u64 i4,.int .u8 i5,.string i9,.string k5,.bool k6,.int .u64 k8,.int .u64 j9,.slice o3 i6.length o4,.slice o5 i7.length o6]) (t:=28) ⟨mvW HB.out⟩ ?_;clear HB;intro el7 hg w20 hb E0 cq3 HB;have el8:=cq3;have ct4:=nbl hg u4;have ct5:=nbg hg u4;replace u4:=bb u4 hb;clear hb hg)));(replace u4:=bd u4);(replace E0:=bd E0);(replace HB:=wd HB);(refine st2 (bm 33 0) (cc10 u4) (cc10 E0) merge_Beside.tab1 merge_Beside.bits1 (fun a7 HT_ HW_=>?_));(generalize w20.drew=w21 at u4 E0 HB a7 ⊢);(refine tk 0 5 (bv 1 32) HT_ HW_ a7 ?_);(refine tk 2 7 (bm 33 5) HT_ HW_ a7 ?_);(refine on 1 (some 6) (bv 3 30) HT_ (fun K hK=>?_));(refine goes_ Tryz.func37 (by kernel_rfl) rfl #[.agg #[.int .u64 a6,.int .u64 b0,.int .u8 b5,.string b9,.string d1,.bool d2,.int .u64 d3,.int .u64 d0,.slice j6 b7.length j7,.slice l5 a8.length j8]] (by rfl) rfl rfl am ?_);(with_reducible refine (page_Check.calls k a6 b0 b5 b9 d1 d2 d3 d0 _ _ b7 _ _ a8 aj0 _ ?_ ?_ ?_ ?_ A3.out).mono ?_);(exact mvC (Kd.C_below t1.out HB.out));(exact t2.out);(exact mvC (Kd.C_below o1.out HB.out));(exact s3.out);(rintro e w22 ⟨rfl,hb⟩);(refine ⟨_,rfl,?_⟩);(replace u4:=bb u4 hb);(replace E0:=bb E0 hb);(replace HB:=sb HB hb);(clear hb);(refine hK.out _ _ ⟨cc10 u4,cc10 E0⟩ (fun a7=>?_));(clear hK K);(refine nm 6 ?_);(refine on 3 (some 8) (bv 4 29) HT_ (fun K hK=>?_));(refine goes_ Tryz.func37 (by kernel_rfl) rfl #[.agg #[.int .u64 f9,.int .u64 i4,.int .u8 i5,.string i9,.string k5,.bool k6,.int .u64 k8,.int .u64 j9,.slice o3 i6.length o4,.slice o5 i7.length o6]] (by rfl) rfl rfl am ?_);(with_reducible refine (page_Check.calls k f9 i4 i5 i9 k5 k6 k8 j9 _ _ i6 _ _ i7 aj1 _ ?_ ?_ ?_ ?_ A4.out).mono ?_);(exact mvC (Kd.C_below S5.out HB.out));(exact S6.out);(exact mvC (Kd.C_below R8.out HB.out));(exact R9.out);(rintro e w23 ⟨rfl,hb⟩);(refine ⟨_,rfl,?_⟩);(replace u4:=bb u4 hb);(replace E0:=bb E0 hb);(replace HB:=sb HB hb);(clear hb);(refine hK.out _ _ ⟨cc10 u4,cc10 E0⟩ (fun a7=>?_));(clear hK K);(refine nm 8 ?_);(refine on 4 (some 9) (bv 5 28) HT_ (fun K hK=>?_));(refine Kd.R_lit_step (Kd.int .i64) _ 34 ?hg (N:=9) ?hd (xs:=([aj0,aj1]:List Int)) (inner:=[.int .i64 aj0,.int .i64 aj1]) (ok:=fun _=>True) (okp:=fun _=>True) ?hr ?hp (fun _ hk=>hk) trivial (Below.refl _ _) (Nat.le_refl _) (by simp) ?_;(case hd=>rfl);(case hg=>rfl);(case hr=>first|(go_simp;done)|(go_simp;rfl));(case hp=>exact (Reps.one (show Kd.M (Kd.int .i64) _ _ _ aj0 [.int .i64 aj0] from rfl) (Reps.one (show Kd.M (Kd.int .i64) _ _ _ aj1 [.int .i64 aj1] from rfl) (Reps.none _ _)))));(intro eu4 w24 cd3 hb hg_ hnew_);(clear hg_ hnew_);((first|rw [← Ny147.out] at cd3|(simp only [Int.reduceToNat] at cd3;rw [← Ny147.out] at cd3)));(have an1:=Aside0.mk (Kd.R_lower cd3 (below_size (mvW HB.out))));(replace u4:=bb u4 hb);(replace E0:=bb E0 hb);(replace HB:=sb HB hb);(clear hb cd3);(obtain ⟨eu7,eu8,eo26⟩:=Kd.R_slice an1.out);((first|subst eo26|(injection eo26 with f1_ f2_ f3_;have f4_:=f1_.symm;have f5_:=f3_.symm;clear f1_ f2_ f3_;subst f4_;subst f5_)));(refine hK.out _ _ ⟨cc10 u4,cc10 E0⟩ (fun a7=>?_));(clear hK K);(refine nm 9 ?_);(refine on 5 (some 10) (bv 6 27) HT_ (fun K hK=>?_));(refine goes_ Tryz.func36 (by kernel_rfl) rfl #[.int .i64 0,.slice eu7 y147.length eu8] (by rfl) rfl rfl am ?_);(with_reducible refine (api_Errno.calls k 0 _ _ y147 false _ ?_ ?_ A5.out).mono ?_);(exact mvC (Kd.R_reads' an1.out).2.2);(exact (Kd.R_reads' an1.out).2.1);(rintro e w' ⟨rfl,⟨nd,rfl⟩⟩);(refine ⟨_,rfl,?_⟩);(refine hK.out _ _ ⟨cc10 u4,cc10 E0⟩ (fun a7=>?_));(clear hK K);(refine nm 10 ?_);(refine pu 6 11 (bv 7 26) HT_ ?_);(refine pn16 7 12 (bv 23 10) HT_ ?_);(refine pn8 23 28 (bv 31 2) HT_ ?_);(refine pu 31 36 (bv 32 1) HT_ ?_);(refine pu 32 4 (bv 33 0) HT_ ?_);(refine done_ (done_of HT_.out (by kernel_rfl)) ?_);(try go_wp2);(go_ret);(exact ⟨rv,mvW HB.out⟩)

/-! ### slices_Clone_uint64_uint64: function 38 -/
def slices_Clone_uint64_uint64.f (l0:List Int):Option (List Int):=if l0.length < 17592186044416 then some l0 else none
set_option maxHeartbeats 4000000 in
set_option maxRecDepth 100000 in
theorem slices_Clone_uint64_uint64.calls (A0:Option Addr) (c0:Nat) (l0:List Int) (r:List Int) (w:World) (hr0:Kd.C (Kd.int .u64) w A0 l0.length l0) (hc0:l0.length≤c0) (h:slices_Clone_uint64_uint64.f l0=some r):
  Calls Tryz.prog 38 #[.slice A0 l0.length c0] w fun e w'=>∃ v0_:Value,e=.returned (v0_)∧Kd.R (Kd.int .u64) 22 w' w.heap.size (fun _=>True) v0_ r∧Below w.heap.size w w':=by
 unfold slices_Clone_uint64_uint64.f at h
 by_cases hl:l0.length < 17592186044416
 ·rw [if_pos hl] at h
  obtain rfl:=Option.some.inj h
  have HL:=Aside0.mk hl
  have HR:=Aside0.mk hr0
  clear h hl hr0
  rcases A0 with _ |ad
  ·obtain rfl:l0=[]:=by
    rcases Nat.eq_zero_or_pos l0.length with h0|h0
    ·exact List.eq_nil_of_length_eq_zero h0
    ·obtain ⟨ad,h,_⟩:=HR.out.2.2 h0
     cases h
   have he:=fun w=>Lib.run_eql_slice_nil (P:=Tryz.prog) w 23 22 none ([]:List Int).length c0 0 0 Tryz.underlying23
   simp only [Option.isNone,List.length_nil] at he
   go_enter Tryz.func38,Tryz.ntmps38
   go_wp2
   go_ret
   exact ⟨_,rfl,Kd.R_nil _ _ _ _ _,Below.refl _ _⟩
  ·have he:=fun w=>Lib.run_eql_slice_nil (P:=Tryz.prog) w 23 22 (some ad) l0.length c0 0 0 Tryz.underlying23
   simp only [Option.isNone,List.length_nil] at he
   go_enter Tryz.func38,Tryz.ntmps38
   go_wp2_with (first|((with_reducible refine gate_dst (N:=5) rfl ?_);refine Kd.R_lit (Kd.int .u64) _ 22 ?hg (N:=5) ?hd (xs:=([]:List Int)) (inner:=[]) (ok:=fun _=>True) (okp:=fun _=>True) ?hr ?hp (fun _ hk=>hk) trivial (Below.refl _ _) (Nat.le_refl _) (by simp) ?_;(case hd=>rfl);(case hg=>rfl);(case hr=>first|(go_simp;done)|(go_simp;rfl));(case hp=>exact Reps.none _ _);intro v5 w5 ho5 hb5 hg_ hnew_;clear hg_ hnew_;have HO:=Aside0.mk ho5;have HB:=Aside0.mk hb5;clear ho5 hb5)|((with_reducible refine gate_builtin (b:=.append) (xs:=#[.tmp 5,.tmp 6]) rfl ?_);at_builtin;refine Kd.R_append_rows (Kd.int .u64) (w0:=w) w.heap.size rfl (.tmp 5) (.tmp 6) 23 22 (.int .u64 0) 8 rfl Tryz.underlying23 info22 rfl (by decide) (by omega) v5 ([]:List Int) l0 _ _ _ (fun _=>True) (fun _=>False) rfl rfl ?aO ?aR (fun _ _ h=>h) (fun _ h=>h.elim) ?aF ?aB ?aS ?aL ?_;(case aO=>exact HO.out);(case aR=>exact Kd.C_below HR.out HB.out);(case aF=>exact fun _ _=>trivial);(case aB=>exact HB.out);(case aS=>exact below_size HB.out);(case aL=>have:=HL.out;simp only [List.length_nil];omega);intro v6 w6 ho6 hb6 hg6 hat6;rw [List.nil_append] at ho6;have HO6:=Aside0.mk ho6;have HB6:=Aside0.mk hb6;clear ho6 hb6 hg6 hat6))
   go_ret
   exact ⟨_,rfl,HO6.out,HB6.out⟩
 ·rw [if_neg hl] at h
  cases h

/-! ### api_Cell: function 39 -/
section
open Go.Shelf Go.Lib
def api_Cell_ren:Go.Shelf.Ren:=⟨fun|4=>75|n=>n,fun|22=>26|25=>42|n=>n,fun n=>n⟩
theorem api_Cell_lays:Lays8.n4 Tryz.prog api_Cell_ren where
 mixed:=by kernel_rfl
 f4:=⟨Tryz.f75.name,by kernel_rfl,Tryz.func75.trans (congrArg some (by kernel_rfl))⟩
 t0:=Tryz.underlying0
 a0:=Tryz.isAgg0
 z0:=Tryz.sizeOf0
 v0:=Tryz.zeroValue0
 t3:=Tryz.underlying3
 a3:=Tryz.isAgg3
 z3:=Tryz.sizeOf3
 v3:=Tryz.zeroValue3
 t4:=Tryz.underlying4
 a4:=Tryz.isAgg4
 z4:=Tryz.sizeOf4
 v4:=Tryz.zeroValue4
 t9:=Tryz.underlying9
 a9:=Tryz.isAgg9
 z9:=Tryz.sizeOf9
 v9:=Tryz.zeroValue9
 t20:=Tryz.underlying20
 a20:=Tryz.isAgg20
 z20:=Tryz.sizeOf20
 v20:=Tryz.zeroValue20
 t22:=Tryz.underlying26
 a22:=Tryz.isAgg26
 z22:=Tryz.sizeOf26
 v22:=Tryz.zeroValue26
theorem api_Cell_grow (n:Nat) (hn:n * 32≤140737488355328) (w:World):Calls Tryz.prog 75 #[.slice none 0 0,.int .i64 (n:Int)] w fun e w'=>
  ∃ v:Value,e=.returned v∧Kd.R k42 42 w' w.heap.size (fun _=>True) v []∧Below w.heap.size w w':=by
 rcases Nat.eq_zero_or_pos n with rfl|h0
 ·refine (Any8.slices_Grow_room api_Cell_lays none 0 0 0 w (Nat.le_refl _) (by decide) (by decide) (by decide)).mono ?_
  rintro e w' ⟨rfl,rfl⟩
  exact ⟨_,rfl,Kd.R_nil _ _ _ _ _,Below.refl _ _⟩
 ·obtain ⟨i0,hi,hzz⟩:=Option.map_eq_some_iff.1 info42
  simp only [Prod.mk.injEq] at hzz
  obtain ⟨hz0,hz1,hz2⟩:=hzz
  refine (Any8.slices_Grow_grow api_Cell_lays i0 (.agg #[.string ⟨#[]⟩,.string ⟨#[]⟩]) hi hz0 (by rw [hz1];decide) none 0 0 n [] w (Nat.le_refl _) (by omega) (by rw [hz2];omega) (by omega) (by simp) (fun _=>rfl) (fun a h=>by cases h)).mono ?_
  rintro e w' ⟨rfl,rfl⟩
  have e1:api_Cell_ren.t 25=42:=rfl
  have hc:=grownCap_le_maxLen w n 0 42 (by unfold maxLen;omega)
  have hg:=grownCap_ge w n 0 42
  rw [e1,Nat.zero_add]
  refine ⟨_,rfl,own_fresh trivial (Nat.le_refl _) (by have h:=blk_new w.drew (.cells (([]:List Value).toArray++Builtin.zeroCells (Value.agg #[.string ⟨#[]⟩,.string ⟨#[]⟩]).cells (n - 0)++Builtin.zeroCells (Value.agg #[.string ⟨#[]⟩,.string ⟨#[]⟩]).cells (grownCap w n 0 42 - n)) 42);exact h) hc ?_,below_alloc (below_drew1 (Below.refl _ _)) _⟩
  have es:(Value.agg #[.string ⟨#[]⟩,.string ⟨#[]⟩]).cells.size=2:=by kernel_rfl
  have ed:(k42).sz=2:=rfl
  rw [Array.size_append,Array.size_append,size_zeroCells,size_zeroCells,es,ed]
  simp
  omega
end
/-- Concat of two rows of cells: both, one behind the other, in a row of its own. -/
def api_Cell.f (k:Nat) (l0:List S42) (l1:List S42):Option (List S42):=if l0.length+l1.length < 4398046511104 then some (l0++l1) else none
set_option maxHeartbeats 4000000 in
set_option maxRecDepth 100000 in
theorem api_Cell.calls (k:Nat) (A0:Option Addr) (c0:Nat) (l0:List S42) (A1:Option Addr) (c1:Nat) (l1:List S42) (r:List S42) (w:World) (hA:Kd.C k42 w A0 l0.length l0) (hc0:l0.length≤c0) (hB:Kd.C k42 w A1 l1.length l1) (hc1:l1.length≤c1) (h:api_Cell.f k l0 l1=some r) (b:Nat) (hb:w.heap[b]? =some (.cells #[.slice A0 l0.length c0,.slice A1 l1.length c1] 26 (0,0))):
  Calls Tryz.prog 39 #[.slice (some ⟨b,0,none⟩) 2 2] w fun e w'=>∃ v:Value,e=.returned v∧Kd.R k42 42 w' w.heap.size (fun _=>True) v r∧Below w.heap.size w w':=by
 unfold api_Cell.f at h
 by_cases hl:l0.length+l1.length < 4398046511104
 case neg=>rw [if_neg hl] at h;cases h
 rw [if_pos hl] at h
 obtain rfl:=Option.some.inj h
 have HA:=Aside0.mk hA
 have HB':=Aside0.mk hB
 have HL:=Aside0.mk hl
 have BL:=Aside0.mk hb
 have h0:=(blk_cell hb 0).trans rfl
 have h1:=(blk_cell hb 1).trans rfl
 clear hA hB hb h
 have e1:wrap64 (l0.length:Int)=l0.length:=by unfold wrap64;omega
 have e2:wrap64 ((l0.length:Int)+(l1.length:Int))=((l0.length+l1.length:Nat):Int):=by unfold wrap64;omega
 have hG:∀ W,Calls Tryz.prog 75 #[.slice none 0 0,.int .i64 (wrap64 ((l0.length:Int)+(l1.length:Int)))] W fun e w'=>∃ v:Value,e=.returned v∧Kd.R k42 42 w' W.heap.size (fun _=>True) v []∧Below W.heap.size W w':=fun W=>by
  rw [e2];exact api_Cell_grow (l0.length+l1.length) (by omega) W
 have hd:decide (wrap64 ((l0.length:Int)+(l1.length:Int)) < 0)=false:=decide_eq_false (by rw [e2];omega)
 have hd1:decide (wrap64 (l0.length:Int) < 0)=false:=decide_eq_false (by rw [e1];omega)
 have HG:=Aside0.mk hG
 clear hl e2 hG
 go_enter Tryz.func39,Tryz.ntmps39
 go_wp2
 refine wp_loop_rounds 3 ?_
 rw [rounds_succ]
 go_wp2
 rw [rounds_succ]
 go_wp2
 rw [rounds_succ]
 go_wp2_with (go_at_call 75;refine (HG.out _).mono ?_;rintro e w1 ⟨v,rfl,hr,hbb⟩;have HR:=Aside0.mk hr;have HB:=Aside0.mk hbb;have B1:=Aside0.mk (blk_below BL.out hbb);clear hr hbb;have g0:=(blk_cell B1.out 0).trans rfl;have g1:=(blk_cell B1.out 1).trans rfl)
 refine wp_loop_rounds 3 ?_
 rw [rounds_succ]
 go_wp2_with ((with_reducible refine gate_builtin (b:=.append) (xs:=#[.tmp 31,.tmp 32]) rfl ?_);at_builtin;(refine Kd.R_append_rows k42 (w0:=w) w.heap.size rfl (.tmp 31) (.tmp 32) 26 42 (.agg #[(.string ⟨#[]⟩),(.string ⟨#[]⟩)]) 32 rfl Tryz.underlying26 info42 rfl (by decide) (by omega) v [] l0 A0 l0.length c0 (fun _=>True) (fun _=>False) rfl rfl ?aO ?aR (fun _ _ h=>h) (fun _ h=>h.elim) ?aF ?aB ?aS ?aL ?_;(case aR=>exact Kd.C_below HA.out HB.out);(case aB=>exact HB.out);(case aF=>exact fun _ _=>trivial);(case aO=>exact HR.out);(case aS=>exact below_size HB.out);(case aL=>have:=HL.out;simp;omega);intro v1 w2 ho hb hg hat;have HO1:=Aside0.mk ho;have I1:=Aside0.mk hb;have B2:=Aside0.mk (blk_below BL.out hb);have k1:=(blk_cell B2.out 1).trans rfl;clear ho hb hg hat))
 rw [rounds_succ]
 go_wp2_with ((with_reducible refine gate_builtin (b:=.append) (xs:=#[.tmp 31,.tmp 32]) rfl ?_);at_builtin;(refine Kd.R_append_rows k42 (w0:=w) w.heap.size rfl (.tmp 31) (.tmp 32) 26 42 (.agg #[(.string ⟨#[]⟩),(.string ⟨#[]⟩)]) 32 rfl Tryz.underlying26 info42 rfl (by decide) (by omega) v1 ([]++l0) l1 A1 l1.length c1 (fun _=>True) (fun _=>False) rfl rfl ?aO ?aR (fun _ _ h=>h) (fun _ h=>h.elim) ?aF ?aB ?aS ?aL ?_;(case aR=>exact Kd.C_below HB'.out I1.out);(case aB=>exact I1.out);(case aF=>exact fun _ _=>trivial);(case aO=>exact HO1.out);(case aS=>exact below_size I1.out);(case aL=>have:=HL.out;simp;omega);intro v2 w3 ho hb hg hat;have HO2:=Aside0.mk ho;have S4:=Aside0.mk hb;clear ho hb hg hat))
 rw [rounds_succ]
 go_wp2
 go_ret
 exact ⟨_,rfl,HO2.out,S4.out⟩

end Go.Proofs.YtmfaopjfdedheaaGreat.F
