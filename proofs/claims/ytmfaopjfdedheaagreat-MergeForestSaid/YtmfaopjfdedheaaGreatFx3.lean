-- PRINTED by print.py (a twelfth state) out of the translation. Not trusted: Lean checks it.
import Derived.Test.YtmfaopjfdedheaaGreatSv
import Derived.Test.YtmfaopjfdedheaaGreatSh
import Derived.Test.YtmfaopjfdedheaaGreatMv
import Derived.Test.YtmfaopjfdedheaaGreatFx0
import Derived.Test.YtmfaopjfdedheaaGreatFx2
namespace Go.Proofs.YtmfaopjfdedheaaGreat.F
open Go.RowKit Go.Proofs.YtmfaopjfdedheaaGreatW Go.Proofs.YtmfaopjfdedheaaGreatW.PrintWords Go.Proofs.YtmfaopjfdedheaaGreatW.PrintLast Go.Proofs.YtmfaopjfdedheaaGreatW.PrintMore
attribute [local go_sem] GpMore.bytes_le max2_int min2_int max_two min_two max_three min_three max_four min_four   -- for this text's walks alone
set_option linter.unusedVariables false
set_option linter.unusedSimpArgs false

/-! ### span_bounds_has: function 113 -/
def span_bounds_has.f (a6:ByteArray) (b0:ByteArray) (b5:Bool) (a1:ByteArray):Option (Bool):=if ((Op.bytesLess a1.toList a6.toList)=true) then (some false) else ((span_bounds_over.f a6 b0 b5 a1).bind fun cy7=>(some (!cy7)))
set_option maxHeartbeats 8000000 in
set_option maxRecDepth 100000 in
theorem span_bounds_has.calls (a6:ByteArray) (b0:ByteArray) (b5:Bool) (a1:ByteArray) (r:Bool) (w:World) (h:span_bounds_has.f a6 b0 b5 a1=some r):
  Calls Tryz.prog 113 #[.agg #[.string a6,.string b0,.bool b5],.string a1] w fun e w'=>e=.returned (.bool r)∧Below w.heap.size w w':=by
 (have hu154:=Tryz.underlying154);(have HB:=Aside0.mk (Below.refl w.heap.size w));(unfold span_bounds_has.f at h);(have H:=h);(clear h);(by_cases c3:((Op.bytesLess a1.toList a6.toList)=true))
 ·(rw [if_pos c3] at H);(have N6:(Op.bytesLess a1.toList a6.toList)=true:=c3);(clear c3);(obtain rfl:=Option.some.inj H);(go_enter Tryz.func113,Tryz.ntmps113);(go_wp2_with (first|((with_reducible refine gate_dst (N:=2) rfl ?_);refine bx (N:=2) (cs:=#[.string a6,.string b0,.bool b5]) (t:=154) ⟨mvW HB.out⟩ ?_;clear HB;intro ek1 hg w4 hb br2 cp6 HB;have ek2:=cp6;clear hb hg;have Z5:=b3 br2)));(go_ret);(exact ⟨rv,mvW HB.out⟩)
 ·(rw [if_neg c3] at H);(have N6:(Op.bytesLess a1.toList a6.toList)=false:=by simpa using c3);(clear c3);(replace H:=bs H);(obtain ⟨cy7,A6,H⟩:=H);(obtain rfl:=Option.some.inj H);(go_enter Tryz.func113,Tryz.ntmps113);(go_wp2_with (first|((with_reducible refine gate_dst (N:=2) rfl ?_);refine bx (N:=2) (cs:=#[.string a6,.string b0,.bool b5]) (t:=154) ⟨mvW HB.out⟩ ?_;clear HB;intro ek1 hg w7 hb br2 cp6 HB;have ek2:=cp6;clear hb hg;have Z8:=b3 br2)|(go_at_call 128;(with_reducible refine (span_bounds_over.calls a6 b0 b5 a1 cy7 _ A6.out).mono ?_);rintro e w9 ⟨rfl,hb⟩;replace br2:=bb br2 hb;replace HB:=sb HB hb)));(go_ret);(exact ⟨rv,mvW HB.out⟩)

/-! ### span_Has: function 101 -/
def span_Has.f (k:Nat) (a6:ByteArray) (b0:ByteArray) (b5:Bool) (a1:ByteArray):Option (Bool):=(span_Right.f k a6 b0 b5).bind fun dx3=>(if dx3=true then ((span_bounds_has.f a6 b0 b5 a1).bind fun cy8=>(some cy8)) else (some false))
set_option maxHeartbeats 8000000 in
set_option maxRecDepth 100000 in
theorem span_Has.calls (k:Nat) (a6:ByteArray) (b0:ByteArray) (b5:Bool) (a1:ByteArray) (r:Bool) (w:World) (h:span_Has.f k a6 b0 b5 a1=some r):
  Calls Tryz.prog 101 #[.agg #[.string a6,.string b0,.bool b5],.string a1] w fun e w'=>e=.returned (.bool r)∧Below w.heap.size w w':=by
 (have hu50:=Tryz.underlying50);(have HB:=Aside0.mk (Below.refl w.heap.size w));(unfold span_Has.f at h);(have H:=h);(clear h);(replace H:=bs H);(obtain ⟨dx3,A3,H⟩:=H);(replace H:=sB H);(rcases H with ⟨rfl,H⟩|⟨rfl,H⟩)
 ·(replace H:=bs H);(obtain ⟨cy8,A5,H⟩:=H);(obtain rfl:=Option.some.inj H);(go_enter Tryz.func101,Tryz.ntmps101);(go_wp2_with (first|((with_reducible refine gate_dst (N:=2) rfl ?_);refine bx (N:=2) (cs:=#[.string a6,.string b0,.bool b5]) (t:=50) ⟨mvW HB.out⟩ ?_;clear HB;intro ek3 hg w6 hb al1 cp7 HB;have ek4:=cp7;clear hb hg;have Z7:=b3 al1)|((with_reducible refine gate_callee (f:=64) rfl ?_);refine goesL_ (some 6) rfl rfl Tryz.func64 (by kernel_rfl) rfl #[.agg #[.string a6,.string b0,.bool b5]] rfl am ?_;(with_reducible refine (span_Right.calls k a6 b0 b5 true _ A3.out).mono ?_);rintro e w8 ⟨rfl,hb⟩;refine ⟨_,rfl,?_⟩;replace al1:=bb al1 hb;replace HB:=sb HB hb;clear hb;have Z9:=b3 al1)|(go_at_call 113;(with_reducible refine (span_bounds_has.calls a6 b0 b5 a1 cy8 _ A5.out).mono ?_);rintro e w10 ⟨rfl,hb⟩;replace al1:=bb al1 hb;replace HB:=sb HB hb)));(go_ret);(exact ⟨rv,mvW HB.out⟩)
 ·(obtain rfl:=Option.some.inj H);(go_enter Tryz.func101,Tryz.ntmps101);(go_wp2_with (first|((with_reducible refine gate_dst (N:=2) rfl ?_);refine bx (N:=2) (cs:=#[.string a6,.string b0,.bool b5]) (t:=50) ⟨mvW HB.out⟩ ?_;clear HB;intro ek3 hg w11 hb al1 cp7 HB;have ek4:=cp7;clear hb hg;have Z12:=b3 al1)|((with_reducible refine gate_callee (f:=64) rfl ?_);refine goesL_ (some 6) rfl rfl Tryz.func64 (by kernel_rfl) rfl #[.agg #[.string a6,.string b0,.bool b5]] rfl am ?_;(with_reducible refine (span_Right.calls k a6 b0 b5 false _ A3.out).mono ?_);rintro e w13 ⟨rfl,hb⟩;refine ⟨_,rfl,?_⟩;replace al1:=bb al1 hb;replace HB:=sb HB hb)));(go_ret);(exact ⟨rv,mvW HB.out⟩)

/-! ### cells_Part: function 70 -/
/-- Does a range (its bounds being right) have a key? -/
def inside (a b:ByteArray) (e:Bool) (key:ByteArray):Bool:= !Op.bytesLess key.toList a.toList && !(e && !Op.bytesLess key.toList b.toList)
theorem has_inside (k:Nat) (a b:ByteArray) (e:Bool) (key:ByteArray) (t:Bool) (h:span_Right.f k a b e=some t):span_Has.f k a b e key=some (t && inside a b e key):=by
 unfold span_Has.f span_bounds_has.f span_bounds_over.f inside
 rw [h]
 cases t
 ·rfl
 ·cases h1:Op.bytesLess key.toList a.toList <;> cases e <;> simp [h1]
def cells_Part.f (k:Nat) (l0:List S42) (f9:ByteArray) (i4:ByteArray) (i5:Bool):Option (List S42):=(cells_Right.f k l0).bind fun t=>if t=true then ((span_Right.f k f9 i4 i5).bind fun s=>if l0.length < 4398046511104 then some (l0.filter (fun y=>s && inside f9 i4 i5 y.f0)) else none) else some []
set_option maxHeartbeats 4000000 in
theorem cells_Part_clo_calls (k bx:Nat) (a b:ByteArray) (e:Bool) (t:Bool) (y:S42) (W:World) (ht:span_Right.f k a b e=some t) (h0:W.cell? ⟨bx,0,none⟩=some (.string a)) (h1:W.cell? ⟨bx,1,none⟩=some (.string b)) (h2:W.cell? ⟨bx,2,none⟩=some (.bool e)):
  Calls Tryz.prog 100 (#[.agg #[.string y.f0,.string y.f1]]++#[.pointer (some ⟨bx,0,none⟩)]) W fun e_ w'=>e_=.returned (.bool (t && inside a b e y.f0))∧Below W.heap.size W w':=by
 have hu:=Tryz.underlying42
 have hu2:=Tryz.underlying50
 have hlt:bx < W.heap.size:=World.block_lt_of_cell? W _ h0
 have hC:=span_Has.calls k a b e y.f0 _ (W.alloc (.cells #[.string y.f0,.string y.f1] 42)) (has_inside k a b e y.f0 t ht)
 have HB:=Aside0.mk (below_alloc (Below.refl W.heap.size W) (.cells #[.string y.f0,.string y.f1] 42))
 generalize (t && inside a b e y.f0)=q at hC ⊢
 go_enter Tryz.func100,Tryz.ntmps100
 go_wp2_with (go_at_call 101;refine hC.mono ?_;rintro e_ w1 ⟨rfl,hb⟩;have I1:=Aside0.mk (below_step HB.out hb);clear hb)
 go_ret
 exact ⟨rfl,I1.out⟩
set_option maxHeartbeats 4000000 in
set_option maxRecDepth 100000 in
theorem cells_Part.calls (k:Nat) (A0:Option Addr) (c0:Nat) (l0:List (S42)) (f9:ByteArray) (i4:ByteArray) (i5:Bool) (r:List (S42)) (w:World) (hr0:Kd.C k42 w A0 l0.length l0) (hc0:l0.length≤c0) (h:cells_Part.f k l0 f9 i4 i5=some r):
  Calls Tryz.prog 70 #[.slice A0 l0.length c0,.agg #[.string f9,.string i4,.bool i5]] w fun e w'=>∃ v0_:Value,e=.returned (v0_)∧Kd.R k42 42 w' w.heap.size (fun _=>True) v0_ r∧Below w.heap.size w w':=by
 obtain ⟨t,ht,h⟩:=Option.bind_eq_some_iff.1 h
 have hu2:=Tryz.underlying50
 have hB0:Below w.heap.size w (w.alloc (.cells #[.string f9,.string i4,.bool i5] 50)):=below_alloc (Below.refl _ _) _
 have hR:=cells_Right.calls k A0 c0 l0 t _ (Kd.C_below hr0 hB0) hc0 ht
 have T0:=Aside0.mk hB0
 clear hB0
 cases t
 ·rw [if_neg (by simp)] at h
  obtain rfl:=Option.some.inj h
  go_enter Tryz.func70,Tryz.ntmps70
  go_wp2_with (go_at_call 69;refine hR.mono ?_;rintro e w1 ⟨rfl,hb⟩;have HB:=Aside0.mk (below_step T0.out hb);clear hb)
  go_ret
  exact ⟨_,rfl,Kd.R_nil _ _ _ _ _,HB.out⟩
 ·rw [if_pos rfl] at h
  obtain ⟨s,hs,h⟩:=Option.bind_eq_some_iff.1 h
  have hlen:l0.length < 4398046511104:=by
   by_cases hl:l0.length < 4398046511104
   ·exact hl
   ·rw [if_neg hl] at h;cases h
  rw [if_pos hlen] at h
  obtain rfl:=Option.some.inj h
  have eg:∀ args w,(callFunc 100 args).run Tryz.prog w=.ok (.enter 100 args) w:=enters_of Tryz.func100 (by kernel_rfl) rfl
  have c0_:(w.alloc (.cells #[.string f9,.string i4,.bool i5] 50)).cell? ⟨w.heap.size,0,none⟩=some (.string f9):=(blk_cell (blk_new w _) 0).trans rfl
  have c1_:(w.alloc (.cells #[.string f9,.string i4,.bool i5] 50)).cell? ⟨w.heap.size,1,none⟩=some (.string i4):=(blk_cell (blk_new w _) 1).trans rfl
  have c2_:(w.alloc (.cells #[.string f9,.string i4,.bool i5] 50)).cell? ⟨w.heap.size,2,none⟩=some (.bool i5):=(blk_cell (blk_new w _) 2).trans rfl
  have hK:=fun (w1:World) (hb:Below (w.alloc (.cells #[.string f9,.string i4,.bool i5] 50)).heap.size (w.alloc (.cells #[.string f9,.string i4,.bool i5] 50)) w1)=>cells_Delete_kept_calls 100 #[.pointer (some ⟨w.heap.size,0,none⟩)] A0 c0 l0 (fun y=>s && inside f9 i4 i5 y.f0) w1 eg hlen (Kd.C_below (Kd.C_below hr0 T0.out) hb)
   (fun W y hB=>cells_Part_clo_calls k w.heap.size f9 i4 i5 s y W hs (pw_cell_below hB (pw_cell_below hb c0_)) (pw_cell_below hB (pw_cell_below hb c1_)) (pw_cell_below hB (pw_cell_below hb c2_)))
  have HK:=Aside0.mk hK
  clear hK c0_ c1_ c2_ hr0
  go_enter Tryz.func70,Tryz.ntmps70
  go_wp2_with (first|(go_at_call 69;refine hR.mono ?_;rintro e w1 ⟨rfl,hb⟩;have HBX:=Aside0.mk hb;have HB:=Aside0.mk (below_step T0.out hb);clear hb)|(go_at_call 89;refine (HK.out w1 HBX.out).mono ?_;rintro e w2 ⟨v,rfl,ho,hb⟩;have HO:=Aside0.mk ho;have S4:=Aside0.mk (below_step HB.out hb);have HZ:=Aside0.mk HB.out.size;clear ho hb))
  go_ret
  exact ⟨_,rfl,cells_base HO.out HZ.out,S4.out⟩

/-! ### page_leaf: function 72 -/
def page_leaf.l0:Nat→List (S42)→Int→Int→Option (Bool)
 |0,_,_,_=>none
 |k+1,x6,x7,x8=>if x8 < x7 then (if 0≤x8 then (if x8 < (x6.length:Int) then (if (((rd_T42 x6 x8).f0).size:Int) > 512 then (some false) else (page_leaf.l0 k x6 x7 (wrap64 (x8+1)))) else (none)) else (none)) else (some true)
def page_leaf.f (k:Nat) (a6:Int) (b0:Int) (b5:Int) (b9:ByteArray) (d1:ByteArray) (d2:Bool) (d3:Int) (d0:Int) (b7:List Int) (a8:List (S42)):Option (Bool):=page_leaf.l0 k a8 (a8.length:Int) 0
set_option maxHeartbeats 8000000 in
set_option maxRecDepth 100000 in
theorem page_leaf.calls (k:Nat) (a6:Int) (b0:Int) (b5:Int) (b9:ByteArray) (d1:ByteArray) (d2:Bool) (d3:Int) (d0:Int) (j6:Option Addr) (j7:Nat) (b7:List Int) (l5:Option Addr) (j8:Nat) (a8:List (S42)) (r:Bool) (w:World) (y4:Kd.C (Kd.int .u64) w j6 b7.length b7) (C1:b7.length≤j7) (s9:Kd.C k42 w l5 a8.length a8) (u7:a8.length≤j8) (h:page_leaf.f k a6 b0 b5 b9 d1 d2 d3 d0 b7 a8=some r):
  Calls Tryz.prog 72 #[.agg #[.int .u64 a6,.int .u64 b0,.int .u8 b5,.string b9,.string d1,.bool d2,.int .u64 d3,.int .u64 d0,.slice j6 b7.length j7,.slice l5 a8.length j8]] w fun e w'=>e=.returned (.bool r)∧Below w.heap.size w w':=by
 (have hu28:=Tryz.underlying28);(have hu42:=Tryz.underlying42);(have t1:=Aside0.mk y4);(have t2:=Aside0.mk C1);(clear y4 C1);(have o1:=Aside0.mk s9);(have s3:=Aside0.mk u7);(clear s9 u7);(have HB:=Aside0.mk (Below.refl w.heap.size w));(unfold page_leaf.f at h);(have H:=h);(clear h);(have H':=Aside0.mk H);(clear H);(go_enter Tryz.func72,Tryz.ntmps72);(go_wp2_with (first|((with_reducible refine gate_dst (N:=1) rfl ?_);refine bx (N:=1) (cs:=#[.int .u64 a6,.int .u64 b0,.int .u8 b5,.string b9,.string d1,.bool d2,.int .u64 d3,.int .u64 d0,.slice j6 b7.length j7,.slice l5 a8.length j8]) (t:=28) ⟨mvW HB.out⟩ ?_;clear HB;intro ek5 hg w2 hb ab0 ek6 HB;have fu1:=ek6;clear hb hg;have Z3:=b10 ab0)));(go_loopg [8] k (fun kq v8 w'=>∃ (o7:Int),v8=.int .i64 o7∧Aside0 (page_leaf.l0 kq a8 (a8.length:Int) o7=some r)∧Aside0 (kq≤k)∧Aside0 (w'.heap[ek5]? =some (.cells #[.int .u64 a6,.int .u64 b0,.int .u8 b5,.string b9,.string d1,.bool d2,.int .u64 d3,.int .u64 d0,(.slice j6 b7.length j7),(.slice l5 a8.length j8)] 28 (0,0)))∧Aside0 (Below w.heap.size w w')))
 case atStart=>exact ⟨(0),sd,H',⟨Nat.le_refl _⟩,⟨mvB ab0.out⟩,⟨mvW HB.out⟩⟩
 case round=>
  (clear H');(obtain ⟨o7,rfl,HA,l7,ab0,HB⟩:=hrel)
  cases gk with
  |zero=>exact absurd HA.out (by simp [page_leaf.l0])
  |succ k1=>
   (have H:=HA.out);(clear HA);(simp only [page_leaf.l0] at H);(replace H:=sp H);(rcases H with ⟨p2,H⟩|⟨p2,H⟩)
   ·(replace H:=gd H);(obtain ⟨S1,H⟩:=H);(replace H:=gd H);(obtain ⟨J0,H⟩:=H);(by_cases c7:(((rd_T42 a8 o7).f0).size:Int) > 512)
    ·(rw [if_pos c7] at H);(have T6:decide (512 < (((rd_T42 a8 o7).f0).size:Int))=true:=decide_eq_true c7);(have cc0:decide (512 < ((rd_T42 a8 o7).f0).size)=true:=decide_eq_true (by omega));(clear c7);(obtain rfl:=Option.some.inj H);(obtain ⟨ad122,e122,hw122,hx122,pq122⟩:=rd42 HB o1 o7);(cases e122);(go_wp2_with (first|((with_reducible refine gate_dst (N:=4) rfl ?_);refine bx (N:=4) (cs:=#[.string (⟨#[]⟩:ByteArray),.string (⟨#[]⟩:ByteArray)]) (t:=42) ⟨mvW HB.out⟩ ?_;clear HB;intro ek7 hg w8 hb cp8 cp9 HB;have ek8:=cp9;have bc7:=nbl hg ab0;have bc8:=nbg hg ab0;replace ab0:=bb ab0 hb;clear hb hg;have gc9:=bc8.out;have hnc9:=bc7.out;have Z10:=b2 cp8)));(go_ret);(exact ⟨rv,mvW HB.out⟩)
    ·(rw [if_neg c7] at H);(have T6:decide (512 < (((rd_T42 a8 o7).f0).size:Int))=false:=decide_eq_false c7);(have cc0:decide (512 < ((rd_T42 a8 o7).f0).size)=false:=decide_eq_false (by omega));(clear c7);(have H':=Aside0.mk H);(clear H);(obtain ⟨ad122,e122,hw122,hx122,pq122⟩:=rd42 HB o1 o7);(cases e122);(go_wp2_with (first|((with_reducible refine gate_dst (N:=4) rfl ?_);refine bx (N:=4) (cs:=#[.string (⟨#[]⟩:ByteArray),.string (⟨#[]⟩:ByteArray)]) (t:=42) ⟨mvW HB.out⟩ ?_;clear HB;intro ek7 hg w11 hb cp8 cp9 HB;have ek8:=cp9;have bc7:=nbl hg ab0;have bc8:=nbg hg ab0;replace ab0:=bb ab0 hb;clear hb hg;have ed1:=bc8.out;have hnc12:=bc7.out;have Z13:=b2 cp8)));(go_roundg k1)
     case measure=>have:=l7.out;omega
     case rel=>exact ⟨(wrap64 (o7+1)),sd,H',⟨by have:=l7.out;omega⟩,⟨mvB ab0.out⟩,⟨mvW HB.out⟩⟩
   ·(obtain rfl:=Option.some.inj H);(go_wp2);(go_ret);(exact ⟨rv,mvW HB.out⟩)

/-! ### octet_wide: function 96 -/
def octet_wide.l0:Nat→Int→Int→Int→Option (Bool)
 |0,_,_,_=>none
 |k+1,x0,x1,x5=>if x5≤x1 then (if x5=x0 then (some true) else (octet_wide.l0 k x0 x1 (wrap64 (x5 * 2)))) else (some false)
def octet_wide.f (k:Nat) (a0:Int) (a1:Int):Option (Bool):=octet_wide.l0 k a0 a1 1
theorem octet_wide.mono_l:∀ k,(∀ y0 y1 y2,LeO (octet_wide.l0 k y0 y1 y2) (octet_wide.l0 (k+1) y0 y1 y2))
 |0=>fun _ _ _ r h=>by simp [octet_wide.l0] at h
 |k+1=>by
  have ih0:=octet_wide.mono_l k
  ·intro y0 y1 y2
   unfold octet_wide.l0
   repeat' first
   |(with_reducible exact ih0 _ _ _)
   |(with_reducible exact LeO.refl _)
   |(with_reducible exact LeO.none _)
   |(with_reducible refine LeO.ite ?_ ?_)
   |(with_reducible refine LeO.bind ?_ (fun _=>?_))
   |exact ih0 _ _ _
   |exact LeO.none _
   |refine LeO.ite ?_ ?_
   |refine LeO.bind ?_ (fun _=>?_)
theorem octet_wide.mono:∀ a0 a1 k,LeO (octet_wide.f k a0 a1) (octet_wide.f (k+1) a0 a1):=by
 intro a0 a1 k
 have ih0:=octet_wide.mono_l k
 unfold octet_wide.f
 repeat' first
   |(with_reducible exact ih0 _ _ _)
   |(with_reducible exact LeO.refl _)
   |(with_reducible exact LeO.none _)
   |(with_reducible refine LeO.ite ?_ ?_)
   |(with_reducible refine LeO.bind ?_ (fun _=>?_))
   |exact ih0 _ _ _
   |exact LeO.none _
   |refine LeO.ite ?_ ?_
   |refine LeO.bind ?_ (fun _=>?_)
set_option maxHeartbeats 8000000 in
set_option maxRecDepth 100000 in
theorem octet_wide.calls (k:Nat) (a0:Int) (a1:Int) (r:Bool) (w:World) (h:octet_wide.f k a0 a1=some r):
  Calls Tryz.prog 96 #[.int .i64 a0,.int .i64 a1] w fun e w'=>e=.returned (.bool r)∧Drawn0 w w':=by
 (unfold octet_wide.f at h);(have H:=h);(clear h);(have H':=Aside0.mk H);(clear H);(go_enter Tryz.func96,Tryz.ntmps96);(go_wp2);(go_loopg [5] k (fun kq v5 w'=>∃ (k7:Int),v5=.int .i64 k7∧Aside0 (octet_wide.l0 kq a0 a1 k7=some r)∧Aside0 (kq≤k)∧Drawn0 w w'))
 case atStart=>exact ⟨(1),sd,H',⟨Nat.le_refl _⟩,by repeat (first|exact Drawn0.refl _ |apply Drawn0.step)⟩
 case round=>
  (clear H');(obtain ⟨k7,rfl,HA,l7,⟨m1,rfl⟩⟩:=hrel)
  cases gk with
  |zero=>exact absurd HA.out (by simp [octet_wide.l0])
  |succ k1=>
   (have H:=HA.out);(clear HA);(simp only [octet_wide.l0] at H);(replace H:=sp H);(rcases H with ⟨N6,H⟩|⟨N6,H⟩)
   ·(by_cases c4:k7=a0)
    ·(rw [if_pos c4] at H);(have p2:(k7==a0)=true:=beq_iff_eq.mpr c4);(have ao5:(k7 != a0)=false:=bne_eq_false_iff_eq.mpr c4);(clear c4);(obtain rfl:=Option.some.inj H);(go_wp2);(go_ret);(exact ⟨by first|rfl|(simp;done)|(simp [*];done),by repeat (first|exact Drawn0.refl _ |apply Drawn0.step)⟩)
    ·(rw [if_neg c4] at H);(have p2:(k7==a0)=false:=beq_eq_false_iff_ne.mpr c4);(have ao5:(k7 != a0)=true:=bne_iff_ne.mpr c4);(have H':=Aside0.mk H);(clear H);(go_wp2);(go_roundg k1)
     case measure=>have:=l7.out;omega
     case rel=>exact ⟨(wrap64 (k7 * 2)),sd,H',⟨by have:=l7.out;omega⟩,by repeat (first|exact Drawn0.refl _ |apply Drawn0.step)⟩
   ·(obtain rfl:=Option.some.inj H);(go_wp2);(go_ret);(exact ⟨by first|rfl|(simp;done)|(simp [*];done),by repeat (first|exact Drawn0.refl _ |apply Drawn0.step)⟩)

/-! ### octet_grown: function 97 -/
def octet_grown.f (l0:List Int) (a1:Int):Option (List Int):=if 0≤a1 then (if l0.length+a1.toNat < 140737488355328 then some (l0++List.replicate a1.toNat 0) else none) else none
set_option maxHeartbeats 4000000 in
set_option maxRecDepth 100000 in
theorem octet_grown.calls (A0:Option Addr) (c0:Nat) (l0:List Int) (a1:Int) (r:List Int) (w:World) (hr0:Kd.C (Kd.int .u8) w A0 l0.length l0) (hc0:l0.length≤c0) (h:octet_grown.f l0 a1=some r):
  Calls Tryz.prog 97 #[.slice A0 l0.length c0,.int .i64 a1] w fun e w'=>∃ v0_:Value,e=.returned (v0_)∧Kd.R (Kd.int .u8) 5 w' w.heap.size (fun _=>True) v0_ r∧Below w.heap.size w w':=by
 unfold octet_grown.f at h
 by_cases h0:0≤a1
 ·rw [if_pos h0] at h
  by_cases hl:l0.length+a1.toNat < 140737488355328
  ·rw [if_pos hl] at h
   obtain rfl:=Option.some.inj h
   clear h
   have H0:=Aside0.mk h0
   have HL:=Aside0.mk hl
   have HR:=Aside0.mk hr0
   clear h0 hl hr0
   have hw:wrap64 ((l0.length:Int)+a1)=(l0.length:Int)+a1:=by have:=HL.out;have:=H0.out;unfold wrap64;omega
   go_enter Tryz.func97,Tryz.ntmps97
   go_wp2_with (first|((with_reducible refine gate_dst (N:=10) rfl ?_);refine Kd.R_make (Kd.int .u8) (w0:=w) w.heap.size 5 rfl (N:=10) rfl 109 _ _ rfl (wrap64 ((l0.length:Int)+a1)) rfl rfl Tryz.underlying109 (.int .u8 0) 1 info5 rfl (by decide) (by omega) 0 (ok:=fun _=>True) (okp:=fun _=>True) rfl (fun _ h=>h) trivial (by rw [hw];have:=H0.out;omega) (by rw [hw];have:=HL.out;have:=H0.out;omega) (Below.refl _ _) (Nat.le_refl _) ?_;rw [hw];intro v5 w5 ho5 hb5 hg_ hnew_;clear hg_ hnew_;have HO:=Aside0.mk ho5;have HB:=Aside0.mk hb5;clear ho5 hb5)|((with_reducible refine gate_dst (N:=13) rfl ?_);refine GpMore.R_copy (fun x:Int=>.int .u8 x) (h1:=fun _=>rfl) (w0:=w) w.heap.size rfl (.tmp 11) (.tmp 12) 109 109 5 rfl Tryz.underlying109 (by kernel_rfl) (ok:=fun _=>True) v5 (List.replicate ((l0.length:Int)+a1).toNat (0:Int)) l0 A0 l0.length c0 rfl rfl ?aO ?aR ?aL HB.out ?_;(case aO=>exact HO.out);(case aR=>exact Kd.C_below HR.out HB.out);(case aL=>rw [List.length_replicate];have:=H0.out;omega);intro w6 ho6 hb6;have HO6:=Aside0.mk ho6;have HB6:=Aside0.mk hb6;clear ho6 hb6))
   go_ret
   refine ⟨_,rfl,?_,HB6.out⟩
   have e1:(l0++(List.replicate ((l0.length:Int)+a1).toNat (0:Int)).drop l0.length)=l0++List.replicate a1.toNat 0:=by
    have:=H0.out
    rw [List.drop_replicate];congr 2;omega
   rw [← e1];exact HO6.out
  ·rw [if_neg hl] at h;cases h
 ·rw [if_neg h0] at h;cases h

/-! ### octet_lay: function 98 -/
def octet_lay.l0:Nat→List Int→Int→Int→Int→Option (List Int)
 |0,_,_,_,_=>none
 |k+1,x0,x1,x7,x8=>if x8 < x7 then (if 0≤(wrap64 (8 * x8)) then (if 0≤(wrap64 ((wrap64 ((x0.length:Int) - 1)) - x8)) then (if (wrap64 ((wrap64 ((x0.length:Int) - 1)) - x8)) < (x0.length:Int) then (octet_lay.l0 k (x0.set ((wrap64 ((wrap64 ((x0.length:Int) - 1)) - x8)):Int).toNat ((shr .u64 x1 (wrap64 (8 * x8))) % 256)) x1 x7 (wrap64 (x8+1))) else (none)) else (none)) else (none)) else (some x0)
def octet_lay.f (k:Nat) (l0:List Int) (a1:Int) (a2:Int):Option (List Int):=octet_lay.l0 k l0 a1 a2 0
set_option maxHeartbeats 8000000 in
set_option maxRecDepth 100000 in
theorem octet_lay.calls (k:Nat) (P0_:Nat→Prop) (u9000_:Value) (l0:List Int) (a1:Int) (a2:Int) (r:List Int) (w0 w:World) (hB:Below w0.heap.size w0 w) (i3:Kd.R (Kd.int .u8) 5 w w0.heap.size P0_ u9000_ l0) (h:octet_lay.f k l0 a1 a2=some r):
  Calls Tryz.prog 98 #[u9000_,.int .u64 a1,.int .i64 a2] w fun e w'=>e=.returned (.tuple #[])∧Kd.R (Kd.int .u8) 5 w' w0.heap.size (fun k_=>(P0_ k_∨w.heap.size≤k_)) u9000_ r∧Below w0.heap.size w0 w'∧Kept w w' (fun k_=>P0_ k_):=by
 (have X4:=Aside0.mk (show Kd.R (Kd.int .u8) 5 w w0.heap.size (fun k_=>(P0_ k_∨w.heap.size≤k_)) u9000_ l0 from Kd.R_mono i3 (fun k_ hk=>(.inl hk))));(have HK:=Aside0.mk (Kept.refl w (fun k_=>P0_ k_)));(have HW0:=Aside0.mk hB.size);(have HB:=Aside0.mk hB);(clear hB);(unfold octet_lay.f at h);(have H:=h);(clear h);(have H':=Aside0.mk H);(clear H);(go_enter Tryz.func98,Tryz.ntmps98);(go_wp2);(go_loopg [8] k (fun kq v8 w'=>∃ (bc9:List Int) (o7:Int),v8=.int .i64 o7∧Aside0 (octet_lay.l0 kq bc9 a1 a2 o7=some r)∧Aside0 (kq≤k)∧Aside0 (Kd.R (Kd.int .u8) 5 w' w0.heap.size (fun k_=>(P0_ k_∨w.heap.size≤k_)) u9000_ bc9)∧Aside0 (Kept w w' (fun k_=>P0_ k_))∧Aside0 (Below w0.heap.size w0 w')))
 case atStart=>exact ⟨(l0),(0),sd,H',⟨Nat.le_refl _⟩,⟨mvR X4.out⟩,⟨by repeat (first|(with_reducible first|exact HK.out|apply Kept.alloc|apply Kept.drewN|apply Kept.drew)|exact HK.out)⟩,⟨mvW HB.out⟩⟩
 case round=>
  (clear H');(obtain ⟨bc9,o7,rfl,HA,l7,HO_0,HK,HB⟩:=hrel)
  cases gk with
  |zero=>exact absurd HA.out (by simp [octet_lay.l0])
  |succ k1=>
   (have H:=HA.out);(clear HA);(simp only [octet_lay.l0] at H);(replace H:=sp H);(rcases H with ⟨p2,H⟩|⟨p2,H⟩)
   ·(obtain ⟨ji5,hji5⟩:∃ j_:Int,(wrap64 (8 * o7))=j_:=⟨_,rfl⟩);(first|rw [hji5] at H|simp only [hji5] at H);(have hji5w:(IntKind.i64.wrap (8 * o7))=ji5:=(i64_w _).trans hji5);(by_cases c6:0≤(ji5))
    ·(rw [if_pos c6] at H);(have J0:=eq_true c6);(have az6:=decide_eq_true c6);(clear c6);(obtain ⟨ji7,hji7⟩:∃ j_:Int,(shr .u64 a1 (ji5))=j_:=⟨_,rfl⟩);(first|rw [hji7] at H|simp only [hji7] at H);(have hji7_:(a1 / 2 ^ min (ji5).toNat 64)=ji7:=hji7);(have hji7z:(ji5)≤64→(a1 / 2 ^ (ji5).toNat)=ji7:=shr_small hji7);(obtain ⟨ji8,hji8⟩:∃ j_:Int,(wrap64 ((wrap64 ((bc9.length:Int) - 1)) - o7))=j_:=⟨_,rfl⟩);(first|rw [hji8] at H|simp only [hji8] at H);(have hji8w:(IntKind.i64.wrap ((wrap64 ((bc9.length:Int) - 1)) - o7))=ji8:=(i64_w _).trans hji8);(replace H:=gd H);(obtain ⟨W9,H⟩:=H);(replace H:=gd H);(obtain ⟨Q7,H⟩:=H);(obtain ⟨y124,hy124⟩:∃ y_:List Int,y_=(bc9.set ((ji8):Int).toNat ((ji7) % 256)):=⟨_,rfl⟩);(replace H:(octet_lay.l0 k1 y124 a1 a2 (wrap64 (o7+1)))=some r:=by first|(rw [hy124];with_reducible exact H)|(have H2_:=(Option.bind_some _ _).symm.trans H;rw [hy124];with_reducible exact H2_)|(have H2_:=(Option.bind_some _ _).symm.trans H;with_reducible exact H2_)|with_reducible exact H|(rw [hy124];exact H)|exact H);(have Ny124:=Aside0.mk hy124);(clear hy124);(have H':=Aside0.mk H);(clear H);(obtain ⟨gd0,eu2,eo12⟩:=Kd.R_slice HO_0.out);(subst eo12);(have p11:0≤((ji8):Int):=od);(have q11:((ji8):Int) < ((bc9.length:Int):Int):=od);(obtain ⟨go11,ca5,eo11,dx7,gl11,cl11,dx8⟩:=Kd.R_form HO_0.out (by omega));((first|cases eo11|(injection eo11 with ea_ en_ ec_;(first|subst ea_|(injection ea_ with ea_;subst ea_));subst ec_;clear en_)));(have GB11:=Aside0.mk dx7);(have GG11:=Aside0.mk dx8);(clear dx7 gl11 dx8);(have HMgo11:=Aside0.mk (show (P0_ go11∨w.heap.size≤go11) from (HO_0.out.1 _ rfl)));(obtain ⟨fj4,hf11_0⟩:=Kd.R_celln 0 HO_0.out ((ji8):Int) p11 q11);(replace p11:=eq_true p11);(replace q11:=eq_true q11);(have cy9:=Kd.R_putg HO_0.out ((ji8):Int) ((ji7) % 256));(go_wp2_with (first|((with_reducible refine gate_store (t:=5) (p:=22) rfl ?_);refine store_event (t:=5) (p:=22) (v:=?vo_w14) (w1:=(wr.setCell ⟨go11,((ji8):Int).toNat,none⟩ (.int .u8 ((ji7) % 256)))) ?hg ?ho ?hn ?hr ?_;(case ho=>rfl);(case hg=>rfl);(case hn=>rfl);(case hr=>first|(go_simp;done)|(go_simp;rfl));intro w14 hw;have hg:wr.grownBy w14 (some go11):=(by rw [hw];exact cy9.2);have hp_:Kd.R (Kd.int .u8) 5 w14 w0.heap.size (fun k_=>(P0_ k_∨w.heap.size≤k_)) (.slice (some ⟨go11,0,none⟩) bc9.length eu2) y124:=(by rw [hw,Ny124.out];exact cy9.1);clear cy9;replace HB:=Aside0.mk ((by rw [hw];exact below_set (HB.out) GB11.out:Below w0.heap.size w0 w14));replace HK:=Aside0.mk (Kept.of_grown (S:=(fun k_=>P0_ k_)) hg (by repeat (first|(with_reducible first|exact HK.out|apply Kept.alloc|apply Kept.drewN|apply Kept.drew)|exact HK.out)) (fun k_ e_=>(HO_0.out.1 k_ e_)));replace HO_0:=Aside0.mk (hp_);clear hg hw hp_)));(go_roundg k1)
     case measure=>have:=l7.out;omega
     case rel=>exact ⟨(y124),(wrap64 (o7+1)),sd,H',⟨by have:=l7.out;omega⟩,⟨mvR HO_0.out⟩,⟨by repeat (first|(with_reducible first|exact HK.out|apply Kept.alloc|apply Kept.drewN|apply Kept.drew)|exact HK.out)⟩,⟨mvW HB.out⟩⟩
    ·(rw [if_neg c6] at H);(exact absurd H (by simp))
   ·(obtain rfl:=Option.some.inj H);(go_wp2);(first|go_end0|((try simp only [Exit.inBlock,Exit.then]);refine bodyPost_ret (results_none rfl _ _ _) rfl ?_));(exact ⟨rv,mvR HO_0.out,mvW HB.out,by repeat (first|(with_reducible first|exact HK.out|apply Kept.alloc|apply Kept.drewN|apply Kept.drew)|exact HK.out)⟩)

/-! ### octet_Put: function 60 -/
def octet_Put.f (k:Nat) (l0:List Int) (a1:Int) (a2:Int):Option (List Int):=(octet_wide.f k a2 8).bind fun dx9=>(if dx9=true then ((octet_grown.f l0 a2).bind fun bm3=>((octet_lay.f k bm3 a1 a2).bind fun cz0=>(some cz0))) else ((octet_grown.f l0 0).bind fun cz1=>(some cz1)))
set_option maxHeartbeats 8000000 in
set_option maxRecDepth 100000 in
theorem octet_Put.calls (k:Nat) (A0:Option Addr) (c0:Nat) (l0:List Int) (a1:Int) (a2:Int) (r:List Int) (w:World) (hr0:Kd.C (Kd.int .u8) w A0 l0.length l0) (hc0:l0.length≤c0) (h:octet_Put.f k l0 a1 a2=some r):
  Calls Tryz.prog 60 #[.slice A0 l0.length c0,.int .u64 a1,.int .i64 a2] w fun e w'=>∃ v0_:Value,e=.returned (v0_)∧Kd.R (Kd.int .u8) 5 w' w.heap.size (fun _=>True) v0_ r∧Below w.heap.size w w':=by
 (have m9:=Aside0.mk hr0);(have D6:=Aside0.mk hc0);(clear hr0 hc0);(have HB:=Aside0.mk (Below.refl w.heap.size w));(unfold octet_Put.f at h);(have H:=h);(clear h);(replace H:=bs H);(obtain ⟨dx9,A4,H⟩:=H);(replace H:=sB H);(rcases H with ⟨rfl,H⟩|⟨rfl,H⟩)
 ·(replace H:=bs H);(obtain ⟨bm3,A6,H⟩:=H);(replace H:=bs H);(obtain ⟨cz0,A7,H⟩:=H);(obtain rfl:=Option.some.inj H);(go_enter Tryz.func60,Tryz.ntmps60);(go_wp2_with (first|((with_reducible refine gate_callee (f:=96) rfl ?_);refine goesL_ (some 9) rfl rfl Tryz.func96 (by kernel_rfl) rfl #[.int .i64 a2,.int .i64 8] rfl am ?_;(with_reducible refine (octet_wide.calls k a2 8 true _ A4.out).mono ?_);rintro e w' ⟨rfl,⟨nd,rfl⟩⟩;refine ⟨_,rfl,?_⟩)|((with_reducible refine gate_callee (f:=97) rfl ?_);refine goesL_ (some 15) rfl rfl Tryz.func97 (by kernel_rfl) rfl #[.slice A0 l0.length c0,.int .i64 a2] rfl am ?_;(with_reducible refine (octet_grown.calls _ _ l0 a2 bm3 _ ?_ ?_ A6.out).mono ?_);(exact mvC m9.out);(exact D6.out);rintro e w8 ⟨gd1,rfl,i3,hb⟩;refine ⟨_,rfl,?_⟩;have br4:=Aside0.mk (Kd.R_lower i3 (below_size (mvW HB.out)));replace HB:=sb HB hb;clear hb i3;obtain ⟨M1,M2,eo9⟩:=Kd.R_slice br4.out;subst eo9)|((with_reducible refine gate_callee (f:=98) rfl ?_);refine goesL_ (some 19) rfl rfl Tryz.func98 (by kernel_rfl) rfl #[.slice M1 bm3.length M2,.int .u64 a1,.int .i64 a2] rfl am ?_;(with_reducible refine (octet_lay.calls k (fun k_=>some k_=(.slice M1 bm3.length M2:Value).ownBlock) (.slice M1 bm3.length M2) bm3 a1 a2 cz0 w _ ?_ ?_ A7.out).mono ?_);(repeat (first|(with_reducible first|exact HB.out|apply below_alloc|apply pw_below_drewN|apply below_drew1)|exact HB.out));(exact Kd.R_tight rfl br4.out);rintro e w10 ⟨rfl,hy0,hb,hkp⟩;refine ⟨_,rfl,?_⟩;replace br4:=Aside0.mk (Kd.R_reok rfl hy0 (fun k_ e_=>br4.out.1 k_ e_));replace HB:=Aside0.mk (hb);(try clear hkp);(try clear hy0))));(go_ret);(exact ⟨_,rv,mvR br4.out,mvW HB.out⟩)
 ·(replace H:=bs H);(obtain ⟨cz1,A11,H⟩:=H);(obtain rfl:=Option.some.inj H);(go_enter Tryz.func60,Tryz.ntmps60);(go_wp2_with (first|((with_reducible refine gate_callee (f:=96) rfl ?_);refine goesL_ (some 9) rfl rfl Tryz.func96 (by kernel_rfl) rfl #[.int .i64 a2,.int .i64 8] rfl am ?_;(with_reducible refine (octet_wide.calls k a2 8 false _ A4.out).mono ?_);rintro e w' ⟨rfl,⟨nd,rfl⟩⟩;refine ⟨_,rfl,?_⟩)|((with_reducible refine gate_callee (f:=97) rfl ?_);refine goesL_ (some 12) rfl rfl Tryz.func97 (by kernel_rfl) rfl #[.slice A0 l0.length c0,.int .i64 0] rfl am ?_;(with_reducible refine (octet_grown.calls _ _ l0 0 cz1 _ ?_ ?_ A11.out).mono ?_);(exact mvC m9.out);(exact D6.out);rintro e w12 ⟨gd2,rfl,i3,hb⟩;refine ⟨_,rfl,?_⟩;have ek9:=Aside0.mk (Kd.R_lower i3 (below_size (mvW HB.out)));replace HB:=sb HB hb)));(go_ret);(exact ⟨_,rv,mvR ek9.out,mvW HB.out⟩)

/-! ### page_Kid: function 33 -/
def page_Kid.f (k:Nat) (a0:Int):Option (ByteArray×Int):=if a0 < 1 then (some ((⟨#[]⟩:ByteArray),110)) else (if a0 > 400 then (some ((⟨#[]⟩:ByteArray),110)) else ((octet_Put.f k ([]:List Int) a0 8).bind fun cz2=>(some (strOfNums cz2,0))))
set_option maxHeartbeats 8000000 in
set_option maxRecDepth 100000 in
theorem page_Kid.calls (k:Nat) (a0:Int) (r1:ByteArray) (r2:Int) (w:World) (h:page_Kid.f k a0=some (r1,r2)):
  Calls Tryz.prog 33 #[.int .u64 a0] w fun e w'=>e=.returned (.tuple #[.string r1,.int .i64 r2])∧Below w.heap.size w w':=by
 (have HB:=Aside0.mk (Below.refl w.heap.size w));(unfold page_Kid.f at h);(have H:=h);(clear h);(replace H:=sp H);(rcases H with ⟨X3,H⟩|⟨X3,H⟩)
 ·(simp only [Option.some.injEq,Prod.mk.injEq] at H);(obtain ⟨rfl,rfl⟩:=H);(go_enter Tryz.func33,Tryz.ntmps33);(go_wp2);(go_ret2);(exact ⟨rv,mvW HB.out⟩)
 ·(replace H:=spg H);(rcases H with ⟨N6,H⟩|⟨N6,H⟩)
  ·(simp only [Option.some.injEq,Prod.mk.injEq] at H);(obtain ⟨rfl,rfl⟩:=H);(go_enter Tryz.func33,Tryz.ntmps33);(go_wp2);(go_ret2);(exact ⟨rv,mvW HB.out⟩)
  ·(replace H:=bs H);(obtain ⟨cz2,A4,H⟩:=H);(simp only [Option.some.injEq,Prod.mk.injEq] at H);(obtain ⟨rfl,rfl⟩:=H);(go_enter Tryz.func33,Tryz.ntmps33);(go_wp2_with (first|((with_reducible refine gate_callee (f:=60) rfl ?_);refine goesL_ (some 11) rfl rfl Tryz.func60 (by kernel_rfl) rfl #[.slice none 0 0,.int .u64 a0,.int .i64 8] rfl am ?_;(refine (octet_Put.calls k _ _ ([]:List Int) a0 8 cz2 _ ?_ ?_ A4.out).mono ?_);(exact Kd.C_nil _ _);(exact Nat.le_refl _);rintro e w5 ⟨gd3,rfl,i3,hb⟩;refine ⟨_,rfl,?_⟩;have el0:=Aside0.mk (Kd.R_lower i3 (below_size (mvW HB.out)));replace HB:=sb HB hb;clear hb i3;have hcv6:=own_string (P:=Tryz.prog) Tryz.underlying109 Tryz.underlying5 Tryz.underlying9 (Kd.own_of_R el0.out))));(go_ret2);(exact ⟨rv,mvW HB.out⟩)

/-! ### page_Id: function 48 -/
/-- Nothing but block g changes. -/
structure KB (w w':World) (g:Nat):Prop where
 keep:KeepBut w w' g none
 os:w'.os=w.os
 tape:w'.tape=w.tape
 output:w'.output=w.output
set_option maxHeartbeats 4000000 in
set_option maxRecDepth 100000 in
theorem KB.refl (w:World) (g:Nat):KB w w g:=⟨KeepBut.refl _ _ _,rfl,rfl,rfl⟩
set_option maxHeartbeats 4000000 in
set_option maxRecDepth 100000 in
theorem KB.of_below {w w1:World} (h:Below w.heap.size w w1) (g:Nat):KB w w1 g:=⟨KeepBut.of_below h g none,h.os,h.tape,h.output⟩
set_option maxHeartbeats 4000000 in
set_option maxRecDepth 100000 in
theorem KB.set_ {w w1:World} {g:Nat} (h:KB w w1 g) (j:Nat) (u:Value):KB w (w1.setCell ⟨g,j,none⟩ u) g:=⟨KeepBut.set_ h.keep j u,h.os,h.tape,h.output⟩
set_option maxHeartbeats 4000000 in
set_option maxRecDepth 100000 in
theorem KB.drew {w w1:World} {g:Nat} (h:KB w w1 g):KB w w1.drew g:=⟨keep_drew h.keep,h.os,h.tape,h.output⟩
set_option maxHeartbeats 4000000 in
set_option maxRecDepth 100000 in
theorem KB.far {w W:World} {g:Nat} (h:KB w W g) {p:Addr} (hp:w.heap.size≤p.block) (u:Value):KB w (W.setCell p u) g:=⟨keep_far h.keep hp u,h.os,h.tape,h.output⟩
set_option maxHeartbeats 4000000 in
set_option maxRecDepth 100000 in
theorem KB.blk {w w1:World} {g g':Nat} {o:Obj} (h:KB w w1 g) (hb:w.heap[g']? =some o) (hg:g'≠g):w1.heap[g']? =some o:=h.keep.blk hb hg (by simp)
set_option maxHeartbeats 4000000 in
set_option maxRecDepth 100000 in
theorem KB.comp {W w1 w2:World} {g:Nat} (hb:Below W.heap.size W w1) (h:KB w1 w2 g):KB W w2 g:=
 ⟨⟨Nat.le_trans hb.size h.keep.1,fun i hi hg hr=>(h.keep.2 i (Nat.lt_of_lt_of_le hi hb.size) hg hr).trans (hb.block i hi)⟩,h.os.trans hb.os,h.tape.trans hb.tape,h.output.trans hb.output⟩
set_option maxHeartbeats 4000000 in
set_option maxRecDepth 100000 in
theorem KB.comp2 {W w1 w2:World} {g g2:Nat} (h1:KB W w1 g) (h2:KB w1 w2 g2) (hg:W.heap.size≤g2):KB W w2 g:=
 ⟨⟨Nat.le_trans h1.keep.1 h2.keep.1,fun i hi hg' hr=>(h2.keep.2 i (Nat.lt_of_lt_of_le hi h1.keep.1) (by omega) hr).trans (h1.keep.2 i hi hg' hr)⟩,h2.os.trans h1.os,h2.tape.trans h1.tape,h2.output.trans h1.output⟩
set_option maxHeartbeats 4000000 in
set_option maxRecDepth 100000 in
theorem KB.below {W w1 w2:World} {B g:Nat} (hb:Below B W w1) (h:KB w1 w2 g) (hg:B≤g) (hs:B≤w1.heap.size):Below B W w2:=
 ⟨h.os.trans hb.os,h.tape.trans hb.tape,h.output.trans hb.output,Nat.le_trans hb.size h.keep.1,fun i hi=>(h.keep.2 i (by omega) (by omega) (by simp)).trans (hb.block i hi)⟩
set_option maxHeartbeats 4000000 in
set_option maxRecDepth 100000 in
theorem bad_calls (W:World) (g:Nat) (s:ByteArray) (p:Int) (lost made:Bool) (h:W.heap[g]? =some (.cells #[.string s,.int .i64 p,.bool lost,.bool made] 151 (0,0))):
  Calls Tryz.prog 126 #[.pointer (some ⟨g,0,none⟩)] W fun e w'=>e=.returned (.bool (!made||lost))∧w'=W:=by
 have h2:=(blk_cell h 2).trans rfl
 have h3:=(blk_cell h 3).trans rfl
 go_enter Tryz.func126,Tryz.ntmps126
 cases made
 ·go_wp2
  go_ret
  exact ⟨by simp,rfl⟩
 ·go_wp2
  go_ret
  exact ⟨by simp,rfl⟩
set_option maxHeartbeats 4000000 in
set_option maxRecDepth 100000 in
theorem left_calls (W:World) (g:Nat) (s:ByteArray) (p:Int) (lost:Bool) (h:W.heap[g]? =some (.cells #[.string s,.int .i64 p,.bool lost,.bool true] 151 (0,0))) (h0:0≤p) (h1:p≤s.size) (hs:s.size < 4611686018427387904):
  Calls Tryz.prog 127 #[.pointer (some ⟨g,0,none⟩)] W fun e w'=>e=.returned (.int .i64 (if lost then 0 else s.size - p))∧Below W.heap.size W w':=by
 have hb:=bad_calls W g s p lost true h
 have hz0:=(blk_cell h 0).trans rfl
 have hz1:=(blk_cell h 1).trans rfl
 have hw:wrap64 ((s.size:Int) - p)=(s.size:Int) - p:=by unfold wrap64;omega
 go_enter Tryz.func127,Tryz.ntmps127
 cases lost
 ·go_wp2_with (go_at_call 126;refine hb.mono ?_;rintro e w1 ⟨rfl,rfl⟩)
  go_region
  all_goals go_wp2
  all_goals go_ret
  all_goals exact ⟨by simp,below_drew1 (Below.refl _ _)⟩
 ·go_wp2_with (go_at_call 126;refine hb.mono ?_;rintro e w1 ⟨rfl,rfl⟩)
  go_ret
  exact ⟨by simp,Below.refl _ _⟩
/-- One more byte behind a number. -/
def nx (a b:Int):Int:=bits BinOp.or IntKind.u64 (IntKind.u64.wrap (a * 256)) (IntKind.u64.wrap b)
def numOf (s:ByteArray) (a:Int):Nat→Int
 |0=>a
 |j+1=>nx (numOf s a j) (bt s j)
set_option maxHeartbeats 4000000 in
set_option maxRecDepth 100000 in
theorem numclo_calls (W:World) (g:Nat) (s:ByteArray) (a:Int) (h:W.heap[g]? =some (.cells #[.int .u64 a] 22 (0,0))) (hs:s.size < 4611686018427387904):
  Calls Tryz.prog 111 (#[.string s]++#[.pointer (some ⟨g,0,none⟩)]) W fun e w'=>e=.returned (.tuple #[])∧w'.heap[g]? =some (.cells #[.int .u64 (numOf s a s.size)] 22 (0,0))∧KB W w' g:=by
 have HS:=Aside0.mk hs
 have HG:=Aside0.mk h
 clear hs h
 go_enter Tryz.func111,Tryz.ntmps111
 go_wp2
 go_loopg [6] s.size (fun kx s6 wr=>∃ (j:Nat),s6=.int .i64 j∧j≤s.size∧s.size - j≤kx∧Aside0 (wr.heap[g]? =some (.cells #[.int .u64 (numOf s a j)] 22 (0,0)))∧Aside0 (KB W wr g))
 case atStart=>exact ⟨0,rfl,Nat.zero_le _,Nat.le_refl _,HG,⟨KB.refl _ _⟩⟩
 case round=>
  obtain ⟨j,rfl,hj,hg,HB,HK⟩:=hrel
  by_cases hlt:j < s.size
  ·have hlt':(j:Int) < (s.size:Int):=by omega
   have hj1:wrap64 ((j:Int)+1)=((j+1:Nat):Int):=by have:=HS.out;unfold wrap64;omega
   have hn:=Aside0.mk (show numOf s a (j+1)=nx (numOf s a j) (bt s j) from rfl)
   obtain ⟨x,hx⟩:∃ x,x=numOf s a j:=⟨_,rfl⟩
   rw [← hx] at HB hn
   clear hx
   have hz:=(blk_cell HB.out 0).trans rfl
   have hf:=blk_frozen HB.out 0
   go_wp2
   go_region
   all_goals go_wp2
   go_roundg (s.size - (j+1))
   case measure=>omega
   case rel=>
    have hb:bt s (j:Int)=((s[j]'hlt).toNat:Int):=by unfold bt;simp [hlt]
    refine ⟨j+1,by rw [hj1],by omega,Nat.le_refl _,⟨?_⟩,⟨KB.drew (KB.set_ HK.out 0 _)⟩⟩
    rw [hn.out,hb]
    exact blk_drew ((blk_set HB.out 0 _).trans rfl)
  ·obtain rfl:j=s.size:=by omega
   go_wp2
   go_end0
   exact ⟨rfl,HB.out,HK.out⟩
set_option maxHeartbeats 4000000 in
set_option maxRecDepth 100000 in
theorem want_lost (W:World) (g:Nat) (s:ByteArray) (p n:Int) (f:Value) (h:W.heap[g]? =some (.cells #[.string s,.int .i64 p,.bool true,.bool true] 151 (0,0))):
  Calls Tryz.prog 110 #[.pointer (some ⟨g,0,none⟩),.int .i64 n,f] W fun e w'=>e=.returned (.tuple #[])∧w'=W:=by
 have hb:=bad_calls W g s p true true h
 go_enter Tryz.func110,Tryz.ntmps110
 go_wp2_with (go_at_call 126;refine hb.mono ?_;rintro e w1 ⟨rfl,rfl⟩)
 go_end0
 exact ⟨rfl,rfl⟩
set_option maxHeartbeats 4000000 in
set_option maxRecDepth 100000 in
theorem want_short (W:World) (g:Nat) (s:ByteArray) (p n:Int) (f:Value) (h:W.heap[g]? =some (.cells #[.string s,.int .i64 p,.bool false,.bool true] 151 (0,0))) (h0:0≤p) (h1:p≤s.size) (hs:s.size < 4611686018427387904) (hn:n < 0∨n > s.size - p):
  Calls Tryz.prog 110 #[.pointer (some ⟨g,0,none⟩),.int .i64 n,f] W fun e w'=>e=.returned (.tuple #[])∧w'.heap[g]? =some (.cells #[.string s,.int .i64 p,.bool true,.bool true] 151 (0,0))∧KB W w' g:=by
 have hb:=bad_calls W g s p false true h
 have hl:=left_calls W g s p false h h0 h1 hs
 simp only [Bool.false_eq_true,if_false] at hl
 have HG:=Aside0.mk h
 clear h
 by_cases hn0:n < 0
 ·have hfz:=blk_frozen HG.out 2
  have hfc:=(blk_cell HG.out 2).trans rfl
  go_enter Tryz.func110,Tryz.ntmps110
  go_wp2_with (first|(go_at_call 126;refine hb.mono ?_;rintro e w1 ⟨rfl,rfl⟩))
  go_end0
  exact ⟨rfl,(blk_set HG.out 2 _).trans rfl,KB.set_ (KB.refl _ _) 2 _⟩
 ·have hn2:=hn.resolve_left hn0
  clear hn
  go_enter Tryz.func110,Tryz.ntmps110
  go_wp2_with (first|(go_at_call 126;refine hb.mono ?_;rintro e w1 ⟨rfl,rfl⟩)|(go_at_call 127;refine hl.mono ?_;rintro e w2 ⟨rfl,hb2⟩;have HG2:=Aside0.mk (blk_below HG.out hb2);have I0:=Aside0.mk (KB.of_below hb2 g);clear hb2;have hfz:=blk_frozen HG2.out 2;have hfc:=(blk_cell HG2.out 2).trans rfl))
  go_end0
  exact ⟨rfl,(blk_set HG2.out 2 _).trans rfl,KB.set_ I0.out 2 _⟩
set_option maxHeartbeats 4000000 in
set_option maxRecDepth 100000 in
theorem want_ok (W:World) (g gc:Nat) (cb:Array Value) (s:ByteArray) (p n:Int) (Post:World→Prop) (eg:∀ args w,(callFunc gc args).run Tryz.prog w=.ok (.enter gc args) w) (h:W.heap[g]? =some (.cells #[.string s,.int .i64 p,.bool false,.bool true] 151 (0,0))) (h0:0≤p) (h1:p≤s.size) (hs:s.size < 4611686018427387904) (hn0:0≤n) (hn:n≤s.size - p)
  (hc:∀ W1:World,W1.heap[g]? =some (.cells #[.string s,.int .i64 (p+n),.bool false,.bool true] 151 (0,0))→KB W W1 g→Calls Tryz.prog gc (#[.string ((s.extract p.toNat s.size).extract 0 n.toNat)]++cb) W1 fun e w'=>e=.returned (.tuple #[])∧Post w'):
  Calls Tryz.prog 110 #[.pointer (some ⟨g,0,none⟩),.int .i64 n,.func (.func gc) #[] cb] W fun e w'=>e=.returned (.tuple #[])∧Post w':=by
 have hb:=bad_calls W g s p false true h
 have hl:=left_calls W g s p false h h0 h1 hs
 simp only [Bool.false_eq_true,if_false] at hl
 have HG:=Aside0.mk h
 have HC:=Aside0.mk hc
 have hw:wrap64 (p+n)=p+n:=by unfold wrap64;omega
 clear h hc
 go_enter Tryz.func110,Tryz.ntmps110
 go_wp2_with (first|(go_at_call 126;refine hb.mono ?_;rintro e w1 ⟨rfl,rfl⟩)|(go_at_call 127;refine hl.mono ?_;rintro e w2 ⟨rfl,hb2⟩;have HG2:=Aside0.mk (blk_below HG.out hb2);have I0:=Aside0.mk (KB.of_below hb2 g);clear hb2;have hfz:=blk_frozen HG2.out 1;have hfc:=(blk_cell HG2.out 1).trans rfl;have hfd:=(blk_cell HG2.out 0).trans rfl))
 have hu9:=Tryz.underlying9
 have hp1:p≤(s.size:Int):=h1
 have hsz:((s.extract p.toNat s.size).size:Int)=s.size - p:=by rw [ByteArray.size_extract];omega
 have hn3:n≤((s.extract p.toNat s.size).size:Int):=by omega
 go_region
 all_goals go_wp2_with (go_at_fn gc;refine (HC.out _ (blk_drew ((blk_set HG2.out 1 _).trans rfl)) (KB.drew (KB.set_ I0.out 1 _))).mono ?_;rintro e w3 ⟨rfl,hp3⟩)
 all_goals go_end0
 all_goals exact ⟨rfl,hp3⟩
set_option maxHeartbeats 4000000 in
set_option maxRecDepth 100000 in
theorem num_gen (k:Nat) (W:World) (g:Nat) (n x:Int) (O:Obj) (hw:octet_wide.f k n 8=some true) (hlt:g < W.heap.size)
  (hkey:∀ w1,Below W.heap.size W w1→w1.heap[W.heap.size]? =some (.cells #[.int .u64 0] 22 (0,0))→
   Calls Tryz.prog 110 #[.pointer (some ⟨g,0,none⟩),.int .i64 n,.func (.func 111) #[] #[.pointer (some ⟨W.heap.size,0,none⟩)]] w1 fun e w'=>e=.returned (.tuple #[])∧(w'.heap[g]? =some O∧w'.heap[W.heap.size]? =some (.cells #[.int .u64 x] 22 (0,0))∧KB W w' g)):
  Calls Tryz.prog 88 #[.pointer (some ⟨g,0,none⟩),.int .i64 n] W fun e w'=>e=.returned (.int .u64 x)∧w'.heap[g]? =some O∧KB W w' g:=by
 obtain ⟨W0,hW0⟩:∃ W0,W0=W.alloc (.cells #[.int .u64 0] 22):=⟨_,rfl⟩
 have hB0:Below W.heap.size W W0:=by rw [hW0];exact below_alloc (Below.refl _ _) _
 have hbn:W0.heap[W.heap.size]? =some (.cells #[.int .u64 0] 22 (0,0)):=by rw [hW0];exact blk_new W _
 have hwd:=octet_wide.calls k n 8 true W0 hw
 have T0:=Aside0.mk hB0
 have HN:=Aside0.mk hbn
 have HX:=Aside0.mk hlt
 have HK:=Aside0.mk hkey
 clear hlt hB0 hbn hkey
 go_enter Tryz.func88,Tryz.ntmps88
 go_wp2_with (first|(go_at_call 96;rw [← hW0];refine hwd.mono ?_;rintro e w1 ⟨rfl,hbd⟩;have hb:=hbd.below;have HN1:=Aside0.mk (blk_below HN.out hb);have I1:=Aside0.mk (below_step T0.out hb);clear hb hbd)|(go_at_call 110;refine (HK.out _ I1.out HN1.out).mono ?_;rintro e w2 ⟨rfl,hg3,hn3,hk3⟩;have HG2:=Aside0.mk hg3;have I0:=Aside0.mk hk3;have HN2:=Aside0.mk hn3;clear hg3 hn3 hk3;have hcn:=(blk_cell HN2.out 0).trans rfl;have hfn:=blk_frozen HN2.out 0))
 have hc3:(w2.setCell ⟨W.heap.size,0,none⟩ (.int .u64 x)).heap[W.heap.size]? =some (.cells #[.int .u64 x] 22 (0,0)):=(blk_set HN2.out 0 _).trans rfl
 have hc4:=(blk_cell hc3 0).trans rfl
 have hlt:=HX.out
 refine bodyPost_ret (v:=.int .u64 x) ?_ rfl ?_
 ·unfold results
  go_simp
 ·exact ⟨rfl,(Below.heap_setCell w2 ⟨W.heap.size,0,none⟩ _ g (by show g≠W.heap.size;omega)).trans HG2.out,KB.far I0.out (p:=⟨W.heap.size,0,none⟩) (Nat.le_refl _) _⟩
/-- A reader's place, and whether it is lost, behind a number. -/
def rdP (s:ByteArray) (p:Int) (lost:Bool) (n:Int):Int:=if lost=true∨n > s.size - p then p else p+n
def rdL (s:ByteArray) (p:Int) (lost:Bool) (n:Int):Bool:=lost||decide (n > s.size - p)
def rdN (s:ByteArray) (p:Int) (lost:Bool) (n:Int):Int:=if lost=true∨n > s.size - p then 0 else numOf ((s.extract p.toNat s.size).extract 0 n.toNat) 0 n.toNat
set_option maxHeartbeats 4000000 in
set_option maxRecDepth 100000 in
theorem num_calls (k:Nat) (W:World) (g:Nat) (s:ByteArray) (p n:Int) (lost:Bool) (hw:octet_wide.f k n 8=some true) (h:W.heap[g]? =some (.cells #[.string s,.int .i64 p,.bool lost,.bool true] 151 (0,0))) (h0:0≤p) (h1:p≤s.size) (hs:s.size < 4611686018427387904) (hn0:0≤n):
  Calls Tryz.prog 88 #[.pointer (some ⟨g,0,none⟩),.int .i64 n] W fun e w'=>e=.returned (.int .u64 (rdN s p lost n))∧w'.heap[g]? =some (.cells #[.string s,.int .i64 (rdP s p lost n),.bool (rdL s p lost n),.bool true] 151 (0,0))∧KB W w' g:=by
 have hlt:=blk_lt h
 cases lost
 ·by_cases hn:n > s.size - p
  ·have e1:rdN s p false n=0:=by unfold rdN;rw [if_pos (.inr hn)]
   have e2:rdP s p false n=p:=by unfold rdP;rw [if_pos (.inr hn)]
   have e3:rdL s p false n=true:=by unfold rdL;simp only [Bool.false_or];exact decide_eq_true hn
   rw [e1,e2,e3]
   refine num_gen k W g n 0 _ hw hlt (fun w1 hb1 hn1=>?_)
   refine (want_short w1 g s p n _ (blk_below h hb1) h0 h1 hs (.inr hn)).mono ?_
   rintro e w2 ⟨rfl,hg2,hk2⟩
   exact ⟨rfl,hg2,hk2.blk hn1 (by omega),KB.comp hb1 hk2⟩
  ·have e1:rdN s p false n=numOf ((s.extract p.toNat s.size).extract 0 n.toNat) 0 n.toNat:=by unfold rdN;rw [if_neg (by simp;omega)]
   have e2:rdP s p false n=p+n:=by unfold rdP;rw [if_neg (by simp;omega)]
   have e3:rdL s p false n=false:=by unfold rdL;simp only [Bool.false_or];exact decide_eq_false hn
   rw [e1,e2,e3]
   generalize hsub:(s.extract p.toNat s.size).extract 0 n.toNat=sub
   have hsz:sub.size=n.toNat:=by rw [← hsub,ByteArray.size_extract,ByteArray.size_extract];omega
   refine num_gen k W g n _ _ hw hlt (fun w1 hb1 hn1=>?_)
   refine want_ok w1 g 111 #[.pointer (some ⟨W.heap.size,0,none⟩)] s p n _ (enters_of Tryz.func111 (by kernel_rfl) rfl) (blk_below h hb1) h0 h1 hs hn0 (by omega) (fun W1 hg2 hk1=>?_)
   rw [hsub]
   have hn2:W1.heap[W.heap.size]? =some (.cells #[.int .u64 0] 22 (0,0)):=hk1.blk hn1 (by omega)
   refine (numclo_calls W1 W.heap.size sub 0 hn2 (by omega)).mono ?_
   rintro e w2 ⟨rfl,hn3,hk2⟩
   rw [hsz] at hn3
   refine ⟨rfl,hk2.blk hg2 (by omega),hn3,?_⟩
   exact KB.comp2 (KB.comp hb1 hk1) hk2 (Nat.le_refl _)
 ·have e1:rdN s p true n=0:=by unfold rdN;rw [if_pos (.inl rfl)]
  have e2:rdP s p true n=p:=by unfold rdP;rw [if_pos (.inl rfl)]
  have e3:rdL s p true n=true:=rfl
  rw [e1,e2,e3]
  refine num_gen k W g n 0 _ hw hlt (fun w1 hb1 hn1=>?_)
  refine (want_lost w1 g s p n _ (blk_below h hb1)).mono ?_
  rintro e w2 ⟨rfl,rfl⟩
  exact ⟨rfl,blk_below h hb1,hn1,KB.of_below hb1 g⟩
set_option maxHeartbeats 4000000 in
set_option maxRecDepth 100000 in
theorem open_calls (W:World) (A:Option Addr) (l:List Int) (c:Nat) (hr:Kd.C (Kd.int .u8) W A l.length l):
  Calls Tryz.prog 87 #[.slice A l.length c] W fun e w'=>∃ g,e=.returned (.pointer (some ⟨g,0,none⟩))∧W.heap.size≤g∧w'.heap[g]? =some (.cells #[.string (strOfNums l),.int .i64 0,.bool false,.bool true] 151 (0,0))∧Below W.heap.size W w':=by
 have hcv:=fun (w:World) (h:Below W.heap.size W w)=>Kd.C_string (P:=Tryz.prog) (src:=109) (dst:=9) (e:=5) (c:=c) Tryz.underlying109 Tryz.underlying5 Tryz.underlying9 (Kd.C_below hr h)
 have hcv0:=hcv W (Below.refl _ _)
 go_enter Tryz.func87,Tryz.ntmps87
 go_wp2
 go_ret
 exact ⟨_,rfl,Nat.le_refl _,blk_new _ _,below_alloc (Below.refl _ _) _⟩
set_option maxHeartbeats 4000000 in
theorem strOfNums_bytesOf (s:ByteArray):strOfNums (bytesOf s)=s:=by
 apply ByteArray.ext
 unfold strOfNums bytesOf
 rw [List.map_map]
 have e:((fun n:Int=>UInt8.ofNat n.toNat) ∘ fun b:UInt8=>((b.toNat:Nat):Int))=id:=by
  funext b
  simp
 rw [e,List.map_id]
theorem C_bytes (W:World) (e:TypeId) (s:ByteArray) (hs:s.size≤9223372036854775807):Kd.C (Kd.int .u8) (Lib.bytesWorld W e s) (some ⟨W.heap.size,0,none⟩) (bytesOf s).length (bytesOf s):=by
 refine ⟨rfl,by rw [bytesOf_length];exact hs,fun _=>⟨_,rfl,fun j p hp=>⟨[.int .u8 p],rfl,rfl,fun i u hu=>?_⟩⟩⟩
 obtain ⟨hj,e1⟩:=List.getElem?_eq_some_iff.1 hp
 have hj2:j < s.size:=by rw [bytesOf_length] at hj;exact hj
 match i,hu with
 |0,hu=>
  obtain rfl:=Option.some.inj hu
  have h:=Lib.bytesWorld_cell W e s j hj2
  have e2:(Addr.add ⟨W.heap.size,0,none⟩ (j * (Kd.int .u8).sz+0))=⟨W.heap.size,j,none⟩:=by
   rw [show j * (Kd.int .u8).sz+0=j from Nat.mul_one j]
   exact add_plain _ _
  rw [e2,h,← e1]
  have h':j < s.data.toList.length:=by rw [data_length];exact hj2
  simp [bytesOf,List.getD_eq_getElem?_getD,List.getElem?_eq_getElem h']
 |i+1,hu=>simp at hu
def page_Id.f (k:Nat) (a0:ByteArray):Option (Int×Int):=
 if a0.size < 140737488355328∧octet_wide.f k 8 8=some true then
  (page_Kid.f k (rdN a0 0 false 8)).bind fun t=>if t.2=0∧t.1.toList=a0.toList then some (rdN a0 0 false 8,0) else some (0,110)
 else none
set_option maxHeartbeats 4000000 in
set_option maxRecDepth 100000 in
theorem page_Id.calls (k:Nat) (a0:ByteArray) (r1:Int) (r2:Int) (w:World) (h:page_Id.f k a0=some (r1,r2)):
  Calls Tryz.prog 48 #[.string a0] w fun e w'=>e=.returned (.tuple #[.int .u64 r1,.int .i64 r2])∧Below w.heap.size w w':=by
 unfold page_Id.f at h
 by_cases hh:a0.size < 140737488355328∧octet_wide.f k 8 8=some true
 case neg=>rw [if_neg hh] at h;cases h
 rw [if_pos hh] at h
 obtain ⟨hl,hw8⟩:=hh
 obtain ⟨⟨s,q⟩,hkid,h⟩:=Option.bind_eq_some_iff.1 h
 have kb:=print_bytes (P:=Tryz.prog) 9 109 5 Tryz.underlying9 Tryz.underlying109 Tryz.underlying5 a0 w
 have hb0:Below w.heap.size w (Lib.bytesWorld w 5 a0):=bytes_below (Below.refl _ _) (Nat.le_refl _) _ _
 have ho:=open_calls (Lib.bytesWorld w 5 a0) (some ⟨w.heap.size,0,none⟩) (bytesOf a0) (grownCap w a0.size 0 5) (C_bytes w 5 a0 (by omega))
 rw [bytesOf_length,strOfNums_bytesOf] at ho
 have T0:=Aside0.mk hb0
 have HK:=Aside0.mk hkid
 have HN:=fun (w1:World) (g:Nat) (hg:w1.heap[g]? =some (.cells #[.string a0,.int .i64 0,.bool false,.bool true] 151 (0,0)))=>num_calls k w1 g a0 0 8 false hw8 hg (by omega) (by omega) (by omega) (by omega)
 have HN':=Aside0.mk HN
 have HC:=fun (w1:World)=>page_Kid.calls k (rdN a0 0 false 8) s q w1 hkid
 have HC':=Aside0.mk HC
 clear HN HC hkid
 generalize rdN a0 0 false 8=n at h HN' HC' HK
 go_enter Tryz.func48,Tryz.ntmps48
 go_wp2_with (first|(go_at_call 87;refine ho.mono ?_;rintro e w1 ⟨g,rfl,hg,hc,hb⟩;have HG:=Aside0.mk hg;have HC1:=Aside0.mk hc;have I1:=Aside0.mk (below_step T0.out hb);clear hg hc hb)|(go_at_call 88;refine (HN'.out _ _ HC1.out).mono ?_;rintro e w2 ⟨rfl,_,hk⟩;have S4:=Aside0.mk (KB.below I1.out hk (Nat.le_trans T0.out.size HG.out) I1.out.size);clear hk)|(go_at_call 33;refine (HC'.out _).mono ?_;rintro e w3 ⟨rfl,hb⟩;have HB3:=Aside0.mk (below_step S4.out hb);clear hb))
 all_goals clear kb ho HN' HC' HK
 all_goals go_ret2
 all_goals refine ⟨?_,HB3.out⟩
 all_goals by_cases c:q=0∧s.toList=a0.toList
 all_goals first|rw [if_pos c] at h|rw [if_neg c] at h
 all_goals simp only [Option.some.injEq,Prod.mk.injEq] at h
 all_goals obtain ⟨rfl,rfl⟩:=h
 all_goals first|rfl|(exfalso;simp_all;done)|(exfalso;apply c;constructor <;> simp_all)

/-! ### page_inner: function 74 -/
def page_inner.l0:Nat→List (S42)→Int→Int→Int→Int→Int→ByteArray→ByteArray→Bool→Int→Int→List Int→List (S42)→Option (Bool)
 |0,_,_,_,_,_,_,_,_,_,_,_,_,_=>none
 |k+1,x8,x9,N1,dl9,dm0,dm1,ch2,dm2,dm3,dm4,ch3,ch4,bg2=>if N1 < x9 then (if 0≤N1 then (if N1 < (x8.length:Int) then ((page_Id.f k ((rd_T42 x8 N1).f1)).bind fun el1=>(if el1.2=0 then (page_inner.l0 k x8 x9 (wrap64 (N1+1)) dl9 dm0 dm1 ch2 dm2 dm3 dm4 ch3 ch4 bg2) else (some false))) else (none)) else (none)) else (if ch3=0 then (if (ch4.length:Int)=0 then (if (bg2.length:Int) > 0 then (if 0 < (bg2.length:Int) then (some (((rd_T42 bg2 0).f0).toList==ch2.toList)) else (none)) else (some false)) else (some false)) else (some false))
def page_inner.f (k:Nat) (a6:Int) (b0:Int) (b5:Int) (b9:ByteArray) (d1:ByteArray) (d2:Bool) (d3:Int) (d0:Int) (b7:List Int) (a8:List (S42)):Option (Bool):=page_inner.l0 k a8 (a8.length:Int) 0 a6 b0 b5 b9 d1 d2 d3 d0 b7 a8
set_option maxHeartbeats 8000000 in
set_option maxRecDepth 100000 in
theorem page_inner.calls (k:Nat) (a6:Int) (b0:Int) (b5:Int) (b9:ByteArray) (d1:ByteArray) (d2:Bool) (d3:Int) (d0:Int) (j6:Option Addr) (j7:Nat) (b7:List Int) (l5:Option Addr) (j8:Nat) (a8:List (S42)) (r:Bool) (w:World) (y4:Kd.C (Kd.int .u64) w j6 b7.length b7) (C1:b7.length≤j7) (s9:Kd.C k42 w l5 a8.length a8) (u7:a8.length≤j8) (h:page_inner.f k a6 b0 b5 b9 d1 d2 d3 d0 b7 a8=some r):
  Calls Tryz.prog 74 #[.agg #[.int .u64 a6,.int .u64 b0,.int .u8 b5,.string b9,.string d1,.bool d2,.int .u64 d3,.int .u64 d0,.slice j6 b7.length j7,.slice l5 a8.length j8]] w fun e w'=>e=.returned (.bool r)∧Below w.heap.size w w':=by
 (have hu28:=Tryz.underlying28);(have hu42:=Tryz.underlying42);(have t1:=Aside0.mk y4);(have t2:=Aside0.mk C1);(clear y4 C1);(have o1:=Aside0.mk s9);(have s3:=Aside0.mk u7);(clear s9 u7);(have HB:=Aside0.mk (Below.refl w.heap.size w));(unfold page_inner.f at h);(have H:=h);(clear h);(have H':=Aside0.mk H);(clear H);(go_enter Tryz.func74,Tryz.ntmps74);(go_wp2_with (first|((with_reducible refine gate_dst (N:=1) rfl ?_);(try (refine gate_guard (by rfl) ?_;dsimp only));refine bx (N:=1) (cs:=#[.int .u64 a6,.int .u64 b0,.int .u8 b5,.string b9,.string d1,.bool d2,.int .u64 d3,.int .u64 d0,.slice j6 b7.length j7,.slice l5 a8.length j8]) (t:=28) ⟨mvW HB.out⟩ ?_;clear HB;intro cq0 hg w2 hb o8 br5 HB;have dc7:=br5;clear hb hg;have Z3:=b10 o8)));(repeat (go_quiet (first|((with_reducible refine gate_dst (N:=1) rfl ?_);(try (refine gate_guard (by rfl) ?_;dsimp only));refine bx (N:=1) (cs:=#[.int .u64 a6,.int .u64 b0,.int .u8 b5,.string b9,.string d1,.bool d2,.int .u64 d3,.int .u64 d0,.slice j6 b7.length j7,.slice l5 a8.length j8]) (t:=28) ⟨mvW HB.out⟩ ?_;clear HB;intro cq0 hg w2 hb o8 br5 HB;have dc7:=br5;clear hb hg;have Z3:=b10 o8));try go_wp2_with (first|((with_reducible refine gate_dst (N:=1) rfl ?_);(try (refine gate_guard (by rfl) ?_;dsimp only));refine bx (N:=1) (cs:=#[.int .u64 a6,.int .u64 b0,.int .u8 b5,.string b9,.string d1,.bool d2,.int .u64 d3,.int .u64 d0,.slice j6 b7.length j7,.slice l5 a8.length j8]) (t:=28) ⟨mvW HB.out⟩ ?_;clear HB;intro cq0 hg w2 hb o8 br5 HB;have dc7:=br5;clear hb hg;have Z3:=b10 o8))));(go_loopg [10] k (fun kq v10 w'=>∃ (k0:Int),v10=.int .i64 k0∧Aside0 (page_inner.l0 kq a8 (a8.length:Int) k0 a6 b0 b5 b9 d1 d2 d3 d0 b7 a8=some r)∧Aside0 (kq≤k)∧Aside0 (w'.heap[cq0]? =some (.cells #[.int .u64 a6,.int .u64 b0,.int .u8 b5,.string b9,.string d1,.bool d2,.int .u64 d3,.int .u64 d0,(.slice j6 b7.length j7),(.slice l5 a8.length j8)] 28 (0,0)))∧Aside0 (Below w.heap.size w w')))
 case atStart=>exact ⟨(0),sd,H',⟨Nat.le_refl _⟩,⟨mvB o8.out⟩,⟨mvW HB.out⟩⟩
 case round=>
  (clear H');(obtain ⟨k0,rfl,HA,l7,o8,HB⟩:=hrel)
  cases gk with
  |zero=>exact absurd HA.out (by simp [page_inner.l0])
  |succ k1=>
   (have H:=HA.out);(clear HA);(simp only [page_inner.l0] at H);(replace H:=sp H);(rcases H with ⟨p2,H⟩|⟨p2,H⟩)
   ·(replace H:=gd H);(obtain ⟨S1,H⟩:=H);(replace H:=gd H);(obtain ⟨J0,H⟩:=H);(replace H:=bs H);(obtain ⟨⟨bu7,ap1⟩,A7,H⟩:=H);(by_cases c8:ap1=0)
    ·(rw [if_pos c8] at H);(have aa3:(ap1==0)=true:=beq_iff_eq.mpr c8);(have bi9:(ap1 != 0)=false:=bne_eq_false_iff_eq.mpr c8);(clear c8);(have H':=Aside0.mk H);(clear H);(obtain ⟨ad137,e137,hw137,hx137,pq137⟩:=rd42 HB o1 k0);(cases e137);(go_wp2_with (first|((with_reducible refine gate_dst (N:=4) rfl ?_);(try (refine gate_guard (by rfl) ?_;dsimp only));refine bx (N:=4) (cs:=#[.string (⟨#[]⟩:ByteArray),.string (⟨#[]⟩:ByteArray)]) (t:=42) ⟨mvW HB.out⟩ ?_;clear HB;intro af0 hg w9 hb M9 af1 HB;have br6:=af1;have P8:=nbl hg o8;have P9:=nbg hg o8;replace o8:=bb o8 hb;clear hb hg;have by0:=P9.out;have hnc10:=P8.out;have Z11:=b2 M9)|(go_at_call 48;(with_reducible refine (page_Id.calls k1 ((rd_T42 a8 k0).f1) bu7 ap1 _ A7.out).mono ?_);rintro e w12 ⟨rfl,hb⟩;replace o8:=bb o8 hb;replace M9:=Aside0.mk (blk_below (g:=af0) (o:=.cells #[.string ((rd_T42 a8 k0).f0),.string ((rd_T42 a8 k0).f1)] 42 (0,0)) (mvP M9.out) hb);replace HB:=sb HB hb)));(repeat (go_quiet (first|((with_reducible refine gate_dst (N:=4) rfl ?_);(try (refine gate_guard (by rfl) ?_;dsimp only));refine bx (N:=4) (cs:=#[.string (⟨#[]⟩:ByteArray),.string (⟨#[]⟩:ByteArray)]) (t:=42) ⟨mvW HB.out⟩ ?_;clear HB;intro af0 hg w9 hb M9 af1 HB;have br6:=af1;have P8:=nbl hg o8;have P9:=nbg hg o8;replace o8:=bb o8 hb;clear hb hg;have by0:=P9.out;have hnc10:=P8.out;have Z11:=b2 M9)|(go_at_call 48;(with_reducible refine (page_Id.calls k1 ((rd_T42 a8 k0).f1) bu7 ap1 _ A7.out).mono ?_);rintro e w12 ⟨rfl,hb⟩;replace o8:=bb o8 hb;replace M9:=Aside0.mk (blk_below (g:=af0) (o:=.cells #[.string ((rd_T42 a8 k0).f0),.string ((rd_T42 a8 k0).f1)] 42 (0,0)) (mvP M9.out) hb);replace HB:=sb HB hb));try go_wp2_with (first|((with_reducible refine gate_dst (N:=4) rfl ?_);(try (refine gate_guard (by rfl) ?_;dsimp only));refine bx (N:=4) (cs:=#[.string (⟨#[]⟩:ByteArray),.string (⟨#[]⟩:ByteArray)]) (t:=42) ⟨mvW HB.out⟩ ?_;clear HB;intro af0 hg w9 hb M9 af1 HB;have br6:=af1;have P8:=nbl hg o8;have P9:=nbg hg o8;replace o8:=bb o8 hb;clear hb hg;have by0:=P9.out;have hnc10:=P8.out;have Z11:=b2 M9)|(go_at_call 48;(with_reducible refine (page_Id.calls k1 ((rd_T42 a8 k0).f1) bu7 ap1 _ A7.out).mono ?_);rintro e w12 ⟨rfl,hb⟩;replace o8:=bb o8 hb;replace M9:=Aside0.mk (blk_below (g:=af0) (o:=.cells #[.string ((rd_T42 a8 k0).f0),.string ((rd_T42 a8 k0).f1)] 42 (0,0)) (mvP M9.out) hb);replace HB:=sb HB hb))));(go_roundg k1)
     case measure=>have:=l7.out;omega
     case rel=>exact ⟨(wrap64 (k0+1)),sd,H',⟨by have:=l7.out;omega⟩,⟨mvB o8.out⟩,⟨mvW HB.out⟩⟩
    ·(rw [if_neg c8] at H);(have aa3:(ap1==0)=false:=beq_eq_false_iff_ne.mpr c8);(have bi9:(ap1 != 0)=true:=bne_iff_ne.mpr c8);(obtain rfl:=Option.some.inj H);(obtain ⟨ad137,e137,hw137,hx137,pq137⟩:=rd42 HB o1 k0);(cases e137);(go_wp2_with (first|((with_reducible refine gate_dst (N:=4) rfl ?_);(try (refine gate_guard (by rfl) ?_;dsimp only));refine bx (N:=4) (cs:=#[.string (⟨#[]⟩:ByteArray),.string (⟨#[]⟩:ByteArray)]) (t:=42) ⟨mvW HB.out⟩ ?_;clear HB;intro af0 hg w13 hb M9 af1 HB;have br6:=af1;have P8:=nbl hg o8;have P9:=nbg hg o8;replace o8:=bb o8 hb;clear hb hg;have dc8:=P9.out;have hnc14:=P8.out;have Z15:=b2 M9)|(go_at_call 48;(with_reducible refine (page_Id.calls k1 ((rd_T42 a8 k0).f1) bu7 ap1 _ A7.out).mono ?_);rintro e w16 ⟨rfl,hb⟩;replace o8:=bb o8 hb;replace M9:=Aside0.mk (blk_below (g:=af0) (o:=.cells #[.string ((rd_T42 a8 k0).f0),.string ((rd_T42 a8 k0).f1)] 42 (0,0)) (mvP M9.out) hb);replace HB:=sb HB hb)));(repeat (go_quiet (first|((with_reducible refine gate_dst (N:=4) rfl ?_);(try (refine gate_guard (by rfl) ?_;dsimp only));refine bx (N:=4) (cs:=#[.string (⟨#[]⟩:ByteArray),.string (⟨#[]⟩:ByteArray)]) (t:=42) ⟨mvW HB.out⟩ ?_;clear HB;intro af0 hg w13 hb M9 af1 HB;have br6:=af1;have P8:=nbl hg o8;have P9:=nbg hg o8;replace o8:=bb o8 hb;clear hb hg;have dc8:=P9.out;have hnc14:=P8.out;have Z15:=b2 M9)|(go_at_call 48;(with_reducible refine (page_Id.calls k1 ((rd_T42 a8 k0).f1) bu7 ap1 _ A7.out).mono ?_);rintro e w16 ⟨rfl,hb⟩;replace o8:=bb o8 hb;replace M9:=Aside0.mk (blk_below (g:=af0) (o:=.cells #[.string ((rd_T42 a8 k0).f0),.string ((rd_T42 a8 k0).f1)] 42 (0,0)) (mvP M9.out) hb);replace HB:=sb HB hb));try go_wp2_with (first|((with_reducible refine gate_dst (N:=4) rfl ?_);(try (refine gate_guard (by rfl) ?_;dsimp only));refine bx (N:=4) (cs:=#[.string (⟨#[]⟩:ByteArray),.string (⟨#[]⟩:ByteArray)]) (t:=42) ⟨mvW HB.out⟩ ?_;clear HB;intro af0 hg w13 hb M9 af1 HB;have br6:=af1;have P8:=nbl hg o8;have P9:=nbg hg o8;replace o8:=bb o8 hb;clear hb hg;have dc8:=P9.out;have hnc14:=P8.out;have Z15:=b2 M9)|(go_at_call 48;(with_reducible refine (page_Id.calls k1 ((rd_T42 a8 k0).f1) bu7 ap1 _ A7.out).mono ?_);rintro e w16 ⟨rfl,hb⟩;replace o8:=bb o8 hb;replace M9:=Aside0.mk (blk_below (g:=af0) (o:=.cells #[.string ((rd_T42 a8 k0).f0),.string ((rd_T42 a8 k0).f1)] 42 (0,0)) (mvP M9.out) hb);replace HB:=sb HB hb))));(go_ret);(exact ⟨rv,mvW HB.out⟩)
   ·(by_cases c17:d0=0)
    ·(rw [if_pos c17] at H);(have by4:(d0==0)=true:=beq_iff_eq.mpr c17);(have cj8:(d0 != 0)=false:=bne_eq_false_iff_eq.mpr c17);(clear c17);(by_cases c18:(b7.length:Int)=0)
     ·(rw [if_pos c18] at H);(have bo4:((b7.length:Int)==0)=true:=beq_iff_eq.mpr c18);(have el2:((b7.length:Int) != 0)=false:=bne_eq_false_iff_eq.mpr c18);(clear c18);(by_cases c19:(a8.length:Int) > 0)
      ·(rw [if_pos c19] at H);(have el3:decide (0 < (a8.length:Int))=true:=decide_eq_true c19);(have el4:decide (0 < a8.length)=true:=decide_eq_true (by omega));(clear c19);(by_cases c20:0 < (a8.length:Int))
       ·(rw [if_pos c20] at H);(have db5:=decide_eq_true c20);(have db6:decide (0 < a8.length)=true:=decide_eq_true (by omega));(clear c20);(obtain rfl:=Option.some.inj H);(have Z21:=b10 o8);(have cz3:0≤(0:Int):=(by omega));(have cz4:0 < (a8.length:Int):=od);(obtain ⟨ad141,e141,au7,au8⟩:=at_T42 o1.out 0 cz3 cz4);(cases e141);(have qi141:(0 < a8.length)=True:=eq_true (by omega));((try rw [show ((0:Int)).toNat=0 from rfl] at au7));((try rw [show 0 * 2=0 from rfl] at au7));((try rw [Addr.add_zero'] at au7));((try rw [show ((0:Int)).toNat=0 from rfl] at au8));((try rw [show 0 * 2=0 from rfl] at au8));((try rw [Addr.add_zero'] at au8));(replace au7:=ct HB au7);(replace au8:=ct HB au8);(replace cz3:=eq_true cz3);(replace cz4:=eq_true cz4);(go_wp2);(repeat (go_quiet (fail);try go_wp2));(go_ret);(exact ⟨rv,mvW HB.out⟩)
       ·(rw [if_neg c20] at H);(exact absurd H (by simp))
      ·(rw [if_neg c19] at H);(have el3:decide (0 < (a8.length:Int))=false:=decide_eq_false c19);(have el4:decide (0 < a8.length)=false:=decide_eq_false (by omega));(clear c19);(obtain rfl:=Option.some.inj H);(have Z22:=b10 o8);(go_wp2);(repeat (go_quiet (fail);try go_wp2));(go_ret);(exact ⟨rv,mvW HB.out⟩)
     ·(rw [if_neg c18] at H);(have bo4:((b7.length:Int)==0)=false:=beq_eq_false_iff_ne.mpr c18);(have el2:((b7.length:Int) != 0)=true:=bne_iff_ne.mpr c18);(have fu2:¬ (b7=[]):=fun h_=>c18 (by rw [h_];rfl));(obtain rfl:=Option.some.inj H);(have Z23:=b10 o8);(go_wp2);(repeat (go_quiet (fail);try go_wp2));(go_ret);(exact ⟨rv,mvW HB.out⟩)
    ·(rw [if_neg c17] at H);(have by4:(d0==0)=false:=beq_eq_false_iff_ne.mpr c17);(have cj8:(d0 != 0)=true:=bne_iff_ne.mpr c17);(obtain rfl:=Option.some.inj H);(have Z24:=b10 o8);(go_wp2);(repeat (go_quiet (fail);try go_wp2));(go_ret);(exact ⟨rv,mvW HB.out⟩)

end Go.Proofs.YtmfaopjfdedheaaGreat.F
