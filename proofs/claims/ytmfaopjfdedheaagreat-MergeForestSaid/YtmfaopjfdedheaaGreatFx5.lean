-- PRINTED by print.py (a twelfth state) out of the translation. Not trusted: Lean checks it.
import Derived.Test.YtmfaopjfdedheaaGreatSv
import Derived.Test.YtmfaopjfdedheaaGreatSh
import Derived.Test.YtmfaopjfdedheaaGreatMv
import Derived.Test.YtmfaopjfdedheaaGreatFx0
import Derived.Test.YtmfaopjfdedheaaGreatFx2
import Derived.Test.YtmfaopjfdedheaaGreatFx4
namespace Go.Proofs.YtmfaopjfdedheaaGreat.F
open Go.RowKit Go.Proofs.YtmfaopjfdedheaaGreatW Go.Proofs.YtmfaopjfdedheaaGreatW.PrintWords Go.Proofs.YtmfaopjfdedheaaGreatW.PrintLast Go.Proofs.YtmfaopjfdedheaaGreatW.PrintMore
attribute [local go_sem] GpMore.bytes_le max2_int min2_int max_two min_two max_three min_three max_four min_four   -- for this text's walks alone
set_option linter.unusedVariables false
set_option linter.unusedSimpArgs false

/-! ### lsns_Raise: function 76 -/
theorem lsns_Raise_filter_next (l:List Int) (p:Int→Bool) (j:Nat) (h:j < l.length):(l.take (j+1)).filter p=(l.take j).filter p++(if p (rd l (j:Int))=true then [rd l (j:Int)] else []):=by
 have e:rd l (j:Int)=l[j]:=by unfold rd;simp [h]
 rw [e,List.take_add_one,List.filter_append,List.getElem?_eq_getElem h]
 cases hp:p l[j] <;> simp [hp]
set_option maxHeartbeats 4000000 in
set_option maxRecDepth 100000 in
theorem lsns_Raise_kept_calls (g:Nat) (cb:Array Value) (A0:Option Addr) (c0:Nat) (l0:List Int) (p:Int→Bool) (w:World) (eg:∀ args w,(callFunc g args).run Tryz.prog w=.ok (.enter g args) w) (hsz:l0.length < 17592186044416) (hr0:Kd.C (Kd.int .u64) w A0 l0.length l0)
  (hf:∀ (W:World) (x:Int),Below w.heap.size w W→Calls Tryz.prog g (#[.int .u64 x]++cb) W fun e w'=>e=.returned (.bool (p x))∧Below W.heap.size W w'):
  Calls Tryz.prog 102 #[.slice A0 l0.length c0,.func (.func g) #[] cb] w fun e w'=>∃ v0_:Value,e=.returned v0_∧Kd.R (Kd.int .u64) 22 w' w.heap.size (fun _=>True) v0_ (l0.filter p)∧Below w.heap.size w w':=by
 have HF:Aside0 _:=⟨hf⟩
 have HR:=Aside0.mk hr0
 have HL:=Aside0.mk hsz
 clear hf hr0 hsz
 go_enter Tryz.func102,Tryz.ntmps102
 go_wp2
 go_loopg [5,10] l0.length (fun kx s5 s10 wr=>∃ (j:Nat),s10=.int .i64 j∧j≤l0.length∧l0.length - j≤kx∧Aside0 (Below w.heap.size w wr)∧Aside0 (Kd.R (Kd.int .u64) 22 wr w.heap.size (fun _=>True) s5 ((l0.take j).filter p)))
 case atStart=>exact ⟨0,rfl,Nat.zero_le _,Nat.le_refl _,⟨Below.refl _ _⟩,⟨Kd.R_nil _ _ _ _ _⟩⟩
 case round=>
  obtain ⟨j,rfl,hj,hg,HB,HO⟩:=hrel
  by_cases hlt:j < l0.length
  ·have hlt':(j:Int) < (l0.length:Int):=by omega
   obtain ⟨ad,e,hx⟩:=Kd.at_int HR.out (j:Int) (by omega) hlt'
   cases e
   rw [Int.toNat_natCast] at hx
   replace hx:=ct HB hx
   have hc:=HF.out wr (rd l0 (j:Int)) HB.out
   have hn:=Aside0.mk (lsns_Raise_filter_next l0 p j hlt)
   have hj1:wrap64 ((j:Int)+1)=((j+1:Nat):Int):=by have:=HL.out;unfold wrap64;omega
   have hlen:((l0.take j).filter p).length≤l0.length:=Nat.le_trans (List.length_filter_le _ _) (by rw [List.length_take];omega)
   have HN:=Aside0.mk hlen
   clear hlen
   revert hx hc hn
   generalize rd l0 (j:Int)=x
   intro hx hc hn
   cases hp:p x <;> rw [hp] at hc
   ·have hn':(l0.take (j+1)).filter p=(l0.take j).filter p:=by rw [hn.out,hp];simp
    have HM:=Aside0.mk hn'
    clear hn hn' hp
    go_wp2_with (go_at_fn g;refine hc.mono ?_;rintro e w1 ⟨rfl,hb1⟩)
    go_roundg (l0.length - (j+1))
    case measure=>omega
    case rel=>exact ⟨j+1,by rw [hj1],by omega,Nat.le_refl _,⟨below_step HB.out hb1⟩,⟨HM.out ▸ Kd.R_below HO.out hb1⟩⟩
   ·have hn':(l0.take (j+1)).filter p=(l0.take j).filter p++[x]:=by rw [hn.out,hp];simp
    have HM:=Aside0.mk hn'
    clear hn hn' hp
    go_wp2_with (first|(go_at_fn g;refine hc.mono ?_;rintro e w1 ⟨rfl,hb1⟩;have I1:=Aside0.mk (below_step HB.out hb1);have HO1:=Aside0.mk (Kd.R_below HO.out hb1);clear hb1)|((with_reducible refine gate_builtin (b:=.append) (xs:=#[.tmp 17,.tmp 19]) rfl ?_);at_builtin;refine Kd.R_append (Kd.int .u64) (w0:=w) w.heap.size rfl (.tmp 17) (.tmp 19) 23 22 (.int .u64 0) 8 rfl Tryz.underlying23 info22 rfl (by decide) (by omega) u5 ((l0.take j).filter p) x [.int .u64 x] (fun _=>True) (fun _=>False) rfl rfl ?aP (fun _ hk=>hk.elim) ?aF ?aO ?aB ?aS ?aL ?_;(case aP=>exact rfl);(case aB=>exact I1.out);(case aF=>exact fun _ _=>trivial);(case aO=>exact HO1.out);(case aS=>exact below_size I1.out);(case aL=>have:=HL.out;have:=HN.out;omega);intro v2 w2 ho2 hb2 hg2 hat2;clear hg2 hat2;have HO2:=Aside0.mk ho2;have S4:=Aside0.mk hb2;clear ho2 hb2))
    go_roundg (l0.length - (j+1))
    case measure=>omega
    case rel=>exact ⟨j+1,by rw [hj1],by omega,Nat.le_refl _,⟨S4.out⟩,⟨HM.out ▸ HO2.out⟩⟩
  ·obtain rfl:j=l0.length:=by omega
   have hO:=HO.out
   rw [List.take_length] at hO
   have HO1:=Aside0.mk hO
   clear hO HO
   go_wp2
   go_ret
   exact ⟨_,rfl,HO1.out,HB.out⟩
theorem lsns_Raise_raise_clo_calls (bx:Nat) (x y:Int) (W:World) (hx:W.cell? ⟨bx,0,none⟩=some (.int .u64 x)):
  Calls Tryz.prog 103 (#[.int .u64 y]++#[.pointer (some ⟨bx,0,none⟩)]) W fun e w'=>e=.returned (.bool (decide (y > x)))∧Below W.heap.size W w':=by
 go_enter Tryz.func103,Tryz.ntmps103
 go_wp2
 go_ret
 exact ⟨by first|rfl|simp,Below.refl _ _⟩
def lsns_Raise.f (k:Nat) (a6:Int) (e6:List Int) (a1:Int):Option (Int×List Int×Int):=
 (lsns_Right.f k a6 e6).bind fun b=>if b=true then (if e6.length < 17592186044416 then some (mx a1 a6,e6.filter (fun x=>decide (x > mx a1 a6)),0) else none) else some (0,[],40)
def lsns_Raise.T4:Bool×List (List Nat×List Nat):=(true,[([],[]),([],[]),([1],[1]),([],[]),([2,3],[2,3]),([0,4],[0,4]),([5,4,0,1,2,3,4,5],[5]),([6,0,1,2,3,4,5,6],[])])
def lsns_Raise.B4:List Nat:=[0,0,2,0,14,31,63,127]
theorem lsns_Raise.tab4:rtab .any (opsOf Tryz.f76 4)=lsns_Raise.T4:=by kernel_rfl
theorem lsns_Raise.bits4:waitsOk lsns_Raise.T4.2 lsns_Raise.B4=true:=by kernel_rfl
set_option maxHeartbeats 4000000 in
set_option maxRecDepth 100000 in
theorem lsns_Raise.calls (k:Nat) (a6:Int) (p3:Option Addr) (p5:Nat) (e6:List Int) (a1:Int) (r1:Int) (r2:List Int) (r3:Int) (w:World) (Q0:Kd.C (Kd.int .u64) w p3 e6.length e6) (R6:e6.length≤p5) (h:lsns_Raise.f k a6 e6 a1=some (r1,r2,r3)):
  Calls Tryz.prog 76 #[.agg #[.int .u64 a6,.slice p3 e6.length p5],.int .u64 a1] w fun e w'=>∃ v1_:Value,e=.returned (.tuple #[.agg #[.int .u64 r1,v1_],.int .i64 r3])∧Kd.R (Kd.int .u64) 22 w' w.heap.size (fun _=>True) v1_ r2∧Below w.heap.size w w':=by

 obtain ⟨b,hb,h⟩:=Option.bind_eq_some_iff.1 h
 have hu25:=Tryz.underlying25
 have HR:=Aside0.mk Q0
 have HRight:=Aside0.mk hb
 clear Q0 hb
 obtain ⟨W0,hW0⟩:∃ W0,W0=((w.alloc (.cells #[.int .u64 a6,.slice p3 e6.length p5] 25)).alloc (.cells #[.int .u64 a1] 22)).alloc (.cells #[.int .u64 0,.slice none 0 0] 25):=⟨_,rfl⟩
 have hB0:Below w.heap.size w W0:=by rw [hW0];exact below_alloc (below_alloc (below_alloc (Below.refl _ _) _) _) _
 have b2:W0.heap[w.heap.size]? =some (.cells #[.int .u64 a6,.slice p3 e6.length p5] 25 (0,0)):=by
  rw [hW0];exact blk_alloc (blk_alloc (blk_new w _) _) _
 have b3:W0.heap[w.heap.size+1]? =some (.cells #[.int .u64 a1] 22 (0,0)):=by
  have hb:=blk_new (w.alloc (.cells #[.int .u64 a6,.slice p3 e6.length p5] 25)) (.cells #[.int .u64 a1] 22)
  rw [World.size_alloc] at hb
  rw [hW0];exact blk_alloc hb _
 have b4:W0.heap[w.heap.size+1+1]? =some (.cells #[.int .u64 0,.slice none 0 0] 25 (0,0)):=by
  have hb:=blk_new ((w.alloc (.cells #[.int .u64 a6,.slice p3 e6.length p5] 25)).alloc (.cells #[.int .u64 a1] 22)) (.cells #[.int .u64 0,.slice none 0 0] 25)
  rw [World.size_alloc,World.size_alloc] at hb
  rw [hW0];exact hb
 have hc:=lsns_Right.calls k a6 p3 p5 e6 b W0 (Kd.C_below HR.out hB0) R6 HRight.out
 have T0:=Aside0.mk hB0
 have B2:=Aside0.mk b2
 have B3:=Aside0.mk b3
 have B4:=Aside0.mk b4
 clear b2 b3 b4 hB0
 cases b
 ·rw [if_neg (by simp)] at h
  simp only [Option.some.injEq,Prod.mk.injEq] at h
  obtain ⟨rfl,rfl,rfl⟩:=h
  go_enter Tryz.func76,Tryz.ntmps76
  go_wp2_with (go_at_call 66;rw [← hW0];refine hc.mono ?_;rintro e w1 ⟨rfl,hb⟩;have I1:=Aside0.mk (below_step T0.out hb);have C4:=Aside0.mk (blk_below B4.out hb);clear hb;have hz0:=(blk_cell C4.out 0).trans rfl;have hz1:=(blk_cell C4.out 1).trans rfl;have hf0:=blk_frozen C4.out 0;have hf1:=blk_frozen C4.out 1)
  refine bodyPost_ret (results_ct rfl _ _ (w.heap.size+1+1) 25 #[.int .u64 0,.slice none 0 0] (0,0) _ rfl (by refine blk_put (cs:=#[.int .u64 0,.slice none 0 0]) ?_ 1 _ rfl;refine blk_put (cs:=#[.int .u64 0,.slice none 0 0]) ?_ 0 _ rfl;exact C4.out) Tryz.underlying25 rfl (by kernel_rfl)) rfl ?_
  exact ⟨_,rfl,Kd.R_nil _ _ _ _ _,below_set (below_set I1.out (by show w.heap.size≤w.heap.size+1+1;omega)) (by show w.heap.size≤w.heap.size+1+1;omega)⟩
 ·by_cases hl:e6.length < 17592186044416
  ·rw [if_pos rfl,if_pos hl] at h
   simp only [Option.some.injEq,Prod.mk.injEq] at h
   obtain ⟨rfl,rfl,rfl⟩:=h
   have HL:=Aside0.mk hl
   clear hl
   obtain ⟨m,hm⟩:∃ m,(if a1 < a6 then a6 else a1)=m:=⟨_,rfl⟩
   rw [show mx a1 a6=m from hm]
   go_enter Tryz.func76,Tryz.ntmps76
   go_wp2_with (go_at_call 66;rw [← hW0];refine hc.mono ?_;rintro e w1 ⟨rfl,hb⟩;have I1:=Aside0.mk (below_step T0.out hb);have C2:=Aside0.mk (blk_below B2.out hb);have C3:=Aside0.mk (blk_below B3.out hb);have C4:=Aside0.mk (blk_below B4.out hb);clear hb;have hz3:=(blk_cell C3.out 0).trans rfl;have hf3:=blk_frozen C3.out 0;have hz2:=(blk_cell C2.out 0).trans rfl;have hy2:=(blk_cell C2.out 1).trans rfl)
   have D2:Aside0 (((w1.setCell ⟨w.heap.size+1,0,none⟩ (.int .u64 m)).drew).heap[w.heap.size]? =some (.cells #[.int .u64 a6,.slice p3 e6.length p5] 25 (0,0))):=⟨blk_drew (blk_far C2.out (p:=⟨w.heap.size+1,0,none⟩) (by show w.heap.size≠w.heap.size+1;omega) _)⟩
   have D3:Aside0 (((w1.setCell ⟨w.heap.size+1,0,none⟩ (.int .u64 m)).drew).heap[w.heap.size+1]? =some (.cells #[.int .u64 m] 22 (0,0))):=⟨blk_drew ((blk_set C3.out 0 _).trans rfl)⟩
   have D4:Aside0 (((w1.setCell ⟨w.heap.size+1,0,none⟩ (.int .u64 m)).drew).heap[w.heap.size+1+1]? =some (.cells #[.int .u64 0,.slice none 0 0] 25 (0,0))):=⟨blk_drew (blk_far C4.out (p:=⟨w.heap.size+1,0,none⟩) (by show w.heap.size+1+1≠w.heap.size+1;omega) _)⟩
   have HD:=Aside0.mk (below_drew1 (below_set (g:=w.heap.size+1) (j:=0) (v:=.int .u64 m) I1.out (by omega)))
   clear hc hz3 hf3 hz2 hy2 B2 B3 B4 C2 C3 C4 I1 T0 hm
   refine start_ (n:=8) (S:=fun w'=>w'.cell? ⟨w.heap.size+1,0,none⟩=some (.int .u64 m)∧w'.cell? ⟨w.heap.size,1,none⟩=some (.slice p3 e6.length p5)) (ds:=[]) (bm 8 0) (by kernel_rfl) rfl rfl ⟨(blk_cell D3.out 0).trans rfl,(blk_cell D2.out 1).trans rfl⟩ (fun a7=>?_)
   refine with_tabW lsns_Raise.tab4 lsns_Raise.bits4 (fun HT_ HW_=>?_)
   generalize ((w1.setCell ⟨w.heap.size+1,0,none⟩ (.int .u64 m)).drew)=w5 at D2 D3 D4 HD a7 ⊢
   (refine pu 1 15 (bm 8 2) HT_ ?_);(refine pu 3 17 (bm 8 10) HT_ ?_);(refine tk 0 14 (bm 8 11) HT_ HW_ a7 ?_);(refine tk 2 16 (bv 4 4) HT_ HW_ a7 ?_);(refine on 4 (some 18) (bv 5 3) HT_ (fun K hK=>?_))
   refine goes_ Tryz.func102 (by kernel_rfl) rfl #[.slice p3 e6.length p5,.func (.func 103) #[] #[.pointer (some ⟨w.heap.size+1,0,none⟩)]] (by rfl) rfl rfl (by (try simp only [List.map_toArray,List.map_cons,List.map_nil]);first|done|rfl|(simp only [*];rfl)) ?_
   refine (lsns_Raise_kept_calls 103 #[.pointer (some ⟨w.heap.size+1,0,none⟩)] p3 p5 e6 (fun x=>decide (x > m)) w5 (enters_of Tryz.func103 (by kernel_rfl) rfl) HL.out (Kd.C_below HR.out HD.out) (fun W x hB=>lsns_Raise_raise_clo_calls (w.heap.size+1) m x W (pw_cell_below hB ((blk_cell D3.out 0).trans rfl)))).mono ?_
   rintro e w6 ⟨v6,rfl,ho,hb⟩
   refine ⟨_,rfl,?_⟩
   have E2:=Aside0.mk (blk_below D2.out hb)
   have E3:=Aside0.mk (blk_below D3.out hb)
   have E4:=Aside0.mk (blk_below D4.out hb)
   have HE:=Aside0.mk (below_step HD.out hb)
   obtain ⟨ys,hys⟩:∃ ys,ys=e6.filter (fun x=>decide (x > m)):=⟨_,rfl⟩
   rw [← hys] at ho
   have HY:=Aside0.mk hys
   clear hys
   have HO:=Aside0.mk (Kd.R_lower ho (below_size HD.out))
   clear ho hb D2 D3 D4 HD
   obtain ⟨Ao,co,eo⟩:=Kd.R_slice HO.out
   subst eo
   refine hK.out _ _ ⟨(blk_cell E3.out 0).trans rfl,(blk_cell E2.out 1).trans rfl⟩ (fun a7=>?_)
   clear hK K
   (refine nm 18 ?_);(refine pu 5 19 (bv 6 2) HT_ ?_);(refine on 6 none (bv 7 1) HT_ (fun K hK=>?_))
   have hs18:w6.cell? ⟨w.heap.size+1+1,0,none⟩=some (.int .u64 0):=(blk_cell E4.out 0).trans rfl
   have hfs18:=blk_frozen E4.out 0
   have hs19:w6.cell? ⟨w.heap.size+1+1,1,none⟩=some (.slice none 0 0):=(blk_cell E4.out 1).trans rfl
   have hfs19:=blk_frozen E4.out 1
   (refine skip_ (w1:=?_) (by rfl) rfl ?_ ?_);(rotate_left)
   ·(go_simp);(rfl)
   (refine hK.out _ _ ⟨((cell_far (p:=⟨w.heap.size+1+1,_,none⟩) (by show w.heap.size+1≠w.heap.size+1+1;omega) _).trans (((cell_far (p:=⟨w.heap.size+1+1,_,none⟩) (by show w.heap.size+1≠w.heap.size+1+1;omega) _).trans (a7.1)))),((cell_far (p:=⟨w.heap.size+1+1,_,none⟩) (by show w.heap.size≠w.heap.size+1+1;omega) _).trans (((cell_far (p:=⟨w.heap.size+1+1,_,none⟩) (by show w.heap.size≠w.heap.size+1+1;omega) _).trans (a7.2))))⟩ (fun a7=>?_));(clear hK K);(refine pu 7 5 (bv 8 0) HT_ ?_);(refine done_ (done_of HT_.out (by kernel_rfl)) ?_);(try go_wp2)
   refine bodyPost_ret (results_ct rfl _ _ (w.heap.size+1+1) 25 #[.int .u64 m,.slice Ao ys.length co] (0,0) _ rfl (by refine blk_put (cs:=#[.int .u64 m,.slice none 0 0]) ?_ 1 _ rfl;refine blk_put (cs:=#[.int .u64 0,.slice none 0 0]) ?_ 0 _ rfl;exact E4.out) Tryz.underlying25 rfl (by kernel_rfl)) rfl ?_
   exact ⟨_,rfl,HY.out ▸ Kd.R_mono (Kd.R_far (p:=⟨w.heap.size+1+1,1,none⟩) (Kd.R_far (p:=⟨w.heap.size+1+1,0,none⟩) (Kd.R_types HO.out E4.out (by decide)) (fun _ hk=>hk.2) (.int .u64 m)) (fun _ hk=>hk.2) (.slice Ao ys.length co)) (fun _ hk=>trivial),below_set (below_set HE.out (by omega)) (by omega)⟩
  ·rw [if_pos rfl,if_neg hl] at h;cases h

/-! ### merge_set_raised: function 40 -/
def merge_set_raised.f (k:Nat) (a6:Int) (e6:List Int) (a1:Int):Option (Int×List Int):=(lsns_Raise.f k a6 e6 a1).bind fun dc9=>(some (dc9.1,dc9.2.1))
set_option maxHeartbeats 8000000 in
set_option maxRecDepth 100000 in
theorem merge_set_raised.calls (k:Nat) (a6:Int) (p3:Option Addr) (p5:Nat) (e6:List Int) (a1:Int) (r1:Int) (r2:List Int) (w:World) (Q0:Kd.C (Kd.int .u64) w p3 e6.length e6) (R6:e6.length≤p5) (h:merge_set_raised.f k a6 e6 a1=some (r1,r2)):
  Calls Tryz.prog 40 #[.agg #[.int .u64 a6,.slice p3 e6.length p5],.int .u64 a1] w fun e w'=>∃ v1_:Value,e=.returned (.agg #[.int .u64 r1,v1_])∧Kd.R (Kd.int .u64) 22 w' w.heap.size (fun _=>True) v1_ r2∧Below w.heap.size w w':=by
 (have hu79:=Tryz.underlying79);(have hu25:=Tryz.underlying25);(have N2:=Aside0.mk Q0);(have ak1:=Aside0.mk R6);(clear Q0 R6);(have HB:=Aside0.mk (Below.refl w.heap.size w));(unfold merge_set_raised.f at h);(have H:=h);(clear h);(replace H:=bs H);(obtain ⟨⟨dz0,dz1,eu9⟩,A3,H⟩:=H);(simp only [Option.some.injEq,Prod.mk.injEq] at H);(obtain ⟨rfl,rfl⟩:=H);(go_enter Tryz.func40,Tryz.ntmps40);(go_wp2_with (first|((with_reducible refine gate_dst (N:=2) rfl ?_);refine bx (N:=2) (cs:=#[.int .u64 a6,.slice p3 e6.length p5]) (t:=79) ⟨mvW HB.out⟩ ?_;clear HB;intro fu3 hg w4 hb af6 el9 HB;have fu4:=el9;clear hb hg)|((with_reducible refine gate_dst (N:=4) rfl ?_);refine bx (N:=4) (cs:=#[.int .u64 0,.slice none 0 0]) (t:=25) ⟨mvW HB.out⟩ ?_;clear HB;intro dd0 hg w5 hb an2 em0 HB;have fu5:=em0;have ct6:=nbl hg af6;have ct7:=nbg hg af6;replace af6:=bb af6 hb;clear hb hg;have gd6:=ct6.out;have hnc6:=ct7.out;have Z7:=b2 af6)|((with_reducible refine gate_callee (f:=76) rfl ?_);refine goesL_ (some 10) rfl rfl Tryz.func76 (by kernel_rfl) rfl #[.agg #[.int .u64 a6,.slice p3 e6.length p5],.int .u64 a1] rfl am ?_;(with_reducible refine (lsns_Raise.calls k a6 _ _ e6 a1 dz0 dz1 eu9 _ ?_ ?_ A3.out).mono ?_);(exact mvC (Kd.C_below N2.out HB.out));(exact ak1.out);rintro e w8 ⟨gd7,rfl,i3,hb⟩;refine ⟨_,rfl,?_⟩;have by7:=Aside0.mk (Kd.R_lower i3 (below_size (mvW HB.out)));replace af6:=bb af6 hb;replace an2:=bb an2 hb;replace HB:=sb HB hb)|((with_reducible refine gate_dst (N:=5) rfl ?_);refine bx (N:=5) (cs:=#[.int .u64 0,.slice none 0 0]) (t:=25) ⟨mvW HB.out⟩ ?_;clear HB;intro em1 hg w9 hb dd1 em2 HB;have fu6:=em2;replace by7:=rb by7 hb;have ct8:=nbl hg af6;have ct9:=nbg hg af6;replace af6:=bb af6 hb;have cu0:=nbl hg an2;have cu1:=nbg hg an2;replace an2:=bb an2 hb;clear hb hg;have by0:=ct9.out;have hnc10:=ct8.out;have fu7:=cu1.out;have hnc11:=cu0.out;have Z12:=b2 dd1;obtain ⟨ds5,ds6,eo13⟩:=Kd.R_slice by7.out;subst eo13;have Z14:=b2 an2)));(refine bodyPost_ret (results_cell_row rfl _ _ dd0 25 #[.int .u64 dz0,.slice ds5 dz1.length ds6] (0,0) _ rfl (mvP an2.out) Tryz.underlying25 rfl (by kernel_rfl)) rfl ?_);(exact ⟨_,rv,Kd.R_mono (fr2 dd0 em1 (Kd.R_types (Kd.R_types by7.out dd1.out (by decide)) an2.out (by decide)) (fun _ hk=>hk.2) (fun _ hk=>hk.1.2)) (fun _ hk=>trivial),mvW HB.out⟩)

/-! ### lsns_Join: function 41 -/
def lsns_Join_l (l m:List Int):List Int:=Go.Lib.compact (sortL (l++m))
/-- Join, whole: both are right, the lows are one: both rows, one behind the other, sorted, each number once. -/
def lsns_Join.f (k:Nat) (a6:Int) (e6:List Int) (f9:Int) (Q5:List Int):Option (Int×List Int×Int):=
 (lsns_Right.f k a6 e6).bind fun b=>(lsns_Right.f k f9 Q5).bind fun c=>if b=true∧c=true then
  (if a6=f9 then (if e6.length+Q5.length < 17592186044416 then (if 1000 < (lsns_Join_l e6 Q5).length then some (0,[],6) else some (a6,lsns_Join_l e6 Q5,0)) else none) else some (0,[],9)) else some (0,[],40)
set_option maxHeartbeats 4000000 in
set_option maxRecDepth 100000 in
theorem lsns_Join.calls (k:Nat) (a6:Int) (p3:Option Addr) (p5:Nat) (e6:List Int) (f9:Int) (bd0:Option Addr) (bd1:Nat) (Q5:List Int) (r1:Int) (r2:List Int) (r3:Int) (w:World) (Q0:Kd.C (Kd.int .u64) w p3 e6.length e6) (R6:e6.length≤p5) (dd2:Kd.C (Kd.int .u64) w bd0 Q5.length Q5) (em3:Q5.length≤bd1) (h:lsns_Join.f k a6 e6 f9 Q5=some (r1,r2,r3)):
  Calls Tryz.prog 41 #[.agg #[.int .u64 a6,.slice p3 e6.length p5],.agg #[.int .u64 f9,.slice bd0 Q5.length bd1]] w fun e w'=>∃ v1_:Value,e=.returned (.tuple #[.agg #[.int .u64 r1,v1_],.int .i64 r3])∧Kd.R (Kd.int .u64) 22 w' w.heap.size (fun _=>True) v1_ r2∧Below w.heap.size w w':=by
 obtain ⟨b,hb,h⟩:=Option.bind_eq_some_iff.1 h
 obtain ⟨c,hc,h⟩:=Option.bind_eq_some_iff.1 h
 have hu25:=Tryz.underlying25
 have HR:=Aside0.mk Q0
 have HR2:=Aside0.mk dd2
 have HRight:=Aside0.mk hb
 have HRight2:=Aside0.mk hc
 clear Q0 hb dd2 hc
 obtain ⟨W0,hW0⟩:∃ W0,W0=((w.alloc (.cells #[.int .u64 a6,.slice p3 e6.length p5] 25)).alloc (.cells #[.int .u64 f9,.slice bd0 Q5.length bd1] 25)).alloc (.cells #[.int .u64 0,.slice none 0 0] 25):=⟨_,rfl⟩
 have hB0:Below w.heap.size w W0:=by rw [hW0];exact below_alloc (below_alloc (below_alloc (Below.refl _ _) _) _) _
 have b2:W0.heap[w.heap.size]? =some (.cells #[.int .u64 a6,.slice p3 e6.length p5] 25 (0,0)):=by
  rw [hW0];exact blk_alloc (blk_alloc (blk_new w _) _) _
 have b3:W0.heap[w.heap.size+1]? =some (.cells #[.int .u64 f9,.slice bd0 Q5.length bd1] 25 (0,0)):=by
  have hb:=blk_new (w.alloc (.cells #[.int .u64 a6,.slice p3 e6.length p5] 25)) (.cells #[.int .u64 f9,.slice bd0 Q5.length bd1] 25)
  rw [World.size_alloc] at hb
  rw [hW0];exact blk_alloc hb _
 have b4:W0.heap[w.heap.size+1+1]? =some (.cells #[.int .u64 0,.slice none 0 0] 25 (0,0)):=by
  have hb:=blk_new ((w.alloc (.cells #[.int .u64 a6,.slice p3 e6.length p5] 25)).alloc (.cells #[.int .u64 f9,.slice bd0 Q5.length bd1] 25)) (.cells #[.int .u64 0,.slice none 0 0] 25)
  rw [World.size_alloc,World.size_alloc] at hb
  rw [hW0];exact hb
 have hs0:W0.heap.size=w.heap.size+1+1+1:=by rw [hW0,World.size_alloc,World.size_alloc,World.size_alloc]
 have HS0:=Aside0.mk hs0
 have hc1:=lsns_Right.calls k a6 p3 p5 e6 b W0 (Kd.C_below HR.out hB0) R6 HRight.out
 have T0:=Aside0.mk hB0
 have hc2:=fun (w1:World) (hb:Below W0.heap.size W0 w1)=>lsns_Right.calls k f9 bd0 bd1 Q5 c w1 (Kd.C_below HR2.out (below_step T0.out hb)) em3 HRight2.out
 have HC2:=Aside0.mk hc2
 have B2:=Aside0.mk b2
 have B3:=Aside0.mk b3
 have B4:=Aside0.mk b4
 clear b2 b3 b4 hB0 hc2 hs0
 cases b
 ·rw [if_neg (by simp)] at h
  simp only [Option.some.injEq,Prod.mk.injEq] at h
  obtain ⟨rfl,rfl,rfl⟩:=h
  go_enter Tryz.func41,Tryz.ntmps41
  go_wp2_with (go_at_call 66;rw [← hW0];refine hc1.mono ?_;rintro e w1 ⟨rfl,hb⟩;have I1:=Aside0.mk (below_step T0.out hb);have D4:=Aside0.mk (blk_below B4.out hb);clear hb;have hz0:=(blk_cell D4.out 0).trans rfl;have hz1:=(blk_cell D4.out 1).trans rfl;have hf0:=blk_frozen D4.out 0;have hf1:=blk_frozen D4.out 1)
  refine bodyPost_ret (results_ct rfl _ _ (w.heap.size+1+1) 25 #[.int .u64 0,.slice none 0 0] (0,0) _ rfl (by refine blk_put (cs:=#[.int .u64 0,.slice none 0 0]) ?_ 1 _ rfl;refine blk_put (cs:=#[.int .u64 0,.slice none 0 0]) ?_ 0 _ rfl;exact D4.out) Tryz.underlying25 rfl (by kernel_rfl)) rfl ?_
  exact ⟨_,rfl,Kd.R_nil _ _ _ _ _,below_set (below_set I1.out (by omega)) (by omega)⟩
 cases c
 ·rw [if_neg (by simp)] at h
  simp only [Option.some.injEq,Prod.mk.injEq] at h
  obtain ⟨rfl,rfl,rfl⟩:=h
  go_enter Tryz.func41,Tryz.ntmps41
  go_wp2_with (first|(go_at_call 66;rw [← hW0];refine hc1.mono ?_;rintro e w1 ⟨rfl,hb⟩;have HBX:=Aside0.mk hb;have I1:=Aside0.mk (below_step T0.out hb);have C3:=Aside0.mk (blk_below B3.out hb);have C4:=Aside0.mk (blk_below B4.out hb);clear hb;have hz3:=(blk_cell C3.out 0).trans rfl;have hy3:=(blk_cell C3.out 1).trans rfl)|(go_at_call 66;refine (HC2.out _ HBX.out).mono ?_;rintro e w2 ⟨rfl,hb⟩;have S4:=Aside0.mk (below_step I1.out hb);have D4:=Aside0.mk (blk_below C4.out hb);clear hb;have hz0:=(blk_cell D4.out 0).trans rfl;have hz1:=(blk_cell D4.out 1).trans rfl;have hf0:=blk_frozen D4.out 0;have hf1:=blk_frozen D4.out 1))
  refine bodyPost_ret (results_ct rfl _ _ (w.heap.size+1+1) 25 #[.int .u64 0,.slice none 0 0] (0,0) _ rfl (by refine blk_put (cs:=#[.int .u64 0,.slice none 0 0]) ?_ 1 _ rfl;refine blk_put (cs:=#[.int .u64 0,.slice none 0 0]) ?_ 0 _ rfl;exact D4.out) Tryz.underlying25 rfl (by kernel_rfl)) rfl ?_
  exact ⟨_,rfl,Kd.R_nil _ _ _ _ _,below_set (below_set S4.out (by omega)) (by omega)⟩
 rw [if_pos ⟨rfl,rfl⟩] at h
 by_cases he:a6=f9
 ·rw [if_pos he] at h
  by_cases hl:e6.length+Q5.length < 17592186044416
  ·rw [if_pos hl] at h
   have heb:(a6 != f9)=false:=by rw [he];simp
   have HE:=Aside0.mk he
   have HL:=Aside0.mk hl
   have HF:=Aside0.mk h
   clear he hl h
   go_enter Tryz.func41,Tryz.ntmps41
   go_wp2_with (first|(go_at_call 66;rw [← hW0];refine hc1.mono ?_;rintro e w1 ⟨rfl,hb⟩;have HBX:=Aside0.mk hb;have I1:=Aside0.mk (below_step T0.out hb);have C2:=Aside0.mk (blk_below B2.out hb);have C3:=Aside0.mk (blk_below B3.out hb);have C4:=Aside0.mk (blk_below B4.out hb);clear hb;have hz3:=(blk_cell C3.out 0).trans rfl;have hy3:=(blk_cell C3.out 1).trans rfl;have hz2:=(blk_cell C2.out 0).trans rfl;have hy2:=(blk_cell C2.out 1).trans rfl)|(go_at_call 66;refine (HC2.out _ HBX.out).mono ?_;rintro e w2 ⟨rfl,hb⟩;have HS2:=Aside0.mk (Nat.le_trans (Nat.le_of_eq HS0.out.symm) (Nat.le_trans HBX.out.size hb.size));have S4:=Aside0.mk (below_step I1.out hb);have D2:=Aside0.mk (blk_below C2.out hb);have D3:=Aside0.mk (blk_below C3.out hb);have D4:=Aside0.mk (blk_below C4.out hb);clear hb;have gz3:=(blk_cell D3.out 0).trans rfl;have gy3:=(blk_cell D3.out 1).trans rfl;have gz2:=(blk_cell D2.out 0).trans rfl;have gy2:=(blk_cell D2.out 1).trans rfl)|(go_at_call 77;refine (concatU w2.heap.size p3 bd0 p5 bd1 e6 Q5 _ (blk_new w2 _) (Kd.C_below HR.out (below_alloc S4.out _)) (Kd.C_below HR2.out (below_alloc S4.out _)) HL.out).mono ?_;rintro e w3 ⟨v3,rfl,ho3,hb3⟩;have HO3:=Aside0.mk ho3;have HZ3:=Aside0.mk hb3;clear ho3 hb3)|(go_at_call 78;refine (sortU.calls (fun _=>True) v3 (e6++Q5) (sortL (e6++Q5)) _ w3 HZ3.out HO3.out (if_pos (by have:=HL.out;rw [List.length_append];omega))).mono ?_;rintro e w4 ⟨rfl,ho4,hb4,hk4⟩;have HO4:=Aside0.mk ho4;have HZ4:=Aside0.mk hb4;clear ho4 hb4 hk4)|(go_at_call 79;refine (compactU_R (by have:=HL.out;rw [sortL_length,List.length_append];omega) HZ4.out.size HO4.out).mono ?_;rintro e w5 ⟨v5,rfl,ho5,hb5⟩;have HZ5:=Aside0.mk (HZ4.out.trans hb5);obtain ⟨A5,c5,e5⟩:=own_slice ho5;have HO5:=Aside0.mk ho5;clear ho5 hb5;subst e5;have E2:=Aside0.mk (blk_below (blk_alloc D2.out _) HZ5.out);have E3:=Aside0.mk (blk_below (blk_alloc D3.out _) HZ5.out);have E4:=Aside0.mk (blk_below (blk_alloc D4.out _) HZ5.out);have hz0:=(blk_cell E4.out 0).trans rfl;have hz1:=(blk_cell E4.out 1).trans rfl;have hf0:=blk_frozen E4.out 0;have hf1:=blk_frozen E4.out 1;have kz2:=(blk_cell E2.out 0).trans rfl))
   ·have hq:1000 < (lsns_Join_l e6 Q5).length:=by unfold lsns_Join_l;omega
    have hF:=HF.out
    rw [if_pos hq] at hF
    simp only [Option.some.injEq,Prod.mk.injEq] at hF
    obtain ⟨rfl,rfl,rfl⟩:=hF
    have HB5:=below_step (below_alloc S4.out _) HZ5.out
    refine bodyPost_ret (results_ct rfl _ _ (w.heap.size+1+1) 25 #[.int .u64 0,.slice none 0 0] (0,0) _ rfl (by refine blk_put (cs:=#[.int .u64 0,.slice none 0 0]) ?_ 1 _ rfl;refine blk_put (cs:=#[.int .u64 0,.slice none 0 0]) ?_ 0 _ rfl;exact E4.out) Tryz.underlying25 rfl (by kernel_rfl)) rfl ?_
    exact ⟨_,rfl,Kd.R_nil _ _ _ _ _,below_set (below_set HB5 (by omega)) (by omega)⟩
   ·have hq:¬ 1000 < (lsns_Join_l e6 Q5).length:=by unfold lsns_Join_l;omega
    have hF:=HF.out
    rw [if_neg hq] at hF
    simp only [Option.some.injEq,Prod.mk.injEq] at hF
    obtain ⟨rfl,rfl,rfl⟩:=hF
    have HB5:=below_step (below_alloc S4.out _) HZ5.out
    have hO:Kd.R (Kd.int .u64) 22 ((w5.setCell ⟨w.heap.size+1+1,0,none⟩ (.int .u64 a6)).setCell ⟨w.heap.size+1+1,1,none⟩ (.slice A5 (Go.Lib.compact (sortL (e6++Q5))).length c5)) w.heap.size (fun _=>True) (.slice A5 (Go.Lib.compact (sortL (e6++Q5))).length c5) (Go.Lib.compact (sortL (e6++Q5))):=by
     rcases own_opened HO5.out with ⟨e1,e2⟩|⟨g,cap,cur,e1,_,hb,hg,h1,h2,h3,h4⟩
     ·rw [e1,e2];exact Kd.R_nil _ _ _ _ _
     ·rw [World.size_alloc] at hb
      have hs:=HS2.out
      rw [e1]
      exact own_closed _ trivial (by omega) (blk_far (blk_far hg (p:=⟨w.heap.size+1+1,0,none⟩) (by show g≠w.heap.size+1+1;omega) _) (p:=⟨w.heap.size+1+1,1,none⟩) (by show g≠w.heap.size+1+1;omega) _) h1 h2 h3 h4
    refine bodyPost_ret (results_ct rfl _ _ (w.heap.size+1+1) 25 #[.int .u64 a6,.slice A5 (Go.Lib.compact (sortL (e6++Q5))).length c5] (0,0) _ rfl (by refine blk_put (cs:=#[.int .u64 a6,.slice none 0 0]) ?_ 1 _ rfl;refine blk_put (cs:=#[.int .u64 0,.slice none 0 0]) ?_ 0 _ rfl;exact E4.out) Tryz.underlying25 rfl (by kernel_rfl)) rfl ?_
    exact ⟨_,rfl,hO,below_set (below_set HB5 (by omega)) (by omega)⟩
  ·rw [if_neg hl] at h
   cases h
 ·rw [if_neg he] at h
  simp only [Option.some.injEq,Prod.mk.injEq] at h
  obtain ⟨rfl,rfl,rfl⟩:=h
  have hneb:=bne_iff_ne.mpr he
  clear he
  go_enter Tryz.func41,Tryz.ntmps41
  go_wp2_with (first|(go_at_call 66;rw [← hW0];refine hc1.mono ?_;rintro e w1 ⟨rfl,hb⟩;have HBX:=Aside0.mk hb;have I1:=Aside0.mk (below_step T0.out hb);have C2:=Aside0.mk (blk_below B2.out hb);have C3:=Aside0.mk (blk_below B3.out hb);have C4:=Aside0.mk (blk_below B4.out hb);clear hb;have hz3:=(blk_cell C3.out 0).trans rfl;have hy3:=(blk_cell C3.out 1).trans rfl;have hz2:=(blk_cell C2.out 0).trans rfl;have hy2:=(blk_cell C2.out 1).trans rfl)|(go_at_call 66;refine (HC2.out _ HBX.out).mono ?_;rintro e w2 ⟨rfl,hb⟩;have S4:=Aside0.mk (below_step I1.out hb);have D2:=Aside0.mk (blk_below C2.out hb);have D3:=Aside0.mk (blk_below C3.out hb);have D4:=Aside0.mk (blk_below C4.out hb);clear hb;have gz3:=(blk_cell D3.out 0).trans rfl;have gz2:=(blk_cell D2.out 0).trans rfl;have hz0:=(blk_cell D4.out 0).trans rfl;have hz1:=(blk_cell D4.out 1).trans rfl;have hf0:=blk_frozen D4.out 0;have hf1:=blk_frozen D4.out 1))
  refine bodyPost_ret (results_ct rfl _ _ (w.heap.size+1+1) 25 #[.int .u64 0,.slice none 0 0] (0,0) _ rfl (by refine blk_put (cs:=#[.int .u64 0,.slice none 0 0]) ?_ 1 _ rfl;refine blk_put (cs:=#[.int .u64 0,.slice none 0 0]) ?_ 0 _ rfl;exact D4.out) Tryz.underlying25 rfl (by kernel_rfl)) rfl ?_
  exact ⟨_,rfl,Kd.R_nil _ _ _ _ _,below_set (below_set S4.out (by omega)) (by omega)⟩

/-! ### merge_Join: function 10 -/
theorem blk_new_at {w:World} {o:Obj} {b:Nat} (h:b=w.heap.size):(w.alloc o).heap[b]? =some o:=h ▸ blk_new w o
/-- A call of a function value that is bound to its first arguments, in a plain region. -/
theorem goesF_ {P:Program} {ops:Array Oper} {Q:Exit→Act→World→Prop} {rest:List Oper} {oi:Oper} {a:Act} {w:World} (N:Option Tmp) (hd:oi.dst=N) (hg:oi.guard=none) {f:FuncId} {fn:Func} {as_:Array Operand} {ts:Array TypeId} {j:Tmp} {first:Array Value} (hf:P.funcs[f]? =some fn) (hname:(fn.name== "runtime.NumGoroutine")=false) (hb:fn.body.isSome=true) (args:Array Value)
  (hop:oi.op=.call { callee:=.value (.tmp j),args:=as_,argTypes:=ts }) (hv:a.eval (.tmp j)=.func (.func f) first #[]) (hargs:first++as_.map a.eval=args)
  (h:Calls P f args w fun e w'=>∃ v,e=.returned v∧wpList P ops Q rest (a.put N v) w'):wpList P ops Q (oi::rest) a w:=by
 refine wpList_plain hg fun K hK=>?_
 have he:=enters_ hf hname hb args w
 have hrun:(execOp a.eval oi).run P w=.ok (.enter f args) w:=by
  unfold execOp
  simp [hop,resolve,Deferred.ofValue,invoke,hv,hargs,he]
 unfold Oper.wp
 rw [hrun,Oper.upon_enter]
 refine h.mono fun e w'' hh=>?_
 obtain ⟨v,rfl,hk⟩:=hh
 subst hd
 exact hK _ _ hk
mutual
def merge_Join.j0:Nat→Int→Int→Bool→Int→Int→Int→ByteArray→ByteArray→Bool→Int→Int→List Int→List (S42)→Int→Int→Int→ByteArray→ByteArray→Bool→Int→Int→List Int→List (S42)→Option (Int×Int×Int×ByteArray×ByteArray×Bool×Int×Int×List Int×(List (S42))×Int)
 |0,_,_,_,_,_,_,_,_,_,_,_,_,_,_,_,_,_,_,_,_,_,_,_=>none
 |k+1,x2,x3,x15,aj2,bg3,ac9,aj3,bg4,bg5,bg6,aa1,ao1,au9,bg7,aj4,bg8,bg9,aj5,aj6,bh0,ao2,av0,av1=>if x15=true then (some (0,0,0,(⟨#[]⟩:ByteArray),(⟨#[]⟩:ByteArray),false,0,0,([]:List Int),([]:List (S42)),110)) else ((merge_Beside.f k aj2 bg3 ac9 aj3 bg4 bg5 bg6 aa1 ao1 au9 bg7 aj4 bg8 bg9 aj5 aj6 bh0 ao2 av0 av1).bind fun dz3=>(if dz3=true then ((slices_Clone_uint64_uint64.f ao1).bind fun J5=>((api_Cell.f k au9 av1).bind fun am3=>(if ac9 > 0 then (some (aj2,aj4,ac9,aj3,aj5,aj6,x3,aa1,J5,am3,0)) else (if aa1 > x2 then (merge_Join.j1 k x2 true aj2 bg3 ac9 aj3 bg4 bg5 bg6 aa1 ao1 au9 bg7 aj4 bg8 bg9 aj5 aj6 bh0 ao2 av0 av1 aj2 aj4 ac9 aj3 aj5 aj6 x3 aa1 J5 am3) else (merge_Join.j1 k x2 (decide (ao2 > x2)) aj2 bg3 ac9 aj3 bg4 bg5 bg6 aa1 ao1 au9 bg7 aj4 bg8 bg9 aj5 aj6 bh0 ao2 av0 av1 aj2 aj4 ac9 aj3 aj5 aj6 x3 aa1 J5 am3))))) else (some (0,0,0,(⟨#[]⟩:ByteArray),(⟨#[]⟩:ByteArray),false,0,0,([]:List Int),([]:List (S42)),140))))
def merge_Join.j1:Nat→Int→Bool→Int→Int→Int→ByteArray→ByteArray→Bool→Int→Int→List Int→List (S42)→Int→Int→Int→ByteArray→ByteArray→Bool→Int→Int→List Int→List (S42)→Int→Int→Int→ByteArray→ByteArray→Bool→Int→Int→List Int→List (S42)→Option (Int×Int×Int×ByteArray×ByteArray×Bool×Int×Int×List Int×(List (S42))×Int)
 |0,_,_,_,_,_,_,_,_,_,_,_,_,_,_,_,_,_,_,_,_,_,_,_,_,_,_,_,_,_,_,_,_=>none
 |k+1,x2,x78,aj2,bg3,ac9,aj3,bg4,bg5,bg6,aa1,ao1,au9,bg7,aj4,bg8,bg9,aj5,aj6,bh0,ao2,av0,av1,dm6,dm7,dm8,dm9,dn0,dn1,dn2,fa8,fa9,dn3=>if x78=true then (some (0,0,0,(⟨#[]⟩:ByteArray),(⟨#[]⟩:ByteArray),false,0,0,([]:List Int),([]:List (S42)),9)) else ((merge_set_raised.f k aa1 ao1 x2).bind fun dd3=>((merge_set_raised.f k ao2 av0 x2).bind fun dd4=>((lsns_Join.f k dd3.1 dd3.2 dd4.1 dd4.2).bind fun by8=>(if by8.2.2=0 then (some (dm6,dm7,dm8,dm9,dn0,dn1,dn2,by8.1,by8.2.1,dn3,0)) else (some (0,0,0,(⟨#[]⟩:ByteArray),(⟨#[]⟩:ByteArray),false,0,0,([]:List Int),([]:List (S42)),by8.2.2))))))
end
def merge_Join.f (k:Nat) (a6:Int) (b0:Int) (b5:Int) (b9:ByteArray) (d1:ByteArray) (d2:Bool) (d3:Int) (d0:Int) (b7:List Int) (a8:List (S42)) (f9:Int) (i4:Int) (i5:Int) (i9:ByteArray) (k5:ByteArray) (k6:Bool) (k8:Int) (j9:Int) (i6:List Int) (i7:List (S42)) (a2:Int) (a3:Int):Option (Int×Int×Int×ByteArray×ByteArray×Bool×Int×Int×List Int×(List (S42))×Int):=(page_Check.f k a6 b0 b5 b9 d1 d2 d3 d0 b7 a8).bind fun U1=>((page_Check.f k f9 i4 i5 i9 k5 k6 k8 j9 i6 i7).bind fun U2=>((api_Errno.f k 0 (([U1,U2]:List Int))).bind fun bu8=>(if bu8=true then (if a3 > 281474976710656 then (merge_Join.j0 k a2 a3 true a6 b0 b5 b9 d1 d2 d3 d0 b7 a8 f9 i4 i5 i9 k5 k6 k8 j9 i6 i7) else (merge_Join.j0 k a2 a3 (decide (a2 > 281474976710656)) a6 b0 b5 b9 d1 d2 d3 d0 b7 a8 f9 i4 i5 i9 k5 k6 k8 j9 i6 i7)) else (merge_Join.j0 k a2 a3 true a6 b0 b5 b9 d1 d2 d3 d0 b7 a8 f9 i4 i5 i9 k5 k6 k8 j9 i6 i7))))
end Go.Proofs.YtmfaopjfdedheaaGreat.F
