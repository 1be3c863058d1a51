-- PRINTED by print.py (a twelfth state) out of the translation. Not trusted: Lean checks it.
import Derived.Test.YtmfaopjfdedheaaGreatSq
import Derived.Test.YtmfaopjfdedheaaGreatSh
import Derived.Test.YtmfaopjfdedheaaGreatMv
import Derived.Test.YtmfaopjfdedheaaGreatTx0
import Derived.Test.YtmfaopjfdedheaaGreatTx2
import Derived.Test.YtmfaopjfdedheaaGreatTx3
namespace Go.Proofs.YtmfaopjfdedheaaGreat.T
open Go.RowKit Go.Proofs.YtmfaopjfdedheaaGreatW Go.Proofs.YtmfaopjfdedheaaGreatW.PrintWords Go.Proofs.YtmfaopjfdedheaaGreatW.PrintLast Go.Proofs.YtmfaopjfdedheaaGreatW.PrintMore
attribute [local go_sem] GpMore.bytes_le max2_int min2_int max_two min_two max_three min_three max_four min_four   -- for this text's walks alone
set_option linter.unusedVariables false
set_option maxHeartbeats 8000000
set_option maxRecDepth 100000
set_option linter.unusedSimpArgs false

/-! ### octet_Put: function 60 -/
def octet_Put.f (k:Nat) (l0:List Int) (a1:Int) (a2:Int):Option (List Int):=(octet_wide.f k a2 8).bind fun ee5=>(if ee5=true then ((octet_grown.f l0 a2).bind fun bt6=>((octet_lay.f k bt6 a1 a2).bind fun ee6=>(some ee6))) else ((octet_grown.f l0 0).bind fun ee7=>(some ee7)))
theorem octet_Put.calls (k:Nat) (A0:Option Addr) (c0:Nat) (l0:List Int) (a1:Int) (a2:Int) (r:List Int) (w:World) (hr0:Kd.C (Kd.int .u8) w A0 l0.length l0) (hc0:l0.length≤c0) (h:octet_Put.f k l0 a1 a2=some r):
  Calls Tryz.prog 60 #[.slice A0 l0.length c0,.int .u64 a1,.int .i64 a2] w fun e w'=>∃ v0_:Value,e=.returned (v0_)∧Kd.R (Kd.int .u8) 5 w' w.heap.size (fun _=>True) v0_ r∧Below w.heap.size w w':=by
 (have R7:=AM hr0);(have HC0:=AM hc0);(clear hr0 hc0);(have HB:=AM (Below.refl w.heap.size w));(have H:((octet_wide.f k a2 8).bind fun ee5=>(if ee5=true then ((octet_grown.f l0 a2).bind fun bt6=>((octet_lay.f k bt6 a1 a2).bind fun ee6=>(some ee6))) else ((octet_grown.f l0 0).bind fun ee7=>(some ee7))))=some r:=h);(clear h);(replace H:=Option.bind_eq_some_iff.mp H);(obtain ⟨ee5,A40,H⟩:=H);(have A4:=AM A40);(clear A40);(by_cases c5:ee5=true)
 ·(subst c5);(rw [if_pos rfl] at H);(replace H:=Option.bind_eq_some_iff.mp H);(obtain ⟨bt6,A60,H⟩:=H);(have A6:=AM A60);(clear A60);(replace H:=Option.bind_eq_some_iff.mp H);(obtain ⟨ee6,A70,H⟩:=H);(have A7:=AM A70);(clear A70);(obtain rfl:=Option.some.inj H);(go_enter Tryz.func60,Tryz.ntmps60);(go_wp2_with (first|((with_reducible refine gate_callee (f:=96) rfl ?_);refine goesL_ (some 9) rfl rfl Tryz.func96 (by kernel_rfl) rfl #[.int .i64 a2,.int .i64 8] rfl am ?_;(with_reducible refine (octet_wide.calls k a2 8 true _ A4.out).mono ?_);rintro e w' ⟨rfl,⟨nd,rfl⟩⟩;refine ⟨_,rfl,?_⟩)|((with_reducible refine gate_callee (f:=97) rfl ?_);refine goesL_ (some 15) rfl rfl Tryz.func97 (by kernel_rfl) rfl #[.slice A0 l0.length c0,.int .i64 a2] rfl am ?_;(with_reducible refine (octet_grown.calls _ _ l0 a2 bt6 _ ?side1 ?side2 A6.out).mono ?_);(case side1=>exact mvC R7.out);(case side2=>exact HC0.out);rintro e w8 ⟨pa3,rfl,m5,hb⟩;refine ⟨_,rfl,?_⟩;have cy2:=AM (Kd.R_lower m5 (below_size (mvW HB.out)));replace HB:=AM (below_step (mvW HB.out) hb);clear hb m5;obtain ⟨Ao9,co9,eo9⟩:=Kd.R_slice cy2.out;subst eo9)|((with_reducible refine gate_callee (f:=98) rfl ?_);refine goesL_ (some 19) rfl rfl Tryz.func98 (by kernel_rfl) rfl #[.slice Ao9 bt6.length co9,.int .u64 a1,.int .i64 a2] rfl am ?_;(with_reducible refine (octet_lay.calls k (fun k_=>some k_=(.slice Ao9 bt6.length co9:Value).ownBlock) (.slice Ao9 bt6.length co9) bt6 a1 a2 ee6 w _ ?side1 ?side2 A7.out).mono ?_);(case side1=>repeat (first|(with_reducible first|exact HB.out|apply below_alloc|apply pw_below_drewN|apply below_drew1)|exact HB.out));(case side2=>exact Kd.R_tight rfl cy2.out);rintro e w10 ⟨rfl,hy0,hb,hkp⟩;refine ⟨_,rfl,?_⟩;replace cy2:=AM (Kd.R_reok rfl hy0 (fun k_ e_=>cy2.out.1 k_ e_));replace HB:=AM (hb);(try clear hb);(try clear hkp);(try clear hy0))));(go_ret);(exact ⟨_,rv,mvR cy2.out,mvW HB.out⟩)
 ·(replace c5:=Bool.eq_false_iff.mpr c5);(subst c5);(rw [if_neg (by first|decide|simp)] at H);(replace H:=Option.bind_eq_some_iff.mp H);(obtain ⟨ee7,A110,H⟩:=H);(have A11:=AM A110);(clear A110);(obtain rfl:=Option.some.inj H);(go_enter Tryz.func60,Tryz.ntmps60);(go_wp2_with (first|((with_reducible refine gate_callee (f:=96) rfl ?_);refine goesL_ (some 9) rfl rfl Tryz.func96 (by kernel_rfl) rfl #[.int .i64 a2,.int .i64 8] rfl am ?_;(with_reducible refine (octet_wide.calls k a2 8 false _ A4.out).mono ?_);rintro e w' ⟨rfl,⟨nd,rfl⟩⟩;refine ⟨_,rfl,?_⟩)|((with_reducible refine gate_callee (f:=97) rfl ?_);refine goesL_ (some 12) rfl rfl Tryz.func97 (by kernel_rfl) rfl #[.slice A0 l0.length c0,.int .i64 0] rfl am ?_;(with_reducible refine (octet_grown.calls _ _ l0 0 ee7 _ ?side1 ?side2 A11.out).mono ?_);(case side1=>exact mvC R7.out);(case side2=>exact HC0.out);rintro e w12 ⟨pa4,rfl,m5,hb⟩;refine ⟨_,rfl,?_⟩;have jx8:=AM (Kd.R_lower m5 (below_size (mvW HB.out)));replace HB:=AM (below_step (mvW HB.out) hb);(try clear hb);(try clear hb2);(try clear hk);(try clear hi);(try clear m5))));(go_ret);(exact ⟨_,rv,mvR jx8.out,mvW HB.out⟩)

/-! ### page_Kid: function 33 -/
def page_Kid.f (k:Nat) (a0:Int):Option (ByteArray×Int):=if a0 < 1 then (some ((⟨#[]⟩:ByteArray),110)) else (if a0 > 400 then (some ((⟨#[]⟩:ByteArray),110)) else ((octet_Put.f k ([]:List Int) a0 8).bind fun ee8=>(some (strOfNums ee8,0))))
theorem page_Kid.calls (k:Nat) (a0:Int) (r1:ByteArray) (r2:Int) (w:World) (h:page_Kid.f k a0=some (r1,r2)):
  Calls Tryz.prog 33 #[.int .u64 a0] w fun e w'=>e=.returned (.tuple #[.string r1,.int .i64 r2])∧Below w.heap.size w w':=by
 (have HB:=AM (Below.refl w.heap.size w));(have H:(if a0 < 1 then (some ((⟨#[]⟩:ByteArray),110)) else (if a0 > 400 then (some ((⟨#[]⟩:ByteArray),110)) else ((octet_Put.f k ([]:List Int) a0 8).bind fun ee8=>(some (strOfNums ee8,0)))))=some (r1,r2):=h);(clear h);(by_cases c2:a0 < 1)
 ·(rw [if_pos c2] at H);(have ac7:=decide_eq_true c2);(clear c2);(simp only [Option.some.injEq,Prod.mk.injEq] at H);(obtain ⟨rfl,rfl⟩:=H);(go_enter Tryz.func33,Tryz.ntmps33);(go_wp2);(go_ret2);(exact ⟨rv,mvW HB.out⟩)
 ·(rw [if_neg c2] at H);(have ac7:decide (a0 < 1)=false:=decide_eq_false c2);(clear c2);(by_cases c3:a0 > 400)
  ·(rw [if_pos c3] at H);(have ad6:decide (400 < a0)=true:=decide_eq_true c3);(clear c3);(simp only [Option.some.injEq,Prod.mk.injEq] at H);(obtain ⟨rfl,rfl⟩:=H);(go_enter Tryz.func33,Tryz.ntmps33);(go_wp2);(go_ret2);(exact ⟨rv,mvW HB.out⟩)
  ·(rw [if_neg c3] at H);(have ad6:decide (400 < a0)=false:=decide_eq_false c3);(clear c3);(replace H:=Option.bind_eq_some_iff.mp H);(obtain ⟨ee8,A40,H⟩:=H);(have A4:=AM A40);(clear A40);(simp only [Option.some.injEq,Prod.mk.injEq] at H);(obtain ⟨rfl,rfl⟩:=H);(go_enter Tryz.func33,Tryz.ntmps33);(go_wp2_with (first|((with_reducible refine gate_callee (f:=60) rfl ?_);refine goesL_ (some 11) rfl rfl Tryz.func60 (by kernel_rfl) rfl #[.slice none 0 0,.int .u64 a0,.int .i64 8] rfl am ?_;(refine (octet_Put.calls k _ _ ([]:List Int) a0 8 ee8 _ ?side1 ?side2 A4.out).mono ?_);(case side1=>exact Kd.C_nil _ _);(case side2=>exact Nat.le_refl _);rintro e w5 ⟨pa5,rfl,m5,hb⟩;refine ⟨_,rfl,?_⟩;have jx9:=AM (Kd.R_lower m5 (below_size (mvW HB.out)));replace HB:=AM (below_step (mvW HB.out) hb);clear hb m5;have hcv6:=own_string (P:=Tryz.prog) Tryz.underlying109 Tryz.underlying5 Tryz.underlying9 (Kd.own_of_R jx9.out))));(go_ret2);(exact ⟨rv,mvW HB.out⟩)

/-! ### page_Id: function 48 -/
/-- Nothing but block g changes. -/
structure KB (w w':World) (g:Nat):Prop where
 keep:KeepBut w w' g none
 os:w'.os=w.os
 tape:w'.tape=w.tape
 output:w'.output=w.output
set_option maxHeartbeats 4000000 in
theorem KB.refl (w:World) (g:Nat):KB w w g:=⟨KeepBut.refl _ _ _,rfl,rfl,rfl⟩
set_option maxHeartbeats 4000000 in
theorem KB.of_below {w w1:World} (h:Below w.heap.size w w1) (g:Nat):KB w w1 g:=⟨KeepBut.of_below h g none,h.os,h.tape,h.output⟩
set_option maxHeartbeats 4000000 in
theorem KB.set_ {w w1:World} {g:Nat} (h:KB w w1 g) (j:Nat) (u:Value):KB w (w1.setCell ⟨g,j,none⟩ u) g:=⟨KeepBut.set_ h.keep j u,h.os,h.tape,h.output⟩
set_option maxHeartbeats 4000000 in
theorem KB.drew {w w1:World} {g:Nat} (h:KB w w1 g):KB w w1.drew g:=⟨keep_drew h.keep,h.os,h.tape,h.output⟩
set_option maxHeartbeats 4000000 in
theorem KB.far {w W:World} {g:Nat} (h:KB w W g) {p:Addr} (hp:w.heap.size≤p.block) (u:Value):KB w (W.setCell p u) g:=⟨keep_far h.keep hp u,h.os,h.tape,h.output⟩
set_option maxHeartbeats 4000000 in
theorem KB.blk {w w1:World} {g g':Nat} {o:Obj} (h:KB w w1 g) (hb:w.heap[g']? =some o) (hg:g'≠g):w1.heap[g']? =some o:=h.keep.blk hb hg (by simp)
set_option maxHeartbeats 4000000 in
theorem KB.comp {W w1 w2:World} {g:Nat} (hb:Below W.heap.size W w1) (h:KB w1 w2 g):KB W w2 g:=
 ⟨⟨Nat.le_trans hb.size h.keep.1,fun i hi hg hr=>(h.keep.2 i (Nat.lt_of_lt_of_le hi hb.size) hg hr).trans (hb.block i hi)⟩,h.os.trans hb.os,h.tape.trans hb.tape,h.output.trans hb.output⟩
set_option maxHeartbeats 4000000 in
theorem KB.comp2 {W w1 w2:World} {g g2:Nat} (h1:KB W w1 g) (h2:KB w1 w2 g2) (hg:W.heap.size≤g2):KB W w2 g:=
 ⟨⟨Nat.le_trans h1.keep.1 h2.keep.1,fun i hi hg' hr=>(h2.keep.2 i (Nat.lt_of_lt_of_le hi h1.keep.1) (by omega) hr).trans (h1.keep.2 i hi hg' hr)⟩,h2.os.trans h1.os,h2.tape.trans h1.tape,h2.output.trans h1.output⟩
set_option maxHeartbeats 4000000 in
theorem KB.below {W w1 w2:World} {B g:Nat} (hb:Below B W w1) (h:KB w1 w2 g) (hg:B≤g) (hs:B≤w1.heap.size):Below B W w2:=
 ⟨h.os.trans hb.os,h.tape.trans hb.tape,h.output.trans hb.output,Nat.le_trans hb.size h.keep.1,fun i hi=>(h.keep.2 i (by omega) (by omega) (by simp)).trans (hb.block i hi)⟩
set_option maxHeartbeats 4000000 in
theorem bad_calls (W:World) (g:Nat) (s:ByteArray) (p:Int) (lost made:Bool) (h:W.heap[g]? =some (.cells #[.string s,.int .i64 p,.bool lost,.bool made] 151 (0,0))):
  Calls Tryz.prog 126 #[.pointer (some ⟨g,0,none⟩)] W fun e w'=>e=.returned (.bool (!made||lost))∧w'=W:=by
 have h2:=(blk_cell h 2).trans rfl
 have h3:=(blk_cell h 3).trans rfl
 go_enter Tryz.func126,Tryz.ntmps126
 cases made
 ·go_wp2
  go_ret
  exact ⟨by simp,rfl⟩
 ·go_wp2
  go_ret
  exact ⟨by simp,rfl⟩
set_option maxHeartbeats 4000000 in
theorem left_calls (W:World) (g:Nat) (s:ByteArray) (p:Int) (lost:Bool) (h:W.heap[g]? =some (.cells #[.string s,.int .i64 p,.bool lost,.bool true] 151 (0,0))) (h0:0≤p) (h1:p≤s.size) (hs:s.size < 4611686018427387904):
  Calls Tryz.prog 127 #[.pointer (some ⟨g,0,none⟩)] W fun e w'=>e=.returned (.int .i64 (if lost then 0 else s.size - p))∧Below W.heap.size W w':=by
 have hb:=bad_calls W g s p lost true h
 have hz0:=(blk_cell h 0).trans rfl
 have hz1:=(blk_cell h 1).trans rfl
 have hw:wrap64 ((s.size:Int) - p)=(s.size:Int) - p:=by unfold wrap64;omega
 go_enter Tryz.func127,Tryz.ntmps127
 cases lost
 ·go_wp2_with (go_at_call 126;refine hb.mono ?_;rintro e w1 ⟨rfl,rfl⟩)
  go_region
  all_goals go_wp2
  all_goals go_ret
  all_goals exact ⟨by simp,below_drew1 (Below.refl _ _)⟩
 ·go_wp2_with (go_at_call 126;refine hb.mono ?_;rintro e w1 ⟨rfl,rfl⟩)
  go_ret
  exact ⟨by simp,Below.refl _ _⟩
/-- One more byte behind a number. -/
def nx (a b:Int):Int:=bits BinOp.or IntKind.u64 (IntKind.u64.wrap (a * 256)) (IntKind.u64.wrap b)
def numOf (s:ByteArray) (a:Int):Nat→Int
 |0=>a
 |j+1=>nx (numOf s a j) (bt s j)
set_option maxHeartbeats 4000000 in
theorem numclo_calls (W:World) (g:Nat) (s:ByteArray) (a:Int) (h:W.heap[g]? =some (.cells #[.int .u64 a] 22 (0,0))) (hs:s.size < 4611686018427387904):
  Calls Tryz.prog 111 (#[.string s]++#[.pointer (some ⟨g,0,none⟩)]) W fun e w'=>e=.returned (.tuple #[])∧w'.heap[g]? =some (.cells #[.int .u64 (numOf s a s.size)] 22 (0,0))∧KB W w' g:=by
 have HS:=AM hs
 have HG:=AM h
 clear hs h
 go_enter Tryz.func111,Tryz.ntmps111
 go_wp2
 go_loopg [6] s.size (fun kx s6 wr=>∃ (j:Nat),s6=.int .i64 j∧j≤s.size∧s.size - j≤kx∧Aside0 (wr.heap[g]? =some (.cells #[.int .u64 (numOf s a j)] 22 (0,0)))∧Aside0 (KB W wr g))
 case atStart=>exact ⟨0,rfl,Nat.zero_le _,Nat.le_refl _,HG,⟨KB.refl _ _⟩⟩
 case round=>
  obtain ⟨j,rfl,hj,hg,HB,HK⟩:=hrel
  by_cases hlt:j < s.size
  ·have hlt':(j:Int) < (s.size:Int):=by omega
   have hj1:wrap64 ((j:Int)+1)=((j+1:Nat):Int):=by have:=HS.out;unfold wrap64;omega
   have hn:=AM (show numOf s a (j+1)=nx (numOf s a j) (bt s j) from rfl)
   obtain ⟨x,hx⟩:∃ x,x=numOf s a j:=⟨_,rfl⟩
   rw [← hx] at HB hn
   clear hx
   have hz:=(blk_cell HB.out 0).trans rfl
   have hf:=blk_frozen HB.out 0
   go_wp2
   go_region
   all_goals go_wp2
   go_roundg (s.size - (j+1))
   case measure=>omega
   case rel=>
    have hb:bt s (j:Int)=((s[j]'hlt).toNat:Int):=by unfold bt;simp [hlt]
    refine ⟨j+1,by rw [hj1],by omega,Nat.le_refl _,⟨?_⟩,⟨KB.drew (KB.set_ HK.out 0 _)⟩⟩
    rw [hn.out,hb]
    exact blk_drew ((blk_set HB.out 0 _).trans rfl)
  ·obtain rfl:j=s.size:=by omega
   go_wp2
   go_end0
   exact ⟨rfl,HB.out,HK.out⟩
set_option maxHeartbeats 4000000 in
theorem want_lost (W:World) (g:Nat) (s:ByteArray) (p n:Int) (f:Value) (h:W.heap[g]? =some (.cells #[.string s,.int .i64 p,.bool true,.bool true] 151 (0,0))):
  Calls Tryz.prog 110 #[.pointer (some ⟨g,0,none⟩),.int .i64 n,f] W fun e w'=>e=.returned (.tuple #[])∧w'=W:=by
 have hb:=bad_calls W g s p true true h
 go_enter Tryz.func110,Tryz.ntmps110
 go_wp2_with (go_at_call 126;refine hb.mono ?_;rintro e w1 ⟨rfl,rfl⟩)
 go_end0
 exact ⟨rfl,rfl⟩
set_option maxHeartbeats 4000000 in
theorem want_short (W:World) (g:Nat) (s:ByteArray) (p n:Int) (f:Value) (h:W.heap[g]? =some (.cells #[.string s,.int .i64 p,.bool false,.bool true] 151 (0,0))) (h0:0≤p) (h1:p≤s.size) (hs:s.size < 4611686018427387904) (hn:n < 0∨n > s.size - p):
  Calls Tryz.prog 110 #[.pointer (some ⟨g,0,none⟩),.int .i64 n,f] W fun e w'=>e=.returned (.tuple #[])∧w'.heap[g]? =some (.cells #[.string s,.int .i64 p,.bool true,.bool true] 151 (0,0))∧KB W w' g:=by
 have hb:=bad_calls W g s p false true h
 have hl:=left_calls W g s p false h h0 h1 hs
 simp only [Bool.false_eq_true,if_false] at hl
 have HG:=AM h
 clear h
 by_cases hn0:n < 0
 ·have hfz:=blk_frozen HG.out 2
  have hfc:=(blk_cell HG.out 2).trans rfl
  go_enter Tryz.func110,Tryz.ntmps110
  go_wp2_with (first|(go_at_call 126;refine hb.mono ?_;rintro e w1 ⟨rfl,rfl⟩))
  go_end0
  exact ⟨rfl,(blk_set HG.out 2 _).trans rfl,KB.set_ (KB.refl _ _) 2 _⟩
 ·have hn2:=hn.resolve_left hn0
  clear hn
  go_enter Tryz.func110,Tryz.ntmps110
  go_wp2_with (first|(go_at_call 126;refine hb.mono ?_;rintro e w1 ⟨rfl,rfl⟩)|(go_at_call 127;refine hl.mono ?_;rintro e w2 ⟨rfl,hb2⟩;have HG2:=AM (blk_below HG.out hb2);have HK2:=AM (KB.of_below hb2 g);clear hb2;have hfz:=blk_frozen HG2.out 2;have hfc:=(blk_cell HG2.out 2).trans rfl))
  go_end0
  exact ⟨rfl,(blk_set HG2.out 2 _).trans rfl,KB.set_ HK2.out 2 _⟩
set_option maxHeartbeats 4000000 in
theorem want_ok (W:World) (g gc:Nat) (cb:Array Value) (s:ByteArray) (p n:Int) (Post:World→Prop) (eg:∀ args w,(callFunc gc args).run Tryz.prog w=.ok (.enter gc args) w) (h:W.heap[g]? =some (.cells #[.string s,.int .i64 p,.bool false,.bool true] 151 (0,0))) (h0:0≤p) (h1:p≤s.size) (hs:s.size < 4611686018427387904) (hn0:0≤n) (hn:n≤s.size - p)
  (hc:∀ W1:World,W1.heap[g]? =some (.cells #[.string s,.int .i64 (p+n),.bool false,.bool true] 151 (0,0))→KB W W1 g→Calls Tryz.prog gc (#[.string ((s.extract p.toNat s.size).extract 0 n.toNat)]++cb) W1 fun e w'=>e=.returned (.tuple #[])∧Post w'):
  Calls Tryz.prog 110 #[.pointer (some ⟨g,0,none⟩),.int .i64 n,.func (.func gc) #[] cb] W fun e w'=>e=.returned (.tuple #[])∧Post w':=by
 have hb:=bad_calls W g s p false true h
 have hl:=left_calls W g s p false h h0 h1 hs
 simp only [Bool.false_eq_true,if_false] at hl
 have HG:=AM h
 have HC:=AM hc
 have hw:wrap64 (p+n)=p+n:=by unfold wrap64;omega
 clear h hc
 go_enter Tryz.func110,Tryz.ntmps110
 go_wp2_with (first|(go_at_call 126;refine hb.mono ?_;rintro e w1 ⟨rfl,rfl⟩)|(go_at_call 127;refine hl.mono ?_;rintro e w2 ⟨rfl,hb2⟩;have HG2:=AM (blk_below HG.out hb2);have HK2:=AM (KB.of_below hb2 g);clear hb2;have hfz:=blk_frozen HG2.out 1;have hfc:=(blk_cell HG2.out 1).trans rfl;have hfd:=(blk_cell HG2.out 0).trans rfl))
 have hu9:=Tryz.underlying9
 have hp1:p≤(s.size:Int):=h1
 have hsz:((s.extract p.toNat s.size).size:Int)=s.size - p:=by rw [ByteArray.size_extract];omega
 have hn3:n≤((s.extract p.toNat s.size).size:Int):=by omega
 go_region
 all_goals go_wp2_with (go_at_fn gc;refine (HC.out _ (blk_drew ((blk_set HG2.out 1 _).trans rfl)) (KB.drew (KB.set_ HK2.out 1 _))).mono ?_;rintro e w3 ⟨rfl,hp3⟩)
 all_goals go_end0
 all_goals exact ⟨rfl,hp3⟩
set_option maxHeartbeats 4000000 in
theorem num_gen (k:Nat) (W:World) (g:Nat) (n x:Int) (O:Obj) (hw:octet_wide.f k n 8=some true) (hlt:g < W.heap.size)
  (hkey:∀ w1,Below W.heap.size W w1→w1.heap[W.heap.size]? =some (.cells #[.int .u64 0] 22 (0,0))→
   Calls Tryz.prog 110 #[.pointer (some ⟨g,0,none⟩),.int .i64 n,.func (.func 111) #[] #[.pointer (some ⟨W.heap.size,0,none⟩)]] w1 fun e w'=>e=.returned (.tuple #[])∧(w'.heap[g]? =some O∧w'.heap[W.heap.size]? =some (.cells #[.int .u64 x] 22 (0,0))∧KB W w' g)):
  Calls Tryz.prog 88 #[.pointer (some ⟨g,0,none⟩),.int .i64 n] W fun e w'=>e=.returned (.int .u64 x)∧w'.heap[g]? =some O∧KB W w' g:=by
 obtain ⟨W0,hW0⟩:∃ W0,W0=W.alloc (.cells #[.int .u64 0] 22):=⟨_,rfl⟩
 have hB0:Below W.heap.size W W0:=by rw [hW0];exact below_alloc (Below.refl _ _) _
 have hbn:W0.heap[W.heap.size]? =some (.cells #[.int .u64 0] 22 (0,0)):=by rw [hW0];exact blk_new W _
 have hwd:=octet_wide.calls k n 8 true W0 hw
 have HB0:=AM hB0
 have HN:=AM hbn
 have HX:=AM hlt
 have HK:=AM hkey
 clear hlt hB0 hbn hkey
 go_enter Tryz.func88,Tryz.ntmps88
 go_wp2_with (first|(go_at_call 96;rw [← hW0];refine hwd.mono ?_;rintro e w1 ⟨rfl,hbd⟩;have hb:=hbd.below;have HN1:=AM (blk_below HN.out hb);have I5:=AM (below_step HB0.out hb);clear hb hbd)|(go_at_call 110;refine (HK.out _ I5.out HN1.out).mono ?_;rintro e w2 ⟨rfl,hg3,hn3,hk3⟩;have HG2:=AM hg3;have HK2:=AM hk3;have HN2:=AM hn3;clear hg3 hn3 hk3;have hcn:=(blk_cell HN2.out 0).trans rfl;have hfn:=blk_frozen HN2.out 0))
 have hc3:(w2.setCell ⟨W.heap.size,0,none⟩ (.int .u64 x)).heap[W.heap.size]? =some (.cells #[.int .u64 x] 22 (0,0)):=(blk_set HN2.out 0 _).trans rfl
 have hc4:=(blk_cell hc3 0).trans rfl
 have hlt:=HX.out
 refine bodyPost_ret (v:=.int .u64 x) ?_ rfl ?_
 ·unfold results
  go_simp
 ·exact ⟨rfl,(Below.heap_setCell w2 ⟨W.heap.size,0,none⟩ _ g (by show g≠W.heap.size;omega)).trans HG2.out,KB.far HK2.out (p:=⟨W.heap.size,0,none⟩) (Nat.le_refl _) _⟩
/-- A reader's place, and whether it is lost, behind a number. -/
def rdP (s:ByteArray) (p:Int) (lost:Bool) (n:Int):Int:=if lost=true∨n > s.size - p then p else p+n
def rdL (s:ByteArray) (p:Int) (lost:Bool) (n:Int):Bool:=lost||decide (n > s.size - p)
def rdN (s:ByteArray) (p:Int) (lost:Bool) (n:Int):Int:=if lost=true∨n > s.size - p then 0 else numOf ((s.extract p.toNat s.size).extract 0 n.toNat) 0 n.toNat
set_option maxHeartbeats 4000000 in
theorem num_calls (k:Nat) (W:World) (g:Nat) (s:ByteArray) (p n:Int) (lost:Bool) (hw:octet_wide.f k n 8=some true) (h:W.heap[g]? =some (.cells #[.string s,.int .i64 p,.bool lost,.bool true] 151 (0,0))) (h0:0≤p) (h1:p≤s.size) (hs:s.size < 4611686018427387904) (hn0:0≤n):
  Calls Tryz.prog 88 #[.pointer (some ⟨g,0,none⟩),.int .i64 n] W fun e w'=>e=.returned (.int .u64 (rdN s p lost n))∧w'.heap[g]? =some (.cells #[.string s,.int .i64 (rdP s p lost n),.bool (rdL s p lost n),.bool true] 151 (0,0))∧KB W w' g:=by
 have hlt:=blk_lt h
 cases lost
 ·by_cases hn:n > s.size - p
  ·have e1:rdN s p false n=0:=by unfold rdN;rw [if_pos (.inr hn)]
   have e2:rdP s p false n=p:=by unfold rdP;rw [if_pos (.inr hn)]
   have e3:rdL s p false n=true:=by unfold rdL;simp only [Bool.false_or];exact decide_eq_true hn
   rw [e1,e2,e3]
   refine num_gen k W g n 0 _ hw hlt (fun w1 hb1 hn1=>?_)
   refine (want_short w1 g s p n _ (blk_below h hb1) h0 h1 hs (.inr hn)).mono ?_
   rintro e w2 ⟨rfl,hg2,hk2⟩
   exact ⟨rfl,hg2,hk2.blk hn1 (by omega),KB.comp hb1 hk2⟩
  ·have e1:rdN s p false n=numOf ((s.extract p.toNat s.size).extract 0 n.toNat) 0 n.toNat:=by unfold rdN;rw [if_neg (by simp;omega)]
   have e2:rdP s p false n=p+n:=by unfold rdP;rw [if_neg (by simp;omega)]
   have e3:rdL s p false n=false:=by unfold rdL;simp only [Bool.false_or];exact decide_eq_false hn
   rw [e1,e2,e3]
   generalize hsub:(s.extract p.toNat s.size).extract 0 n.toNat=sub
   have hsz:sub.size=n.toNat:=by rw [← hsub,ByteArray.size_extract,ByteArray.size_extract];omega
   refine num_gen k W g n _ _ hw hlt (fun w1 hb1 hn1=>?_)
   refine want_ok w1 g 111 #[.pointer (some ⟨W.heap.size,0,none⟩)] s p n _ (enters_of Tryz.func111 (by kernel_rfl) rfl) (blk_below h hb1) h0 h1 hs hn0 (by omega) (fun W1 hg2 hk1=>?_)
   rw [hsub]
   have hn2:W1.heap[W.heap.size]? =some (.cells #[.int .u64 0] 22 (0,0)):=hk1.blk hn1 (by omega)
   refine (numclo_calls W1 W.heap.size sub 0 hn2 (by omega)).mono ?_
   rintro e w2 ⟨rfl,hn3,hk2⟩
   rw [hsz] at hn3
   refine ⟨rfl,hk2.blk hg2 (by omega),hn3,?_⟩
   exact KB.comp2 (KB.comp hb1 hk1) hk2 (Nat.le_refl _)
 ·have e1:rdN s p true n=0:=by unfold rdN;rw [if_pos (.inl rfl)]
  have e2:rdP s p true n=p:=by unfold rdP;rw [if_pos (.inl rfl)]
  have e3:rdL s p true n=true:=rfl
  rw [e1,e2,e3]
  refine num_gen k W g n 0 _ hw hlt (fun w1 hb1 hn1=>?_)
  refine (want_lost w1 g s p n _ (blk_below h hb1)).mono ?_
  rintro e w2 ⟨rfl,rfl⟩
  exact ⟨rfl,blk_below h hb1,hn1,KB.of_below hb1 g⟩
def Hold (p:Prop):Prop:=p
set_option maxHeartbeats 4000000 in
theorem hold {p:Prop} (h:Hold p):p:=h
set_option maxHeartbeats 4000000 in
theorem open_calls (W:World) (A:Option Addr) (l:List Int) (c:Nat) (hr:Kd.C (Kd.int .u8) W A l.length l):
  Calls Tryz.prog 87 #[.slice A l.length c] W fun e w'=>∃ g,e=.returned (.pointer (some ⟨g,0,none⟩))∧W.heap.size≤g∧w'.heap[g]? =some (.cells #[.string (strOfNums l),.int .i64 0,.bool false,.bool true] 151 (0,0))∧Below W.heap.size W w':=by
 have hcv:=fun (w:World) (h:Below W.heap.size W w)=>Kd.C_string (P:=Tryz.prog) (src:=109) (dst:=9) (e:=5) (c:=c) Tryz.underlying109 Tryz.underlying5 Tryz.underlying9 (Kd.C_below hr h)
 have hcv0:=hcv W (Below.refl _ _)
 go_enter Tryz.func87,Tryz.ntmps87
 go_wp2
 go_ret
 exact ⟨_,rfl,Nat.le_refl _,blk_new _ _,below_alloc (Below.refl _ _) _⟩
set_option maxHeartbeats 4000000 in
theorem strOfNums_bytesOf (s:ByteArray):strOfNums (bytesOf s)=s:=by
 apply ByteArray.ext
 unfold strOfNums bytesOf
 rw [List.map_map]
 have e:((fun n:Int=>UInt8.ofNat n.toNat) ∘ fun b:UInt8=>((b.toNat:Nat):Int))=id:=by
  funext b
  simp
 rw [e,List.map_id]
theorem C_bytes (W:World) (e:TypeId) (s:ByteArray) (hs:s.size≤9223372036854775807):Kd.C (Kd.int .u8) (Lib.bytesWorld W e s) (some ⟨W.heap.size,0,none⟩) (bytesOf s).length (bytesOf s):=by
 refine ⟨rfl,by rw [bytesOf_length];exact hs,fun _=>⟨_,rfl,fun j p hp=>⟨[.int .u8 p],rfl,rfl,fun i u hu=>?_⟩⟩⟩
 obtain ⟨hj,e1⟩:=List.getElem?_eq_some_iff.1 hp
 have hj2:j < s.size:=by rw [bytesOf_length] at hj;exact hj
 match i,hu with
 |0,hu=>
  obtain rfl:=Option.some.inj hu
  have h:=Lib.bytesWorld_cell W e s j hj2
  have e2:(Addr.add ⟨W.heap.size,0,none⟩ (j * (Kd.int .u8).sz+0))=⟨W.heap.size,j,none⟩:=by
   rw [show j * (Kd.int .u8).sz+0=j from Nat.mul_one j]
   exact add_plain _ _
  rw [e2,h,← e1]
  have h':j < s.data.toList.length:=by rw [data_length];exact hj2
  simp [bytesOf,List.getD_eq_getElem?_getD,List.getElem?_eq_getElem h']
 |i+1,hu=>simp at hu
def page_Id.f (k:Nat) (a0:ByteArray):Option (Int×Int):=
 if a0.size < 140737488355328∧octet_wide.f k 8 8=some true then
  (page_Kid.f k (rdN a0 0 false 8)).bind fun t=>if t.2=0∧t.1.toList=a0.toList then some (rdN a0 0 false 8,0) else some (0,110)
 else none
set_option maxHeartbeats 4000000 in
theorem page_Id.calls (k:Nat) (a0:ByteArray) (r1:Int) (r2:Int) (w:World) (h:page_Id.f k a0=some (r1,r2)):
  Calls Tryz.prog 48 #[.string a0] w fun e w'=>e=.returned (.tuple #[.int .u64 r1,.int .i64 r2])∧Below w.heap.size w w':=by
 unfold page_Id.f at h
 by_cases hh:a0.size < 140737488355328∧octet_wide.f k 8 8=some true
 case neg=>rw [if_neg hh] at h;cases h
 rw [if_pos hh] at h
 obtain ⟨hl,hw8⟩:=hh
 obtain ⟨⟨s,q⟩,hkid,h⟩:=Option.bind_eq_some_iff.1 h
 have kb:=print_bytes (P:=Tryz.prog) 9 109 5 Tryz.underlying9 Tryz.underlying109 Tryz.underlying5 a0 w
 have hb0:Below w.heap.size w (Lib.bytesWorld w 5 a0):=bytes_below (Below.refl _ _) (Nat.le_refl _) _ _
 have ho:=open_calls (Lib.bytesWorld w 5 a0) (some ⟨w.heap.size,0,none⟩) (bytesOf a0) (grownCap w a0.size 0 5) (C_bytes w 5 a0 (by omega))
 rw [bytesOf_length,strOfNums_bytesOf] at ho
 have HB0:=AM hb0
 have HK:=AM hkid
 have HN:=fun (w1:World) (g:Nat) (hg:w1.heap[g]? =some (.cells #[.string a0,.int .i64 0,.bool false,.bool true] 151 (0,0)))=>num_calls k w1 g a0 0 8 false hw8 hg (by omega) (by omega) (by omega) (by omega)
 have HN':=AM HN
 have HC:=fun (w1:World)=>page_Kid.calls k (rdN a0 0 false 8) s q w1 hkid
 have HC':=AM HC
 clear HN HC hkid
 generalize rdN a0 0 false 8=n at h HN' HC' HK
 go_enter Tryz.func48,Tryz.ntmps48
 go_wp2_with (first|(go_at_call 87;refine ho.mono ?_;rintro e w1 ⟨g,rfl,hg,hc,hb⟩;have HG:=AM hg;have HC1:=AM hc;have I5:=AM (below_step HB0.out hb);clear hg hc hb)|(go_at_call 88;refine (HN'.out _ _ HC1.out).mono ?_;rintro e w2 ⟨rfl,_,hk⟩;have HB2:=AM (KB.below I5.out hk (Nat.le_trans HB0.out.size HG.out) I5.out.size);clear hk)|(go_at_call 33;refine (HC'.out _).mono ?_;rintro e w3 ⟨rfl,hb⟩;have HB3:=AM (below_step HB2.out hb);clear hb))
 all_goals clear kb ho HN' HC' HK
 all_goals go_ret2
 all_goals refine ⟨?_,HB3.out⟩
 all_goals by_cases c:q=0∧s.toList=a0.toList
 all_goals first|rw [if_pos c] at h|rw [if_neg c] at h
 all_goals simp only [Option.some.injEq,Prod.mk.injEq] at h
 all_goals obtain ⟨rfl,rfl⟩:=h
 all_goals first|rfl|(exfalso;simp_all;done)|(exfalso;apply c;constructor <;> simp_all)

/-! ### page_inner: function 74 -/
def page_inner.l0:Nat→List (S42)→Int→Int→Int→Int→Int→ByteArray→ByteArray→Bool→Int→Int→List Int→List (S42)→Option (Bool)
 |0,_,_,_,_,_,_,_,_,_,_,_,_,_=>none
 |k+1,x8,x9,x10,hr4,hr5,hr6,ej0,hr7,hs1,hs2,ej1,ej2,ci0=>if x10 < x9 then (if 0≤x10 then (if x10 < (x8.length:Int) then ((page_Id.f k ((rd_T42 x8 x10).f1)).bind fun jy0=>(if jy0.2=0 then (page_inner.l0 k x8 x9 (wrap64 (x10+1)) hr4 hr5 hr6 ej0 hr7 hs1 hs2 ej1 ej2 ci0) else (some false))) else (none)) else (none)) else (if ej1=0 then (if (ej2.length:Int)=0 then (if (ci0.length:Int) > 0 then (if 0 < (ci0.length:Int) then (some (((rd_T42 ci0 0).f0).toList==ej0.toList)) else (none)) else (some false)) else (some false)) else (some false))
def page_inner.f (k:Nat) (a5:Int) (a7:Int) (a8:Int) (b7:ByteArray) (b6:ByteArray) (b9:Bool) (d0:Int) (b5:Int) (b0:List Int) (a6:List (S42)):Option (Bool):=page_inner.l0 k a6 (a6.length:Int) 0 a5 a7 a8 b7 b6 b9 d0 b5 b0 a6
theorem page_inner.calls (k:Nat) (a5:Int) (a7:Int) (a8:Int) (b7:ByteArray) (b6:ByteArray) (b9:Bool) (d0:Int) (b5:Int) (i3:Option Addr) (i4:Nat) (b0:List Int) (i7:Option Addr) (i5:Nat) (a6:List (S42)) (r:Bool) (w:World) (y3:Kd.C (Kd.int .u64) w i3 b0.length b0) (B5:b0.length≤i4) (t8:Kd.C k42 w i7 a6.length a6) (u4:a6.length≤i5) (h:page_inner.f k a5 a7 a8 b7 b6 b9 d0 b5 b0 a6=some r):
  Calls Tryz.prog 74 #[.agg #[.int .u64 a5,.int .u64 a7,.int .u8 a8,.string b7,.string b6,.bool b9,.int .u64 d0,.int .u64 b5,.slice i3 b0.length i4,.slice i7 a6.length i5]] w fun e w'=>e=.returned (.bool r)∧Below w.heap.size w w':=by
 (have hu28:=Tryz.underlying28);(have hu42:=Tryz.underlying42);(have n5:=AM y3);(have n6:=AM B5);(clear y3 B5);(have m9:=AM t8);(have n9:=AM u4);(clear t8 u4);(have HB:=AM (Below.refl w.heap.size w));(have H:(page_inner.l0 k a6 (a6.length:Int) 0 a5 a7 a8 b7 b6 b9 d0 b5 b0 a6)=some r:=h);(clear h);(have H':=AM H);(clear H);(go_enter Tryz.func74,Tryz.ntmps74);(go_wp2_with (first|((with_reducible refine gate_dst (N:=1) rfl ?_);(try (refine gate_guard (by rfl) ?_;dsimp only));refine bx (N:=1) (cs:=#[.int .u64 a5,.int .u64 a7,.int .u8 a8,.string b7,.string b6,.bool b9,.int .u64 d0,.int .u64 b5,.slice i3 b0.length i4,.slice i7 a6.length i5]) (t:=28) ⟨mvW HB.out⟩ ?_;clear HB;intro fk6 hg w2 hb s9 cy3 HB;have hj3:=cy3;clear hb hg;obtain ⟨au7,au8,br1,br2,br3,br4,br5,br6,br7,br8⟩:=bc10 s9.out;obtain ⟨au9,av0,br9,bs0,bs1,bs2,bs3,bs4,bs5,bs6⟩:=bf10 s9.out)));(repeat (go_quiet (first|((with_reducible refine gate_dst (N:=1) rfl ?_);(try (refine gate_guard (by rfl) ?_;dsimp only));refine bx (N:=1) (cs:=#[.int .u64 a5,.int .u64 a7,.int .u8 a8,.string b7,.string b6,.bool b9,.int .u64 d0,.int .u64 b5,.slice i3 b0.length i4,.slice i7 a6.length i5]) (t:=28) ⟨mvW HB.out⟩ ?_;clear HB;intro fk6 hg w2 hb s9 cy3 HB;have hj3:=cy3;clear hb hg;obtain ⟨au7,au8,br1,br2,br3,br4,br5,br6,br7,br8⟩:=bc10 s9.out;obtain ⟨au9,av0,br9,bs0,bs1,bs2,bs3,bs4,bs5,bs6⟩:=bf10 s9.out));try go_wp2_with (first|((with_reducible refine gate_dst (N:=1) rfl ?_);(try (refine gate_guard (by rfl) ?_;dsimp only));refine bx (N:=1) (cs:=#[.int .u64 a5,.int .u64 a7,.int .u8 a8,.string b7,.string b6,.bool b9,.int .u64 d0,.int .u64 b5,.slice i3 b0.length i4,.slice i7 a6.length i5]) (t:=28) ⟨mvW HB.out⟩ ?_;clear HB;intro fk6 hg w2 hb s9 cy3 HB;have hj3:=cy3;clear hb hg;obtain ⟨au7,au8,br1,br2,br3,br4,br5,br6,br7,br8⟩:=bc10 s9.out;obtain ⟨au9,av0,br9,bs0,bs1,bs2,bs3,bs4,bs5,bs6⟩:=bf10 s9.out))));(go_loopg [10] k (fun kq v10 w'=>∃ (G1:Int),v10=.int .i64 G1∧Aside0 (page_inner.l0 kq a6 (a6.length:Int) G1 a5 a7 a8 b7 b6 b9 d0 b5 b0 a6=some r)∧Aside0 (kq≤k)∧Aside0 (w'.heap[fk6]? =some (.cells #[.int .u64 a5,.int .u64 a7,.int .u8 a8,.string b7,.string b6,.bool b9,.int .u64 d0,.int .u64 b5,(.slice i3 b0.length i4),(.slice i7 a6.length i5)] 28 (0,0)))∧Aside0 (Below w.heap.size w w')))
 case atStart=>exact ⟨(0),sd,H',⟨Nat.le_refl _⟩,⟨mvB s9.out⟩,⟨mvW HB.out⟩⟩
 case round=>
  (clear H');(try clear p2);(try clear au7 au8 br1 br2 br3 br4 br5 br6 br7 br8);(try clear au9 av0 br9 bs0 bs1 bs2 bs3 bs4 bs5 bs6);(obtain ⟨G1,rfl,HA,G2,s9,HB⟩:=hrel)
  cases gk with
  |zero=>exact absurd HA.out (by simp [page_inner.l0])
  |succ k1=>
   (have H:=HA.out);(clear HA);(simp only [page_inner.l0] at H);(by_cases c4:G1 < (a6.length:Int))
   ·(rw [if_pos c4] at H);(have D1:=decide_eq_true c4);(clear c4);(by_cases c5:0≤G1)
    ·(rw [if_pos c5] at H);(have au2:=decide_eq_true c5);(clear c5);(by_cases c6:G1 < (a6.length:Int))
     ·(rw [if_pos c6] at H);(have J4:=decide_eq_true c6);(clear c6);(replace H:=Option.bind_eq_some_iff.mp H);(obtain ⟨⟨dd2,ba6⟩,A70,H⟩:=H);(have A7:=AM A70);(clear A70);(by_cases c8:ba6=0)
      ·(rw [if_pos c8] at H);(have aj7:(ba6==0)=true:=beq_iff_eq.mpr c8);(have ed2:(ba6 != 0)=false:=bne_eq_false_iff_eq.mpr c8);(clear c8);(have H':=AM H);(clear H);(have co8:0≤(G1:Int):=od);(have cp0:G1 < (a6.length:Int):=od);(obtain ⟨ad140,e140,hs3,hs4⟩:=at_T42w HB m9.out G1 co8 cp0);(cases e140);(replace co8:=eq_true co8);(replace cp0:=eq_true cp0);(go_wp2_with (first|((with_reducible refine gate_dst (N:=4) rfl ?_);(try (refine gate_guard (by rfl) ?_;dsimp only));refine bx (N:=4) (cs:=#[.string (⟨#[]⟩:ByteArray),.string (⟨#[]⟩:ByteArray)]) (t:=42) ⟨mvW HB.out⟩ ?_;clear HB;intro ao5 hg w9 hb I0 ao6 HB;have cy4:=ao6;have S6:=nbl hg s9;have S7:=nbg hg s9;replace s9:=AM (blk_below (mvB s9.out) hb);clear hb hg;have cw6:=S7.out;have hnc10:=S6.out;obtain ⟨aa3,aa4⟩:=bc2 I0.out;obtain ⟨aa5,aa6⟩:=bf2 I0.out)|(go_at_call 48;(with_reducible refine (page_Id.calls k1 ((rd_T42 a6 G1).f1) dd2 ba6 _ A7.out).mono ?_);rintro e w12 ⟨rfl,hb⟩;replace s9:=AM (blk_below (mvB s9.out) hb);replace I0:=AM (blk_below (g:=ao5) (o:=.cells #[.string ((rd_T42 a6 G1).f0),.string ((rd_T42 a6 G1).f1)] 42 (0,0)) (mvP I0.out) hb);replace HB:=AM (below_step (mvW HB.out) hb);(try clear hb);(try clear hb2);(try clear hk);(try clear hi))));(repeat (go_quiet (first|((with_reducible refine gate_dst (N:=4) rfl ?_);(try (refine gate_guard (by rfl) ?_;dsimp only));refine bx (N:=4) (cs:=#[.string (⟨#[]⟩:ByteArray),.string (⟨#[]⟩:ByteArray)]) (t:=42) ⟨mvW HB.out⟩ ?_;clear HB;intro ao5 hg w9 hb I0 ao6 HB;have cy4:=ao6;have S6:=nbl hg s9;have S7:=nbg hg s9;replace s9:=AM (blk_below (mvB s9.out) hb);clear hb hg;have cw6:=S7.out;have hnc10:=S6.out;obtain ⟨aa3,aa4⟩:=bc2 I0.out;obtain ⟨aa5,aa6⟩:=bf2 I0.out)|(go_at_call 48;(with_reducible refine (page_Id.calls k1 ((rd_T42 a6 G1).f1) dd2 ba6 _ A7.out).mono ?_);rintro e w12 ⟨rfl,hb⟩;replace s9:=AM (blk_below (mvB s9.out) hb);replace I0:=AM (blk_below (g:=ao5) (o:=.cells #[.string ((rd_T42 a6 G1).f0),.string ((rd_T42 a6 G1).f1)] 42 (0,0)) (mvP I0.out) hb);replace HB:=AM (below_step (mvW HB.out) hb);(try clear hb);(try clear hb2);(try clear hk);(try clear hi)));try go_wp2_with (first|((with_reducible refine gate_dst (N:=4) rfl ?_);(try (refine gate_guard (by rfl) ?_;dsimp only));refine bx (N:=4) (cs:=#[.string (⟨#[]⟩:ByteArray),.string (⟨#[]⟩:ByteArray)]) (t:=42) ⟨mvW HB.out⟩ ?_;clear HB;intro ao5 hg w9 hb I0 ao6 HB;have cy4:=ao6;have S6:=nbl hg s9;have S7:=nbg hg s9;replace s9:=AM (blk_below (mvB s9.out) hb);clear hb hg;have cw6:=S7.out;have hnc10:=S6.out;obtain ⟨aa3,aa4⟩:=bc2 I0.out;obtain ⟨aa5,aa6⟩:=bf2 I0.out)|(go_at_call 48;(with_reducible refine (page_Id.calls k1 ((rd_T42 a6 G1).f1) dd2 ba6 _ A7.out).mono ?_);rintro e w12 ⟨rfl,hb⟩;replace s9:=AM (blk_below (mvB s9.out) hb);replace I0:=AM (blk_below (g:=ao5) (o:=.cells #[.string ((rd_T42 a6 G1).f0),.string ((rd_T42 a6 G1).f1)] 42 (0,0)) (mvP I0.out) hb);replace HB:=AM (below_step (mvW HB.out) hb);(try clear hb);(try clear hb2);(try clear hk);(try clear hi)))));(go_roundg k1)
       case measure=>have:=G2.out;omega
       case rel=>exact ⟨(wrap64 (G1+1)),sd,H',⟨by have:=G2.out;omega⟩,⟨mvB s9.out⟩,⟨mvW HB.out⟩⟩
      ·(rw [if_neg c8] at H);(have aj7:(ba6==0)=false:=beq_eq_false_iff_ne.mpr c8);(have ed2:(ba6 != 0)=true:=bne_iff_ne.mpr c8);(obtain rfl:=Option.some.inj H);(have co8:0≤(G1:Int):=od);(have cp0:G1 < (a6.length:Int):=od);(obtain ⟨ad140,e140,hs3,hs4⟩:=at_T42w HB m9.out G1 co8 cp0);(cases e140);(replace co8:=eq_true co8);(replace cp0:=eq_true cp0);(go_wp2_with (first|((with_reducible refine gate_dst (N:=4) rfl ?_);(try (refine gate_guard (by rfl) ?_;dsimp only));refine bx (N:=4) (cs:=#[.string (⟨#[]⟩:ByteArray),.string (⟨#[]⟩:ByteArray)]) (t:=42) ⟨mvW HB.out⟩ ?_;clear HB;intro ao5 hg w13 hb I0 ao6 HB;have cy4:=ao6;have S6:=nbl hg s9;have S7:=nbg hg s9;replace s9:=AM (blk_below (mvB s9.out) hb);clear hb hg;have bq4:=S7.out;have hnc14:=S6.out;obtain ⟨ah2,ah3⟩:=bc2 I0.out;obtain ⟨ah4,ah5⟩:=bf2 I0.out)|(go_at_call 48;(with_reducible refine (page_Id.calls k1 ((rd_T42 a6 G1).f1) dd2 ba6 _ A7.out).mono ?_);rintro e w16 ⟨rfl,hb⟩;replace s9:=AM (blk_below (mvB s9.out) hb);replace I0:=AM (blk_below (g:=ao5) (o:=.cells #[.string ((rd_T42 a6 G1).f0),.string ((rd_T42 a6 G1).f1)] 42 (0,0)) (mvP I0.out) hb);replace HB:=AM (below_step (mvW HB.out) hb);(try clear hb);(try clear hb2);(try clear hk);(try clear hi))));(repeat (go_quiet (first|((with_reducible refine gate_dst (N:=4) rfl ?_);(try (refine gate_guard (by rfl) ?_;dsimp only));refine bx (N:=4) (cs:=#[.string (⟨#[]⟩:ByteArray),.string (⟨#[]⟩:ByteArray)]) (t:=42) ⟨mvW HB.out⟩ ?_;clear HB;intro ao5 hg w13 hb I0 ao6 HB;have cy4:=ao6;have S6:=nbl hg s9;have S7:=nbg hg s9;replace s9:=AM (blk_below (mvB s9.out) hb);clear hb hg;have bq4:=S7.out;have hnc14:=S6.out;obtain ⟨ah2,ah3⟩:=bc2 I0.out;obtain ⟨ah4,ah5⟩:=bf2 I0.out)|(go_at_call 48;(with_reducible refine (page_Id.calls k1 ((rd_T42 a6 G1).f1) dd2 ba6 _ A7.out).mono ?_);rintro e w16 ⟨rfl,hb⟩;replace s9:=AM (blk_below (mvB s9.out) hb);replace I0:=AM (blk_below (g:=ao5) (o:=.cells #[.string ((rd_T42 a6 G1).f0),.string ((rd_T42 a6 G1).f1)] 42 (0,0)) (mvP I0.out) hb);replace HB:=AM (below_step (mvW HB.out) hb);(try clear hb);(try clear hb2);(try clear hk);(try clear hi)));try go_wp2_with (first|((with_reducible refine gate_dst (N:=4) rfl ?_);(try (refine gate_guard (by rfl) ?_;dsimp only));refine bx (N:=4) (cs:=#[.string (⟨#[]⟩:ByteArray),.string (⟨#[]⟩:ByteArray)]) (t:=42) ⟨mvW HB.out⟩ ?_;clear HB;intro ao5 hg w13 hb I0 ao6 HB;have cy4:=ao6;have S6:=nbl hg s9;have S7:=nbg hg s9;replace s9:=AM (blk_below (mvB s9.out) hb);clear hb hg;have bq4:=S7.out;have hnc14:=S6.out;obtain ⟨ah2,ah3⟩:=bc2 I0.out;obtain ⟨ah4,ah5⟩:=bf2 I0.out)|(go_at_call 48;(with_reducible refine (page_Id.calls k1 ((rd_T42 a6 G1).f1) dd2 ba6 _ A7.out).mono ?_);rintro e w16 ⟨rfl,hb⟩;replace s9:=AM (blk_below (mvB s9.out) hb);replace I0:=AM (blk_below (g:=ao5) (o:=.cells #[.string ((rd_T42 a6 G1).f0),.string ((rd_T42 a6 G1).f1)] 42 (0,0)) (mvP I0.out) hb);replace HB:=AM (below_step (mvW HB.out) hb);(try clear hb);(try clear hb2);(try clear hk);(try clear hi)))));(go_ret);(exact ⟨rv,mvW HB.out⟩)
     ·(rw [if_neg c6] at H);(exact absurd H (by simp))
    ·(rw [if_neg c5] at H);(exact absurd H (by simp))
   ·(rw [if_neg c4] at H);(have D1:decide (G1 < (a6.length:Int))=false:=decide_eq_false c4);(clear c4);(by_cases c17:b5=0)
    ·(rw [if_pos c17] at H);(have fi8:(b5==0)=true:=beq_iff_eq.mpr c17);(have fi9:(b5 != 0)=false:=bne_eq_false_iff_eq.mpr c17);(clear c17);(by_cases c18:(b0.length:Int)=0)
     ·(rw [if_pos c18] at H);(have jy1:((b0.length:Int)==0)=true:=beq_iff_eq.mpr c18);(have jy2:((b0.length:Int) != 0)=false:=bne_eq_false_iff_eq.mpr c18);(clear c18);(by_cases c19:(a6.length:Int) > 0)
      ·(rw [if_pos c19] at H);(have jy3:decide (0 < (a6.length:Int))=true:=decide_eq_true c19);(have jy4:decide (0 < a6.length)=true:=decide_eq_true (by omega));(clear c19);(by_cases c20:0 < (a6.length:Int))
       ·(rw [if_pos c20] at H);(have gu2:=decide_eq_true c20);(have oh5:decide (0 < a6.length)=true:=decide_eq_true (by omega));(clear c20);(obtain rfl:=Option.some.inj H);(obtain ⟨oh6,oh7,oh8,oh9,oi0,oi1,oi2,oi3,oi4,oi5⟩:=bc10 s9.out);(obtain ⟨oi6,oi7,oi8,oi9,oj0,oj1,oj2,oj3,oj4,oj5⟩:=bf10 s9.out);(have fx2:0≤(0:Int):=(by omega));(have fx3:0 < (a6.length:Int):=od);(obtain ⟨ad144,e144,bl5,bl6⟩:=at_T42 m9.out 0 fx2 fx3);(cases e144);(have qi144:(0 < a6.length)=True:=eq_true (by omega));((try rw [show ((0:Int)).toNat=0 from rfl] at bl5));((try rw [show 0 * 2=0 from rfl] at bl5));((try rw [Addr.add_zero'] at bl5));((try rw [show ((0:Int)).toNat=0 from rfl] at bl6));((try rw [show 0 * 2=0 from rfl] at bl6));((try rw [Addr.add_zero'] at bl6));(replace bl5:=ct HB bl5);(replace bl6:=ct HB bl6);(replace fx2:=eq_true fx2);(replace fx3:=eq_true fx3);(go_wp2);(repeat (go_quiet (fail);try go_wp2));(go_ret);(exact ⟨rv,mvW HB.out⟩)
       ·(rw [if_neg c20] at H);(exact absurd H (by simp))
      ·(rw [if_neg c19] at H);(have jy3:decide (0 < (a6.length:Int))=false:=decide_eq_false c19);(have jy4:decide (0 < a6.length)=false:=decide_eq_false (by omega));(clear c19);(obtain rfl:=Option.some.inj H);(obtain ⟨jq6,jq7,oj6,oj7,oj8,oj9,ok0,ok1,ok2,ok3⟩:=bc10 s9.out);(obtain ⟨jq8,jq9,ok4,ok5,ok6,ok7,ok8,ok9,ol0,ol1⟩:=bf10 s9.out);(go_wp2);(repeat (go_quiet (fail);try go_wp2));(go_ret);(exact ⟨rv,mvW HB.out⟩)
     ·(rw [if_neg c18] at H);(have jy1:((b0.length:Int)==0)=false:=beq_eq_false_iff_ne.mpr c18);(have jy2:((b0.length:Int) != 0)=true:=bne_iff_ne.mpr c18);(have ol2:¬ (b0=[]):=fun h_=>c18 (by rw [h_];rfl));(obtain rfl:=Option.some.inj H);(obtain ⟨ar8,ar9,bb7,bb8,bb9,bc0,bc1,bc4,bc5,bc6⟩:=bc10 s9.out);(obtain ⟨as0,as1,bc7,bc8,bc9,bd0,bd1,bd2,bd3,bd4⟩:=bf10 s9.out);(go_wp2);(repeat (go_quiet (fail);try go_wp2));(go_ret);(exact ⟨rv,mvW HB.out⟩)
    ·(rw [if_neg c17] at H);(have fi8:(b5==0)=false:=beq_eq_false_iff_ne.mpr c17);(have fi9:(b5 != 0)=true:=bne_iff_ne.mpr c17);(obtain rfl:=Option.some.inj H);(obtain ⟨bd5,bd6,cs0,cs1,cs2,cs3,cs4,cs5,cs6,cs7⟩:=bc10 s9.out);(obtain ⟨bd7,bd8,cs8,cs9,ct0,ct1,ct2,ct3,ct4,ct5⟩:=bf10 s9.out);(go_wp2);(repeat (go_quiet (fail);try go_wp2));(go_ret);(exact ⟨rv,mvW HB.out⟩)

/-! ### page_Check: function 37 -/
section
variable (k:Nat) (a5 a7 a8:Int) (b7 b6:ByteArray) (b9:Bool) (d0 b5:Int) (b0:List Int) (a6:List S42)
def page_Check_1:Bool:=decide (1≤a5) && decide (a5≤400) && decide (a7≤400) && (a7 != a5)
def page_Check_2:Bool:=decide (a8≤10) && decide (d0≤281474976710656)
def page_Check_3:Option Bool:=(span_Right.f k b7 b6 b9).bind fun s=>some (s && (b9==(a7 != 0)))
def page_Check_4:Option Bool:=(lsns_Right.f k b5 b0).bind fun s=>if s=true then (lsns_Most.f k b5 b0).bind fun m=>some (decide (m≤281474976710656)) else some false
def page_Check_5:Option Bool:=(cells_Right.f k a6).bind fun s=>if s=true then (cells_Part.f k a6 b7 b6 b9).bind fun p=>some ((p.length:Int)==(a6.length:Int)) else some false
def page_Check_6:Option Bool:=if 0 < a8 then some true else page_leaf.f k a5 a7 a8 b7 b6 b9 d0 b5 b0 a6
def page_Check_7:Option Bool:=if a8=0 then some true else page_inner.f k a5 a7 a8 b7 b6 b9 d0 b5 b0 a6
def page_Check.f:Option Int:=
 if page_Check_1 a5 a7=true∧page_Check_2 a8 d0=true then
  (page_Check_3 k a7 b7 b6 b9).bind fun t3=>if t3=true then ((page_Check_4 k b5 b0).bind fun t4=>if t4=true then ((page_Check_5 k b7 b6 b9 a6).bind fun t5=>if t5=true then
   ((page_Check_6 k a5 a7 a8 b7 b6 b9 d0 b5 b0 a6).bind fun t6=>if t6=true then ((page_Check_7 k a5 a7 a8 b7 b6 b9 d0 b5 b0 a6).bind fun t7=>if t7=true then some 0 else some 110) else some 110) else some 110) else some 110) else some 110
 else some 110
end
def page_Check.T1:Bool×List (List Nat×List Nat):=(true,[([],[]),([0],[0]),([1],[1]),([2,2],[2]),([3],[3]),([4,3],[3,4]),([3],[3]),([6,3,3],[3,6]),([5,7,7,3],[3,5,7]),([8,3],[3,8]),([3],[3]),([10,3],[3,10]),([11,3],[3,11]),([9,12,3],[3,9,12]),([3,13],[3,13]),([14,8,0,1,2,3,4,5,6,7,8,9,10,11,12,13,14],[14])])
def page_Check.B1:List Nat:=[0,1,3,7,15,31,15,79,255,511,15,1039,3087,8191,16383,32767]
theorem page_Check.tab1:rtab .any (opsOf Tryz.f68 1)=page_Check.T1:=by kernel_rfl
theorem page_Check.bits1:waitsOk page_Check.T1.2 page_Check.B1=true:=by kernel_rfl
section
variable {bp:Nat} {a5 a7 a8:Int} {b7 b6:ByteArray} {b9:Bool} {d0 b5:Int} {A8:Option Addr} {c8:Nat} {b0:List Int} {A9:Option Addr} {c9:Nat} {a6:List S42} {W:World}
set_option maxHeartbeats 4000000 in
theorem page_Check_c1 (hp:W.heap[bp]? =some (.cells #[.int .u64 a5,.int .u64 a7,.int .u8 a8,.string b7,.string b6,.bool b9,.int .u64 d0,.int .u64 b5,.slice A8 b0.length c8,.slice A9 a6.length c9] 28 (0,0))):
  Calls Tryz.prog 61 #[.pointer (some ⟨bp,0,none⟩)] W fun e w'=>e=.returned (.bool (page_Check_1 a5 a7))∧Below W.heap.size W w':=by
 have hu:=Tryz.underlying28
 have z0:=(blk_cell hp 0).trans rfl
 have z1:=(blk_cell hp 1).trans rfl
 unfold page_Check_1
 clear hp
 go_enter Tryz.func61,Tryz.ntmps61
 go_wp2
 all_goals go_ret
 all_goals refine ⟨congrArg Ending.returned (congrArg Value.bool ?_),Below.refl _ _⟩
 all_goals first|rfl|(simp [*];done)|(simp [*];omega)|(simp_all;done)|(simp_all;omega)
set_option maxHeartbeats 4000000 in
theorem page_Check_c2 (hp:W.heap[bp]? =some (.cells #[.int .u64 a5,.int .u64 a7,.int .u8 a8,.string b7,.string b6,.bool b9,.int .u64 d0,.int .u64 b5,.slice A8 b0.length c8,.slice A9 a6.length c9] 28 (0,0))):
  Calls Tryz.prog 62 #[.pointer (some ⟨bp,0,none⟩)] W fun e w'=>e=.returned (.bool (page_Check_2 a8 d0))∧Below W.heap.size W w':=by
 have hu:=Tryz.underlying28
 have z2:=(blk_cell hp 2).trans rfl
 have z6:=(blk_cell hp 6).trans rfl
 unfold page_Check_2
 clear hp
 go_enter Tryz.func62,Tryz.ntmps62
 go_wp2
 all_goals go_ret
 all_goals refine ⟨congrArg Ending.returned (congrArg Value.bool ?_),Below.refl _ _⟩
 all_goals first|rfl|(simp [*];done)|(simp [*];omega)|(simp_all;done)|(simp_all;omega)
set_option maxHeartbeats 4000000 in
theorem page_Check_c3 (hp:W.heap[bp]? =some (.cells #[.int .u64 a5,.int .u64 a7,.int .u8 a8,.string b7,.string b6,.bool b9,.int .u64 d0,.int .u64 b5,.slice A8 b0.length c8,.slice A9 a6.length c9] 28 (0,0))) (hr8:Kd.C (Kd.int .u64) W A8 b0.length b0) (hc8:b0.length≤c8) (hr9:Kd.C k42 W A9 a6.length a6) (hc9:a6.length≤c9) {k:Nat} {t:Bool} (ht:page_Check_3 k a7 b7 b6 b9=some t):
  Calls Tryz.prog 63 #[.pointer (some ⟨bp,0,none⟩)] W fun e w'=>e=.returned (.bool t)∧Below W.heap.size W w':=by
 have hu:=Tryz.underlying28
 have hu2:=Tryz.underlying50
 have hu3:=Tryz.underlying25
 have z0:=(blk_cell hp 0).trans rfl
 have z1:=(blk_cell hp 1).trans rfl
 have z2:=(blk_cell hp 2).trans rfl
 have z3:=(blk_cell hp 3).trans rfl
 have z4:=(blk_cell hp 4).trans rfl
 have z5:=(blk_cell hp 5).trans rfl
 have z6:=(blk_cell hp 6).trans rfl
 have z7:=(blk_cell hp 7).trans rfl
 have z8:=(blk_cell hp 8).trans rfl
 have z9:=(blk_cell hp 9).trans rfl
 have BP:=AM hp
 obtain ⟨s,hs,hq⟩:=Option.bind_eq_some_iff.1 ht
 obtain rfl:=Option.some.inj hq
 have hR:=page_Range.calls a5 a7 a8 b7 b6 b9 d0 b5 A8 c8 b0 A9 c9 a6 b7 b6 b9 W hr8 hc8 hr9 hc9 rfl
 have HS:=AM (fun w1=>span_Right.calls k b7 b6 b9 s w1 hs)
 clear hp hq ht hs hr8 hr9
 go_enter Tryz.func63,Tryz.ntmps63
 go_wp2_with (first|(go_at_call 20;refine hR.mono ?_;rintro e w1 ⟨rfl,hb⟩;have I5:=AM hb;have P1:=AM (blk_below BP.out hb);clear hb)|(go_at_call 64;refine (HS.out _).mono ?_;rintro e w2 ⟨rfl,hb⟩;have HB2:=AM (below_step I5.out hb);have P2:=AM (blk_below P1.out hb);clear hb;have y1:=(blk_cell P2.out 1).trans rfl;have y5:=(blk_cell P2.out 5).trans rfl))
 all_goals go_ret
 all_goals refine ⟨congrArg Ending.returned (congrArg Value.bool ?_),HB2.out⟩
 all_goals first|rfl|(simp [*];done)|(simp [*];omega)|(simp_all;done)|(simp_all;omega)
set_option maxHeartbeats 4000000 in
theorem page_Check_c4 (hp:W.heap[bp]? =some (.cells #[.int .u64 a5,.int .u64 a7,.int .u8 a8,.string b7,.string b6,.bool b9,.int .u64 d0,.int .u64 b5,.slice A8 b0.length c8,.slice A9 a6.length c9] 28 (0,0))) (hr8:Kd.C (Kd.int .u64) W A8 b0.length b0) (hc8:b0.length≤c8) {k:Nat} {t:Bool} (ht:page_Check_4 k b5 b0=some t):
  Calls Tryz.prog 65 #[.pointer (some ⟨bp,0,none⟩)] W fun e w'=>e=.returned (.bool t)∧Below W.heap.size W w':=by
 have hu:=Tryz.underlying28
 have hu3:=Tryz.underlying25
 have z7:=(blk_cell hp 7).trans rfl
 have z8:=(blk_cell hp 8).trans rfl
 have BP:=AM hp
 obtain ⟨s,hs,hq⟩:=Option.bind_eq_some_iff.1 ht
 have hR:=lsns_Right.calls k b5 A8 c8 b0 s W hr8 hc8 hs
 have HM:=AM (fun (w1:World) (hb:Below W.heap.size W w1) (m:Int) (hm:lsns_Most.f k b5 b0=some m)=>lsns_Most.calls k b5 A8 c8 b0 m w1 (Kd.C_below hr8 hb) hc8 hm)
 clear hp ht hs hr8
 cases s
 ·rw [if_neg (by simp)] at hq
  obtain rfl:=Option.some.inj hq
  go_enter Tryz.func65,Tryz.ntmps65
  go_wp2_with (go_at_call 66;refine hR.mono ?_;rintro e w1 ⟨rfl,hb⟩;have I5:=AM hb;clear hb)
  go_ret
  exact ⟨rfl,I5.out⟩
 ·rw [if_pos rfl] at hq
  obtain ⟨m,hm,hq⟩:=Option.bind_eq_some_iff.1 hq
  obtain rfl:=Option.some.inj hq
  have HQ:=AM hm
  clear hm hq
  go_enter Tryz.func65,Tryz.ntmps65
  go_wp2_with (first|(go_at_call 66;refine hR.mono ?_;rintro e w1 ⟨rfl,hb⟩;have I5:=AM hb;have P1:=AM (blk_below BP.out hb);clear hb;have y7:=(blk_cell P1.out 7).trans rfl;have y8:=(blk_cell P1.out 8).trans rfl)|(go_at_call 67;refine (HM.out _ I5.out m HQ.out).mono ?_;rintro e w2 ⟨rfl,hb⟩;have HB2:=AM (below_step I5.out hb);clear hb))
  all_goals go_ret
  all_goals refine ⟨congrArg Ending.returned (congrArg Value.bool ?_),HB2.out⟩
  all_goals first|rfl|(simp [*];done)|(simp [*];omega)
set_option maxHeartbeats 4000000 in
theorem page_Check_c6 (hp:W.heap[bp]? =some (.cells #[.int .u64 a5,.int .u64 a7,.int .u8 a8,.string b7,.string b6,.bool b9,.int .u64 d0,.int .u64 b5,.slice A8 b0.length c8,.slice A9 a6.length c9] 28 (0,0))) (hr8:Kd.C (Kd.int .u64) W A8 b0.length b0) (hc8:b0.length≤c8) (hr9:Kd.C k42 W A9 a6.length a6) (hc9:a6.length≤c9) {k:Nat} {t:Bool} (ht:page_Check_6 k a5 a7 a8 b7 b6 b9 d0 b5 b0 a6=some t):
  Calls Tryz.prog 71 #[.pointer (some ⟨bp,0,none⟩)] W fun e w'=>e=.returned (.bool t)∧Below W.heap.size W w':=by
 have hu:=Tryz.underlying28
 have hu3:=Tryz.underlying25
 have z0:=(blk_cell hp 0).trans rfl
 have z1:=(blk_cell hp 1).trans rfl
 have z2:=(blk_cell hp 2).trans rfl
 have z3:=(blk_cell hp 3).trans rfl
 have z4:=(blk_cell hp 4).trans rfl
 have z5:=(blk_cell hp 5).trans rfl
 have z6:=(blk_cell hp 6).trans rfl
 have z7:=(blk_cell hp 7).trans rfl
 have z8:=(blk_cell hp 8).trans rfl
 have z9:=(blk_cell hp 9).trans rfl
 unfold page_Check_6 at ht
 by_cases hc:0 < a8
 ·rw [if_pos hc] at ht
  obtain rfl:=Option.some.inj ht
  clear hp ht
  go_enter Tryz.func71,Tryz.ntmps71
  go_wp2
  all_goals go_ret
  all_goals exact ⟨by first|rfl|(simp [*];done)|(simp_all;done)|(exfalso;omega),Below.refl _ _⟩
 ·rw [if_neg hc] at ht
  have hL:=page_leaf.calls k a5 a7 a8 b7 b6 b9 d0 b5 A8 c8 b0 A9 c9 a6 t W hr8 hc8 hr9 hc9 ht
  clear hp ht hr8 hr9
  go_enter Tryz.func71,Tryz.ntmps71
  go_wp2_with (go_at_call 72;refine hL.mono ?_;rintro e w1 ⟨rfl,hb⟩;have I5:=AM hb;clear hb)
  all_goals go_ret
  all_goals first|exact ⟨rfl,I5.out⟩|exact ⟨by simp [hc],I5.out⟩|(exfalso;omega)
set_option maxHeartbeats 4000000 in
theorem page_Check_c7 (hp:W.heap[bp]? =some (.cells #[.int .u64 a5,.int .u64 a7,.int .u8 a8,.string b7,.string b6,.bool b9,.int .u64 d0,.int .u64 b5,.slice A8 b0.length c8,.slice A9 a6.length c9] 28 (0,0))) (hr8:Kd.C (Kd.int .u64) W A8 b0.length b0) (hc8:b0.length≤c8) (hr9:Kd.C k42 W A9 a6.length a6) (hc9:a6.length≤c9) {k:Nat} {t:Bool} (ht:page_Check_7 k a5 a7 a8 b7 b6 b9 d0 b5 b0 a6=some t):
  Calls Tryz.prog 73 #[.pointer (some ⟨bp,0,none⟩)] W fun e w'=>e=.returned (.bool t)∧Below W.heap.size W w':=by
 have hu:=Tryz.underlying28
 have hu3:=Tryz.underlying25
 have z0:=(blk_cell hp 0).trans rfl
 have z1:=(blk_cell hp 1).trans rfl
 have z2:=(blk_cell hp 2).trans rfl
 have z3:=(blk_cell hp 3).trans rfl
 have z4:=(blk_cell hp 4).trans rfl
 have z5:=(blk_cell hp 5).trans rfl
 have z6:=(blk_cell hp 6).trans rfl
 have z7:=(blk_cell hp 7).trans rfl
 have z8:=(blk_cell hp 8).trans rfl
 have z9:=(blk_cell hp 9).trans rfl
 unfold page_Check_7 at ht
 by_cases hc:a8=0
 ·rw [if_pos hc] at ht
  obtain rfl:=Option.some.inj ht
  clear hp ht
  go_enter Tryz.func73,Tryz.ntmps73
  go_wp2
  all_goals go_ret
  all_goals exact ⟨by first|rfl|(simp [*];done)|(simp_all;done)|(exfalso;omega),Below.refl _ _⟩
 ·rw [if_neg hc] at ht
  have hL:=page_inner.calls k a5 a7 a8 b7 b6 b9 d0 b5 A8 c8 b0 A9 c9 a6 t W hr8 hc8 hr9 hc9 ht
  clear hp ht hr8 hr9
  go_enter Tryz.func73,Tryz.ntmps73
  go_wp2_with (go_at_call 74;refine hL.mono ?_;rintro e w1 ⟨rfl,hb⟩;have I5:=AM hb;clear hb)
  all_goals go_ret
  all_goals first|exact ⟨rfl,I5.out⟩|exact ⟨by simp [hc],I5.out⟩|(exfalso;omega)
set_option maxHeartbeats 4000000 in
theorem page_Check_c5 (hp:W.heap[bp]? =some (.cells #[.int .u64 a5,.int .u64 a7,.int .u8 a8,.string b7,.string b6,.bool b9,.int .u64 d0,.int .u64 b5,.slice A8 b0.length c8,.slice A9 a6.length c9] 28 (0,0))) (hr8:Kd.C (Kd.int .u64) W A8 b0.length b0) (hc8:b0.length≤c8) (hr9:Kd.C k42 W A9 a6.length a6) (hc9:a6.length≤c9) {k:Nat} {t:Bool} (ht:page_Check_5 k b7 b6 b9 a6=some t):
  Calls Tryz.prog 68 #[.pointer (some ⟨bp,0,none⟩)] W fun e w'=>e=.returned (.bool t)∧Below W.heap.size W w':=by
 have hu:=Tryz.underlying28
 have hu2:=Tryz.underlying50
 have hu3:=Tryz.underlying25
 have z0:=(blk_cell hp 0).trans rfl
 have z1:=(blk_cell hp 1).trans rfl
 have z2:=(blk_cell hp 2).trans rfl
 have z3:=(blk_cell hp 3).trans rfl
 have z4:=(blk_cell hp 4).trans rfl
 have z5:=(blk_cell hp 5).trans rfl
 have z6:=(blk_cell hp 6).trans rfl
 have z7:=(blk_cell hp 7).trans rfl
 have z8:=(blk_cell hp 8).trans rfl
 have z9:=(blk_cell hp 9).trans rfl
 have BP:=AM hp
 obtain ⟨s,hs,hq⟩:=Option.bind_eq_some_iff.1 ht
 have hC:=AM (fun (w1:World) (hb:Below W.heap.size W w1)=>cells_Right.calls k A9 c9 a6 s w1 (Kd.C_below hr9 hb) hc9 hs)
 have hRg:=AM (fun (w1:World) (hb:Below W.heap.size W w1)=>page_Range.calls a5 a7 a8 b7 b6 b9 d0 b5 A8 c8 b0 A9 c9 a6 b7 b6 b9 w1 (Kd.C_below hr8 hb) hc8 (Kd.C_below hr9 hb) hc9 rfl)
 have hPt:=AM (fun (w1:World) (hb:Below W.heap.size W w1) (p:List S42) (hp:cells_Part.f k a6 b7 b6 b9=some p)=>cells_Part.calls k A9 c9 a6 b7 b6 b9 p w1 (Kd.C_below hr9 hb) hc9 hp)
 clear hp ht hs hr8 hr9
 cases s
 ·rw [if_neg (by simp)] at hq
  obtain rfl:=Option.some.inj hq
  clear hRg hPt
  go_enter Tryz.func68,Tryz.ntmps68
  go_wp2
  (refine start_ (n:=16) (S:=fun w'=>w'.cell? ⟨bp,0,none⟩=some (.int .u64 a5)∧w'.cell? ⟨bp,1,none⟩=some (.int .u64 a7)∧w'.cell? ⟨bp,2,none⟩=some (.int .u8 a8)∧w'.cell? ⟨bp,3,none⟩=some (.string b7)∧w'.cell? ⟨bp,4,none⟩=some (.string b6)∧w'.cell? ⟨bp,5,none⟩=some (.bool b9)∧w'.cell? ⟨bp,6,none⟩=some (.int .u64 d0)∧w'.cell? ⟨bp,7,none⟩=some (.int .u64 b5)∧w'.cell? ⟨bp,8,none⟩=some (.slice A8 b0.length c8)∧w'.cell? ⟨bp,9,none⟩=some (.slice A9 a6.length c9)) (ds:=[]) (bv 0 16) (by kernel_rfl) rfl rfl (bc10 BP.out) (fun b8=>?_));(refine with_tabW page_Check.tab1 page_Check.bits1 (fun HT_ HW_=>?_))
  have HB0:=AM (below_drew1 (Below.refl W.heap.size W));have P0:=AM (blk_drew BP.out)
  (refine pu 0 2 (bv 1 15) HT_ ?_);(refine tk 1 3 (bv 2 14) HT_ HW_ b8 ?_);(refine on 2 (some 4) (bv 3 13) HT_ (fun K hK=>?_));(refine goes_ Tryz.func69 (by kernel_rfl) rfl #[.slice A9 a6.length c9] (by rfl) rfl rfl (by (try simp only [List.map_toArray,List.map_cons,List.map_nil]);first|done|rfl) ?_);(refine (hC.out _ HB0.out).mono ?_);(rintro e w1 ⟨rfl,hb⟩);(refine ⟨_,rfl,?_⟩);have I5:=AM (below_step HB0.out hb);have P1:=AM (blk_below P0.out hb);clear hb;(refine hK.out _ _ (bc10 P1.out) (fun b8=>?_));(clear hK K);(refine nm 4 ?_);(refine pu 3 5 (bv 4 12) HT_ ?_);(refine pn 4 6 (bv 5 11) HT_ ?_);(refine pn 5 7 (bv 6 10) HT_ ?_);(refine pn 6 8 (bv 7 9) HT_ ?_);(refine pn 7 9 (bv 8 8) HT_ ?_);(refine pn 8 10 (bv 9 7) HT_ ?_);(refine pn 9 11 (bv 10 6) HT_ ?_);(refine pn 10 12 (bv 11 5) HT_ ?_);(refine pn 11 13 (bv 12 4) HT_ ?_);(refine pn 12 14 (bv 13 3) HT_ ?_);(refine pn 13 15 (bv 14 2) HT_ ?_);(refine pu 14 16 (bv 15 1) HT_ ?_);(refine pu 15 1 (bv 16 0) HT_ ?_);(refine done_ (done_of HT_.out (by kernel_rfl)) ?_);(try go_wp2)
  go_ret
  exact ⟨rfl,I5.out⟩
 ·rw [if_pos rfl] at hq
  obtain ⟨p,hp,hq⟩:=Option.bind_eq_some_iff.1 hq
  obtain rfl:=Option.some.inj hq
  have HQ:=AM hp
  clear hp hq
  go_enter Tryz.func68,Tryz.ntmps68
  go_wp2
  (refine start_ (n:=16) (S:=fun w'=>w'.cell? ⟨bp,0,none⟩=some (.int .u64 a5)∧w'.cell? ⟨bp,1,none⟩=some (.int .u64 a7)∧w'.cell? ⟨bp,2,none⟩=some (.int .u8 a8)∧w'.cell? ⟨bp,3,none⟩=some (.string b7)∧w'.cell? ⟨bp,4,none⟩=some (.string b6)∧w'.cell? ⟨bp,5,none⟩=some (.bool b9)∧w'.cell? ⟨bp,6,none⟩=some (.int .u64 d0)∧w'.cell? ⟨bp,7,none⟩=some (.int .u64 b5)∧w'.cell? ⟨bp,8,none⟩=some (.slice A8 b0.length c8)∧w'.cell? ⟨bp,9,none⟩=some (.slice A9 a6.length c9)) (ds:=[]) (bv 0 16) (by kernel_rfl) rfl rfl (bc10 BP.out) (fun b8=>?_));(refine with_tabW page_Check.tab1 page_Check.bits1 (fun HT_ HW_=>?_))
  have HB0:=AM (below_drew1 (Below.refl W.heap.size W));have P0:=AM (blk_drew BP.out)
  (refine pu 0 2 (bv 1 15) HT_ ?_);(refine tk 1 3 (bv 2 14) HT_ HW_ b8 ?_);(refine on 2 (some 4) (bv 3 13) HT_ (fun K hK=>?_));(refine goes_ Tryz.func69 (by kernel_rfl) rfl #[.slice A9 a6.length c9] (by rfl) rfl rfl (by (try simp only [List.map_toArray,List.map_cons,List.map_nil]);first|done|rfl) ?_);(refine (hC.out _ HB0.out).mono ?_);(rintro e w1 ⟨rfl,hb⟩);(refine ⟨_,rfl,?_⟩);have I5:=AM (below_step HB0.out hb);have P1:=AM (blk_below P0.out hb);clear hb;(refine hK.out _ _ (bc10 P1.out) (fun b8=>?_));(clear hK K);(refine nm 4 ?_);(refine pu 3 5 (bv 4 12) HT_ ?_);(refine pu 4 6 (bv 5 11) HT_ ?_);(refine tk 5 7 (bv 6 10) HT_ HW_ b8 ?_);(refine tk 6 8 (bv 7 9) HT_ HW_ b8 ?_);(refine pu 10 12 (bm 16 1151) HT_ ?_);(refine tk 11 13 (bm 16 3199) HT_ HW_ b8 ?_);(refine pu 12 14 (bm 16 7295) HT_ ?_);(refine on 7 (some 9) (bm 16 7423) HT_ (fun K hK=>?_));(refine goes_ Tryz.func20 (by kernel_rfl) rfl #[.agg #[.int .u64 a5,.int .u64 a7,.int .u8 a8,.string b7,.string b6,.bool b9,.int .u64 d0,.int .u64 b5,.slice A8 b0.length c8,.slice A9 a6.length c9]] (by rfl) rfl rfl (by (try simp only [List.map_toArray,List.map_cons,List.map_nil]);first|done|rfl) ?_);(refine (hRg.out _ I5.out).mono ?_);(rintro e w2 ⟨rfl,hb⟩);(refine ⟨_,rfl,?_⟩);have HB2:=AM (below_step I5.out hb);have P2:=AM (blk_below P1.out hb);clear hb;(refine hK.out _ _ (bc10 P2.out) (fun b8=>?_));(clear hK K);(refine nm 9 ?_);(refine on 8 (some 10) (bm 16 7679) HT_ (fun K hK=>?_));(refine goes_ Tryz.func70 (by kernel_rfl) rfl #[.slice A9 a6.length c9,.agg #[.string b7,.string b6,.bool b9]] (by rfl) rfl rfl (by (try simp only [List.map_toArray,List.map_cons,List.map_nil]);first|done|rfl) ?_);(refine (hPt.out _ HB2.out p HQ.out).mono ?_);(rintro e w3 ⟨v,rfl,ho,hb⟩);(obtain ⟨Ap,cp,ep⟩:=cells_slice ho);(subst ep);(refine ⟨_,rfl,?_⟩);have HB3:=AM (below_step HB2.out hb);have P3:=AM (blk_below P2.out hb);clear hb;(refine hK.out _ _ (bc10 P3.out) (fun b8=>?_));(clear hK K);(refine nm 10 ?_);(refine pu 9 11 (bv 13 3) HT_ ?_);(refine pu 13 15 (bv 14 2) HT_ ?_);(refine pu 14 16 (bv 15 1) HT_ ?_);(refine pu 15 1 (bv 16 0) HT_ ?_);(refine done_ (done_of HT_.out (by kernel_rfl)) ?_);(try go_wp2)
  go_ret
  exact ⟨rfl,HB3.out⟩
end
set_option maxHeartbeats 4000000 in
theorem page_Check.calls (k:Nat) (a5:Int) (a7:Int) (a8:Int) (b7:ByteArray) (b6:ByteArray) (b9:Bool) (d0:Int) (b5:Int) (i3:Option Addr) (i4:Nat) (b0:List Int) (i7:Option Addr) (i5:Nat) (a6:List (S42)) (r:Int) (w:World) (y3:Kd.C (Kd.int .u64) w i3 b0.length b0) (B5:b0.length≤i4) (t8:Kd.C k42 w i7 a6.length a6) (u4:a6.length≤i5) (h:page_Check.f k a5 a7 a8 b7 b6 b9 d0 b5 b0 a6=some r):
  Calls Tryz.prog 37 #[.agg #[.int .u64 a5,.int .u64 a7,.int .u8 a8,.string b7,.string b6,.bool b9,.int .u64 d0,.int .u64 b5,.slice i3 b0.length i4,.slice i7 a6.length i5]] w fun e w'=>e=.returned (.int .i64 r)∧Below w.heap.size w w':=by
 have hu:=Tryz.underlying28
 have hu3:=Tryz.underlying25
 have hmf:∀ (fn:Fn) (first cap:Array Value) (w:World),(Instr.makeFunc fn first cap).run Tryz.prog w=.ok (.func fn first cap) w:=fun _ _ _ _=>rfl
 obtain ⟨W1,hW1⟩:∃ W1,W1=(w.alloc (.cells #[.int .u64 a5,.int .u64 a7,.int .u8 a8,.string b7,.string b6,.bool b9,.int .u64 d0,.int .u64 b5,.slice i3 b0.length i4,.slice i7 a6.length i5] 28)).alloc (.cells #[.func (.func 61) #[] #[.pointer (some ⟨w.heap.size,0,none⟩)],.func (.func 62) #[] #[.pointer (some ⟨w.heap.size,0,none⟩)],.func (.func 63) #[] #[.pointer (some ⟨w.heap.size,0,none⟩)],.func (.func 65) #[] #[.pointer (some ⟨w.heap.size,0,none⟩)],.func (.func 68) #[] #[.pointer (some ⟨w.heap.size,0,none⟩)],.func (.func 71) #[] #[.pointer (some ⟨w.heap.size,0,none⟩)],.func (.func 73) #[] #[.pointer (some ⟨w.heap.size,0,none⟩)]] 32):=⟨_,rfl⟩
 have hB:Below w.heap.size w W1:=by rw [hW1];exact below_alloc (below_alloc (Below.refl _ _) _) _
 have bp:W1.heap[w.heap.size]? =some (.cells #[.int .u64 a5,.int .u64 a7,.int .u8 a8,.string b7,.string b6,.bool b9,.int .u64 d0,.int .u64 b5,.slice i3 b0.length i4,.slice i7 a6.length i5] 28 (0,0)):=by rw [hW1];exact blk_alloc (blk_new w _) _
 have bs:W1.heap[w.heap.size+1]? =some (.cells #[.func (.func 61) #[] #[.pointer (some ⟨w.heap.size,0,none⟩)],.func (.func 62) #[] #[.pointer (some ⟨w.heap.size,0,none⟩)],.func (.func 63) #[] #[.pointer (some ⟨w.heap.size,0,none⟩)],.func (.func 65) #[] #[.pointer (some ⟨w.heap.size,0,none⟩)],.func (.func 68) #[] #[.pointer (some ⟨w.heap.size,0,none⟩)],.func (.func 71) #[] #[.pointer (some ⟨w.heap.size,0,none⟩)],.func (.func 73) #[] #[.pointer (some ⟨w.heap.size,0,none⟩)]] 32 (0,0)):=by
  have hb:=blk_new (w.alloc (.cells #[.int .u64 a5,.int .u64 a7,.int .u8 a8,.string b7,.string b6,.bool b9,.int .u64 d0,.int .u64 b5,.slice i3 b0.length i4,.slice i7 a6.length i5] 28)) (.cells #[.func (.func 61) #[] #[.pointer (some ⟨w.heap.size,0,none⟩)],.func (.func 62) #[] #[.pointer (some ⟨w.heap.size,0,none⟩)],.func (.func 63) #[] #[.pointer (some ⟨w.heap.size,0,none⟩)],.func (.func 65) #[] #[.pointer (some ⟨w.heap.size,0,none⟩)],.func (.func 68) #[] #[.pointer (some ⟨w.heap.size,0,none⟩)],.func (.func 71) #[] #[.pointer (some ⟨w.heap.size,0,none⟩)],.func (.func 73) #[] #[.pointer (some ⟨w.heap.size,0,none⟩)]] 32)
  rw [World.size_alloc] at hb
  rw [hW1];exact hb
 have BS:=AM bs
 have HB:=AM hB
 have K1:=AM (fun (V:World) (hb:Below W1.heap.size W1 V)=>page_Check_c1 (blk_below bp hb))
 have K2:=AM (fun (V:World) (hb:Below W1.heap.size W1 V)=>page_Check_c2 (blk_below bp hb))
 have K3:=AM (fun (V:World) (hb:Below W1.heap.size W1 V) (t:Bool) (ht:page_Check_3 k a7 b7 b6 b9=some t)=>page_Check_c3 (blk_below bp hb) (Kd.C_below (Kd.C_below y3 hB) hb) B5 (Kd.C_below (Kd.C_below t8 hB) hb) u4 ht)
 have K4:=AM (fun (V:World) (hb:Below W1.heap.size W1 V) (t:Bool) (ht:page_Check_4 k b5 b0=some t)=>page_Check_c4 (blk_below bp hb) (Kd.C_below (Kd.C_below y3 hB) hb) B5 ht)
 have K5:=AM (fun (V:World) (hb:Below W1.heap.size W1 V) (t:Bool) (ht:page_Check_5 k b7 b6 b9 a6=some t)=>page_Check_c5 (blk_below bp hb) (Kd.C_below (Kd.C_below y3 hB) hb) B5 (Kd.C_below (Kd.C_below t8 hB) hb) u4 ht)
 have K6:=AM (fun (V:World) (hb:Below W1.heap.size W1 V) (t:Bool) (ht:page_Check_6 k a5 a7 a8 b7 b6 b9 d0 b5 b0 a6=some t)=>page_Check_c6 (blk_below bp hb) (Kd.C_below (Kd.C_below y3 hB) hb) B5 (Kd.C_below (Kd.C_below t8 hB) hb) u4 ht)
 have K7:=AM (fun (V:World) (hb:Below W1.heap.size W1 V) (t:Bool) (ht:page_Check_7 k a5 a7 a8 b7 b6 b9 d0 b5 b0 a6=some t)=>page_Check_c7 (blk_below bp hb) (Kd.C_below (Kd.C_below y3 hB) hb) B5 (Kd.C_below (Kd.C_below t8 hB) hb) u4 ht)
 clear bp hB y3 t8
 unfold page_Check.f at h
 have HH:=AM h
 clear h
 obtain ⟨g1,HG1⟩:∃ g,Aside0 (g=61):=⟨_,⟨rfl⟩⟩
 have eg1:∀ args w,(callFunc g1 args).run Tryz.prog w=.ok (.enter g1 args) w:=by rw [HG1.out];exact enters_of Tryz.func61 (by kernel_rfl) rfl
 obtain ⟨g2,HG2⟩:∃ g,Aside0 (g=62):=⟨_,⟨rfl⟩⟩
 have eg2:∀ args w,(callFunc g2 args).run Tryz.prog w=.ok (.enter g2 args) w:=by rw [HG2.out];exact enters_of Tryz.func62 (by kernel_rfl) rfl
 obtain ⟨g3,HG3⟩:∃ g,Aside0 (g=63):=⟨_,⟨rfl⟩⟩
 have eg3:∀ args w,(callFunc g3 args).run Tryz.prog w=.ok (.enter g3 args) w:=by rw [HG3.out];exact enters_of Tryz.func63 (by kernel_rfl) rfl
 obtain ⟨g4,HG4⟩:∃ g,Aside0 (g=65):=⟨_,⟨rfl⟩⟩
 have eg4:∀ args w,(callFunc g4 args).run Tryz.prog w=.ok (.enter g4 args) w:=by rw [HG4.out];exact enters_of Tryz.func65 (by kernel_rfl) rfl
 obtain ⟨g5,HG5⟩:∃ g,Aside0 (g=68):=⟨_,⟨rfl⟩⟩
 have eg5:∀ args w,(callFunc g5 args).run Tryz.prog w=.ok (.enter g5 args) w:=by rw [HG5.out];exact enters_of Tryz.func68 (by kernel_rfl) rfl
 obtain ⟨g6,HG6⟩:∃ g,Aside0 (g=71):=⟨_,⟨rfl⟩⟩
 have eg6:∀ args w,(callFunc g6 args).run Tryz.prog w=.ok (.enter g6 args) w:=by rw [HG6.out];exact enters_of Tryz.func71 (by kernel_rfl) rfl
 obtain ⟨g7,HG7⟩:∃ g,Aside0 (g=73):=⟨_,⟨rfl⟩⟩
 have eg7:∀ args w,(callFunc g7 args).run Tryz.prog w=.ok (.enter g7 args) w:=by rw [HG7.out];exact enters_of Tryz.func73 (by kernel_rfl) rfl
 have HV0:=AM (Below.refl W1.heap.size W1)
 have z0:W1.cell? ⟨w.heap.size+1,0,none⟩=some (.func (.func g1) #[] #[.pointer (some ⟨w.heap.size,0,none⟩)]):=by rw [HG1.out];exact (blk_cell bs 0).trans rfl
 clear bs
 go_enter Tryz.func37,Tryz.ntmps37
 go_wp2
 rw [← hW1]
 clear hW1
 refine wp_loop_rounds 8 ?_
 rw [rounds_succ]
 have k_:=K1.out W1 HV0.out
 rw [← HG1.out] at k_
 cases hb1:page_Check_1 a5 a7 <;> rw [hb1] at k_
 ·have h:=HH.out
  rw [if_neg (by rw [hb1];simp)] at h
  obtain rfl:=Option.some.inj h
  clear h HH
  go_wp2_with (go_at_fn g1;refine k_.mono ?_;rintro e V1 ⟨rfl,hb⟩;have HV1:=AM (below_step HV0.out hb);clear hb)
  go_ret
  exact ⟨rfl,below_step HB.out HV1.out⟩
 go_wp2_with (go_at_fn g1;refine k_.mono ?_;rintro e V1 ⟨rfl,hb⟩;have HV1:=AM (below_step HV0.out hb);clear hb)
 clear k_
 have z1:V1.cell? ⟨w.heap.size+1,1,none⟩=some (.func (.func g2) #[] #[.pointer (some ⟨w.heap.size,0,none⟩)]):=by rw [HG2.out];exact (blk_cell (blk_below BS.out HV1.out) 1).trans rfl
 rw [rounds_succ]
 have k_:=K2.out V1 HV1.out
 rw [← HG2.out] at k_
 cases hb2:page_Check_2 a8 d0 <;> rw [hb2] at k_
 ·have h:=HH.out
  rw [if_neg (by rw [hb2];simp)] at h
  obtain rfl:=Option.some.inj h
  clear h HH
  go_wp2_with (go_at_fn g2;refine k_.mono ?_;rintro e V2 ⟨rfl,hb⟩;have HV2:=AM (below_step HV1.out hb);clear hb)
  go_ret
  exact ⟨rfl,below_step HB.out HV2.out⟩
 go_wp2_with (go_at_fn g2;refine k_.mono ?_;rintro e V2 ⟨rfl,hb⟩;have HV2:=AM (below_step HV1.out hb);clear hb)
 have h:=HH.out
 rw [if_pos ⟨hb1,hb2⟩] at h
 clear HH
 obtain ⟨t3,h3,h⟩:=Option.bind_eq_some_iff.1 h
 have HH:=AM h
 have H3:=AM h3
 clear h h3 hb1 hb2
 clear k_
 have z2:V2.cell? ⟨w.heap.size+1,2,none⟩=some (.func (.func g3) #[] #[.pointer (some ⟨w.heap.size,0,none⟩)]):=by rw [HG3.out];exact (blk_cell (blk_below BS.out HV2.out) 2).trans rfl
 rw [rounds_succ]
 have k_:=K3.out V2 HV2.out t3 H3.out
 rw [← HG3.out] at k_
 cases t3
 ·have h:=HH.out
  rw [if_neg (by simp)] at h
  obtain rfl:=Option.some.inj h
  clear h HH
  go_wp2_with (go_at_fn g3;refine k_.mono ?_;rintro e V3 ⟨rfl,hb⟩;have HV3:=AM (below_step HV2.out hb);clear hb)
  go_ret
  exact ⟨rfl,below_step HB.out HV3.out⟩
 go_wp2_with (go_at_fn g3;refine k_.mono ?_;rintro e V3 ⟨rfl,hb⟩;have HV3:=AM (below_step HV2.out hb);clear hb)
 have h:=HH.out
 first|rw [if_pos rfl] at h|rw [if_pos True.intro] at h
 clear HH
 obtain ⟨t4,h4,h⟩:=Option.bind_eq_some_iff.1 h
 have HH:=AM h
 have H4:=AM h4
 clear h h4
 clear k_
 have z3:V3.cell? ⟨w.heap.size+1,3,none⟩=some (.func (.func g4) #[] #[.pointer (some ⟨w.heap.size,0,none⟩)]):=by rw [HG4.out];exact (blk_cell (blk_below BS.out HV3.out) 3).trans rfl
 rw [rounds_succ]
 have k_:=K4.out V3 HV3.out t4 H4.out
 rw [← HG4.out] at k_
 cases t4
 ·have h:=HH.out
  rw [if_neg (by simp)] at h
  obtain rfl:=Option.some.inj h
  clear h HH
  go_wp2_with (go_at_fn g4;refine k_.mono ?_;rintro e V4 ⟨rfl,hb⟩;have HV4:=AM (below_step HV3.out hb);clear hb)
  go_ret
  exact ⟨rfl,below_step HB.out HV4.out⟩
 go_wp2_with (go_at_fn g4;refine k_.mono ?_;rintro e V4 ⟨rfl,hb⟩;have HV4:=AM (below_step HV3.out hb);clear hb)
 have h:=HH.out
 first|rw [if_pos rfl] at h|rw [if_pos True.intro] at h
 clear HH
 obtain ⟨t5,h5,h⟩:=Option.bind_eq_some_iff.1 h
 have HH:=AM h
 have H5:=AM h5
 clear h h5
 clear k_
 have z4:V4.cell? ⟨w.heap.size+1,4,none⟩=some (.func (.func g5) #[] #[.pointer (some ⟨w.heap.size,0,none⟩)]):=by rw [HG5.out];exact (blk_cell (blk_below BS.out HV4.out) 4).trans rfl
 rw [rounds_succ]
 have k_:=K5.out V4 HV4.out t5 H5.out
 rw [← HG5.out] at k_
 cases t5
 ·have h:=HH.out
  rw [if_neg (by simp)] at h
  obtain rfl:=Option.some.inj h
  clear h HH
  go_wp2_with (go_at_fn g5;refine k_.mono ?_;rintro e V5 ⟨rfl,hb⟩;have HV5:=AM (below_step HV4.out hb);clear hb)
  go_ret
  exact ⟨rfl,below_step HB.out HV5.out⟩
 go_wp2_with (go_at_fn g5;refine k_.mono ?_;rintro e V5 ⟨rfl,hb⟩;have HV5:=AM (below_step HV4.out hb);clear hb)
 have h:=HH.out
 first|rw [if_pos rfl] at h|rw [if_pos True.intro] at h
 clear HH
 obtain ⟨t6,h6,h⟩:=Option.bind_eq_some_iff.1 h
 have HH:=AM h
 have H6:=AM h6
 clear h h6
 clear k_
 have z5:V5.cell? ⟨w.heap.size+1,5,none⟩=some (.func (.func g6) #[] #[.pointer (some ⟨w.heap.size,0,none⟩)]):=by rw [HG6.out];exact (blk_cell (blk_below BS.out HV5.out) 5).trans rfl
 rw [rounds_succ]
 have k_:=K6.out V5 HV5.out t6 H6.out
 rw [← HG6.out] at k_
 cases t6
 ·have h:=HH.out
  rw [if_neg (by simp)] at h
  obtain rfl:=Option.some.inj h
  clear h HH
  go_wp2_with (go_at_fn g6;refine k_.mono ?_;rintro e V6 ⟨rfl,hb⟩;have HV6:=AM (below_step HV5.out hb);clear hb)
  go_ret
  exact ⟨rfl,below_step HB.out HV6.out⟩
 go_wp2_with (go_at_fn g6;refine k_.mono ?_;rintro e V6 ⟨rfl,hb⟩;have HV6:=AM (below_step HV5.out hb);clear hb)
 have h:=HH.out
 first|rw [if_pos rfl] at h|rw [if_pos True.intro] at h
 clear HH
 obtain ⟨t7,h7,h⟩:=Option.bind_eq_some_iff.1 h
 have HH:=AM h
 have H7:=AM h7
 clear h h7
 clear k_
 have z6:V6.cell? ⟨w.heap.size+1,6,none⟩=some (.func (.func g7) #[] #[.pointer (some ⟨w.heap.size,0,none⟩)]):=by rw [HG7.out];exact (blk_cell (blk_below BS.out HV6.out) 6).trans rfl
 rw [rounds_succ]
 have k_:=K7.out V6 HV6.out t7 H7.out
 rw [← HG7.out] at k_
 cases t7
 ·have h:=HH.out
  rw [if_neg (by simp)] at h
  obtain rfl:=Option.some.inj h
  clear h HH
  go_wp2_with (go_at_fn g7;refine k_.mono ?_;rintro e V7 ⟨rfl,hb⟩;have HV7:=AM (below_step HV6.out hb);clear hb)
  go_ret
  exact ⟨rfl,below_step HB.out HV7.out⟩
 go_wp2_with (go_at_fn g7;refine k_.mono ?_;rintro e V7 ⟨rfl,hb⟩;have HV7:=AM (below_step HV6.out hb);clear hb)
 have h:=HH.out
 first|rw [if_pos rfl] at h|rw [if_pos True.intro] at h
 obtain rfl:=Option.some.inj h
 clear h HH
 clear k_
 rw [rounds_succ]
 go_wp2
 go_ret
 exact ⟨rfl,below_step HB.out HV7.out⟩

/-! ### merge_every_bool: function 44 -/
def merge_every_bool.l0:Nat→Bool→List Bool→Int→Int→Option (Bool)
 |0,_,_,_,_=>none
 |k+1,x0,x7,x8,x9=>if x9 < x8 then (if 0≤x9 then (if x9 < (x7.length:Int) then (if ((rdOf false x7 x9) != x0)=true then (some false) else (merge_every_bool.l0 k x0 x7 x8 (wrap64 (x9+1)))) else (none)) else (none)) else (some true)
def merge_every_bool.f (k:Nat) (a0:Bool) (l1:List Bool):Option (Bool):=merge_every_bool.l0 k a0 l1 (l1.length:Int) 0
theorem merge_every_bool.calls (k:Nat) (a0:Bool) (A1:Option Addr) (c1:Nat) (l1:List Bool) (r:Bool) (w:World) (hr1:Kd.C Kd.bool w A1 l1.length l1) (hc1:l1.length≤c1) (h:merge_every_bool.f k a0 l1=some r):
  Calls Tryz.prog 44 #[.bool a0,.slice A1 l1.length c1] w fun e w'=>e=.returned (.bool r)∧Drawn0 w w':=by
 (have HR1:=AM hr1);(have HC1:=AM hc1);(clear hr1 hc1);(have H:(merge_every_bool.l0 k a0 l1 (l1.length:Int) 0)=some r:=h);(clear h);(have H':=AM H);(clear H);(go_enter Tryz.func44,Tryz.ntmps44);(go_wp2);(go_loopg [9] k (fun kq v9 w'=>∃ (F5:Int),v9=.int .i64 F5∧Aside0 (merge_every_bool.l0 kq a0 l1 (l1.length:Int) F5=some r)∧Aside0 (kq≤k)∧Drawn0 w w'))
 case atStart=>exact ⟨(0),sd,H',⟨Nat.le_refl _⟩,by repeat (first|exact Drawn0.refl _ |apply Drawn0.step)⟩
 case round=>
  (clear H');(try clear c1);(try clear p2);(obtain ⟨F5,rfl,HA,G2,⟨m1,rfl⟩⟩:=hrel)
  cases gk with
  |zero=>exact absurd HA.out (by simp [merge_every_bool.l0])
  |succ k1=>
   (have H:=HA.out);(clear HA);(simp only [merge_every_bool.l0] at H);(by_cases c3:F5 < (l1.length:Int))
   ·(rw [if_pos c3] at H);(have ad6:=decide_eq_true c3);(clear c3);(by_cases c4:0≤F5)
    ·(rw [if_pos c4] at H);(have D1:=decide_eq_true c4);(clear c4);(by_cases c5:F5 < (l1.length:Int))
     ·(rw [if_pos c5] at H);(have au2:=decide_eq_true c5);(clear c5);(by_cases c6:((rdOf false l1 F5) != a0)=true)
      ·(rw [if_pos c6] at H);(have J4:((rdOf false l1 F5) != a0)=true:=c6);((try (have au3:decide ((rdOf false l1 F5)=a0)=false:=by simpa using c6)));((try (have kq9:((rdOf false l1 F5)==a0)=false:=by simpa using c6)));((try (have pa6:¬ ((rdOf false l1 F5)=a0):=by simpa using c6)));(clear c6);(obtain rfl:=Option.some.inj H);(have cp1:0≤(F5:Int):=od);(have cp2:F5 < (l1.length:Int):=od);(obtain ⟨ad145,e145,hs5⟩:=Kd.at_bool HR1.out F5 cp1 cp2);(cases e145);(replace cp1:=eq_true cp1);(replace cp2:=eq_true cp2);(go_wp2);(go_ret);(exact ⟨by first|rfl|(simp;done)|(simp [*];done),by repeat (first|exact Drawn0.refl _ |apply Drawn0.step)⟩)
      ·(rw [if_neg c6] at H);(have J4:((rdOf false l1 F5) != a0)=false:=by simpa using c6);((try (have au3:decide ((rdOf false l1 F5)=a0)=true:=by simpa using c6)));((try (have kq9:((rdOf false l1 F5)==a0)=true:=by simpa using c6)));(clear c6);(have H':=AM H);(clear H);(have cp1:0≤(F5:Int):=od);(have cp2:F5 < (l1.length:Int):=od);(obtain ⟨ad145,e145,hs5⟩:=Kd.at_bool HR1.out F5 cp1 cp2);(cases e145);(replace cp1:=eq_true cp1);(replace cp2:=eq_true cp2);(go_wp2);(go_roundg k1)
       case measure=>have:=G2.out;omega
       case rel=>exact ⟨(wrap64 (F5+1)),sd,H',⟨by have:=G2.out;omega⟩,by repeat (first|exact Drawn0.refl _ |apply Drawn0.step)⟩
     ·(rw [if_neg c5] at H);(exact absurd H (by simp))
    ·(rw [if_neg c4] at H);(exact absurd H (by simp))
   ·(rw [if_neg c3] at H);(have ad6:decide (F5 < (l1.length:Int))=false:=decide_eq_false c3);(clear c3);(obtain rfl:=Option.some.inj H);(go_wp2);(go_ret);(exact ⟨by first|rfl|(simp;done)|(simp [*];done),by repeat (first|exact Drawn0.refl _ |apply Drawn0.step)⟩)

end Go.Proofs.YtmfaopjfdedheaaGreat.T
