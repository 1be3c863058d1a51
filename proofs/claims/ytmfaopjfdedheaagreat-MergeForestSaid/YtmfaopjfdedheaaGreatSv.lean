/- Short words of squeeze5: chains of stores, rows moved by instances, masks. -/
import Derived.Test.YtmfaopjfdedheaaGreatSh
namespace Go.Proofs.YtmfaopjfdedheaaGreatW
open Go.RowKit Go.Proofs.YtmfaopjfdedheaaGreatW.PrintWords Go.Proofs.YtmfaopjfdedheaaGreatW.PrintLast Go.Proofs.YtmfaopjfdedheaaGreatW.PrintMore
set_option linter.unusedVariables false
/-! Behind stores into up to three blocks. -/
section
variable {α:Type} {d:Kd α} {e base n g g1 g2 g3 i:Nat} {ok:Nat→Prop} {v:Value} {xs:List α} {w0 W W':World} {o:Obj} {u:Value}
class KpT (g1 g2 g3:Nat) (W W':World):Prop where kp:Kept W W' (fun k=>k=g1∨k=g2∨k=g3)
instance:KpT g1 g2 g3 W W:=⟨Kept.refl _ _⟩
instance [h:KpT g1 g2 g3 W W']:KpT g1 g2 g3 W W'.drew:=⟨h.kp.drew⟩
instance [h:KpT g1 g2 g3 W W']:KpT g1 g2 g3 W (W'.drewN n):=⟨h.kp.drewN n⟩
instance [h:KpT g1 g2 g3 W W']:KpT g1 g2 g3 W (W'.alloc o):=⟨h.kp.alloc o⟩
instance [h:KpT g1 g2 g3 W W']:KpT g1 g2 g3 W (W'.setCell ⟨g3,i,none⟩ u):=⟨h.kp.setCell (.inl (.inr (.inr rfl))) u⟩
instance [h:KpT g1 g2 g3 W W']:KpT g1 g2 g3 W (W'.setCell ⟨g2,i,none⟩ u):=⟨h.kp.setCell (.inl (.inr (.inl rfl))) u⟩
instance [h:KpT g1 g2 g3 W W']:KpT g1 g2 g3 W (W'.setCell ⟨g1,i,none⟩ u):=⟨h.kp.setCell (.inl (.inl rfl)) u⟩
theorem ne3 (h1:∀ k,ok k→k≠g1) (h2:∀ k,ok k→k≠g2) (h3:∀ k,ok k→k≠g3):∀ k,ok k→¬ (k=g1∨k=g2∨k=g3):=fun k hk h=>h.elim (h1 k hk) (fun h=>h.elim (h2 k hk) (h3 k hk))
theorem fr1 (g1:Nat) (x:d.R e W base ok v xs) (h1:∀ k,ok k→k≠g1) [h:KpT g1 g1 g1 W W']:d.R e W' base ok v xs:=Kd.R_kept x h.kp (ne3 h1 h1 h1)
theorem fr2 (g1 g2:Nat) (x:d.R e W base ok v xs) (h1:∀ k,ok k→k≠g1) (h2:∀ k,ok k→k≠g2) [h:KpT g1 g2 g2 W W']:d.R e W' base ok v xs:=Kd.R_kept x h.kp (ne3 h1 h2 h2)
theorem fr3 (g1 g2 g3:Nat) (x:d.R e W base ok v xs) (h1:∀ k,ok k→k≠g1) (h2:∀ k,ok k→k≠g2) (h3:∀ k,ok k→k≠g3) [h:KpT g1 g2 g3 W W']:d.R e W' base ok v xs:=Kd.R_kept x h.kp (ne3 h1 h2 h3)
theorem fv1 (g1:Nat) (x:d.V e W base ok v xs) (h1:∀ k,ok k→k≠g1) [h:KpT g1 g1 g1 W W']:d.V e W' base ok v xs:=Kd.V_kept x h.kp (ne3 h1 h1 h1)
theorem fv2 (g1 g2:Nat) (x:d.V e W base ok v xs) (h1:∀ k,ok k→k≠g1) (h2:∀ k,ok k→k≠g2) [h:KpT g1 g2 g2 W W']:d.V e W' base ok v xs:=Kd.V_kept x h.kp (ne3 h1 h2 h2)
theorem fv3 (g1 g2 g3:Nat) (x:d.V e W base ok v xs) (h1:∀ k,ok k→k≠g1) (h2:∀ k,ok k→k≠g2) (h3:∀ k,ok k→k≠g3) [h:KpT g1 g2 g3 W W']:d.V e W' base ok v xs:=Kd.V_kept x h.kp (ne3 h1 h2 h3)
class VTo {α:Type} (d:Kd α) (e:Nat) (base:Nat) (ok:Nat→Prop) (v:Value) (xs:List α) (W W':World):Prop where mv:d.V e W base ok v xs→d.V e W' base ok v xs
instance:VTo d e base ok v xs W W:=⟨id⟩
instance [h:VTo d e base ok v xs W W']:VTo d e base ok v xs W W'.drew:=⟨fun x=>Kd.V_drew (h.mv x)⟩
instance [h:VTo d e base ok v xs W W']:VTo d e base ok v xs W (W'.drewN n):=⟨fun x=>Kd.V_drewN (h.mv x) n⟩
instance [h:VTo d e base ok v xs W W']:VTo d e base ok v xs W (W'.alloc o):=⟨fun x=>Kd.V_alloc (h.mv x) o⟩
theorem mvV [h:VTo d e base ok v xs W W'] (x:d.V e W base ok v xs):d.V e W' base ok v xs:=h.mv x
theorem nbl (hg:g2=W.heap.size) (b:Aside0 (w0.heap[g1]? =some o)) [h:BlkTo g1 o w0 W]:Aside0 (g1≠g2):=⟨by rw [hg];exact Nat.ne_of_lt (blk_lt (h.mv b.out))⟩
theorem nbg (hg:g2=W.heap.size) (b:Aside0 (w0.heap[g1]? =some o)) [h:BlkTo g1 o w0 W]:Aside0 (g2≠g1):=⟨by rw [hg];exact Nat.ne_of_gt (blk_lt (h.mv b.out))⟩
end
/-- Of n operations those are done whose bit is set. -/
def bm (n k:Nat):Array Bool:=((List.range n).map fun i=>k.testBit i).toArray
end Go.Proofs.YtmfaopjfdedheaaGreatW
namespace Go.Proofs.YtmfaopjfdedheaaGreatW
open Go.RowKit Go.Proofs.YtmfaopjfdedheaaGreatW.PrintWords Go.Proofs.YtmfaopjfdedheaaGreatW.PrintLast Go.Proofs.YtmfaopjfdedheaaGreatW.PrintMore
set_option linter.unusedVariables false
section
variable {g j b i:Nat} {W W':World} {u:Value}
class HpTo (g:Nat) (W W':World):Prop where hp:W'.heap[g]? =W.heap[g]?
instance:HpTo g W W:=⟨rfl⟩
instance [h:HpTo g W W'] [hn:Aside0 (g≠b)]:HpTo g W (W'.setCell ⟨b,i,none⟩ u):=⟨(Below.heap_setCell W' ⟨b,i,none⟩ u g hn.out).trans h.hp⟩
instance [h:HpTo g W W']:CelTo ⟨g,j,none⟩ W W':=⟨fun {v} x=>by
 have e:=h.hp
 have e2:W'.cell? ⟨g,j,none⟩=W.cell? ⟨g,j,none⟩:=by simp [World.cell?,e]
 exact e2.trans x⟩
end
end Go.Proofs.YtmfaopjfdedheaaGreatW
namespace Go.Proofs.YtmfaopjfdedheaaGreatW
open Go.RowKit Go.Proofs.YtmfaopjfdedheaaGreatW.PrintWords Go.Proofs.YtmfaopjfdedheaaGreatW.PrintLast Go.Proofs.YtmfaopjfdedheaaGreatW.PrintMore
set_option linter.unusedVariables false
set_option linter.defProp false
/-! Facts moved on behind a call or an event. -/
section
variable {α:Type} {d:Kd α} {e base g:Nat} {ok:Nat→Prop} {v u:Value} {xs:List α} {w0 W W' w':World} {o:Obj}
theorem bb (h:Aside0 (W.heap[g]? =some o)) (hb:Below W'.heap.size W' w') [m:BlkTo g o W W']:Aside0 (w'.heap[g]? =some o):=⟨blk_below (m.mv h.out) hb⟩
theorem bd (h:Aside0 (W.heap[g]? =some o)):Aside0 (W.drew.heap[g]? =some o):=⟨blk_drew h.out⟩
theorem sb (h:Aside0 (Below w0.heap.size w0 W)) (hb:Below W'.heap.size W' w') [m:BelTo w0 W W']:Aside0 (Below w0.heap.size w0 w'):=⟨below_step (m.mv h.out) hb⟩
theorem wd (h:Aside0 (Below w0.heap.size w0 W)):Aside0 (Below w0.heap.size w0 W.drew):=⟨below_drew1 h.out⟩
theorem vb (h:Aside0 (d.V e W base ok v xs)) (hb:Below W'.heap.size W' w') [m:VTo d e base ok v xs W W']:Aside0 (d.V e w' base ok v xs):=⟨Kd.V_below (m.mv h.out) hb⟩
theorem vd (h:Aside0 (d.V e W base ok v xs)):Aside0 (d.V e W.drew base ok v xs):=⟨Kd.V_drew h.out⟩
theorem ve (h:Aside0 (d.V e W base ok v xs)) (hg:g=W'.heap.size) (hb:Below W'.heap.size W' w') [m:VTo d e base ok v xs W W']:Aside0 (d.V e w' base (fun k=>ok k∧k≠g) v xs):=⟨Kd.V_below (Kd.V_elderB (m.mv h.out) g (Nat.le_of_eq hg.symm)) hb⟩
theorem vl (h:Aside0 (d.V e W base ok v xs)) (hbase:∀ k,u.ownBlock=some k→W'.heap.size≤k) (hb:Below W'.heap.size W' w') [m:VTo d e base ok v xs W W']:Aside0 (d.V e w' base (fun k=>ok k∧some k≠u.ownBlock) v xs):=⟨Kd.V_elder' (m.mv h.out) hbase hb⟩
theorem rb (h:Aside0 (d.R e W base ok v xs)) (hb:Below W'.heap.size W' w') [m:RTo d e base ok v xs W W']:Aside0 (d.R e w' base ok v xs):=⟨Kd.R_below (m.mv h.out) hb⟩
theorem rl (h:Aside0 (d.R e W base ok v xs)) (hbase:∀ k,u.ownBlock=some k→W'.heap.size≤k) (hb:Below W'.heap.size W' w') [m:RTo d e base ok v xs W W']:Aside0 (d.R e w' base (fun k=>ok k∧some k≠u.ownBlock) v xs):=⟨Kd.R_elder' (m.mv h.out) hbase hb⟩
end
/-! A condition's ways. -/
section
variable {α β:Type} {a b:Option α} {r:α} {c:Prop} [i:Decidable c] {x y:Int} {t:Bool}
theorem gd (h:(if c then a else none)=some r):decide c=true∧a=some r:=by
 by_cases hc:c
 ·rw [if_pos hc] at h;exact ⟨decide_eq_true hc,h⟩
 ·rw [if_neg hc] at h;cases h
theorem sp (h:(if c then a else b)=some r):(decide c=true∧a=some r)∨(decide c=false∧b=some r):=by
 by_cases hc:c
 ·rw [if_pos hc] at h;exact .inl ⟨decide_eq_true hc,h⟩
 ·rw [if_neg hc] at h;exact .inr ⟨decide_eq_false hc,h⟩
theorem spg (h:(if x > y then a else b)=some r):(decide (y < x)=true∧a=some r)∨(decide (y < x)=false∧b=some r):=sp h
theorem spe (h:(if x≥y then a else b)=some r):(decide (y≤x)=true∧a=some r)∨(decide (y≤x)=false∧b=some r):=sp h
theorem eq2 (h:(if x=y then a else b)=some r):(((x==y)=true∧(x != y)=false)∧a=some r)∨(((x==y)=false∧(x != y)=true)∧b=some r):=by
 by_cases hc:x=y
 ·rw [if_pos hc] at h;exact .inl ⟨⟨beq_iff_eq.mpr hc,bne_eq_false_iff_eq.mpr hc⟩,h⟩
 ·rw [if_neg hc] at h;exact .inr ⟨⟨beq_eq_false_iff_ne.mpr hc,bne_iff_ne.mpr hc⟩,h⟩
theorem eqn (h:(if x=y then a else none)=some r):((x==y)=true∧(x != y)=false)∧a=some r:=by
 rcases eq2 h with h|⟨_,h⟩
 ·exact h
 ·cases h
theorem sB (h:(if t=true then a else b)=some r):(t=true∧a=some r)∨(t=false∧b=some r):=by
 cases t
 ·exact .inr ⟨rfl,h⟩
 ·exact .inl ⟨rfl,h⟩
theorem gB (h:(if t=true then a else none)=some r):t=true∧a=some r:=by
 cases t
 ·cases h
 ·exact ⟨rfl,h⟩
theorem bs {o:Option β} {f:β→Option α} (h:o.bind f=some r):∃ z,Aside0 (o=some z)∧f z=some r:=
 let ⟨z,h1,h2⟩:=Option.bind_eq_some_iff.mp h
 ⟨z,⟨h1⟩,h2⟩
end
/-! A block's cells, as one fact. -/
section
variable {w:World} {g t:Nat} {v0 v1 v2 v3 v4 v5 v6 v7 v8 v9:Value}
def b2 (h:Aside0 (w.heap[g]? =some (.cells #[v0,v1] t (0,0)))):=And.intro (bc2 h.out) (bf2 h.out)
@[reducible] def cb2 (g:Nat) (v0 v1:Value) (w:World):Prop:=w.cell? ⟨g,0,none⟩=some v0∧w.cell? ⟨g,1,none⟩=some v1
theorem cc2 (h:Aside0 (w.heap[g]? =some (.cells #[v0,v1] t (0,0)))):cb2 g v0 v1 w:=bc2 h.out
def b3 (h:Aside0 (w.heap[g]? =some (.cells #[v0,v1,v2] t (0,0)))):=And.intro (bc3 h.out) (bf3 h.out)
@[reducible] def cb3 (g:Nat) (v0 v1 v2:Value) (w:World):Prop:=w.cell? ⟨g,0,none⟩=some v0∧w.cell? ⟨g,1,none⟩=some v1∧w.cell? ⟨g,2,none⟩=some v2
theorem cc3 (h:Aside0 (w.heap[g]? =some (.cells #[v0,v1,v2] t (0,0)))):cb3 g v0 v1 v2 w:=bc3 h.out
def b10 (h:Aside0 (w.heap[g]? =some (.cells #[v0,v1,v2,v3,v4,v5,v6,v7,v8,v9] t (0,0)))):=And.intro (bc10 h.out) (bf10 h.out)
@[reducible] def cb10 (g:Nat) (v0 v1 v2 v3 v4 v5 v6 v7 v8 v9:Value) (w:World):Prop:=w.cell? ⟨g,0,none⟩=some v0∧w.cell? ⟨g,1,none⟩=some v1∧w.cell? ⟨g,2,none⟩=some v2∧w.cell? ⟨g,3,none⟩=some v3∧w.cell? ⟨g,4,none⟩=some v4∧w.cell? ⟨g,5,none⟩=some v5∧w.cell? ⟨g,6,none⟩=some v6∧w.cell? ⟨g,7,none⟩=some v7∧w.cell? ⟨g,8,none⟩=some v8∧w.cell? ⟨g,9,none⟩=some v9
theorem cc10 (h:Aside0 (w.heap[g]? =some (.cells #[v0,v1,v2,v3,v4,v5,v6,v7,v8,v9] t (0,0)))):cb10 g v0 v1 v2 v3 v4 v5 v6 v7 v8 v9 w:=bc10 h.out
end
/-! A region, begun by what its loads read. -/
section
variable {P:Program} {ops:Array Oper} {Q:Exit→Act→World→Prop} {id n:Nat} {a:Act} {w:World} {f f2 f3 f4:World→Prop} {T:Bool×List (List Nat×List Nat)} {B:List Nat}
theorem st1 (l:Array Bool) (h1:f w.drew) (hT:rtab .any ops=T) (hB:waitsOk T.2 B=true) (h:f w.drew→Aside0 (rtab .any ops=T)→Aside0 (waitsOk T.2 B=true)→wpAnyLast P .any ops Q (fun w'=>f w') [] n l a w.drew)
  (hm:P.follows .mixedOrders=true:=by kernel_rfl) (hn:ops.size=n:=by rfl) (hl:Array.replicate n false=l:=by rfl):(Code.region id ops true).wp P Q a w:=
 start_ (S:=fun w'=>f w') (ds:=[]) l hm hn hl h1 fun x=>h x ⟨hT⟩ ⟨hB⟩
theorem st2 (l:Array Bool) (h1:f w.drew) (h2:f2 w.drew) (hT:rtab .any ops=T) (hB:waitsOk T.2 B=true) (h:f w.drew∧f2 w.drew→Aside0 (rtab .any ops=T)→Aside0 (waitsOk T.2 B=true)→wpAnyLast P .any ops Q (fun w'=>f w'∧f2 w') [] n l a w.drew)
  (hm:P.follows .mixedOrders=true:=by kernel_rfl) (hn:ops.size=n:=by rfl) (hl:Array.replicate n false=l:=by rfl):(Code.region id ops true).wp P Q a w:=
 start_ (S:=fun w'=>f w'∧f2 w') (ds:=[]) l hm hn hl ⟨h1,h2⟩ fun x=>h x ⟨hT⟩ ⟨hB⟩
theorem st3 (l:Array Bool) (h1:f w.drew) (h2:f2 w.drew) (h3:f3 w.drew) (hT:rtab .any ops=T) (hB:waitsOk T.2 B=true) (h:f w.drew∧f2 w.drew∧f3 w.drew→Aside0 (rtab .any ops=T)→Aside0 (waitsOk T.2 B=true)→wpAnyLast P .any ops Q (fun w'=>f w'∧f2 w'∧f3 w') [] n l a w.drew)
  (hm:P.follows .mixedOrders=true:=by kernel_rfl) (hn:ops.size=n:=by rfl) (hl:Array.replicate n false=l:=by rfl):(Code.region id ops true).wp P Q a w:=
 start_ (S:=fun w'=>f w'∧f2 w'∧f3 w') (ds:=[]) l hm hn hl ⟨h1,h2,h3⟩ fun x=>h x ⟨hT⟩ ⟨hB⟩
end
/-! Runs of operations. -/
section
variable {P:Program} {md:Region.Mode} {ops:Array Oper} {Q:Exit→Act→World→Prop} {S:World→Prop} {ds:List Nat} {T:Bool×List (List Nat×List Nat)} {i n fuel:Nat} {l l':Array Bool} {a a' a'':Act} {w:World} {oi:Oper} {v:Value}
/-- k operations from i on, n their first place. -/
def PR (P:Program) (md:Region.Mode) (ops:Array Oper) (Q:Exit→Act→World→Prop) (S:World→Prop) (ds:List Nat) (T:Bool×List (List Nat×List Nat)) (k i n fuel:Nat) (l l':Array Bool) (a a':Act) (w:World):Prop:=Aside0 (rtab md ops=T)→wpAnyLast P md ops Q S ds fuel l' a' w→wpAnyLast P md ops Q S ds (fuel+k) l a w
theorem pu1 (hi:ops[i]? =some oi:=by rfl) (hN:oi.dst=some n:=by rfl) (hc:anyT T l.toList l'.toList i=true:=by kernel_rfl)
  (hw:Region.wanted oi (yielded ops a.tmps)=true:=by rfl) (hy:∀ w',(execOp a.eval oi).run P w'=.ok (.value v) w':=by intro w';go_simp;with_reducible rfl)
  (ha:a.put (some n) v=a':=by (try simp only [s8]);simp only [sA];rfl)
  (hQ:∀ c a w,Q (.panic c) (a.put oi.dst v) w→Q (.panic c) a w:=by exact fun _ _ _ h=>h):PR P md ops Q S ds T 1 i n fuel l l' a a' w:=fun hT h=>pu i n l' hT h hi hN hc hw hy ha hQ
theorem pn1 (hi:ops[i]? =some oi:=by rfl) (hN:oi.dst=some n:=by rfl) (hc:anyT T l.toList l'.toList i=true:=by kernel_rfl)
  (hw:Region.wanted oi (yielded ops a.tmps)=false:=by rfl) (ha:a.put (some n) undef=a':=by (try simp only [s8]);simp only [sA];rfl)
  (hQ:∀ c a w,Q (.panic c) (a.put oi.dst undef) w→Q (.panic c) a w:=by exact fun _ _ _ h=>h):PR P md ops Q S ds T 1 i n fuel l l' a a' w:=fun hT h=>pn i n l' hT h hi hN hc hw ha hQ
theorem pur2 (hp:PR P md ops Q S ds T 1 i n (fuel+1) l (l.setIfInBounds i true) a a' w:=by exact pu1) (hq:PR P md ops Q S ds T 1 (i+1) (n+1) fuel (l.setIfInBounds i true) l' a' a'' w:=by exact pu1):PR P md ops Q S ds T 2 i n fuel l l' a a'' w:=fun hT h=>hp hT (hq hT h)
theorem pu2 (i n:Nat) (l':Array Bool) (hT:Aside0 (rtab md ops=T)) (h:wpAnyLast P md ops Q S ds fuel l' a' w) (hp:PR P md ops Q S ds T 2 i n fuel l l' a a' w:=by exact pur2):wpAnyLast P md ops Q S ds (fuel+2) l a w:=hp hT h
theorem pur4 (hp:PR P md ops Q S ds T 2 i n (fuel+2) l ((l.setIfInBounds i true).setIfInBounds (i+1) true) a a' w:=by exact pur2) (hq:PR P md ops Q S ds T 2 (i+2) (n+2) fuel ((l.setIfInBounds i true).setIfInBounds (i+1) true) l' a' a'' w:=by exact pur2):PR P md ops Q S ds T 4 i n fuel l l' a a'' w:=fun hT h=>hp hT (hq hT h)
theorem pu4 (i n:Nat) (l':Array Bool) (hT:Aside0 (rtab md ops=T)) (h:wpAnyLast P md ops Q S ds fuel l' a' w) (hp:PR P md ops Q S ds T 4 i n fuel l l' a a' w:=by exact pur4):wpAnyLast P md ops Q S ds (fuel+4) l a w:=hp hT h
theorem pur8 (hp:PR P md ops Q S ds T 4 i n (fuel+4) l ((((l.setIfInBounds i true).setIfInBounds (i+1) true).setIfInBounds (i+2) true).setIfInBounds (i+3) true) a a' w:=by exact pur4) (hq:PR P md ops Q S ds T 4 (i+4) (n+4) fuel ((((l.setIfInBounds i true).setIfInBounds (i+1) true).setIfInBounds (i+2) true).setIfInBounds (i+3) true) l' a' a'' w:=by exact pur4):PR P md ops Q S ds T 8 i n fuel l l' a a'' w:=fun hT h=>hp hT (hq hT h)
theorem pu8 (i n:Nat) (l':Array Bool) (hT:Aside0 (rtab md ops=T)) (h:wpAnyLast P md ops Q S ds fuel l' a' w) (hp:PR P md ops Q S ds T 8 i n fuel l l' a a' w:=by exact pur8):wpAnyLast P md ops Q S ds (fuel+8) l a w:=hp hT h
theorem pnr2 (hp:PR P md ops Q S ds T 1 i n (fuel+1) l (l.setIfInBounds i true) a a' w:=by exact pn1) (hq:PR P md ops Q S ds T 1 (i+1) (n+1) fuel (l.setIfInBounds i true) l' a' a'' w:=by exact pn1):PR P md ops Q S ds T 2 i n fuel l l' a a'' w:=fun hT h=>hp hT (hq hT h)
theorem pn2 (i n:Nat) (l':Array Bool) (hT:Aside0 (rtab md ops=T)) (h:wpAnyLast P md ops Q S ds fuel l' a' w) (hp:PR P md ops Q S ds T 2 i n fuel l l' a a' w:=by exact pnr2):wpAnyLast P md ops Q S ds (fuel+2) l a w:=hp hT h
theorem pnr4 (hp:PR P md ops Q S ds T 2 i n (fuel+2) l ((l.setIfInBounds i true).setIfInBounds (i+1) true) a a' w:=by exact pnr2) (hq:PR P md ops Q S ds T 2 (i+2) (n+2) fuel ((l.setIfInBounds i true).setIfInBounds (i+1) true) l' a' a'' w:=by exact pnr2):PR P md ops Q S ds T 4 i n fuel l l' a a'' w:=fun hT h=>hp hT (hq hT h)
theorem pn4 (i n:Nat) (l':Array Bool) (hT:Aside0 (rtab md ops=T)) (h:wpAnyLast P md ops Q S ds fuel l' a' w) (hp:PR P md ops Q S ds T 4 i n fuel l l' a a' w:=by exact pnr4):wpAnyLast P md ops Q S ds (fuel+4) l a w:=hp hT h
theorem pnr8 (hp:PR P md ops Q S ds T 4 i n (fuel+4) l ((((l.setIfInBounds i true).setIfInBounds (i+1) true).setIfInBounds (i+2) true).setIfInBounds (i+3) true) a a' w:=by exact pnr4) (hq:PR P md ops Q S ds T 4 (i+4) (n+4) fuel ((((l.setIfInBounds i true).setIfInBounds (i+1) true).setIfInBounds (i+2) true).setIfInBounds (i+3) true) l' a' a'' w:=by exact pnr4):PR P md ops Q S ds T 8 i n fuel l l' a a'' w:=fun hT h=>hp hT (hq hT h)
theorem pn8 (i n:Nat) (l':Array Bool) (hT:Aside0 (rtab md ops=T)) (h:wpAnyLast P md ops Q S ds fuel l' a' w) (hp:PR P md ops Q S ds T 8 i n fuel l l' a a' w:=by exact pnr8):wpAnyLast P md ops Q S ds (fuel+8) l a w:=hp hT h
theorem pnr16 (hp:PR P md ops Q S ds T 8 i n (fuel+8) l ((((((((l.setIfInBounds i true).setIfInBounds (i+1) true).setIfInBounds (i+2) true).setIfInBounds (i+3) true).setIfInBounds (i+4) true).setIfInBounds (i+5) true).setIfInBounds (i+6) true).setIfInBounds (i+7) true) a a' w:=by exact pnr8) (hq:PR P md ops Q S ds T 8 (i+8) (n+8) fuel ((((((((l.setIfInBounds i true).setIfInBounds (i+1) true).setIfInBounds (i+2) true).setIfInBounds (i+3) true).setIfInBounds (i+4) true).setIfInBounds (i+5) true).setIfInBounds (i+6) true).setIfInBounds (i+7) true) l' a' a'' w:=by exact pnr8):PR P md ops Q S ds T 16 i n fuel l l' a a'' w:=fun hT h=>hp hT (hq hT h)
theorem pn16 (i n:Nat) (l':Array Bool) (hT:Aside0 (rtab md ops=T)) (h:wpAnyLast P md ops Q S ds fuel l' a' w) (hp:PR P md ops Q S ds T 16 i n fuel l l' a a' w:=by exact pnr16):wpAnyLast P md ops Q S ds (fuel+16) l a w:=hp hT h
end
end Go.Proofs.YtmfaopjfdedheaaGreatW
