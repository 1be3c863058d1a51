/- What stays as it is from world to world, found by instances: a block, an own row, what lies below. -/
import Derived.Test.YtmfaopjfdedheaaGreatWMore
namespace Go.Proofs.YtmfaopjfdedheaaGreatW
open Go.RowKit Go.Proofs.YtmfaopjfdedheaaGreatW.PrintWords Go.Proofs.YtmfaopjfdedheaaGreatW.PrintLast Go.Proofs.YtmfaopjfdedheaaGreatW.PrintMore
set_option linter.unusedVariables false
section
variable {g b i:Nat} {o o':Obj} {cs:Array Value} {t:TypeId} {W W' w0:World} {u:Value}
class BlkTo (g:Nat) (o:Obj) (W W':World):Prop where mv:W.heap[g]? =some o→W'.heap[g]? =some o
instance:BlkTo g o W W:=⟨id⟩
instance [h:BlkTo g o W W']:BlkTo g o W W'.drew:=⟨fun x=>blk_drew (h.mv x)⟩
instance {n:Nat} [h:BlkTo g o W W']:BlkTo g o W (W'.drewN n):=⟨fun x=>blk_drewN (h.mv x) n⟩
instance [h:BlkTo g o W W']:BlkTo g o W (W'.alloc o'):=⟨fun x=>blk_alloc (h.mv x) o'⟩
instance [h:BlkTo g (.cells cs t (0,0)) W W'] [hn:Aside0 (g≠b)]:BlkTo g (.cells cs t (0,0)) W (W'.setCell ⟨b,i,none⟩ u):=⟨fun x=>blk_far (p:=⟨b,i,none⟩) (h.mv x) hn.out u⟩
theorem mvB [h:BlkTo g o W W'] (x:W.heap[g]? =some o):W'.heap[g]? =some o:=h.mv x
class BelTo (w0 W W':World):Prop where mv:Below w0.heap.size w0 W→Below w0.heap.size w0 W'
instance:BelTo w0 W W:=⟨id⟩
instance [h:BelTo w0 W W']:BelTo w0 W W'.drew:=⟨fun x=>below_drew1 (h.mv x)⟩
instance {n:Nat} [h:BelTo w0 W W']:BelTo w0 W (W'.drewN n):=⟨fun x=>pw_below_drewN (h.mv x) n⟩
instance [h:BelTo w0 W W']:BelTo w0 W (W'.alloc o'):=⟨fun x=>below_alloc (h.mv x) o'⟩
instance [h:BelTo w0 W W'] [hn:Aside0 (w0.heap.size≤b)]:BelTo w0 W (W'.setCell ⟨b,i,none⟩ u):=⟨fun x=>below_set (h.mv x) hn.out⟩
theorem mvW [h:BelTo w0 W W'] (x:Below w0.heap.size w0 W):Below w0.heap.size w0 W':=h.mv x
end
section
variable {α:Type} {d:Kd α} {e base:Nat} {ok:Nat→Prop} {v:Value} {xs:List α} {W W':World} {o:Obj}
class RTo {α:Type} (d:Kd α) (e:Nat) (base:Nat) (ok:Nat→Prop) (v:Value) (xs:List α) (W W':World):Prop where mv:d.R e W base ok v xs→d.R e W' base ok v xs
instance:RTo d e base ok v xs W W:=⟨id⟩
instance [h:RTo d e base ok v xs W W']:RTo d e base ok v xs W W'.drew:=⟨fun x=>Kd.R_drew (h.mv x)⟩
instance {n:Nat} [h:RTo d e base ok v xs W W']:RTo d e base ok v xs W (W'.drewN n):=⟨fun x=>Kd.R_drewN (h.mv x) n⟩
instance [h:RTo d e base ok v xs W W']:RTo d e base ok v xs W (W'.alloc o):=⟨fun x=>Kd.R_alloc (h.mv x) o⟩
theorem mvR [h:RTo d e base ok v xs W W'] (x:d.R e W base ok v xs):d.R e W' base ok v xs:=h.mv x
theorem R_fart (h:d.R e W base ok v xs) {g t i:Nat} {cells:Array Value} {u:Value} (hb:W.heap[g]? =some (.cells cells t (0,0))) (ht:∀ q,q∈e::d.E→q≠t):d.R e (W.setCell ⟨g,i,none⟩ u) base (fun k=>ok k∧k≠g) v xs:=
 Kd.R_far (p:=⟨g,i,none⟩) (Kd.R_types h hb ht) (fun _ hk=>hk.2) u
end
/-- n operations are done, m are not. -/
def bv (n m:Nat):Array Bool:=(List.replicate n true++List.replicate m false).toArray
/-- A temporary is set: what a walk by hand reduces. -/
theorem sA:(∀ (a:Act) (n:Tmp) (v:Value),Act.put a (some n) v={ a with tmps:=a.tmps.setIfInBounds n v })∧(∀ (a:Act) (v:Value),Act.put a none v=a)∧(∀ (l:List Value) (i:Nat) (v:Value),l.toArray.setIfInBounds i v=(l.set i v).toArray)∧
  (∀ (x y:Value) (l:List Value),(x::l).set 0 y=y::l)∧(∀ (x y:Value) (l:List Value) (n:Nat),(x::l).set (n+1) y=x::l.set n y)∧(∀ n:Int,IntKind.i64.wrap n=wrap64 n)∧(∀ n:Int,IntKind.i32.wrap n=wrap32 n):=
 ⟨fun _ _ _=>rfl,fun _ _=>rfl,fun l i v=>by simp,fun _ _ _=>rfl,fun _ _ _ _=>rfl,i64_w,i32_w⟩
/-! A block's cells, all at once. -/
section
variable {w:World} {g t:Nat} {v0 v1 v2 v3 v4 v5 v6 v7 v8 v9 v10 v11:Value} {p0 p1 p2 p3 p4 p5 p6 p7 p8 p9 p10 p11 q:Prop}
theorem bc2 (h:w.heap[g]? =some (.cells #[v0,v1] t (0,0))):w.cell? ⟨g,0,none⟩=some v0∧w.cell? ⟨g,1,none⟩=some v1:=
 ⟨(blk_cell h 0).trans rfl,(blk_cell h 1).trans rfl⟩
theorem bf2 (h:w.heap[g]? =some (.cells #[v0,v1] t (0,0))):w.frozen? ⟨g,0,none⟩=false∧w.frozen? ⟨g,1,none⟩=false:=
 ⟨blk_frozen h 0,blk_frozen h 1⟩
theorem bc3 (h:w.heap[g]? =some (.cells #[v0,v1,v2] t (0,0))):w.cell? ⟨g,0,none⟩=some v0∧w.cell? ⟨g,1,none⟩=some v1∧w.cell? ⟨g,2,none⟩=some v2:=
 ⟨(blk_cell h 0).trans rfl,(blk_cell h 1).trans rfl,(blk_cell h 2).trans rfl⟩
theorem bf3 (h:w.heap[g]? =some (.cells #[v0,v1,v2] t (0,0))):w.frozen? ⟨g,0,none⟩=false∧w.frozen? ⟨g,1,none⟩=false∧w.frozen? ⟨g,2,none⟩=false:=
 ⟨blk_frozen h 0,blk_frozen h 1,blk_frozen h 2⟩
theorem bc4 (h:w.heap[g]? =some (.cells #[v0,v1,v2,v3] t (0,0))):w.cell? ⟨g,0,none⟩=some v0∧w.cell? ⟨g,1,none⟩=some v1∧w.cell? ⟨g,2,none⟩=some v2∧w.cell? ⟨g,3,none⟩=some v3:=
 ⟨(blk_cell h 0).trans rfl,(blk_cell h 1).trans rfl,(blk_cell h 2).trans rfl,(blk_cell h 3).trans rfl⟩
theorem bf4 (h:w.heap[g]? =some (.cells #[v0,v1,v2,v3] t (0,0))):w.frozen? ⟨g,0,none⟩=false∧w.frozen? ⟨g,1,none⟩=false∧w.frozen? ⟨g,2,none⟩=false∧w.frozen? ⟨g,3,none⟩=false:=
 ⟨blk_frozen h 0,blk_frozen h 1,blk_frozen h 2,blk_frozen h 3⟩
theorem bc5 (h:w.heap[g]? =some (.cells #[v0,v1,v2,v3,v4] t (0,0))):w.cell? ⟨g,0,none⟩=some v0∧w.cell? ⟨g,1,none⟩=some v1∧w.cell? ⟨g,2,none⟩=some v2∧w.cell? ⟨g,3,none⟩=some v3∧w.cell? ⟨g,4,none⟩=some v4:=
 ⟨(blk_cell h 0).trans rfl,(blk_cell h 1).trans rfl,(blk_cell h 2).trans rfl,(blk_cell h 3).trans rfl,(blk_cell h 4).trans rfl⟩
theorem bf5 (h:w.heap[g]? =some (.cells #[v0,v1,v2,v3,v4] t (0,0))):w.frozen? ⟨g,0,none⟩=false∧w.frozen? ⟨g,1,none⟩=false∧w.frozen? ⟨g,2,none⟩=false∧w.frozen? ⟨g,3,none⟩=false∧w.frozen? ⟨g,4,none⟩=false:=
 ⟨blk_frozen h 0,blk_frozen h 1,blk_frozen h 2,blk_frozen h 3,blk_frozen h 4⟩
theorem ap5:p0∧p1∧p2∧p3∧p4→q→p0∧p1∧p2∧p3∧p4∧q
 |⟨h0,h1,h2,h3,h4⟩,k=>⟨h0,h1,h2,h3,h4,k⟩
theorem bc6 (h:w.heap[g]? =some (.cells #[v0,v1,v2,v3,v4,v5] t (0,0))):w.cell? ⟨g,0,none⟩=some v0∧w.cell? ⟨g,1,none⟩=some v1∧w.cell? ⟨g,2,none⟩=some v2∧w.cell? ⟨g,3,none⟩=some v3∧w.cell? ⟨g,4,none⟩=some v4∧w.cell? ⟨g,5,none⟩=some v5:=
 ⟨(blk_cell h 0).trans rfl,(blk_cell h 1).trans rfl,(blk_cell h 2).trans rfl,(blk_cell h 3).trans rfl,(blk_cell h 4).trans rfl,(blk_cell h 5).trans rfl⟩
theorem bf6 (h:w.heap[g]? =some (.cells #[v0,v1,v2,v3,v4,v5] t (0,0))):w.frozen? ⟨g,0,none⟩=false∧w.frozen? ⟨g,1,none⟩=false∧w.frozen? ⟨g,2,none⟩=false∧w.frozen? ⟨g,3,none⟩=false∧w.frozen? ⟨g,4,none⟩=false∧w.frozen? ⟨g,5,none⟩=false:=
 ⟨blk_frozen h 0,blk_frozen h 1,blk_frozen h 2,blk_frozen h 3,blk_frozen h 4,blk_frozen h 5⟩
theorem ap6:p0∧p1∧p2∧p3∧p4∧p5→q→p0∧p1∧p2∧p3∧p4∧p5∧q
 |⟨h0,h1,h2,h3,h4,h5⟩,k=>⟨h0,h1,h2,h3,h4,h5,k⟩
theorem bc7 (h:w.heap[g]? =some (.cells #[v0,v1,v2,v3,v4,v5,v6] t (0,0))):w.cell? ⟨g,0,none⟩=some v0∧w.cell? ⟨g,1,none⟩=some v1∧w.cell? ⟨g,2,none⟩=some v2∧w.cell? ⟨g,3,none⟩=some v3∧w.cell? ⟨g,4,none⟩=some v4∧w.cell? ⟨g,5,none⟩=some v5∧w.cell? ⟨g,6,none⟩=some v6:=
 ⟨(blk_cell h 0).trans rfl,(blk_cell h 1).trans rfl,(blk_cell h 2).trans rfl,(blk_cell h 3).trans rfl,(blk_cell h 4).trans rfl,(blk_cell h 5).trans rfl,(blk_cell h 6).trans rfl⟩
theorem bf7 (h:w.heap[g]? =some (.cells #[v0,v1,v2,v3,v4,v5,v6] t (0,0))):w.frozen? ⟨g,0,none⟩=false∧w.frozen? ⟨g,1,none⟩=false∧w.frozen? ⟨g,2,none⟩=false∧w.frozen? ⟨g,3,none⟩=false∧w.frozen? ⟨g,4,none⟩=false∧w.frozen? ⟨g,5,none⟩=false∧w.frozen? ⟨g,6,none⟩=false:=
 ⟨blk_frozen h 0,blk_frozen h 1,blk_frozen h 2,blk_frozen h 3,blk_frozen h 4,blk_frozen h 5,blk_frozen h 6⟩
theorem ap7:p0∧p1∧p2∧p3∧p4∧p5∧p6→q→p0∧p1∧p2∧p3∧p4∧p5∧p6∧q
 |⟨h0,h1,h2,h3,h4,h5,h6⟩,k=>⟨h0,h1,h2,h3,h4,h5,h6,k⟩
theorem bc8 (h:w.heap[g]? =some (.cells #[v0,v1,v2,v3,v4,v5,v6,v7] t (0,0))):w.cell? ⟨g,0,none⟩=some v0∧w.cell? ⟨g,1,none⟩=some v1∧w.cell? ⟨g,2,none⟩=some v2∧w.cell? ⟨g,3,none⟩=some v3∧w.cell? ⟨g,4,none⟩=some v4∧w.cell? ⟨g,5,none⟩=some v5∧w.cell? ⟨g,6,none⟩=some v6∧w.cell? ⟨g,7,none⟩=some v7:=
 ⟨(blk_cell h 0).trans rfl,(blk_cell h 1).trans rfl,(blk_cell h 2).trans rfl,(blk_cell h 3).trans rfl,(blk_cell h 4).trans rfl,(blk_cell h 5).trans rfl,(blk_cell h 6).trans rfl,(blk_cell h 7).trans rfl⟩
theorem bf8 (h:w.heap[g]? =some (.cells #[v0,v1,v2,v3,v4,v5,v6,v7] t (0,0))):w.frozen? ⟨g,0,none⟩=false∧w.frozen? ⟨g,1,none⟩=false∧w.frozen? ⟨g,2,none⟩=false∧w.frozen? ⟨g,3,none⟩=false∧w.frozen? ⟨g,4,none⟩=false∧w.frozen? ⟨g,5,none⟩=false∧w.frozen? ⟨g,6,none⟩=false∧w.frozen? ⟨g,7,none⟩=false:=
 ⟨blk_frozen h 0,blk_frozen h 1,blk_frozen h 2,blk_frozen h 3,blk_frozen h 4,blk_frozen h 5,blk_frozen h 6,blk_frozen h 7⟩
theorem ap8:p0∧p1∧p2∧p3∧p4∧p5∧p6∧p7→q→p0∧p1∧p2∧p3∧p4∧p5∧p6∧p7∧q
 |⟨h0,h1,h2,h3,h4,h5,h6,h7⟩,k=>⟨h0,h1,h2,h3,h4,h5,h6,h7,k⟩
theorem bc9 (h:w.heap[g]? =some (.cells #[v0,v1,v2,v3,v4,v5,v6,v7,v8] t (0,0))):w.cell? ⟨g,0,none⟩=some v0∧w.cell? ⟨g,1,none⟩=some v1∧w.cell? ⟨g,2,none⟩=some v2∧w.cell? ⟨g,3,none⟩=some v3∧w.cell? ⟨g,4,none⟩=some v4∧w.cell? ⟨g,5,none⟩=some v5∧w.cell? ⟨g,6,none⟩=some v6∧w.cell? ⟨g,7,none⟩=some v7∧w.cell? ⟨g,8,none⟩=some v8:=
 ⟨(blk_cell h 0).trans rfl,(blk_cell h 1).trans rfl,(blk_cell h 2).trans rfl,(blk_cell h 3).trans rfl,(blk_cell h 4).trans rfl,(blk_cell h 5).trans rfl,(blk_cell h 6).trans rfl,(blk_cell h 7).trans rfl,(blk_cell h 8).trans rfl⟩
theorem bf9 (h:w.heap[g]? =some (.cells #[v0,v1,v2,v3,v4,v5,v6,v7,v8] t (0,0))):w.frozen? ⟨g,0,none⟩=false∧w.frozen? ⟨g,1,none⟩=false∧w.frozen? ⟨g,2,none⟩=false∧w.frozen? ⟨g,3,none⟩=false∧w.frozen? ⟨g,4,none⟩=false∧w.frozen? ⟨g,5,none⟩=false∧w.frozen? ⟨g,6,none⟩=false∧w.frozen? ⟨g,7,none⟩=false∧w.frozen? ⟨g,8,none⟩=false:=
 ⟨blk_frozen h 0,blk_frozen h 1,blk_frozen h 2,blk_frozen h 3,blk_frozen h 4,blk_frozen h 5,blk_frozen h 6,blk_frozen h 7,blk_frozen h 8⟩
theorem ap9:p0∧p1∧p2∧p3∧p4∧p5∧p6∧p7∧p8→q→p0∧p1∧p2∧p3∧p4∧p5∧p6∧p7∧p8∧q
 |⟨h0,h1,h2,h3,h4,h5,h6,h7,h8⟩,k=>⟨h0,h1,h2,h3,h4,h5,h6,h7,h8,k⟩
theorem bc10 (h:w.heap[g]? =some (.cells #[v0,v1,v2,v3,v4,v5,v6,v7,v8,v9] t (0,0))):w.cell? ⟨g,0,none⟩=some v0∧w.cell? ⟨g,1,none⟩=some v1∧w.cell? ⟨g,2,none⟩=some v2∧w.cell? ⟨g,3,none⟩=some v3∧w.cell? ⟨g,4,none⟩=some v4∧w.cell? ⟨g,5,none⟩=some v5∧w.cell? ⟨g,6,none⟩=some v6∧w.cell? ⟨g,7,none⟩=some v7∧w.cell? ⟨g,8,none⟩=some v8∧w.cell? ⟨g,9,none⟩=some v9:=
 ⟨(blk_cell h 0).trans rfl,(blk_cell h 1).trans rfl,(blk_cell h 2).trans rfl,(blk_cell h 3).trans rfl,(blk_cell h 4).trans rfl,(blk_cell h 5).trans rfl,(blk_cell h 6).trans rfl,(blk_cell h 7).trans rfl,(blk_cell h 8).trans rfl,(blk_cell h 9).trans rfl⟩
theorem bf10 (h:w.heap[g]? =some (.cells #[v0,v1,v2,v3,v4,v5,v6,v7,v8,v9] t (0,0))):w.frozen? ⟨g,0,none⟩=false∧w.frozen? ⟨g,1,none⟩=false∧w.frozen? ⟨g,2,none⟩=false∧w.frozen? ⟨g,3,none⟩=false∧w.frozen? ⟨g,4,none⟩=false∧w.frozen? ⟨g,5,none⟩=false∧w.frozen? ⟨g,6,none⟩=false∧w.frozen? ⟨g,7,none⟩=false∧w.frozen? ⟨g,8,none⟩=false∧w.frozen? ⟨g,9,none⟩=false:=
 ⟨blk_frozen h 0,blk_frozen h 1,blk_frozen h 2,blk_frozen h 3,blk_frozen h 4,blk_frozen h 5,blk_frozen h 6,blk_frozen h 7,blk_frozen h 8,blk_frozen h 9⟩
theorem ap10:p0∧p1∧p2∧p3∧p4∧p5∧p6∧p7∧p8∧p9→q→p0∧p1∧p2∧p3∧p4∧p5∧p6∧p7∧p8∧p9∧q
 |⟨h0,h1,h2,h3,h4,h5,h6,h7,h8,h9⟩,k=>⟨h0,h1,h2,h3,h4,h5,h6,h7,h8,h9,k⟩
end
end Go.Proofs.YtmfaopjfdedheaaGreatW
