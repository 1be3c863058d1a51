/- Short words: a printed walk's steps, with what is said of them each time as default proofs. -/
import Derived.Test.YtmfaopjfdedheaaGreatMv
import Derived.Test.YtmfaopjfdedheaaGreatWTab
namespace Go.Proofs.YtmfaopjfdedheaaGreatW
open Go.RowKit Go.Proofs.YtmfaopjfdedheaaGreatW.PrintWords Go.Proofs.YtmfaopjfdedheaaGreatW.PrintLast Go.Proofs.YtmfaopjfdedheaaGreatW.PrintMore
set_option linter.unusedVariables false
/-- A place of a list is set: sixteen places at a time. -/
theorem s8:(∀ (a:Act) (n:Tmp) (v:Value),Act.put a (some n) v={ a with tmps:=a.tmps.setIfInBounds n v })∧(∀ (l:List Value) (i:Nat) (v:Value),l.toArray.setIfInBounds i v=(l.set i v).toArray)∧
  (∀ (y x0 x1 x2 x3 x4 x5 x6 x7 x8 x9 x10 x11 x12 x13 x14 x15:Value) (l:List Value) (n:Nat),(x0::x1::x2::x3::x4::x5::x6::x7::x8::x9::x10::x11::x12::x13::x14::x15::l).set (n+16) y=x0::x1::x2::x3::x4::x5::x6::x7::x8::x9::x10::x11::x12::x13::x14::x15::l.set n y):=
 ⟨fun _ _ _=>rfl,fun l i v=>by simp,fun _ _ _ _ _ _ _ _ _ _ _ _ _ _ _ _ _ _ _=>rfl⟩
section
variable {P:Program} {md:Region.Mode} {ops:Array Oper} {Q:Exit→Act→World→Prop} {S:World→Prop} {ds:List Nat} {T:Bool×List (List Nat×List Nat)} {B:List Nat} {N:Option Tmp} {oi:Oper} {v:Value} {fuel:Nat} {l:Array Bool} {a a':Act} {w:World}
/-- The operation i, a pure one; l' is done then. -/
theorem pu (i n:Nat) (l':Array Bool) (hT:Aside0 (rtab md ops=T))
  (h:wpAnyLast P md ops Q S ds fuel l' a' w) (hi:ops[i]? =some oi:=by rfl) (hN:oi.dst=some n:=by rfl) (hc:anyT T l.toList l'.toList i=true:=by kernel_rfl)
  (hw:Region.wanted oi (yielded ops a.tmps)=true:=by rfl) (hy:∀ w',(execOp a.eval oi).run P w'=.ok (.value v) w':=by intro w';go_simp;with_reducible rfl)
  (ha:a.put (some n) v=a':=by (try simp only [s8]);simp only [sA];rfl)
  (hQ:∀ c a w,Q (.panic c) (a.put oi.dst v) w→Q (.panic c) a w:=by exact fun _ _ _ h=>h):wpAnyLast P md ops Q S ds (fuel+1) l a w:=
 pure_ l' hi hN (any_of hT.out hc) hQ (Or.inl ⟨hw,hy⟩) ha h
/-- The same, without a table. -/
theorem pu0 (i n:Nat) (l':Array Bool) (h:wpAnyLast P md ops Q S ds fuel l' a' w) (hi:ops[i]? =some oi:=by rfl) (hN:oi.dst=some n:=by rfl) (hc:anyB md ops l l' i=true:=by kernel_rfl)
  (hw:Region.wanted oi (yielded ops a.tmps)=true:=by rfl) (hy:∀ w',(execOp a.eval oi).run P w'=.ok (.value v) w':=by intro w';go_simp;with_reducible rfl)
  (ha:a.put (some n) v=a':=by (try simp only [s8]);simp only [sA];rfl)
  (hQ:∀ c a w,Q (.panic c) (a.put oi.dst v) w→Q (.panic c) a w:=by exact fun _ _ _ h=>h):wpAnyLast P md ops Q S ds (fuel+1) l a w:=
 pure_ l' hi hN hc hQ (Or.inl ⟨hw,hy⟩) ha h
/-- The operation i isn't wanted. -/
theorem pn (i n:Nat) (l':Array Bool) (hT:Aside0 (rtab md ops=T))
  (h:wpAnyLast P md ops Q S ds fuel l' a' w) (hi:ops[i]? =some oi:=by rfl) (hN:oi.dst=some n:=by rfl) (hc:anyT T l.toList l'.toList i=true:=by kernel_rfl)
  (hw:Region.wanted oi (yielded ops a.tmps)=false:=by rfl) (ha:a.put (some n) undef=a':=by (try simp only [s8]);simp only [sA];rfl)
  (hQ:∀ c a w,Q (.panic c) (a.put oi.dst undef) w→Q (.panic c) a w:=by exact fun _ _ _ h=>h):wpAnyLast P md ops Q S ds (fuel+1) l a w:=
 pure_ l' hi hN (any_of hT.out hc) hQ (Or.inr ⟨hw,rfl⟩) ha h
/-- The operation i, one that yields where S holds. -/
theorem tk (i n:Nat) (l':Array Bool) (hT:Aside0 (rtab md ops=T)) (hB:Aside0 (waitsOk T.2 B=true)) (hS:S w)
  (h:wpAnyLast P md ops Q S ds fuel l' a' w) (hi:ops[i]? =some oi:=by rfl) (hN:oi.dst=some n:=by rfl) (hc:takeW T B ds l.toList l'.toList i=true:=by kernel_rfl)
  (hw:Region.wanted oi (yielded ops a.tmps)=true:=by rfl) (hy:∀ w',S w'→(execOp a.eval oi).run P w'=.ok (.value v) w':=by intro w' hs;repeat (cases hs with|intro _ hs=>_);go_simp;with_reducible rfl)
  (ha:a.put (some n) v=a':=by (try simp only [s8]);simp only [sA];rfl)
  (hQ:∀ c a w,Q (.panic c) (a.put oi.dst v) w→Q (.panic c) a w:=by exact fun _ _ _ h=>h):wpAnyLast P md ops Q S ds (fuel+1) l a w:=
 take_ l' hi hN (take_ofW hT.out hB.out hc) hQ (Or.inl ⟨hw,hy⟩) hS ha h
theorem tk0 (i n:Nat) (l':Array Bool) (hS:S w)
  (h:wpAnyLast P md ops Q S ds fuel l' a' w) (hi:ops[i]? =some oi:=by rfl) (hN:oi.dst=some n:=by rfl) (hc:takeB md ops ds l l' i=true:=by kernel_rfl)
  (hw:Region.wanted oi (yielded ops a.tmps)=true:=by rfl) (hy:∀ w',S w'→(execOp a.eval oi).run P w'=.ok (.value v) w':=by intro w' hs;repeat (cases hs with|intro _ hs=>_);go_simp;with_reducible rfl)
  (ha:a.put (some n) v=a':=by (try simp only [s8]);simp only [sA];rfl)
  (hQ:∀ c a w,Q (.panic c) (a.put oi.dst v) w→Q (.panic c) a w:=by exact fun _ _ _ h=>h):wpAnyLast P md ops Q S ds (fuel+1) l a w:=
 take_ l' hi hN hc hQ (Or.inl ⟨hw,hy⟩) hS ha h
/-- The operation i alone may come up. -/
theorem on (i:Nat) (N:Option Tmp) (l':Array Bool) (hT:Aside0 (rtab md ops=T))
  (h:∀ K:Act→World→Prop,Shut (∀ a' w',S w'→(S w'→wpAnyLast P md ops Q S ds fuel l' a' w')→K a' w')→if Region.wanted oi (yielded ops a.tmps)=true then Oper.wp P oi a w K Q else K (a.put N undef) w)
  (hi:ops[i]? =some oi:=by rfl) (hN:oi.dst=N:=by rfl) (hc:(readyT T.2 l.toList==[i] && l.toList.set i true==l'.toList)=true:=by kernel_rfl) (hd:i ∉ ds:=by decide):wpAnyLast P md ops Q S ds (fuel+1) l a w:=
 one_ l' hi hN (one_of hT.out hc) hd h
theorem nm (n:Tmp) {b:Act} (h:wpAnyLast P md ops Q S ds fuel l a' w) (hab:a=Act.put b (some n) v:=by rfl) (hb:Act.put b (some n) v=a':=by (try simp only [s8]);simp only [sA];rfl):wpAnyLast P md ops Q S ds fuel l a w:=norm_ (hab.trans hb) h
end
/-! Terms that a printed walk proves each time alike. -/
theorem od {p:Prop} {i:Decidable p} (h:decide p=true:=by first|(with_reducible assumption)|assumption):p:=of_decide_eq_true h
theorem am {p:Prop} (h:p:=by (try simp only [List.map_toArray,List.map_cons,List.map_nil]);first|done|rfl|(simp only [List.length_drop,List.length_take];rfl)|(simp only [*];rfl)):p:=h
theorem rv {p:Prop} (h:p:=by first|rfl|(simp [errW_none,errW_some] <;> rfl)|(simp [*,errW_none,errW_some] <;> rfl)):p:=h
theorem sd {p:Prop} (h:p:=by first|rfl|(simp;done)|(simp [*];done)):p:=h
theorem ct {w W:World} {a:Addr} {v:Value} (hb:Aside0 (Below w.heap.size w W)) (h:w.cell? a=some v):W.cell? a=some v:=(hb.out.cell (World.block_lt_of_cell? w _ h)).trans h
section
variable {P:Program} {ops:Array Oper} {o:Oper} {a:Act} {Q:Exit→Act→World→Prop} {rest:List Oper} {w0 W:World}
/-- A block of its own for a variable. -/
theorem bx {N:Tmp} {cs:Array Value} {t:TypeId} (hB:Aside0 (Below w0.heap.size w0 W))
  (h:∀ g,g=W.heap.size→∀ w1,Below W.heap.size W w1→Aside0 (w1.heap[g]? =some (.cells cs t (0,0)))→Aside0 (w0.heap.size≤g)→Aside0 (Below w0.heap.size w0 w1)→wpList P ops Q rest (a.put o.dst (.pointer (some ⟨g,0,none⟩))) w1)
  (hgd:o.guard=none:=by rfl) (hd:o.dst=some N:=by rfl)
  (hr:(execOp a.eval o).run P W=.ok (.value (.pointer (some ⟨W.heap.size,0,none⟩))) (W.alloc (.cells cs t (0,0))):=by first|(go_simp;done)|(go_simp;rfl)):wpList P ops Q (o::rest) a W:=
 box_event hgd hd hr fun g hg w1 hbox hb=>h g hg w1 hb ⟨hbox⟩ ⟨by rw [hg];exact below_size hB.out⟩ ⟨below_step hB.out hb⟩
end
/-! A block, behind stores into it. -/
section
variable {g b i:Nat} {t:TypeId} {cs cs' cs'':Array Value} {W W':World} {u:Value} {o':Obj}
class BlkP (g:Nat) (t:TypeId) (cs:Array Value) (W:World) (cs':outParam (Array Value)) (W':World):Prop where mv:W.heap[g]? =some (.cells cs t (0,0))→W'.heap[g]? =some (.cells cs' t (0,0))
instance:BlkP g t cs W cs W:=⟨id⟩
instance [h:BlkP g t cs W cs' W']:BlkP g t cs W cs' W'.drew:=⟨fun x=>blk_drew (h.mv x)⟩
instance {n:Nat} [h:BlkP g t cs W cs' W']:BlkP g t cs W cs' (W'.drewN n):=⟨fun x=>blk_drewN (h.mv x) n⟩
instance [h:BlkP g t cs W cs' W']:BlkP g t cs W cs' (W'.alloc o'):=⟨fun x=>blk_alloc (h.mv x) o'⟩
instance [h:BlkP g t cs W cs' W'] [hn:Aside0 (g≠b)]:BlkP g t cs W cs' (W'.setCell ⟨b,i,none⟩ u):=⟨fun x=>blk_far (p:=⟨b,i,none⟩) (h.mv x) hn.out u⟩
instance [h:BlkP g t cs W cs' W']:BlkP g t cs W (cs'.setIfInBounds i u) (W'.setCell ⟨g,i,none⟩ u):=⟨fun x=>blk_put (h.mv x) i u rfl⟩
theorem mvP [h:BlkP g t cs W cs' W'] (x:W.heap[g]? =some (.cells cs t (0,0))) (e:cs'=cs'':=by first|(simp only [List.setIfInBounds_toArray,List.set_cons_succ,List.set_cons_zero];done)|rfl):W'.heap[g]? =some (.cells cs'' t (0,0)):=e ▸ h.mv x
end
section
variable {α:Type} {d:Kd α} {A:Option Addr} {n:Nat} {xs:List α} {W W':World} {o:Obj}
class CTo {α:Type} (d:Kd α) (A:Option Addr) (n:Nat) (xs:List α) (W W':World):Prop where mv:d.C W A n xs→d.C W' A n xs
instance:CTo d A n xs W W:=⟨id⟩
instance [h:CTo d A n xs W W']:CTo d A n xs W W'.drew:=⟨fun x=>Kd.C_drew (h.mv x)⟩
instance {m:Nat} [h:CTo d A n xs W W']:CTo d A n xs W (W'.drewN m):=⟨fun x=>Kd.C_drewN (h.mv x) m⟩
instance [h:CTo d A n xs W W']:CTo d A n xs W (W'.alloc o):=⟨fun x=>Kd.C_alloc (h.mv x) o⟩
theorem mvC [h:CTo d A n xs W W'] (x:d.C W A n xs):d.C W' A n xs:=h.mv x
end
/-! Cells behind stores into other blocks. -/
section
variable {g j b i:Nat} {W W':World} {u:Value} {a:Addr} {o:Obj}
class CelTo (a:Addr) (W W':World):Prop where mv:∀ {v:Value},W.cell? a=some v→W'.cell? a=some v
instance:CelTo a W W:=⟨id⟩
instance [h:CelTo ⟨g,j,none⟩ W W'] [hn:Aside0 (g≠b)]:CelTo ⟨g,j,none⟩ W (W'.setCell ⟨b,i,none⟩ u):=⟨fun x=>(cell_far (a:=⟨g,j,none⟩) hn.out u).trans (h.mv x)⟩
class PMv (p q:Prop):Prop where mv:p→q
instance {v:Value} [h:CelTo a W W']:PMv (W.cell? a=some v) (W'.cell? a=some v):=⟨h.mv⟩
instance {p q p' q':Prop} [hA:PMv p q] [hB:PMv p' q']:PMv (p∧p') (q∧q'):=⟨fun x=>⟨hA.mv x.1,hB.mv x.2⟩⟩
theorem mvT {p q:Prop} [h:PMv p q] (x:p):q:=h.mv x
end
/-! What a region's loads read stays as it is behind a call. -/
section
variable {W W':World}
class BMv (W W':World) (p:Prop) (q:outParam Prop):Prop where mv:Below W.heap.size W W'→p→q
instance {a:Addr} {v:Value}:BMv W W' (W.cell? a=some v) (W'.cell? a=some v):=⟨fun hb h=>(hb.cell (World.block_lt_of_cell? _ _ h)).trans h⟩
instance {p q p' q':Prop} [hA:BMv W W' p q] [hB:BMv W W' p' q']:BMv W W' (p∧p') (q∧q'):=⟨fun hb x=>⟨hA.mv hb x.1,hB.mv hb x.2⟩⟩
end
end Go.Proofs.YtmfaopjfdedheaaGreatW
