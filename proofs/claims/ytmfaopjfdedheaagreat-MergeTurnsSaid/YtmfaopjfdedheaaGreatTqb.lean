/- Pages: what the program's check tells is what the document's tells. -/
import Derived.Test.YtmfaopjfdedheaaGreatTqa
namespace Go.Proofs.YtmfaopjfdedheaaGreat.Tq
open Go.RowKit Go.Proofs.YtmfaopjfdedheaaGreat.T Go.Proofs.YtmfaopjfdedheaaGreatW.PrintWords Go.Proofs.YtmfaopjfdedheaaGreatW.PrintLast Go.Proofs.YtmfaopjfdedheaaGreatW.PrintMore
set_option linter.unusedVariables false
set_option linter.unusedSimpArgs false

/-- From some rounds on, an answer that is yes just if P. -/
def EvB (f:Nat→Option Bool) (P:Prop):Prop:=EvP f (fun b=>b=true↔P)
theorem Ev.evp {α:Type} {f:Nat→Option α} {a:α} {p:α→Prop} (h:Ev f a) (hp:p a):EvP f p:=⟨a,h,hp⟩
theorem EvP.mono {α:Type} {f:Nat→Option α} {p q:α→Prop} (h:EvP f p) (hp:∀ a,p a→q a):EvP f q:=h.elim fun a h=>⟨a,h.1,hp a h.2⟩
theorem EvP.of_ev {α:Type} {f:Nat→Option α} {a:α} {p:α→Prop} (h:EvP f (fun b=>b=a)) (hp:p a):EvP f p:=h.mono fun b e=>e ▸ hp
theorem EvP.ev {α:Type} {f:Nat→Option α} {a:α} (h:EvP f (fun b=>b=a)):Ev f a:=by
 obtain ⟨r,h1,rfl⟩:=h
 exact h1
theorem Ev.to {α:Type} {f:Nat→Option α} {a:α} (h:Ev f a):EvP f (fun b=>b=a):=⟨a,h,rfl⟩
theorem Ev.at {α:Type} {f:Nat→Option α} {a:α} {K:Nat} (h:∀ k,K≤k→f k=some a):Ev f a:=⟨K,h⟩
theorem Ev.uniq {α:Type} {f:Nat→Option α} {a b:α} (h:Ev f a) (h':Ev f b):a=b:=by
 obtain ⟨K,hK⟩:=h;obtain ⟨L,hL⟩:=h'
 exact Option.some.inj ((hK (K+L) (by omega)).symm.trans (hL (K+L) (by omega)))
theorem EvB.of {f:Nat→Option Bool} {P:Prop} {K:Nat} (h:∀ k,K≤k→∃ b,f k=some b∧(b=true↔P)):EvB f P:=by
 by_cases hp:P
 ·exact ⟨true,⟨K,fun k hk=>by obtain ⟨b,e,hb⟩:=h k hk;rw [e,hb.2 hp]⟩,by simp [hp]⟩
 ·exact ⟨false,⟨K,fun k hk=>by obtain ⟨b,e,hb⟩:=h k hk;cases b with|true=>exact absurd (hb.1 rfl) hp|false=>exact e⟩,by simp [hp]⟩

/-! ### spans -/
def SpanR (a b:ByteArray) (c:Bool):Bool:=decide (a.size≤513) && decide (b.size≤513) && (if c=true then Op.bytesLess a.toList b.toList else b.toList==[])
theorem span_ev (a b:ByteArray) (c:Bool):Ev (fun k=>span_Right.f k a b c) (SpanR a b c):=by
 refine ⟨2,fun k hk=>?_⟩
 obtain ⟨j,rfl⟩:∃ j,k=j+2:=⟨k - 2,by omega⟩
 show span_Right.f (j+2) a b c=_
 unfold span_Right.f SpanR
 by_cases h1:a.size≤513
 ·have e1:¬ ((a.size:Int) > 513):=by omega
  by_cases h2:b.size≤513
  ·have e2:¬ ((b.size:Int) > 513):=by omega
   rw [if_neg e1,decide_eq_false e2,decide_eq_true h1,decide_eq_true h2]
   cases c
   ·by_cases h4:b.toList=[] <;> simp [span_Right.j0,span_Right.j1,h4]
   ·cases h3:Op.bytesLess a.toList b.toList <;> simp [span_Right.j0,span_Right.j1,h3]
  ·have e2:(b.size:Int) > 513:=by omega
   rw [if_neg e1,decide_eq_true e2,decide_eq_true h1,decide_eq_false h2]
   simp [span_Right.j0]
 ·have e1:(a.size:Int) > 513:=by omega
  rw [if_pos e1,decide_eq_false h1]
  simp [span_Right.j0]
theorem rspan_ev (a b:ByteArray) (c:Bool):Ev (fun k=>q03_Right.f k a b c) (SpanR a b c):=by
 refine ⟨1,fun k hk=>?_⟩
 obtain ⟨j,rfl⟩:∃ j,k=j+1:=⟨k - 1,by omega⟩
 show q03_Right.f (j+1) a b c=_
 unfold q03_Right.f SpanR
 by_cases h1:a.size≤513
 ·have e1:¬ ((a.size:Int) > 513):=by omega
  by_cases h2:b.size≤513
  ·have e2:¬ ((b.size:Int) > 513):=by omega
   rw [if_neg e1,decide_eq_false e2,decide_eq_true h1,decide_eq_true h2]
   cases c
   ·by_cases h4:b.toList=[] <;> simp [q03_Right.j0,h4]
   ·cases h3:Op.bytesLess a.toList b.toList <;> simp [q03_Right.j0,h3]
  ·have e2:(b.size:Int) > 513:=by omega
   rw [if_neg e1,decide_eq_true e2,decide_eq_true h1,decide_eq_false h2]
   simp [q03_Right.j0]
 ·have e1:(a.size:Int) > 513:=by omega
  rw [if_pos e1,decide_eq_false h1]
  simp [q03_Right.j0]
theorem rhas_ev (a b:ByteArray) (c:Bool) (key:ByteArray):Ev (fun k=>q03_Has.f k a b c key) (SpanR a b c && inside a b c key):=by
 unfold q03_Has.f
 refine (rspan_ev a b c).bind ?_
 refine (Ev.const _).congr fun k=>?_
 unfold inside
 cases SpanR a b c <;> cases c <;> cases Op.bytesLess key.toList a.toList <;> cases Op.bytesLess key.toList b.toList <;> rfl

/-! ### children -/
theorem byt_bytesOf (v:ByteArray):byt (bytesOf v):=fun x hx=>by
 obtain ⟨b,_,rfl⟩:=List.mem_map.1 hx
 have:=b.toNat_lt
 omega
theorem be_val:∀ (n:Nat) (l:List Int),l.length=n→byt l→be n (val l)=l
 |0,l,h,_=>by
  obtain rfl:l=[]:=List.length_eq_zero_iff.1 h
  rfl
 |n+1,l,h,hb=>by
  have e:l=l.dropLast++[l.getLast (by rintro rfl;simp at h)]:=(List.dropLast_concat_getLast _).symm
  generalize l.getLast _=b at e
  generalize l.dropLast=m at e
  subst e
  have hm:m.length=n:=by simp at h;exact h
  have h1:=be_val n m hm (fun x hx=>hb x (List.mem_append_left _ hx))
  have h2:=hb b (List.mem_append_right _ List.mem_cons_self)
  rw [val_append,be,show (val m * 256+b) / 256=val m by omega,show (val m * 256+b) % 256=b by omega,h1]
theorem wide_ev:Ev (fun k=>octet_wide.f k 8 8) true:=⟨10,fun k hk=>wide_8 k hk⟩
def kidv (a:Int):ByteArray×Int:=if 1≤a∧a≤400 then (strOfNums (be 8 a),0) else (⟨#[]⟩,110)
theorem kid_ev (a:Int):Ev (fun k=>page_Kid.f k a) (kidv a):=by
 refine ⟨10,fun k hk=>?_⟩
 show page_Kid.f k a=_
 unfold page_Kid.f kidv
 by_cases h1:a < 1
 ·rw [if_pos h1,if_neg (by omega)]
 ·rw [if_neg h1]
  by_cases h2:a > 400
  ·rw [if_pos h2,if_neg (by omega)]
  ·rw [if_neg h2,if_pos (by omega)]
   have h:=oput_eq k [] a 8 (.inl rfl) (by simp) hk
   rw [show ((8:Nat):Int)=8 from rfl] at h
   rw [h]
   rfl
def idOk (v:ByteArray):Prop:=v.size=8∧1≤val (bytesOf v)∧val (bytesOf v)≤400
instance (v:ByteArray):Decidable (idOk v):=inferInstanceAs (Decidable (_∧_))
def idv (v:ByteArray):Int×Int:=if idOk v then (val (bytesOf v),0) else (0,110)
theorem rworth_l0 (v:ByteArray) (h8:v.size≤8):∀ (d k i:Nat),v.size - i=d→i≤v.size→d < k→q11_worth.l0 k v (val ((bytesOf v).take i)) i=some (val (bytesOf v)):=by
 have hb:=byt_bytesOf v
 have hl:=bytesOf_length v
 intro d
 induction d with
 |zero=>
  intro k i hd hi hk
  obtain ⟨k,rfl⟩:∃ m,k=m+1:=⟨k - 1,by omega⟩
  obtain rfl:i=v.size:=by omega
  simp only [q11_worth.l0]
  rw [if_neg (by omega),← hl,List.take_length]
 |succ d ih=>
  intro k i hd hi hk
  obtain ⟨k,rfl⟩:∃ m,k=m+1:=⟨k - 1,by omega⟩
  have h1:=val_small (byt_take hb i) (m:=7) (by rw [List.length_take];omega)
  have h2:=hb (rd (bytesOf v) i) (by rw [rd_get _ i (by omega)];exact List.getElem_mem _)
  simp only [q11_worth.l0]
  rw [if_pos (by omega),if_pos (by omega),← rd_bytesOf,wu64 (i:=256 * val ((bytesOf v).take i)) (by omega) (by omega),wu64 (i:=rd (bytesOf v) i) (by omega) (by omega),wu64 (by omega) (by omega),w64 (by omega) (by omega),show (i:Int)+1=((i+1:Nat):Int) by omega]
  have e:256 * val ((bytesOf v).take i)+rd (bytesOf v) i=val ((bytesOf v).take (i+1)):=by rw [take_succ_rd _ i (by omega),val_append];omega
  rw [e]
  exact ih k (i+1) (by omega) (by omega) (by omega)
theorem rworth_ev (v:ByteArray) (h8:v.size≤8):Ev (fun k=>q11_worth.f k v) (val (bytesOf v)):=⟨10,fun k hk=>rworth_l0 v h8 v.size k 0 (by omega) (by omega) (by omega)⟩
theorem rid_ev (v:ByteArray):Ev (fun k=>q11_Id.f k v) (idv v):=by
 unfold q11_Id.f idv
 by_cases h8:v.size=8
 ·have hw:=rworth_ev v (by omega)
  refine Ev.congr (g:=fun k=>(q11_worth.f k v).bind fun t258=>(if t258 < 1 then (some (0,110)) else ((q11_worth.f k v).bind fun t259=>(if t259 > 400 then (some (0,110)) else ((q11_worth.f k v).bind fun t260=>(some (t260,0))))))) ?_ (fun k=>if_pos (by omega))
  refine hw.bind ?_
  by_cases h1:val (bytesOf v) < 1
  ·refine (Ev.const (0,110)).congr (fun k=>if_pos h1)|>.evp (p:=fun r=>r=_) ?_ |>.ev
   rw [if_neg (fun h=>by have:=h.2.1;omega)]
  ·refine Ev.congr ?_ (fun k=>if_neg h1)
   refine hw.bind ?_
   by_cases h2:val (bytesOf v) > 400
   ·refine (Ev.const (0,110)).congr (fun k=>if_pos h2)|>.evp (p:=fun r=>r=_) ?_ |>.ev
    rw [if_neg (fun h=>by have:=h.2.2;omega)]
   ·refine Ev.congr ?_ (fun k=>if_neg h2)
    rw [if_pos ⟨h8,by omega,by omega⟩]
    exact hw.bind (Ev.const _)
 ·rw [if_neg (fun h=>h8 h.1)]
  exact (Ev.const _).congr (fun k=>if_neg (by omega))
theorem id_ev (v:ByteArray) (hv:v.size < 140737488355328):Ev (fun k=>page_Id.f k v) (idv v):=by
 have hb:=byt_bytesOf v
 have hl:=bytesOf_length v
 obtain ⟨n,hn⟩:∃ n,n=rdN v 0 false 8:=⟨_,rfl⟩
 have hmain:Ev (fun k=>(page_Kid.f k n).bind fun t=>if t.2=0∧t.1.toList=v.toList then some (n,(0:Int)) else some (0,110)) (idv v):=by
  refine (kid_ev n).bind ?_
  by_cases h8:v.size < 8
  ·have e:n=0:=by rw [hn];unfold rdN;rw [if_pos (.inr (by omega))]
   subst e
   rw [show kidv 0=(⟨#[]⟩,110) from if_neg (by omega),show idv v=(0,110) from if_neg (fun h=>by have:=h.1;omega)]
   exact (Ev.const _).congr (fun k=>if_neg (fun h=>by have:=h.1;simp at this))
  ·have e:n=val ((bytesOf v).take 8):=by
    have h:=rdN_eq hb 0 8 (by omega) (by omega)
    rw [strOfNums_bytesOf,List.drop_zero] at h
    rw [hn];exact h
   by_cases h1:1≤n∧n≤400
   ·rw [show kidv n=(strOfNums (be 8 n),0) from if_pos h1]
    by_cases h9:v.size=8
    ·have e2:(bytesOf v).take 8=bytesOf v:=List.take_of_length_le (by omega)
     rw [e2] at e
     have e3:be 8 n=bytesOf v:=by rw [e];exact be_val 8 _ (by omega) hb
     rw [show idv v=(n,0) by rw [e];exact if_pos ⟨h9,by omega,by omega⟩]
     exact (Ev.const _).congr (fun k=>if_pos ⟨rfl,by rw [e3,strOfNums_bytesOf]⟩)
    ·rw [show idv v=(0,110) from if_neg (fun h=>h9 h.1)]
     refine (Ev.const _).congr (fun k=>if_neg (fun h=>h9 ?_))
     have e4:strOfNums (be 8 n)=v:=tl_inj h.2
     rw [← e4,strOfNums_size,be_length]
   ·rw [show kidv n=(⟨#[]⟩,110) from if_neg h1]
    have e9:idv v=(0,110):=by
     refine if_neg fun h=>?_
     have e2:(bytesOf v).take 8=bytesOf v:=List.take_of_length_le (by have:=h.1;omega)
     rw [e2] at e
     exact h1 ⟨by have:=h.2.1;omega,by have:=h.2.2;omega⟩
    rw [e9]
    exact (Ev.const _).congr (fun k=>if_neg (fun h=>by have:=h.1;simp at this))
 obtain ⟨K,hK⟩:=hmain
 refine ⟨K+10,fun k hk=>?_⟩
 show page_Id.f k v=_
 unfold page_Id.f
 rw [if_pos ⟨hv,wide_8 k (by omega)⟩,← hn]
 exact hK k (by omega)
theorem idv_iff (v:ByteArray):(idv v).2=0↔idOk v:=by
 unfold idv
 split
 ·simp [*]
 ·simp [*]

/-! ### pages -/
structure Pg where
 id:Int
 right:Int
 level:Int
 low:ByteArray
 high:ByteArray
 fin:Bool
 dsn:Int
 slow:Int
 sin:List Int
 cells:List S42
/-- What every page handed in has. -/
structure Pg.ok (p:Pg):Prop where
 id0:0≤p.id
 right0:0≤p.right
 level0:0≤p.level
 level1:p.level < 256
 slow0:0≤p.slow
 sin:p.sin.length < 17592186044415
 len:p.cells.length < 4398046511104
 cell:∀ x∈p.cells,x.f0.size≤140737488351232∧x.f1.size≤140737488351232
def cellOk (p:Pg) (c:S42):Prop:=inside p.low p.high p.fin c.f0=true∧(p.level=0→c.f0.size≤512)∧(0 < p.level→idOk c.f1)
structure CheckP (p:Pg):Prop where
 id1:1≤p.id
 id2:p.id≤400
 right2:p.right≤400
 other:p.right≠p.id
 level2:p.level≤10
 dsn2:p.dsn≤281474976710656
 span:SpanR p.low p.high p.fin=true
 fin:p.fin=true↔0 < p.right
 good:Good p.slow p.sin
 most:most_ p.slow p.sin≤281474976710656
 cells:RightP p.cells
 each:∀ t:Nat,t < p.cells.length→cellOk p (rd_T42 p.cells (t:Int))
 inner:0 < p.level→p.slow=0∧p.sin=[]∧0 < p.cells.length∧(rd_T42 p.cells 0).f0.toList=p.low.toList
def CheckR (p:Pg) (r:Int):Prop:=(r=0∧CheckP p)∨(r=110∧¬ CheckP p)
theorem leaf_b (l:List S42) (hl:l.length < 4611686018427387904):∀ d (i:Nat),l.length - i=d→i≤l.length→EvB (fun k=>page_leaf.l0 k l (l.length:Int) (i:Int)) (∀ t:Nat,i≤t→t < l.length→(rd_T42 l (t:Int)).f0.size≤512):=by
 intro d;induction d with
 |zero=>
  intro i h1 h2
  exact EvP.succ (g:=fun _=>some true) (EvP.const (by simp;intro t h3 h4;omega)) (fun k=>by simp only [page_leaf.l0];rw [if_neg (by omega)])
 |succ d ih=>
  intro i h1 h2
  refine EvP.succ (g:=fun k=>if ((rd_T42 l (i:Int)).f0.size:Int) > 512 then some false else page_leaf.l0 k l (l.length:Int) ((i+1:Nat):Int)) ?_ (fun k=>by simp only [page_leaf.l0];rw [if_pos (by omega),if_pos (by omega),if_pos (by omega),w1 (by omega)])
  refine EvP.ite (fun h=>EvP.const ?_) (fun h=>(ih (i+1) (by omega) (by omega)).mono fun b hb=>?_)
  ·simp only [Bool.false_eq_true,false_iff]
   intro h3
   have:=h3 i (Nat.le_refl _) (by omega)
   omega
  ·rw [hb]
   refine ⟨fun h3 t h4 h5=>?_,fun h3 t h4 h5=>h3 t (by omega) h5⟩
   rcases Nat.eq_or_lt_of_le h4 with rfl|h6
   ·omega
   ·exact h3 t h6 h5
theorem inner_b (p:Pg) (ho:p.ok):∀ d (i:Nat),p.cells.length - i=d→i≤p.cells.length→EvB (fun k=>page_inner.l0 k p.cells (p.cells.length:Int) (i:Int) p.id p.right p.level p.low p.high p.fin p.dsn p.slow p.sin p.cells)
  ((∀ t:Nat,i≤t→t < p.cells.length→idOk (rd_T42 p.cells (t:Int)).f1)∧p.slow=0∧p.sin=[]∧0 < p.cells.length∧(rd_T42 p.cells 0).f0.toList=p.low.toList):=by
 have hlen:=ho.len
 intro d;induction d with
 |zero=>
  intro i h1 h2
  refine EvP.succ (g:=fun _=>if p.slow=0 then (if (p.sin.length:Int)=0 then (if (p.cells.length:Int) > 0 then (if 0 < (p.cells.length:Int) then (some (((rd_T42 p.cells 0).f0).toList==p.low.toList)) else (none)) else (some false)) else (some false)) else (some false)) ?_ (fun k=>by simp only [page_inner.l0];rw [if_neg (by omega)])
  refine EvP.ite (fun e1=>EvP.ite (fun e2=>EvP.ite (fun e3=>EvP.congr (g:=fun _=>some (((rd_T42 p.cells 0).f0).toList==p.low.toList)) (EvP.const ?_) (fun k=>if_pos e3)) (fun e3=>EvP.const ?_)) (fun e2=>EvP.const ?_)) (fun e1=>EvP.const ?_)
  ·rw [beq_iff_eq]
   exact ⟨fun h=>⟨fun t h3 h4=>by omega,e1,List.length_eq_zero_iff.1 (by omega),by omega,h⟩,fun h=>h.2.2.2.2⟩
  ·simp only [Bool.false_eq_true,false_iff]
   intro h;have:=h.2.2.2.1;omega
  ·simp only [Bool.false_eq_true,false_iff]
   intro h;exact e2 (by rw [h.2.2.1];rfl)
  ·simp only [Bool.false_eq_true,false_iff]
   intro h;exact e1 h.2.1
 |succ d ih=>
  intro i h1 h2
  refine EvP.succ (g:=fun k=>(page_Id.f k ((rd_T42 p.cells (i:Int)).f1)).bind fun bt=>if bt.2=0 then page_inner.l0 k p.cells (p.cells.length:Int) ((i+1:Nat):Int) p.id p.right p.level p.low p.high p.fin p.dsn p.slow p.sin p.cells else some false) ?_ (fun k=>by simp only [page_inner.l0];rw [if_pos (by omega),if_pos (by omega),if_pos (by omega),w1 (by omega)])
  refine EvP.bind ((id_ev _ (by have:=(ho.cell _ (rd_mem (by omega:i < p.cells.length))).2;omega)).to) fun r hr=>?_
  subst hr
  refine EvP.ite (fun h=>(ih (i+1) (by omega) (by omega)).mono fun b hb=>?_) (fun h=>EvP.const ?_)
  ·rw [hb]
   refine ⟨fun h3=>⟨fun t h4 h5=>?_,h3.2⟩,fun h3=>⟨fun t h4 h5=>h3.1 t (by omega) h5,h3.2⟩⟩
   rcases Nat.eq_or_lt_of_le h4 with rfl|h6
   ·exact (idv_iff _).1 h
   ·exact h3.1 t h6 h5
  ·simp only [Bool.false_eq_true,false_iff]
   intro h3
   exact h ((idv_iff _).2 (h3.1 i (Nat.le_refl _) (by omega)))
theorem good_b (low:Int) (l:List Int) (h:l.length < 17592186044415):EvB (fun k=>lsns_Right.f k low l) (Good low l):=Ev.evp (a:=decide (Good low l)) ⟨l.length+1,fun k hk=>right_eq low l k (by omega) (by omega)⟩ (by simp)
theorem rgood_b (low:Int) (l:List Int) (h:l.length < 17592186044415):EvB (fun k=>q04_Right.f k low l) (Good low l):=Ev.evp (a:=decide (Good low l)) ⟨l.length+1,fun k hk=>rright_eq low l k (by omega) (by omega)⟩ (by simp)
theorem cright_b (l:List S42) (h:l.length < 4398046511104):EvB (fun k=>cells_Right.f k l) (RightP l):=EvB.of (K:=l.length+1) fun k hk=>cright_eq l k (by omega) (by omega)
theorem crright_b (l:List S42) (h:l.length < 4398046511104):EvB (fun k=>q10_Right.f k l) (RightP l):=EvB.of (K:=l.length+1) fun k hk=>crright_eq l k (by omega) (by omega)
theorem filter_all {l:List S42} {q:S42→Bool}:(l.filter q).length=l.length↔∀ t:Nat,t < l.length→q (rd_T42 l (t:Int))=true:=by
 rw [List.length_filter_eq_length_iff]
 exact ⟨fun h t ht=>h _ (rd_mem ht),fun h c hc=>by obtain ⟨t,ht,rfl⟩:=mem_rd hc;exact h t ht⟩
theorem check_evp (p:Pg) (ho:p.ok):EvP (fun k=>page_Check.f k p.id p.right p.level p.low p.high p.fin p.dsn p.slow p.sin p.cells) (CheckR p):=by
 have hlen:=ho.len
 have hno:∀ {Q:Prop},¬ CheckP p→CheckR p 110:=fun h=>.inr ⟨rfl,h⟩
 unfold page_Check.f page_Check_3 page_Check_4 page_Check_5 page_Check_6 page_Check_7
 refine EvP.ite (fun h1=>?_) (fun h1=>EvP.const (.inr ⟨rfl,fun hc=>h1 ?_⟩))
 ·simp only [page_Check_1,page_Check_2,Bool.and_eq_true,decide_eq_true_eq,bne_iff_ne,ne_eq] at h1
  refine EvP.bind (p:=fun t3:Bool=>t3=true↔(SpanR p.low p.high p.fin=true∧(p.fin=true↔0 < p.right))) ((span_ev _ _ _).to.bind fun s hs=>EvP.const ?_) fun t3 h3=>EvP.ite (fun e3=>?_) (fun e3=>EvP.const (.inr ⟨rfl,fun hc=>e3 (h3.2 ⟨hc.span,hc.fin⟩)⟩))
  ·subst hs
   have hr:=ho.right0
   by_cases hz:p.right=0
   ·cases SpanR p.low p.high p.fin <;> cases p.fin <;> simp [hz]
   ·have hp:0 < p.right:=by omega
    cases SpanR p.low p.high p.fin <;> cases p.fin <;> simp [hz,hp]
  refine EvP.bind (p:=fun t4:Bool=>t4=true↔(Good p.slow p.sin∧most_ p.slow p.sin≤281474976710656)) ((good_b _ _ ho.sin).bind fun g hg=>EvP.ite (fun eg=>EvP.bind (p:=fun m=>m=most_ p.slow p.sin) (Ev.to ⟨p.sin.length+1,fun k hk=>most_eq _ _ k (by have:=ho.sin;omega) (by omega)⟩) fun m hm=>EvP.const ?_) (fun eg=>EvP.const ?_)) fun t4 h4=>EvP.ite (fun e4=>?_) (fun e4=>EvP.const (.inr ⟨rfl,fun hc=>e4 (h4.2 ⟨hc.good,hc.most⟩)⟩))
  ·subst hm;rw [decide_eq_true_eq];exact ⟨fun h=>⟨hg.1 eg,h⟩,fun h=>h.2⟩
  ·simp only [Bool.false_eq_true,false_iff];exact fun h=>eg (hg.2 h.1)
  refine EvP.bind (p:=fun t5:Bool=>t5=true↔(RightP p.cells∧∀ t:Nat,t < p.cells.length→inside p.low p.high p.fin (rd_T42 p.cells (t:Int)).f0=true)) ((cright_b _ ho.len).bind fun g hg=>EvP.ite (fun eg=>?_) (fun eg=>EvP.const ?_)) fun t5 h5=>EvP.ite (fun e5=>?_) (fun e5=>EvP.const (.inr ⟨rfl,fun hc=>e5 (h5.2 ⟨hc.cells,fun t ht=>(hc.each t ht).1⟩)⟩))
  ·unfold cells_Part.f
   refine EvP.bind (p:=fun q:List S42=>q=p.cells.filter (fun y=>inside p.low p.high p.fin y.f0)) ((cright_b _ ho.len).bind fun g2 hg2=>EvP.ite (fun _=>(span_ev _ _ _).to.bind fun s hs=>EvP.congr (g:=fun _=>some (p.cells.filter (fun y=>s && inside p.low p.high p.fin y.f0))) (EvP.const ?_) (fun k=>if_pos hlen)) (fun e=>absurd (hg2.2 (hg.1 eg)) e)) fun q hq=>EvP.const ?_
   ·rw [hs,(h3.1 e3).1];simp only [Bool.true_and]
   ·subst hq
    rw [beq_iff_eq,Int.natCast_inj,filter_all]
    exact ⟨fun h=>⟨hg.1 eg,h⟩,fun h=>h.2⟩
  ·simp only [Bool.false_eq_true,false_iff];exact fun h=>eg (hg.2 h.1)
  refine EvP.bind (p:=fun t6:Bool=>t6=true↔(p.level=0→∀ t:Nat,t < p.cells.length→(rd_T42 p.cells (t:Int)).f0.size≤512)) (EvP.ite (fun hl=>EvP.const ?_) (fun hl=>(leaf_b p.cells (by omega) _ 0 rfl (Nat.zero_le _)).mono fun b hb=>?_)) fun t6 h6=>EvP.ite (fun e6=>?_) (fun e6=>EvP.const (.inr ⟨rfl,fun hc=>e6 (h6.2 fun hz t ht=>(hc.each t ht).2.1 hz)⟩))
  ·simp only [true_iff];intro hz;omega
  ·rw [hb];exact ⟨fun h _ t ht=>h t (Nat.zero_le _) ht,fun h t _ ht=>h (by have:=ho.level0;omega) t ht⟩
  refine EvP.bind (p:=fun t7:Bool=>t7=true↔(0 < p.level→(∀ t:Nat,t < p.cells.length→idOk (rd_T42 p.cells (t:Int)).f1)∧p.slow=0∧p.sin=[]∧0 < p.cells.length∧(rd_T42 p.cells 0).f0.toList=p.low.toList)) (EvP.ite (fun hl=>EvP.const ?_) (fun hl=>(inner_b p ho _ 0 rfl (Nat.zero_le _)).mono fun b hb=>?_)) fun t7 h7=>EvP.ite (fun e7=>EvP.const (.inl ⟨rfl,?_⟩)) (fun e7=>EvP.const (.inr ⟨rfl,fun hc=>e7 (h7.2 fun hz=>⟨fun t ht=>(hc.each t ht).2.2 hz,hc.inner hz⟩)⟩))
  ·simp only [true_iff];intro hz;omega
  ·rw [hb]
   exact ⟨fun h _=>⟨fun t ht=>h.1 t (Nat.zero_le _) ht,h.2⟩,fun h=>by have h':=h (by have:=ho.level0;omega);exact ⟨fun t _ ht=>h'.1 t ht,h'.2⟩⟩
  have g3:=h3.1 e3;have g4:=h4.1 e4;have g5:=h5.1 e5;have g6:=h6.1 e6;have g7:=h7.1 e7
  exact ⟨h1.1.1.1.1,h1.1.1.1.2,h1.1.1.2,h1.1.2,h1.2.1,h1.2.2,g3.1,g3.2,g4.1,g4.2,g5.1,fun t ht=>⟨g5.2 t ht,fun hz=>g6 hz t ht,fun hz=>(g7 hz).1 t ht⟩,fun hz=>(g7 hz).2⟩
 ·simp only [page_Check_1,page_Check_2,Bool.and_eq_true,decide_eq_true_eq,bne_iff_ne,ne_eq]
  exact ⟨⟨⟨⟨hc.id1,hc.id2⟩,hc.right2⟩,hc.other⟩,hc.level2,hc.dsn2⟩
theorem rcheck_evp (p:Pg) (ho:p.ok):EvP (fun k=>q11_Check.f k p.id p.right p.level p.low p.high p.fin p.dsn p.slow p.sin p.cells) (CheckR p):=by
 have hlen:=ho.len
 have hloop:SpanR p.low p.high p.fin=true→((∀ t:Nat,t < p.cells.length→cellOk p (rd_T42 p.cells (t:Int)))→(0 < p.level→p.slow=0∧p.sin=[]∧0 < p.cells.length∧(rd_T42 p.cells 0).f0.toList=p.low.toList)→CheckP p)→
   ∀ d (i:Nat),p.cells.length - i=d→i≤p.cells.length→(∀ t:Nat,t < i→cellOk p (rd_T42 p.cells (t:Int)))→EvP (fun k=>q11_Check.l0 k (i:Int) p.id p.right p.level p.low p.high p.fin p.dsn p.slow p.sin p.cells) (CheckR p):=by
  intro hspan hall d;induction d with
  |zero=>
   intro i h1 h2 h3
   refine EvP.succ (g:=fun _=>if p.level > 0 then (if p.slow > 0 then (some 110) else (if (p.sin.length:Int) > 0 then (some 110) else (if (p.cells.length:Int)=0 then (some 110) else (if 0 < (p.cells.length:Int) then (if ((rd_T42 p.cells 0).f0).toList=p.low.toList then (some 0) else (some 110)) else (none))))) else (some 0)) ?_ (fun k=>by simp only [q11_Check.l0];rw [if_neg (by omega)])
   refine EvP.ite (fun e1=>EvP.ite (fun e2=>EvP.const ?_) (fun e2=>EvP.ite (fun e3=>EvP.const ?_) (fun e3=>EvP.ite (fun e4=>EvP.const ?_) (fun e4=>EvP.congr (g:=fun _=>if ((rd_T42 p.cells 0).f0).toList=p.low.toList then (some 0) else (some 110)) (EvP.ite (fun e5=>EvP.const ?_) (fun e5=>EvP.const ?_)) (fun k=>if_pos (by omega)))))) (fun e1=>EvP.const ?_)
   ·exact .inr ⟨rfl,fun hc=>by have:=(hc.inner e1).1;omega⟩
   ·exact .inr ⟨rfl,fun hc=>by have:=(hc.inner e1).2.1;rw [this] at e3;simp at e3⟩
   ·exact .inr ⟨rfl,fun hc=>by have:=(hc.inner e1).2.2.1;omega⟩
   ·exact .inl ⟨rfl,hall (fun t ht=>h3 t (by omega)) fun _=>⟨by have:=ho.slow0;omega,List.length_eq_zero_iff.1 (by omega),by omega,e5⟩⟩
   ·exact .inr ⟨rfl,fun hc=>e5 (hc.inner e1).2.2.2⟩
   ·exact .inl ⟨rfl,hall (fun t ht=>h3 t (by omega)) fun h=>absurd h e1⟩
  |succ d ih=>
   intro i h1 h2 h3
   obtain ⟨c,hc⟩:∃ c,c=rd_T42 p.cells (i:Int):=⟨_,rfl⟩
   refine EvP.succ (g:=fun k=>(q03_Has.f k p.low p.high p.fin c.f0).bind fun t288=>(if t288=true then (if p.level=0 then (q11_Check.j4 k (i:Int) (decide (((c.f0).size:Int) > 512)) p.id p.right p.level p.low p.high p.fin p.dsn p.slow p.sin p.cells c.f0 c.f1) else (q11_Check.j4 k (i:Int) false p.id p.right p.level p.low p.high p.fin p.dsn p.slow p.sin p.cells c.f0 c.f1)) else (q11_Check.j4 k (i:Int) true p.id p.right p.level p.low p.high p.fin p.dsn p.slow p.sin p.cells c.f0 c.f1))) ?_ (fun k=>by
    rw [hc];simp only [q11_Check.l0,q11_Range.f,Option.bind_some];rw [if_pos (by omega),if_pos (by omega)])
   have hno:¬ cellOk p c→¬ CheckP p:=fun h hp=>h (hc ▸ hp.each i (by omega))
   have hbad:¬ cellOk p c→EvP (fun k=>q11_Check.j4 k (i:Int) true p.id p.right p.level p.low p.high p.fin p.dsn p.slow p.sin p.cells c.f0 c.f1) (CheckR p):=fun h=>EvP.succ (g:=fun _=>some 110) (EvP.const (.inr ⟨rfl,hno h⟩)) (fun k=>by simp only [q11_Check.j4];rw [if_pos trivial])
   have hgood:inside p.low p.high p.fin c.f0=true→(p.level=0→c.f0.size≤512)→EvP (fun k=>q11_Check.j4 k (i:Int) false p.id p.right p.level p.low p.high p.fin p.dsn p.slow p.sin p.cells c.f0 c.f1) (CheckR p):=fun g1 g2=>by
    have hnext:cellOk p c→EvP (fun k=>q11_Check.l0 k ((i+1:Nat):Int) p.id p.right p.level p.low p.high p.fin p.dsn p.slow p.sin p.cells) (CheckR p):=fun g=>ih (i+1) (by omega) (by omega) fun t ht=>by
     rcases Nat.lt_or_ge t i with h|h
     ·exact h3 t h
     ·obtain rfl:t=i:=by omega
      exact hc ▸ g
    refine EvP.succ (g:=fun k=>(q11_Id.f k c.f1).bind fun bt=>(if p.level > 0 then (if bt.2=0 then (q11_Check.l0 k ((i+1:Nat):Int) p.id p.right p.level p.low p.high p.fin p.dsn p.slow p.sin p.cells) else (some 110)) else (q11_Check.l0 k ((i+1:Nat):Int) p.id p.right p.level p.low p.high p.fin p.dsn p.slow p.sin p.cells))) ?_ (fun k=>by simp only [q11_Check.j4];rw [if_neg (by simp),w1 (by omega)])
    refine (rid_ev c.f1).to.bind fun r hr=>?_
    subst hr
    refine EvP.ite (fun hl=>EvP.ite (fun e=>hnext ⟨g1,g2,fun _=>(idv_iff _).1 e⟩) (fun e=>EvP.const (.inr ⟨rfl,hno fun h=>e ((idv_iff _).2 (h.2.2 hl))⟩))) (fun hl=>hnext ⟨g1,g2,fun h=>absurd h hl⟩)
   refine (rhas_ev p.low p.high p.fin c.f0).to.bind fun t ht=>?_
   subst ht
   rw [hspan,Bool.true_and]
   refine EvP.ite (fun e1=>EvP.ite (fun e2=>?_) (fun e2=>hgood e1 fun h=>absurd h e2)) (fun e1=>hbad fun h=>e1 h.1)
   by_cases e3:c.f0.size≤512
   ·rw [decide_eq_false (by omega)];exact hgood e1 fun _=>e3
   ·rw [decide_eq_true (by omega)];exact hbad fun h=>e3 (h.2.1 e2)
 have h2:∀ x:Bool,SpanR p.low p.high p.fin=true→(x=true→¬ CheckP p)→(x=false→(∀ t:Nat,t < p.cells.length→cellOk p (rd_T42 p.cells (t:Int)))→(0 < p.level→p.slow=0∧p.sin=[]∧0 < p.cells.length∧(rd_T42 p.cells 0).f0.toList=p.low.toList)→CheckP p)→
   EvP (fun k=>q11_Check.j2 k x p.id p.right p.level p.low p.high p.fin p.dsn p.slow p.sin p.cells) (CheckR p):=fun x hs h1 h2=>by
  refine EvP.succ (g:=fun k=>if x=true then some 110 else q11_Check.l0 k 0 p.id p.right p.level p.low p.high p.fin p.dsn p.slow p.sin p.cells) ?_ (fun k=>by simp only [q11_Check.j2])
  exact EvP.ite (fun e=>EvP.const (.inr ⟨rfl,h1 e⟩)) (fun e=>hloop hs (h2 (by simpa using e)) _ 0 rfl (Nat.zero_le _) (fun t ht=>by omega))
 have h1:∀ x:Bool,(x=true→¬ CheckP p)→(x=false→SpanR p.low p.high p.fin=true∧(Good p.slow p.sin→most_ p.slow p.sin≤281474976710656→RightP p.cells→(∀ t:Nat,t < p.cells.length→cellOk p (rd_T42 p.cells (t:Int)))→(0 < p.level→p.slow=0∧p.sin=[]∧0 < p.cells.length∧(rd_T42 p.cells 0).f0.toList=p.low.toList)→CheckP p))→
   EvP (fun k=>q11_Check.j1 k x p.id p.right p.level p.low p.high p.fin p.dsn p.slow p.sin p.cells) (CheckR p):=fun x hn hy=>by
  refine EvP.succ ?_ (fun k=>by simp only [q11_Check.j1];rfl)
  refine EvP.ite (fun e=>EvP.const (.inr ⟨rfl,hn e⟩)) (fun e=>?_)
  obtain ⟨hs,hy⟩:=hy (by simpa using e)
  refine (rgood_b _ _ ho.sin).bind fun g hg=>EvP.ite (fun eg=>EvP.bind (p:=fun m=>m=most_ p.slow p.sin) (Ev.to ⟨p.sin.length+1,fun k hk=>rmost_eq _ _ k (by have:=ho.sin;omega) (by omega)⟩) fun m hm=>?_) (fun eg=>?_)
  ·subst hm
   refine EvP.ite (fun em=>h2 true hs (fun _ hc=>by have:=hc.most;omega) (fun h=>by cases h)) (fun em=>(crright_b _ ho.len).bind fun r hr=>h2 (!r) hs (fun h hc=>?_) (fun h=>hy (hg.1 eg) (by omega) (hr.1 (by simpa using h))))
   rw [hr.2 hc.cells] at h;cases h
  ·exact h2 true hs (fun _ hc=>eg (hg.2 hc.good)) (fun h=>by cases h)
 have h0:∀ x:Bool,(x=true→¬ CheckP p)→(x=false→SpanR p.low p.high p.fin=true→(p.fin=true↔0 < p.right)→Good p.slow p.sin→most_ p.slow p.sin≤281474976710656→RightP p.cells→(∀ t:Nat,t < p.cells.length→cellOk p (rd_T42 p.cells (t:Int)))→(0 < p.level→p.slow=0∧p.sin=[]∧0 < p.cells.length∧(rd_T42 p.cells 0).f0.toList=p.low.toList)→CheckP p)→
   EvP (fun k=>q11_Check.j0 k x p.id p.right p.level p.low p.high p.fin p.dsn p.slow p.sin p.cells) (CheckR p):=fun x hn hy=>by
  refine EvP.succ ?_ (fun k=>by simp only [q11_Check.j0,q11_Range.f,Option.bind_some];rfl)
  refine EvP.ite (fun e=>EvP.const (.inr ⟨rfl,hn e⟩)) (fun e=>?_)
  refine (rspan_ev _ _ _).to.bind fun s hs=>EvP.ite (fun es=>h1 _ (fun h hc=>?_) (fun h=>⟨hs ▸ es,hy (by simpa using e) (hs ▸ es) ?_⟩)) (fun es=>h1 true (fun _ hc=>es (hs ▸ hc.span)) (fun h=>by cases h))
  ·have hf:=hc.fin
   by_cases hz:0 < p.right
   ·rw [hf.2 hz,decide_eq_true hz] at h;cases h
   ·have:p.fin=false:=by cases hq:p.fin with|false=>rfl|true=>exact absurd (hf.1 hq) hz
    rw [this,decide_eq_false hz] at h;cases h
  ·by_cases hz:0 < p.right
   ·rw [decide_eq_true hz] at h
    exact ⟨fun _=>hz,fun _=>by cases hq:p.fin with|true=>rfl|false=>rw [hq] at h;cases h⟩
   ·rw [decide_eq_false hz] at h
    exact ⟨fun hq=>(by rw [hq] at h;cases h),fun h9=>absurd h9 hz⟩
 unfold q11_Check.f
 refine EvP.ite (fun e=>h0 true (fun _ hc=>by have:=hc.id1;omega) (fun h=>by cases h)) fun e1=>EvP.ite (fun e=>h0 true (fun _ hc=>by have:=hc.id2;omega) (fun h=>by cases h)) fun e2=>EvP.ite (fun e=>h0 true (fun _ hc=>by have:=hc.right2;omega) (fun h=>by cases h)) fun e3=>EvP.ite (fun e=>h0 true (fun _ hc=>hc.other e) (fun h=>by cases h)) fun e4=>EvP.ite (fun e=>h0 true (fun _ hc=>by have:=hc.level2;omega) (fun h=>by cases h)) fun e5=>?_
 refine h0 _ (fun h hc=>by have:=hc.dsn2;have:=of_decide_eq_true h;omega) (fun h g1 g2 g3 g4 g5 g6 g7=>⟨by omega,by omega,by omega,e4,by omega,by have:=of_decide_eq_false h;omega,g1,g2,g3,g4,g5,g6,g7⟩)
open Classical in
noncomputable def chk (p:Pg):Int:=if CheckP p then 0 else 110
theorem chk_of {p:Pg} {r:Int} (h:CheckR p r):r=chk p:=by
 unfold chk
 rcases h with ⟨rfl,h⟩|⟨rfl,h⟩
 ·rw [if_pos h]
 ·rw [if_neg h]
theorem chk0 {p:Pg}:chk p=0↔CheckP p:=by
 unfold chk
 split
 ·simp [*]
 ·simp [*]
theorem check_ev (p:Pg) (ho:p.ok):Ev (fun k=>page_Check.f k p.id p.right p.level p.low p.high p.fin p.dsn p.slow p.sin p.cells) (chk p):=((check_evp p ho).mono fun r h=>chk_of h).ev
theorem rcheck_ev (p:Pg) (ho:p.ok):Ev (fun k=>q11_Check.f k p.id p.right p.level p.low p.high p.fin p.dsn p.slow p.sin p.cells) (chk p):=((rcheck_evp p ho).mono fun r h=>chk_of h).ev
end Go.Proofs.YtmfaopjfdedheaaGreat.Tq
