/- MergeSplit's plain law: a page that was split, both parts joined, is as it was. -/
import Derived.Test.YtmfaopjfdedheaaGreatSqd
import Derived.Test.YtmfaopjfdedheaaGreatSx18
namespace Go.Proofs.YtmfaopjfdedheaaGreat.Sq
open Go.RowKit Go.Proofs.YtmfaopjfdedheaaGreat.S Go.Proofs.YtmfaopjfdedheaaGreatW.PrintWords Go.Proofs.YtmfaopjfdedheaaGreatW.PrintLast Go.Proofs.YtmfaopjfdedheaaGreatW.PrintMore
set_option linter.unusedVariables false
set_option linter.unusedSectionVars false
set_option linter.unusedSimpArgs false
/-! ### order -/
theorem le_lt {a b c:List UInt8} (h1:¬ b < a) (h2:b < c):a < c:=by
 by_cases e:b=a
 ·rw [← e];exact h2
 ·exact lt_tr (nlt_le h1 (fun q=>e q.symm)) h2
theorem lt_le {a b c:List UInt8} (h1:a < b) (h2:¬ c < b):a < c:=by
 by_cases e:c=b
 ·rw [e];exact h1
 ·exact lt_tr h1 (nlt_le h2 (fun q=>e q.symm))
theorem le_le {a b c:List UInt8} (h1:¬ b < a) (h2:¬ c < b):¬ c < a:=fun h=>by
 by_cases e:c=b
 ·rw [e] at h;exact h1 h
 ·exact h1 (lt_tr (nlt_le h2 (fun q=>e q.symm)) h)
theorem take_le:∀ (m:Nat) (l:List UInt8),¬ l < l.take m
 |0,l,h=>by
  rw [List.take_zero] at h
  cases h
 |m+1,[],h=>by cases h
 |m+1,x::t,h=>by
  rw [List.take_succ_cons,List.cons_lt_cons_iff] at h
  rcases h with h|⟨_,h⟩
  ·exact absurd h (UInt8.lt_irrefl x)
  ·exact take_le m t h
theorem tl_extract (b:ByteArray) (m:Nat):(b.extract 0 m).toList=b.toList.take m:=by
 rw [Go.Lib.toList_data,Go.Lib.toList_data,ByteArray.data_extract]
 simp
/-! ### the half, the cut -/
theorem rsize_tot (l:List S42) (hl:l.length < 4611686018427387904):Tot (fun k=>lockkeeperref10_Size.f k l):=by
 have h:∀ n (i:Nat) (x:Int),l.length - i=n→i≤l.length→Tot (fun k=>lockkeeperref10_Size.l0 k l x (i:Int)):=by
  intro n;induction n with
  |zero=>
   intro i x h1 h2
   exact (Tot.const x).succ (fun k=>by simp only [lockkeeperref10_Size.l0];rw [if_neg (by omega)])
  |succ n ih=>
   intro i x h1 h2
   exact (ih (i+1) _ (by omega) (by omega)).succ (fun k=>by simp only [lockkeeperref10_Size.l0];rw [if_pos (by omega),if_pos (by omega),w1 (by omega)])
 exact h _ 0 0 rfl (Nat.zero_le _)
theorem half_evp (l:List S42) (hr:RightP l) (hl:l.length≤60):EvP (fun k=>lockkeeperref10_Half.f k l) (fun r=>r.2=0→∃ n:Nat,r.1=(n:Int)∧1≤n∧n < l.length):=by
 have h:∀ d (i:Nat),l.length - i=d→1≤i→i < l.length→EvP (fun k=>lockkeeperref10_Half.l0 k l (i:Int)) (fun r=>r.2=0→∃ n:Nat,r.1=(n:Int)∧1≤n∧n < l.length):=by
  intro d;induction d with
  |zero=>intro i h1 h2 h3;omega
  |succ d ih=>
   intro i h1 h2 h3
   have e:wrap64 ((l.length:Int) - 1)=((l.length - 1:Nat):Int):=by unfold wrap64;omega
   by_cases h4:i < l.length - 1
   ·refine EvP.succ (g:=fun k=>(lockkeeperref10_Size.f k (l.take i)).bind fun t271=>((lockkeeperref10_Size.f k l).bind fun t272=>(if (wrap64 (2 * t271)) < t272 then (lockkeeperref10_Half.l0 k l ((i+1:Nat):Int)) else (some ((i:Int),0))))) ?_ (fun k=>by simp only [lockkeeperref10_Half.l0];rw [e,if_pos (by omega),if_pos (by omega),if_pos (by omega),w1 (by omega),Int.toNat_natCast])
    exact (rsize_tot (l.take i) (by rw [List.length_take];omega)).evp.bind fun x _=>(rsize_tot l (by omega)).evp.bind fun y _=>EvP.ite (fun _=>ih (i+1) (by omega) (by omega) (by omega)) (fun _=>EvP.const fun _=>⟨i,rfl,h2,h3⟩)
   ·exact EvP.succ (g:=fun _=>some ((i:Int),0)) (EvP.const fun _=>⟨i,rfl,h2,h3⟩) (fun k=>by simp only [lockkeeperref10_Half.l0];rw [e,if_neg (by omega)])
 unfold lockkeeperref10_Half.f
 refine (crright_b l (by omega)).bind fun t ht=>EvP.ite (fun _=>EvP.ite (fun _=>EvP.const (fun h=>by cases h)) (fun e=>h _ 1 rfl (Nat.le_refl _) (by omega))) (fun e=>absurd (ht.2 hr) e)
theorem cut_evp (a b:ByteArray) (hb:b.size≤1000) (hab:a.toList < b.toList):EvP (fun k=>lockkeeperref03_Cut.f k a b) (fun r=>a.toList < r.1.toList∧¬ b.toList < r.1.toList∧r.1.size≤b.size):=by
 have hlen:b.toList.length=b.size:=by rw [Go.Lib.toList_data];simp
 have h:∀ d (i:Nat),b.size - i=d→i≤b.size→EvP (fun k=>lockkeeperref03_Cut.l0 k a b (i:Int)) (fun r=>a.toList < r.1.toList∧¬ b.toList < r.1.toList∧r.1.size≤b.size):=by
  intro d;induction d with
  |zero=>
   intro i h1 h2
   obtain rfl:i=b.size:=by omega
   refine EvP.succ (g:=fun _=>some (b.extract 0 b.size,0)) (EvP.const ⟨?_,?_,?_⟩) (fun k=>by
    simp only [lockkeeperref03_Cut.l0]
    rw [if_pos (by omega),if_pos (by omega),Int.toNat_natCast,if_pos ((lss_iff _ _).2 (by rw [tl_extract,← hlen,List.take_length];exact hab))])
   ·rw [tl_extract,← hlen,List.take_length];exact hab
   ·rw [tl_extract];exact take_le _ _
   ·rw [ByteArray.size_extract];omega
  |succ d ih=>
   intro i h1 h2
   refine EvP.succ (g:=fun k=>if ((Op.bytesLess a.toList ((b.extract 0 i).toList))=true) then (some (b.extract 0 i,0)) else (lockkeeperref03_Cut.l0 k a b ((i+1:Nat):Int))) ?_ (fun k=>by simp only [lockkeeperref03_Cut.l0];rw [if_pos (by omega),if_pos (by omega),w1 (by omega),Int.toNat_natCast])
   refine EvP.ite (fun e=>EvP.const ⟨(lss_iff _ _).1 e,?_,?_⟩) (fun _=>ih (i+1) (by omega) (by omega))
   ·rw [tl_extract];exact take_le _ _
   ·rw [ByteArray.size_extract];omega
 unfold lockkeeperref03_Cut.f
 exact EvP.ite (fun _=>h _ 0 rfl (Nat.zero_le _)) (fun e=>absurd ((lss_iff _ _).2 hab) e)
theorem pcut_evp (p:Pg) (hp:CheckP p) (hl:p.cells.length≤60) (n:Nat) (h1:1≤n) (h2:n < p.cells.length):EvP (fun k=>lockkeeperref15_Cut.f k p.id p.right p.level p.low p.high p.fin p.dsn p.slow p.sin p.cells (n:Int))
  (fun c=>(rd_T42 p.cells ((n - 1:Nat):Int)).f0.toList < c.toList∧¬ (rd_T42 p.cells (n:Int)).f0.toList < c.toList∧c.size≤(rd_T42 p.cells (n:Int)).f0.size∧(0 < p.level→c=(rd_T42 p.cells (n:Int)).f0)):=by
 have hlt:=srt' hp.cells (show n - 1 < n by omega) h2
 unfold lockkeeperref15_Cut.f
 refine EvP.ite (fun e=>EvP.congr (g:=fun _=>some (rd_T42 p.cells (n:Int)).f0) (EvP.const ⟨hlt,fun h=>lt_irr h,Nat.le_refl _,fun _=>rfl⟩) (fun k=>by rw [if_pos (by omega),if_pos (by omega)])) (fun e=>?_)
 have e1:wrap64 ((n:Int) - 1)=((n - 1:Nat):Int):=by unfold wrap64;omega
 refine EvP.congr (g:=fun k=>(lockkeeperref03_Cut.f k ((rd_T42 p.cells ((n - 1:Nat):Int)).f0) ((rd_T42 p.cells (n:Int)).f0)).bind fun bt322=>some bt322.1) ?_ (fun k=>by rw [e1,if_pos (by omega),if_pos (by omega),if_pos (by omega),if_pos (by omega)])
 have hf:=(rightP_iff.1 hp.cells).1 _ (rd_mem h2)
 exact (cut_evp _ _ (by have:=hf.1;omega) hlt).bind fun r hr=>EvP.const ⟨hr.1,hr.2.1,hr.2.2,fun h=>absurd h e⟩
/-! ### the split -/
abbrev R2:=Int×Int×Int×ByteArray×ByteArray×Bool×Int×Int×List Int×(List S42)×Int×Int×Int×ByteArray×ByteArray×Bool×Int×Int×List Int×(List S42)×Int
def two (l u:Pg) (e:Int):R2:=(l.id,l.right,l.level,l.low,l.high,l.fin,l.dsn,l.slow,l.sin,l.cells,u.id,u.right,u.level,u.low,u.high,u.fin,u.dsn,u.slow,u.sin,u.cells,e)
structure Parts (p:Pg) (id dsn:Int) (n:Nat) (c:ByteArray):Prop where
 whole:CheckP p
 id1:1≤id
 id2:id≤400
 own:id≠p.id
 next:id≠p.right
 dsn2:dsn≤281474976710656
 n1:1≤n
 n2:n < p.cells.length
 below:(rd_T42 p.cells ((n - 1:Nat):Int)).f0.toList < c.toList
 upto:¬ (rd_T42 p.cells (n:Int)).f0.toList < c.toList
 size:c.size≤(rd_T42 p.cells (n:Int)).f0.size
 inner:0 < p.level→c=(rd_T42 p.cells (n:Int)).f0
def lowerP (p:Pg) (id dsn:Int) (n:Nat) (c:ByteArray):Pg:=⟨p.id,id,p.level,p.low,c,true,dsn,p.slow,p.sin,p.cells.take n⟩
def upperP (p:Pg) (id dsn:Int) (n:Nat) (c:ByteArray):Pg:=⟨id,p.right,p.level,c,p.high,p.fin,dsn,p.slow,p.sin,p.cells.drop n⟩
theorem split_evp (p:Pg) (id dsn:Int) (hp:p.ok) (hl:p.cells.length≤60):EvP (fun k=>lockkeeperref15_Split.f k p.id p.right p.level p.low p.high p.fin p.dsn p.slow p.sin p.cells id dsn)
  (fun r=>r.2.2.2.2.2.2.2.2.2.2.2.2.2.2.2.2.2.2.2.2=0→∃ n c,r=two (lowerP p id dsn n c) (upperP p id dsn n c) 0∧Parts p id dsn n c):=by
 have bad:EvP (fun k=>lockkeeperref15_Split.j0 k id dsn true p.id p.right p.level p.low p.high p.fin p.dsn p.slow p.sin p.cells) (fun r=>r.2.2.2.2.2.2.2.2.2.2.2.2.2.2.2.2.2.2.2.2=0→∃ n c,r=two (lowerP p id dsn n c) (upperP p id dsn n c) 0∧Parts p id dsn n c):=
  EvP.succ (g:=fun _=>some (0,0,0,⟨#[]⟩,⟨#[]⟩,false,0,0,[],[],0,0,0,⟨#[]⟩,⟨#[]⟩,false,0,0,[],[],110)) (EvP.const (fun h=>by cases h)) (fun k=>by simp only [lockkeeperref15_Split.j0];rw [if_pos trivial])
 unfold lockkeeperref15_Split.f
 refine (rcheck_ev p hp).to.bind fun x hx=>EvP.ite (fun e0=>EvP.bind (f:=fun _=>lockkeeperref15_number.f id) (p:=fun t=>t=true↔(1≤id∧id≤400)) ?_ fun t ht=>EvP.ite (fun e1=>EvP.ite (fun _=>bad) fun e2=>EvP.ite (fun _=>bad) fun e3=>?_) (fun _=>bad)) (fun _=>bad)
 ·unfold lockkeeperref15_number.f
  refine EvP.ite (fun h=>EvP.const ?_) (fun h=>EvP.const ?_)
  ·rw [decide_eq_true_eq];exact ⟨fun q=>⟨h,q⟩,fun q=>q.2⟩
  ·simp only [Bool.false_eq_true,false_iff];exact fun q=>h q.1
 have hP:CheckP p:=chk0.1 (hx ▸ e0)
 have hid:=ht.1 e1
 by_cases e4:dsn > 281474976710656
 ·rw [decide_eq_true e4];exact bad
 rw [decide_eq_false e4]
 refine EvP.succ ?_ (fun k=>by simp only [lockkeeperref15_Split.j0];rw [if_neg (by simp)])
 refine (half_evp p.cells hP.cells hl).bind fun r hr=>EvP.ite (fun e5=>?_) (fun _=>EvP.const (fun h=>by cases h))
 obtain ⟨n,hn,h1,h2⟩:=hr e5
 rw [hn]
 have hsin:=hP.good.2
 have hpart:∀ (i j:Nat),i≤j→j≤p.cells.length→lockkeeperref15_part.f p.id p.right p.level p.low p.high p.fin p.dsn p.slow p.sin p.cells (i:Int) (j:Int)=some (p.id,p.right,p.level,p.low,p.high,p.fin,p.dsn,p.slow,p.sin,(p.cells.take j).drop i):=fun i j hi hj=>by
  unfold lockkeeperref15_part.f
  rw [rcopy11_ev p hp]
  simp only [Option.bind_some]
  rw [if_pos (by omega),if_pos (by omega),if_pos (by omega),Int.toNat_natCast,Int.toNat_natCast]
  unfold lockkeeperref10_Copy.f lockkeeperref04_Copy.f
  rw [if_pos (by simp only [List.length_nil,List.length_drop,List.length_take];omega),if_pos (by simp only [List.length_nil];omega)]
  rfl
 have p1:=hpart 0 n (Nat.zero_le _) (by omega)
 have p2:=hpart n p.cells.length (by omega) (Nat.le_refl _)
 rw [show ((0:Nat):Int)=0 from rfl] at p1
 rw [p1,p2]
 simp only [Option.bind_some]
 obtain ⟨c,hc,q1,q2,q3,q4⟩:=pcut_evp p hP hl n h1 h2
 refine hc.to.bind fun c1 hc1=>hc.to.bind fun c2 hc2=>EvP.const fun _=>?_
 rw [hc1,hc2]
 refine ⟨n,c,?_,⟨hP,hid.1,hid.2,e2,e3,by omega,h1,h2,q1,q2,q3,q4⟩⟩
 unfold two lowerP upperP
 rw [List.take_length,List.drop_zero]
section
theorem rd_take {p:Pg} {id dsn:Int} {n:Nat} {c:ByteArray} (h:Parts p id dsn n c) {t:Nat} (ht:t < (p.cells.take n).length):rd_T42 (p.cells.take n) (t:Int)=rd_T42 p.cells (t:Int)∧t < p.cells.length∧t≤n - 1:=by
 have h9:t < n∧t < p.cells.length:=by rw [List.length_take] at ht;omega
 refine ⟨?_,h9.2,by omega⟩
 rw [crd_get ht,crd_get h9.2,List.getElem_take]
theorem rd_drop {p:Pg} {id dsn:Int} {n:Nat} {c:ByteArray} (h:Parts p id dsn n c) {t:Nat} (ht:t < (p.cells.drop n).length):rd_T42 (p.cells.drop n) (t:Int)=rd_T42 p.cells ((n+t:Nat):Int)∧n+t < p.cells.length:=by
 have h9:n+t < p.cells.length:=by rw [List.length_drop] at ht;omega
 refine ⟨?_,h9⟩
 rw [crd_get ht,crd_get h9,List.getElem_drop]
theorem key_le {p:Pg} {id dsn:Int} {n:Nat} {c:ByteArray} (h:Parts p id dsn n c) {s t:Nat} (hst:s≤t) (ht:t < p.cells.length):¬ (rd_T42 p.cells (t:Int)).f0.toList < (rd_T42 p.cells (s:Int)).f0.toList:=fun q=>by
 rcases Nat.eq_or_lt_of_le hst with rfl|h9
 ·exact lt_irr q
 ·exact lt_irr (lt_tr (srt' h.whole.cells h9 ht) q)
theorem low_le {p:Pg} {id dsn:Int} {n:Nat} {c:ByteArray} (h:Parts p id dsn n c) {t:Nat} (ht:t < p.cells.length):¬ (rd_T42 p.cells (t:Int)).f0.toList < p.low.toList:=fun q=>by
 have h9:=(h.whole.each t ht).1
 unfold inside at h9
 rw [(lss_iff _ _).2 q] at h9
 simp at h9
theorem low_check {p:Pg} {id dsn:Int} {n:Nat} {c:ByteArray} (h:Parts p id dsn n c):CheckP (lowerP p id dsn n c):=by
 have hr:=rightP_iff.1 h.whole.cells
 have hs:=h.whole.span
 have hcs:c.size≤513:=by have:=(hr.1 _ (rd_mem h.n2)).1;have:=h.size;omega
 have hlc:p.low.toList < c.toList:=le_lt (low_le h (show n - 1 < p.cells.length by have:=h.n2;omega)) h.below
 have hcell:∀ t:Nat,t < (p.cells.take n).length→cellOk (lowerP p id dsn n c) (rd_T42 (p.cells.take n) (t:Int)):=fun t ht=>by
  obtain ⟨e,h1,h2⟩:=rd_take h ht
  rw [e]
  have hk:=h.whole.each t h1
  refine ⟨?_,hk.2⟩
  unfold inside lowerP
  have a1:Op.bytesLess (rd_T42 p.cells (t:Int)).f0.toList p.low.toList=false:=by
   cases q:Op.bytesLess (rd_T42 p.cells (t:Int)).f0.toList p.low.toList with
   |false=>rfl
   |true=>exact absurd ((lss_iff _ _).1 q) (low_le h h1)
  have a2:Op.bytesLess (rd_T42 p.cells (t:Int)).f0.toList c.toList=true:=(lss_iff _ _).2 (le_lt (key_le h h2 (by have:=h.n2;omega)) h.below)
  simp only [a1,a2]
  rfl
 refine ⟨h.whole.id1,h.whole.id2,h.id2,h.own,h.whole.level2,h.dsn2,?_,?_,h.whole.good,h.whole.most,rightP_iff.2 ⟨fun x hx=>hr.1 x (List.mem_of_mem_take hx),hr.2.sublist (List.take_sublist _ _)⟩,hcell,fun hz=>?_⟩
 ·unfold SpanR at hs ⊢
  simp only [Bool.and_eq_true,decide_eq_true_eq] at hs ⊢
  exact ⟨⟨hs.1.1,hcs⟩,by rw [if_pos (show (lowerP p id dsn n c).fin=true from rfl)];exact (lss_iff _ _).2 hlc⟩
 ·exact ⟨fun _=>by have:=h.id1;show 0 < id;omega,fun _=>rfl⟩
 ·obtain ⟨z1,z2,z3,z4⟩:=h.whole.inner hz
  have h9:0 < (p.cells.take n).length:=by rw [List.length_take];have:=h.n1;omega
  refine ⟨z1,z2,h9,?_⟩
  have:=(rd_take h (t:=0) h9).1
  exact (congrArg (fun x:S42=>x.f0.toList) this).trans z4
theorem up_check {p:Pg} {id dsn:Int} {n:Nat} {c:ByteArray} (h:Parts p id dsn n c):CheckP (upperP p id dsn n c):=by
 have hr:=rightP_iff.1 h.whole.cells
 have hs:=h.whole.span
 have hcs:c.size≤513:=by have:=(hr.1 _ (rd_mem h.n2)).1;have:=h.size;omega
 have hcell:∀ t:Nat,t < (p.cells.drop n).length→cellOk (upperP p id dsn n c) (rd_T42 (p.cells.drop n) (t:Int)):=fun t ht=>by
  obtain ⟨e,h1⟩:=rd_drop h ht
  rw [e]
  have hk:=h.whole.each (n+t) h1
  refine ⟨?_,hk.2⟩
  have hk1:=hk.1
  unfold inside at hk1 ⊢
  unfold upperP
  have a1:Op.bytesLess (rd_T42 p.cells ((n+t:Nat):Int)).f0.toList c.toList=false:=by
   cases q:Op.bytesLess (rd_T42 p.cells ((n+t:Nat):Int)).f0.toList c.toList with
   |false=>rfl
   |true=>exact absurd ((lss_iff _ _).1 q) (le_le h.upto (key_le h (show n≤n+t by omega) h1))
  simp only [a1]
  simp only [Bool.and_eq_true] at hk1
  simpa using hk1.2
 refine ⟨h.id1,h.id2,h.whole.right2,fun q=>h.next q.symm,h.whole.level2,h.dsn2,?_,h.whole.fin,h.whole.good,h.whole.most,rightP_iff.2 ⟨fun x hx=>hr.1 x (List.mem_of_mem_drop hx),hr.2.sublist (List.drop_sublist _ _)⟩,hcell,fun hz=>?_⟩
 ·unfold SpanR at hs ⊢
  simp only [Bool.and_eq_true,decide_eq_true_eq] at hs ⊢
  refine ⟨⟨hcs,hs.1.2⟩,?_⟩
  show (if p.fin=true then Op.bytesLess c.toList p.high.toList else p.high.toList==[])=true
  cases hf:p.fin
  ·have:=hs.2;rw [hf] at this;exact this
  ·rw [if_pos rfl]
   have hk:=(h.whole.each n h.n2).1
   unfold inside at hk
   rw [hf] at hk
   simp only [Bool.true_and,Bool.not_not,Bool.and_eq_true] at hk
   exact (lss_iff _ _).2 (le_lt h.upto ((lss_iff _ _).1 hk.2))
 ·obtain ⟨z1,z2,z3,z4⟩:=h.whole.inner hz
  have h9:0 < (p.cells.drop n).length:=by rw [List.length_drop];have:=h.n2;omega
  refine ⟨z1,z2,h9,?_⟩
  have:=(rd_drop h (t:=0) h9).1
  have e:=h.inner hz
  show (rd_T42 (p.cells.drop n) ((0:Nat):Int)).f0.toList=c.toList
  rw [this,e]
  rfl
theorem parts_beside {p:Pg} {id dsn:Int} {n:Nat} {c:ByteArray} (h:Parts p id dsn n c):BesideP (lowerP p id dsn n c) (upperP p id dsn n c):=⟨low_check h,up_check h,rfl,rfl,h.whole.other,rfl,rfl⟩
end
theorem jl_self {low:Int} {l:List Int} (h:Good low l):jl l l=l:=
 sorted_ext (jl_sorted l l) (good_iff.1 h).1 fun x=>by rw [jl_mem];simp
theorem slow_most {low:Int} {l:List Int} (h:Good low l):low≤most_ low l:=by
 unfold most_
 rw [if_pos h]
 split
 ·rename_i h1
  have h2:=(good_iff.1 h).2.1 (rd l ((l.length - 1:Nat):Int)) (by rw [rd_get l _ (by omega)];exact List.getElem_mem _)
  omega
 ·exact Int.le_refl _
theorem split_pure:lockkeeperlaw16_MergeSplit.Pure:=by
 intro a0 a1 a2 a3 a4 a5 a6 a7 s l id low dsn most wa0 wa1 wa2 _ _ wa6 wa7 wsl ws wll wl wid wlow wdsn wmost
 have hp:(Pg.mk a0 a1 a2 a3 a4 a5 a6 a7 s l).ok:=⟨(wf64 wa0).1,(wf64 wa1).1,(wf8 wa2).1,(wf8 wa2).2,(wf64 wa7).1,by show s.length < _;omega,by show l.length < _;omega,fun x hx=>wl x hx⟩
 generalize hP:Pg.mk a0 a1 a2 a3 a4 a5 a6 a7 s l=p at hp
 suffices h:EvP (fun k=>lockkeeperlaw16_MergeSplit.f k p.id p.right p.level p.low p.high p.fin p.dsn p.slow p.sin p.cells id low dsn most) (fun r=>r=true) by
  subst hP
  obtain ⟨r,⟨K,hK⟩,hr⟩:=h
  exact ⟨K,(hK K (Nat.le_refl _)).trans (congrArg some hr)⟩
 clear hP
 have hlp:=hp.len;have hsp:=hp.sin
 have hhead:∀ r:R2,EvP (fun k=>lockkeeperlaw16_MergeSplit.j0 k true p.id p.right p.level p.low p.high p.fin p.dsn p.slow p.sin p.cells low dsn most r.1 r.2.1 r.2.2.1 r.2.2.2.1 r.2.2.2.2.1 r.2.2.2.2.2.1 r.2.2.2.2.2.2.1 r.2.2.2.2.2.2.2.1 r.2.2.2.2.2.2.2.2.1 r.2.2.2.2.2.2.2.2.2.1 r.2.2.2.2.2.2.2.2.2.2.1 r.2.2.2.2.2.2.2.2.2.2.2.1 r.2.2.2.2.2.2.2.2.2.2.2.2.1 r.2.2.2.2.2.2.2.2.2.2.2.2.2.1 r.2.2.2.2.2.2.2.2.2.2.2.2.2.2.1 r.2.2.2.2.2.2.2.2.2.2.2.2.2.2.2.1 r.2.2.2.2.2.2.2.2.2.2.2.2.2.2.2.2.1 r.2.2.2.2.2.2.2.2.2.2.2.2.2.2.2.2.2.1 r.2.2.2.2.2.2.2.2.2.2.2.2.2.2.2.2.2.2.1 r.2.2.2.2.2.2.2.2.2.2.2.2.2.2.2.2.2.2.2.1) (fun r=>r=true):=fun r=>
  EvP.succ head_evp (fun k=>by simp only [lockkeeperlaw16_MergeSplit.j0];rw [if_pos trivial])
 unfold lockkeeperlaw16_MergeSplit.f
 refine (small_ev p (by omega)).bind fun t1 h1=>EvP.ite (fun e1=>(split_evp p id dsn hp (h1 e1).1).bind fun r hr=>EvP.ite (fun e2=>?_) (fun _=>hhead r)) (fun _=>head_evp)
 have hs1:=h1 e1
 obtain ⟨n,c,rfl,hpt⟩:=hr e2
 by_cases e3:low > 281474976710656
 ·rw [decide_eq_true e3];exact hhead _
 rw [decide_eq_false e3]
 clear hhead hr
 have hlow:∃ m,m=mx low p.slow∧p.slow≤m∧m≤281474976710656:=⟨_,rfl,by unfold mx;split <;> omega,by have:=slow_most hpt.whole.good;have:=hpt.whole.most;unfold mx;split <;> omega⟩
 obtain ⟨m,hm,hm1,hm2⟩:=hlow
 have hlok:(lowerP p id dsn n c).ok:=⟨hp.id0,by have:=hpt.id1;show 0≤id;omega,hp.level0,hp.level1,hp.slow0,hp.sin,by show (p.cells.take n).length < _;rw [List.length_take];omega,fun x hx=>hp.cell x (List.mem_of_mem_take hx)⟩
 have huok:(upperP p id dsn n c).ok:=⟨by have:=hpt.id1;show 0≤id;omega,hp.right0,hp.level0,hp.level1,hp.slow0,hp.sin,by show (p.cells.drop n).length < _;rw [List.length_drop];omega,fun x hx=>hp.cell x (List.mem_of_mem_drop hx)⟩
 have hj:=join_ev (lowerP p id dsn n c) (upperP p id dsn n c) m dsn hlok huok hs1.2 hs1.2 (by show (p.cells.take n).length≤60;rw [List.length_take];omega) (by show (p.cells.drop n).length≤60;rw [List.length_drop];omega)
 have hgood:Good m (p.sin.filter (fun x=>decide (x > m))):=by
  have:=raise_good hpt.whole.good m
  rwa [show mx m p.slow=m by unfold mx;split <;> omega] at this
 have hraise:raise_ p.slow p.sin m=(m,p.sin.filter (fun x=>decide (x > m)),0):=by
  unfold raise_
  rw [if_pos hpt.whole.good,show mx m p.slow=m by unfold mx;split <;> omega]
 have hset:setR (lowerP p id dsn n c) (upperP p id dsn n c) m=(m,p.sin.filter (fun x=>decide (x > m)),0):=by
  have e:setR (lowerP p id dsn n c) (upperP p id dsn n c) m=joined_ (raise_ p.slow p.sin m).1 (raise_ p.slow p.sin m).2.1 (raise_ p.slow p.sin m).1 (raise_ p.slow p.sin m).2.1:=rfl
  rw [e,hraise]
  unfold joined_
  rw [if_pos ⟨hgood,hgood⟩,if_pos rfl,jl_self hgood,if_neg (by have:=hgood.2;omega)]
 have hjr:joinR (lowerP p id dsn n c) (upperP p id dsn n c) m dsn=(p.id,p.right,p.level,p.low,p.high,p.fin,dsn,(if 0 < p.level then p.slow else m),(if 0 < p.level then p.sin else p.sin.filter (fun x=>decide (x > m))),p.cells,0):=by
  have hcc:(lowerP p id dsn n c).cells++(upperP p id dsn n c).cells=p.cells:=List.take_append_drop n p.cells
  unfold joinR
  rw [if_neg (not_not_intro ⟨low_check hpt,up_check hpt,hpt.dsn2,hm2⟩),if_neg (not_not_intro (parts_beside hpt)),hcc]
  by_cases hz:0 < p.level
  ·rw [if_pos (show 0 < (lowerP p id dsn n c).level from hz),if_pos hz,if_pos hz];rfl
  ·rw [if_neg (show ¬ 0 < (lowerP p id dsn n c).level from hz),if_neg hz,if_neg hz,if_neg (show ¬ (m < (lowerP p id dsn n c).slow∨m < (upperP p id dsn n c).slow) from fun q=>q.elim (fun q=>by have:m < p.slow:=q;omega) (fun q=>by have:m < p.slow:=q;omega)),hset,if_pos rfl];rfl
 rw [hjr] at hj
 refine EvP.succ ?_ (fun k=>by
  simp only [lockkeeperlaw16_MergeSplit.j0]
  rw [if_neg (by simp),← hm])
 refine hj.to.bind fun x hx=>?_
 subst hx
 refine EvP.congr ?_ (fun k=>if_pos rfl)
 refine EvP.congr ?_ (fun k=>if_pos rfl)
 simp only [page_Range.f,Option.bind_some]
 refine EvP.congr ?_ (fun k=>if_neg (by simp))
 refine EvP.congr ?_ (fun k=>if_pos trivial)
 refine (same_ev p.cells (by omega)).to.bind fun t ht=>?_
 subst ht
 refine EvP.congr ?_ (fun k=>if_pos rfl)
 refine EvP.ite (fun _=>head_evp) (fun hz=>?_)
 refine (rraise_ev p.slow p.sin m hs1.2).to.bind fun x hx=>?_
 rw [hraise] at hx
 subst hx
 refine EvP.congr ?_ (fun k=>if_pos rfl)
 rw [if_neg hz,if_neg hz]
 refine EvP.bind (p:=fun t=>t=true) (Ev.to ⟨(p.sin.filter (fun x=>decide (x > m))).length+2,fun k hk=>?_⟩) fun t ht=>?_
 ·show lockkeeperref04_Same.f k _ _ _ _=_
  rw [rsame_eq _ _ _ _ k (by have:=hgood.2;omega) (by omega)];simp
 ·subst ht
  exact head_evp.congr fun k=>if_pos rfl
end Go.Proofs.YtmfaopjfdedheaaGreat.Sq
namespace Go.Proofs.YtmfaopjfdedheaaGreat.Pure
open Go.Proofs.YtmfaopjfdedheaaGreat.S
theorem MergeSplit:lockkeeperlaw16_MergeSplit.Pure:=Go.Proofs.YtmfaopjfdedheaaGreat.Sq.split_pure
end Go.Proofs.YtmfaopjfdedheaaGreat.Pure
