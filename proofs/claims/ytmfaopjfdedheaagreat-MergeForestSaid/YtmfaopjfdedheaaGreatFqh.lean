/- What the document's forest functions tell: At, first, row, Check. -/
import Derived.Test.YtmfaopjfdedheaaGreatFqf
namespace Go.Proofs.YtmfaopjfdedheaaGreat.Fq
open Go.RowKit Go.Proofs.YtmfaopjfdedheaaGreat.F Go.Proofs.YtmfaopjfdedheaaGreatW.PrintWords Go.Proofs.YtmfaopjfdedheaaGreatW.PrintLast Go.Proofs.YtmfaopjfdedheaaGreatW.PrintMore
set_option linter.unusedVariables false
set_option linter.unusedSimpArgs false

theorem rd28_get {l:List S28} {i:Nat} (h:i < l.length):rd_T28 l (i:Int)=l[i]:=by
 unfold rd_T28
 rw [Int.toNat_natCast,List.getD_eq_getElem?_getD,List.getElem?_eq_getElem h];rfl
theorem rd28_mem {l:List S28} {i:Nat} (h:i < l.length):rd_T28 l (i:Int)∈l:=by rw [rd28_get h];exact List.getElem_mem h
theorem mem_rd28 {l:List S28} {x:S28} (h:x∈l):∃ i,i < l.length∧rd_T28 l (i:Int)=x:=by
 obtain ⟨i,hi,e⟩:=List.getElem_of_mem h
 exact ⟨i,hi,by rw [rd28_get hi];exact e⟩
theorem drop28 {l:List S28} {i:Nat} (h:i < l.length):l.drop i=rd_T28 l (i:Int)::l.drop (i+1):=by rw [List.drop_eq_getElem_cons h,rd28_get h]
/-- What every forest here has. -/
structure Sz (F:List S28):Prop where
 len:F.length≤40
 ok:∀ x∈F,(pg x).ok
def tup {α:Type} (x:S28) (a:α):Int×Int×Int×ByteArray×ByteArray×Bool×Int×Int×List Int×(List S42)×α:=(x.f0,x.f1,x.f2,x.f3,x.f4,x.f5,x.f6,x.f7.f0,x.f7.f1,x.f8,a)
/-! ### At -/
theorem at_evp (F:List S28) (hF:F.length≤40) (id:Int):EvP (fun k=>lockkeeperref14_At.f k F id) (fun r=>(∃ x,x∈F∧x.f0=id∧r=tup x true)∨((∀ x∈F,x.f0≠id)∧r=tup z28 false)):=by
 have h:∀ n (i:Nat),F.length - i=n→i≤F.length→(∀ s,s < i→(rd_T28 F (s:Int)).f0≠id)→EvP (fun k=>lockkeeperref14_At.l0 k F id (i:Int)) (fun r=>(∃ x,x∈F∧x.f0=id∧r=tup x true)∨((∀ x∈F,x.f0≠id)∧r=tup z28 false)):=by
  intro n;induction n with
  |zero=>
   intro i h1 h2 h3
   refine EvP.succ (g:=fun _=>some (tup z28 false)) (EvP.const (.inr ⟨fun x hx=>?_,rfl⟩)) (fun k=>by simp only [lockkeeperref14_At.l0];rw [if_neg (by omega)];rfl)
   obtain ⟨s,hs,rfl⟩:=mem_rd28 hx
   exact h3 s (by omega)
  |succ n ih=>
   intro i h1 h2 h3
   refine EvP.succ (g:=fun k=>if (rd_T28 F (i:Int)).f0=id then some (tup (rd_T28 F (i:Int)) true) else lockkeeperref14_At.l0 k F id ((i+1:Nat):Int)) ?_ (fun k=>by simp only [lockkeeperref14_At.l0];rw [if_pos (by omega),if_pos (by omega),w1 (by omega)];rfl)
   refine EvP.ite (fun e=>EvP.const (.inl ⟨_,rd28_mem (by omega),e,rfl⟩)) (fun e=>ih (i+1) (by omega) (by omega) fun s hs=>?_)
   by_cases q:s=i
   ·rw [q];exact e
   ·exact h3 s (by omega)
 exact h _ 0 rfl (Nat.zero_le _) (fun s hs=>by omega)
theorem at_yes {F:List S28} (hF:F.length≤40) (hi:F.Pairwise (fun x y=>x.f0 < y.f0)) {x:S28} (hx:x∈F) {id:Int} (e:x.f0=id):Ev (fun k=>lockkeeperref14_At.f k F id) (tup x true):=by
 refine ((at_evp F hF id).mono fun r h=>?_).ev
 rcases h with ⟨y,hy,ey,rfl⟩|⟨h,_⟩
 ·rw [ids_inj hi hy hx (ey.trans e.symm)]
 ·exact absurd e (h x hx)
/-! ### first -/
def mt (lv:Int) (low:ByteArray) (x:S28):Bool:=x.f2==lv && x.f3.toList==low.toList
def fl (lv:Int) (low:ByteArray) (c:S28) (l:List S28):S28:=l.foldl (fun c x=>if mt lv low x=true then x else c) c
theorem first_ev (F:List S28) (hF:F.length≤40) (lv:Int) (low:ByteArray):Ev (fun k=>lockkeeperref14_first.f k F lv low) (tup (fl lv low z28 F) (F.countP (mt lv low):Int)):=by
 have h:∀ d (i n:Nat) (c:S28),F.length - i=d→i≤F.length→n≤i→EvP (fun k=>lockkeeperref14_first.l0 k F lv low (n:Int) (i:Int) c.f0 c.f1 c.f2 c.f3 c.f4 c.f5 c.f6 c.f7.f0 c.f7.f1 c.f8) (fun r=>r=tup (fl lv low c (F.drop i)) ((n+(F.drop i).countP (mt lv low):Nat):Int)):=by
  intro d;induction d with
  |zero=>
   intro i n c h1 h2 h3
   refine EvP.succ (g:=fun _=>some (tup c (n:Int))) (EvP.const ?_) (fun k=>by simp only [lockkeeperref14_first.l0];rw [if_neg (by omega)];rfl)
   rw [List.drop_eq_nil_of_le (by omega)];rfl
  |succ d ih=>
   intro i n c h1 h2 h3
   refine EvP.succ (g:=fun k=>if (rd_T28 F (i:Int)).f2=lv then (if (rd_T28 F (i:Int)).f3.toList=low.toList then lockkeeperref14_first.l0 k F lv low ((n+1:Nat):Int) ((i+1:Nat):Int) (rd_T28 F (i:Int)).f0 (rd_T28 F (i:Int)).f1 (rd_T28 F (i:Int)).f2 (rd_T28 F (i:Int)).f3 (rd_T28 F (i:Int)).f4 (rd_T28 F (i:Int)).f5 (rd_T28 F (i:Int)).f6 (rd_T28 F (i:Int)).f7.f0 (rd_T28 F (i:Int)).f7.f1 (rd_T28 F (i:Int)).f8 else lockkeeperref14_first.l0 k F lv low (n:Int) ((i+1:Nat):Int) c.f0 c.f1 c.f2 c.f3 c.f4 c.f5 c.f6 c.f7.f0 c.f7.f1 c.f8) else lockkeeperref14_first.l0 k F lv low (n:Int) ((i+1:Nat):Int) c.f0 c.f1 c.f2 c.f3 c.f4 c.f5 c.f6 c.f7.f0 c.f7.f1 c.f8) ?_ (fun k=>by simp only [lockkeeperref14_first.l0];rw [if_pos (by omega),if_pos (by omega),w1 (by omega),w1 (by omega)])
   rw [drop28 (by omega)]
   have no:¬ mt lv low (rd_T28 F (i:Int))=true→EvP (fun k=>lockkeeperref14_first.l0 k F lv low (n:Int) ((i+1:Nat):Int) c.f0 c.f1 c.f2 c.f3 c.f4 c.f5 c.f6 c.f7.f0 c.f7.f1 c.f8) (fun r=>r=tup (fl lv low c (rd_T28 F (i:Int)::F.drop (i+1))) ((n+(rd_T28 F (i:Int)::F.drop (i+1)).countP (mt lv low):Nat):Int)):=fun e=>(ih (i+1) n c (by omega) (by omega) (by omega)).mono fun r hr=>by
    rw [hr,List.countP_cons,if_neg e]
    unfold fl
    rw [List.foldl_cons,if_neg e];rfl
   refine EvP.ite (fun e1=>EvP.ite (fun e2=>(ih (i+1) (n+1) _ (by omega) (by omega) (by omega)).mono fun r hr=>?_) (fun e=>no fun q=>?_)) (fun e=>no fun q=>?_)
   ·have e:mt lv low (rd_T28 F (i:Int))=true:=by unfold mt;rw [e1,e2];simp
    rw [hr,List.countP_cons,if_pos e]
    unfold fl
    rw [List.foldl_cons,if_pos e]
    congr 1
    omega
   ·unfold mt at q;rw [Bool.and_eq_true,beq_iff_eq,beq_iff_eq] at q;exact e q.2
   ·unfold mt at q;rw [Bool.and_eq_true,beq_iff_eq,beq_iff_eq] at q;exact e q.1
 have:=h F.length 0 0 z28 (by omega) (by omega) (by omega)
 rw [List.drop_zero,Nat.zero_add] at this
 exact this.ev
theorem fl_one {lv:Int} {low:ByteArray} {x:S28}:∀ {l:List S28} {c:S28},(∀ y∈l,mt lv low y=true→y=x)→(x∈l∧mt lv low x=true∨c=x)→fl lv low c l=x
 |[],c,_,h=>by
  rcases h with ⟨h,_⟩|rfl
  ·cases h
  ·rfl
 |z::l,c,hu,h=>by
  show fl lv low (if mt lv low z=true then z else c) l=x
  refine fl_one (fun y hy=>hu y (List.mem_cons_of_mem _ hy)) ?_
  by_cases e:mt lv low z=true
  ·rw [if_pos e];exact .inr (hu z List.mem_cons_self e)
  ·rw [if_neg e]
   rcases h with ⟨h1,h2⟩|h
   ·rcases List.mem_cons.1 h1 with rfl|h1
    ·exact absurd h2 e
    ·exact .inl ⟨h1,h2⟩
   ·exact .inr h
theorem cnt_one {p:S28→Bool} {x:S28}:∀ {l:List S28},l.Pairwise (fun x y=>x.f0 < y.f0)→x∈l→p x=true→(∀ y∈l,p y=true→y=x)→l.countP p=1
 |[],_,h,_,_=>nomatch h
 |z::l,hp,hx,hpx,hu=>by
  obtain ⟨h1,h2⟩:=List.pairwise_cons.1 hp
  rw [List.countP_cons]
  by_cases e:p z=true
  ·obtain rfl:=hu z List.mem_cons_self e
   rw [if_pos e,List.countP_eq_zero.2 fun y hy q=>?_]
   have e2:=hu y (List.mem_cons_of_mem _ hy) q
   have:=h1 y hy
   rw [e2] at this
   omega
  ·rw [if_neg e]
   rcases List.mem_cons.1 hx with rfl|hx'
   ·exact absurd hpx e
   ·rw [cnt_one h2 hx' hpx (fun y hy=>hu y (List.mem_cons_of_mem _ hy))]
/-- Where one is told, it is one of the forest's. -/
theorem first_in {F:List S28} {lv:Int} {low:ByteArray} (h:F.countP (mt lv low)=1):fl lv low z28 F∈F∧(fl lv low z28 F).f2=lv∧lo (fl lv low z28 F)=low.toList:=by
 have:∀ {l:List S28} {c:S28},(0 < l.countP (mt lv low)∨(c∈F∧mt lv low c=true))→(∀ x∈l,x∈F)→fl lv low c l∈F∧mt lv low (fl lv low c l)=true:=by
  intro l;induction l with
  |nil=>
   intro c hc _
   rcases hc with hc|hc
   ·simp at hc
   ·exact hc
  |cons z l ih=>
   intro c hc hs
   show fl lv low (if mt lv low z=true then z else c) l∈F∧_
   refine ih ?_ (fun x hx=>hs x (List.mem_cons_of_mem _ hx))
   by_cases e:mt lv low z=true
   ·rw [if_pos e];exact .inr ⟨hs z List.mem_cons_self,e⟩
   ·rw [if_neg e]
    rw [List.countP_cons,if_neg e] at hc
    exact hc
 obtain ⟨h1,h2⟩:=this (l:=F) (c:=z28) (.inl (by omega)) (fun _ hx=>hx)
 unfold mt at h2;rw [Bool.and_eq_true,beq_iff_eq,beq_iff_eq] at h2
 exact ⟨h1,h2.1,h2.2⟩
/-! ### row -/
theorem perm_of {α:Type}:∀ {l m:List α},l.Nodup→(∀ x∈l,x∈m)→m.length≤l.length→l.Perm m
 |[],m,_,_,h=>by
  obtain rfl:m=[]:=List.length_eq_zero_iff.1 (by simpa using h)
  exact List.Perm.nil
 |x::l,m,hn,hs,h=>by
  obtain ⟨h1,h2⟩:=List.nodup_cons.1 hn
  obtain ⟨s,r,rfl⟩:=List.append_of_mem (hs x List.mem_cons_self)
  have hl:l.Perm (s++r):=perm_of h2 (fun y hy=>by
   have:=hs y (List.mem_cons_of_mem _ hy)
   rw [List.mem_append,List.mem_cons] at this
   rw [List.mem_append]
   rcases this with q|rfl|q
   ·exact .inl q
   ·exact absurd hy h1
   ·exact .inr q) (by simp only [List.length_append,List.length_cons] at h ⊢;omega)
  exact (hl.cons x).trans List.perm_middle.symm
theorem from_drop:∀ {pre:List S28} {p:S28} {rest:List S28} {a:List UInt8},From a (pre++p::rest)→From (lo p) (p::rest)
 |[],p,rest,a,h=>⟨rfl,h.2⟩
 |z::pre,p,rest,a,h=>by
  rcases h.2 with ⟨_,q⟩|⟨_,_,q⟩
  ·simp at q
  ·exact from_drop q
def lvl (n:Int) (F:List S28):Nat:=F.countP (fun x=>x.f2==n)
theorem row_l1 {F:List S28} (hF:F.length≤40) (hc:∀ x∈F,CheckP (pg x)) (hids:F.Pairwise (fun x y=>x.f0 < y.f0)) (lv:Int):∀ d (out:List S28) (p:S28),lvl lv F+2 - out.length=d→out.length≤lvl lv F+1→p∈F→p.f2=lv→(∀ x∈out,x∈F∧x.f2=lv)→(∀ rest,From (lo p) (p::rest)→From [] (out++p::rest))→
  EvP (fun k=>lockkeeperref14_row.l1 k F lv out (lvl lv F:Int) 1 p.f0 p.f1 p.f2 p.f3 p.f4 p.f5 p.f6 p.f7.f0 p.f7.f1 p.f8) (fun r=>(r.2=true→Row F lv r.1)∧∀ l,Row F lv l→(∃ rest,l=out++p::rest)→r=(l,true)):=by
 have hle:lvl lv F≤40:=Nat.le_trans List.countP_le_length hF
 have bad:∀ {out:List S28} {p:S28},(∀ l,Row F lv l→(∃ rest,l=out++p::rest)→False)→EvP (fun _=>some (([]:List S28),false)) (fun r=>(r.2=true→Row F lv r.1)∧∀ l,Row F lv l→(∃ rest,l=out++p::rest)→r=(l,true)):=fun h=>EvP.const ⟨fun q=>(by cases q),fun l h1 h2=>(h l h1 h2).elim⟩
 intro d;induction d with
 |zero=>intro out p h1 h2;omega
 |succ d ih=>
  intro out p h1 h2 hp ep ho hf
  have hlen:∀ l,Row F lv l→l.length=lvl lv F:=fun l hl=>by rw [hl.2.length_eq];exact (List.countP_eq_length_filter).symm
  refine EvP.succ (g:=fun k=>if p.f5=true then ((lockkeeperref14_first.f k F lv p.f4).bind fun bt=>(if bt.2.2.2.2.2.2.2.2.2.2=1 then (if bt.1=p.f1 then (if ((out++[p]).length:Int) > (lvl lv F:Int) then some (([]:List S28),false) else lockkeeperref14_row.l1 k F lv (out++[p]) (lvl lv F:Int) 1 bt.1 bt.2.1 bt.2.2.1 bt.2.2.2.1 bt.2.2.2.2.1 bt.2.2.2.2.2.1 bt.2.2.2.2.2.2.1 bt.2.2.2.2.2.2.2.1 bt.2.2.2.2.2.2.2.2.1 bt.2.2.2.2.2.2.2.2.2.1) else some (([]:List S28),false)) else some (([]:List S28),false))) else some (out++[p],((out++[p]).length:Int)==(lvl lv F:Int))) ?_ (fun k=>by simp only [lockkeeperref14_row.l1];rw [if_pos trivial,if_pos (by omega)];rfl)
  refine EvP.ite (fun e=>?_) (fun e=>?_)
  ·refine (first_ev F hF lv p.f4).to.bind fun r hr=>?_
   subst hr
   refine EvP.ite (fun e1=>?_) (fun e1=>bad fun l hl hx=>e1 ?_)
   ·have e1':F.countP (mt lv p.f4)=1:=by have:((F.countP (mt lv p.f4):Nat):Int)=1:=e1;omega
    obtain ⟨y1,y2,y3⟩:=first_in e1'
    generalize hy:fl lv p.f4 z28 F=y at y1 y2 y3
    have hnext:∀ l,Row F lv l→(∃ rest,l=out++p::rest)→∃ rest,l=(out++[p])++y::rest∧y.f0=p.f1:=fun l hl ⟨rest,er⟩=>by
     have hd:=from_drop (er ▸ hl.1)
     rcases hd.2 with ⟨q,_⟩|⟨_,q1,q2⟩
     ·rw [e] at q;cases q
     ·match rest,q1,q2 with
      |[],_,q2=>exact absurd q2 (by simp [From])
      |z::rest,q1,q2=>
       have hz:z∈F∧z.f2=lv:=(row_mem hl).1 (by rw [er];simp)
       have hyl:y∈l:=(row_mem hl).2 ⟨y1,y2⟩
       have hzl:z∈l:=(row_mem hl).2 hz
       have elo:lo z=lo y:=q2.1.trans y3.symm
       obtain rfl:z=y:=by
        rcases pw_or (from_pw hl.1 fun w hw=>hc w ((row_mem hl).1 hw).1) hzl hyl with q|q|q
        ·exact q
        ·rw [elo] at q;exact (lt_irr q).elim
        ·rw [elo] at q;exact (lt_irr q).elim
       exact ⟨rest,by rw [er];simp,q1 z rfl⟩
    refine EvP.ite (fun e2=>?_) (fun e2=>bad fun l hl hx=>e2 ?_)
    ·refine EvP.ite (fun e3=>bad fun l hl hx=>?_) (fun e3=>?_)
     ·obtain ⟨rest,er,_⟩:=hnext l hl hx
      have:=hlen l hl
      rw [er] at this
      simp only [List.length_append,List.length_cons,List.length_nil] at this e3
      omega
     ·have e3':(out++[p]).length≤lvl lv F:=by omega
      refine (ih (out++[p]) y ?_ (by omega) y1 y2 (fun x hx=>?_) (fun rest hr=>?_)).mono fun r hr=>⟨hr.1,fun l hl hx=>hr.2 l hl ?_⟩
      ·simp only [List.length_append,List.length_singleton] at e3' ⊢;omega
      ·rcases List.mem_append.1 hx with hx|hx
       ·exact ho x hx
       ·rw [List.mem_singleton.1 hx];exact ⟨hp,ep⟩
      ·rw [List.append_assoc]
       refine hf _ ⟨rfl,.inr ⟨e,fun z hz=>?_,?_⟩⟩
       ·obtain rfl:y=z:=by simpa using hz
        exact e2
       ·show From (hi p) (y::rest)
        rw [show hi p=lo y from y3.symm];exact hr
      ·obtain ⟨rest,er,_⟩:=hnext l hl hx
       exact ⟨rest,er⟩
    ·obtain ⟨_,_,q⟩:=hnext l hl hx
     exact q
   ·-- the level's pages have one that begins there
    obtain ⟨rest,er⟩:=hx
    have hd:=from_drop (er ▸ hl.1)
    rcases hd.2 with ⟨q,_⟩|⟨_,q1,q2⟩
    ·rw [e] at q;cases q
    ·match rest,q2 with
     |[],q2=>exact absurd q2 (by simp [From])
     |z::rest,q2=>
      have hz:z∈F∧z.f2=lv:=(row_mem hl).1 (by rw [er];simp)
      show ((F.countP (mt lv p.f4):Nat):Int)=1
      rw [cnt_one hids hz.1 (by unfold mt;rw [hz.2,beq_self_eq_true,Bool.true_and,beq_iff_eq];exact q2.1) (fun y hy qy=>?_)];rfl
      unfold mt at qy;rw [Bool.and_eq_true,beq_iff_eq,beq_iff_eq] at qy
      have elo:lo y=lo z:=qy.2.trans q2.1.symm
      rcases pw_or (from_pw hl.1 fun w hw=>hc w ((row_mem hl).1 hw).1) ((row_mem hl).2 ⟨hy,qy.1⟩) ((row_mem hl).2 hz) with q|q|q
      ·exact q
      ·rw [elo] at q;exact (lt_irr q).elim
      ·rw [elo] at q;exact (lt_irr q).elim
  ·have e':p.f5=false:=by simpa using e
   have hfr:From [] (out++[p]):=hf [] ⟨rfl,.inl ⟨e',rfl⟩⟩
   have hin:∀ x∈out++[p],x∈F∧x.f2=lv:=fun x hx=>by
    rcases List.mem_append.1 hx with hx|hx
    ·exact ho x hx
    ·rw [List.mem_singleton.1 hx];exact ⟨hp,ep⟩
   refine EvP.const ⟨fun q=>⟨hfr,perm_of ?_ (fun x hx=>List.mem_filter.2 ⟨(hin x hx).1,beq_iff_eq.2 (hin x hx).2⟩) ?_⟩,fun l hl ⟨rest,er⟩=>?_⟩
   ·exact (from_pw hfr fun w hw=>hc w (hin w hw).1).imp fun q e=>by rw [e] at q;exact lt_irr q
   ·have q':((out++[p]).length:Int)=(lvl lv F:Int):=beq_iff_eq.1 q
    have:(F.filter (fun x=>x.f2==lv)).length=lvl lv F:=(List.countP_eq_length_filter).symm
    show _≤(out++[p]).length
    omega
   ·have hd:=from_drop (er ▸ hl.1)
    obtain rfl:rest=[]:=by
     rcases hd.2 with ⟨_,q⟩|⟨q,_⟩
     ·exact q
     ·rw [e'] at q;cases q
    have:=hlen l hl
    rw [er] at this
    rw [er,this,beq_self_eq_true]
theorem row_evp {F:List S28} (hF:F.length≤40) (hc:∀ x∈F,CheckP (pg x)) (hids:F.Pairwise (fun x y=>x.f0 < y.f0)) (lv:Int):EvP (fun k=>lockkeeperref14_row.f k F lv) (fun r=>(r.2=true→Row F lv r.1)∧∀ l,Row F lv l→r=(l,true)):=by
 have h:∀ d (i n:Nat),F.length - i=d→i≤F.length→n≤i→n+(F.drop i).countP (fun x=>x.f2==lv)=lvl lv F→EvP (fun k=>lockkeeperref14_row.l0 k F lv (n:Int) (i:Int)) (fun r=>(r.2=true→Row F lv r.1)∧∀ l,Row F lv l→r=(l,true)):=by
  intro d;induction d with
  |zero=>
   intro i n h1 h2 h3 h4
   rw [List.drop_eq_nil_of_le (by omega),List.countP_nil,Nat.add_zero] at h4
   subst h4
   refine EvP.succ ?_ (fun k=>by simp only [lockkeeperref14_row.l0];rw [if_neg (by omega)])
   refine (first_ev F hF lv ⟨#[]⟩).to.bind fun r hr=>?_
   subst hr
   have hnil:(⟨#[]⟩:ByteArray).toList=[]:=by rw [Go.Lib.toList_data]
   have hhead:∀ l,Row F lv l→∃ x rest,l=x::rest∧x∈F∧x.f2=lv∧lo x=[]∧F.countP (mt lv ⟨#[]⟩)=1∧fl lv ⟨#[]⟩ z28 F=x:=fun l hl=>by
    match l,hl with
    |[],hl=>exact absurd hl.1 (by simp [From])
    |x::rest,hl=>
     have hx:=(row_mem hl).1 List.mem_cons_self
     have hx0:lo x=[]:=hl.1.1
     have hu:∀ y∈F,mt lv ⟨#[]⟩ y=true→y=x:=fun y hy qy=>by
      unfold mt at qy;rw [Bool.and_eq_true,beq_iff_eq,beq_iff_eq,hnil] at qy
      have elo:lo y=lo x:=qy.2.trans hx0.symm
      rcases pw_or (from_pw hl.1 fun w hw=>hc w ((row_mem hl).1 hw).1) ((row_mem hl).2 ⟨hy,qy.1⟩) ((row_mem hl).2 hx) with q|q|q
      ·exact q
      ·rw [elo] at q;exact (lt_irr q).elim
      ·rw [elo] at q;exact (lt_irr q).elim
     have hm:mt lv ⟨#[]⟩ x=true:=by unfold mt;rw [hx.2,beq_self_eq_true,Bool.true_and,beq_iff_eq,hnil];exact hx0
     exact ⟨x,rest,rfl,hx.1,hx.2,hx0,cnt_one hids hx.1 hm hu,fl_one hu (.inl ⟨hx.1,hm⟩)⟩
   by_cases e:F.countP (mt lv ⟨#[]⟩)=1
   ·obtain ⟨y1,y2,y3⟩:=first_in e
    rw [hnil] at y3
    refine (row_l1 hF hc hids lv _ [] (fl lv ⟨#[]⟩ z28 F) rfl (Nat.zero_le _) y1 y2 (fun x hx=>by cases hx) (fun rest hr=>?_)).congr (fun k=>?_)|>.mono fun r hr=>⟨hr.1,fun l hl=>hr.2 l hl ?_⟩
    ·rw [y3] at hr;exact hr
    ·show lockkeeperref14_row.l1 k F lv [] _ ((F.countP (mt lv ⟨#[]⟩):Nat):Int) _ _ _ _ _ _ _ _ _ _=_
     rw [e];rfl
    ·obtain ⟨x,rest,rfl,_,_,_,_,q⟩:=hhead l hl
     exact ⟨rest,by rw [q];rfl⟩
   ·refine EvP.succ (g:=fun _=>some (([]:List S28),false)) (EvP.const ⟨fun q=>(by cases q),fun l hl=>?_⟩) (fun k=>by
     simp only [lockkeeperref14_row.l1]
     exact if_neg (fun q=>e (by have:((F.countP (mt lv ⟨#[]⟩):Nat):Int)=1:=q;omega)))
    obtain ⟨_,_,_,_,_,_,q,_⟩:=hhead l hl
    exact absurd q e
  |succ d ih=>
   intro i n h1 h2 h3 h4
   rw [drop28 (by omega),List.countP_cons] at h4
   refine EvP.succ (g:=fun k=>if (rd_T28 F (i:Int)).f2=lv then lockkeeperref14_row.l0 k F lv ((n+1:Nat):Int) ((i+1:Nat):Int) else lockkeeperref14_row.l0 k F lv (n:Int) ((i+1:Nat):Int)) ?_ (fun k=>by simp only [lockkeeperref14_row.l0];rw [if_pos (by omega),if_pos (by omega),w1 (by omega),w1 (by omega)])
   refine EvP.ite (fun e=>ih (i+1) (n+1) (by omega) (by omega) (by omega) ?_) (fun e=>ih (i+1) n (by omega) (by omega) (by omega) ?_)
   ·rw [if_pos (beq_iff_eq.2 e)] at h4;omega
   ·rw [if_neg (fun q=>e (beq_iff_eq.1 q))] at h4;omega
 exact h F.length 0 0 (by omega) (by omega) (by omega) (by rw [List.drop_zero,Nat.zero_add];rfl)
end Go.Proofs.YtmfaopjfdedheaaGreat.Fq
namespace Go.Proofs.YtmfaopjfdedheaaGreat.Fq
open Go.RowKit Go.Proofs.YtmfaopjfdedheaaGreat.F Go.Proofs.YtmfaopjfdedheaaGreatW.PrintWords Go.Proofs.YtmfaopjfdedheaaGreatW.PrintLast Go.Proofs.YtmfaopjfdedheaaGreatW.PrintMore
set_option linter.unusedVariables false
set_option linter.unusedSimpArgs false

def EvI (f:Nat→Option Int) (P:Prop):Prop:=EvP f (fun r=>r=0↔P)
theorem EvI.no {P:Prop} (h:¬ P):EvI (fun _=>some (140:Int)) P:=EvP.const ⟨fun q=>absurd q (by decide),fun q=>absurd q h⟩
theorem EvI.iff {f:Nat→Option Int} {P Q:Prop} (h:EvI f P) (e:P↔Q):EvI f Q:=EvP.mono h fun r hr=>hr.trans e
def kidOk (F:List S28) (x:S28) (c:S42):Prop:=∃ q∈F,q.f0=(idv c.f1).1∧q.f2=x.f2 - 1∧lo q=c.f0.toList
def KidsFrom (F:List S28) (i:Nat):Prop:=∀ s:Nat,i≤s→s < F.length→0 < (rd_T28 F (s:Int)).f2→∀ c∈(rd_T28 F (s:Int)).f8,kidOk F (rd_T28 F (s:Int)) c
theorem drop42 {l:List S42} {i:Nat} (h:i < l.length):l.drop i=rd_T42 l (i:Int)::l.drop (i+1):=by rw [List.drop_eq_getElem_cons h,crd_get h]
theorem kids_evp {F:List S28} (hs:Sz F) (hids:F.Pairwise (fun x y=>x.f0 < y.f0)):∀ d (i:Nat),F.length - i=d→i≤F.length→EvI (fun k=>lockkeeperref14_Check.l2 k F (i:Int)) (KidsFrom F i):=by
 intro d;induction d with
 |zero=>
  intro i h1 h2
  exact EvP.succ (g:=fun _=>some (0:Int)) (EvP.const ⟨fun _ s h3 h4=>by omega,fun _=>rfl⟩) (fun k=>by simp only [lockkeeperref14_Check.l2];rw [if_neg (by omega)])
 |succ d ih=>
  intro i h1 h2
  have hF:=hs.len
  have hx:=rd28_mem (show i < F.length by omega)
  have hok:=hs.ok _ hx
  have hcl:(rd_T28 F (i:Int)).f8.length < 4398046511104:=hok.len
  have hl0:0≤(rd_T28 F (i:Int)).f2:=hok.level0
  have hl1:(rd_T28 F (i:Int)).f2 < 256:=hok.level1
  have step:KidsFrom F i↔((0 < (rd_T28 F (i:Int)).f2→∀ c∈(rd_T28 F (i:Int)).f8.drop 0,kidOk F (rd_T28 F (i:Int)) c)∧KidsFrom F (i+1)):=by
   rw [List.drop_zero]
   constructor
   ·exact fun h=>⟨h i (Nat.le_refl _) (by omega),fun s h3 h4=>h s (by omega) h4⟩
   ·intro h s h3 h4
    by_cases e:s=i
    ·rw [e];exact h.1
    ·exact h.2 s (by omega) h4
  have out:EvI (fun k=>lockkeeperref14_Check.l2 k F ((i+1:Nat):Int)) (KidsFrom F (i+1)):=ih (i+1) (by omega) (by omega)
  have off:∀ j:Nat,EvI (fun k=>lockkeeperref14_Check.j4 k F (i:Int) (j:Int) false) (KidsFrom F (i+1)):=fun j=>
   EvP.succ out (fun k=>by simp only [lockkeeperref14_Check.j4];rw [if_neg (by simp),w1 (by omega)])
  have inn:∀ e (j:Nat),(rd_T28 F (i:Int)).f8.length - j=e→j≤(rd_T28 F (i:Int)).f8.length→EvI (fun k=>lockkeeperref14_Check.l3 k F (i:Int) (j:Int)) ((0 < (rd_T28 F (i:Int)).f2→∀ c∈(rd_T28 F (i:Int)).f8.drop j,kidOk F (rd_T28 F (i:Int)) c)∧KidsFrom F (i+1)):=by
   intro e;induction e with
   |zero=>
    intro j h3 h4
    refine EvI.iff (EvP.succ (off j) (fun k=>by simp only [lockkeeperref14_Check.l3];rw [if_pos (by omega),if_pos (by omega),if_neg (by omega)])) ?_
    rw [List.drop_eq_nil_of_le (by omega)]
    exact ⟨fun h=>⟨fun _ c hc=>(by cases hc),h⟩,fun h=>h.2⟩
   |succ e ih2=>
    intro j h3 h4
    refine EvP.succ (g:=fun k=>lockkeeperref14_Check.j4 k F (i:Int) (j:Int) (decide ((rd_T28 F (i:Int)).f2 > 0))) ?_ (fun k=>by simp only [lockkeeperref14_Check.l3];rw [if_pos (by omega),if_pos (by omega),if_pos (by omega)])
    by_cases hp:(rd_T28 F (i:Int)).f2 > 0
    ·rw [decide_eq_true hp]
     rw [drop42 (by omega)]
     generalize hc:rd_T42 (rd_T28 F (i:Int)).f8 (j:Int)=c
     refine EvP.succ (g:=fun k=>(lockkeeperref11_Id.f k c.f1).bind fun bt346=>((lockkeeperref14_At.f k F bt346.1).bind fun bt348=>(if bt348.2.2.2.2.2.2.2.2.2.2=true then (if bt348.2.2.1=(rd_T28 F (i:Int)).f2 - 1 then (if bt348.2.2.2.1.toList=c.f0.toList then lockkeeperref14_Check.l3 k F (i:Int) ((j+1:Nat):Int) else some 140) else some 140) else some 140))) ?_ (fun k=>by
      simp only [lockkeeperref14_Check.j4]
      rw [if_pos trivial,if_pos (by omega),if_pos (by omega),if_pos (by omega),if_pos (by omega),w1 (by omega),hc,show ((rd_T28 F (i:Int)).f2 - 1) % 256=(rd_T28 F (i:Int)).f2 - 1 by omega])
     refine (rid_ev c.f1).to.bind fun t ht=>?_
     subst ht
     refine (at_evp F hF (idv c.f1).1).bind fun r hr=>?_
     rcases hr with ⟨q,hq,eq,rfl⟩|⟨hno,rfl⟩
     ·refine EvP.congr (g:=fun k=>if q.f2=(rd_T28 F (i:Int)).f2 - 1 then (if lo q=c.f0.toList then lockkeeperref14_Check.l3 k F (i:Int) ((j+1:Nat):Int) else some 140) else some 140) ?_ (fun k=>if_pos rfl)
      refine EvP.ite (fun e1=>EvP.ite (fun e2=>EvI.iff (ih2 (j+1) (by omega) (by omega)) ?_) (fun e2=>EvI.no fun h=>?_)) (fun e1=>EvI.no fun h=>?_)
      ·constructor
       ·exact fun h=>⟨fun hp' c' hc'=>(List.mem_cons.1 hc').elim (fun e3=>e3 ▸ ⟨q,hq,eq,e1,e2⟩) (h.1 hp' c'),h.2⟩
       ·exact fun h=>⟨fun hp' c' hc'=>h.1 hp' c' (List.mem_cons_of_mem _ hc'),h.2⟩
      ·obtain ⟨z,hz,z1,z2,z3⟩:=h.1 hp c List.mem_cons_self
       rw [ids_inj hids hz hq (z1.trans eq.symm)] at z3
       exact e2 z3
      ·obtain ⟨z,hz,z1,z2,z3⟩:=h.1 hp c List.mem_cons_self
       rw [ids_inj hids hz hq (z1.trans eq.symm)] at z2
       exact e1 z2
     ·refine EvP.congr (g:=fun _=>some (140:Int)) (EvI.no fun h=>?_) (fun k=>if_neg (by simp [tup]))
      obtain ⟨z,hz,z1,_⟩:=h.1 hp c List.mem_cons_self
      exact hno z hz z1
    ·rw [decide_eq_false hp]
     exact EvI.iff (off j) ⟨fun h=>⟨fun q=>absurd q hp,h⟩,fun h=>h.2⟩
  refine EvI.iff (EvP.succ (inn _ 0 rfl (Nat.zero_le _)) (fun k=>by simp only [lockkeeperref14_Check.l2];rw [if_pos (by omega)];rfl)) step.symm
theorem rows_evp {F:List S28} (hs:Sz F) (hc:∀ x∈F,CheckP (pg x)) (hids:F.Pairwise (fun x y=>x.f0 < y.f0)) (p:S28) (p0:0≤p.f2) (p1:p.f2 < 256):∀ d (n:Nat),p.f2.toNat+1 - n=d→n≤p.f2.toNat+1→EvI (fun k=>lockkeeperref14_Check.l1 k F (n:Int) p.f0 p.f1 p.f2 p.f3 p.f4 p.f5 p.f6 p.f7.f0 p.f7.f1 p.f8) ((∀ m:Nat,n≤m→(m:Int)≤p.f2→∃ l,Row F m l)∧KidsFrom F 0):=by
 intro d;induction d with
 |zero=>
  intro n h1 h2
  exact EvI.iff (EvP.succ (kids_evp hs hids _ 0 rfl (Nat.zero_le _)) (fun k=>by simp only [lockkeeperref14_Check.l1];rw [if_neg (by unfold wrap64;omega)];rfl)) ⟨fun h=>⟨fun m h3 h4=>by omega,h⟩,fun h=>h.2⟩
 |succ d ih=>
  intro n h1 h2
  refine EvP.succ (g:=fun k=>(lockkeeperref14_row.f k F (n:Int)).bind fun bt=>if bt.2=true then lockkeeperref14_Check.l1 k F ((n+1:Nat):Int) p.f0 p.f1 p.f2 p.f3 p.f4 p.f5 p.f6 p.f7.f0 p.f7.f1 p.f8 else some 140) ?_ (fun k=>by simp only [lockkeeperref14_Check.l1];rw [if_pos (by unfold wrap64;omega),w1 (by omega),show (n:Int) % 256=(n:Int) by omega])
  refine (row_evp hs.len hc hids (n:Int)).bind fun r hr=>EvP.ite (fun e=>EvI.iff (ih (n+1) (by omega) (by omega)) ?_) (fun e=>EvI.no fun h=>?_)
  ·refine and_congr_left fun _=>⟨fun h m h3 h4=>?_,fun h m h3 h4=>h m (by omega) h4⟩
   by_cases q:m=n
   ·rw [q];exact ⟨_,hr.1 e⟩
   ·exact h m (by omega) h4
  ·obtain ⟨l,hl⟩:=h.1 n (Nat.le_refl _) (by omega)
   rw [hr.2 l hl] at e
   exact e rfl
def pageOk (F:List S28) (root lv:Int) (s:Nat):Prop:=CheckP (pg (rd_T28 F (s:Int)))∧(0 < s→(rd_T28 F ((s - 1:Nat):Int)).f0 < (rd_T28 F (s:Int)).f0)∧(rd_T28 F (s:Int)).f2≤lv∧((rd_T28 F (s:Int)).f2=lv→(rd_T28 F (s:Int)).f0=root)
theorem adj_pw {F:List S28} (h:∀ s:Nat,0 < s→s < F.length→(rd_T28 F ((s - 1:Nat):Int)).f0 < (rd_T28 F (s:Int)).f0):F.Pairwise (fun x y=>x.f0 < y.f0):=by
 have q:∀ d s:Nat,s+d+1 < F.length→(rd_T28 F (s:Int)).f0 < (rd_T28 F ((s+d+1:Nat):Int)).f0:=by
  intro d;induction d with
  |zero=>intro s hs;have:=h (s+1) (by omega) (by omega);rw [Nat.add_sub_cancel] at this;exact this
  |succ d ih=>
   intro s hs
   have h1:=ih s (by omega)
   have h2:=h (s+(d+1)+1) (by omega) hs
   rw [Nat.add_sub_cancel,show s+(d+1)=s+d+1 by omega] at h2
   rw [show s+(d+1)+1=s+d+1+1 by omega]
   omega
 refine List.pairwise_iff_getElem.2 fun i j hi hj hij=>?_
 have:=q (j - i - 1) i (by omega)
 rw [show i+(j - i - 1)+1=j by omega,rd28_get hi,rd28_get hj] at this
 exact this
theorem pw_adj {F:List S28} (h:F.Pairwise (fun x y=>x.f0 < y.f0)) {s:Nat} (h0:0 < s) (hs:s < F.length):(rd_T28 F ((s - 1:Nat):Int)).f0 < (rd_T28 F (s:Int)).f0:=by
 rw [rd28_get (by omega),rd28_get hs]
 exact List.pairwise_iff_getElem.1 h _ _ (by omega) hs (by omega)
theorem pages_evp {F:List S28} (hs:Sz F) (root:Int) (p:S28) (p0:0≤p.f2) (p1:p.f2 < 256):∀ d (i:Nat),F.length - i=d→i≤F.length→(∀ s,s < i→CheckP (pg (rd_T28 F (s:Int)))∧(0 < s→(rd_T28 F ((s - 1:Nat):Int)).f0 < (rd_T28 F (s:Int)).f0))→
  EvI (fun k=>lockkeeperref14_Check.l0 k F root (i:Int) p.f0 p.f1 p.f2 p.f3 p.f4 p.f5 p.f6 p.f7.f0 p.f7.f1 p.f8) ((∀ s,i≤s→s < F.length→pageOk F root p.f2 s)∧(∀ m:Nat,(m:Int)≤p.f2→∃ l,Row F m l)∧KidsFrom F 0):=by
 intro d;induction d with
 |zero=>
  intro i h1 h2 h3
  have hc:∀ x∈F,CheckP (pg x):=fun x hx=>by
   obtain ⟨s,hs,rfl⟩:=mem_rd28 hx
   exact (h3 s (by omega)).1
  refine EvI.iff (EvP.succ (rows_evp hs hc (adj_pw fun s h0 hl=>(h3 s (by omega)).2 h0) p p0 p1 _ 0 rfl (Nat.zero_le _)) (fun k=>by simp only [lockkeeperref14_Check.l0];rw [if_neg (by omega)];rfl)) ?_
  exact ⟨fun h=>⟨fun s h4 h5=>by omega,fun m hm=>h.1 m (Nat.zero_le _) hm,h.2⟩,fun h=>⟨fun m _ hm=>h.2.1 m hm,h.2.2⟩⟩
 |succ d ih=>
  intro i h1 h2 h3
  have hF:=hs.len
  have hok:=hs.ok _ (rd28_mem (show i < F.length by omega))
  have tail:CheckP (pg (rd_T28 F (i:Int)))→(0 < i→(rd_T28 F ((i - 1:Nat):Int)).f0 < (rd_T28 F (i:Int)).f0)→EvI (fun k=>if (rd_T28 F (i:Int)).f2 > p.f2 then some 140 else (if (rd_T28 F (i:Int)).f2=p.f2 then (if (rd_T28 F (i:Int)).f0=root then lockkeeperref14_Check.l0 k F root ((i+1:Nat):Int) p.f0 p.f1 p.f2 p.f3 p.f4 p.f5 p.f6 p.f7.f0 p.f7.f1 p.f8 else some 140) else lockkeeperref14_Check.l0 k F root ((i+1:Nat):Int) p.f0 p.f1 p.f2 p.f3 p.f4 p.f5 p.f6 p.f7.f0 p.f7.f1 p.f8)) ((∀ s,i≤s→s < F.length→pageOk F root p.f2 s)∧(∀ m:Nat,(m:Int)≤p.f2→∃ l,Row F m l)∧KidsFrom F 0):=fun hc ha=>by
   have go:(rd_T28 F (i:Int)).f2≤p.f2→((rd_T28 F (i:Int)).f2=p.f2→(rd_T28 F (i:Int)).f0=root)→EvI (fun k=>lockkeeperref14_Check.l0 k F root ((i+1:Nat):Int) p.f0 p.f1 p.f2 p.f3 p.f4 p.f5 p.f6 p.f7.f0 p.f7.f1 p.f8) ((∀ s,i≤s→s < F.length→pageOk F root p.f2 s)∧(∀ m:Nat,(m:Int)≤p.f2→∃ l,Row F m l)∧KidsFrom F 0):=fun e1 e2=>by
    refine EvI.iff (ih (i+1) (by omega) (by omega) fun s hs'=>?_) (and_congr_left fun _=>⟨fun h s h4 h5=>?_,fun h s h4 h5=>h s (by omega) h5⟩)
    ·by_cases q:s=i
     ·rw [q];exact ⟨hc,ha⟩
     ·exact h3 s (by omega)
    ·by_cases q:s=i
     ·rw [q];exact ⟨hc,ha,e1,e2⟩
     ·exact h s (by omega) h5
   refine EvP.ite (fun e=>EvI.no fun h=>?_) (fun e=>EvP.ite (fun e1=>EvP.ite (fun e2=>go (by omega) (fun _=>e2)) (fun e2=>EvI.no fun h=>?_)) (fun e1=>go (by omega) (fun q=>absurd q e1)))
   ·have:=(h.1 i (Nat.le_refl _) (by omega)).2.2.1;omega
   ·exact e2 ((h.1 i (Nat.le_refl _) (by omega)).2.2.2 e1)
  refine EvP.succ (g:=fun k=>(lockkeeperref11_Check.f k (pg (rd_T28 F (i:Int))).id (pg (rd_T28 F (i:Int))).right (pg (rd_T28 F (i:Int))).level (pg (rd_T28 F (i:Int))).low (pg (rd_T28 F (i:Int))).high (pg (rd_T28 F (i:Int))).fin (pg (rd_T28 F (i:Int))).dsn (pg (rd_T28 F (i:Int))).slow (pg (rd_T28 F (i:Int))).sin (pg (rd_T28 F (i:Int))).cells).bind fun t=>if t=0 then (if (i:Int) > 0 then (if 0≤wrap64 ((i:Int) - 1) then (if wrap64 ((i:Int) - 1) < (F.length:Int) then (if (rd_T28 F (wrap64 ((i:Int) - 1))).f0≥(rd_T28 F (i:Int)).f0 then some 140 else (if (rd_T28 F (i:Int)).f2 > p.f2 then some 140 else (if (rd_T28 F (i:Int)).f2=p.f2 then (if (rd_T28 F (i:Int)).f0=root then lockkeeperref14_Check.l0 k F root ((i+1:Nat):Int) p.f0 p.f1 p.f2 p.f3 p.f4 p.f5 p.f6 p.f7.f0 p.f7.f1 p.f8 else some 140) else lockkeeperref14_Check.l0 k F root ((i+1:Nat):Int) p.f0 p.f1 p.f2 p.f3 p.f4 p.f5 p.f6 p.f7.f0 p.f7.f1 p.f8))) else none) else none) else (if (rd_T28 F (i:Int)).f2 > p.f2 then some 140 else (if (rd_T28 F (i:Int)).f2=p.f2 then (if (rd_T28 F (i:Int)).f0=root then lockkeeperref14_Check.l0 k F root ((i+1:Nat):Int) p.f0 p.f1 p.f2 p.f3 p.f4 p.f5 p.f6 p.f7.f0 p.f7.f1 p.f8 else some 140) else lockkeeperref14_Check.l0 k F root ((i+1:Nat):Int) p.f0 p.f1 p.f2 p.f3 p.f4 p.f5 p.f6 p.f7.f0 p.f7.f1 p.f8))) else some 140) ?_ (fun k=>by simp only [lockkeeperref14_Check.l0];rw [if_pos (by omega),if_pos (by omega),w1 (by omega)];rfl)
  refine (rcheck_ev _ hok).to.bind fun t ht=>?_
  subst ht
  refine EvP.ite (fun e=>?_) (fun e=>EvI.no fun h=>e (chk0.2 (h.1 i (Nat.le_refl _) (by omega)).1))
  have hc:=chk0.1 e
  refine EvP.ite (fun e1=>?_) (fun e1=>tail hc (fun q=>by omega))
  have ew:wrap64 ((i:Int) - 1)=((i - 1:Nat):Int):=by unfold wrap64;omega
  rw [ew]
  refine EvP.congr (g:=fun k=>if (rd_T28 F ((i - 1:Nat):Int)).f0≥(rd_T28 F (i:Int)).f0 then some 140 else (if (rd_T28 F (i:Int)).f2 > p.f2 then some 140 else (if (rd_T28 F (i:Int)).f2=p.f2 then (if (rd_T28 F (i:Int)).f0=root then lockkeeperref14_Check.l0 k F root ((i+1:Nat):Int) p.f0 p.f1 p.f2 p.f3 p.f4 p.f5 p.f6 p.f7.f0 p.f7.f1 p.f8 else some 140) else lockkeeperref14_Check.l0 k F root ((i+1:Nat):Int) p.f0 p.f1 p.f2 p.f3 p.f4 p.f5 p.f6 p.f7.f0 p.f7.f1 p.f8))) ?_ (fun k=>(if_pos (by omega)).trans (if_pos (by omega)))
  refine EvP.ite (fun e2=>EvI.no fun h=>?_) (fun e2=>tail hc (fun _=>by omega))
  have:=(h.1 i (Nat.le_refl _) (by omega)).2.1 (by omega)
  omega
/-- The document's Check of a forest. -/
theorem fcheck_evp {F:List S28} (hs:Sz F) (root:Int):EvI (fun k=>lockkeeperref14_Check.f k F root) (∃ t,t.f0=root∧Fo F t):=by
 unfold lockkeeperref14_Check.f
 refine EvP.bind (at_evp F hs.len root) fun r hr=>?_
 rcases hr with ⟨t,ht,et,rfl⟩|⟨hno,rfl⟩
 ·have hok:=hs.ok t ht
  have t0:0≤t.f2:=hok.level0
  refine EvP.congr (g:=fun k=>lockkeeperref14_Check.l0 k F root ((0:Nat):Int) t.f0 t.f1 t.f2 t.f3 t.f4 t.f5 t.f6 t.f7.f0 t.f7.f1 t.f8) (EvI.iff (pages_evp hs root t t0 hok.level1 _ 0 rfl (Nat.zero_le _) (fun s h=>by omega)) ?_) (fun k=>if_pos rfl)
  constructor
  ·rintro ⟨h1,h2,h3⟩
   have hids:=adj_pw fun s h0 hl=>(h1 s (Nat.zero_le _) hl).2.1 h0
   refine ⟨t,et,⟨ht,fun x hx=>?_,hids,fun x hx=>?_,fun n n0 n1=>?_,fun x hx hp c hc=>?_⟩⟩
   ·obtain ⟨s,hl,rfl⟩:=mem_rd28 hx
    exact (h1 s (Nat.zero_le _) hl).1
   ·obtain ⟨s,hl,rfl⟩:=mem_rd28 hx
    rw [et]
    exact (h1 s (Nat.zero_le _) hl).2.2
   ·obtain ⟨l,hl⟩:=h2 n.toNat (by omega)
    rw [Int.toNat_of_nonneg n0] at hl
    exact ⟨l,hl⟩
   ·obtain ⟨s,hl,rfl⟩:=mem_rd28 hx
    exact h3 s (Nat.zero_le _) hl hp c hc
  ·rintro ⟨t',et',h⟩
   obtain rfl:t'=t:=ids_inj h.ids h.mem ht (et'.trans et.symm)
   refine ⟨fun s _ hl=>⟨h.chk _ (rd28_mem hl),fun h0=>pw_adj h.ids h0 hl,?_⟩,fun m hm=>h.row m (by omega) hm,fun s _ hl hp c hc=>h.kids _ (rd28_mem hl) hp c hc⟩
   have:=h.top _ (rd28_mem hl)
   rw [← et];exact this
 ·refine EvP.congr (g:=fun _=>some (140:Int)) (EvI.no fun h=>?_) (fun k=>if_neg (by simp [tup]))
  obtain ⟨t,et,h⟩:=h
  exact hno t h.mem et
theorem fcheck_ev {F:List S28} {t:S28} (hs:Sz F) (h:Fo F t):Ev (fun k=>lockkeeperref14_Check.f k F t.f0) 0:=(EvP.mono (fcheck_evp hs t.f0) fun r hr=>hr.2 ⟨t,rfl,h⟩).ev
end Go.Proofs.YtmfaopjfdedheaaGreat.Fq
