/- What the document's forest functions tell: Put, Drop, Small, Posted, Unposted, Cells. -/
import Derived.Test.YtmfaopjfdedheaaGreatFqh
import Derived.Test.YtmfaopjfdedheaaGreatFx17
import Derived.Test.YtmfaopjfdedheaaGreatFx18
namespace Go.Proofs.YtmfaopjfdedheaaGreat.Fq
open Go.RowKit Go.Proofs.YtmfaopjfdedheaaGreat.F Go.Proofs.YtmfaopjfdedheaaGreatW.PrintWords Go.Proofs.YtmfaopjfdedheaaGreatW.PrintLast Go.Proofs.YtmfaopjfdedheaaGreatW.PrintMore
set_option linter.unusedVariables false
set_option linter.unusedSimpArgs false

/-! ### Put, Drop -/
theorem put_l1 (F:List S28) (hF:F.length≤40) (q:S28):∀ d (i:Nat) (out:List S28),F.length - i=d→i≤F.length→out.length≤41+i→Ev (fun k=>lockkeeperref14_Put.l1 k F out (i:Int) q.f0 q.f1 q.f2 q.f3 q.f4 q.f5 q.f6 q.f7.f0 q.f7.f1 q.f8) (out++(F.drop i).filter (fun x=>decide (x.f0 > q.f0))):=by
 intro d;induction d with
 |zero=>
  intro i out h1 h2 h3
  rw [List.drop_eq_nil_of_le (by omega),List.filter_nil,List.append_nil]
  exact (Ev.const out).succ (fun k=>by simp only [lockkeeperref14_Put.l1];rw [if_neg (by omega)])
 |succ d ih=>
  intro i out h1 h2 h3
  rw [drop28 (by omega),List.filter_cons]
  refine Ev.succ (g:=fun k=>if (rd_T28 F (i:Int)).f0 > q.f0 then lockkeeperref14_Put.l1 k F (out++[rd_T28 F (i:Int)]) ((i+1:Nat):Int) q.f0 q.f1 q.f2 q.f3 q.f4 q.f5 q.f6 q.f7.f0 q.f7.f1 q.f8 else lockkeeperref14_Put.l1 k F out ((i+1:Nat):Int) q.f0 q.f1 q.f2 q.f3 q.f4 q.f5 q.f6 q.f7.f0 q.f7.f1 q.f8) ?_ (fun k=>by simp only [lockkeeperref14_Put.l1];rw [if_pos (by omega),if_pos (by omega),if_pos (show out.length < 1099511627776 by omega),w1 (by omega)] <;> rfl)
  by_cases e:(rd_T28 F (i:Int)).f0 > q.f0
  ·rw [if_pos (decide_eq_true e)]
   have:=ih (i+1) (out++[rd_T28 F (i:Int)]) (by omega) (by omega) (by rw [List.length_append,List.length_singleton];omega)
   rw [List.append_assoc] at this
   exact this.congr fun k=>if_pos e
  ·rw [if_neg (by simpa using e)]
   exact (ih (i+1) out (by omega) (by omega) (by omega)).congr fun k=>if_neg e
theorem put_l0 (F:List S28) (hF:F.length≤40) (q:S28):∀ d (i:Nat) (out:List S28),F.length - i=d→i≤F.length→out.length≤i→Ev (fun k=>lockkeeperref14_Put.l0 k F out (i:Int) q.f0 q.f1 q.f2 q.f3 q.f4 q.f5 q.f6 q.f7.f0 q.f7.f1 q.f8) (out++(F.drop i).filter (fun x=>decide (x.f0 < q.f0))++q::F.filter (fun x=>decide (x.f0 > q.f0))):=by
 intro d;induction d with
 |zero=>
  intro i out h1 h2 h3
  rw [List.drop_eq_nil_of_le (by omega),List.filter_nil,List.append_nil]
  have:=put_l1 F hF q _ 0 (out++[q]) rfl (Nat.zero_le _) (by rw [List.length_append,List.length_singleton];omega)
  rw [List.drop_zero,List.append_assoc] at this
  exact this.succ (fun k=>by simp only [lockkeeperref14_Put.l0];rw [if_neg (by omega),if_pos (by omega)];rfl)
 |succ d ih=>
  intro i out h1 h2 h3
  rw [drop28 (by omega),List.filter_cons]
  refine Ev.succ (g:=fun k=>if (rd_T28 F (i:Int)).f0 < q.f0 then lockkeeperref14_Put.l0 k F (out++[rd_T28 F (i:Int)]) ((i+1:Nat):Int) q.f0 q.f1 q.f2 q.f3 q.f4 q.f5 q.f6 q.f7.f0 q.f7.f1 q.f8 else lockkeeperref14_Put.l0 k F out ((i+1:Nat):Int) q.f0 q.f1 q.f2 q.f3 q.f4 q.f5 q.f6 q.f7.f0 q.f7.f1 q.f8) ?_ (fun k=>by simp only [lockkeeperref14_Put.l0];rw [if_pos (by omega),if_pos (by omega),if_pos (show out.length < 1099511627776 by omega),w1 (by omega)] <;> rfl)
  by_cases e:(rd_T28 F (i:Int)).f0 < q.f0
  ·rw [if_pos (decide_eq_true e)]
   have:=ih (i+1) (out++[rd_T28 F (i:Int)]) (by omega) (by omega) (by rw [List.length_append,List.length_singleton];omega)
   rw [List.append_assoc out] at this
   exact this.congr fun k=>if_pos e
  ·rw [if_neg (by simpa using e)]
   exact (ih (i+1) out (by omega) (by omega) (by omega)).congr fun k=>if_neg e
theorem put_ev {F:List S28} (hF:F.length≤40) (hids:F.Pairwise (fun x y=>x.f0 < y.f0)) {u q:S28} (hu:u∈F) (e:q.f0=u.f0):Ev (fun k=>lockkeeperref14_Put.f k F q.f0 q.f1 q.f2 q.f3 q.f4 q.f5 q.f6 q.f7.f0 q.f7.f1 q.f8) (F.map (rep q)):=by
 have:=put_l0 F hF q _ 0 [] rfl (Nat.zero_le _) (Nat.zero_le _)
 rw [List.drop_zero,List.nil_append] at this
 have e2:F.filter (fun x=>decide (x.f0 < q.f0))++q::F.filter (fun x=>decide (x.f0 > q.f0))=F.map (rep q):=by
  obtain ⟨s,r,rfl⟩:=List.append_of_mem hu
  obtain ⟨_,h2,h3⟩:=List.pairwise_append.1 hids
  have h4:=(List.pairwise_cons.1 h2).1
  have hs:∀ x∈s,x.f0 < q.f0:=fun x hx=>by rw [e];exact h3 x hx u List.mem_cons_self
  have hr:∀ x∈r,q.f0 < x.f0:=fun x hx=>by rw [e];exact h4 x hx
  rw [List.filter_append,List.filter_append,List.filter_cons,List.filter_cons,if_neg (by simp;omega),if_neg (by simp;omega)]
  rw [List.filter_eq_self.2 (fun x hx=>decide_eq_true (hs x hx)),List.filter_eq_nil_iff.2 (fun x hx=>by have:=hr x hx;simp;omega),List.filter_eq_nil_iff.2 (fun x hx=>by have:=hs x hx;simp;omega),List.filter_eq_self.2 (fun x hx=>decide_eq_true (hr x hx))]
  rw [List.append_nil,List.nil_append,List.map_append,List.map_cons,rep_id q (fun x hx=>by have:=hs x hx;omega),rep_id q (fun x hx=>by have:=hr x hx;omega),show rep q u=q from if_pos e.symm]
 rw [e2] at this
 exact this
theorem drop_ev (F:List S28) (hF:F.length≤40) (id:Int):Ev (fun k=>lockkeeperref14_Drop.f k F id) (F.filter (fun x=>x.f0 != id)):=by
 have h:∀ d (i:Nat) (out:List S28),F.length - i=d→i≤F.length→out.length≤i→Ev (fun k=>lockkeeperref14_Drop.l0 k F id out (i:Int)) (out++(F.drop i).filter (fun x=>x.f0 != id)):=by
  intro d;induction d with
  |zero=>
   intro i out h1 h2 h3
   rw [List.drop_eq_nil_of_le (by omega),List.filter_nil,List.append_nil]
   exact (Ev.const out).succ (fun k=>by simp only [lockkeeperref14_Drop.l0];rw [if_neg (by omega)])
  |succ d ih=>
   intro i out h1 h2 h3
   rw [drop28 (by omega),List.filter_cons]
   refine Ev.succ (g:=fun k=>if (rd_T28 F (i:Int)).f0=id then lockkeeperref14_Drop.l0 k F id out ((i+1:Nat):Int) else lockkeeperref14_Drop.l0 k F id (out++[rd_T28 F (i:Int)]) ((i+1:Nat):Int)) ?_ (fun k=>by simp only [lockkeeperref14_Drop.l0];rw [if_pos (by omega),if_pos (by omega),if_pos (show out.length < 1099511627776 by omega),w1 (by omega)] <;> rfl)
   by_cases e:(rd_T28 F (i:Int)).f0=id
   ·rw [if_neg (by simpa using e)]
    exact (ih (i+1) out (by omega) (by omega) (by omega)).congr fun k=>if_pos e
   ·rw [if_pos (bne_iff_ne.2 e)]
    have:=ih (i+1) (out++[rd_T28 F (i:Int)]) (by omega) (by omega) (by rw [List.length_append,List.length_singleton];omega)
    rw [List.append_assoc] at this
    exact this.congr fun k=>if_neg e
 have:=h _ 0 [] rfl (Nat.zero_le _) (Nat.zero_le _)
 rw [List.drop_zero,List.nil_append] at this
 exact this
/-! ### Small -/
theorem fsmall_evp (F:List S28) (hF:F.length < 4611686018427387904) (hc:∀ x∈F,x.f8.length < 4611686018427387904):EvP (fun k=>lockkeeperref14_Small.f k F) (fun r=>r=true→F.length≤40∧∀ x∈F,x.f8.length≤60∧x.f7.f1.length≤1100):=by
 have fin:∀ i:Nat,(∀ s,s < i→s < F.length→(rd_T28 F (s:Int)).f8.length≤60∧(rd_T28 F (s:Int)).f7.f1.length≤1100)→(i < F.length→40≤i)→EvP (fun k=>lockkeeperref14_Small.j1 k F (i:Int) false) (fun r=>r=true→F.length≤40∧∀ x∈F,x.f8.length≤60∧x.f7.f1.length≤1100):=fun i h hi=>
  EvP.succ (g:=fun _=>some (decide ((F.length:Int)≤40))) (EvP.const fun q=>by
   have q':=of_decide_eq_true q
   refine ⟨by omega,fun x hx=>?_⟩
   obtain ⟨s,hs,rfl⟩:=mem_rd28 hx
   refine h s ?_ hs
   by_cases hl:i < F.length
   ·have:=hi hl;omega
   ·omega) (fun k=>by simp only [lockkeeperref14_Small.j1];rw [if_neg (by simp)])
 have h:∀ d (i:Nat),40 - i=d→i≤40→(∀ s,s < i→s < F.length→(rd_T28 F (s:Int)).f8.length≤60∧(rd_T28 F (s:Int)).f7.f1.length≤1100)→EvP (fun k=>lockkeeperref14_Small.l0 k F (i:Int)) (fun r=>r=true→F.length≤40∧∀ x∈F,x.f8.length≤60∧x.f7.f1.length≤1100):=by
  intro d;induction d with
  |zero=>
   intro i h1 h2 h3
   obtain rfl:i=40:=by omega
   refine EvP.succ (fin 40 h3 (fun _=>Nat.le_refl _)) (fun k=>?_)
   simp only [lockkeeperref14_Small.l0]
   split
   ·rfl
   ·rfl
  |succ d ih=>
   intro i h1 h2 h3
   by_cases hl:i < F.length
   ·refine EvP.succ (g:=fun k=>lockkeeperref14_Small.j1 k F (i:Int) true) ?_ (fun k=>by simp only [lockkeeperref14_Small.l0];rw [if_pos (by omega),decide_eq_true (by omega)])
    refine EvP.succ (g:=fun k=>(lockkeeperref11_Small.f k (pg (rd_T28 F (i:Int))).id (pg (rd_T28 F (i:Int))).right (pg (rd_T28 F (i:Int))).level (pg (rd_T28 F (i:Int))).low (pg (rd_T28 F (i:Int))).high (pg (rd_T28 F (i:Int))).fin (pg (rd_T28 F (i:Int))).dsn (pg (rd_T28 F (i:Int))).slow (pg (rd_T28 F (i:Int))).sin (pg (rd_T28 F (i:Int))).cells).bind fun t=>if t=true then lockkeeperref14_Small.l0 k F ((i+1:Nat):Int) else some false) ?_ (fun k=>by simp only [lockkeeperref14_Small.j1];rw [if_pos trivial,if_pos (by omega),if_pos (by omega),w1 (by omega)];rfl)
    refine (small_ev (pg (rd_T28 F (i:Int))) (hc _ (rd28_mem hl))).bind fun t ht=>EvP.ite (fun e=>ih (i+1) (by omega) (by omega) fun s hs hs'=>?_) (fun e=>EvP.const fun q=>by cases q)
    by_cases q:s=i
    ·rw [q];exact ht e
    ·exact h3 s (by omega) hs'
   ·exact EvP.succ (fin i h3 (fun q=>absurd q hl)) (fun k=>by simp only [lockkeeperref14_Small.l0];rw [if_neg (by omega)])
 exact h 40 0 rfl (Nat.zero_le _) (fun s hs=>by omega)
/-! ### Posted, Unposted, Cells -/
theorem posted_b {F:List S28} (hs:Sz F) (id:Int):EvB (fun k=>lockkeeperref14_Posted.f k F id) (posted F id):=by
 have h:∀ d (i:Nat),F.length - i=d→i≤F.length→EvB (fun k=>lockkeeperref14_Posted.l0 k F id (i:Int)) (∃ s:Nat,i≤s∧s < F.length∧0 < (rd_T28 F (s:Int)).f2∧∃ c∈(rd_T28 F (s:Int)).f8,(idv c.f1).1=id):=by
  intro d;induction d with
  |zero=>
   intro i h1 h2
   exact EvP.succ (g:=fun _=>some false) (EvP.const ⟨fun q=>(by cases q),fun ⟨s,h3,h4,_⟩=>by omega⟩) (fun k=>by simp only [lockkeeperref14_Posted.l0];rw [if_neg (by omega)])
  |succ d ih=>
   intro i h1 h2
   have hF:=hs.len
   have hok:=hs.ok _ (rd28_mem (show i < F.length by omega))
   have hcl:(rd_T28 F (i:Int)).f8.length < 4398046511104:=hok.len
   have off:∀ j:Nat,(0 < (rd_T28 F (i:Int)).f2→∀ c∈(rd_T28 F (i:Int)).f8,(idv c.f1).1≠id)→EvB (fun k=>lockkeeperref14_Posted.j2 k F id (i:Int) (j:Int) false) (∃ s:Nat,i≤s∧s < F.length∧0 < (rd_T28 F (s:Int)).f2∧∃ c∈(rd_T28 F (s:Int)).f8,(idv c.f1).1=id):=fun j hno=>
    EvP.succ ((ih (i+1) (by omega) (by omega)).mono fun b hb=>hb.trans ⟨fun ⟨s,h3,h4⟩=>⟨s,by omega,h4⟩,fun ⟨s,h3,h4,h5,c,hc,h6⟩=>by
     by_cases q:s=i
     ·subst q;exact absurd h6 (hno h5 c hc)
     ·exact ⟨s,by omega,h4,h5,c,hc,h6⟩⟩) (fun k=>by simp only [lockkeeperref14_Posted.j2];rw [if_neg (by simp),w1 (by omega)])
   have inn:∀ e (j:Nat),(rd_T28 F (i:Int)).f8.length - j=e→j≤(rd_T28 F (i:Int)).f8.length→(0 < (rd_T28 F (i:Int)).f2→∀ s:Nat,s < j→(idv (rd_T42 (rd_T28 F (i:Int)).f8 (s:Int)).f1).1≠id)→EvB (fun k=>lockkeeperref14_Posted.l1 k F id (i:Int) (j:Int)) (∃ s:Nat,i≤s∧s < F.length∧0 < (rd_T28 F (s:Int)).f2∧∃ c∈(rd_T28 F (s:Int)).f8,(idv c.f1).1=id):=by
    intro e;induction e with
    |zero=>
     intro j h3 h4 h5
     refine EvP.succ (off j fun hp c hc=>?_) (fun k=>by simp only [lockkeeperref14_Posted.l1];rw [if_pos (by omega),if_pos (by omega),if_neg (by omega)])
     obtain ⟨s,hs',rfl⟩:=mem_rd hc
     exact h5 hp s (by omega)
    |succ e ih2=>
     intro j h3 h4 h5
     refine EvP.succ (g:=fun k=>lockkeeperref14_Posted.j2 k F id (i:Int) (j:Int) (decide ((rd_T28 F (i:Int)).f2 > 0))) ?_ (fun k=>by simp only [lockkeeperref14_Posted.l1];rw [if_pos (by omega),if_pos (by omega),if_pos (by omega)])
     by_cases hp:(rd_T28 F (i:Int)).f2 > 0
     ·rw [decide_eq_true hp]
      refine EvP.succ (g:=fun k=>(lockkeeperref11_Id.f k (rd_T42 (rd_T28 F (i:Int)).f8 (j:Int)).f1).bind fun bt=>if bt.1=id then some true else lockkeeperref14_Posted.l1 k F id (i:Int) ((j+1:Nat):Int)) ?_ (fun k=>by simp only [lockkeeperref14_Posted.j2];rw [if_pos trivial,if_pos (by omega),if_pos (by omega),if_pos (by omega),if_pos (by omega),w1 (by omega)])
      refine (rid_ev _).to.bind fun t ht=>?_
      subst ht
      refine EvP.ite (fun e1=>EvP.const ⟨fun _=>⟨i,Nat.le_refl _,by omega,hp,_,rd_mem (by omega),e1⟩,fun _=>rfl⟩) (fun e1=>ih2 (j+1) (by omega) (by omega) fun hp' s hs'=>?_)
      by_cases q:s=j
      ·rw [q];exact e1
      ·exact h5 hp' s (by omega)
     ·rw [decide_eq_false hp]
      exact off j fun q=>absurd q hp
   exact EvP.succ (inn _ 0 rfl (Nat.zero_le _) (fun _ s hs'=>by omega)) (fun k=>by simp only [lockkeeperref14_Posted.l0];rw [if_pos (by omega)];rfl)
 refine (h _ 0 rfl (Nat.zero_le _)).mono fun b hb=>hb.trans ⟨fun ⟨s,_,h2,h3,h4⟩=>⟨_,rd28_mem h2,h3,h4⟩,fun ⟨x,hx,h3,h4⟩=>?_⟩
 obtain ⟨s,hs',rfl⟩:=mem_rd28 hx
 exact ⟨s,Nat.zero_le _,hs',h3,h4⟩
theorem unposted_evp {F:List S28} {t:S28} (hs:Sz F) (h:Fo F t):EvP (fun k=>lockkeeperref14_Unposted.f k F t.f0) (fun r=>r.length=F.countP (unp F t.f0)):=by
 have hl:∀ d (i:Nat) (out:List Int),F.length - i=d→i≤F.length→out.length≤i→EvP (fun k=>lockkeeperref14_Unposted.l0 k F t.f0 out (i:Int)) (fun r=>r.length=out.length+(F.drop i).countP (unp F t.f0)):=by
  intro d;induction d with
  |zero=>
   intro i out h1 h2 h3
   refine EvP.succ (g:=fun _=>some out) (EvP.const ?_) (fun k=>by simp only [lockkeeperref14_Unposted.l0];rw [if_neg (by omega)])
   rw [List.drop_eq_nil_of_le (by omega)];rfl
  |succ d ih=>
   intro i out h1 h2 h3
   have hF:=hs.len
   rw [drop28 (by omega)]
   refine EvP.succ (g:=fun k=>if (rd_T28 F (i:Int)).f0=t.f0 then lockkeeperref14_Unposted.l0 k F t.f0 out ((i+1:Nat):Int) else ((lockkeeperref14_Posted.f k F (rd_T28 F (i:Int)).f0).bind fun b=>if b=true then lockkeeperref14_Unposted.l0 k F t.f0 out ((i+1:Nat):Int) else lockkeeperref14_Unposted.l0 k F t.f0 (out++[(rd_T28 F (i:Int)).f0]) ((i+1:Nat):Int))) ?_ (fun k=>by simp only [lockkeeperref14_Unposted.l0];rw [if_pos (by omega),if_pos (by omega),if_pos (show out.length < 17592186044416 by omega),w1 (by omega)])
   have no:¬ unp F t.f0 (rd_T28 F (i:Int))=true→EvP (fun k=>lockkeeperref14_Unposted.l0 k F t.f0 out ((i+1:Nat):Int)) (fun r=>r.length=out.length+(rd_T28 F (i:Int)::F.drop (i+1)).countP (unp F t.f0)):=fun e=>by
    rw [List.countP_cons,if_neg e]
    exact ih (i+1) out (by omega) (by omega) (by omega)
   refine EvP.ite (fun e=>no fun q=>?_) (fun e=>(posted_b hs _).bind fun b hb=>EvP.ite (fun e1=>no fun q=>?_) (fun e1=>?_))
   ·exact (unp_iff.1 q).1 e
   ·exact (unp_iff.1 q).2 (hb.1 e1)
   ·have q:unp F t.f0 (rd_T28 F (i:Int))=true:=unp_iff.2 ⟨e,fun q=>e1 (hb.2 q)⟩
    rw [List.countP_cons,if_pos q]
    refine (ih (i+1) (out++[(rd_T28 F (i:Int)).f0]) (by omega) (by omega) (by rw [List.length_append,List.length_singleton];omega)).mono fun r hr=>?_
    rw [hr,List.length_append,List.length_singleton];omega
 unfold lockkeeperref14_Unposted.f
 refine (fcheck_ev hs h).to.bind fun r hr=>?_
 subst hr
 refine EvP.congr (g:=fun k=>lockkeeperref14_Unposted.l0 k F t.f0 [] ((0:Nat):Int)) ((hl _ 0 [] rfl (Nat.zero_le _) (Nat.zero_le _)).mono fun r hr=>?_) (fun k=>if_pos rfl)
 rw [hr,List.drop_zero];simp
theorem cells_ev {F:List S28} {t:S28} (hs:Sz F) (h:Fo F t) (few:∀ x∈F,x.f8.length≤120) {l:List S28} (hl:Row F 0 l):Ev (fun k=>lockkeeperref14_Cells.f k F t.f0) (l.flatMap (·.f8)):=by
 have hll:l.length≤40:=by
  have h1:=hl.2.length_eq
  have h2:=List.length_filter_le (fun x:S28=>x.f2==0) F
  have:=hs.len
  omega
 have hx:∀ d (i:Nat) (acc:List S42),l.length - i=d→i≤l.length→acc.length≤120 * i→Ev (fun k=>lockkeeperref14_Cells.l0 k acc l (i:Int)) (acc++(l.drop i).flatMap (·.f8)):=by
  intro d;induction d with
  |zero=>
   intro i acc h1 h2 h3
   rw [List.drop_eq_nil_of_le (by omega),List.flatMap_nil,List.append_nil]
   exact (Ev.const acc).succ (fun k=>by simp only [lockkeeperref14_Cells.l0];rw [if_neg (by omega)])
  |succ d ih=>
   intro i acc h1 h2 h3
   have hm:=few _ ((row_mem hl).1 (rd28_mem (show i < l.length by omega))).1
   rw [drop28 (by omega),List.flatMap_cons,← List.append_assoc]
   exact (ih (i+1) _ (by omega) (by omega) (by rw [List.length_append];omega)).succ (fun k=>by simp only [lockkeeperref14_Cells.l0];rw [if_pos (by omega),if_pos (by omega),if_pos (by omega),w1 (by omega)])
 unfold lockkeeperref14_Cells.f
 refine EvP.ev ((fcheck_ev hs h).to.bind fun r hr=>?_)
 subst hr
 refine EvP.congr (g:=fun k=>(lockkeeperref14_row.f k F 0).bind fun bt=>lockkeeperref14_Cells.l0 k [] bt.1 ((0:Nat):Int)) ?_ (fun k=>if_pos rfl)
 refine (row_evp hs.len h.chk h.ids 0).bind fun r hr=>?_
 rw [hr.2 l hl]
 have:=hx _ 0 [] rfl (Nat.zero_le _) (Nat.zero_le _)
 rw [List.drop_zero,List.nil_append] at this
 exact this.to
end Go.Proofs.YtmfaopjfdedheaaGreat.Fq
namespace Go.Proofs.YtmfaopjfdedheaaGreat.Fq
open Go.RowKit Go.Proofs.YtmfaopjfdedheaaGreat.F Go.Proofs.YtmfaopjfdedheaaGreatW.PrintWords Go.Proofs.YtmfaopjfdedheaaGreatW.PrintLast Go.Proofs.YtmfaopjfdedheaaGreatW.PrintMore
set_option linter.unusedVariables false
set_option linter.unusedSimpArgs false

/-- An index at which a cell's key isn't above. -/
def AtOk (l:List S42) (key:ByteArray) (r:Int):Prop:=∃ j:Nat,r=(j:Int)∧j < l.length∧¬ key.toList < (rd_T42 l (j:Int)).f0.toList
theorem at10_evp {l:List S42} (hr:RightP l) (hn:l.length≤120) (key:ByteArray) (h0:0 < l.length) (hk:¬ key.toList < (rd_T42 l 0).f0.toList):EvP (fun k=>lockkeeperref10_At.f k l key) (AtOk l key):=by
 have h:∀ d (i:Nat) (cur:Int),l.length - i=d→i≤l.length→(i=0∨AtOk l key cur)→EvP (fun k=>lockkeeperref10_At.l0 k l key cur (i:Int)) (AtOk l key):=by
  intro d;induction d with
  |zero=>
   intro i cur h1 h2 h3
   refine EvP.succ (g:=fun k=>lockkeeperref10_At.j1 k l key cur (i:Int) false) (EvP.succ (g:=fun _=>some cur) (EvP.const ?_) (fun k=>by simp only [lockkeeperref10_At.j1];rw [if_neg (by simp)])) (fun k=>by simp only [lockkeeperref10_At.l0];rw [if_neg (by omega)])
   rcases h3 with h3|h3
   ·omega
   ·exact h3
  |succ d ih=>
   intro i cur h1 h2 h3
   refine EvP.succ (g:=fun k=>(lockkeeperref10_Right.f k l).bind fun t=>lockkeeperref10_At.j1 k l key cur (i:Int) t) ?_ (fun k=>by simp only [lockkeeperref10_At.l0];rw [if_pos (by omega)])
   refine (crright_b l (by omega)).bind fun b hb=>?_
   rw [hb.2 hr]
   refine EvP.succ (g:=fun k=>if Op.bytesLess key.toList (rd_T42 l (i:Int)).f0.toList=true then lockkeeperref10_At.l0 k l key cur ((i+1:Nat):Int) else lockkeeperref10_At.l0 k l key (i:Int) ((i+1:Nat):Int)) ?_ (fun k=>by simp only [lockkeeperref10_At.j1];rw [if_pos trivial,if_pos (by omega),if_pos (by omega),w1 (by omega)])
   refine EvP.ite (fun e=>ih (i+1) cur (by omega) (by omega) (.inr ?_)) (fun e=>ih (i+1) i (by omega) (by omega) (.inr ⟨i,rfl,by omega,fun q=>e ((lss_iff _ _).2 q)⟩))
   rcases h3 with rfl|h3
   ·exact absurd ((lss_iff _ _).1 e) hk
   ·exact h3
 exact h _ 0 (-1) rfl (Nat.zero_le _) (.inl rfl)
/-- A child on the way to a key. -/
theorem child_evp {p:S28} (ho:(pg p).ok) (hc:CheckP (pg p)) (hp:0 < p.f2) (few:p.f8.length≤120) (key:ByteArray) (hk:has p key.toList):EvP (fun k=>lockkeeperref11_Child.f k p.f0 p.f1 p.f2 p.f3 p.f4 p.f5 p.f6 p.f7.f0 p.f7.f1 p.f8 key) (fun r=>∃ c∈p.f8,r.1=(idv c.f1).1∧¬ key.toList < c.f0.toList):=by
 have hi:=hc.inner hp
 have h1:0 < p.f8.length:=hi.2.2.1
 have h2:(rd_T42 p.f8 0).f0.toList=lo p:=hi.2.2.2
 have hj:EvP (fun k=>lockkeeperref11_Child.j0 k key false p.f0 p.f1 p.f2 p.f3 p.f4 p.f5 p.f6 p.f7.f0 p.f7.f1 p.f8) (fun r=>∃ c∈p.f8,r.1=(idv c.f1).1∧¬ key.toList < c.f0.toList):=by
  refine EvP.succ ?_ (fun k=>by simp only [lockkeeperref11_Child.j0];rw [if_neg (by simp)])
  refine (at10_evp hc.cells few key h1 (by show ¬ key.toList < (rd_T42 p.f8 0).f0.toList;rw [h2];exact hk.1)).bind fun r hr=>?_
  obtain ⟨j,rfl,hj,hkj⟩:=hr
  refine EvP.congr (g:=fun k=>(lockkeeperref11_Id.f k (rd_T42 p.f8 (j:Int)).f1).bind fun bt=>some (bt.1,bt.2)) ?_ (fun k=>(if_pos (by omega)).trans (if_pos (by have:(pg p).cells.length=p.f8.length:=rfl;omega)))
  exact (rid_ev _).to.bind fun t ht=>EvP.const ⟨_,rd_mem hj,by rw [ht],hkj⟩
 unfold lockkeeperref11_Child.f
 refine (rcheck_ev (pg p) ho).to.bind fun t ht=>?_
 rw [chk0.2 hc] at ht
 subst ht
 refine EvP.congr (g:=fun k=>(lockkeeperref11_Range.f p.f0 p.f1 p.f2 p.f3 p.f4 p.f5 p.f6 p.f7.f0 p.f7.f1 p.f8).bind fun bt394=>((lockkeeperref03_Has.f k bt394.1 bt394.2.1 bt394.2.2 key).bind fun t397=>(lockkeeperref11_Child.j0 k key (!t397) p.f0 p.f1 p.f2 p.f3 p.f4 p.f5 p.f6 p.f7.f0 p.f7.f1 p.f8))) ?_ (fun k=>(if_pos rfl).trans (if_neg (by omega)))
 unfold lockkeeperref11_Range.f
 refine EvP.congr (g:=fun k=>(lockkeeperref03_Has.f k p.f3 p.f4 p.f5 key).bind fun t397=>(lockkeeperref11_Child.j0 k key (!t397) p.f0 p.f1 p.f2 p.f3 p.f4 p.f5 p.f6 p.f7.f0 p.f7.f1 p.f8)) ?_ (fun k=>rfl)
 refine (rhas_ev p.f3 p.f4 p.f5 key).to.bind fun t ht=>?_
 rw [show (SpanR p.f3 p.f4 p.f5 && inside p.f3 p.f4 p.f5 key)=true by rw [Bool.and_eq_true];exact ⟨hc.span,inside_iff.2 ⟨hk.1,hk.2⟩⟩] at ht
 subst ht
 exact hj
/-- A step on the way to a key. -/
theorem step_evp {p:S28} (ho:(pg p).ok) (hc:CheckP (pg p)) (few:p.f8.length≤120) (key:ByteArray) (lv:Int) (l0:0≤lv) (hl:lv≤p.f2) (hk:¬ key.toList < lo p):EvP (fun k=>lockkeeperref14_Step.f k p.f0 p.f1 p.f2 p.f3 p.f4 p.f5 p.f6 p.f7.f0 p.f7.f1 p.f8 key lv)
  (fun r=>r.2.2=0∧((r.2.1=1∧r.1=p.f1∧p.f5=true∧¬ key.toList < hi p)∨(r.2.1=0∧p.f2=lv∧has p key.toList)∨(r.2.1=2∧lv < p.f2∧∃ c∈p.f8,r.1=(idv c.f1).1∧¬ key.toList < c.f0.toList))):=by
 have h1:∀ b:Bool,(b=true↔p.f5=true∧¬ key.toList < hi p)→EvP (fun k=>lockkeeperref14_Step.j1 k key lv b p.f0 p.f1 p.f2 p.f3 p.f4 p.f5 p.f6 p.f7.f0 p.f7.f1 p.f8) (fun r=>r.2.2=0∧((r.2.1=1∧r.1=p.f1∧p.f5=true∧¬ key.toList < hi p)∨(r.2.1=0∧p.f2=lv∧has p key.toList)∨(r.2.1=2∧lv < p.f2∧∃ c∈p.f8,r.1=(idv c.f1).1∧¬ key.toList < c.f0.toList))):=fun b hb=>by
  refine EvP.succ ?_ (fun k=>by simp only [lockkeeperref14_Step.j1];rfl)
  refine EvP.ite (fun e=>EvP.const ⟨rfl,.inl ⟨rfl,rfl,(hb.1 e).1,(hb.1 e).2⟩⟩) (fun e=>?_)
  have hh:has p key.toList:=⟨hk,fun hf=>Classical.byContradiction fun q=>e (hb.2 ⟨hf,q⟩)⟩
  refine EvP.ite (fun e1=>EvP.const ⟨rfl,.inr (.inl ⟨rfl,e1,hh⟩)⟩) (fun e1=>?_)
  exact (child_evp ho hc (by omega) few key hh).bind fun r hr=>EvP.const ⟨rfl,.inr (.inr ⟨rfl,by omega,hr⟩)⟩
 have h0:EvP (fun k=>lockkeeperref14_Step.j0 k key lv false p.f0 p.f1 p.f2 p.f3 p.f4 p.f5 p.f6 p.f7.f0 p.f7.f1 p.f8) (fun r=>r.2.2=0∧((r.2.1=1∧r.1=p.f1∧p.f5=true∧¬ key.toList < hi p)∨(r.2.1=0∧p.f2=lv∧has p key.toList)∨(r.2.1=2∧lv < p.f2∧∃ c∈p.f8,r.1=(idv c.f1).1∧¬ key.toList < c.f0.toList))):=by
  refine EvP.succ ?_ (fun k=>by simp only [lockkeeperref14_Step.j0];rw [if_neg (by simp)])
  refine EvP.ite (fun e=>h1 _ ?_) (fun e=>h1 _ ⟨fun q=>(by cases q),fun q=>absurd q.1 e⟩)
  rw [Bool.not_eq_true',← Bool.not_eq_true,lss_iff]
  exact ⟨fun q=>⟨e,q⟩,fun q=>q.2⟩
 unfold lockkeeperref14_Step.f
 refine (rcheck_ev (pg p) ho).to.bind fun t ht=>?_
 rw [chk0.2 hc] at ht
 subst ht
 refine EvP.congr (g:=fun k=>lockkeeperref14_Step.j0 k key lv (decide (p.f2 < lv)) p.f0 p.f1 p.f2 p.f3 p.f4 p.f5 p.f6 p.f7.f0 p.f7.f1 p.f8) ?_ (fun k=>(if_pos rfl).trans (if_neg (fun q=>hk ((lss_iff _ _).1 q))))
 rw [decide_eq_false (by omega)]
 exact h0
open Classical in
/-- How many pages stand behind one on any way. -/
noncomputable def behind (F:List S28) (p:S28):Nat:=F.countP (fun x=>decide (x.f2 < p.f2∨(x.f2=p.f2∧lo p < lo x)))
theorem cnt_lt {p q:S28→Bool}:∀ {l:List S28},(∀ x∈l,p x=true→q x=true)→(∃ x∈l,q x=true∧p x=false)→l.countP p < l.countP q
 |[],_,h=>nomatch h
 |z::l,hs,h=>by
  rw [List.countP_cons,List.countP_cons]
  have hle:l.countP p≤l.countP q:=List.countP_mono_left fun x hx=>hs x (List.mem_cons_of_mem _ hx)
  obtain ⟨x,hx,h1,h2⟩:=h
  rcases List.mem_cons.1 hx with rfl|hx'
  ·rw [h1,h2];simp only [if_true,Bool.false_eq_true,if_false];omega
  ·have:=cnt_lt (fun y hy=>hs y (List.mem_cons_of_mem _ hy)) ⟨x,hx',h1,h2⟩
   have hz:=hs z List.mem_cons_self
   cases hpz:p z
   ·simp only [Bool.false_eq_true,if_false];split <;> omega
   ·rw [hz hpz];simp only [if_true];omega
theorem behind_lt {F:List S28} {p r:S28} (hr:r∈F) (h:r.f2 < p.f2∨(r.f2=p.f2∧lo p < lo r)):behind F r < behind F p:=by
 unfold behind
 refine cnt_lt (fun x _ hx=>decide_eq_true ?_) ⟨r,hr,decide_eq_true h,decide_eq_false ?_⟩
 ·rcases of_decide_eq_true hx with q|⟨q1,q2⟩
  ·rcases h with h|⟨h1,h2⟩
   ·exact .inl (by omega)
   ·exact .inl (by omega)
  ·rcases h with h|⟨h1,h2⟩
   ·exact .inl (by omega)
   ·exact .inr ⟨by omega,lt_tr h2 q2⟩
 ·rintro (q|⟨_,q⟩)
  ·omega
  ·exact lt_irr q
theorem rd_last (l:List Int) (x:Int):rd (l++[x]) (l.length:Int)=x:=by
 unfold rd
 simp
theorem top_lo {F:List S28} {t:S28} (h:Fo F t) (h0:0≤t.f2):lo t=[]:=by
 obtain ⟨l,hl⟩:=h.row t.f2 h0 (Int.le_refl _)
 match l,hl with
 |[],hl=>exact absurd hl.1 (by simp [From])
 |x::l,hl=>
  have hx:=(row_mem hl).1 List.mem_cons_self
  obtain rfl:x=t:=ids_inj h.ids hx.1 h.mem ((h.top x hx.1).2 hx.2)
  exact hl.1.1
/-- The way to a key, down to a level. -/
theorem find_evp {F:List S28} {t:S28} (hs:Sz F) (h:Fo F t) (few:∀ x∈F,x.f8.length≤120) (key:ByteArray) (lv:Int) (l0:0≤lv) (hl:lv≤t.f2):EvP (fun k=>lockkeeperref14_Find.f k F t.f0 key lv) (fun r=>r.2=0∧∃ (pre:List Int) (u:S28),r.1=pre++[u.f0]∧pre.length≤40∧u∈F∧u.f2=lv∧has u key.toList):=by
 have hF:=hs.len
 have hw:∀ d (n:Nat) (pre:List Int) (p:S28),behind F p=d→n+behind F p≤F.length→pre.length=n→p∈F→lv≤p.f2→¬ key.toList < lo p→EvP (fun k=>lockkeeperref14_Find.l0 k F key lv (pre++[p.f0]) (n:Int)) (fun r=>r.2=0∧∃ (pre:List Int) (u:S28),r.1=pre++[u.f0]∧pre.length≤40∧u∈F∧u.f2=lv∧has u key.toList):=by
  intro d;induction d using Nat.strongRecOn with
  |_ d ih=>
   intro n pre p hd hn hpre hp hlv hk
   have el:(pre++[p.f0]).length=n+1:=by rw [List.length_append,List.length_singleton,hpre]
   have ew:wrap64 (((pre++[p.f0]).length:Int) - 1)=(n:Int):=by rw [el];unfold wrap64;omega
   refine EvP.succ (g:=fun k=>(lockkeeperref14_At.f k F p.f0).bind fun bt410=>(if bt410.2.2.2.2.2.2.2.2.2.2=true then ((lockkeeperref14_Step.f k bt410.1 bt410.2.1 bt410.2.2.1 bt410.2.2.2.1 bt410.2.2.2.2.1 bt410.2.2.2.2.2.1 bt410.2.2.2.2.2.2.1 bt410.2.2.2.2.2.2.2.1 bt410.2.2.2.2.2.2.2.2.1 bt410.2.2.2.2.2.2.2.2.2.1 key lv).bind fun bt426=>(if bt426.2.2=0 then (if bt426.2.1=0 then (some (pre++[p.f0],0)) else (lockkeeperref14_Find.l0 k F key lv ((pre++[p.f0])++[bt426.1]) ((n+1:Nat):Int))) else (some (([]:List Int),140)))) else (some (([]:List Int),140)))) ?_ (fun k=>by
    simp only [lockkeeperref14_Find.l0]
    rw [if_pos (by omega),ew,if_pos (by omega),if_pos (by omega)]
    simp only [if_pos (show (pre++[p.f0]).length < 17592186044416 by omega),w1 (show n < 4611686018427387904 by omega),show rd (pre++[p.f0]) (n:Int)=p.f0 by rw [← hpre];exact rd_last pre p.f0])
   refine (at_yes hF h.ids hp rfl).to.bind fun r hr=>?_
   subst hr
   refine EvP.congr (g:=fun k=>(lockkeeperref14_Step.f k p.f0 p.f1 p.f2 p.f3 p.f4 p.f5 p.f6 p.f7.f0 p.f7.f1 p.f8 key lv).bind fun bt426=>(if bt426.2.2=0 then (if bt426.2.1=0 then (some (pre++[p.f0],0)) else (lockkeeperref14_Find.l0 k F key lv ((pre++[p.f0])++[bt426.1]) ((n+1:Nat):Int))) else (some (([]:List Int),140)))) ?_ (fun k=>if_pos rfl)
   refine (step_evp (hs.ok p hp) (h.chk p hp) (few p hp) key lv l0 hlv hk).bind fun s hs'=>?_
   obtain ⟨h1,h2⟩:=hs'
   have on:∀ z:S28,z∈F→s.1=z.f0→lv≤z.f2→¬ key.toList < lo z→(z.f2 < p.f2∨(z.f2=p.f2∧lo p < lo z))→s.2.1≠0→EvP (fun k=>if s.2.2=0 then (if s.2.1=0 then (some (pre++[p.f0],0)) else (lockkeeperref14_Find.l0 k F key lv ((pre++[p.f0])++[s.1]) ((n+1:Nat):Int))) else (some (([]:List Int),140))) (fun r=>r.2=0∧∃ (pre:List Int) (u:S28),r.1=pre++[u.f0]∧pre.length≤40∧u∈F∧u.f2=lv∧has u key.toList):=fun z hz e1 e2 e3 e4 e5=>by
    have hb:=behind_lt hz e4
    refine EvP.congr (g:=fun k=>lockkeeperref14_Find.l0 k F key lv ((pre++[p.f0])++[z.f0]) ((n+1:Nat):Int)) (ih (behind F z) (by omega) (n+1) (pre++[p.f0]) z rfl (by omega) el hz e2 e3) (fun k=>?_)
    rw [if_pos h1,if_neg e5,e1]
   rcases h2 with ⟨q1,q2,q3,q4⟩|⟨q1,q2,q3⟩|⟨q1,q2,c,hc,q3,q4⟩
   ·obtain ⟨l,hl'⟩:=h.row p.f2 (by omega) (h.top p hp).1
    obtain ⟨a,y,b,e,y1,y2⟩:=from_adj hl'.1 p ((row_mem hl').2 ⟨hp,rfl⟩) q3
    have hy:=(row_mem hl').1 (show y∈l by rw [e];simp)
    exact on y hy.1 (q2.trans y1.symm) (by omega) (by rw [y2];exact q4) (.inr ⟨hy.2,by rw [y2];exact span_lt (h.chk p hp) q3⟩) (by omega)
   ·refine EvP.congr (g:=fun _=>some (pre++[p.f0],(0:Int))) (EvP.const ⟨rfl,pre,p,rfl,by omega,hp,q2,q3⟩) (fun k=>(if_pos h1).trans (if_pos q1))
   ·obtain ⟨z,hz,z1,z2,z3⟩:=h.kids p hp (by omega) c hc
    exact on z hz (q3.trans z1.symm) (by omega) (by rw [z3];exact q4) (.inl (by omega)) (by omega)
 have ht0:0≤t.f2:=(hs.ok t h.mem).level0
 have hle:behind F t≤F.length:=List.countP_le_length
 exact hw _ 0 [] t rfl (by omega) rfl h.mem hl (by rw [top_lo h ht0];exact List.not_lt_nil _)
end Go.Proofs.YtmfaopjfdedheaaGreat.Fq
