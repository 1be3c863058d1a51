/- MergeTurns' plain law: Beside, Under and Join tell the document's answers. -/
import Derived.Test.YtmfaopjfdedheaaGreatTqd
import Derived.Test.YtmfaopjfdedheaaGreatTx20
namespace Go.Proofs.YtmfaopjfdedheaaGreat.Tq
open Go.RowKit Go.Proofs.YtmfaopjfdedheaaGreat.T Go.Proofs.YtmfaopjfdedheaaGreatW.PrintWords Go.Proofs.YtmfaopjfdedheaaGreatW.PrintLast Go.Proofs.YtmfaopjfdedheaaGreatW.PrintMore
set_option linter.unusedVariables false
set_option linter.unusedSectionVars false
set_option linter.unusedSimpArgs false
theorem rjoinp_ev (a b:Pg) (low dsn:Int) (ha:a.ok) (hb:b.ok) (sa:a.sin.length≤1100) (sb:b.sin.length≤1100) (la:a.cells.length≤60) (lb:b.cells.length≤60):Ev (fun k=>q16_Join.f k a.id a.right a.level a.low a.high a.fin a.dsn a.slow a.sin a.cells b.id b.right b.level b.low b.high b.fin b.dsn b.slow b.sin b.cells low dsn) (joinR a b low dsn):=by
 have bad:¬ (CheckP a∧CheckP b∧dsn≤281474976710656∧low≤281474976710656)→EvP (fun k=>q16_Join.j0 k low dsn true a.id a.right a.level a.low a.high a.fin a.dsn a.slow a.sin a.cells b.id b.right b.level b.low b.high b.fin b.dsn b.slow b.sin b.cells) (fun r=>r=joinR a b low dsn):=fun h=>
  EvP.succ (g:=fun _=>some (err 110)) (EvP.const (by unfold joinR;rw [if_pos h])) (fun k=>by simp only [q16_Join.j0];rw [if_pos trivial];rfl)
 have hj1:CheckP a∧CheckP b∧dsn≤281474976710656∧low≤281474976710656→BesideP a b→¬ 0 < a.level→∀ x:Bool,(x=true↔(low < a.slow∨low < b.slow))→EvP (fun k=>q16_Join.j1 k low x a.id a.right a.level a.low a.high a.fin a.dsn a.slow a.sin a.cells b.id b.right b.level b.low b.high b.fin b.dsn b.slow b.sin b.cells a.id b.right a.level a.low b.high b.fin dsn a.slow a.sin (a.cells++b.cells)) (fun r=>r=joinR a b low dsn):=by
  intro h1 h2 h3 x hx
  refine EvP.succ ?_ (fun k=>by simp only [q16_Join.j1];rfl)
  refine EvP.ite (fun e=>EvP.const ?_) (fun e=>?_)
  ·unfold joinR;rw [if_neg (not_not_intro h1),if_neg (not_not_intro h2),if_neg h3,if_pos (hx.1 e)];rfl
  ·refine (rraise_ev a.slow a.sin low sa).to.bind fun r1 e1=>(rraise_ev b.slow b.sin low sb).to.bind fun r2 e2=>?_
   subst e1 e2
   refine (rljoin_ev _ _ _ _ (raise_len sa) (raise_len sb)).to.bind fun r3 e3=>EvP.ite (fun e4=>EvP.const ?_) (fun e4=>EvP.const ?_)
   ·subst e3
    unfold joinR;rw [if_neg (not_not_intro h1),if_neg (not_not_intro h2),if_neg h3,if_neg (fun q=>e (hx.2 q)),if_pos (show (setR a b low).2.2=0 from e4)];rfl
   ·subst e3
    unfold joinR;rw [if_neg (not_not_intro h1),if_neg (not_not_intro h2),if_neg h3,if_neg (fun q=>e (hx.2 q)),if_neg (show ¬ (setR a b low).2.2=0 from e4)];rfl
 have hj0:CheckP a∧CheckP b∧dsn≤281474976710656∧low≤281474976710656→EvP (fun k=>q16_Join.j0 k low dsn false a.id a.right a.level a.low a.high a.fin a.dsn a.slow a.sin a.cells b.id b.right b.level b.low b.high b.fin b.dsn b.slow b.sin b.cells) (fun r=>r=joinR a b low dsn):=by
  intro h1
  refine EvP.succ (g:=fun k=>(q16_Beside.f k a.id a.right a.level a.low a.high a.fin a.dsn a.slow a.sin a.cells b.id b.right b.level b.low b.high b.fin b.dsn b.slow b.sin b.cells).bind fun t336=>if t336=true then (if a.level > 0 then (some (a.id,b.right,a.level,a.low,b.high,b.fin,dsn,a.slow,a.sin,a.cells++b.cells,0)) else (if a.slow > low then (q16_Join.j1 k low true a.id a.right a.level a.low a.high a.fin a.dsn a.slow a.sin a.cells b.id b.right b.level b.low b.high b.fin b.dsn b.slow b.sin b.cells a.id b.right a.level a.low b.high b.fin dsn a.slow a.sin (a.cells++b.cells)) else (q16_Join.j1 k low (decide (b.slow > low)) a.id a.right a.level a.low a.high a.fin a.dsn a.slow a.sin a.cells b.id b.right b.level b.low b.high b.fin b.dsn b.slow b.sin b.cells a.id b.right a.level a.low b.high b.fin dsn a.slow a.sin (a.cells++b.cells)))) else some (err 140)) ?_ (fun k=>by
    simp only [q16_Join.j0]
    rw [if_neg (by simp),rcopy11_ev a ha]
    simp only [Option.bind_some]
    rw [if_pos (show a.cells.length+b.cells.length < 4398046511104 by omega)]
    rfl)
  refine (rbeside_b a b ha hb).bind fun t ht=>EvP.ite (fun e=>?_) (fun e=>EvP.const ?_)
  ·have h2:=ht.1 e
   refine EvP.ite (fun e1=>EvP.const ?_) (fun e1=>EvP.ite (fun e2=>hj1 h1 h2 e1 true ⟨fun _=>.inl e2,fun _=>rfl⟩) (fun e2=>hj1 h1 h2 e1 _ ⟨fun q=>.inr (of_decide_eq_true q),fun q=>decide_eq_true (q.resolve_left e2)⟩))
   unfold joinR;rw [if_neg (not_not_intro h1),if_neg (not_not_intro h2),if_pos e1]
  ·unfold joinR;rw [if_neg (not_not_intro h1),if_pos (fun q=>e (ht.2 q))]
 unfold q16_Join.f
 refine EvP.ev ((rcheck_ev a ha).to.bind fun x hx=>EvP.ite (fun e0=>(rcheck_ev b hb).to.bind fun y hy=>EvP.ite (fun e=>EvP.ite (fun e1=>bad fun q=>by have:=q.2.2.1;omega) fun e1=>?_) (fun e=>bad fun q=>e (hy ▸ chk0.2 q.2.1))) (fun e=>bad fun q=>e (hx ▸ chk0.2 q.1)))
 by_cases e2:low > 281474976710656
 ·rw [decide_eq_true e2]
  exact bad fun q=>by have:=q.2.2.2;omega
 ·rw [decide_eq_false e2]
  exact hj0 ⟨chk0.1 (hx ▸ e0),chk0.1 (hy ▸ e),by omega,by omega⟩
/-- Both sizes come to the same. -/
theorem size_ev (l:List S42) (hl:l.length≤60) (ho:∀ x∈l,x.f0.size≤140737488351232∧x.f1.size≤140737488351232):∃ r,Ev (fun k=>cells_Size.f k l) r∧Ev (fun k=>q10_Size.f k l) r:=by
 have h:∀ n (i:Nat) (x:Int),l.length - i=n→i≤l.length→0≤x→x≤(i:Int) * 300000000000000→∃ r,Ev (fun k=>cells_Size.l0 k x l (l.length:Int) (i:Int)) r∧Ev (fun k=>q10_Size.l0 k l x (i:Int)) r:=by
  intro n;induction n with
  |zero=>
   intro i x h1 h2 h3 h4
   exact ⟨x,(Ev.const x).succ (fun k=>by simp only [cells_Size.l0];rw [if_neg (by omega)]),(Ev.const x).succ (fun k=>by simp only [q10_Size.l0];rw [if_neg (by omega)])⟩
  |succ n ih=>
   intro i x h1 h2 h3 h4
   have hb:=ho _ (rd_mem (by omega:i < l.length))
   generalize hc:rd_T42 l (i:Int)=c at hb
   obtain ⟨r,e1,e2⟩:=ih (i+1) (x+(4+c.f0.size+c.f1.size:Nat)) (by omega) (by omega) (by omega) (by omega)
   refine ⟨r,e1.succ (fun k=>?_),e2.succ (fun k=>?_)⟩
   ·have e:wrap64 (x+wrap64 (wrap64 (4+(c.f0.size:Int))+(c.f1.size:Int)))=x+((4+c.f0.size+c.f1.size:Nat):Int):=by unfold wrap64;omega
    simp only [cells_Size.l0,cells_cell_size.f,hc,Option.bind_some]
    rw [if_pos (by omega),if_pos (by omega),if_pos (by omega),w1 (by omega),e]
   ·have e:wrap64 (wrap64 (wrap64 (x+4)+(c.f0.size:Int))+(c.f1.size:Int))=x+((4+c.f0.size+c.f1.size:Nat):Int):=by unfold wrap64;omega
    simp only [q10_Size.l0,hc]
    rw [if_pos (by omega),if_pos (by omega),w1 (by omega),e]
 exact h _ 0 0 rfl (Nat.zero_le _) (Int.le_refl _) (by simp)
theorem under_both (a b:Pg) (m:Int) (ha:a.ok) (hb:b.ok) (la:a.cells.length≤60) (lb:b.cells.length≤60):∃ r,
  Ev (fun k=>merge_Under.f k a.id a.right a.level a.low a.high a.fin a.dsn a.slow a.sin a.cells b.id b.right b.level b.low b.high b.fin b.dsn b.slow b.sin b.cells m) r∧
  Ev (fun k=>q16_Under.f k a.id a.right a.level a.low a.high a.fin a.dsn a.slow a.sin a.cells b.id b.right b.level b.low b.high b.fin b.dsn b.slow b.sin b.cells m) r:=by
 obtain ⟨x,x1,x2⟩:=size_ev a.cells la ha.cell
 obtain ⟨y,y1,y2⟩:=size_ev b.cells lb hb.cell
 obtain ⟨t,h1,e1⟩:=beside_b a b ha hb
 obtain ⟨t',h2,e2⟩:=rbeside_b a b ha hb
 obtain rfl:t=t':=Bool.eq_iff_iff.2 (e1.trans e2.symm)
 unfold merge_Under.f q16_Under.f
 cases t
 ·exact ⟨false,h1.bind ((Ev.const _).congr fun k=>if_neg (by simp)),h2.bind ((Ev.const _).congr fun k=>if_neg (by simp))⟩
 ·exact ⟨decide (wrap64 (x+y)≤m),h1.bind (Ev.congr (x1.bind (y1.bind (Ev.const (decide (wrap64 (x+y)≤m))))) fun k=>if_pos rfl),h2.bind (Ev.congr (x2.bind (y2.bind (Ev.const (decide (wrap64 (x+y)≤m))))) fun k=>if_pos rfl)⟩
theorem turn1_ev (p q:Pg) (hs:p.sin.length < 4611686018427387904) (hl:p.cells.length < 4611686018427387904) (hs':q.sin.length < 4611686018427387904) (hl':q.cells.length < 4611686018427387904):∀ d (i:Nat) (r:Pg),r.sin.length - i=d→i≤r.sin.length→r.sin.length≤1100→EvP (fun k=>y16_MergeTurns.l1 k (i:Int) p.id p.right p.level p.low p.high p.fin p.dsn p.slow p.sin p.cells q.id q.right q.level q.low q.high q.fin q.dsn q.slow q.sin q.cells p.id p.right p.level p.low p.high p.fin p.dsn p.slow p.sin p.cells q.id q.right q.level q.low q.high q.fin q.dsn q.slow q.sin q.cells r.id r.right r.level r.low r.high r.fin r.dsn r.slow r.sin r.cells) (fun t=>t=true):=by
 intro d;induction d with
 |zero=>
  intro i r h1 h2 h3
  refine EvP.succ (g:=fun k=>(q11_Same.f k p.id p.right p.level p.low p.high p.fin p.dsn p.slow p.sin p.cells p.id p.right p.level p.low p.high p.fin p.dsn p.slow p.sin p.cells).bind fun t465=>(if t465=true then ((q11_Same.f k q.id q.right q.level q.low q.high q.fin q.dsn q.slow q.sin q.cells q.id q.right q.level q.low q.high q.fin q.dsn q.slow q.sin q.cells).bind fun t466=>(if t466=true then ((y16_head.f k).bind fun t467=>(some t467)) else (none))) else (none))) ?_ (fun k=>by simp only [y16_MergeTurns.l1];rw [if_neg (by omega)])
  refine (same11_ev p hs hl).to.bind fun t ht=>?_
  subst ht
  refine EvP.congr ?_ fun k=>if_pos rfl
  refine (same11_ev q hs' hl').to.bind fun t ht=>?_
  subst ht
  exact head_evp.congr fun k=>if_pos rfl
 |succ d ih=>
  intro i r h1 h2 h3
  refine EvP.succ (ih (i+1) ⟨r.id,r.right,r.level,r.low,r.high,r.fin,r.dsn,r.slow,r.sin.set i 0,r.cells⟩ ?_ ?_ ?_) (fun k=>by
   simp only [y16_MergeTurns.l1]
   rw [if_pos (by omega),if_pos (by omega),w1 (by omega)]
   rfl)
  ·simp only [List.length_set];omega
  ·simp only [List.length_set];omega
  ·simp only [List.length_set];omega
theorem turn_ev (p q:Pg) (hs:p.sin.length < 4611686018427387904) (hl:p.cells.length < 4611686018427387904) (hs':q.sin.length < 4611686018427387904) (hl':q.cells.length < 4611686018427387904):∀ d (i:Nat) (r:Pg),r.cells.length - i=d→i≤r.cells.length→r.cells.length≤120→r.sin.length≤1100→EvP (fun k=>y16_MergeTurns.l0 k (i:Int) p.id p.right p.level p.low p.high p.fin p.dsn p.slow p.sin p.cells q.id q.right q.level q.low q.high q.fin q.dsn q.slow q.sin q.cells p.id p.right p.level p.low p.high p.fin p.dsn p.slow p.sin p.cells q.id q.right q.level q.low q.high q.fin q.dsn q.slow q.sin q.cells r.id r.right r.level r.low r.high r.fin r.dsn r.slow r.sin r.cells) (fun t=>t=true):=by
 intro d;induction d with
 |zero=>
  intro i r h1 h2 h3 h4
  exact EvP.succ (turn1_ev p q hs hl hs' hl' _ 0 r rfl (Nat.zero_le _) h4) (fun k=>by simp only [y16_MergeTurns.l0];rw [if_neg (by omega)];rfl)
 |succ d ih=>
  intro i r h1 h2 h3 h4
  refine EvP.succ (ih (i+1) ⟨r.id,r.right,r.level,r.low,r.high,r.fin,r.dsn,r.slow,r.sin,r.cells.set i ⟨(rd_T42 r.cells (i:Int)).f0,⟨#[116,117,114,110,101,100]⟩⟩⟩ ?_ ?_ ?_ h4) (fun k=>by
   simp only [y16_MergeTurns.l0]
   rw [if_pos (by omega),if_pos (by omega),w1 (by omega)]
   rfl)
  ·simp only [List.length_set];omega
  ·simp only [List.length_set];omega
  ·simp only [List.length_set];omega
end Go.Proofs.YtmfaopjfdedheaaGreat.Tq
namespace Go.Proofs.YtmfaopjfdedheaaGreat.Pure
open Go.RowKit Go.Proofs.YtmfaopjfdedheaaGreat.T Go.Proofs.YtmfaopjfdedheaaGreat.Tq
set_option linter.unusedVariables false
theorem MergeTurns:y16_MergeTurns.Pure:=by
 intro a0 a1 a2 a3 a4 a5 a6 a7 s l b0 b1 b2 b3 b4 b5 b6 b7 s' l' low dsn most wa0 wa1 wa2 _ _ wa6 wa7 wsl ws wll wl wb0 wb1 wb2 _ _ wb6 wb7 wsl' ws' wll' wl' wlow wdsn wmost
 have hp:(Pg.mk a0 a1 a2 a3 a4 a5 a6 a7 s l).ok:=⟨(wf64 wa0).1,(wf64 wa1).1,(wf8 wa2).1,(wf8 wa2).2,(wf64 wa7).1,by show s.length < _;omega,by show l.length < _;omega,fun x hx=>wl x hx⟩
 have hc:(Pg.mk b0 b1 b2 b3 b4 b5 b6 b7 s' l').ok:=⟨(wf64 wb0).1,(wf64 wb1).1,(wf8 wb2).1,(wf8 wb2).2,(wf64 wb7).1,by show s'.length < _;omega,by show l'.length < _;omega,fun x hx=>wl' x hx⟩
 generalize hP:Pg.mk a0 a1 a2 a3 a4 a5 a6 a7 s l=p at hp
 generalize hC:Pg.mk b0 b1 b2 b3 b4 b5 b6 b7 s' l'=c at hc
 suffices h:EvP (fun k=>y16_MergeTurns.f k p.id p.right p.level p.low p.high p.fin p.dsn p.slow p.sin p.cells c.id c.right c.level c.low c.high c.fin c.dsn c.slow c.sin c.cells low dsn most) (fun r=>r=true) by
  subst hP hC
  obtain ⟨r,⟨K,hK⟩,hr⟩:=h
  exact ⟨K,(hK K (Nat.le_refl _)).trans (congrArg some hr)⟩
 clear hP hC
 have hlp:=hp.len;have hlc:=hc.len;have hsp:=hp.sin
 have hhead:EvP (fun k=>y16_MergeTurns.j0 k true p.id p.right p.level p.low p.high p.fin p.dsn p.slow p.sin p.cells c.id c.right c.level c.low c.high c.fin c.dsn c.slow c.sin c.cells low dsn most) (fun r=>r=true):=
  EvP.succ head_evp (fun k=>by simp only [y16_MergeTurns.j0];rw [if_pos trivial])
 unfold y16_MergeTurns.f
 refine (small_ev p (by omega)).bind fun t1 h1=>EvP.ite (fun e1=>(small_ev c (by omega)).bind fun t2 h2=>?_) (fun _=>hhead)
 cases t2
 ·exact hhead
 have hs1:=h1 e1;have hs2:=h2 rfl
 have hlen:=join_len p c low dsn hp hc hs1.2 hs2.2 hs1.1 hs2.1
 have hj:=join_ev p c low dsn hp hc hs1.2 hs2.2 hs1.1 hs2.1
 have hj':=rjoinp_ev p c low dsn hp hc hs1.2 hs2.2 hs1.1 hs2.1
 obtain ⟨t,hb1,q1⟩:=beside_b p c hp hc
 obtain ⟨t',hb2,q2⟩:=rbeside_b p c hp hc
 obtain rfl:t=t':=Bool.eq_iff_iff.2 (q1.trans q2.symm)
 obtain ⟨u,hu1,hu2⟩:=under_both p c most hp hc hs1.1 hs2.1
 generalize joinR p c low dsn=r at hlen hj hj'
 obtain ⟨r0,r1,r2,r3,r4,r5,r6,r7,r8,r9,r10⟩:=r
 simp only at hlen
 refine EvP.succ ?_ (fun k=>by
  simp only [y16_MergeTurns.j0]
  rw [if_neg (by simp),rcopy11_ev p hp,rcopy11_ev c hc])
 simp only [Option.bind_some]
 refine hj.to.bind fun x hx=>?_
 subst hx
 refine hj'.to.bind fun x hx=>?_
 subst hx
 refine (same11_ev ⟨r0,r1,r2,r3,r4,r5,r6,r7,r8,r9⟩ (by show r8.length < _;omega) (by show r9.length < _;omega)).to.bind fun x hx=>?_
 subst hx
 refine EvP.congr ?_ (fun k=>if_pos rfl)
 refine EvP.congr ?_ (fun k=>if_pos rfl)
 refine hb1.to.bind fun x hx=>?_
 subst hx
 refine hb2.to.bind fun x hx=>?_
 subst hx
 refine EvP.congr ?_ (fun k=>if_neg (by simp))
 refine hu1.to.bind fun x hx=>?_
 subst hx
 refine hu2.to.bind fun x hx=>?_
 subst hx
 refine EvP.congr ?_ (fun k=>if_neg (by simp))
 exact turn_ev p c (by omega) (by omega) (by have:=hc.sin;omega) (by omega) _ 0 ⟨r0,r1,r2,r3,r4,r5,r6,r7,r8,r9⟩ rfl (Nat.zero_le _) hlen.2 hlen.1
end Go.Proofs.YtmfaopjfdedheaaGreat.Pure
