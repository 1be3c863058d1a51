/- MergeUnposts' plain law: what Unpost tells is the document's page or error. -/
import Derived.Test.YtmfaopjfdedheaaGreatUqc
import Derived.Test.YtmfaopjfdedheaaGreatUx17
namespace Go.Proofs.YtmfaopjfdedheaaGreat.Uq
open Go.RowKit Go.Proofs.YtmfaopjfdedheaaGreat.U Go.Proofs.YtmfaopjfdedheaaGreatW.PrintWords Go.Proofs.YtmfaopjfdedheaaGreatW.PrintLast Go.Proofs.YtmfaopjfdedheaaGreatW.PrintMore
set_option linter.unusedVariables false
set_option linter.unusedSimpArgs false

theorem drop_step {l:List S42} {i:Nat} (h:i < l.length):l.drop i=rd_T42 l (i:Int)::l.drop (i+1):=by
 rw [List.drop_eq_getElem_cons h,crd_get h]
theorem rdel_l0 (l:List S42) (hn:l.length < 2000000000000) (key:ByteArray):∀ (d k i:Nat) (acc:List S42),l.length - i=d→i≤l.length→d < k→acc.length+d < 4398046511104→lockkeeperref10_Delete.l0 k l key acc (i:Int)=some (acc++(l.drop i).filter (fun y=> !(y.f0.toList==key.toList)),0)
 |0,k+1,i,acc,hd,hi,hk,ha=>by
  unfold lockkeeperref10_Delete.l0
  rw [if_neg (by omega),List.drop_eq_nil_of_le (by omega),List.filter_nil,List.append_nil]
 |d+1,k+1,i,acc,hd,hi,hk,ha=>by
  have hlt:i < l.length:=by omega
  unfold lockkeeperref10_Delete.l0
  rw [if_pos (by omega),if_pos (by omega),w1 (by omega),drop_step hlt]
  by_cases q:(rd_T42 l (i:Int)).f0.toList=key.toList
  ·rw [if_pos q,rdel_l0 l hn key d k (i+1) _ (by omega) (by omega) (by omega) (by omega),List.filter_cons_of_neg (by simp [q])]
  ·rw [if_neg q,if_pos (by omega),rdel_l0 l hn key d k (i+1) _ (by omega) (by omega) (by omega) (by rw [List.length_append,List.length_singleton];omega),List.filter_cons_of_pos (by simpa using q),List.append_assoc]
   rfl
theorem rdel_ev {l:List S42} (h:RightP l) (hn:l.length < 2000000000000) (key:ByteArray):Ev (fun k=>lockkeeperref10_Delete.f k l key) (l.filter (fun y=> !(y.f0.toList==key.toList)),0):=by
 refine ⟨l.length+1,fun k hk=>?_⟩
 show lockkeeperref10_Delete.f k l key=_
 unfold lockkeeperref10_Delete.f
 rw [crright_yes h k (by omega) (by omega),Option.bind_some,if_pos rfl]
 have e:=rdel_l0 l hn key l.length k 0 [] (by omega) (by omega) (by omega) (by simp only [List.length_nil];omega)
 rw [List.drop_zero,List.nil_append] at e
 exact e
theorem del_ev {l:List S42} (h:RightP l) (hn:l.length < 2000000000000) (key:ByteArray):Ev (fun k=>cells_Delete.f k l key) (l.filter (fun y=> !(y.f0.toList==key.toList)),0):=by
 refine ⟨l.length+1,fun k hk=>?_⟩
 show cells_Delete.f k l key=_
 unfold cells_Delete.f
 rw [cright_yes h k (by omega) (by omega)]
 simp only [Option.bind_some,if_true]
 rw [if_pos (by omega)]
abbrev Rs:=Int×Int×Int×ByteArray×ByteArray×Bool×Int×Int×List Int×(List S42)×Int
def err (e:Int):Rs:=(0,0,0,⟨#[]⟩,⟨#[]⟩,false,0,0,[],[],e)
/-- What is told once the child was found. -/
def told (p:Pg) (low:ByteArray) (dsn:Int):Rs:=(p.id,p.right,p.level,p.low,p.high,p.fin,dsn,p.slow,p.sin,p.cells.filter (fun y=> !(y.f0.toList==low.toList)),0)
theorem loop_ev (p c:Pg) (dsn:Int) (want:ByteArray) (hl:p.cells.length < 2000000000000) (g:Int) (T:Rs)
  (hT:Ev (fun k=>if g < 0 then some (err 7) else if g=0 then some (err 9) else ((lockkeeperref11_Copy.f p.id p.right p.level p.low p.high p.fin p.dsn p.slow p.sin p.cells).bind fun bt311=>((lockkeeperref10_Delete.f k p.cells c.low).bind fun bt326=>(some (bt311.1,bt311.2.1,bt311.2.2.1,bt311.2.2.2.1,bt311.2.2.2.2.1,bt311.2.2.2.2.2.1,dsn,bt311.2.2.2.2.2.2.2.1,bt311.2.2.2.2.2.2.2.2.1,bt326.1,0))))) T):
  ∀ d (i:Nat) (cur:Int),p.cells.length - i=d→i≤p.cells.length→
   ((g=cur∧∀ t:Nat,i≤t→t < p.cells.length→¬ ((rd_T42 p.cells (t:Int)).f0.toList=c.low.toList∧(rd_T42 p.cells (t:Int)).f1.toList=want.toList))∨
    (∃ t0:Nat,i≤t0∧t0 < p.cells.length∧g=(t0:Int)∧((rd_T42 p.cells (t0:Int)).f0.toList=c.low.toList∧(rd_T42 p.cells (t0:Int)).f1.toList=want.toList)∧∀ t:Nat,t0 < t→t < p.cells.length→¬ ((rd_T42 p.cells (t:Int)).f0.toList=c.low.toList∧(rd_T42 p.cells (t:Int)).f1.toList=want.toList)))→
   Ev (fun k=>lockkeeperref16_Unpost.l0 k dsn want cur (i:Int) p.id p.right p.level p.low p.high p.fin p.dsn p.slow p.sin p.cells c.id c.right c.level c.low c.high c.fin c.dsn c.slow c.sin c.cells) T:=by
 intro d;induction d with
 |zero=>
  intro i cur h1 h2 h3
  obtain rfl:g=cur:=by
   rcases h3 with h|⟨t0,h4,h5,_⟩
   ·exact h.1
   ·omega
  exact hT.succ (fun k=>by simp only [lockkeeperref16_Unpost.l0];rw [if_neg (by omega)];rfl)
 |succ d ih=>
  intro i cur h1 h2 h3
  have j1:p.cells.length - (i+1)=d:=by clear h3;omega
  have j2:i+1≤p.cells.length:=by clear h3;omega
  have hstep:∀ k cur',(if ((rd_T42 p.cells (i:Int)).f0.toList=c.low.toList∧(rd_T42 p.cells (i:Int)).f1.toList=want.toList) then (i:Int) else cur)=cur'→lockkeeperref16_Unpost.l0 (k+1) dsn want cur (i:Int) p.id p.right p.level p.low p.high p.fin p.dsn p.slow p.sin p.cells c.id c.right c.level c.low c.high c.fin c.dsn c.slow c.sin c.cells=lockkeeperref16_Unpost.l0 k dsn want cur' ((i+1:Nat):Int) p.id p.right p.level p.low p.high p.fin p.dsn p.slow p.sin p.cells c.id c.right c.level c.low c.high c.fin c.dsn c.slow c.sin c.cells:=by
   clear h3
   rintro k cur' rfl
   simp only [lockkeeperref16_Unpost.l0]
   rw [if_pos (by omega),if_pos (by omega),w1 (by omega)]
   by_cases q1:(rd_T42 p.cells (i:Int)).f0.toList=c.low.toList
   ·rw [if_pos q1]
    by_cases q2:(rd_T42 p.cells (i:Int)).f1.toList=want.toList
    ·rw [if_pos q2,if_pos ⟨q1,q2⟩]
    ·rw [if_neg q2,if_neg (fun h=>q2 h.2)]
   ·rw [if_neg q1,if_neg (fun h=>q1 h.1)]
  by_cases q:(rd_T42 p.cells (i:Int)).f0.toList=c.low.toList∧(rd_T42 p.cells (i:Int)).f1.toList=want.toList
  ·refine (ih (i+1) (i:Int) j1 j2 ?_).succ (fun k=>hstep k _ (if_pos q))
   rcases h3 with h|⟨t0,h4,h5,h6,h7,h8⟩
   ·exact absurd q (h.2 i (Nat.le_refl _) (by omega))
   ·rcases Nat.eq_or_lt_of_le h4 with rfl|h9
    ·exact .inl ⟨h6,fun t h10 h11=>h8 t (by omega) h11⟩
    ·exact .inr ⟨t0,h9,h5,h6,h7,h8⟩
  ·refine (ih (i+1) cur j1 j2 ?_).succ (fun k=>hstep k _ (if_neg q))
   rcases h3 with h|⟨t0,h4,h5,h6,h7,h8⟩
   ·exact .inl ⟨h.1,fun t h10 h11=>h.2 t (by omega) h11⟩
   ·rcases Nat.eq_or_lt_of_le h4 with rfl|h9
    ·exact absurd h7 q
    ·exact .inr ⟨t0,h9,h5,h6,h7,h8⟩
theorem bytesOf_nums {l:List Int} (h:byt l):bytesOf (strOfNums l)=l:=by
 unfold bytesOf strOfNums
 simp only [List.map_map]
 refine (List.map_congr_left (g:=id) fun x hx=>?_).trans (List.map_id l)
 have:=h x hx
 simp only [Function.comp,id]
 rw [UInt8.toNat_ofNat']
 omega
theorem unpost_both (p c:Pg) (dsn:Int) (hp:p.ok) (hc:c.ok) (hl:p.cells.length≤60):
  ∃ r,Ev (fun k=>merge_Unpost.f k p.id p.right p.level p.low p.high p.fin p.dsn p.slow p.sin p.cells c.id c.right c.level c.low c.high c.fin c.dsn c.slow c.sin c.cells dsn) r∧
   Ev (fun k=>lockkeeperref16_Unpost.f k p.id p.right p.level p.low p.high p.fin p.dsn p.slow p.sin p.cells c.id c.right c.level c.low c.high c.fin c.dsn c.slow c.sin c.cells dsn) r∧r.2.2.2.2.2.2.2.2.1.length < 4611686018427387904∧r.2.2.2.2.2.2.2.2.2.1.length≤60:=by
 have hpc:=check_ev p hp;have hcc:=check_ev c hc;have hpr:=rcheck_ev p hp;have hcr:=rcheck_ev c hc
  -- the jumps
 have bad:∃ r,(Ev (fun k=>merge_Unpost.j0 k dsn true p.id p.right p.level p.low p.high p.fin p.dsn p.slow p.sin p.cells c.id c.right c.level c.low c.high c.fin c.dsn c.slow c.sin c.cells) r)∧(Ev (fun k=>lockkeeperref16_Unpost.j0 k dsn true p.id p.right p.level p.low p.high p.fin p.dsn p.slow p.sin p.cells c.id c.right c.level c.low c.high c.fin c.dsn c.slow c.sin c.cells) r)∧r=err 110:=
  ⟨err 110,(Ev.const _).succ (fun k=>by simp only [merge_Unpost.j0];rw [if_pos trivial];rfl),(Ev.const _).succ (fun k=>by simp only [lockkeeperref16_Unpost.j0];rw [if_pos trivial];rfl),rfl⟩
 have herr:∀ e:Int,(err e).2.2.2.2.2.2.2.2.1.length < 4611686018427387904∧(err e).2.2.2.2.2.2.2.2.2.1.length≤60:=fun e=>⟨by simp [err],by simp [err]⟩
 by_cases hall:CheckP p∧CheckP c∧dsn≤281474976710656
 ·obtain ⟨hP,hC,hd⟩:=hall
  have e1:=chk0.2 hP;have e2:=chk0.2 hC
  rw [e1] at hpc hpr;rw [e2] at hcc hcr
  have hd':decide (dsn > 281474976710656)=false:=decide_eq_false (by omega)
    -- both come to their first jumps
  suffices h:∃ r,Ev (fun k=>merge_Unpost.j0 k dsn false p.id p.right p.level p.low p.high p.fin p.dsn p.slow p.sin p.cells c.id c.right c.level c.low c.high c.fin c.dsn c.slow c.sin c.cells) r∧Ev (fun k=>lockkeeperref16_Unpost.j0 k dsn false p.id p.right p.level p.low p.high p.fin p.dsn p.slow p.sin p.cells c.id c.right c.level c.low c.high c.fin c.dsn c.slow c.sin c.cells) r∧r.2.2.2.2.2.2.2.2.1.length < 4611686018427387904∧r.2.2.2.2.2.2.2.2.2.1.length≤60 by
   obtain ⟨r,h1,h2,h3⟩:=h
   refine ⟨r,?_,?_,h3⟩
   ·unfold merge_Unpost.f
    rw [hd']
    refine hpc.bind (hcc.bind (Ev.bind (a:=true) ?_ ?_))
    ·exact ((errno2_b 0 0).mono fun b hb=>hb.2 ⟨rfl,rfl⟩).ev
    ·exact h1.congr fun k=>if_pos rfl
   ·unfold lockkeeperref16_Unpost.f
    rw [hd']
    refine hpr.bind (Ev.congr (g:=fun k=>(lockkeeperref11_Check.f k c.id c.right c.level c.low c.high c.fin c.dsn c.slow c.sin c.cells).bind fun t=>if t=0 then _ else _) ?_ fun k=>if_pos rfl)
    exact hcr.bind (h2.congr fun k=>if_pos rfl)
  by_cases hlev:p.level=c.level+1
  ·have hcl:=hC.level2;have hcl0:=hc.level0
   have hfind:=fun (k:Nat) (hk:p.cells.length < k)=>find_eq hP.cells k (by omega) hk c.low
   have hkid:kidv c.id=(strOfNums (be 8 c.id),0):=if_pos ⟨hC.id1,hC.id2⟩
      -- the document's second jump
   have href:∀ (g:Int) (T:Rs),Ev (fun k=>if g < 0 then some (err 7) else if g=0 then some (err 9) else ((lockkeeperref11_Copy.f p.id p.right p.level p.low p.high p.fin p.dsn p.slow p.sin p.cells).bind fun bt311=>((lockkeeperref10_Delete.f k p.cells c.low).bind fun bt326=>(some (bt311.1,bt311.2.1,bt311.2.2.1,bt311.2.2.2.1,bt311.2.2.2.2.1,bt311.2.2.2.2.2.1,dsn,bt311.2.2.2.2.2.2.2.1,bt311.2.2.2.2.2.2.2.2.1,bt326.1,0))))) T→
     ((g= -1∧∀ t:Nat,0≤t→t < p.cells.length→¬ ((rd_T42 p.cells (t:Int)).f0.toList=c.low.toList∧(rd_T42 p.cells (t:Int)).f1.toList=(strOfNums (be 8 c.id)).toList))∨
      (∃ t0:Nat,0≤t0∧t0 < p.cells.length∧g=(t0:Int)∧((rd_T42 p.cells (t0:Int)).f0.toList=c.low.toList∧(rd_T42 p.cells (t0:Int)).f1.toList=(strOfNums (be 8 c.id)).toList)∧∀ t:Nat,t0 < t→t < p.cells.length→¬ ((rd_T42 p.cells (t:Int)).f0.toList=c.low.toList∧(rd_T42 p.cells (t:Int)).f1.toList=(strOfNums (be 8 c.id)).toList)))→
     Ev (fun k=>lockkeeperref16_Unpost.j0 k dsn false p.id p.right p.level p.low p.high p.fin p.dsn p.slow p.sin p.cells c.id c.right c.level c.low c.high c.fin c.dsn c.slow c.sin c.cells) T:=fun g T hT h=>by
    have hj1:Ev (fun k=>lockkeeperref16_Unpost.j1 k dsn false p.id p.right p.level p.low p.high p.fin p.dsn p.slow p.sin p.cells c.id c.right c.level c.low c.high c.fin c.dsn c.slow c.sin c.cells) T:=by
     refine Ev.succ (g:=fun k=>(lockkeeperref11_Kid.f k c.id).bind fun bt307=>lockkeeperref16_Unpost.l0 k dsn bt307.1 (-1) 0 p.id p.right p.level p.low p.high p.fin p.dsn p.slow p.sin p.cells c.id c.right c.level c.low c.high c.fin c.dsn c.slow c.sin c.cells) ?_ (fun k=>by simp only [lockkeeperref16_Unpost.j1];rw [if_neg (by simp)])
     refine (rkid_ev c.id).bind ?_
     rw [hkid]
     exact loop_ev p c dsn _ (by omega) g T hT _ 0 (-1) rfl (Nat.zero_le _) h
    refine hj1.succ (fun k=>?_)
    simp only [lockkeeperref16_Unpost.j0]
    rw [if_neg (by simp),if_neg (by omega),show ((p.level - 1) % 256 != c.level)=false by rw [hlev];simp;omega]
      -- the program's second jump
   have hprog:∀ (x:Bool) (T:Rs),((look p.cells c.low).isSome=true→((idv ((look p.cells c.low).getD ⟨#[]⟩)).1 != c.id)=x)→((look p.cells c.low).isSome=false→x=true)→Ev (fun k=>merge_Unpost.j1 k dsn x p.id p.right p.level p.low p.high p.fin p.dsn p.slow p.sin p.cells c.id c.right c.level c.low c.high c.fin c.dsn c.slow c.sin c.cells) T→Ev (fun k=>merge_Unpost.j0 k dsn false p.id p.right p.level p.low p.high p.fin p.dsn p.slow p.sin p.cells c.id c.right c.level c.low c.high c.fin c.dsn c.slow c.sin c.cells) T:=fun x T hx hx' hj=>by
    refine Ev.succ (g:=fun k=>(cells_Find.f k p.cells c.low).bind fun bt218=>((page_Id.f k bt218.1).bind fun bt220=>(if bt218.2=true then (merge_Unpost.j1 k dsn (bt220.1 != c.id) p.id p.right p.level p.low p.high p.fin p.dsn p.slow p.sin p.cells c.id c.right c.level c.low c.high c.fin c.dsn c.slow c.sin c.cells) else (merge_Unpost.j1 k dsn true p.id p.right p.level p.low p.high p.fin p.dsn p.slow p.sin p.cells c.id c.right c.level c.low c.high c.fin c.dsn c.slow c.sin c.cells)))) ?_ (fun k=>by simp only [merge_Unpost.j0];rw [if_neg (by simp),if_pos (by omega)])
    refine Ev.bind (a:=((look p.cells c.low).getD ⟨#[]⟩,(look p.cells c.low).isSome)) ⟨p.cells.length+1,fun k hk=>hfind k (by omega)⟩ ?_
    refine (id_ev _ ?_).bind ?_
    ·cases hlk:look p.cells c.low with
     |none=>decide
     |some v=>
      obtain ⟨y,hy,_,rfl⟩:=(look_iff hP.cells _ _).1 hlk
      have:=(hp.cell y hy).2
      show y.f1.size < _
      omega
    ·cases hs:(look p.cells c.low).isSome
     ·have:=hx' hs;subst this
      exact hj.congr fun k=>if_neg (by simp)
     ·rw [hx hs]
      exact hj.congr fun k=>if_pos rfl
   have hkey:∀ t:Nat,t < p.cells.length→(rd_T42 p.cells (t:Int)).f0.toList=c.low.toList→∀ s:Nat,s < p.cells.length→(rd_T42 p.cells (s:Int)).f0.toList=c.low.toList→s=t:=fun t ht e s hs e'=>by
    rcases Nat.lt_trichotomy s t with h|h|h
    ·have:=srt' hP.cells h ht;rw [e,e'] at this;exact (lt_irr this).elim
    ·exact h
    ·have:=srt' hP.cells h hs;rw [e,e'] at this;exact (lt_irr this).elim
   have hj7:Ev (fun k=>merge_Unpost.j1 k dsn true p.id p.right p.level p.low p.high p.fin p.dsn p.slow p.sin p.cells c.id c.right c.level c.low c.high c.fin c.dsn c.slow c.sin c.cells) (err 7):=(Ev.const _).succ (fun k=>by simp only [merge_Unpost.j1];rw [if_pos trivial];rfl)
   have hr7:Ev (fun _:Nat=>if (-1:Int) < 0 then some (err 7) else none) (err 7):=(Ev.const _).congr fun k=>if_pos (by omega)
   cases hlk:look p.cells c.low with
   |none=>
    refine ⟨err 7,hprog true _ (fun h=>by rw [hlk] at h;cases h) (fun _=>rfl) hj7,href (-1) _ ((Ev.const _).congr fun k=>if_pos (by omega)) (.inl ⟨rfl,fun t _ ht h=>?_⟩),herr 7⟩
    have:=look_at hP.cells ht h.1
    rw [hlk] at this;cases this
   |some v=>
    obtain ⟨y,hy,hy0,hy1⟩:=(look_iff hP.cells _ _).1 hlk
    obtain ⟨t0,ht0,hyt⟩:=mem_rd hy
    have hk0:(rd_T42 p.cells (t0:Int)).f0.toList=c.low.toList:=by rw [hyt,hy0]
    have hv0:(rd_T42 p.cells (t0:Int)).f1=v:=by rw [hyt,hy1]
    have hid:idOk v:=by rw [← hv0];exact (hP.each t0 ht0).2.2 (by omega)
    have hidv:(idv v).1=val (bytesOf v):=by unfold idv;rw [if_pos hid]
    have hsame:(idv v).1=c.id↔v.toList=(strOfNums (be 8 c.id)).toList:=by
     rw [hidv]
     constructor
     ·intro h
      rw [← h,be_val 8 _ (by rw [bytesOf_length];exact hid.1) (byt_bytesOf v),strOfNums_bytesOf]
     ·intro h
      have h':v=strOfNums (be 8 c.id):=tl_inj h
      have e9:bytesOf v=be 8 c.id:=by
       rw [h']
       refine bytesOf_nums ?_
       exact be_byt 8 _
      rw [e9]
      have:=hC.id1;have:=hC.id2
      exact val_be 8 _ (by omega) (by omega)
    by_cases hs:(idv v).1=c.id
    ·have hx:∀ T,Ev (fun k=>merge_Unpost.j1 k dsn false p.id p.right p.level p.low p.high p.fin p.dsn p.slow p.sin p.cells c.id c.right c.level c.low c.high c.fin c.dsn c.slow c.sin c.cells) T→Ev (fun k=>merge_Unpost.j0 k dsn false p.id p.right p.level p.low p.high p.fin p.dsn p.slow p.sin p.cells c.id c.right c.level c.low c.high c.fin c.dsn c.slow c.sin c.cells) T:=fun T=>hprog false T (fun _=>by rw [hlk];show ((idv v).1 != c.id)=false;rw [hs];simp) (fun h=>by rw [hlk] at h;cases h)
     have hmt:=fun (T:Rs) (hT:Ev _ T)=>href (t0:Int) T hT (.inr ⟨t0,Nat.zero_le _,ht0,rfl,⟨hk0,by rw [hv0];exact hsame.1 hs⟩,fun t h1 h2 h3=>by have:=hkey t0 ht0 hk0 t h2 h3.1;omega⟩)
     by_cases h0:t0=0
     ·subst h0
      refine ⟨err 9,hx _ ((Ev.const _).succ fun k=>by
       simp only [merge_Unpost.j1];rw [if_neg (by simp),if_pos (by omega),if_pos (show (rd_T42 p.cells 0).f0.toList=c.low.toList from hk0)];rfl),hmt _ ((Ev.const _).congr fun k=>by rw [if_neg (by omega),if_pos (by omega)]),herr 9⟩
     ·have hne:¬ (rd_T42 p.cells 0).f0.toList=c.low.toList:=fun e=>h0 (hkey 0 (by omega) e t0 ht0 hk0)
      refine ⟨told p c.low dsn,hx _ ?_,hmt _ ?_,?_,?_⟩
      ·refine Ev.succ (g:=fun k=>(cells_Delete.f k p.cells c.low).bind fun bt223=>some (p.id,p.right,p.level,p.low,p.high,p.fin,dsn,p.slow,p.sin,bt223.1,bt223.2)) ?_ (fun k=>by simp only [merge_Unpost.j1];rw [if_neg (by simp),if_pos (by omega),if_neg hne])
       exact (del_ev hP.cells (by omega) c.low).bind (Ev.const _)
      ·refine Ev.congr (g:=fun k=>(lockkeeperref10_Delete.f k p.cells c.low).bind fun bt326=>some (p.id,p.right,p.level,p.low,p.high,p.fin,dsn,p.slow,p.sin,bt326.1,0)) ?_ (fun k=>by rw [if_neg (by omega),if_neg (by omega),rcopy11_ev p hp];rfl)
       exact (rdel_ev hP.cells (by omega) c.low).bind (Ev.const _)
      ·have:=hp.sin;show p.sin.length < _;omega
      ·show (p.cells.filter _).length≤60
       exact Nat.le_trans (List.length_filter_le _ _) hl
    ·refine ⟨err 7,hprog true _ (fun _=>by rw [hlk];show ((idv v).1 != c.id)=true;simpa using hs) (fun _=>rfl) hj7,href (-1) _ ((Ev.const _).congr fun k=>if_pos (by omega)) (.inl ⟨rfl,fun t _ ht h=>?_⟩),herr 7⟩
     obtain rfl:=hkey t0 ht0 hk0 t ht h.1
     rw [hv0] at h
     exact hs (hsame.2 h.2)
  ·refine ⟨err 140,(Ev.const _).succ (fun k=>?_),?_,herr 140⟩
   ·have h1:=hP.level2;have h2:=hC.level2;have h3:=hc.level0;have h4:=hp.level0
    simp only [merge_Unpost.j0];rw [if_neg (by simp),if_neg (by omega)];rfl
   ·have hj1:Ev (fun k=>lockkeeperref16_Unpost.j1 k dsn true p.id p.right p.level p.low p.high p.fin p.dsn p.slow p.sin p.cells c.id c.right c.level c.low c.high c.fin c.dsn c.slow c.sin c.cells) (err 140):=(Ev.const _).succ (fun k=>by simp only [lockkeeperref16_Unpost.j1];rw [if_pos trivial];rfl)
    refine hj1.succ (fun k=>?_)
    have h1:=hP.level2;have h2:=hC.level2;have h3:=hc.level0;have h4:=hp.level0
    simp only [lockkeeperref16_Unpost.j0]
    rw [if_neg (by simp)]
    by_cases hz:p.level=0
    ·rw [if_pos hz]
    ·rw [if_neg hz,show ((p.level - 1) % 256 != c.level)=true by rw [bne_iff_ne];omega]
 ·obtain ⟨r,b1,b2,b3⟩:=bad
  refine ⟨r,?_,?_,by rw [b3];exact herr 110⟩
  ·unfold merge_Unpost.f
   refine hpc.bind (hcc.bind (EvP.ev ((errno2_b (chk p) (chk c)).bind fun t ht=>EvP.ite (fun e=>?_) (fun e=>⟨_,b1,rfl⟩))))
   have h:=ht.1 e
   rw [decide_eq_true (show dsn > 281474976710656 from Int.not_le.1 fun hd=>hall ⟨chk0.1 h.1,chk0.1 h.2,hd⟩)]
   exact ⟨_,b1,rfl⟩
  ·unfold lockkeeperref16_Unpost.f
   refine hpr.bind (EvP.ev (EvP.ite (fun e1=>hcr.to.bind fun t ht=>EvP.ite (fun e2=>?_) (fun e=>⟨_,b2,rfl⟩)) (fun e=>⟨_,b2,rfl⟩)))
   subst ht
   rw [decide_eq_true (show dsn > 281474976710656 from Int.not_le.1 fun hd=>hall ⟨chk0.1 e1,chk0.1 e2,hd⟩)]
   exact ⟨_,b2,rfl⟩
theorem turn_ev (p q:Pg) (hs:p.sin.length < 4611686018427387904) (hl:p.cells.length < 4611686018427387904):∀ d (i:Nat) (r:Pg),r.cells.length - i=d→i≤r.cells.length→r.cells.length≤60→EvP (fun k=>lockkeeperlaw16_MergeUnposts.l0 k (i:Int) p.id p.right p.level p.low p.high p.fin p.dsn p.slow p.sin p.cells p.id p.right p.level p.low p.high p.fin p.dsn p.slow p.sin p.cells r.id r.right r.level r.low r.high r.fin r.dsn r.slow r.sin r.cells) (fun t=>t=true):=by
 intro d;induction d with
 |zero=>
  intro i r h1 h2 h3
  refine EvP.succ (g:=fun k=>(lockkeeperref11_Same.f k p.id p.right p.level p.low p.high p.fin p.dsn p.slow p.sin p.cells p.id p.right p.level p.low p.high p.fin p.dsn p.slow p.sin p.cells).bind fun t384=>(if t384=true then ((lockkeeperlaw16_head.f k).bind fun t385=>(some t385)) else (none))) ?_ (fun k=>by simp only [lockkeeperlaw16_MergeUnposts.l0];rw [if_neg (by omega)])
  exact (same11_ev p hs hl).to.bind fun t ht=>by
   subst ht
   exact head_evp.congr fun k=>if_pos rfl
 |succ d ih=>
  intro i r h1 h2 h3
  refine EvP.succ (ih (i+1) ⟨r.id,r.right,r.level,r.low,r.high,r.fin,r.dsn,r.slow,r.sin,r.cells.set i ⟨(rd_T42 r.cells (i:Int)).f0,⟨#[116,117,114,110,101,100]⟩⟩⟩ ?_ ?_ ?_) (fun k=>by
   simp only [lockkeeperlaw16_MergeUnposts.l0]
   rw [if_pos (by omega),if_pos (by omega),w1 (by omega)]
   rfl)
  ·simp only [List.length_set];omega
  ·simp only [List.length_set];omega
  ·simp only [List.length_set];omega
end Go.Proofs.YtmfaopjfdedheaaGreat.Uq
namespace Go.Proofs.YtmfaopjfdedheaaGreat.Pure
open Go.RowKit Go.Proofs.YtmfaopjfdedheaaGreat.U Go.Proofs.YtmfaopjfdedheaaGreat.Uq
set_option linter.unusedVariables false
theorem MergeUnposts:lockkeeperlaw16_MergeUnposts.Pure:=by
 intro a0 a1 a2 a3 a4 a5 a6 a7 s l b0 b1 b2 b3 b4 b5 b6 b7 s' l' dsn wa0 wa1 wa2 _ _ wa6 wa7 wsl ws wll wl wb0 wb1 wb2 _ _ wb6 wb7 wsl' ws' wll' wl' wdsn
 have hp:(Pg.mk a0 a1 a2 a3 a4 a5 a6 a7 s l).ok:=⟨(wf64 wa0).1,(wf64 wa1).1,(wf8 wa2).1,(wf8 wa2).2,(wf64 wa7).1,by show s.length < _;omega,by show l.length < _;omega,fun x hx=>wl x hx⟩
 have hc:(Pg.mk b0 b1 b2 b3 b4 b5 b6 b7 s' l').ok:=⟨(wf64 wb0).1,(wf64 wb1).1,(wf8 wb2).1,(wf8 wb2).2,(wf64 wb7).1,by show s'.length < _;omega,by show l'.length < _;omega,fun x hx=>wl' x hx⟩
 generalize hP:Pg.mk a0 a1 a2 a3 a4 a5 a6 a7 s l=p at hp
 generalize hC:Pg.mk b0 b1 b2 b3 b4 b5 b6 b7 s' l'=c at hc
 suffices h:EvP (fun k=>lockkeeperlaw16_MergeUnposts.f k p.id p.right p.level p.low p.high p.fin p.dsn p.slow p.sin p.cells c.id c.right c.level c.low c.high c.fin c.dsn c.slow c.sin c.cells dsn) (fun r=>r=true) by
  subst hP hC
  obtain ⟨r,⟨K,hK⟩,hr⟩:=h
  exact ⟨K,(hK K (Nat.le_refl _)).trans (congrArg some hr)⟩
 clear hP hC
 have hlp:=hp.len;have hlc:=hc.len;have hsp:=hp.sin
 have hhead:EvP (fun k=>lockkeeperlaw16_MergeUnposts.j0 k dsn true p.id p.right p.level p.low p.high p.fin p.dsn p.slow p.sin p.cells c.id c.right c.level c.low c.high c.fin c.dsn c.slow c.sin c.cells) (fun r=>r=true):=
  EvP.succ head_evp (fun k=>by simp only [lockkeeperlaw16_MergeUnposts.j0];rw [if_pos trivial])
 unfold lockkeeperlaw16_MergeUnposts.f
 refine (small_ev p (by omega)).bind fun t1 h1=>EvP.ite (fun e1=>(small_ev c (by omega)).bind fun t2 h2=>?_) (fun _=>hhead)
 cases t2
 ·exact hhead
 obtain ⟨r,u1,u2,u3,u4⟩:=unpost_both p c dsn hp hc (h1 e1).1
 refine EvP.succ (g:=fun k=>(lockkeeperref11_Copy.f p.id p.right p.level p.low p.high p.fin p.dsn p.slow p.sin p.cells).bind fun bt335=>((merge_Unpost.f k bt335.1 bt335.2.1 bt335.2.2.1 bt335.2.2.2.1 bt335.2.2.2.2.1 bt335.2.2.2.2.2.1 bt335.2.2.2.2.2.2.1 bt335.2.2.2.2.2.2.2.1 bt335.2.2.2.2.2.2.2.2.1 bt335.2.2.2.2.2.2.2.2.2 c.id c.right c.level c.low c.high c.fin c.dsn c.slow c.sin c.cells dsn).bind fun bt350=>_)) ?_ (fun k=>by simp only [lockkeeperlaw16_MergeUnposts.j0];rw [if_neg (by simp)])
 rw [rcopy11_ev p hp]
 simp only [Option.bind_some]
 refine u1.to.bind fun x hx=>?_
 subst hx
 refine u2.to.bind fun x' hx'=>?_
 subst hx'
 obtain ⟨r0,r1,r2,r3,r4,r5,r6,r7,r8,r9,r10⟩:=x'
 refine (same11_ev ⟨r0,r1,r2,r3,r4,r5,r6,r7,r8,r9⟩ u3 (by show r9.length < _;simp only at u4;omega)).to.bind fun t ht=>?_
 subst ht
 refine EvP.congr ?_ (fun k=>if_pos rfl)
 refine EvP.congr ?_ (fun k=>if_pos rfl)
 exact turn_ev p p (by omega) (by omega) _ 0 ⟨r0,r1,r2,r3,r4,r5,r6,r7,r8,r9⟩ rfl (Nat.zero_le _) u4
end Go.Proofs.YtmfaopjfdedheaaGreat.Pure
