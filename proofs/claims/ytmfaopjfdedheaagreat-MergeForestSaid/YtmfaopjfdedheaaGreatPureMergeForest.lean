/- The plain law behind MergeForest: in a forest that is right, a page that isn't posted joined with its left neighbour, and a child unposted, leave a forest that is right, with the same cells in its leaves. Conditions: none beyond the row's own. -/
import Derived.Test.YtmfaopjfdedheaaGreatFqj
import Derived.Test.YtmfaopjfdedheaaGreatFx20
import Derived.Test.YtmfaopjfdedheaaGreatFx21
namespace Go.Proofs.YtmfaopjfdedheaaGreat.Fq
open Go.RowKit Go.Proofs.YtmfaopjfdedheaaGreat.F Go.Proofs.YtmfaopjfdedheaaGreatW.PrintWords Go.Proofs.YtmfaopjfdedheaaGreatW.PrintLast Go.Proofs.YtmfaopjfdedheaaGreatW.PrintMore
set_option linter.unusedVariables false
set_option linter.unusedSimpArgs false

theorem del_ev {l:List S42} (h:RightP l) (hn:l.length < 2000000000000) (key:ByteArray):Ev (fun k=>cells_Delete.f k l key) (l.filter (fun y=> !(y.f0.toList==key.toList)),0):=by
 refine ⟨l.length+1,fun k hk=>?_⟩
 show cells_Delete.f k l key=_
 unfold cells_Delete.f
 rw [cright_yes h k (by omega) (by omega)]
 simp only [Option.bind_some,if_true]
 rw [if_pos (by omega)]
def told (p:Pg) (low:ByteArray) (dsn:Int):Rs:=(p.id,p.right,p.level,p.low,p.high,p.fin,dsn,p.slow,p.sin,p.cells.filter (fun y=> !(y.f0.toList==low.toList)),0)
theorem unpost_ev (p c:Pg) (dsn:Int) (hp:p.ok) (hc:c.ok) (hP:CheckP p) (hC:CheckP c) (hd:dsn≤281474976710656) (hl:p.cells.length≤120) (hlev:p.level=c.level+1) (t0:Nat) (ht0:t0 < p.cells.length) (hk0:(rd_T42 p.cells (t0:Int)).f0.toList=c.low.toList) (hid:(idv (rd_T42 p.cells (t0:Int)).f1).1=c.id):
  Ev (fun k=>merge_Unpost.f k p.id p.right p.level p.low p.high p.fin p.dsn p.slow p.sin p.cells c.id c.right c.level c.low c.high c.fin c.dsn c.slow c.sin c.cells dsn) (if t0=0 then err 9 else told p c.low dsn):=by
 have hpc:=check_ev p hp;have hcc:=check_ev c hc
 rw [chk0.2 hP] at hpc;rw [chk0.2 hC] at hcc
 have hlk:look p.cells c.low=some (rd_T42 p.cells (t0:Int)).f1:=look_at hP.cells ht0 hk0
 have hcl:=hC.level2;have hcl0:=hc.level0
 have hkey:∀ s:Nat,s < p.cells.length→(rd_T42 p.cells (s:Int)).f0.toList=c.low.toList→s=t0:=fun s hs e=>by
  rcases Nat.lt_trichotomy s t0 with h|h|h
  ·have:=srt' hP.cells h ht0;rw [e,hk0] at this;exact (lt_irr this).elim
  ·exact h
  ·have:=srt' hP.cells h hs;rw [e,hk0] at this;exact (lt_irr this).elim
 have hj1:Ev (fun k=>merge_Unpost.j1 k dsn false p.id p.right p.level p.low p.high p.fin p.dsn p.slow p.sin p.cells c.id c.right c.level c.low c.high c.fin c.dsn c.slow c.sin c.cells) (if t0=0 then err 9 else told p c.low dsn):=by
  by_cases h0:t0=0
  ·subst h0
   exact (Ev.const _).succ fun k=>by simp only [merge_Unpost.j1];rw [if_neg (by simp),if_pos (by omega),if_pos (show (rd_T42 p.cells 0).f0.toList=c.low.toList from hk0)];rfl
  ·rw [if_neg h0]
   have hne:¬ (rd_T42 p.cells 0).f0.toList=c.low.toList:=fun e=>h0 (hkey 0 (by omega) e).symm
   refine Ev.succ (g:=fun k=>(cells_Delete.f k p.cells c.low).bind fun bt223=>some (p.id,p.right,p.level,p.low,p.high,p.fin,dsn,p.slow,p.sin,bt223.1,bt223.2)) ?_ (fun k=>by simp only [merge_Unpost.j1];rw [if_neg (by simp),if_pos (by omega),if_neg hne])
   exact (del_ev hP.cells (by omega) c.low).bind (Ev.const _)
 have hj0:Ev (fun k=>merge_Unpost.j0 k dsn false p.id p.right p.level p.low p.high p.fin p.dsn p.slow p.sin p.cells c.id c.right c.level c.low c.high c.fin c.dsn c.slow c.sin c.cells) (if t0=0 then err 9 else told p c.low dsn):=by
  refine Ev.succ (g:=fun k=>(cells_Find.f k p.cells c.low).bind fun bt218=>((page_Id.f k bt218.1).bind fun bt220=>(if bt218.2=true then (merge_Unpost.j1 k dsn (bt220.1 != c.id) p.id p.right p.level p.low p.high p.fin p.dsn p.slow p.sin p.cells c.id c.right c.level c.low c.high c.fin c.dsn c.slow c.sin c.cells) else (merge_Unpost.j1 k dsn true p.id p.right p.level p.low p.high p.fin p.dsn p.slow p.sin p.cells c.id c.right c.level c.low c.high c.fin c.dsn c.slow c.sin c.cells)))) ?_ (fun k=>by simp only [merge_Unpost.j0];rw [if_neg (by simp),if_pos (by omega)])
  refine Ev.bind (a:=((look p.cells c.low).getD ⟨#[]⟩,(look p.cells c.low).isSome)) ⟨p.cells.length+1,fun k hk=>find_eq hP.cells k (by omega) (by omega) c.low⟩ ?_
  rw [hlk]
  refine (id_ev (rd_T42 p.cells (t0:Int)).f1 ?_).bind ?_
  ·have:=(hp.cell _ (rd_mem ht0)).2;omega
  ·rw [hid,show (c.id != c.id)=false by simp]
   exact hj1.congr fun k=>if_pos rfl
 unfold merge_Unpost.f
 rw [decide_eq_false (show ¬ dsn > 281474976710656 by omega)]
 refine hpc.bind (hcc.bind (Ev.bind (a:=true) ?_ ?_))
 ·exact ((errno2_b 0 0).mono fun b hb=>hb.2 ⟨rfl,rfl⟩).ev
 ·exact hj0.congr fun k=>if_pos rfl
/-! ### the sets of joined leaves -/
theorem most_top {low:Int} {l:List Int} (h:Good low l):low≤most_ low l∧(∀ x∈l,x≤most_ low l)∧(most_ low l=low∨most_ low l∈l):=by
 unfold most_
 rw [if_pos h]
 have h':=good_iff.1 h
 by_cases h0:0 < l.length
 ·rw [if_pos h0,rd_get l _ (by omega)]
  have hm:l[l.length - 1]∈l:=List.getElem_mem _
  have:=h'.2.1 _ hm
  refine ⟨by omega,fun x hx=>?_,.inr hm⟩
  obtain ⟨i,hi,rfl⟩:=List.mem_iff_getElem.1 hx
  rcases Nat.lt_or_ge i (l.length - 1) with h1|h1
  ·have:=List.pairwise_iff_getElem.1 h'.1 i (l.length - 1) hi (by omega) h1
   omega
  ·have:i=l.length - 1:=by omega
   subst this
   exact Int.le_refl _
 ·rw [if_neg h0]
  refine ⟨Int.le_refl _,fun x hx=>?_,.inl rfl⟩
  have:l=[]:=List.length_eq_zero_iff.1 (by omega)
  rw [this] at hx
  cases hx
theorem set_join {a b:Pg} (A:CheckP a) (B:CheckP b) {low:Int} (ha:a.slow≤low) (hb:b.slow≤low) (hl:low≤281474976710656):
  (setR a b low).2.2=0∧Good (setR a b low).1 (setR a b low).2.1∧most_ (setR a b low).1 (setR a b low).2.1≤281474976710656∨(setR a b low).2.2=6∧1000 < a.sin.length+b.sin.length:=by
 have ea:mx low a.slow=low:=by unfold mx;split <;> omega
 have eb:mx low b.slow=low:=by unfold mx;split <;> omega
 have ra:raise_ a.slow a.sin low=(low,a.sin.filter (fun x=>decide (x > low)),0):=by unfold raise_;rw [if_pos A.good,ea]
 have rb:raise_ b.slow b.sin low=(low,b.sin.filter (fun x=>decide (x > low)),0):=by unfold raise_;rw [if_pos B.good,eb]
 have ga:=raise_good A.good low;have gb:=raise_good B.good low
 rw [ea] at ga;rw [eb] at gb
 unfold setR
 rw [ra,rb]
 show (joined_ low _ low _).2.2=0∧_∨_
 have hq:joined_ low (a.sin.filter (fun x=>decide (x > low))) low (b.sin.filter (fun x=>decide (x > low)))=if 1000 < (jl (a.sin.filter (fun x=>decide (x > low))) (b.sin.filter (fun x=>decide (x > low)))).length then (0,[],6) else (low,jl (a.sin.filter (fun x=>decide (x > low))) (b.sin.filter (fun x=>decide (x > low))),0):=by
  unfold joined_
  rw [if_pos ⟨ga,gb⟩,if_pos rfl]
 show ((joined_ low (a.sin.filter (fun x=>decide (x > low))) low (b.sin.filter (fun x=>decide (x > low)))).2.2=0∧Good (joined_ low (a.sin.filter (fun x=>decide (x > low))) low (b.sin.filter (fun x=>decide (x > low)))).1 (joined_ low (a.sin.filter (fun x=>decide (x > low))) low (b.sin.filter (fun x=>decide (x > low)))).2.1∧most_ (joined_ low (a.sin.filter (fun x=>decide (x > low))) low (b.sin.filter (fun x=>decide (x > low)))).1 (joined_ low (a.sin.filter (fun x=>decide (x > low))) low (b.sin.filter (fun x=>decide (x > low)))).2.1≤281474976710656)∨((joined_ low (a.sin.filter (fun x=>decide (x > low))) low (b.sin.filter (fun x=>decide (x > low)))).2.2=6∧_)
 rw [hq]
 by_cases c:1000 < (jl (a.sin.filter (fun x=>decide (x > low))) (b.sin.filter (fun x=>decide (x > low)))).length
 ·rw [if_pos c]
  have h1:=jl_length (a.sin.filter (fun x=>decide (x > low))) (b.sin.filter (fun x=>decide (x > low)))
  have h2:=List.length_filter_le (fun x=>decide (x > low)) a.sin
  have h3:=List.length_filter_le (fun x=>decide (x > low)) b.sin
  exact .inr ⟨rfl,by omega⟩
 ·rw [if_neg c]
  have gj:=jl_good ga gb c
  refine .inl ⟨rfl,gj,?_⟩
  rcases (most_top gj).2.2 with h|h
  ·change most_ low (jl _ _)≤_;rw [h];exact hl
  ·rcases (jl_mem _ _ _).1 h with h|h
   ·have:=(most_top A.good).2.1 _ (List.mem_filter.1 h).1
    have:=A.most
    change most_ low (jl _ _)≤_;omega
   ·have:=(most_top B.good).2.1 _ (List.mem_filter.1 h).1
    have:=B.most
    change most_ low (jl _ _)≤_;omega
/-! ### the law's round -/
structure Fr (F:List S28) (t:S28) (l:List S28) (low dsn:Int):Prop where
 sz:Sz F
 fo:Fo F t
 row:Row F 0 l
 few:∀ x∈F,x.f8.length≤60∧x.f7.f1.length≤1100
 low2:low≤281474976710656
 dsn2:dsn≤281474976710656
 big:l.length < 4611686018427387904
theorem sz_of {F G:List S28} {q:S28} (hs:Sz F) (hq:(pg q).ok) (hl:G.length≤F.length) (hg:∀ x∈G,x=q∨x∈F):Sz G:=
 ⟨Nat.le_trans hl hs.len,fun x hx=>(hg x hx).elim (fun e=>e ▸ hq) (hs.ok x)⟩
theorem rep_mem {F:List S28} {q x:S28} (hx:x∈F.map (rep q)):x=q∨x∈F:=by
 obtain ⟨y,hy,rfl⟩:=List.mem_map.1 hx
 unfold rep
 split
 ·exact .inl rfl
 ·exact .inr hy
/-- Neighbours of one level stand side by side. -/
theorem beside_of {F:List S28} {t a b:S28} (hs:Sz F) (h:Fo F t) (ha:a∈F) (hb:b∈F) (e:b.f0=a.f1) (el:a.f2=b.f2):a.f5=true∧BesideP (pg a) (pg b):=by
 have A:=h.chk a ha;have B:=h.chk b hb
 have hf:a.f5=true:=A.fin.2 (by have:1≤b.f0:=B.id1;show 0 < a.f1;omega)
 have a0:0≤a.f2:=(hs.ok a ha).level0
 obtain ⟨l,hl⟩:=h.row a.f2 a0 (h.top a ha).1
 have hal:=(row_mem hl).2 ⟨ha,rfl⟩
 obtain ⟨pre,y,post,e1,y1,y2⟩:=from_adj hl.1 a hal hf
 have hy:=(row_mem hl).1 (show y∈l by rw [e1];simp)
 obtain rfl:y=b:=ids_inj h.ids hy.1 hb (y1.trans e.symm)
 refine ⟨hf,⟨A,B,el,e.symm,fun q=>?_,hf,y2.symm⟩⟩
 have q':y.f1=a.f0:=q
 by_cases hyf:y.f5=true
 ·obtain ⟨_,z,_,e2,z1,z2⟩:=from_adj hl.1 y ((row_mem hl).2 hy) hyf
  have hz:=(row_mem hl).1 (show z∈l by rw [e2];simp)
  obtain rfl:z=a:=ids_inj h.ids hz.1 ha (z1.trans q')
  have h1:=span_lt A hf;have h2:=span_lt B hyf
  rw [← y2] at h1
  rw [← z2] at h2
  exact lt_irr (lt_tr h1 h2)
 ·have h1:=A.id1;have h2:=B.fin
  have:1≤a.f0:=h1
  exact hyf (h2.2 (by show 0 < y.f1;omega))
theorem law_l0 {F:List S28} {t:S28} {l:List S28} {low dsn:Int} (n2:Int) (H:Fr F t l low dsn) (opn:List Int) (hopn:opn.length=F.countP (unp F t.f0)):∀ d (i:Nat),F.length - i=d→i≤F.length→EvP (fun k=>lockkeeperlaw16_MergeForest.l0 k F t.f0 (l.flatMap (·.f8)) opn (i:Int) low dsn n2) (fun r=>r=true):=by
 have hF:=H.sz.len
 have hcl:(l.flatMap (·.f8)).length < 4611686018427387904:=by
  have:∀ m:List S28,(∀ x∈m,x∈F)→(m.flatMap (·.f8)).length≤60 * m.length:=by
   intro m;induction m with
   |nil=>intro _;simp
   |cons x m ih=>
    intro hm
    have:=(H.few x (hm x List.mem_cons_self)).1
    have:=ih fun y hy=>hm y (List.mem_cons_of_mem _ hy)
    rw [List.flatMap_cons,List.length_append,List.length_cons];omega
  have h1:=this l fun x hx=>((row_mem H.row).1 hx).1
  have h2:=H.row.2.length_eq
  have h3:=List.length_filter_le (fun x:S28=>x.f2==0) F
  omega
 intro d;induction d with
 |zero=>
  intro i h1 h2
  exact EvP.succ head_evp (fun k=>by simp only [lockkeeperlaw16_MergeForest.l0];rw [if_neg (by omega)])
 |succ d ih=>
  intro i h1 h2
  have on:=ih (i+1) (by omega) (by omega)
  have ha:=rd28_mem (show i < F.length by omega)
  generalize hae:rd_T28 F (i:Int)=a at ha
    -- no neighbour
  have skip:∀ b:S28,EvP (fun k=>lockkeeperlaw16_MergeForest.j2 k F t.f0 (l.flatMap (·.f8)) opn (i:Int) true low dsn n2 a.f0 a.f1 a.f2 a.f3 a.f4 a.f5 a.f6 a.f7.f0 a.f7.f1 a.f8 b.f0 b.f1 b.f2 b.f3 b.f4 b.f5 b.f6 b.f7.f0 b.f7.f1 b.f8) (fun r=>r=true):=fun b=>
   EvP.succ on (fun k=>by simp only [lockkeeperlaw16_MergeForest.j2];rw [if_pos trivial,w1 (by omega)])
  refine EvP.succ ?_ (fun k=>by simp only [lockkeeperlaw16_MergeForest.l0];rw [if_pos (by omega),if_pos (by omega),hae])
  refine (at_evp F hF a.f1).bind fun r hr=>?_
  rcases hr with ⟨b,hb,eb,rfl⟩|⟨_,rfl⟩
  rotate_left
  ·exact (skip z28).congr fun k=>if_neg (by simp [tup])
  refine EvP.congr (g:=fun k=>lockkeeperlaw16_MergeForest.j2 k F t.f0 (l.flatMap (·.f8)) opn (i:Int) (a.f2 != b.f2) low dsn n2 a.f0 a.f1 a.f2 a.f3 a.f4 a.f5 a.f6 a.f7.f0 a.f7.f1 a.f8 b.f0 b.f1 b.f2 b.f3 b.f4 b.f5 b.f6 b.f7.f0 b.f7.f1 b.f8) ?_ (fun k=>if_pos rfl)
  by_cases el:a.f2=b.f2
  rotate_left
  ·rw [show (a.f2 != b.f2)=true from bne_iff_ne.2 el]
   exact skip b
  rw [show (a.f2 != b.f2)=false by rw [el];simp]
  obtain ⟨haf,hbs⟩:=beside_of H.sz H.fo ha hb eb el
  have oka:=H.sz.ok a ha;have okb:=H.sz.ok b hb
  have hbt:b.f0≠t.f0:=fun e=>by
   obtain rfl:b=t:=ids_inj H.fo.ids hb H.fo.mem e
   have q:=(H.fo.top a ha).2 el
   exact (H.fo.chk a ha).other (eb.symm.trans q.symm)
  have a0:0≤a.f2:=oka.level0
  have b0:0≤b.f2:=okb.level0
    -- what the law asks of the new forest
  have ask:∀ (G:List S28) (q:S28) (l':List S28) (m:Int),Sz G→Fo G (rep q t)→Row G 0 l'→(∀ x∈G,x.f8.length≤120)→l'.flatMap (·.f8)=l.flatMap (·.f8)→((G.countP (unp G t.f0):Nat):Int)=m→
    EvP (fun k=>(lockkeeperref14_Check.f k G t.f0).bind fun c=>if c=0 then ((lockkeeperref14_Cells.f k G t.f0).bind fun y=>((lockkeeperref10_Same.f k y (l.flatMap (·.f8))).bind fun s=>if s=true then ((lockkeeperref14_Unposted.f k G t.f0).bind fun u=>if (u.length:Int)=m then lockkeeperlaw16_MergeForest.l0 k F t.f0 (l.flatMap (·.f8)) opn ((i+1:Nat):Int) low dsn n2 else none) else none)) else none) (fun r=>r=true):=fun G q l' m g1 g2 g3 g4 g5 g6=>by
   have e0:(rep q t).f0=t.f0:=rep_f0 q t
   have c1:=fcheck_ev g1 g2;have c2:=cells_ev g1 g2 g4 g3;have c3:=unposted_evp g1 g2
   rw [e0] at c1 c2 c3
   rw [g5] at c2
   refine c1.to.bind fun c hc=>?_
   subst hc
   refine EvP.congr (g:=fun k=>(lockkeeperref14_Cells.f k G t.f0).bind fun y=>((lockkeeperref10_Same.f k y (l.flatMap (·.f8))).bind fun s=>if s=true then ((lockkeeperref14_Unposted.f k G t.f0).bind fun u=>if (u.length:Int)=m then lockkeeperlaw16_MergeForest.l0 k F t.f0 (l.flatMap (·.f8)) opn ((i+1:Nat):Int) low dsn n2 else none) else none)) ?_ (fun k=>if_pos rfl)
   refine c2.to.bind fun y hy=>?_
   subst hy
   refine (same_ev _ hcl).to.bind fun s hs=>?_
   subst hs
   refine EvP.congr (g:=fun k=>(lockkeeperref14_Unposted.f k G t.f0).bind fun u=>if (u.length:Int)=m then lockkeeperlaw16_MergeForest.l0 k F t.f0 (l.flatMap (·.f8)) opn ((i+1:Nat):Int) low dsn n2 else none) ?_ (fun k=>if_pos rfl)
   refine c3.bind fun u hu=>on.congr fun k=>if_pos ?_
   rw [hu];exact g6
  refine EvP.succ ?_ (fun k=>by simp only [lockkeeperlaw16_MergeForest.j2];rw [if_neg (by simp)])
  refine (beside_b (pg a) (pg b) oka okb).bind fun s hs=>?_
  rw [hs.2 hbs]
  refine EvP.congr (g:=fun k=>(lockkeeperref14_Posted.f k F b.f0).bind _) ?_ (fun k=>if_pos rfl)
  refine (posted_b H.sz b.f0).bind fun p hp=>EvP.ite (fun e=>?_) (fun e=>?_)
  ·-- a child is unposted
   have hpo:=hp.1 e
   obtain ⟨x,hx,hx0,c,hc,ec⟩:=hpo
   obtain ⟨z,hz,z1,z2,z3⟩:=H.fo.kids x hx hx0 c hc
   obtain rfl:z=b:=ids_inj H.fo.ids hz hb (z1.trans ec)
   have hlv:(z.f2+1) % 256=z.f2+1:=by have:=(H.fo.chk z hb).level2;have:z.f2≤10:=this;omega
   rw [hlv]
   have hxt:=(H.fo.top x hx).1
   refine (find_evp H.sz H.fo (fun x hx=>by have:=(H.few x hx).1;omega) z.f3 (z.f2+1) (by omega) (by omega)).bind fun r hr=>?_
   obtain ⟨r1,r2⟩:=r
   obtain ⟨hr0,pre,u,hr1,hpre,hu,hu2,huk⟩:=hr
   have hr0':r2=0:=hr0
   have hr1':r1=pre++[u.f0]:=hr1
   subst hr0' hr1'
   have hxk:=has_cell (H.fo.chk x hx) hc
   rw [← z3] at hxk
   obtain rfl:x=u:=H.fo.range hx hu (by omega) (by omega) hxk huk
   have ew:wrap64 (((pre++[x.f0]).length:Int) - 1)=(pre.length:Int):=by rw [List.length_append,List.length_singleton];unfold wrap64;omega
   have elen:((pre++[x.f0]).length:Int)=(pre.length:Int)+1:=by rw [List.length_append,List.length_singleton];omega
   simp only [ew,if_true]
   refine EvP.congr (g:=fun k=>(lockkeeperref14_At.f k F x.f0).bind _) ?_ (fun k=>(if_pos (by omega)).trans ((if_pos (by omega)).trans (by rw [rd_last])))
   refine (at_yes hF H.fo.ids hu rfl).to.bind fun r hr=>?_
   subst hr
   obtain ⟨t0,ht0,et0⟩:=mem_rd hc
   have fx:=(H.few x hx).1
   refine (unpost_ev (pg x) (pg z) dsn (H.sz.ok x hx) okb (H.fo.chk x hx) (H.fo.chk z hb) H.dsn2 (by show x.f8.length≤120;omega) (by show x.f2=z.f2+1;omega) t0 ht0 (by show (rd_T42 x.f8 (t0:Int)).f0.toList=lo z;rw [et0,z3]) (by show (idv (rd_T42 x.f8 (t0:Int)).f1).1=z.f0;rw [et0];exact ec)).to.bind fun r hr=>?_
   subst hr
   by_cases h0:t0=0
   ·rw [if_pos h0,w1 (by omega)]
    exact on.congr fun k=>if_pos rfl
   rw [if_neg h0]
      -- the page that is told
   have hne:lo x≠lo z:=fun q=>by
    have hin:=(H.fo.chk x hx).inner hx0
    have f0:(rd_T42 x.f8 ((0:Nat):Int)).f0.toList=lo x:=hin.2.2.2
    have:=srt' (H.fo.chk x hx).cells (show 0 < t0 by omega) ht0
    have e1:(rd_T42 (pg x).cells (t0:Int)).f0.toList=lo z:=by show (rd_T42 x.f8 (t0:Int)).f0.toList=_;rw [et0,z3]
    rw [e1,← q,← f0] at this
    exact lt_irr this
   generalize hq:(⟨x.f0,x.f1,x.f2,x.f3,x.f4,x.f5,dsn,x.f7,x.f8.filter (fun y=> !(y.f0.toList==lo z))⟩:S28)=q
   have lk:Like q x:=by rw [← hq];exact ⟨rfl,rfl,rfl,rfl,rfl,rfl⟩
   have q8:q.f8=x.f8.filter (fun y=> !(y.f0.toList==lo z)):=by rw [← hq]
   have qck:CheckP (pg q):=check_un (H.fo.chk x hx) hx0 lk (by rw [← hq]) (by rw [← hq];exact H.dsn2) (lo z) q8 hne
   have q8s:∀ c,c∈q.f8↔c∈x.f8∧c.f0.toList≠lo z:=fun c=>by rw [q8,List.mem_filter,Bool.not_eq_true',beq_eq_false_iff_ne]
   have hun:Un F x z q:=⟨hx,hb,by omega,b0,hxk,lk,q8s⟩
   have okx:=H.sz.ok x hx
   have l8:q.f8.length≤x.f8.length:=by rw [q8];exact List.length_filter_le _ _
   have okq:(pg q).ok:=by
    have o:=okx.cell
    refine ⟨by show 0≤q.f0;rw [lk.e0];exact okx.id0,by show 0≤q.f1;rw [lk.e1];exact okx.right0,by show 0≤q.f2;rw [lk.e2];exact okx.level0,by show q.f2 < 256;rw [lk.e2];exact okx.level1,by rw [← hq];exact okx.slow0,by rw [← hq];exact okx.sin,by show q.f8.length < _;omega,fun c hc=>o c ((q8s c).1 hc).1⟩
   have hput:=put_ev hF H.fo.ids hx lk.e0
   rw [← hq] at hput
   refine EvP.congr (g:=fun k=>(lockkeeperref14_Put.f k F x.f0 x.f1 x.f2 x.f3 x.f4 x.f5 dsn x.f7.f0 x.f7.f1 (x.f8.filter (fun y=> !(y.f0.toList==lo z)))).bind _) ?_ (fun k=>if_neg (by show ¬ (0:Int)=9;omega))
   refine hput.to.bind fun G hG=>?_
   rw [hq] at hG
   subst hG
   rw [w1 (show i < 4611686018427387904 by omega)]
   refine EvP.congr (g:=fun k=>_) (ask (F.map (rep q)) q l (wrap64 ((opn.length:Int)+1)) (sz_of H.sz okq (by simp) (fun y hy=>rep_mem hy)) (H.fo.put hx lk qck (fun c hc=>((q8s c).1 hc).1)) (row_put H.fo hx lk (by omega) H.row) (fun y hy=>(rep_mem hy).elim (fun e=>by rw [e];omega) (fun hy=>by have:=(H.few y hy).1;omega)) rfl ?_) (fun k=>if_pos rfl)
   rw [count_un H.fo hun ⟨x,hx,hx0,c,hc,ec⟩ t.f0 hbt,← hopn]
   have:opn.length≤40:=by rw [hopn];exact Nat.le_trans List.countP_le_length hF
   unfold wrap64;omega
  ·-- two pages become one
   have hpo:¬ posted F b.f0:=fun q=>e (hp.2 q)
   have fa:=H.few a ha;have fb:=H.few b hb
   refine (join_ev (pg a) (pg b) low dsn oka okb fa.2 fb.2 fa.1 fb.1).to.bind fun r hr=>?_
   subst hr
   have hall:CheckP (pg a)∧CheckP (pg b)∧dsn≤281474976710656∧low≤281474976710656:=⟨hbs.one,hbs.two,H.dsn2,H.low2⟩
      -- where one is told
   have good:∀ q:S28,Jn F a b q→q.f6=dsn→Good q.f7.f0 q.f7.f1→most_ q.f7.f0 q.f7.f1≤281474976710656→(0 < a.f2→q.f7.f0=0∧q.f7.f1=[])→0≤q.f7.f0→q.f7.f1.length≤1100→EvP (fun k=>lockkeeperlaw16_MergeForest.j3 k F t.f0 (l.flatMap (·.f8)) opn (i:Int) 0 false low dsn n2 a.f0 a.f1 a.f2 a.f3 a.f4 a.f5 a.f6 a.f7.f0 a.f7.f1 a.f8 b.f0 b.f1 b.f2 b.f3 b.f4 b.f5 b.f6 b.f7.f0 b.f7.f1 b.f8 q.f0 q.f1 q.f2 q.f3 q.f4 q.f5 q.f6 q.f7.f0 q.f7.f1 q.f8) (fun r=>r=true):=fun q j e6 g m gi s0 sl=>by
    have qck:CheckP (pg q):=check_join H.fo j hbs (by rw [e6];exact H.dsn2) g m gi
    have l8:q.f8.length≤120:=by rw [j.e8,List.length_append];omega
    have okq:(pg q).ok:=by
     refine ⟨by show 0≤q.f0;rw [j.e0];exact oka.id0,by show 0≤q.f1;rw [j.e1];exact okb.right0,by show 0≤q.f2;rw [j.e2];exact oka.level0,by show q.f2 < 256;rw [j.e2];exact oka.level1,s0,by show q.f7.f1.length < _;omega,by show q.f8.length < _;omega,fun c hc=>?_⟩
     have hc':c∈q.f8:=hc
     rw [j.e8] at hc'
     exact (List.mem_append.1 hc').elim (oka.cell c) (okb.cell c)
    obtain ⟨l',hl',hfl⟩:=row_join H.fo j H.row
    refine EvP.succ (g:=fun k=>(lockkeeperref14_Put.f k F q.f0 q.f1 q.f2 q.f3 q.f4 q.f5 q.f6 q.f7.f0 q.f7.f1 q.f8).bind fun t546=>((lockkeeperref14_Drop.f k t546 b.f0).bind fun G=>(lockkeeperref14_Check.f k G t.f0).bind fun c=>if c=0 then ((lockkeeperref14_Cells.f k G t.f0).bind fun y=>((lockkeeperref10_Same.f k y (l.flatMap (·.f8))).bind fun s=>if s=true then ((lockkeeperref14_Unposted.f k G t.f0).bind fun u=>if (u.length:Int)=wrap64 ((opn.length:Int) - 1) then lockkeeperlaw16_MergeForest.l0 k F t.f0 (l.flatMap (·.f8)) opn ((i+1:Nat):Int) low dsn n2 else none) else none)) else none)) ?_ (fun k=>by simp only [lockkeeperlaw16_MergeForest.j3];rw [if_neg (by simp),if_pos trivial,w1 (by omega)])
    refine (put_ev hF H.fo.ids ha j.e0).to.bind fun G hG=>?_
    subst hG
    refine (drop_ev (F.map (rep q)) (by rw [List.length_map];exact hF) b.f0).to.bind fun G hG=>?_
    subst hG
    refine ask (cut F q b) q l' _ (sz_of H.sz okq (by unfold cut;refine Nat.le_trans (List.length_filter_le _ _) ?_;rw [List.length_map];exact Nat.le_refl _) (fun y hy=>rep_mem (List.mem_filter.1 hy).1)) (H.fo.join j qck hpo) hl' (fun y hy=>(rep_mem (List.mem_filter.1 hy).1).elim (fun e=>by rw [e];exact l8) (fun hy=>by have:=(H.few y hy).1;omega)) hfl ?_
    have hcnt:=count_join H.fo j hpo t.f0 hbt
    have:opn.length≤40:=by rw [hopn];exact Nat.le_trans List.countP_le_length hF
    rw [← hopn] at hcnt
    unfold wrap64;omega
   have skip3:∀ (er:Int) (q:S28),EvP (fun k=>lockkeeperlaw16_MergeForest.j3 k F t.f0 (l.flatMap (·.f8)) opn (i:Int) er true low dsn n2 a.f0 a.f1 a.f2 a.f3 a.f4 a.f5 a.f6 a.f7.f0 a.f7.f1 a.f8 b.f0 b.f1 b.f2 b.f3 b.f4 b.f5 b.f6 b.f7.f0 b.f7.f1 b.f8 q.f0 q.f1 q.f2 q.f3 q.f4 q.f5 q.f6 q.f7.f0 q.f7.f1 q.f8) (fun r=>r=true):=fun er q=>
    EvP.succ on (fun k=>by simp only [lockkeeperlaw16_MergeForest.j3];rw [if_pos trivial,w1 (by omega)])
   by_cases hlv:0 < a.f2
   ·have hia:=hbs.one.inner hlv
    have ej:joinR (pg a) (pg b) low dsn=((pg a).id,(pg b).right,(pg a).level,(pg a).low,(pg b).high,(pg b).fin,dsn,(pg a).slow,(pg a).sin,(pg a).cells++(pg b).cells,0):=by
     unfold joinR;rw [if_neg (not_not_intro hall),if_neg (not_not_intro hbs),if_pos (show 0 < (pg a).level from hlv)]
    rw [ej]
    refine EvP.congr (g:=fun k=>_) (good ⟨a.f0,b.f1,a.f2,a.f3,b.f4,b.f5,dsn,⟨a.f7.f0,a.f7.f1⟩,a.f8++b.f8⟩ ⟨ha,hb,haf,eb.symm,el,a0,rfl,rfl,rfl,rfl,rfl,rfl,rfl⟩ rfl hbs.one.good hbs.one.most (fun _=>⟨hia.1,hia.2.1⟩) oka.slow0 fa.2) (fun k=>if_neg (by show ¬ (0:Int)=6;omega))
   ·by_cases hsl:low < (pg a).slow∨low < (pg b).slow
    ·have ej:joinR (pg a) (pg b) low dsn=err 9:=by
      unfold joinR;rw [if_neg (not_not_intro hall),if_neg (not_not_intro hbs),if_neg (show ¬ 0 < (pg a).level from hlv),if_pos hsl]
     rw [ej]
     refine EvP.congr (g:=fun k=>lockkeeperlaw16_MergeForest.j3 k F t.f0 (l.flatMap (·.f8)) opn (i:Int) 9 false low dsn n2 a.f0 a.f1 a.f2 a.f3 a.f4 a.f5 a.f6 a.f7.f0 a.f7.f1 a.f8 b.f0 b.f1 b.f2 b.f3 b.f4 b.f5 b.f6 b.f7.f0 b.f7.f1 b.f8 0 0 0 ⟨#[]⟩ ⟨#[]⟩ false 0 0 [] []) ?_ (fun k=>if_neg (by show ¬ (9:Int)=6;omega))
     refine EvP.succ on (fun k=>?_)
     simp only [lockkeeperlaw16_MergeForest.j3]
     rw [if_neg (by simp),if_neg (by omega),if_pos trivial,w1 (by omega)]
     rcases hsl with q|q
     ·have q':low < a.f7.f0:=q
      rw [if_neg (by omega)]
     ·have q':low < b.f7.f0:=q
      split
      ·rw [if_neg (by omega)]
      ·rfl
    ·have sl:(pg a).slow≤low∧(pg b).slow≤low:=by omega
     rcases set_join hbs.one hbs.two sl.1 sl.2 H.low2 with ⟨s1,s2,s3⟩|⟨s1,s2⟩
     ·have ej:joinR (pg a) (pg b) low dsn=((pg a).id,(pg b).right,(pg a).level,(pg a).low,(pg b).high,(pg b).fin,dsn,(setR (pg a) (pg b) low).1,(setR (pg a) (pg b) low).2.1,(pg a).cells++(pg b).cells,0):=by
       unfold joinR;rw [if_neg (not_not_intro hall),if_neg (not_not_intro hbs),if_neg (show ¬ 0 < (pg a).level from hlv),if_neg hsl,if_pos s1]
      rw [ej]
      have hlen:=s2.2
      have h0:0≤(setR (pg a) (pg b) low).1:=by
       have hr:(setR (pg a) (pg b) low).1=low:=by
        have ea:mx low (pg a).slow=low:=by unfold mx;split <;> omega
        have eb':mx low (pg b).slow=low:=by unfold mx;split <;> omega
        have s1':=s1
        unfold setR raise_ at s1' ⊢
        rw [if_pos hbs.one.good,if_pos hbs.two.good,ea,eb'] at s1' ⊢
        unfold joined_ at s1' ⊢
        have ga:=raise_good hbs.one.good low;have gb:=raise_good hbs.two.good low
        rw [ea] at ga;rw [eb'] at gb
        rw [if_pos ⟨ga,gb⟩,if_pos rfl] at s1' ⊢
        split at s1'
        ·cases s1'
        ·rename_i hh;rw [if_neg hh]
       rw [hr];have:=oka.slow0;omega
      refine EvP.congr (g:=fun k=>_) (good ⟨a.f0,b.f1,a.f2,a.f3,b.f4,b.f5,dsn,⟨(setR (pg a) (pg b) low).1,(setR (pg a) (pg b) low).2.1⟩,a.f8++b.f8⟩ ⟨ha,hb,haf,eb.symm,el,a0,rfl,rfl,rfl,rfl,rfl,rfl,rfl⟩ rfl s2 s3 (fun q=>absurd q hlv) h0 (by show (setR (pg a) (pg b) low).2.1.length≤1100;omega)) (fun k=>if_neg (by show ¬ (0:Int)=6;omega))
     ·have ej:joinR (pg a) (pg b) low dsn=err 6:=by
       unfold joinR;rw [if_neg (not_not_intro hall),if_neg (not_not_intro hbs),if_neg (show ¬ 0 < (pg a).level from hlv),if_neg hsl,if_neg (by omega),s1]
      rw [ej]
      have hw:decide (wrap64 ((a.f7.f1.length:Int)+(b.f7.f1.length:Int)) > 1000)=true:=decide_eq_true (by
       have s2':1000 < a.f7.f1.length+b.f7.f1.length:=s2
       have:=fa.2;have:=fb.2
       unfold wrap64;omega)
      rw [hw]
      exact (skip3 6 z28).congr fun k=>if_pos rfl
/-- MergeForest's plain law. -/
theorem forest_evp (F:List S28) (root low dsn n2:Int) (hlen:F.length < 4611686018427387904) (hok:∀ x∈F,(pg x).ok):EvP (fun k=>lockkeeperlaw16_MergeForest.f k F root low dsn n2) (fun r=>r=true):=by
 have j0t:EvP (fun k=>lockkeeperlaw16_MergeForest.j0 k F root true low dsn n2) (fun r=>r=true):=EvP.succ head_evp (fun k=>by simp only [lockkeeperlaw16_MergeForest.j0];rw [if_pos trivial])
 unfold lockkeeperlaw16_MergeForest.f
 refine (fsmall_evp F hlen (fun x hx=>by have:=(hok x hx).len;have:x.f8.length < 4398046511104:=this;omega)).bind fun s hs=>EvP.ite (fun e=>?_) (fun _=>j0t)
 obtain ⟨h40,hfew⟩:=hs e
 have hsz:Sz F:=⟨h40,hok⟩
 refine (fcheck_evp hsz root).bind fun r hr=>EvP.ite (fun e1=>EvP.ite (fun _=>j0t) (fun e2=>?_)) (fun _=>j0t)
 obtain ⟨t,rfl,h⟩:=hr.1 e1
 by_cases e3:low > 281474976710656
 ·rw [decide_eq_true e3];exact j0t
 rw [decide_eq_false e3]
 obtain ⟨l,hl⟩:=h.row 0 (Int.le_refl _) (hok t h.mem).level0
 have hll:l.length≤40:=by
  have h1:=hl.2.length_eq
  have h2:=List.length_filter_le (fun x:S28=>x.f2==0) F
  omega
 refine EvP.succ (g:=fun k=>(lockkeeperref14_Cells.f k F t.f0).bind fun t455=>((lockkeeperref14_Unposted.f k F t.f0).bind fun t458=>lockkeeperlaw16_MergeForest.l0 k F t.f0 t455 t458 ((0:Nat):Int) low dsn n2)) ?_ (fun k=>by simp only [lockkeeperlaw16_MergeForest.j0];rw [if_neg (by simp)];rfl)
 refine (cells_ev hsz h (fun x hx=>by have:=(hfew x hx).1;omega) hl).to.bind fun y hy=>?_
 subst hy
 refine (unposted_evp hsz h).bind fun u hu=>?_
 exact law_l0 n2 ⟨hsz,h,hl,hfew,by omega,by omega,by omega⟩ u hu _ 0 rfl (Nat.zero_le _)
end Go.Proofs.YtmfaopjfdedheaaGreat.Fq
namespace Go.Proofs.YtmfaopjfdedheaaGreat.Pure
open Go.RowKit Go.Proofs.YtmfaopjfdedheaaGreat.F Go.Proofs.YtmfaopjfdedheaaGreat.Fq
set_option linter.unusedVariables false
theorem MergeForest:lockkeeperlaw16_MergeForest.Pure:=by
 intro F root low dsn n2 hl hF _ _ _ _
 have hok:∀ x∈F,(pg x).ok:=fun x hx=>by
  obtain ⟨h0,h1,h2,_,_,_,_,⟨h7,h8,_⟩,h9,h10⟩:=hF x hx
  exact ⟨(wf64 h0).1,(wf64 h1).1,(wf8 h2).1,(wf8 h2).2,(wf64 h7).1,by show x.f7.f1.length < _;omega,by show x.f8.length < _;omega,fun c hc=>h10 c hc⟩
 obtain ⟨r,⟨K,hK⟩,hr⟩:=forest_evp F root low dsn n2 (by omega) hok
 exact ⟨K,(hK K (Nat.le_refl _)).trans (congrArg some hr)⟩
end Go.Proofs.YtmfaopjfdedheaaGreat.Pure
