/- Forests, without the program: levels side by side; a page put in another one's place; two pages become one. -/
import Derived.Test.YtmfaopjfdedheaaGreatFqd
namespace Go.Proofs.YtmfaopjfdedheaaGreat.Fq
open Go.RowKit Go.Proofs.YtmfaopjfdedheaaGreat.F Go.Proofs.YtmfaopjfdedheaaGreatW.PrintWords Go.Proofs.YtmfaopjfdedheaaGreatW.PrintLast Go.Proofs.YtmfaopjfdedheaaGreatW.PrintMore
set_option linter.unusedVariables false
set_option linter.unusedSimpArgs false

def pg (x:S28):Pg:=⟨x.f0,x.f1,x.f2,x.f3,x.f4,x.f5,x.f6,x.f7.f0,x.f7.f1,x.f8⟩
abbrev lo (x:S28):List UInt8:=x.f3.toList
abbrev hi (x:S28):List UInt8:=x.f4.toList
/-- Pages side by side, from a text on to the end. -/
def From:List UInt8→List S28→Prop
 |_,[]=>False
 |a,x::l=>lo x=a∧(x.f5=false∧l=[]∨x.f5=true∧(∀ y∈l.head?,y.f0=x.f1)∧From (hi x) l)
theorem lt_nlt {a b c:List UInt8} (h1:a < b) (h2:¬ c < b):a < c:=by
 by_cases e:b=c
 ·subst e;exact h1
 ·exact lt_tr h1 (nlt_le h2 (fun q=>e q))
theorem span_lt {x:S28} (h:CheckP (pg x)) (hf:x.f5=true):lo x < hi x:=by
 have:=h.span
 unfold SpanR at this
 rw [show (pg x).fin=true from hf] at this
 simp only [if_true,Bool.and_eq_true] at this
 exact (lss_iff _ _).1 this.2
theorem from_lo:∀ {l:List S28} {a:List UInt8},From a l→(∀ x∈l,CheckP (pg x))→(∀ x∈l,¬ lo x < a)∧l.Pairwise (fun x y=>x.f5=true∧¬ lo y < hi x)
 |[],_,h,_=>absurd h (by simp [From])
 |x::l,a,h,hc=>by
  obtain ⟨rfl,h⟩:=h
  rcases h with ⟨_,rfl⟩|⟨h1,_,h3⟩
  ·exact ⟨fun y hy=>by rw [List.mem_singleton.1 hy];exact lt_irr,List.pairwise_singleton _ _⟩
  ·obtain ⟨q1,q2⟩:=from_lo h3 (fun y hy=>hc y (List.mem_cons_of_mem _ hy))
   have hs:=span_lt (hc x List.mem_cons_self) h1
   refine ⟨fun y hy=>?_,List.pairwise_cons.2 ⟨fun y hy=>⟨h1,q1 y hy⟩,q2⟩⟩
   rcases List.mem_cons.1 hy with rfl|hy
   ·exact lt_irr
   ·exact fun q=>q1 y hy (lt_tr q hs)
theorem from_pw {l:List S28} {a:List UInt8} (h:From a l) (hc:∀ x∈l,CheckP (pg x)):l.Pairwise (fun x y=>lo x < lo y):=
 (from_lo h hc).2.imp_of_mem fun hx _ q=>lt_nlt (span_lt (hc _ hx) q.1) q.2
theorem from_adj:∀ {l:List S28} {a:List UInt8},From a l→∀ x∈l,x.f5=true→∃ pre y post,l=pre++x::y::post∧y.f0=x.f1∧lo y=hi x
 |[],_,h,_,_,_=>absurd h (by simp [From])
 |z::l,a,h,x,hx,hf=>by
  obtain ⟨rfl,h⟩:=h
  rcases List.mem_cons.1 hx with rfl|hx
  ·rcases h with ⟨h1,_⟩|⟨h1,h2,h3⟩
   ·rw [h1] at hf;cases hf
   ·match l,h2,h3 with
    |[],_,h3=>exact absurd h3 (by simp [From])
    |y::post,h2,h3=>exact ⟨[],y,post,rfl,h2 y rfl,h3.1⟩
  ·rcases h with ⟨_,rfl⟩|⟨_,_,h3⟩
   ·cases hx
   ·obtain ⟨pre,y,post,rfl,q1,q2⟩:=from_adj h3 x hx hf
    exact ⟨z::pre,y,post,rfl,q1,q2⟩
theorem from_merge {q x y:S28} {post:List S28} (e0:q.f0=x.f0) (e3:q.f3=x.f3) (e1:q.f1=y.f1) (e4:q.f4=y.f4) (e5:q.f5=y.f5):∀ {pre:List S28} {a:List UInt8},From a (pre++x::y::post)→From a (pre++q::post)
 |[],a,h=>by
  obtain ⟨rfl,h⟩:=h
  rcases h with ⟨_,h⟩|⟨_,_,h3⟩
  ·cases h
  ·obtain ⟨_,h⟩:=h3
   exact ⟨by unfold lo;rw [e3],by unfold hi;rw [e5,e1,e4];exact h⟩
 |p::pre,a,h=>by
  obtain ⟨rfl,h⟩:=h
  rcases h with ⟨_,h⟩|⟨h1,h2,h3⟩
  ·simp at h
  ·refine ⟨rfl,.inr ⟨h1,fun y' hy=>?_,from_merge e0 e3 e1 e4 e5 h3⟩⟩
   cases pre with
   |nil=>
    obtain rfl:q=y':=by simpa using hy
    rw [e0];exact h2 x rfl
   |cons z pre=>exact h2 y' (by simpa using hy)
/-- Two pages that differ by what they have alone. -/
structure Like (q u:S28):Prop where
 e0:q.f0=u.f0
 e1:q.f1=u.f1
 e2:q.f2=u.f2
 e3:q.f3=u.f3
 e4:q.f4=u.f4
 e5:q.f5=u.f5
theorem Like.refl (q:S28):Like q q:=⟨rfl,rfl,rfl,rfl,rfl,rfl⟩
theorem from_map {r:S28→S28}:∀ {l:List S28} {a:List UInt8},(∀ x∈l,Like (r x) x)→From a l→From a (l.map r)
 |[],_,_,h=>absurd h (by simp [From])
 |x::l,a,hr,h=>by
  have hx:=hr x List.mem_cons_self
  obtain ⟨rfl,h⟩:=h
  refine ⟨by unfold lo;rw [hx.e3],?_⟩
  rw [hx.e5,hx.e1,show hi (r x)=hi x by unfold hi;rw [hx.e4]]
  rcases h with ⟨h1,rfl⟩|⟨h1,h2,h3⟩
  ·exact .inl ⟨h1,rfl⟩
  ·refine .inr ⟨h1,fun y hy=>?_,from_map (fun z hz=>hr z (List.mem_cons_of_mem _ hz)) h3⟩
   rw [List.head?_map,Option.mem_def,Option.map_eq_some_iff] at hy
   obtain ⟨z,hz,rfl⟩:=hy
   rw [(hr z (List.mem_cons_of_mem _ (List.mem_of_mem_head? hz))).e0];exact h2 z hz
/-- A level's pages. -/
def Row (F:List S28) (n:Int) (l:List S28):Prop:=From [] l∧l.Perm (F.filter (fun x=>x.f2==n))
/-- A forest that is right; t its top. -/
structure Fo (F:List S28) (t:S28):Prop where
 mem:t∈F
 chk:∀ x∈F,CheckP (pg x)
 ids:F.Pairwise (fun x y=>x.f0 < y.f0)
 top:∀ x∈F,x.f2≤t.f2∧(x.f2=t.f2→x.f0=t.f0)
 row:∀ n:Int,0≤n→n≤t.f2→∃ l,Row F n l
 kids:∀ x∈F,0 < x.f2→∀ c∈x.f8,∃ q∈F,q.f0=(idv c.f1).1∧q.f2=x.f2 - 1∧lo q=c.f0.toList
theorem pw_or {α:Type} {R:α→α→Prop}:∀ {l:List α},l.Pairwise R→∀ {x y:α},x∈l→y∈l→x=y∨R x y∨R y x
 |[],_,_,_,h,_=>nomatch h
 |z::l,h,x,y,hx,hy=>by
  obtain ⟨h1,h2⟩:=List.pairwise_cons.1 h
  rcases List.mem_cons.1 hx with e|hx'
  ·rcases List.mem_cons.1 hy with e'|hy'
   ·exact .inl (e.trans e'.symm)
   ·exact .inr (.inl (e ▸ h1 y hy'))
  ·rcases List.mem_cons.1 hy with e'|hy'
   ·exact .inr (.inr (e' ▸ h1 x hx'))
   ·exact pw_or h2 hx' hy'
theorem ids_inj {F:List S28} (h:F.Pairwise (fun x y=>x.f0 < y.f0)) {x y:S28} (hx:x∈F) (hy:y∈F) (e:x.f0=y.f0):x=y:=by
 rcases pw_or h hx hy with q|q|q
 ·exact q
 ·omega
 ·omega
theorem row_mem {F:List S28} {n:Int} {l:List S28} (h:Row F n l) {x:S28}:x∈l↔x∈F∧x.f2=n:=by
 rw [h.2.mem_iff,List.mem_filter,beq_iff_eq]
def has (x:S28) (key:List UInt8):Prop:=¬ key < lo x∧(x.f5=true→key < hi x)
section
variable {F:List S28} {t:S28} (h:Fo F t) (h0:∀ x∈F,0≤x.f2)
theorem Fo.range (h:Fo F t) {x y:S28} {k:List UInt8} (hx:x∈F) (hy:y∈F) (e0:0≤x.f2) (e:x.f2=y.f2) (kx:has x k) (ky:has y k):x=y:=by
 obtain ⟨l,hl⟩:=h.row x.f2 e0 (h.top x hx).1
 have hc:∀ z∈l,CheckP (pg z):=fun z hz=>h.chk z ((row_mem hl).1 hz).1
 rcases pw_or (from_lo hl.1 hc).2 ((row_mem hl).2 ⟨hx,rfl⟩) ((row_mem hl).2 ⟨hy,e.symm⟩) with q|q|q
 ·exact q
 ·exact absurd (lt_nlt (kx.2 q.1) q.2) ky.1
 ·exact absurd (lt_nlt (ky.2 q.1) q.2) kx.1
theorem has_lo {x:S28} (hc:CheckP (pg x)):has x (lo x):=⟨lt_irr,fun hf=>span_lt hc hf⟩
theorem has_cell {x:S28} (hc:CheckP (pg x)) {c:S42} (hm:c∈x.f8):has x c.f0.toList:=by
 obtain ⟨t,ht,rfl⟩:=mem_rd hm
 have:=(hc.each t ht).1
 change inside x.f3 x.f4 x.f5 (rd_T42 x.f8 (t:Int)).f0=true at this
 unfold inside at this
 rw [Bool.and_eq_true,Bool.not_eq_true',Bool.not_eq_true'] at this
 refine ⟨fun q=>?_,fun hf=>?_⟩
 ·have q2:=(lss_iff _ _).2 q;rw [q2] at this;exact absurd this.1 (by simp)
 ·have q1:=this.2
  rw [hf,Bool.true_and,Bool.not_eq_false'] at q1
  exact (lss_iff _ _).1 q1
def posted (F:List S28) (i:Int):Prop:=∃ x∈F,0 < x.f2∧∃ c∈x.f8,(idv c.f1).1=i
def rep (q x:S28):S28:=if x.f0=q.f0 then q else x
theorem rep_id (q:S28) {l:List S28} (h:∀ x∈l,x.f0≠q.f0):l.map (rep q)=l:=by
 refine (List.map_congr_left fun x hx=>?_).trans (List.map_id l)
 exact if_neg (h x hx)
theorem rep_like (h:Fo F t) {u q:S28} (hu:u∈F) (hl:Like q u):∀ x∈F,Like (rep q x) x:=fun x hx=>by
 unfold rep
 split
 ·rename_i e
  obtain rfl:x=u:=ids_inj h.ids hx hu (e.trans hl.e0)
  exact hl
 ·exact Like.refl x
theorem rep_f0 (q x:S28):(rep q x).f0=x.f0:=by unfold rep;split <;> simp [*]
/-- A page is put in the place of one that differs by what it has. -/
theorem Fo.put (h:Fo F t) {u q:S28} (hu:u∈F) (hl:Like q u) (hc:CheckP (pg q)) (hk:∀ c∈q.f8,c∈u.f8):Fo (F.map (rep q)) (rep q t):=by
 have L:=rep_like h hu hl
 have hsub:∀ x∈F,∀ c∈(rep q x).f8,c∈x.f8:=fun x hx c hcm=>by
  unfold rep at hcm
  split at hcm
  ·rename_i e
   obtain rfl:x=u:=ids_inj h.ids hx hu (e.trans hl.e0)
   exact hk c hcm
  ·exact hcm
 refine ⟨List.mem_map_of_mem h.mem,fun y hy=>?_,List.pairwise_map.2 (h.ids.imp_of_mem fun hx hy e=>by rw [rep_f0,rep_f0];exact e),fun y hy=>?_,fun n hn hn'=>?_,fun y hy hp c hcm=>?_⟩
 ·obtain ⟨x,hx,rfl⟩:=List.mem_map.1 hy
  unfold rep
  split
  ·exact hc
  ·exact h.chk x hx
 ·obtain ⟨x,hx,rfl⟩:=List.mem_map.1 hy
  rw [(L x hx).e2,(L t h.mem).e2,(L x hx).e0,(L t h.mem).e0]
  exact h.top x hx
 ·rw [(L t h.mem).e2] at hn'
  obtain ⟨l,hl1,hl2⟩:=h.row n hn hn'
  refine ⟨l.map (rep q),from_map (fun x hx=>L x ((row_mem ⟨hl1,hl2⟩).1 hx).1) hl1,?_⟩
  rw [List.filter_map,List.filter_congr (q:=fun x=>x.f2==n) (fun x hx=>by show ((rep q x).f2==n)=_;rw [(L x hx).e2])]
  exact hl2.map _
 ·obtain ⟨x,hx,rfl⟩:=List.mem_map.1 hy
  rw [(L x hx).e2] at hp
  obtain ⟨z,hz,e1,e2,e3⟩:=h.kids x hx hp c (hsub x hx c hcm)
  exact ⟨rep q z,List.mem_map_of_mem hz,by rw [rep_f0];exact e1,by rw [(L z hz).e2,(L x hx).e2];exact e2,by unfold lo;rw [(L z hz).e3];exact e3⟩
/-- A row in which the page that was put isn't. -/
theorem row_put (h:Fo F t) {u q:S28} (hu:u∈F) (hl:Like q u) {n:Int} (hn:u.f2≠n) {l:List S28} (hr:Row F n l):Row (F.map (rep q)) n l:=by
 have L:=rep_like h hu hl
 refine ⟨hr.1,?_⟩
 rw [List.filter_map,List.filter_congr (q:=fun x=>x.f2==n) (fun x hx=>by show ((rep q x).f2==n)=_;rw [(L x hx).e2]),rep_id q (fun x hx=>?_)]
 ·exact hr.2
 ·obtain ⟨hx,e⟩:=List.mem_filter.1 hx
  intro e0
  obtain rfl:x=u:=ids_inj h.ids hx hu (e0.trans hl.e0)
  exact hn (beq_iff_eq.1 e)
/-! ### counting -/
theorem cnt1 {F:List S28} (hi:F.Pairwise (fun x y=>x.f0 < y.f0)) {b:S28} (hb:b∈F) {p p':S28→Bool} (pb:p b=false) (hp:∀ x∈F,p' x=(p x||x.f0==b.f0)):F.countP p'=F.countP p+1:=by
 obtain ⟨s,r,rfl⟩:=List.append_of_mem hb
 obtain ⟨_,h2,h3⟩:=List.pairwise_append.1 hi
 have h4:=(List.pairwise_cons.1 h2).1
 have e1:s.countP p'=s.countP p:=List.countP_congr fun x hx=>by
  have:x.f0 < b.f0:=h3 x hx b List.mem_cons_self
  rw [hp x (List.mem_append_left _ hx),show (x.f0==b.f0)=false from beq_eq_false_iff_ne.2 (by omega),Bool.or_false]
 have e2:r.countP p'=r.countP p:=List.countP_congr fun x hx=>by
  have:=h4 x hx
  rw [hp x (List.mem_append_right _ (List.mem_cons_of_mem _ hx)),show (x.f0==b.f0)=false from beq_eq_false_iff_ne.2 (by omega),Bool.or_false]
 have e3:p' b=true:=by rw [hp b hb,beq_self_eq_true,Bool.or_true]
 rw [List.countP_append,List.countP_append,List.countP_cons,List.countP_cons,e1,e2,e3,pb]
 simp only [if_true,Bool.false_eq_true,if_false]
 omega
open Classical in
noncomputable def unp (F:List S28) (root:Int):S28→Bool:=fun x=>decide (x.f0≠root∧¬ posted F x.f0)
theorem unp_iff {F:List S28} {root:Int} {x:S28}:unp F root x=true↔x.f0≠root∧¬ posted F x.f0:=by simp only [unp,decide_eq_true_eq]
end
end Go.Proofs.YtmfaopjfdedheaaGreat.Fq
namespace Go.Proofs.YtmfaopjfdedheaaGreat.Fq
open Go.RowKit Go.Proofs.YtmfaopjfdedheaaGreat.F Go.Proofs.YtmfaopjfdedheaaGreatW.PrintWords Go.Proofs.YtmfaopjfdedheaaGreatW.PrintLast Go.Proofs.YtmfaopjfdedheaaGreatW.PrintMore
set_option linter.unusedVariables false
set_option linter.unusedSimpArgs false

/-- b stands at a's right; q is both. -/
structure Jn (F:List S28) (a b q:S28):Prop where
 ha:a∈F
 hb:b∈F
 fin:a.f5=true
 right:a.f1=b.f0
 lev:a.f2=b.f2
 lev0:0≤a.f2
 e0:q.f0=a.f0
 e1:q.f1=b.f1
 e2:q.f2=a.f2
 e3:q.f3=a.f3
 e4:q.f4=b.f4
 e5:q.f5=b.f5
 e8:q.f8=a.f8++b.f8
def cut (F:List S28) (q b:S28):List S28:=(F.map (rep q)).filter (fun x=>x.f0 != b.f0)
theorem cut_eq (F:List S28) (q b:S28):cut F q b=(F.filter (fun x=>x.f0 != b.f0)).map (rep q):=by
 unfold cut
 rw [List.filter_map]
 exact congrArg _ (List.filter_congr fun x _=>by show ((rep q x).f0 != b.f0)=_;rw [rep_f0])
theorem Jn.ne {F:List S28} {t a b q:S28} (j:Jn F a b q) (h:Fo F t):a.f0≠b.f0:=fun e=>(h.chk a j.ha).other (j.right.trans e.symm)
theorem Jn.lv {F:List S28} {t a b q:S28} (j:Jn F a b q) (h:Fo F t):∀ x∈F,(rep q x).f2=x.f2:=fun x hx=>by
 unfold rep
 split
 ·rename_i e
  obtain rfl:x=a:=ids_inj h.ids hx j.ha (e.trans j.e0)
  exact j.e2
 ·rfl
theorem row_nodup {F:List S28} {t:S28} (h:Fo F t) {n:Int} {l:List S28} (hl:Row F n l):(l.map (·.f0)).Nodup:=by
 refine ((hl.2.map (·.f0)).nodup_iff).2 ?_
 refine List.pairwise_map.2 ((h.ids.sublist List.filter_sublist).imp fun e=>?_)
 show _≠_
 omega
theorem row_join {F:List S28} {t a b q:S28} (h:Fo F t) (j:Jn F a b q) {n:Int} {l:List S28} (hl:Row F n l):∃ l',Row (cut F q b) n l'∧l'.flatMap (·.f8)=l.flatMap (·.f8):=by
 have hcut:(cut F q b).filter (fun x=>x.f2==n)=((F.filter (fun x=>x.f2==n)).map (rep q)).filter (fun x=>x.f0 != b.f0):=by
  unfold cut
  rw [List.filter_filter,List.filter_map,List.filter_map,List.filter_filter]
  refine congrArg _ (List.filter_congr fun x hx=>?_)
  show ((rep q x).f2==n && (rep q x).f0 != b.f0)=((rep q x).f0 != b.f0 && x.f2==n)
  rw [j.lv h x hx,Bool.and_comm]
 have hp:=(hl.2.map (rep q)).filter (fun x=>x.f0 != b.f0)
 rw [← hcut] at hp
 by_cases hn:a.f2=n
 ·obtain ⟨pre,y,post,rfl,q1,q2⟩:=from_adj hl.1 a ((row_mem hl).2 ⟨j.ha,hn⟩) j.fin
  obtain rfl:y=b:=ids_inj h.ids ((row_mem hl).1 (by simp)).1 j.hb (q1.trans j.right)
  have nd:=row_nodup h hl
  rw [List.map_append,List.map_cons,List.map_cons] at nd
  obtain ⟨_,n2,n3⟩:=List.pairwise_append.1 nd
  obtain ⟨n4,n5⟩:=List.pairwise_cons.1 n2
  obtain ⟨n6,_⟩:=List.pairwise_cons.1 n5
  have pa:∀ x∈pre,x.f0≠a.f0∧x.f0≠y.f0:=fun x hx=>⟨n3 _ (List.mem_map_of_mem hx) _ (by simp),n3 _ (List.mem_map_of_mem hx) _ (by simp)⟩
  have pb:∀ x∈post,x.f0≠a.f0∧x.f0≠y.f0:=fun x hx=>⟨fun e=>n4 x.f0 (by simp;exact .inr ⟨x,hx,rfl⟩) e.symm,fun e=>n6 x.f0 (List.mem_map_of_mem hx) e.symm⟩
  have r1:rep q a=q:=if_pos j.e0.symm
  have r2:rep q y=y:=if_neg (fun e=>j.ne h (j.e0.symm.trans e.symm))
  have e:((pre++a::y::post).map (rep q)).filter (fun x=>x.f0 != y.f0)=pre++q::post:=by
   rw [List.map_append,List.map_cons,List.map_cons,r1,r2,rep_id q (fun x hx=>by rw [j.e0];exact (pa x hx).1),rep_id q (fun x hx=>by rw [j.e0];exact (pb x hx).1),List.filter_append,List.filter_cons,List.filter_cons]
   rw [if_pos (show (q.f0 != y.f0)=true by rw [j.e0];exact bne_iff_ne.2 (j.ne h)),if_neg (show ¬ (y.f0 != y.f0)=true by simp)]
   rw [List.filter_eq_self.2 (fun x hx=>bne_iff_ne.2 (pa x hx).2),List.filter_eq_self.2 (fun x hx=>bne_iff_ne.2 (pb x hx).2)]
  rw [e] at hp
  refine ⟨pre++q::post,⟨from_merge j.e0 j.e3 j.e1 j.e4 j.e5 hl.1,hp⟩,?_⟩
  simp only [List.flatMap_append,List.flatMap_cons,j.e8,List.append_assoc]
 ·have hx:∀ x∈l,x.f0≠a.f0∧x.f0≠b.f0:=fun x hx=>by
   obtain ⟨m,e⟩:=(row_mem hl).1 hx
   exact ⟨fun q=>hn (by rw [← ids_inj h.ids m j.ha q];exact e),fun q=>hn (by rw [j.lev,← ids_inj h.ids m j.hb q];exact e)⟩
  rw [rep_id q (fun x hx'=>by rw [j.e0];exact (hx x hx').1),List.filter_eq_self.2 (fun x hx'=>bne_iff_ne.2 (hx x hx').2)] at hp
  exact ⟨l,⟨hl.1,hp⟩,rfl⟩
theorem Jn.mem {F:List S28} {t a b q:S28} (j:Jn F a b q) (h:Fo F t) {x:S28} (hx:x∈F) (hne:x.f0≠b.f0):rep q x∈cut F q b:=by
 rw [cut_eq]
 exact List.mem_map_of_mem (List.mem_filter.2 ⟨hx,bne_iff_ne.2 hne⟩)
theorem Jn.of {F:List S28} {a b q y:S28} (hy:y∈cut F q b):∃ x,x∈F∧x.f0≠b.f0∧y=rep q x:=by
 rw [cut_eq] at hy
 obtain ⟨x,hx,rfl⟩:=List.mem_map.1 hy
 obtain ⟨h1,h2⟩:=List.mem_filter.1 hx
 exact ⟨x,h1,bne_iff_ne.1 h2,rfl⟩
/-- A cell of a page of the new forest was one of a page of the old one, of the same level. -/
theorem Jn.cell {F:List S28} {t a b q:S28} (j:Jn F a b q) (h:Fo F t) {x:S28} (hx:x∈F) {c:S42} (hc:c∈(rep q x).f8):∃ z,z∈F∧z.f2=x.f2∧c∈z.f8:=by
 unfold rep at hc
 split at hc
 ·rename_i e
  obtain rfl:x=a:=ids_inj h.ids hx j.ha (e.trans j.e0)
  rw [j.e8] at hc
  rcases List.mem_append.1 hc with hc|hc
  ·exact ⟨x,hx,rfl,hc⟩
  ·exact ⟨b,j.hb,j.lev.symm,hc⟩
 ·exact ⟨x,hx,rfl,hc⟩
theorem Fo.join {F:List S28} {t a b q:S28} (h:Fo F t) (j:Jn F a b q) (hq:CheckP (pg q)) (hn:¬ posted F b.f0):Fo (cut F q b) (rep q t):=by
 have tb:t.f0≠b.f0:=fun e=>by
  obtain rfl:t=b:=ids_inj h.ids h.mem j.hb e
  exact j.ne h ((h.top a j.ha).2 j.lev)
 refine ⟨j.mem h h.mem tb,fun y hy=>?_,?_,fun y hy=>?_,fun n n0 n1=>?_,fun y hy hp c hc=>?_⟩
 ·obtain ⟨x,hx,_,rfl⟩:=Jn.of (a:=a) hy
  unfold rep
  split
  ·exact hq
  ·exact h.chk x hx
 ·rw [cut_eq]
  exact List.pairwise_map.2 ((h.ids.sublist List.filter_sublist).imp fun e=>by rw [rep_f0,rep_f0];exact e)
 ·obtain ⟨x,hx,_,rfl⟩:=Jn.of (a:=a) hy
  rw [j.lv h x hx,j.lv h t h.mem,rep_f0,rep_f0]
  exact h.top x hx
 ·rw [j.lv h t h.mem] at n1
  obtain ⟨l,hl⟩:=h.row n n0 n1
  obtain ⟨l',hl',_⟩:=row_join h j hl
  exact ⟨l',hl'⟩
 ·obtain ⟨x,hx,_,rfl⟩:=Jn.of (a:=a) hy
  rw [j.lv h x hx] at hp
  obtain ⟨z,hz,ez,hcz⟩:=j.cell h hx hc
  obtain ⟨w,hw,w1,w2,w3⟩:=h.kids z hz (by omega) c hcz
  have hwb:w.f0≠b.f0:=fun e=>hn ⟨z,hz,by omega,c,hcz,by rw [← w1];exact e⟩
  refine ⟨rep q w,j.mem h hw hwb,by rw [rep_f0];exact w1,by rw [j.lv h w hw,j.lv h x hx,w2,ez],?_⟩
  rw [← w3]
  unfold rep
  split
  ·rename_i e
   obtain rfl:w=a:=ids_inj h.ids hw j.ha (e.trans j.e0)
   unfold lo;rw [j.e3]
  ·rfl
theorem posted_join {F:List S28} {t a b q:S28} (h:Fo F t) (j:Jn F a b q) (i:Int):posted (cut F q b) i↔posted F i:=by
 constructor
 ·rintro ⟨y,hy,hp,c,hc,e⟩
  obtain ⟨x,hx,_,rfl⟩:=Jn.of (a:=a) hy
  rw [j.lv h x hx] at hp
  obtain ⟨z,hz,ez,hcz⟩:=j.cell h hx hc
  exact ⟨z,hz,by omega,c,hcz,e⟩
 ·rintro ⟨x,hx,hp,c,hc,e⟩
  have hq:a.f2=x.f2→c∈q.f8→posted (cut F q b) i:=fun e2 hcq=>by
   have:=j.mem h j.ha (j.ne h)
   rw [show rep q a=q from if_pos j.e0.symm] at this
   exact ⟨q,this,by rw [j.e2];omega,c,hcq,e⟩
  by_cases xa:x.f0=a.f0
  ·obtain rfl:x=a:=ids_inj h.ids hx j.ha xa
   exact hq rfl (by rw [j.e8];exact List.mem_append_left _ hc)
  by_cases xb:x.f0=b.f0
  ·obtain rfl:x=b:=ids_inj h.ids hx j.hb xb
   exact hq j.lev (by rw [j.e8];exact List.mem_append_right _ hc)
  have hr:rep q x=x:=if_neg (fun e=>xa (e.trans j.e0))
  have:=j.mem h hx xb
  rw [hr] at this
  exact ⟨x,this,hp,c,hc,e⟩
theorem count_join {F:List S28} {t a b q:S28} (h:Fo F t) (j:Jn F a b q) (hn:¬ posted F b.f0) (root:Int) (hb:b.f0≠root):F.countP (unp F root)=(cut F q b).countP (unp (cut F q b) root)+1:=by
 rw [cut_eq F q b,List.countP_map,List.countP_filter,← cut_eq]
 refine cnt1 h.ids j.hb (by simp) fun x hx=>?_
 show unp F root x=((unp (cut F q b) root (rep q x) && x.f0 != b.f0)||x.f0==b.f0)
 unfold unp
 rw [rep_f0,Bool.eq_iff_iff]
 simp only [Bool.or_eq_true,Bool.and_eq_true,decide_eq_true_eq,bne_iff_ne,beq_iff_eq,posted_join h j]
 by_cases e:x.f0=b.f0
 ·rw [e];exact ⟨fun _=>.inr rfl,fun _=>⟨hb,hn⟩⟩
 ·exact ⟨fun q=>.inl ⟨q,e⟩,fun q=>(q.resolve_right e).1⟩
/-- b is posted in u; q is u without that cell. -/
structure Un (F:List S28) (u b q:S28):Prop where
 hu:u∈F
 hb:b∈F
 lev:u.f2=b.f2+1
 lev0:0≤b.f2
 has:has u (lo b)
 like:Like q u
 cells:∀ c,c∈q.f8↔c∈u.f8∧c.f0.toList≠lo b
theorem posted_un {F:List S28} {t u b q:S28} (h:Fo F t) (j:Un F u b q) (i:Int):posted (F.map (rep q)) i↔posted F i∧i≠b.f0:=by
 have L:=rep_like h j.hu j.like
 constructor
 ·rintro ⟨y,hy,hp,c,hc,e⟩
  obtain ⟨x,hx,rfl⟩:=List.mem_map.1 hy
  rw [(L x hx).e2] at hp
  have hcx:c∈x.f8:=by
   unfold rep at hc
   split at hc
   ·rename_i e0
    obtain rfl:x=u:=ids_inj h.ids hx j.hu (e0.trans j.like.e0)
    exact ((j.cells c).1 hc).1
   ·exact hc
  refine ⟨⟨x,hx,hp,c,hcx,e⟩,fun ei=>?_⟩
  obtain ⟨z,hz,z1,z2,z3⟩:=h.kids x hx hp c hcx
  obtain rfl:z=b:=ids_inj h.ids hz j.hb (by rw [z1,e,ei])
  have hk:=has_cell (h.chk x hx) hcx
  rw [← z3] at hk
  obtain rfl:x=u:=h.range hx j.hu (by omega) (by rw [j.lev,z2];omega) hk j.has
  rw [show rep q x=q from if_pos j.like.e0.symm] at hc
  exact ((j.cells c).1 hc).2 z3.symm
 ·rintro ⟨⟨x,hx,hp,c,hc,e⟩,ne⟩
  refine ⟨rep q x,List.mem_map_of_mem hx,by rw [(L x hx).e2];exact hp,c,?_,e⟩
  unfold rep
  split
  ·rename_i e0
   obtain rfl:x=u:=ids_inj h.ids hx j.hu (e0.trans j.like.e0)
   refine (j.cells c).2 ⟨hc,fun ec=>ne ?_⟩
   obtain ⟨z,hz,z1,z2,z3⟩:=h.kids x hx hp c hc
   have hz':has z (lo b):=by rw [← ec,← z3];exact has_lo (h.chk z hz)
   obtain rfl:z=b:=h.range hz j.hb (by have:=j.lev;have:=j.lev0;omega) (by have:=j.lev;omega) hz' (has_lo (h.chk b j.hb))
   rw [← e,← z1]
  ·exact hc
theorem count_un {F:List S28} {t u b q:S28} (h:Fo F t) (j:Un F u b q) (hp:posted F b.f0) (root:Int) (hb:b.f0≠root):(F.map (rep q)).countP (unp (F.map (rep q)) root)=F.countP (unp F root)+1:=by
 rw [List.countP_map]
 refine cnt1 h.ids j.hb (by unfold unp;simp [hp]) fun x hx=>?_
 show unp (F.map (rep q)) root (rep q x)=_
 unfold unp
 rw [rep_f0,Bool.eq_iff_iff]
 simp only [Bool.or_eq_true,decide_eq_true_eq,beq_iff_eq,posted_un h j]
 by_cases e:x.f0=b.f0
 ·rw [e];exact ⟨fun _=>.inr rfl,fun _=>⟨hb,fun q=>q.2 rfl⟩⟩
 ·exact ⟨fun q=>.inl ⟨q.1,fun r=>q.2 ⟨r,e⟩⟩,fun q=>let r:=q.resolve_right e;⟨r.1,fun s=>r.2 s.1⟩⟩
/-! ### the pages themselves -/
theorem rd0_append {l m:List S42} (h:0 < l.length):rd_T42 (l++m) 0=rd_T42 l 0:=by
 match l,h with
 |_::_,_=>rfl
theorem each_iff {x:S28}:(∀ t:Nat,t < (pg x).cells.length→cellOk (pg x) (rd_T42 (pg x).cells (t:Int)))↔∀ c∈x.f8,cellOk (pg x) c:=by
 constructor
 ·intro h c hc
  obtain ⟨t,ht,rfl⟩:=mem_rd hc
  exact h t ht
 ·exact fun h t ht=>h _ (rd_mem ht)
/-- A page without a child's cell that isn't its first one. -/
theorem check_un {u q:S28} (h:CheckP (pg u)) (hp:0 < u.f2) (hl:Like q u) (h7:q.f7=u.f7) (hd:q.f6≤281474976710656) (key:List UInt8) (h8:q.f8=u.f8.filter (fun y=> !(y.f0.toList==key))) (hk:lo u≠key):CheckP (pg q):=by
 have hi:=h.inner hp
 have e8:∀ c∈q.f8,c∈u.f8:=fun c hc=>by rw [h8] at hc;exact (List.mem_filter.1 hc).1
 have hfirst:rd_T42 q.f8 0=rd_T42 u.f8 0∧0 < q.f8.length:=by
  have h1:0 < u.f8.length:=hi.2.2.1
  have h2:(rd_T42 u.f8 0).f0.toList=lo u:=hi.2.2.2
  revert h1 h2
  rw [h8]
  match u.f8 with
  |[]=>intro h1;cases h1
  |c::l=>
   intro _ h2
   have h2':c.f0.toList=lo u:=h2
   rw [List.filter_cons,if_pos (by rw [h2',Bool.not_eq_true',beq_eq_false_iff_ne];exact hk)]
   exact ⟨rfl,Nat.zero_lt_succ _⟩
 refine { id1:=?_,id2:=?_,right2:=?_,other:=?_,level2:=?_,dsn2:=hd,span:=?_,fin:=?_,good:=?_,most:=?_,cells:=?_,each:=each_iff.2 fun c hc=>?_,inner:=fun _=>?_ }
 ·show 1≤q.f0;rw [hl.e0];exact h.id1
 ·show q.f0≤400;rw [hl.e0];exact h.id2
 ·show q.f1≤400;rw [hl.e1];exact h.right2
 ·show q.f1≠q.f0;rw [hl.e0,hl.e1];exact h.other
 ·show q.f2≤10;rw [hl.e2];exact h.level2
 ·show SpanR q.f3 q.f4 q.f5=true;rw [hl.e3,hl.e4,hl.e5];exact h.span
 ·show q.f5=true↔0 < q.f1;rw [hl.e5,hl.e1];exact h.fin
 ·show Good q.f7.f0 q.f7.f1;rw [h7];exact h.good
 ·show most_ q.f7.f0 q.f7.f1≤_;rw [h7];exact h.most
 ·show RightP q.f8;rw [h8];exact filter_right h.cells _
 ·have:=each_iff.1 h.each c (e8 c hc)
  unfold cellOk pg at this ⊢
  rw [hl.e2,hl.e3,hl.e4,hl.e5];exact this
 ·refine ⟨?_,?_,hfirst.2,?_⟩
  ·show q.f7.f0=0;rw [h7];exact hi.1
  ·show q.f7.f1=[];rw [h7];exact hi.2.1
  ·show (rd_T42 q.f8 0).f0.toList=q.f3.toList;rw [hfirst.1,hl.e3];exact hi.2.2.2
theorem inside_iff {a b:ByteArray} {e:Bool} {k:ByteArray}:inside a b e k=true↔¬ k.toList < a.toList∧(e=true→k.toList < b.toList):=by
 unfold inside
 rw [Bool.and_eq_true,Bool.not_eq_true',Bool.not_eq_true',← Bool.not_eq_true,← Bool.not_eq_true,lss_iff]
 refine and_congr Iff.rfl ?_
 rw [Bool.and_eq_true,Bool.not_eq_true',← Bool.not_eq_true,lss_iff]
 constructor
 ·intro h he;exact Classical.byContradiction fun q=>h ⟨he,q⟩
 ·exact fun h q=>q.2 (h q.1)
theorem spanR_iff {a b:ByteArray} {c:Bool}:SpanR a b c=true↔a.size≤513∧b.size≤513∧(c=true→a.toList < b.toList)∧(c=false→b.toList=[]):=by
 unfold SpanR
 rw [Bool.and_eq_true,Bool.and_eq_true,decide_eq_true_eq,decide_eq_true_eq]
 cases c
 ·simp
  exact ⟨fun h=>⟨h.1.1,h.1.2,h.2⟩,fun h=>⟨⟨h.1,h.2.1⟩,h.2.2⟩⟩
 ·simp [lss_iff]
  exact ⟨fun h=>⟨h.1.1,h.1.2,h.2⟩,fun h=>⟨⟨h.1,h.2.1⟩,h.2.2⟩⟩
/-- Both pages as one. -/
theorem check_join {F:List S28} {t a b q:S28} (h:Fo F t) (j:Jn F a b q) (hb:BesideP (pg a) (pg b)) (hd:q.f6≤281474976710656) (hg:Good q.f7.f0 q.f7.f1) (hm:most_ q.f7.f0 q.f7.f1≤281474976710656) (hin:0 < a.f2→q.f7.f0=0∧q.f7.f1=[]):CheckP (pg q):=by
 have A:=hb.one;have B:=hb.two
 have sa:=span_lt A j.fin
 have hab:hi a=lo b:=hb.high
 have hlt:lo a < lo b:=hab ▸ sa
 have sA:=spanR_iff.1 A.span;have sB:=spanR_iff.1 B.span
 refine { id1:=?_,id2:=?_,right2:=?_,other:=?_,level2:=?_,dsn2:=hd,span:=spanR_iff.2 ?_,fin:=?_,good:=hg,most:=hm,cells:=?_,each:=each_iff.2 fun c hc=>?_,inner:=fun hp=>?_ }
 ·show 1≤q.f0;rw [j.e0];exact A.id1
 ·show q.f0≤400;rw [j.e0];exact A.id2
 ·show q.f1≤400;rw [j.e1];exact B.right2
 ·show q.f1≠q.f0;rw [j.e0,j.e1];exact hb.back
 ·show q.f2≤10;rw [j.e2];exact A.level2
 ·show q.f3.size≤513∧q.f4.size≤513∧(q.f5=true→q.f3.toList < q.f4.toList)∧(q.f5=false→q.f4.toList=[])
  rw [j.e3,j.e4,j.e5]
  exact ⟨sA.1,sB.2.1,fun hf=>lt_tr hlt (sB.2.2.1 hf),sB.2.2.2⟩
 ·show q.f5=true↔0 < q.f1;rw [j.e5,j.e1];exact B.fin
 ·show RightP q.f8
  rw [j.e8,rightP_iff]
  obtain ⟨a1,a2⟩:=rightP_iff.1 A.cells
  obtain ⟨b1,b2⟩:=rightP_iff.1 B.cells
  refine ⟨fun c hc=>(List.mem_append.1 hc).elim (a1 c) (b1 c),List.pairwise_append.2 ⟨a2,b2,fun c hc d hd=>?_⟩⟩
  have h1:=(has_cell A hc).2 j.fin
  rw [hab] at h1
  exact lt_nlt h1 (has_cell B hd).1
 ·have hcell:∀ c,(c∈a.f8∨c∈b.f8)→(¬ c.f0.toList < lo a∧(b.f5=true→c.f0.toList < hi b))∧(a.f2=0→c.f0.size≤512)∧(0 < a.f2→idOk c.f1):=fun c hc=>by
   rcases hc with hc|hc
   ·have k:=has_cell A hc
    have o:=each_iff.1 A.each c hc
    have h1:=k.2 j.fin
    rw [hab] at h1
    exact ⟨⟨k.1,fun hf=>lt_tr h1 (sB.2.2.1 hf)⟩,o.2⟩
   ·have k:=has_cell B hc
    have o:=each_iff.1 B.each c hc
    refine ⟨⟨fun q=>k.1 (lt_tr q hlt),k.2⟩,?_⟩
    have o2:=o.2
    unfold pg at o2
    rw [j.lev];exact o2
  rw [j.e8] at hc
  have:=hcell c (List.mem_append.1 hc)
  refine ⟨?_,?_,?_⟩
  ·show inside q.f3 q.f4 q.f5 c.f0=true
   rw [inside_iff,j.e3,j.e4,j.e5];exact this.1
  ·show q.f2=0→_;rw [j.e2];exact this.2.1
  ·show 0 < q.f2→_;rw [j.e2];exact this.2.2
 ·have hp':0 < a.f2:=by rw [← j.e2];exact hp
  have ai:=A.inner hp'
  obtain ⟨i1,i2⟩:=hin hp'
  have hl:0 < a.f8.length:=ai.2.2.1
  refine ⟨i1,i2,?_,?_⟩
  ·show 0 < q.f8.length;rw [j.e8,List.length_append];omega
  ·show (rd_T42 q.f8 0).f0.toList=q.f3.toList
   rw [j.e8,rd0_append hl,j.e3];exact ai.2.2.2
end Go.Proofs.YtmfaopjfdedheaaGreat.Fq
