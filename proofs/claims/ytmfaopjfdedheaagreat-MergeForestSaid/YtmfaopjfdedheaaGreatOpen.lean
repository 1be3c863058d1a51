/- Plain words: an argument that reads as data is read by a kind (Kd): whole numbers, bools, strings, slices, structs, nested; and what the row's weights bound. -/
import Derived.Test.YtmfaopjfdedheaaGreatWWords
import Derived.Deep.Slices
import Derived.SizedLaws
import Derived.WideShapes
namespace Go.Proofs.YtmfaopjfdedheaaGreatW.Open
open Go.RowKit Go.Deep Go.Proofs.YtmfaopjfdedheaaGreatW.PrintWords
set_option linter.unusedVariables false
section
variable {H:Type} {P:Program}

/-- What reads as data of type t is of kind d, and fine. -/
def Opn (enc:TypeId×Value→H) (P:Program) {α:Type} (t:TypeId) (d:Kd α) (ok:α→Prop):Prop:=
 ∀ (held:Bool) (spare:Nat→Bool) (fuel:Nat) (w:World) (cs:List Value) (x:DataW H×List MemPlace),DataW.trod enc P w 0 spare held fuel t cs=some x→
  (∀ n∈x.1.weights P t,n≤reachBytes)→∃ y,d.K w y cs∧ok y

variable {enc:TypeId×Value→H}

theorem opn_int {t:TypeId} {k:IntKind} (hu:P.underlying t=some (.int k)):Opn enc P t (Kd.int k) (fun n=>(Lit.int k n).wf=true):=by
 intro held spare fuel w cs x h hw
 cases fuel with
 |zero=>simp [DataW.trod] at h
 |succ n=>
  unfold DataW.trod at h
  rw [hu] at h
  split at h <;> simp_all
  obtain ⟨⟨rfl,h1⟩,_⟩:=h
  exact ⟨_,rfl,h1⟩

theorem opn_bool {t:TypeId} (hu:P.underlying t=some .bool):Opn enc P t Kd.bool (fun _=>True):=by
 intro held spare fuel w cs x h hw
 cases fuel with
 |zero=>simp [DataW.trod] at h
 |succ n=>
  unfold DataW.trod at h
  rw [hu] at h
  split at h
  ·exact ⟨_,rfl,trivial⟩
  all_goals first|(cases h;done)|simp_all

theorem opn_string {t:TypeId} (hu:P.underlying t=some .string):Opn enc P t Kd.string (fun s=>s.size≤140737488351232):=by
 intro held spare fuel w cs x h hw
 cases fuel with
 |zero=>simp [DataW.trod] at h
 |succ n=>
  unfold DataW.trod at h
  rw [hu] at h
  split at h <;> simp_all
  obtain ⟨h1,rfl⟩:=h
  refine ⟨_,rfl,?_⟩
  have:=hw _ (by simp [DataW.weights];rfl)
  simpa [reachBytes] using this

theorem weightsAll_mem {e:TypeId} {n:Nat}:∀ {ds:List (DataW H)} {d:DataW H},d∈ds→n∈d.weights P e→n∈DataW.weightsAll P e ds
 |d0::ds,d,hd,hn=>by
  rcases List.mem_cons.1 hd with rfl|hd
  ·simp only [DataW.weightsAll,List.mem_append];exact .inl hn
  ·simp only [DataW.weightsAll,List.mem_append];exact .inr (weightsAll_mem hd hn)

theorem choose_below {α:Type} [Nonempty α] {p:Nat→α→Prop} {n:Nat} (h:∀ i,i < n→∃ y,p i y):∃ f:Nat→α,∀ i,i < n→p i (f i):=by
 refine ⟨fun i=>if hi:i < n then Classical.choose (h i hi) else Classical.choice inferInstance,fun i hi=>?_⟩
 simp only [hi,dif_pos]
 exact Classical.choose_spec (h i hi)

theorem opn_slice {α:Type} {t e:TypeId} {d:Kd α} {ok:α→Prop} {B:Nat} (hu:P.underlying t=some (.slice e)) (hsz:P.cellsOf e=d.sz) (hB:P.bytesOf e=B) (he:Opn enc P e d ok):
  Opn enc P t (Kd.slice e d) (fun xs=>xs.length * B≤140737488351232∧∀ x∈xs,ok x):=by
 intro held spare fuel w cs x h hw
 rcases open_slice hu h with ⟨rfl,rfl⟩|⟨a,len,cap,m,n,D,Pl,rfl,_,hl,hm,hmm,rfl,hx⟩
 ·exact ⟨[],⟨none,0,rfl,Nat.le_refl _,rfl,by simp,fun h=>absurd h (Nat.lt_irrefl 0)⟩,by simp,by simp⟩
 ·have hlm:len≤m:=by rw [hmm];split <;> omega
  have h1:∀ i,i < len→∃ y,(∃ c,d.K w y c∧c.length=d.sz∧∀ j u,c[j]? =some u→w.cell? (a.add (i * d.sz+j))=some u)∧ok y:=by
   intro i hi
   obtain ⟨cs',hc,ht⟩:=hx i (by omega)
   obtain ⟨y,hy,hok⟩:=he held spare n w cs' _ ht (fun q hq=>hw q (by
    simp only [DataW.weights,hu]
    refine List.mem_cons_of_mem _ (List.mem_append_left _ (weightsAll_mem (d:=D i) ?_ hq))
    exact List.mem_map.2 ⟨i,List.mem_range.2 hi,rfl⟩))
   obtain ⟨_,hlen,hcell⟩:=World.cells?_some hc
   refine ⟨y,⟨cs',hy,by rw [hlen,hsz],fun j u hu'=>?_⟩,hok⟩
   have hj:j < P.cellsOf e:=by
    rcases Nat.lt_or_ge j cs'.length with q|q
    ·omega
    ·rw [List.getElem?_eq_none q] at hu';cases hu'
   have:=hcell j hj
   rw [Deep.add_add,hsz] at this
   rw [this,hu']
  by_cases hz:len=0
  ·subst hz
   exact ⟨[],⟨some a,cap,rfl,Nat.zero_le _,rfl,by simp,fun h=>absurd h (Nat.lt_irrefl 0)⟩,by simp,by simp⟩
  ·have:Nonempty α:=⟨(h1 0 (by omega)).choose⟩
   obtain ⟨f,hf⟩:=choose_below h1
   refine ⟨(List.range len).map f,⟨some a,cap,by simp,by simpa using hl,by simp,by simp only [List.length_map,List.length_range];unfold maxLen at hm;omega,fun _=>⟨a,rfl,fun j p hj=>?_⟩⟩,?_,?_⟩
   ·have hj':j < len:=by
     rcases Nat.lt_or_ge j len with q|q
     ·exact q
     ·rw [List.getElem?_eq_none (by simpa using q)] at hj;cases hj
    simp [List.getElem?_map,List.getElem?_range hj'] at hj
    subst hj
    obtain ⟨⟨c,hc1,hc2,hc3⟩,_⟩:=hf j hj'
    exact ⟨c,hc2,hc1,hc3⟩
   ·have:=hw (((List.range len).map D).length * P.bytesOf e+(m - len) * P.bytesOf e) (by
     simp only [DataW.weights,hu,List.length_map,List.length_range]
     rw [← Nat.add_mul]
     exact List.mem_cons_self)
    simp only [List.length_map,List.length_range,hB,reachBytes] at this ⊢
    omega
   ·intro x hx'
    obtain ⟨i,hi,rfl⟩:=List.mem_map.1 hx'
    exact (hf i (List.mem_range.1 hi)).2

/-- The fields of a struct, from one on. -/
def OpnFs (enc:TypeId×Value→H) (P:Program) {α:Type} (fs:List Field) (off tot:Nat) (d:Kd α) (ok:α→Prop):Prop:=
 ∀ (held:Bool) (spare:Nat→Bool) (fuel:Nat) (w:World) (cs:List Value) (xs:List (DataW H×List MemPlace)),cs.length=tot→
  (fs.mapM fun f=>DataW.trod enc P w 0 spare held fuel f.type ((cs.drop f.offset).take (P.cellsOf f.type)))=some xs→
  (∀ n∈DataW.weightsEach P (fs.map (·.type)) (xs.map (·.1)),n≤reachBytes)→∃ y,d.K w y (cs.drop off)∧ok y

theorem opnFs_one {α:Type} {f:Field} {off tot:Nat} {d:Kd α} {ok:α→Prop} (ho:f.offset=off) (ht:off+P.cellsOf f.type=tot) (hf:Opn enc P f.type d ok):OpnFs enc P [f] off tot d ok:=by
 intro held spare fuel w cs xs hl h hw
 simp only [List.mapM_cons,List.mapM_nil,Option.bind_eq_bind,Option.bind_eq_some_iff,Option.pure_def,Option.some.injEq] at h
 obtain ⟨x,hx,_,rfl,rfl⟩:=h
 rw [ho,List.take_of_length_le (by simp;omega)] at hx
 refine hf held spare fuel w _ x hx (fun n hn=>hw n ?_)
 simp [DataW.weightsEach,hn]

theorem opnFs_cons {α β:Type} {f:Field} {fs:List Field} {off off' tot:Nat} {d:Kd α} {d':Kd β} {ok:α→Prop} {ok':β→Prop} (ho:f.offset=off) (hn:off+P.cellsOf f.type=off') (hf:Opn enc P f.type d ok) (hfs:OpnFs enc P fs off' tot d' ok'):
  OpnFs enc P (f::fs) off tot (Kd.pair d d') (fun p=>ok p.1∧ok' p.2):=by
 intro held spare fuel w cs xs hl h hw
 simp only [List.mapM_cons,Option.bind_eq_bind,Option.bind_eq_some_iff,Option.pure_def,Option.some.injEq] at h
 obtain ⟨x,hx,xs',hxs,rfl⟩:=h
 obtain ⟨y,hy,hoky⟩:=hf held spare fuel w _ x hx (fun n hn=>hw n (by simp [DataW.weightsEach,hn]))
 obtain ⟨z,hz,hokz⟩:=hfs held spare fuel w cs xs' hl hxs (fun n hn=>hw n (by simp only [List.map_cons,DataW.weightsEach,List.mem_append];exact .inr hn))
 refine ⟨(y,z),⟨_,_,?_,hy,hz⟩,hoky,hokz⟩
 rw [ho,← hn,← List.drop_drop,List.take_append_drop]

theorem opn_struct {α β:Type} {t:TypeId} {fs:Array Field} {tot:Nat} {d:Kd α} {ok:α→Prop} {f:β→α} (g:α→β) (hfg:∀ p,f (g p)=p) (hu:P.underlying t=some (.struct fs)) (hc:P.cellsOf t=tot) (hf:OpnFs enc P fs.toList 0 tot d ok):
  Opn enc P t (Kd.iso d f) (fun x=>ok (f x)):=by
 intro held spare fuel w cs x h hw
 cases fuel with
 |zero=>simp [DataW.trod] at h
 |succ n=>
  unfold DataW.trod at h
  rw [hu] at h
  simp only [] at h
  split at h
  ·rename_i hl
   simp only [Option.map_eq_some_iff] at h
   obtain ⟨xs,hxs,rfl⟩:=h
   obtain ⟨y,hy,hok⟩:=hf held spare n w cs xs (hl.trans hc) hxs (fun q hq=>hw q (by simp only [DataW.weights,hu];exact hq))
   refine ⟨g y,?_,by show ok (f (g y));rw [hfg];exact hok⟩
   show d.K w (f (g y)) cs
   rw [hfg]
   simpa using hy
  ·cases h

/-- An argument. -/
theorem opn_weights {ts:List TypeId} {ds:List (DataW H)} {j:Nat} {t:TypeId} {d:DataW H} (hsz:(DataW.weightsEach P ts ds).all (·≤reachBytes)=true) (ht:ts[j]? =some t) (hd:ds[j]? =some d):
  ∀ n∈d.weights P t,n≤reachBytes:=fun n hn=>by
 have:=List.all_eq_true.1 hsz n (DataW.weights_mem_each ht hd n hn)
 simpa using this

theorem opn_arg {α:Type} {t:TypeId} {k:Kd α} {ok:α→Prop} (ho:Opn enc P t k ok) {W:World} {held:Bool} {spare:Nat→Bool} {v:Value} {d:DataW H} {ps:List MemPlace}
  {ts:List TypeId} {ds:List (DataW H)} {j:Nat} (hsz:(DataW.weightsEach P ts ds).all (·≤reachBytes)=true) (ht:ts[j]? =some t) (hd:ds[j]? =some d) (h:DataW.Trod enc P W 0 spare held t v d ps):
  ∃ y,k.K W y v.cells.toList∧ok y:=by
 obtain ⟨fuel,hf⟩:=h
 exact ho held spare fuel W _ _ hf (opn_weights hsz ht hd)

theorem arg_slice {α:Type} {t e:TypeId} {k:Kd α} {W:World} {v:Value} {xs:List α} (ht:P.underlying t=some (.slice e)) {b0:Nat} (hv:Value.okWide P W .any b0 t v) (h:(Kd.slice e k).K W xs v.cells.toList):
  ∃ A c,v=.slice A xs.length c∧xs.length≤c∧k.C W A xs.length xs:=by
 obtain ⟨a,len,cap,rfl⟩:=WideShapes.okWide_slice ht hv
 obtain ⟨A,c,he,hl,hr⟩:=h
 simp [Value.cells] at he
 obtain ⟨rfl,rfl,rfl⟩:=he
 exact ⟨_,_,rfl,hl,hr⟩

theorem arg_struct {t:TypeId} {fs:Array Field} {W:World} {base:Nat} {v:Value} (ht:P.underlying t=some (.struct fs)) (hv:Value.okWide P W .any base t v) {cs:List Value} (h:v.cells.toList=cs):v=.agg cs.toArray:=by
 obtain ⟨c,rfl,_⟩:=WideShapes.okWide_struct ht hv
 subst h
 simp [Value.cells]
end
end Go.Proofs.YtmfaopjfdedheaaGreatW.Open
