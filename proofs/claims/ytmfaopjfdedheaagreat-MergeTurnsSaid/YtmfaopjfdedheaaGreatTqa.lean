/- Plain words of a merge law: from some rounds on; sets, cells, numbers. -/
import Derived.Test.YtmfaopjfdedheaaGreatTx19
import Derived.Sort.Walk0
namespace Go.Proofs.YtmfaopjfdedheaaGreat.Tq
open Go.RowKit Go.Proofs.YtmfaopjfdedheaaGreat.T Go.Proofs.YtmfaopjfdedheaaGreatW.PrintWords Go.Proofs.YtmfaopjfdedheaaGreatW.PrintLast Go.Proofs.YtmfaopjfdedheaaGreatW.PrintMore
set_option linter.unusedVariables false
set_option linter.unusedSimpArgs false
/-- From some rounds on, the answer is r. -/
def Ev {α:Type} (f:Nat→Option α) (r:α):Prop:=∃ K,∀ k,K≤k→f k=some r
def Tot {α:Type} (f:Nat→Option α):Prop:=∃ r,Ev f r
section
variable {α β:Type} {f g:Nat→Option α} {a r:α}
theorem Ev.const (r:α):Ev (fun _=>some r) r:=⟨0,fun _ _=>rfl⟩
theorem Ev.bind {h:Nat→α→Option β} {b:β} (hf:Ev f a) (hg:Ev (fun k=>h k a) b):Ev (fun k=>(f k).bind (h k)) b:=by
 obtain ⟨K,hK⟩:=hf;obtain ⟨L,hL⟩:=hg
 exact ⟨K+L,fun k hk=>by show (f k).bind (h k)=some b;rw [hK k (by omega)];exact hL k (by omega)⟩
theorem Ev.succ (h:Ev g r) (e:∀ k,f (k+1)=g k):Ev f r:=by
 obtain ⟨K,hK⟩:=h
 refine ⟨K+1,fun k hk=>?_⟩
 obtain ⟨j,rfl⟩:∃ j,k=j+1:=⟨k - 1,by omega⟩
 rw [e];exact hK j (by omega)
theorem Ev.congr (h:Ev g r) (e:∀ k,f k=g k):Ev f r:=by
 obtain ⟨K,hK⟩:=h;exact ⟨K,fun k hk=>by rw [e];exact hK k hk⟩
theorem Ev.of_mono {K:Nat} (h:f K=some r) (m:∀ k,LeO (f k) (f (k+1))):Ev f r:=by
 refine ⟨K,fun k hk=>?_⟩
 obtain ⟨d,rfl⟩:∃ d,k=K+d:=⟨k - K,by omega⟩
 induction d with
 |zero=>exact h
 |succ d ih=>exact m (K+d) _ (ih (by omega))
theorem Tot.const (r:α):Tot (fun _=>some r):=⟨r,Ev.const r⟩
theorem Tot.bind {h:Nat→α→Option β} (hf:Tot f) (hg:∀ a,Ev f a→Tot (fun k=>h k a)):Tot (fun k=>(f k).bind (h k)):=by
 obtain ⟨a,ha⟩:=hf;obtain ⟨b,hb⟩:=hg a ha
 exact ⟨b,ha.bind hb⟩
theorem Tot.succ (h:Tot g) (e:∀ k,f (k+1)=g k):Tot f:=by
 obtain ⟨r,h⟩:=h;exact ⟨r,h.succ e⟩
theorem Tot.congr (h:Tot g) (e:∀ k,f k=g k):Tot f:=by
 obtain ⟨r,h⟩:=h;exact ⟨r,h.congr e⟩
theorem Tot.ite {c:Prop} [Decidable c] (h1:c→Tot f) (h2:¬ c→Tot g):Tot (fun k=>if c then f k else g k):=by
 by_cases hc:c
 ·exact (h1 hc).congr (fun k=>if_pos hc)
 ·exact (h2 hc).congr (fun k=>if_neg hc)
end
def EvP {α:Type} (f:Nat→Option α) (p:α→Prop):Prop:=∃ r,Ev f r∧p r
section
variable {α β:Type} {f g:Nat→Option α} {p:α→Prop} {q:β→Prop}
theorem Tot.evp (h:Tot f):EvP f (fun _=>True):=h.elim fun r hr=>⟨r,hr,trivial⟩
theorem EvP.const {r:α} (h:p r):EvP (fun _=>some r) p:=⟨r,Ev.const r,h⟩
theorem EvP.bind {h:Nat→α→Option β} (hf:EvP f p) (hg:∀ a,p a→EvP (fun k=>h k a) q):EvP (fun k=>(f k).bind (h k)) q:=by
 obtain ⟨a,ha,pa⟩:=hf;obtain ⟨b,hb,qb⟩:=hg a pa
 exact ⟨b,ha.bind hb,qb⟩
theorem EvP.ite {c:Prop} [Decidable c] (h1:c→EvP f p) (h2:¬ c→EvP g p):EvP (fun k=>if c then f k else g k) p:=by
 by_cases hc:c
 ·obtain ⟨r,hr,pr⟩:=h1 hc;exact ⟨r,hr.congr (fun k=>if_pos hc),pr⟩
 ·obtain ⟨r,hr,pr⟩:=h2 hc;exact ⟨r,hr.congr (fun k=>if_neg hc),pr⟩
theorem EvP.succ (h:EvP g p) (e:∀ k,f (k+1)=g k):EvP f p:=by
 obtain ⟨r,hr,pr⟩:=h;exact ⟨r,hr.succ e,pr⟩
theorem EvP.congr (h:EvP g p) (e:∀ k,f k=g k):EvP f p:=by
 obtain ⟨r,hr,pr⟩:=h;exact ⟨r,hr.congr e,pr⟩
end
theorem w1 {i:Nat} (h:i < 4611686018427387904):wrap64 ((i:Int)+1)=((i+1:Nat):Int):=by unfold wrap64;omega

theorem drop_rd (l:List Int) (i:Nat) (h:i < l.length):l.drop i=rd l i::l.drop (i+1):=by
 rw [List.drop_eq_getElem_cons h]
 unfold rd
 rw [Int.toNat_natCast,List.getD_eq_getElem?_getD,List.getElem?_eq_getElem h]
 rfl
theorem rd_get (l:List Int) (i:Nat) (h:i < l.length):rd l i=l[i]:=by
 unfold rd
 rw [Int.toNat_natCast,List.getD_eq_getElem?_getD,List.getElem?_eq_getElem h]
 rfl
theorem w64 {i:Int} (h0: -9223372036854775808≤i) (h1:i≤9223372036854775807):wrap64 i=i:=by unfold wrap64;omega
theorem wu64 {i:Int} (h0:0≤i) (h1:i≤18446744073709551615):IntKind.u64.wrap i=i:=by
 unfold IntKind.wrap;simp [IntKind.signed,IntKind.bits];omega

def okG (p:Int):List Int→Bool
 |[]=>true
 |x::t=>decide (p < x) && okG x t
def Good (low:Int) (l:List Int):Prop:=okG low l=true∧l.length≤1000
instance (low:Int) (l:List Int):Decidable (Good low l):=inferInstanceAs (Decidable (_∧_))
theorem right_l0 (low:Int) (l:List Int) (hn:l.length < 4611686018427387904):∀ (d k i:Nat) (p:Int),l.length - i=d→i≤l.length→d < k→
  lsns_Right.l0 k p l l.length i low l=some (decide (okG p (l.drop i)=true∧l.length≤1000)):=by
 intro d
 induction d with
 |zero=>
  intro k i p hd hi hk
  obtain ⟨k,rfl⟩:∃ m,k=m+1:=⟨k - 1,by omega⟩
  have:i=l.length:=by omega
  subst this
  simp only [lsns_Right.l0,List.drop_length,okG,true_and]
  rw [if_neg (by omega)]
  congr 1
  exact decide_eq_decide.2 (by omega)
 |succ d ih=>
  intro k i p hd hi hk
  obtain ⟨k,rfl⟩:∃ m,k=m+1:=⟨k - 1,by omega⟩
  have hlt:i < l.length:=by omega
  simp only [lsns_Right.l0]
  rw [if_pos (by omega),if_pos (by omega),if_pos (by omega),drop_rd l i hlt,okG]
  by_cases h1:rd l i≤p
  ·rw [if_pos h1,decide_eq_false (show ¬ p < rd l i by omega)]
   simp
  ·rw [if_neg h1,w64 (by omega) (by omega),show (i:Int)+1=((i+1:Nat):Int) by omega,ih k (i+1) (rd l i) (by omega) (by omega) (by omega),decide_eq_true (show p < rd l i by omega),Bool.true_and]
theorem right_eq (low:Int) (l:List Int) (k:Nat) (hn:l.length < 4611686018427387904) (hk:l.length < k):lsns_Right.f k low l=some (decide (Good low l)):=by
 unfold lsns_Right.f Good
 have h:=right_l0 low l hn l.length k 0 low (by omega) (by omega) hk
 rw [List.drop_zero] at h
 exact h
theorem okG_mono {p:Int}:∀ {l:List Int},okG p l=true→∀ x∈l,p < x
 |[],_,x,hx=>by cases hx
 |y::t,h,x,hx=>by
  simp only [okG,Bool.and_eq_true,decide_eq_true_eq] at h
  rcases List.mem_cons.1 hx with rfl|hx
  ·exact h.1
  ·have:=okG_mono h.2 x hx
   omega
theorem okG_sorted {p:Int}:∀ {l:List Int},okG p l=true→l.Pairwise (·< ·)
 |[],_=>.nil
 |y::t,h=>by
  simp only [okG,Bool.and_eq_true,decide_eq_true_eq] at h
  exact .cons (fun x hx=>okG_mono h.2 x hx) (okG_sorted h.2)
theorem okG_of {p:Int}:∀ {l:List Int},l.Pairwise (·< ·)→(∀ x∈l,p < x)→okG p l=true
 |[],_,_=>rfl
 |y::t,h,hx=>by
  simp only [okG,Bool.and_eq_true,decide_eq_true_eq]
  have h':=List.pairwise_cons.1 h
  exact ⟨hx y List.mem_cons_self,okG_of h'.2 (fun x hm=>h'.1 x hm)⟩
theorem good_iff {low:Int} {l:List Int}:Good low l↔l.Pairwise (·< ·)∧(∀ x∈l,low < x)∧l.length≤1000:=
 ⟨fun h=>⟨okG_sorted h.1,okG_mono h.1,h.2⟩,fun h=>⟨okG_of h.1 h.2.1,h.2.2⟩⟩
theorem sorted_ext:∀ {l m:List Int},l.Pairwise (·< ·)→m.Pairwise (·< ·)→(∀ x,x∈l↔x∈m)→l=m
 |[],[],_,_,_=>rfl
 |[],y::m,_,_,h=>absurd ((h y).2 List.mem_cons_self) (by simp)
 |x::l,[],_,_,h=>absurd ((h x).1 List.mem_cons_self) (by simp)
 |x::l,y::m,hl,hm,h=>by
  have hl':=List.pairwise_cons.1 hl
  have hm':=List.pairwise_cons.1 hm
  have e:x=y:=by
   rcases List.mem_cons.1 ((h x).1 List.mem_cons_self) with h1|h1
   ·exact h1
   ·rcases List.mem_cons.1 ((h y).2 List.mem_cons_self) with h2|h2
    ·exact h2.symm
    ·have:=hm'.1 x h1
     have:=hl'.1 y h2
     omega
  subst e
  congr 1
  refine sorted_ext hl'.2 hm'.2 (fun z=>⟨fun hz=>?_,fun hz=>?_⟩)
  ·rcases List.mem_cons.1 ((h z).1 (List.mem_cons_of_mem _ hz)) with h1|h1
   ·have:=hl'.1 z hz
    omega
   ·exact h1
  ·rcases List.mem_cons.1 ((h z).2 (List.mem_cons_of_mem _ hz)) with h1|h1
   ·have:=hm'.1 z hz
    omega
   ·exact h1

def most_ (low:Int) (l:List Int):Int:=if Good low l then (if 0 < l.length then rd l ((l.length - 1:Nat):Int) else low) else 0
theorem most_eq (low:Int) (l:List Int) (k:Nat) (hn:l.length < 4611686018427387904) (hk:l.length < k):lsns_Most.f k low l=some (most_ low l):=by
 unfold lsns_Most.f most_
 rw [right_eq low l k hn hk]
 simp only [Option.bind_some,decide_eq_true_eq]
 by_cases hg:Good low l
 ·rw [if_pos hg,if_pos hg]
  by_cases h1:0 < l.length
  ·rw [if_pos (by omega),if_pos h1,w64 (by omega) (by omega),if_pos (by omega),if_pos (by omega),show (l.length:Int) - 1=((l.length - 1:Nat):Int) by omega]
  ·rw [if_neg (by omega),if_neg h1]
 ·rw [if_neg hg,if_neg hg]
def raise_ (low:Int) (l:List Int) (n:Int):Int×List Int×Int:=if Good low l then (mx n low,l.filter (fun x=>decide (x > mx n low)),0) else (0,[],40)
theorem raise_eq (low:Int) (l:List Int) (n:Int) (k:Nat) (hn:l.length < 17592186044415) (hk:l.length < k):lsns_Raise.f k low l n=some (raise_ low l n):=by
 unfold lsns_Raise.f raise_
 rw [right_eq low l k (by omega) hk]
 simp only [Option.bind_some,decide_eq_true_eq]
 by_cases hg:Good low l
 ·rw [if_pos hg,if_pos hg,if_pos (by omega)]
 ·rw [if_neg hg,if_neg hg]
theorem raise_good {low:Int} {l:List Int} (h:Good low l) (n:Int):Good (mx n low) (l.filter (fun x=>decide (x > mx n low))):=by
 have h':=good_iff.1 h
 refine good_iff.2 ⟨h'.1.filter _,fun x hx=>by have:=(List.mem_filter.1 hx).2;simpa using this,?_⟩
 have:=List.length_filter_le (fun x=>decide (x > mx n low)) l
 omega

theorem rright_l0 (low:Int) (l:List Int) (hn:l.length < 4611686018427387904):∀ (d k i:Nat),l.length - i=d→i≤l.length→d < k→(∀ j:Nat,j < i→low < rd l j)→
  q04_Right.l0 k i low l=some (okG (if i=0 then low else rd l ((i - 1:Nat):Int)) (l.drop i)):=by
 intro d
 induction d with
 |zero=>
  intro k i hd hi hk _
  obtain ⟨k,rfl⟩:∃ m,k=m+1:=⟨k - 1,by omega⟩
  have:i=l.length:=by omega
  subst this
  simp only [q04_Right.l0,List.drop_length,okG]
  rw [if_neg (by omega)]
 |succ d ih=>
  intro k i hd hi hk hpos
  obtain ⟨k,rfl⟩:∃ m,k=m+1:=⟨k - 1,by omega⟩
  have hlt:i < l.length:=by omega
  simp only [q04_Right.l0]
  rw [if_pos (by omega),if_pos (by omega),drop_rd l i hlt,okG]
  have hnext:low < rd l i→q04_Right.l0 k (wrap64 (i+1)) low l=some (okG (rd l i) (l.drop (i+1))):=fun h1=>by
   rw [w64 (by omega) (by omega),show (i:Int)+1=((i+1:Nat):Int) by omega,ih k (i+1) (by omega) (by omega) (by omega) (fun j hj=>by
    rcases Nat.lt_or_ge j i with h|h
    ·exact hpos j h
    ·obtain rfl:j=i:=by omega
     exact h1)]
   rw [if_neg (show ¬ (i+1=0) by omega),Nat.add_sub_cancel]
  by_cases h1:rd l i≤low
  ·rw [if_pos h1]
   split
   ·rw [decide_eq_false (by omega),Bool.false_and]
   ·have:=hpos (i - 1) (by omega)
    rw [decide_eq_false (by omega),Bool.false_and]
  ·rw [if_neg h1,hnext (by omega)]
   by_cases h3:i=0
   ·subst h3
    rw [if_neg (by omega),if_pos rfl,decide_eq_true (show low < rd l ((0:Nat):Int) by omega),Bool.true_and]
   ·rw [if_pos (by omega),w64 (by omega) (by omega),if_pos (by omega),if_pos (by omega),if_neg h3,show (i:Int) - 1=((i - 1:Nat):Int) by omega]
    by_cases h4:rd l i≤rd l ((i - 1:Nat):Int)
    ·rw [if_pos h4,decide_eq_false (by omega),Bool.false_and]
    ·rw [if_neg h4,decide_eq_true (by omega),Bool.true_and]
theorem rright_eq (low:Int) (l:List Int) (k:Nat) (hn:l.length < 4611686018427387904) (hk:l.length < k):q04_Right.f k low l=some (decide (Good low l)):=by
 unfold q04_Right.f
 have h:=rright_l0 low l hn l.length k 0 (by omega) (by omega) (by omega) (fun j hj=>absurd hj (Nat.not_lt_zero _))
 rw [List.drop_zero,if_pos rfl,show ((0:Nat):Int)=0 from rfl] at h
 rw [h]
 by_cases h1:l.length≤1000
 ·rw [if_neg (by omega)]
  cases ho:okG low l
  ·rw [decide_eq_false (fun h:Good low l=>by have h9:=h.1;rw [ho] at h9;cases h9)]
  ·rw [decide_eq_true (show Good low l from ⟨ho,h1⟩)]
 ·rw [if_pos (by omega),decide_eq_false (fun h:Good low l=>h1 h.2)]
theorem rmost_l0 (low:Int) (l:List Int) (hn:l.length < 4611686018427387904):∀ (d k i:Nat) (x:Int),l.length - i=d→i≤l.length→d < k→
  q04_Most.l0 k x i low l=some (if i < l.length then rd l ((l.length - 1:Nat):Int) else x):=by
 intro d
 induction d with
 |zero=>
  intro k i x hd hi hk
  obtain ⟨k,rfl⟩:∃ m,k=m+1:=⟨k - 1,by omega⟩
  simp only [q04_Most.l0]
  rw [if_neg (by omega),if_neg (by omega)]
 |succ d ih=>
  intro k i x hd hi hk
  obtain ⟨k,rfl⟩:∃ m,k=m+1:=⟨k - 1,by omega⟩
  have hlt:i < l.length:=by omega
  simp only [q04_Most.l0]
  rw [if_pos (by omega),if_pos (by omega),w64 (by omega) (by omega),show (i:Int)+1=((i+1:Nat):Int) by omega,ih k (i+1) _ (by omega) (by omega) (by omega),if_pos hlt]
  by_cases h1:i+1 < l.length
  ·rw [if_pos h1]
  ·rw [if_neg h1,show i=l.length - 1 by omega]
theorem rmost_eq (low:Int) (l:List Int) (k:Nat) (hn:l.length < 4611686018427387904) (hk:l.length < k):q04_Most.f k low l=some (most_ low l):=by
 unfold q04_Most.f most_
 rw [rright_eq low l k hn hk]
 simp only [Option.bind_some,decide_eq_true_eq]
 by_cases hg:Good low l
 ·rw [if_pos hg,if_pos hg]
  exact rmost_l0 low l hn l.length k 0 low (by omega) (by omega) hk
 ·rw [if_neg hg,if_neg hg]
theorem rcopy_eq (low:Int) (l:List Int) (hn:l.length < 17592186044416):q04_Copy.f low l=some (low,l):=by
 unfold q04_Copy.f
 simp [hn]

theorem rsame_l0 (x y:Int) (a b:List Int) (hn:a.length < 4611686018427387904) (hl:a.length=b.length):∀ (d k i:Nat),a.length - i=d→i≤a.length→d < k→
  q04_Same.l0 k i x a y b=some (decide (a.drop i=b.drop i)):=by
 intro d
 induction d with
 |zero=>
  intro k i hd hi hk
  obtain ⟨k,rfl⟩:∃ m,k=m+1:=⟨k - 1,by omega⟩
  have:i=a.length:=by omega
  subst this
  simp only [q04_Same.l0,List.drop_length]
  rw [if_neg (by omega),hl,List.drop_length]
  simp
 |succ d ih=>
  intro k i hd hi hk
  obtain ⟨k,rfl⟩:∃ m,k=m+1:=⟨k - 1,by omega⟩
  have hlt:i < a.length:=by omega
  simp only [q04_Same.l0]
  rw [if_pos (by omega),if_pos (by omega),if_pos (by omega),w64 (by omega) (by omega),show (i:Int)+1=((i+1:Nat):Int) by omega,drop_rd a i hlt,drop_rd b i (by omega)]
  by_cases h1:rd a i=rd b i
  ·rw [if_pos h1,ih k (i+1) (by omega) (by omega) (by omega)]
   simp [h1]
  ·rw [if_neg h1]
   simp [h1]
theorem rsame_eq (x y:Int) (a b:List Int) (k:Nat) (hn:a.length < 4611686018427387904) (hk:a.length+1 < k):q04_Same.f k x a y b=some (decide (x=y∧a=b)):=by
 unfold q04_Same.f
 obtain ⟨k,rfl⟩:∃ m,k=m+1:=⟨k - 1,by omega⟩
 simp only [q04_Same.j0]
 by_cases h1:x=y
 ·rw [if_pos h1]
  by_cases h2:a.length=b.length
  ·have h:=rsame_l0 x y a b hn h2 a.length k 0 (by omega) (by omega) (by omega)
   rw [List.drop_zero,List.drop_zero,show ((0:Nat):Int)=0 from rfl] at h
   rw [h,if_neg (by simp;omega)]
   simp [h1]
  ·rw [if_pos (by simp;omega),decide_eq_false]
   rintro ⟨_,rfl⟩
   exact h2 rfl
 ·rw [if_neg h1,if_pos trivial,decide_eq_false (fun h=>h1 h.1)]
/-! ### Join: both rows, each number once -/
theorem compact_mem {zs:List Int} (x:Int):x∈Go.Lib.compact zs↔x∈zs:=by
 unfold Go.Lib.compact Go.Lib.compactUpTo
 rw [List.mem_map]
 constructor
 ·rintro ⟨j,hj,rfl⟩
  have hj':j < zs.length:=List.mem_range.1 (List.mem_filter.1 hj).1
  simp [hj']
 ·intro hx
  obtain ⟨i,hi,rfl⟩:=List.mem_iff_getElem.1 hx
  have key:∀ i:Nat,(hi:i < zs.length)→∃ a,a∈(List.range zs.length).filter (Go.Lib.keeps zs.toArray)∧zs.toArray[a]! =zs[i]:=by
   intro i
   induction i with
   |zero=>exact fun hi=>⟨0,List.mem_filter.2 ⟨List.mem_range.2 hi,by simp [Go.Lib.keeps]⟩,by simp [hi]⟩
   |succ i ih=>
    intro hi
    by_cases h:zs[i+1]=zs[i]
    ·obtain ⟨a,h1,h2⟩:=ih (by omega)
     exact ⟨a,h1,by rw [h2,h]⟩
    ·refine ⟨i+1,List.mem_filter.2 ⟨List.mem_range.2 hi,?_⟩,by simp [hi]⟩
     have h2:i < zs.length:=by omega
     simp [Go.Lib.keeps,hi,h2,h]
  exact key i hi
theorem compact_sorted {zs:List Int} (hs:zs.Pairwise (·≤·)):(Go.Lib.compact zs).Pairwise (·< ·):=by
 unfold Go.Lib.compact Go.Lib.compactUpTo
 rw [List.pairwise_map]
 refine List.Pairwise.imp_of_mem ?_ ((List.pairwise_lt_range (n:=zs.length)).filter _)
 intro a b ha hb hab
 have hb1:b < zs.length:=List.mem_range.1 (List.mem_filter.1 hb).1
 have hk:=(List.mem_filter.1 hb).2
 have hb2:b - 1 < zs.length:=by omega
 have ha2:a < zs.length:=by omega
 have hne:¬ zs[b]=zs[b - 1]:=by
  intro e
  simp [Go.Lib.keeps,hb1,hb2,e] at hk
  omega
 have h1:zs[b - 1]≤zs[b]:=List.pairwise_iff_getElem.1 hs (b - 1) b hb2 hb1 (by omega)
 have h2:zs[a]≤zs[b - 1]:=by
  rcases Nat.lt_or_ge a (b - 1) with h|h
  ·exact List.pairwise_iff_getElem.1 hs a (b - 1) ha2 hb2 h
  ·obtain rfl:a=b - 1:=by omega
   exact Int.le_refl _
 simp only [List.getElem!_toArray]
 rw [List.getElem!_eq_getElem?_getD,List.getElem!_eq_getElem?_getD,List.getElem?_eq_getElem ha2,List.getElem?_eq_getElem hb1]
 simp only [Option.getD_some]
 omega
theorem sortL_sorted (l:List Int):(sortL l).Pairwise (·≤·):=by
 unfold sortL
 have h:=List.pairwise_mergeSort (le:=fun x y:Int=>decide (x≤y)) (fun a b c h1 h2=>by simp at *;omega) (fun a b=>by simp;omega) l
 exact h.imp (fun h=>by simpa using h)
def jl (l m:List Int):List Int:=lsns_Join_l l m
theorem jl_mem (l m:List Int) (x:Int):x∈jl l m↔x∈l∨x∈m:=by
 unfold jl lsns_Join_l
 rw [compact_mem]
 unfold sortL
 rw [List.mem_mergeSort,List.mem_append]
theorem jl_sorted (l m:List Int):(jl l m).Pairwise (·< ·):=compact_sorted (sortL_sorted _)
theorem jl_length (l m:List Int):(jl l m).length≤l.length+m.length:=by
 have h:=compact_length (sortL (l++m))
 rw [sortL_length,List.length_append] at h
 exact h
def joined_ (a:Int) (l:List Int) (b:Int) (m:List Int):Int×List Int×Int:=
 if Good a l∧Good b m then (if a=b then (if 1000 < (jl l m).length then (0,[],6) else (a,jl l m,0)) else (0,[],9)) else (0,[],40)
theorem join_eq (a:Int) (l:List Int) (b:Int) (m:List Int) (k:Nat) (hl:l.length < 4611686018427387904) (hm:m.length < 4611686018427387904) (hkl:l.length < k) (hkm:m.length < k):lsns_Join.f k a l b m=some (joined_ a l b m):=by
 unfold lsns_Join.f joined_
 rw [right_eq a l k hl hkl,right_eq b m k hm hkm]
 simp only [Option.bind_some,decide_eq_true_eq]
 by_cases hg:Good a l∧Good b m
 ·rw [if_pos hg,if_pos hg]
  have h1:=hg.1.2
  have h2:=hg.2.2
  by_cases he:a=b
  ·rw [if_pos he,if_pos he,if_pos (by omega)]
   show (if 1000 < (jl l m).length then _ else some (a,jl l m,0))=_
   split
   ·rfl
   ·rfl
  ·rw [if_neg he,if_neg he]
 ·rw [if_neg hg,if_neg hg]
theorem jl_good {a:Int} {l m:List Int} (hl:Good a l) (hm:Good a m) (h:¬ 1000 < (jl l m).length):Good a (jl l m):=by
 refine good_iff.2 ⟨jl_sorted l m,fun x hx=>?_,by omega⟩
 rcases (jl_mem l m x).1 hx with h1|h1
 ·exact (good_iff.1 hl).2.1 x h1
 ·exact (good_iff.1 hm).2.1 x h1
theorem rraise_l0 (low:Int) (l:List Int) (x:Int) (hn:l.length≤1100):∀ (d k i:Nat),l.length - i=d→i≤l.length→d < k→
  q04_Raise.l0 k i low l x ((l.take i).filter (fun y=>decide (y > x)))=some (x,l.filter (fun y=>decide (y > x)),0):=by
 intro d
 induction d with
 |zero=>
  intro k i hd hi hk
  obtain ⟨k,rfl⟩:∃ m,k=m+1:=⟨k - 1,by omega⟩
  have:i=l.length:=by omega
  subst this
  simp only [q04_Raise.l0]
  rw [if_neg (by omega),List.take_length]
 |succ d ih=>
  intro k i hd hi hk
  obtain ⟨k,rfl⟩:∃ m,k=m+1:=⟨k - 1,by omega⟩
  have hfl:((l.take i).filter (fun y=>decide (y > x))).length≤1100:=Nat.le_trans (List.length_filter_le _ _) (by rw [List.length_take];omega)
  have e:(l.take (i+1)).filter (fun y=>decide (y > x))=(l.take i).filter (fun y=>decide (y > x))++(if rd l i > x then [rd l i] else []):=by
   rw [List.take_succ_eq_append_getElem (by omega),List.filter_append,rd_get l i (by omega)]
   congr 1
   by_cases h:l[i] > x
   ·rw [if_pos h];simp [h]
   ·rw [if_neg h];simp [h]
  simp only [q04_Raise.l0]
  rw [if_pos (by omega),if_pos (by omega),w64 (by omega) (by omega),show (i:Int)+1=((i+1:Nat):Int) by omega]
  have h:=ih k (i+1) (by omega) (by omega) (by omega)
  rw [e] at h
  by_cases c:rd l i > x
  ·rw [if_pos c] at h
   rw [if_pos c,if_pos (by omega)]
   exact h
  ·rw [if_neg c,List.append_nil] at h
   rw [if_neg c]
   exact h
theorem rraise_eq (low:Int) (l:List Int) (n:Int) (k:Nat) (hn:l.length≤1100) (hk:5000≤k):q04_Raise.f k low l n=some (raise_ low l n):=by
 unfold q04_Raise.f raise_
 rw [rright_eq low l k (by omega) (by omega)]
 simp only [Option.bind_some,decide_eq_true_eq]
 obtain ⟨k,rfl⟩:∃ m,k=m+1:=⟨k - 1,by omega⟩
 by_cases hg:Good low l
 ·have h:=fun x=>rraise_l0 low l x hn l.length k 0 (by omega) (by omega) (by omega)
  simp only [List.take_zero,List.filter_nil] at h
  rw [show ((0:Nat):Int)=0 from rfl] at h
  rw [if_pos hg,if_pos hg]
  simp only [q04_Raise.j0]
  unfold mx
  by_cases c:n > low
  ·rw [if_pos c,if_neg (by omega)]
   exact h n
  ·rw [if_neg c,h low]
   by_cases c2:n < low
   ·rw [if_pos c2]
   ·rw [if_neg c2,show n=low by omega]
 ·rw [if_neg hg,if_neg hg]

def mrg:List Int→List Int→List Int
 |xs,[]=>xs
 |[],y::ys=>y::mrg [] ys
 |x::xs,y::ys=>if x < y then x::mrg xs (y::ys) else if x=y then y::mrg xs ys else y::mrg (x::xs) ys
 termination_by xs ys=>xs.length+ys.length
theorem mrg_mem:∀ (l m:List Int) (x:Int),x∈mrg l m↔x∈l∨x∈m
 |xs,[],z=>by simp [mrg]
 |[],y::ys,z=>by
  rw [mrg,List.mem_cons,mrg_mem [] ys z,List.mem_cons]
  simp
 |x::xs,y::ys,z=>by
  rw [mrg]
  split
  ·simp only [List.mem_cons,mrg_mem xs (y::ys) z,or_assoc]
  ·split
   ·rename_i h1 h2
    rw [List.mem_cons,mrg_mem xs ys z,List.mem_cons,List.mem_cons,h2]
    constructor
    ·rintro (h|h|h)
     ·exact .inl (.inl h)
     ·exact .inl (.inr h)
     ·exact .inr (.inr h)
    ·rintro ((h|h)|h|h)
     ·exact .inl h
     ·exact .inr (.inl h)
     ·exact .inl h
     ·exact .inr (.inr h)
   ·rw [List.mem_cons,mrg_mem (x::xs) ys z,List.mem_cons (a:=z) (b:=y)]
    constructor
    ·rintro (h|h|h)
     ·exact .inr (.inl h)
     ·exact .inl h
     ·exact .inr (.inr h)
    ·rintro (h|h|h)
     ·exact .inr (.inl h)
     ·exact .inl h
     ·exact .inr (.inr h)
 termination_by xs ys=>xs.length+ys.length
theorem mrg_sorted:∀ (l m:List Int),l.Pairwise (·< ·)→m.Pairwise (·< ·)→(mrg l m).Pairwise (·< ·)
 |xs,[],h,_=>by rw [mrg];exact h
 |[],y::ys,h,hm=>by
  rw [mrg]
  have hm':=List.pairwise_cons.1 hm
  refine .cons (fun z hz=>?_) (mrg_sorted [] ys h hm'.2)
  rcases (mrg_mem [] ys z).1 hz with h1|h1
  ·cases h1
  ·exact hm'.1 z h1
 |x::xs,y::ys,hl,hm=>by
  have hl':=List.pairwise_cons.1 hl
  have hm':=List.pairwise_cons.1 hm
  rw [mrg]
  split
  ·rename_i h1
   refine .cons (fun z hz=>?_) (mrg_sorted xs (y::ys) hl'.2 hm)
   rcases (mrg_mem xs (y::ys) z).1 hz with h2|h2
   ·exact hl'.1 z h2
   ·rcases List.mem_cons.1 h2 with rfl|h2
    ·exact h1
    ·have:=hm'.1 z h2
     omega
  ·split
   ·rename_i h1 h2
    refine .cons (fun z hz=>?_) (mrg_sorted xs ys hl'.2 hm'.2)
    rcases (mrg_mem xs ys z).1 hz with h3|h3
    ·have:=hl'.1 z h3
     omega
    ·exact hm'.1 z h3
   ·rename_i h1 h2
    refine .cons (fun z hz=>?_) (mrg_sorted (x::xs) ys hl hm'.2)
    rcases (mrg_mem (x::xs) ys z).1 hz with h3|h3
    ·rcases List.mem_cons.1 h3 with rfl|h3
     ·omega
     ·have:=hl'.1 z h3
      omega
    ·exact hm'.1 z h3
 termination_by xs ys=>xs.length+ys.length
theorem mrg_nil (m:List Int):mrg [] m=m:=by
 induction m with
 |nil=>rw [mrg]
 |cons y ys ih=>rw [mrg,ih]
def fin_ (a:Int) (r:List Int):Int×List Int×Int:=if 1000 < r.length then (0,[],6) else (a,r,0)
theorem rjoin_l0 (a b:Int) (l m:List Int) (hl:l.length≤1000) (hm:m.length≤1000):∀ (s k i j:Nat) (acc:List Int),(l.length - i)+(m.length - j)=s→i≤l.length→j≤m.length→2 * s+2 < k→acc.length≤i+j→
  q04_Join.l0 k i acc j b m a l=some (fin_ a (acc++mrg (l.drop i) (m.drop j)))∧
   (j < m.length→q04_Join.l1 (k - 1) i acc j b m a l=some (fin_ a (acc++mrg (l.drop i) (m.drop j)))):=by
 intro s
 induction s using Nat.strongRecOn with
 |_ s ih=>
  intro k i j acc hs hi hj hk hacc
  obtain ⟨k,rfl⟩:∃ q,k=q+2:=⟨k - 2,by omega⟩
  have inner:j < m.length→q04_Join.l1 (k+1) i acc j b m a l=some (fin_ a (acc++mrg (l.drop i) (m.drop j))):=by
   intro hj2
   simp only [q04_Join.l1]
   have ey:m.drop j=rd m j::m.drop (j+1):=drop_rd m j hj2
   by_cases h1:i < l.length
   ·have ex:l.drop i=rd l i::l.drop (i+1):=drop_rd l i h1
    rw [if_pos (by omega),if_pos (by omega),if_pos (by omega),if_pos (by omega)]
    by_cases c1:rd l i < rd m j
    ·have h:=(ih (s - 1) (by omega) (k+1) (i+1) j (acc++[rd l i]) (by omega) (by omega) hj (by omega) (by rw [List.length_append,List.length_singleton];omega)).2 hj2
     rw [Nat.add_sub_cancel] at h
     rw [if_pos c1,if_pos (by omega),w64 (by omega) (by omega),show (i:Int)+1=((i+1:Nat):Int) by omega,h,ex,ey,mrg,if_pos c1,← ey,List.append_assoc]
     rfl
    ·by_cases c2:rd l i=rd m j
     ·have h:=(ih (s - 2) (by omega) k (i+1) (j+1) (acc++[rd m j]) (by omega) (by omega) (by omega) (by omega) (by rw [List.length_append,List.length_singleton];omega)).1
      rw [if_neg c1,if_pos c2,if_pos (by omega),w64 (i:=(i:Int)+1) (by omega) (by omega),w64 (i:=(j:Int)+1) (by omega) (by omega),show (i:Int)+1=((i+1:Nat):Int) by omega,show (j:Int)+1=((j+1:Nat):Int) by omega,h,ex,ey,mrg,if_neg c1,if_pos c2,List.append_assoc]
      rfl
     ·have h:=(ih (s - 1) (by omega) k i (j+1) (acc++[rd m j]) (by omega) hi (by omega) (by omega) (by rw [List.length_append,List.length_singleton];omega)).1
      rw [if_neg c1,if_neg c2,if_pos (by omega),w64 (i:=(j:Int)+1) (by omega) (by omega),show (j:Int)+1=((j+1:Nat):Int) by omega,h,ex,ey,mrg,if_neg c1,if_neg c2,← ex,List.append_assoc]
      rfl
   ·have ex:l.drop i=[]:=List.drop_eq_nil_of_le (by omega)
    have h:=(ih (s - 1) (by omega) k i (j+1) (acc++[rd m j]) (by omega) hi (by omega) (by omega) (by rw [List.length_append,List.length_singleton];omega)).1
    rw [if_neg (by omega),if_pos (by omega),if_pos (by omega),if_pos (by omega),w64 (i:=(j:Int)+1) (by omega) (by omega),show (j:Int)+1=((j+1:Nat):Int) by omega,h,ex,ey,mrg,List.append_assoc]
    rfl
  refine ⟨?_,inner⟩
  simp only [q04_Join.l0]
  by_cases hj2:j < m.length
  ·rw [if_pos (by omega)]
   exact inner hj2
  ·have ey:m.drop j=[]:=List.drop_eq_nil_of_le (by omega)
   have em:mrg (l.drop i) []=l.drop i:=by rw [mrg]
   rw [if_neg (by omega),if_pos (by omega),if_pos (by omega),Int.toNat_natCast,ey,em]
   simp only [Option.bind_some]
   rw [if_pos (by rw [List.length_drop];omega)]
   unfold fin_
   by_cases c:1000 < (acc++l.drop i).length
   ·rw [if_pos c,if_pos (by omega)]
   ·rw [if_neg c,if_neg (by omega)]
theorem rjoin_eq (a:Int) (l:List Int) (b:Int) (m:List Int) (k:Nat) (hl:l.length≤1100) (hm:m.length≤1100) (hk:5100≤k):q04_Join.f k a l b m=some (joined_ a l b m):=by
 obtain ⟨k,rfl⟩:∃ q,k=q+1:=⟨k - 1,by omega⟩
 unfold q04_Join.f joined_
 rw [rright_eq a l _ (by omega) (by omega),rright_eq b m _ (by omega) (by omega)]
 simp only [Option.bind_some,decide_eq_true_eq]
 by_cases g1:Good a l
 ·rw [if_pos g1]
  by_cases g2:Good b m
  ·rw [if_pos ⟨g1,g2⟩,decide_eq_true g2]
   simp only [q04_Join.j0,Bool.not_true]
   rw [if_neg (by simp)]
   by_cases c:a=b
   ·have h:=(rjoin_l0 a b l m g1.2 g2.2 (l.length+m.length) k 0 0 [] (by omega) (by omega) (by omega) (by have:=g1.2;have:=g2.2;omega) (by simp)).1
    rw [show ((0:Nat):Int)=0 from rfl,List.drop_zero,List.drop_zero,List.nil_append] at h
    have e:mrg l m=jl l m:=sorted_ext (mrg_sorted l m (okG_sorted g1.1) (okG_sorted g2.1)) (jl_sorted l m) (fun x=>by rw [mrg_mem,jl_mem])
    rw [if_pos c,if_pos c,rcopy_eq a l (by omega)]
    simp only [Option.bind_some]
    rw [h,e]
    rfl
   ·rw [if_neg c,if_neg c]
  ·rw [if_neg (fun h=>g2 h.2),decide_eq_false g2]
   simp only [q04_Join.j0,Bool.not_false]
   rw [if_pos trivial]
 ·rw [if_neg g1,if_neg (fun h=>g1 h.1)]
  simp only [q04_Join.j0]
  rw [if_pos trivial]

def val (l:List Int):Int:=l.foldl (fun a b=>a * 256+b) 0
def be:Nat→Int→List Int
 |0,_=>[]
 |w+1,x=>be w (x / 256)++[x % 256]
def byt (l:List Int):Prop:=∀ x∈l,0≤x∧x < 256
theorem be_length:∀ (w:Nat) (x:Int),(be w x).length=w
 |0,_=>rfl
 |w+1,x=>by rw [be,List.length_append,be_length w];rfl
theorem be_byt:∀ (w:Nat) (x:Int),byt (be w x)
 |0,_=>fun y hy=>by cases hy
 |w+1,x=>fun y hy=>by
  rw [be] at hy
  rcases List.mem_append.1 hy with h|h
  ·exact be_byt w _ y h
  ·rw [List.mem_singleton.1 h];omega
theorem be_front:∀ (w:Nat) (x:Int),be (w+1) x=(x / 256 ^ w % 256)::be w x
 |0,x=>by simp [be]
 |w+1,x=>by
  rw [be,be_front w (x / 256),be,List.cons_append]
  congr 2
  rw [Int.ediv_ediv_of_nonneg (by omega),Int.pow_succ,Int.mul_comm]
theorem val_append (l:List Int) (b:Int):val (l++[b])=val l * 256+b:=by unfold val;rw [List.foldl_append];rfl
theorem val_be:∀ (w:Nat) (x:Int),0≤x→x < 256 ^ w→val (be w x)=x
 |0,x,h0,h1=>by simp at h1;simp [val,be];omega
 |w+1,x,h0,h1=>by
  rw [be,val_append,val_be w (x / 256) (by omega) (by rw [Int.pow_succ] at h1;omega)]
  omega
theorem val_range:∀ (n:Nat) (l:List Int),l.length=n→byt l→0≤val l∧val l < 256 ^ l.length
 |0,l,h,_=>by
  obtain rfl:l=[]:=List.length_eq_zero_iff.1 h
  simp [val]
 |n+1,l,h,hb=>by
  have e:l=l.dropLast++[l.getLast (by rintro rfl;simp at h)]:=(List.dropLast_concat_getLast _).symm
  generalize l.getLast _=b at e
  generalize l.dropLast=m at e
  subst e
  have h1:=val_range n m (by simp at h;exact h) (fun x hx=>hb x (List.mem_append_left _ hx))
  have h2:=hb b (List.mem_append_right _ List.mem_cons_self)
  rw [val_append,List.length_append,List.length_singleton,Int.pow_succ]
  omega
theorem byt_take {l:List Int} (h:byt l) (n:Nat):byt (l.take n):=fun x hx=>h x (List.mem_of_mem_take hx)
theorem byt_drop {l:List Int} (h:byt l) (n:Nat):byt (l.drop n):=fun x hx=>h x (List.mem_of_mem_drop hx)
theorem wide_8 (k:Nat) (hk:10≤k):octet_wide.f k 8 8=some true:=by
 obtain ⟨d,rfl⟩:∃ d,k=10+d:=⟨k - 10,by omega⟩
 induction d with
 |zero=>kernel_rfl
 |succ d ih=>exact octet_wide.mono _ _ _ _ (ih (by omega))
theorem wide_2 (k:Nat) (hk:10≤k):octet_wide.f k 2 8=some true:=by
 obtain ⟨d,rfl⟩:∃ d,k=10+d:=⟨k - 10,by omega⟩
 induction d with
 |zero=>kernel_rfl
 |succ d ih=>exact octet_wide.mono _ _ _ _ (ih (by omega))
theorem shr_byte (x:Int) (i:Nat) (hi:i < 8):shr .u64 x (wrap64 (8 * (i:Int))) % 256=x / 256 ^ i % 256:=by
 unfold shr
 rw [w64 (by omega) (by omega)]
 have h:(2:Int) ^ min (8 * (i:Int)).toNat IntKind.u64.bits=256 ^ i:=by
  obtain rfl|rfl|rfl|rfl|rfl|rfl|rfl|rfl:i=0∨i=1∨i=2∨i=3∨i=4∨i=5∨i=6∨i=7:=by omega
  all_goals rfl
 rw [h]
theorem lay_l0 (x:Int) (p:List Int) (w:Nat) (hw:w≤8) (hp:p.length < 140737488355328):∀ (d k i:Nat) (z:List Int),w - i=d→i≤w→z.length=w - i→d < k→
  octet_lay.l0 k (p++z++be i x) x w i=some (p++be w x):=by
 intro d
 induction d with
 |zero=>
  intro k i z hd hi hz hk
  obtain ⟨k,rfl⟩:∃ m,k=m+1:=⟨k - 1,by omega⟩
  obtain rfl:i=w:=by omega
  obtain rfl:z=[]:=List.length_eq_zero_iff.1 (by omega)
  simp only [octet_lay.l0]
  rw [if_neg (by omega),List.append_nil]
 |succ d ih=>
  intro k i z hd hi hz hk
  obtain ⟨k,rfl⟩:∃ m,k=m+1:=⟨k - 1,by omega⟩
  obtain ⟨y,t,rfl⟩:∃ y t,z=y++[t]:=⟨z.dropLast,z.getLast (by rintro rfl;simp at hz;omega),(List.dropLast_concat_getLast _).symm⟩
  have hl:(p++(y++[t])++be i x).length=p.length+w:=by
   simp only [List.length_append,be_length,List.length_singleton] at hz ⊢;omega
  have hy:y.length=w - i - 1:=by simp only [List.length_append,List.length_singleton] at hz;omega
  have e:wrap64 (wrap64 (((p++(y++[t])++be i x).length:Int) - 1) - (i:Int))=((p.length+y.length:Nat):Int):=by
   rw [hl,w64 (i:=((p.length+w:Nat):Int) - 1) (by omega) (by omega),w64 (by omega) (by omega)];omega
  simp only [octet_lay.l0]
  rw [if_pos (by omega),if_pos (by rw [w64 (by omega) (by omega)];omega),e,if_pos (by omega),if_pos (by rw [hl];omega),shr_byte x i (by omega),w64 (by omega) (by omega),Int.toNat_natCast,show (i:Int)+1=((i+1:Nat):Int) by omega]
  have e2:(p++(y++[t])++be i x).set (p.length+y.length) (x / 256 ^ i % 256)=p++y++be (i+1) x:=by
   rw [be_front,← List.append_assoc,List.append_assoc (p++y),List.set_append_right _ _ (by rw [List.length_append];omega),List.length_append,Nat.sub_self]
   rfl
  rw [e2]
  exact ih k (i+1) y (by omega) (by omega) (by omega) (by omega)
theorem oput_eq (k:Nat) (l:List Int) (x:Int) (w:Nat) (hw:w=8∨w=2) (hl:l.length < 100000000000000) (hk:10≤k):octet_Put.f k l x w=some (l++be w x):=by
 have h1:octet_wide.f k w 8=some true:=by
  rcases hw with rfl|rfl
  ·exact wide_8 k hk
  ·exact wide_2 k hk
 unfold octet_Put.f
 rw [h1]
 simp only [Option.bind_some,if_true]
 unfold octet_grown.f octet_lay.f
 rw [if_pos (by omega),if_pos (by omega),Int.toNat_natCast]
 simp only [Option.bind_some]
 have h:=lay_l0 x l w (by omega) (by omega) w k 0 (List.replicate w 0) (by omega) (by omega) (by simp) (by omega)
 rw [be,List.append_nil,show ((0:Nat):Int)=0 from rfl] at h
 rw [h]
 rfl
theorem bt_nums {l:List Int} (hb:byt l) (j:Nat) (hj:j < l.length):bt (strOfNums l) j=rd l j:=by
 have hs:j < (strOfNums l).size:=by rw [strOfNums_size];exact hj
 unfold bt
 rw [Int.toNat_natCast,dif_pos hs,rd_get l j hj]
 have:=hb l[j] (List.getElem_mem hj)
 have e:(strOfNums l)[j]=UInt8.ofNat l[j].toNat:=by
  have h9:∀ (h:j < ((l.map fun n=>UInt8.ofNat n.toNat).toArray).size),((l.map fun n=>UInt8.ofNat n.toNat).toArray)[j]=UInt8.ofNat l[j].toNat:=fun h=>by simp
  exact h9 _
 rw [e,UInt8.toNat_ofNat']
 omega
theorem extract_nums (l:List Int) (a b:Nat):(strOfNums l).extract a b=strOfNums ((l.take b).drop a):=by
 apply ByteArray.ext
 unfold strOfNums
 rw [ByteArray.data_extract]
 simp [List.map_drop,List.map_take,List.drop_take]
theorem nx_eq (a b:Int) (h0:0≤a) (h1:a < 256 ^ 7) (h2:0≤b) (h3:b < 256):nx a b=a * 256+b:=by
 unfold nx
 rw [wu64 (by omega) (by omega),wu64 (by omega) (by omega)]
 exact bits_join .u64 64 (by decide) (fun n h h'=>wu64 h (by omega)) 8 (a * 256) b (by omega) (by omega) (by omega) h2 (by omega) (by omega)
theorem take_succ_rd (l:List Int) (j:Nat) (h:j < l.length):l.take (j+1)=l.take j++[rd l j]:=by rw [List.take_succ_eq_append_getElem h,rd_get l j h]
theorem val_small {l:List Int} (hb:byt l) {m:Nat} (hm:l.length≤m):0≤val l∧val l < 256 ^ m:=by
 have h:=val_range l.length l rfl hb
 have h2:(256:Nat) ^ l.length≤256 ^ m:=Nat.pow_le_pow_right (by omega) hm
 have h3:(256:Int) ^ l.length≤256 ^ m:=by
  have h4:=Int.ofNat_le.2 h2
  rw [Int.natCast_pow,Int.natCast_pow] at h4
  exact h4
 omega
theorem numOf_eq {l:List Int} (hb:byt l):∀ j:Nat,j≤l.length→j≤8→numOf (strOfNums l) 0 j=val (l.take j)
 |0,_,_=>by simp [numOf,val]
 |j+1,h,h8=>by
  rw [numOf,numOf_eq hb j (by omega) (by omega),bt_nums hb j h,take_succ_rd l j h,val_append]
  have h1:=val_small (byt_take hb j) (m:=7) (by rw [List.length_take];omega)
  have h2:=hb (rd l j) (by rw [rd_get l j h];exact List.getElem_mem _)
  exact nx_eq _ _ h1.1 h1.2 h2.1 h2.2
theorem rdN_eq {l:List Int} (hb:byt l) (p n:Nat) (hn:n≤8) (h:p+n≤l.length):rdN (strOfNums l) p false n=val ((l.drop p).take n):=by
 unfold rdN
 rw [if_neg (by rw [strOfNums_size];simp;omega),Int.toNat_natCast,Int.toNat_natCast,strOfNums_size,extract_nums,extract_nums,List.take_length,List.drop_zero]
 rw [numOf_eq (byt_take (byt_drop hb p) n) n (by rw [List.length_take,List.length_drop];omega) hn,List.take_take,Nat.min_self]
theorem tl_inj {a b:ByteArray} (h:a.toList=b.toList):a=b:=by
 rw [Go.Lib.toList_data,Go.Lib.toList_data] at h
 exact ByteArray.ext (Array.toList_inj.1 h)
theorem lss_iff (a b:ByteArray):(Op.bytesLess a.toList b.toList=true)↔a.toList < b.toList:=by
 rw [show Op.bytesLess a.toList b.toList=decide (a.toList < b.toList) from bytesLess_eq _ _,decide_eq_true_iff]
def fits (c:S42):Prop:=c.f0.size≤513∧c.f1.size≤2048
def okFrom (l:List S42) (i:Nat):Prop:=∀ t,i≤t→t < l.length→fits (rd_T42 l t)∧(0 < t→(rd_T42 l ((t - 1:Nat):Int)).f0.toList < (rd_T42 l t).f0.toList)
def RightP (l:List S42):Prop:=okFrom l 0
theorem okFrom_step {l:List S42} {i:Nat} (h:i < l.length):okFrom l i↔(fits (rd_T42 l i)∧(0 < i→(rd_T42 l ((i - 1:Nat):Int)).f0.toList < (rd_T42 l i).f0.toList))∧okFrom l (i+1):=by
 constructor
 ·intro q
  exact ⟨q i (Nat.le_refl _) h,fun t h1 h2=>q t (by omega) h2⟩
 ·rintro ⟨q1,q2⟩ t h1 h2
  by_cases e:t=i
  ·subst e;exact q1
  ·exact q2 t (by omega) h2
theorem cright_l0 (l:List S42) (hn:l.length < 4611686018427387904):∀ (d k i:Nat),l.length - i=d→i≤l.length→d < k→∃ b,cells_Right.l0 k l l (l.length:Int) (i:Int)=some b∧(b=true↔okFrom l i)
 |0,k+1,i,hd,hi,hk=>by
  refine ⟨true,?_,?_⟩
  ·unfold cells_Right.l0
   rw [if_neg (by omega)]
  ·simp only [true_iff]
   intro t h1 h2
   omega
 |d+1,k+1,i,hd,hi,hk=>by
  have hlt:i < l.length:=by omega
  obtain ⟨b,hb,hbi⟩:=cright_l0 l hn d k (i+1) (by omega) (by omega) (by omega)
  have e1:wrap64 ((i:Int)+1)=((i+1:Nat):Int):=by rw [w64 (by omega) (by omega)];omega
  unfold cells_Right.l0 cells_cell_right.f
  rw [if_pos (by omega),if_pos (by omega),if_pos (by omega),okFrom_step hlt,e1,hb]
  by_cases hf:(rd_T42 l i).f0.size≤513
  ·rw [if_pos (by omega)]
   simp only [Option.bind_some]
   by_cases hg:(rd_T42 l i).f1.size≤2048
   ·rw [if_pos (by rw [decide_eq_true_iff];omega)]
    by_cases h0:0 < i
    ·have e2:wrap64 ((i:Int) - 1)=((i - 1:Nat):Int):=by rw [w64 (by omega) (by omega)];omega
     rw [if_pos (by omega),e2,if_pos (by omega),if_pos (by omega)]
     by_cases hs:(rd_T42 l ((i - 1:Nat):Int)).f0.toList < (rd_T42 l i).f0.toList
     ·rw [if_pos ((lss_iff _ _).2 hs)]
      exact ⟨b,rfl,by rw [hbi];exact ⟨fun q=>⟨⟨⟨hf,hg⟩,fun _=>hs⟩,q⟩,fun q=>q.2⟩⟩
     ·rw [if_neg (fun q=>hs ((lss_iff _ _).1 q))]
      exact ⟨false,rfl,by simp only [Bool.false_eq_true,false_iff];exact fun q=>hs (q.1.2 h0)⟩
    ·rw [if_neg (by omega)]
     exact ⟨b,rfl,by rw [hbi];exact ⟨fun q=>⟨⟨⟨hf,hg⟩,fun q=>absurd q h0⟩,q⟩,fun q=>q.2⟩⟩
   ·rw [if_neg (by rw [decide_eq_true_iff];omega)]
    exact ⟨false,rfl,by simp only [Bool.false_eq_true,false_iff];exact fun q=>hg q.1.1.2⟩
  ·rw [if_neg (by omega)]
   simp only [Option.bind_some]
   exact ⟨false,by rw [if_neg (by simp)],by simp only [Bool.false_eq_true,false_iff];exact fun q=>hf q.1.1.1⟩
theorem cright_eq (l:List S42) (k:Nat) (hn:l.length < 4611686018427387904) (hk:l.length < k):∃ b,cells_Right.f k l=some b∧(b=true↔RightP l):=
 cright_l0 l hn l.length k 0 (by omega) (by omega) hk
theorem crright_l0 (l:List S42) (hn:l.length < 4611686018427387904):∀ (d k i:Nat),l.length - i=d→i≤l.length→d < k→∃ b,q10_Right.l0 k l (i:Int)=some b∧(b=true↔okFrom l i)
 |0,k+1,i,hd,hi,hk=>by
  refine ⟨true,?_,?_⟩
  ·unfold q10_Right.l0
   rw [if_neg (by omega)]
  ·simp only [true_iff]
   intro t h1 h2
   omega
 |d+1,k+1,i,hd,hi,hk=>by
  have hlt:i < l.length:=by omega
  obtain ⟨b,hb,hbi⟩:=crright_l0 l hn d k (i+1) (by omega) (by omega) (by omega)
  have e1:wrap64 ((i:Int)+1)=((i+1:Nat):Int):=by rw [w64 (by omega) (by omega)];omega
  unfold q10_Right.l0 q10_fits.f
  rw [if_pos (by omega),if_pos (by omega),okFrom_step hlt,e1,hb]
  by_cases hf:(rd_T42 l i).f0.size≤513
  ·rw [if_pos (by omega)]
   simp only [Option.bind_some]
   by_cases hg:(rd_T42 l i).f1.size≤2048
   ·rw [if_pos (by rw [decide_eq_true_iff];omega)]
    by_cases h0:0 < i
    ·have e2:wrap64 ((i:Int) - 1)=((i - 1:Nat):Int):=by rw [w64 (by omega) (by omega)];omega
     rw [if_pos (by omega),e2,if_pos (by omega),if_pos (by omega)]
     by_cases hs:(rd_T42 l ((i - 1:Nat):Int)).f0.toList < (rd_T42 l i).f0.toList
     ·rw [if_pos ((lss_iff _ _).2 hs)]
      exact ⟨b,rfl,by rw [hbi];exact ⟨fun q=>⟨⟨⟨hf,hg⟩,fun _=>hs⟩,q⟩,fun q=>q.2⟩⟩
     ·rw [if_neg (fun q=>hs ((lss_iff _ _).1 q))]
      exact ⟨false,rfl,by simp only [Bool.false_eq_true,false_iff];exact fun q=>hs (q.1.2 h0)⟩
    ·rw [if_neg (by omega)]
     exact ⟨b,rfl,by rw [hbi];exact ⟨fun q=>⟨⟨⟨hf,hg⟩,fun q=>absurd q h0⟩,q⟩,fun q=>q.2⟩⟩
   ·rw [if_neg (by rw [decide_eq_true_iff];omega)]
    exact ⟨false,rfl,by simp only [Bool.false_eq_true,false_iff];exact fun q=>hg q.1.1.2⟩
  ·rw [if_neg (by omega)]
   simp only [Option.bind_some]
   exact ⟨false,by rw [if_neg (by simp)],by simp only [Bool.false_eq_true,false_iff];exact fun q=>hf q.1.1.1⟩
theorem crright_eq (l:List S42) (k:Nat) (hn:l.length < 4611686018427387904) (hk:l.length < k):∃ b,q10_Right.f k l=some b∧(b=true↔RightP l):=
 crright_l0 l hn l.length k 0 (by omega) (by omega) hk
theorem cright_yes {l:List S42} (h:RightP l) (k:Nat) (hn:l.length < 4611686018427387904) (hk:l.length < k):cells_Right.f k l=some true:=by
 obtain ⟨b,hb,hbi⟩:=cright_eq l k hn hk
 rw [hb,hbi.2 h]
theorem crright_yes {l:List S42} (h:RightP l) (k:Nat) (hn:l.length < 4611686018427387904) (hk:l.length < k):q10_Right.f k l=some true:=by
 obtain ⟨b,hb,hbi⟩:=crright_eq l k hn hk
 rw [hb,hbi.2 h]
theorem crd_get {l:List S42} {i:Nat} (h:i < l.length):rd_T42 l (i:Int)=l[i]:=by
 unfold rd_T42
 simp [h]
theorem lt_tr {a b c:List UInt8} (h1:a < b) (h2:b < c):a < c:=List.lt_trans h1 h2
theorem lt_irr {a:List UInt8} (h:a < a):False:=List.lt_irrefl a h
theorem srt {l:List S42} (h:RightP l):∀ (d s:Nat),s+d+1 < l.length→(rd_T42 l (s:Int)).f0.toList < (rd_T42 l ((s+d+1:Nat):Int)).f0.toList
 |0,s,hl=>by
  have q:=(h (s+0+1) (Nat.zero_le _) hl).2 (by omega)
  rw [show s+0+1 - 1=s by omega] at q
  exact q
 |d+1,s,hl=>by
  have q:=(h (s+(d+1)+1) (Nat.zero_le _) hl).2 (by omega)
  rw [show s+(d+1)+1 - 1=s+d+1 by omega] at q
  exact lt_tr (srt h d s (by omega)) q
theorem srt' {l:List S42} (h:RightP l) {s t:Nat} (hst:s < t) (ht:t < l.length):(rd_T42 l (s:Int)).f0.toList < (rd_T42 l (t:Int)).f0.toList:=by
 have q:=srt h (t - s - 1) s (by omega)
 rw [show s+(t - s - 1)+1=t by omega] at q
 exact q
theorem rightP_iff {l:List S42}:RightP l↔(∀ c∈l,fits c)∧l.Pairwise (fun x y=>x.f0.toList < y.f0.toList):=by
 constructor
 ·intro h
  refine ⟨fun c hc=>?_,List.pairwise_iff_getElem.2 fun i j hi hj hij=>?_⟩
  ·obtain ⟨t,ht,rfl⟩:=List.getElem_of_mem hc
   have q:=(h t (Nat.zero_le _) ht).1
   rw [crd_get ht] at q
   exact q
  ·have q:=srt' h hij hj
   rw [crd_get hi,crd_get hj] at q
   exact q
 ·rintro ⟨h1,h2⟩ t _ ht
  rw [crd_get ht]
  refine ⟨h1 _ (List.getElem_mem ht),fun h0=>?_⟩
  rw [crd_get (by omega:t - 1 < l.length)]
  exact List.pairwise_iff_getElem.1 h2 _ _ (by omega) ht (by omega)
def look (l:List S42) (key:ByteArray):Option ByteArray:=(l.find? fun c=>c.f0.toList==key.toList).map (·.f1)
theorem look_at {l:List S42} (h:RightP l) {t:Nat} (ht:t < l.length) {a:ByteArray} (e:(rd_T42 l (t:Int)).f0.toList=a.toList):look l a=some (rd_T42 l (t:Int)).f1:=by
 unfold look
 have q:l.find? (fun c=>c.f0.toList==a.toList)=some l[t]:=by
  rw [List.find?_eq_some_iff_getElem]
  refine ⟨by rw [← crd_get ht,e];simp,t,ht,rfl,fun j hj=>?_⟩
  have r:=srt' h hj ht
  rw [e,crd_get (by omega:j < l.length)] at r
  simp only [Bool.not_eq_true',beq_eq_false_iff_ne]
  intro e2
  rw [e2] at r
  exact lt_irr r
 rw [q,crd_get ht];rfl
theorem look_no {l:List S42} {a:ByteArray} (h:∀ t,t < l.length→(rd_T42 l (t:Int)).f0.toList≠a.toList):look l a=none:=by
 unfold look
 rw [List.find?_eq_none.2]
 ·rfl
 ·intro c hc
  obtain ⟨t,ht,rfl⟩:=List.getElem_of_mem hc
  have q:=h t ht
  rw [crd_get ht] at q
  simp [q]
theorem bsearch_spec (p:Nat→Bool) (n:Nat) (hm:∀ a b,a≤b→b < n→p a=true→p b=true):∀ (d i j:Nat),j - i=d→i≤j→j≤n→(∀ t,t < i→p t=false)→(∀ t,j≤t→t < n→p t=true)→
  bsearch p i j≤n∧(∀ t,t < bsearch p i j→p t=false)∧(∀ t,bsearch p i j≤t→t < n→p t=true):=by
 intro d
 induction d using Nat.strongRecOn with
 |_ d ih=>
  intro i j hd hij hjn hlo hhi
  by_cases h:i < j
  ·cases hp:p ((i+j) / 2)
   ·rw [bsearch_no h hp]
    refine ih (j - ((i+j) / 2+1)) (by omega) _ _ rfl (by omega) hjn (fun t ht=>?_) hhi
    cases hq:p t
    ·rfl
    ·have:=hm t ((i+j) / 2) (by omega) (by omega) hq
     rw [hp] at this
     cases this
   ·rw [bsearch_yes h hp]
    exact ih ((i+j) / 2 - i) (by omega) _ _ rfl (by omega) (by omega) hlo (fun t ht htn=>hm _ t ht htn hp)
  ·obtain rfl:i=j:=by omega
   rw [bsearch_done]
   exact ⟨hjn,hlo,hhi⟩
theorem nlt_le {a b:List UInt8} (h:¬ a < b) (e:b≠a):b < a:=by
 by_cases q:b < a
 ·exact q
 ·exact absurd (List.le_antisymm (List.not_lt.1 h) (List.not_lt.1 q)) e
theorem at_spec {l:List S42} (h:RightP l) (k:Nat) (hn:l.length < 4611686018427387904) (hk:l.length < k) (a:ByteArray):
  ∃ b:Nat,b≤l.length∧cells_At.f k l a=some ((b:Int) - 1)∧(∀ t,t < b→¬ a.toList < (rd_T42 l (t:Int)).f0.toList)∧(∀ t,b≤t→t < l.length→a.toList < (rd_T42 l (t:Int)).f0.toList):=by
 have hm:∀ x y,x≤y→y < l.length→cells_At_gt (rd_T42 l (x:Int)).f0 a=true→cells_At_gt (rd_T42 l (y:Int)).f0 a=true:=fun x y hxy hy hx=>by
  unfold cells_At_gt at hx ⊢
  rw [lss_iff] at hx ⊢
  by_cases e:x=y
  ·subst e;exact hx
  ·exact lt_tr hx (srt' h (by omega) hy)
 obtain ⟨h1,h2,h3⟩:=bsearch_spec (fun i=>cells_At_gt (rd_T42 l (i:Int)).f0 a) l.length hm l.length 0 l.length (by omega) (by omega) (Nat.le_refl _) (fun t ht=>by omega) (fun t h1 h2=>by omega)
 refine ⟨_,h1,?_,fun t ht q=>?_,fun t ht hl=>?_⟩
 ·unfold cells_At.f
  rw [cright_yes h k hn hk]
  simp only [Option.bind_some,if_true]
  rw [if_pos hn]
 ·have r:=h2 t ht
  unfold cells_At_gt at r
  rw [(lss_iff _ _).2 q] at r
  cases r
 ·have r:=h3 t ht hl
  unfold cells_At_gt at r
  exact (lss_iff _ _).1 r
theorem find_eq {l:List S42} (h:RightP l) (k:Nat) (hn:l.length < 4611686018427387904) (hk:l.length < k) (a:ByteArray):cells_Find.f k l a=some ((look l a).getD ⟨#[]⟩,(look l a).isSome):=by
 obtain ⟨b,hb,e,h1,h2⟩:=at_spec h k hn hk a
 unfold cells_Find.f
 rw [e]
 simp only [Option.bind_some]
 by_cases h0:0 < b
 ·have e1:(b:Int) - 1=((b - 1:Nat):Int):=by omega
  rw [e1,if_pos (by omega),if_pos (by omega),if_pos (by omega)]
  by_cases hq:(rd_T42 l ((b - 1:Nat):Int)).f0.toList=a.toList
  ·rw [if_pos hq,look_at h (by omega) hq];rfl
  ·rw [if_neg hq,look_no fun t ht q=>?_];rfl
   by_cases ht2:b≤t
   ·have r:=h2 t ht2 ht
    rw [q] at r
    exact lt_irr r
   ·have r:=nlt_le (h1 (b - 1) (by omega)) hq
    by_cases e2:t=b - 1
    ·subst e2;exact hq q
    ·have r2:=srt' h (show t < b - 1 by omega) (by omega)
     rw [q] at r2
     exact lt_irr (lt_tr r r2)
 ·rw [if_neg (by omega),look_no fun t ht q=>?_];rfl
  have r:=h2 t (by omega) ht
  rw [q] at r
  exact lt_irr r
theorem rd_mem {l:List S42} {t:Nat} (h:t < l.length):rd_T42 l (t:Int)∈l:=by rw [crd_get h];exact List.getElem_mem h
theorem mem_rd {l:List S42} {c:S42} (h:c∈l):∃ t,t < l.length∧rd_T42 l (t:Int)=c:=by
 obtain ⟨t,ht,rfl⟩:=List.getElem_of_mem h
 exact ⟨t,ht,crd_get ht⟩
theorem look_iff {l:List S42} (h:RightP l) (a v:ByteArray):look l a=some v↔∃ c∈l,c.f0=a∧c.f1=v:=by
 constructor
 ·intro q
  unfold look at q
  obtain ⟨c,hc,rfl⟩:=Option.map_eq_some_iff.1 q
  exact ⟨c,List.mem_of_find?_eq_some hc,tl_inj (by simpa using List.find?_some hc),rfl⟩
 ·rintro ⟨c,hc,rfl,rfl⟩
  obtain ⟨t,ht,rfl⟩:=mem_rd hc
  exact look_at h ht rfl
theorem filter_right {l:List S42} (h:RightP l) (p:S42→Bool):RightP (l.filter p):=by
 obtain ⟨q1,q2⟩:=rightP_iff.1 h
 exact rightP_iff.2 ⟨fun c hc=>q1 c (List.mem_filter.1 hc).1,q2.sublist List.filter_sublist⟩
theorem del_eq {l:List S42} (h:RightP l) (k:Nat) (hn:l.length < 4398046511104) (hk:l.length < k) (key:ByteArray):
  ∃ n,cells_Delete.f k l key=some (n,0)∧RightP n∧n.length≤l.length∧∀ x,x∈n↔x∈l∧x.f0≠key:=by
 unfold cells_Delete.f
 rw [cright_yes h k (by omega) hk]
 simp only [Option.bind_some,if_true]
 rw [if_pos hn]
 refine ⟨_,rfl,filter_right h _,List.length_filter_le _ _,fun x=>?_⟩
 rw [List.mem_filter]
 refine and_congr_right fun _=>?_
 rw [Bool.not_eq_true',beq_eq_false_iff_ne]
 exact ⟨fun q e=>q (by rw [e]),fun q e=>q (tl_inj e)⟩
end Go.Proofs.YtmfaopjfdedheaaGreat.Tq
