/- Plain words of a merge law: from some rounds on; sets, cells, numbers. -/
import Derived.Test.YtmfaopjfdedheaaGreatFx9
import Derived.Test.YtmfaopjfdedheaaGreatFx11
import Derived.Test.YtmfaopjfdedheaaGreatFx13
import Derived.Test.YtmfaopjfdedheaaGreatFx14
import Derived.Test.YtmfaopjfdedheaaGreatFx15
import Derived.Test.YtmfaopjfdedheaaGreatFx19
import Derived.Sort.Walk0
namespace Go.Proofs.YtmfaopjfdedheaaGreat.Fq
open Go.RowKit Go.Proofs.YtmfaopjfdedheaaGreat.F Go.Proofs.YtmfaopjfdedheaaGreatW.PrintWords Go.Proofs.YtmfaopjfdedheaaGreatW.PrintLast Go.Proofs.YtmfaopjfdedheaaGreatW.PrintMore
set_option linter.unusedVariables false
set_option linter.unusedSimpArgs false
/-- From some rounds on, the answer is r. -/
def Ev {α:Type} (f:Nat→Option α) (r:α):Prop:=∃ K,∀ k,K≤k→f k=some r
def Tot {α:Type} (f:Nat→Option α):Prop:=∃ r,Ev f r
section
variable {α β:Type} {f g:Nat→Option α} {a r:α}
theorem Ev.const (r:α):Ev (fun _=>some r) r:=⟨0,fun _ _=>rfl⟩
theorem Ev.bind {h:Nat→α→Option β} {b:β} (hf:Ev f a) (hg:Ev (fun k=>h k a) b):Ev (fun k=>(f k).bind (h k)) b:=by
 obtain ⟨K,hK⟩:=hf;obtain ⟨L,hL⟩:=hg
 exact ⟨K+L,fun k hk=>by show (f k).bind (h k)=some b;rw [hK k (by omega)];exact hL k (by omega)⟩
theorem Ev.succ (h:Ev g r) (e:∀ k,f (k+1)=g k):Ev f r:=by
 obtain ⟨K,hK⟩:=h
 refine ⟨K+1,fun k hk=>?_⟩
 obtain ⟨j,rfl⟩:∃ j,k=j+1:=⟨k - 1,by omega⟩
 rw [e];exact hK j (by omega)
theorem Ev.congr (h:Ev g r) (e:∀ k,f k=g k):Ev f r:=by
 obtain ⟨K,hK⟩:=h;exact ⟨K,fun k hk=>by rw [e];exact hK k hk⟩
theorem Tot.const (r:α):Tot (fun _=>some r):=⟨r,Ev.const r⟩
theorem Tot.bind {h:Nat→α→Option β} (hf:Tot f) (hg:∀ a,Ev f a→Tot (fun k=>h k a)):Tot (fun k=>(f k).bind (h k)):=by
 obtain ⟨a,ha⟩:=hf;obtain ⟨b,hb⟩:=hg a ha
 exact ⟨b,ha.bind hb⟩
theorem Tot.succ (h:Tot g) (e:∀ k,f (k+1)=g k):Tot f:=by
 obtain ⟨r,h⟩:=h;exact ⟨r,h.succ e⟩
theorem Tot.congr (h:Tot g) (e:∀ k,f k=g k):Tot f:=by
 obtain ⟨r,h⟩:=h;exact ⟨r,h.congr e⟩
theorem Tot.ite {c:Prop} [Decidable c] (h1:c→Tot f) (h2:¬ c→Tot g):Tot (fun k=>if c then f k else g k):=by
 by_cases hc:c
 ·exact (h1 hc).congr (fun k=>if_pos hc)
 ·exact (h2 hc).congr (fun k=>if_neg hc)
end
def EvP {α:Type} (f:Nat→Option α) (p:α→Prop):Prop:=∃ r,Ev f r∧p r
section
variable {α β:Type} {f g:Nat→Option α} {p:α→Prop} {q:β→Prop}
theorem Tot.evp (h:Tot f):EvP f (fun _=>True):=h.elim fun r hr=>⟨r,hr,trivial⟩
theorem EvP.const {r:α} (h:p r):EvP (fun _=>some r) p:=⟨r,Ev.const r,h⟩
theorem EvP.bind {h:Nat→α→Option β} (hf:EvP f p) (hg:∀ a,p a→EvP (fun k=>h k a) q):EvP (fun k=>(f k).bind (h k)) q:=by
 obtain ⟨a,ha,pa⟩:=hf;obtain ⟨b,hb,qb⟩:=hg a pa
 exact ⟨b,ha.bind hb,qb⟩
theorem EvP.ite {c:Prop} [Decidable c] (h1:c→EvP f p) (h2:¬ c→EvP g p):EvP (fun k=>if c then f k else g k) p:=by
 by_cases hc:c
 ·obtain ⟨r,hr,pr⟩:=h1 hc;exact ⟨r,hr.congr (fun k=>if_pos hc),pr⟩
 ·obtain ⟨r,hr,pr⟩:=h2 hc;exact ⟨r,hr.congr (fun k=>if_neg hc),pr⟩
theorem EvP.succ (h:EvP g p) (e:∀ k,f (k+1)=g k):EvP f p:=by
 obtain ⟨r,hr,pr⟩:=h;exact ⟨r,hr.succ e,pr⟩
theorem EvP.congr (h:EvP g p) (e:∀ k,f k=g k):EvP f p:=by
 obtain ⟨r,hr,pr⟩:=h;exact ⟨r,hr.congr e,pr⟩
end
theorem w1 {i:Nat} (h:i < 4611686018427387904):wrap64 ((i:Int)+1)=((i+1:Nat):Int):=by unfold wrap64;omega

theorem drop_rd (l:List Int) (i:Nat) (h:i < l.length):l.drop i=rd l i::l.drop (i+1):=by
 rw [List.drop_eq_getElem_cons h]
 unfold rd
 rw [Int.toNat_natCast,List.getD_eq_getElem?_getD,List.getElem?_eq_getElem h]
 rfl
theorem rd_get (l:List Int) (i:Nat) (h:i < l.length):rd l i=l[i]:=by
 unfold rd
 rw [Int.toNat_natCast,List.getD_eq_getElem?_getD,List.getElem?_eq_getElem h]
 rfl
theorem w64 {i:Int} (h0: -9223372036854775808≤i) (h1:i≤9223372036854775807):wrap64 i=i:=by unfold wrap64;omega
theorem wu64 {i:Int} (h0:0≤i) (h1:i≤18446744073709551615):IntKind.u64.wrap i=i:=by
 unfold IntKind.wrap;simp [IntKind.signed,IntKind.bits];omega

def okG (p:Int):List Int→Bool
 |[]=>true
 |x::t=>decide (p < x) && okG x t
def Good (low:Int) (l:List Int):Prop:=okG low l=true∧l.length≤1000
instance (low:Int) (l:List Int):Decidable (Good low l):=inferInstanceAs (Decidable (_∧_))
theorem right_l0 (low:Int) (l:List Int) (hn:l.length < 4611686018427387904):∀ (d k i:Nat) (p:Int),l.length - i=d→i≤l.length→d < k→
  lsns_Right.l0 k p l l.length i low l=some (decide (okG p (l.drop i)=true∧l.length≤1000)):=by
 intro d
 induction d with
 |zero=>
  intro k i p hd hi hk
  obtain ⟨k,rfl⟩:∃ m,k=m+1:=⟨k - 1,by omega⟩
  have:i=l.length:=by omega
  subst this
  simp only [lsns_Right.l0,List.drop_length,okG,true_and]
  rw [if_neg (by omega)]
  congr 1
  exact decide_eq_decide.2 (by omega)
 |succ d ih=>
  intro k i p hd hi hk
  obtain ⟨k,rfl⟩:∃ m,k=m+1:=⟨k - 1,by omega⟩
  have hlt:i < l.length:=by omega
  simp only [lsns_Right.l0]
  rw [if_pos (by omega),if_pos (by omega),if_pos (by omega),drop_rd l i hlt,okG]
  by_cases h1:rd l i≤p
  ·rw [if_pos h1,decide_eq_false (show ¬ p < rd l i by omega)]
   simp
  ·rw [if_neg h1,w64 (by omega) (by omega),show (i:Int)+1=((i+1:Nat):Int) by omega,ih k (i+1) (rd l i) (by omega) (by omega) (by omega),decide_eq_true (show p < rd l i by omega),Bool.true_and]
theorem right_eq (low:Int) (l:List Int) (k:Nat) (hn:l.length < 4611686018427387904) (hk:l.length < k):lsns_Right.f k low l=some (decide (Good low l)):=by
 unfold lsns_Right.f Good
 have h:=right_l0 low l hn l.length k 0 low (by omega) (by omega) hk
 rw [List.drop_zero] at h
 exact h
theorem okG_mono {p:Int}:∀ {l:List Int},okG p l=true→∀ x∈l,p < x
 |[],_,x,hx=>by cases hx
 |y::t,h,x,hx=>by
  simp only [okG,Bool.and_eq_true,decide_eq_true_eq] at h
  rcases List.mem_cons.1 hx with rfl|hx
  ·exact h.1
  ·have:=okG_mono h.2 x hx
   omega
theorem okG_sorted {p:Int}:∀ {l:List Int},okG p l=true→l.Pairwise (·< ·)
 |[],_=>.nil
 |y::t,h=>by
  simp only [okG,Bool.and_eq_true,decide_eq_true_eq] at h
  exact .cons (fun x hx=>okG_mono h.2 x hx) (okG_sorted h.2)
theorem okG_of {p:Int}:∀ {l:List Int},l.Pairwise (·< ·)→(∀ x∈l,p < x)→okG p l=true
 |[],_,_=>rfl
 |y::t,h,hx=>by
  simp only [okG,Bool.and_eq_true,decide_eq_true_eq]
  have h':=List.pairwise_cons.1 h
  exact ⟨hx y List.mem_cons_self,okG_of h'.2 (fun x hm=>h'.1 x hm)⟩
theorem good_iff {low:Int} {l:List Int}:Good low l↔l.Pairwise (·< ·)∧(∀ x∈l,low < x)∧l.length≤1000:=
 ⟨fun h=>⟨okG_sorted h.1,okG_mono h.1,h.2⟩,fun h=>⟨okG_of h.1 h.2.1,h.2.2⟩⟩
def most_ (low:Int) (l:List Int):Int:=if Good low l then (if 0 < l.length then rd l ((l.length - 1:Nat):Int) else low) else 0
theorem most_eq (low:Int) (l:List Int) (k:Nat) (hn:l.length < 4611686018427387904) (hk:l.length < k):lsns_Most.f k low l=some (most_ low l):=by
 unfold lsns_Most.f most_
 rw [right_eq low l k hn hk]
 simp only [Option.bind_some,decide_eq_true_eq]
 by_cases hg:Good low l
 ·rw [if_pos hg,if_pos hg]
  by_cases h1:0 < l.length
  ·rw [if_pos (by omega),if_pos h1,w64 (by omega) (by omega),if_pos (by omega),if_pos (by omega),show (l.length:Int) - 1=((l.length - 1:Nat):Int) by omega]
  ·rw [if_neg (by omega),if_neg h1]
 ·rw [if_neg hg,if_neg hg]
def raise_ (low:Int) (l:List Int) (n:Int):Int×List Int×Int:=if Good low l then (mx n low,l.filter (fun x=>decide (x > mx n low)),0) else (0,[],40)
theorem raise_eq (low:Int) (l:List Int) (n:Int) (k:Nat) (hn:l.length < 17592186044415) (hk:l.length < k):lsns_Raise.f k low l n=some (raise_ low l n):=by
 unfold lsns_Raise.f raise_
 rw [right_eq low l k (by omega) hk]
 simp only [Option.bind_some,decide_eq_true_eq]
 by_cases hg:Good low l
 ·rw [if_pos hg,if_pos hg,if_pos (by omega)]
 ·rw [if_neg hg,if_neg hg]
theorem raise_good {low:Int} {l:List Int} (h:Good low l) (n:Int):Good (mx n low) (l.filter (fun x=>decide (x > mx n low))):=by
 have h':=good_iff.1 h
 refine good_iff.2 ⟨h'.1.filter _,fun x hx=>by have:=(List.mem_filter.1 hx).2;simpa using this,?_⟩
 have:=List.length_filter_le (fun x=>decide (x > mx n low)) l
 omega

theorem rright_l0 (low:Int) (l:List Int) (hn:l.length < 4611686018427387904):∀ (d k i:Nat),l.length - i=d→i≤l.length→d < k→(∀ j:Nat,j < i→low < rd l j)→
  lockkeeperref04_Right.l0 k i low l=some (okG (if i=0 then low else rd l ((i - 1:Nat):Int)) (l.drop i)):=by
 intro d
 induction d with
 |zero=>
  intro k i hd hi hk _
  obtain ⟨k,rfl⟩:∃ m,k=m+1:=⟨k - 1,by omega⟩
  have:i=l.length:=by omega
  subst this
  simp only [lockkeeperref04_Right.l0,List.drop_length,okG]
  rw [if_neg (by omega)]
 |succ d ih=>
  intro k i hd hi hk hpos
  obtain ⟨k,rfl⟩:∃ m,k=m+1:=⟨k - 1,by omega⟩
  have hlt:i < l.length:=by omega
  simp only [lockkeeperref04_Right.l0]
  rw [if_pos (by omega),if_pos (by omega),drop_rd l i hlt,okG]
  have hnext:low < rd l i→lockkeeperref04_Right.l0 k (wrap64 (i+1)) low l=some (okG (rd l i) (l.drop (i+1))):=fun h1=>by
   rw [w64 (by omega) (by omega),show (i:Int)+1=((i+1:Nat):Int) by omega,ih k (i+1) (by omega) (by omega) (by omega) (fun j hj=>by
    rcases Nat.lt_or_ge j i with h|h
    ·exact hpos j h
    ·obtain rfl:j=i:=by omega
     exact h1)]
   rw [if_neg (show ¬ (i+1=0) by omega),Nat.add_sub_cancel]
  by_cases h1:rd l i≤low
  ·rw [if_pos h1]
   split
   ·rw [decide_eq_false (by omega),Bool.false_and]
   ·have:=hpos (i - 1) (by omega)
    rw [decide_eq_false (by omega),Bool.false_and]
  ·rw [if_neg h1,hnext (by omega)]
   by_cases h3:i=0
   ·subst h3
    rw [if_neg (by omega),if_pos rfl,decide_eq_true (show low < rd l ((0:Nat):Int) by omega),Bool.true_and]
   ·rw [if_pos (by omega),w64 (by omega) (by omega),if_pos (by omega),if_pos (by omega),if_neg h3,show (i:Int) - 1=((i - 1:Nat):Int) by omega]
    by_cases h4:rd l i≤rd l ((i - 1:Nat):Int)
    ·rw [if_pos h4,decide_eq_false (by omega),Bool.false_and]
    ·rw [if_neg h4,decide_eq_true (by omega),Bool.true_and]
theorem rright_eq (low:Int) (l:List Int) (k:Nat) (hn:l.length < 4611686018427387904) (hk:l.length < k):lockkeeperref04_Right.f k low l=some (decide (Good low l)):=by
 unfold lockkeeperref04_Right.f
 have h:=rright_l0 low l hn l.length k 0 (by omega) (by omega) (by omega) (fun j hj=>absurd hj (Nat.not_lt_zero _))
 rw [List.drop_zero,if_pos rfl,show ((0:Nat):Int)=0 from rfl] at h
 rw [h]
 by_cases h1:l.length≤1000
 ·rw [if_neg (by omega)]
  cases ho:okG low l
  ·rw [decide_eq_false (fun h:Good low l=>by have h9:=h.1;rw [ho] at h9;cases h9)]
  ·rw [decide_eq_true (show Good low l from ⟨ho,h1⟩)]
 ·rw [if_pos (by omega),decide_eq_false (fun h:Good low l=>h1 h.2)]
theorem rmost_l0 (low:Int) (l:List Int) (hn:l.length < 4611686018427387904):∀ (d k i:Nat) (x:Int),l.length - i=d→i≤l.length→d < k→
  lockkeeperref04_Most.l0 k x i low l=some (if i < l.length then rd l ((l.length - 1:Nat):Int) else x):=by
 intro d
 induction d with
 |zero=>
  intro k i x hd hi hk
  obtain ⟨k,rfl⟩:∃ m,k=m+1:=⟨k - 1,by omega⟩
  simp only [lockkeeperref04_Most.l0]
  rw [if_neg (by omega),if_neg (by omega)]
 |succ d ih=>
  intro k i x hd hi hk
  obtain ⟨k,rfl⟩:∃ m,k=m+1:=⟨k - 1,by omega⟩
  have hlt:i < l.length:=by omega
  simp only [lockkeeperref04_Most.l0]
  rw [if_pos (by omega),if_pos (by omega),w64 (by omega) (by omega),show (i:Int)+1=((i+1:Nat):Int) by omega,ih k (i+1) _ (by omega) (by omega) (by omega),if_pos hlt]
  by_cases h1:i+1 < l.length
  ·rw [if_pos h1]
  ·rw [if_neg h1,show i=l.length - 1 by omega]
theorem rmost_eq (low:Int) (l:List Int) (k:Nat) (hn:l.length < 4611686018427387904) (hk:l.length < k):lockkeeperref04_Most.f k low l=some (most_ low l):=by
 unfold lockkeeperref04_Most.f most_
 rw [rright_eq low l k hn hk]
 simp only [Option.bind_some,decide_eq_true_eq]
 by_cases hg:Good low l
 ·rw [if_pos hg,if_pos hg]
  exact rmost_l0 low l hn l.length k 0 low (by omega) (by omega) hk
 ·rw [if_neg hg,if_neg hg]
theorem compact_mem {zs:List Int} (x:Int):x∈Go.Lib.compact zs↔x∈zs:=by
 unfold Go.Lib.compact Go.Lib.compactUpTo
 rw [List.mem_map]
 constructor
 ·rintro ⟨j,hj,rfl⟩
  have hj':j < zs.length:=List.mem_range.1 (List.mem_filter.1 hj).1
  simp [hj']
 ·intro hx
  obtain ⟨i,hi,rfl⟩:=List.mem_iff_getElem.1 hx
  have key:∀ i:Nat,(hi:i < zs.length)→∃ a,a∈(List.range zs.length).filter (Go.Lib.keeps zs.toArray)∧zs.toArray[a]! =zs[i]:=by
   intro i
   induction i with
   |zero=>exact fun hi=>⟨0,List.mem_filter.2 ⟨List.mem_range.2 hi,by simp [Go.Lib.keeps]⟩,by simp [hi]⟩
   |succ i ih=>
    intro hi
    by_cases h:zs[i+1]=zs[i]
    ·obtain ⟨a,h1,h2⟩:=ih (by omega)
     exact ⟨a,h1,by rw [h2,h]⟩
    ·refine ⟨i+1,List.mem_filter.2 ⟨List.mem_range.2 hi,?_⟩,by simp [hi]⟩
     have h2:i < zs.length:=by omega
     simp [Go.Lib.keeps,hi,h2,h]
  exact key i hi
theorem compact_sorted {zs:List Int} (hs:zs.Pairwise (·≤·)):(Go.Lib.compact zs).Pairwise (·< ·):=by
 unfold Go.Lib.compact Go.Lib.compactUpTo
 rw [List.pairwise_map]
 refine List.Pairwise.imp_of_mem ?_ ((List.pairwise_lt_range (n:=zs.length)).filter _)
 intro a b ha hb hab
 have hb1:b < zs.length:=List.mem_range.1 (List.mem_filter.1 hb).1
 have hk:=(List.mem_filter.1 hb).2
 have hb2:b - 1 < zs.length:=by omega
 have ha2:a < zs.length:=by omega
 have hne:¬ zs[b]=zs[b - 1]:=by
  intro e
  simp [Go.Lib.keeps,hb1,hb2,e] at hk
  omega
 have h1:zs[b - 1]≤zs[b]:=List.pairwise_iff_getElem.1 hs (b - 1) b hb2 hb1 (by omega)
 have h2:zs[a]≤zs[b - 1]:=by
  rcases Nat.lt_or_ge a (b - 1) with h|h
  ·exact List.pairwise_iff_getElem.1 hs a (b - 1) ha2 hb2 h
  ·obtain rfl:a=b - 1:=by omega
   exact Int.le_refl _
 simp only [List.getElem!_toArray]
 rw [List.getElem!_eq_getElem?_getD,List.getElem!_eq_getElem?_getD,List.getElem?_eq_getElem ha2,List.getElem?_eq_getElem hb1]
 simp only [Option.getD_some]
 omega
theorem sortL_sorted (l:List Int):(sortL l).Pairwise (·≤·):=by
 unfold sortL
 have h:=List.pairwise_mergeSort (le:=fun x y:Int=>decide (x≤y)) (fun a b c h1 h2=>by simp at *;omega) (fun a b=>by simp;omega) l
 exact h.imp (fun h=>by simpa using h)
def jl (l m:List Int):List Int:=lsns_Join_l l m
theorem jl_mem (l m:List Int) (x:Int):x∈jl l m↔x∈l∨x∈m:=by
 unfold jl lsns_Join_l
 rw [compact_mem]
 unfold sortL
 rw [List.mem_mergeSort,List.mem_append]
theorem jl_sorted (l m:List Int):(jl l m).Pairwise (·< ·):=compact_sorted (sortL_sorted _)
theorem jl_length (l m:List Int):(jl l m).length≤l.length+m.length:=by
 have h:=compact_length (sortL (l++m))
 rw [sortL_length,List.length_append] at h
 exact h
def joined_ (a:Int) (l:List Int) (b:Int) (m:List Int):Int×List Int×Int:=
 if Good a l∧Good b m then (if a=b then (if 1000 < (jl l m).length then (0,[],6) else (a,jl l m,0)) else (0,[],9)) else (0,[],40)
theorem join_eq (a:Int) (l:List Int) (b:Int) (m:List Int) (k:Nat) (hl:l.length < 4611686018427387904) (hm:m.length < 4611686018427387904) (hkl:l.length < k) (hkm:m.length < k):lsns_Join.f k a l b m=some (joined_ a l b m):=by
 unfold lsns_Join.f joined_
 rw [right_eq a l k hl hkl,right_eq b m k hm hkm]
 simp only [Option.bind_some,decide_eq_true_eq]
 by_cases hg:Good a l∧Good b m
 ·rw [if_pos hg,if_pos hg]
  have h1:=hg.1.2
  have h2:=hg.2.2
  by_cases he:a=b
  ·rw [if_pos he,if_pos he,if_pos (by omega)]
   show (if 1000 < (jl l m).length then _ else some (a,jl l m,0))=_
   split
   ·rfl
   ·rfl
  ·rw [if_neg he,if_neg he]
 ·rw [if_neg hg,if_neg hg]
theorem jl_good {a:Int} {l m:List Int} (hl:Good a l) (hm:Good a m) (h:¬ 1000 < (jl l m).length):Good a (jl l m):=by
 refine good_iff.2 ⟨jl_sorted l m,fun x hx=>?_,by omega⟩
 rcases (jl_mem l m x).1 hx with h1|h1
 ·exact (good_iff.1 hl).2.1 x h1
 ·exact (good_iff.1 hm).2.1 x h1
def val (l:List Int):Int:=l.foldl (fun a b=>a * 256+b) 0
def be:Nat→Int→List Int
 |0,_=>[]
 |w+1,x=>be w (x / 256)++[x % 256]
def byt (l:List Int):Prop:=∀ x∈l,0≤x∧x < 256
theorem be_length:∀ (w:Nat) (x:Int),(be w x).length=w
 |0,_=>rfl
 |w+1,x=>by rw [be,List.length_append,be_length w];rfl
theorem be_front:∀ (w:Nat) (x:Int),be (w+1) x=(x / 256 ^ w % 256)::be w x
 |0,x=>by simp [be]
 |w+1,x=>by
  rw [be,be_front w (x / 256),be,List.cons_append]
  congr 2
  rw [Int.ediv_ediv_of_nonneg (by omega),Int.pow_succ,Int.mul_comm]
theorem val_append (l:List Int) (b:Int):val (l++[b])=val l * 256+b:=by unfold val;rw [List.foldl_append];rfl
theorem val_range:∀ (n:Nat) (l:List Int),l.length=n→byt l→0≤val l∧val l < 256 ^ l.length
 |0,l,h,_=>by
  obtain rfl:l=[]:=List.length_eq_zero_iff.1 h
  simp [val]
 |n+1,l,h,hb=>by
  have e:l=l.dropLast++[l.getLast (by rintro rfl;simp at h)]:=(List.dropLast_concat_getLast _).symm
  generalize l.getLast _=b at e
  generalize l.dropLast=m at e
  subst e
  have h1:=val_range n m (by simp at h;exact h) (fun x hx=>hb x (List.mem_append_left _ hx))
  have h2:=hb b (List.mem_append_right _ List.mem_cons_self)
  rw [val_append,List.length_append,List.length_singleton,Int.pow_succ]
  omega
theorem byt_take {l:List Int} (h:byt l) (n:Nat):byt (l.take n):=fun x hx=>h x (List.mem_of_mem_take hx)
theorem byt_drop {l:List Int} (h:byt l) (n:Nat):byt (l.drop n):=fun x hx=>h x (List.mem_of_mem_drop hx)
theorem wide_8 (k:Nat) (hk:10≤k):octet_wide.f k 8 8=some true:=by
 obtain ⟨d,rfl⟩:∃ d,k=10+d:=⟨k - 10,by omega⟩
 induction d with
 |zero=>kernel_rfl
 |succ d ih=>exact octet_wide.mono _ _ _ _ (ih (by omega))
theorem wide_2 (k:Nat) (hk:10≤k):octet_wide.f k 2 8=some true:=by
 obtain ⟨d,rfl⟩:∃ d,k=10+d:=⟨k - 10,by omega⟩
 induction d with
 |zero=>kernel_rfl
 |succ d ih=>exact octet_wide.mono _ _ _ _ (ih (by omega))
theorem shr_byte (x:Int) (i:Nat) (hi:i < 8):shr .u64 x (wrap64 (8 * (i:Int))) % 256=x / 256 ^ i % 256:=by
 unfold shr
 rw [w64 (by omega) (by omega)]
 have h:(2:Int) ^ min (8 * (i:Int)).toNat IntKind.u64.bits=256 ^ i:=by
  obtain rfl|rfl|rfl|rfl|rfl|rfl|rfl|rfl:i=0∨i=1∨i=2∨i=3∨i=4∨i=5∨i=6∨i=7:=by omega
  all_goals rfl
 rw [h]
theorem lay_l0 (x:Int) (p:List Int) (w:Nat) (hw:w≤8) (hp:p.length < 140737488355328):∀ (d k i:Nat) (z:List Int),w - i=d→i≤w→z.length=w - i→d < k→
  octet_lay.l0 k (p++z++be i x) x w i=some (p++be w x):=by
 intro d
 induction d with
 |zero=>
  intro k i z hd hi hz hk
  obtain ⟨k,rfl⟩:∃ m,k=m+1:=⟨k - 1,by omega⟩
  obtain rfl:i=w:=by omega
  obtain rfl:z=[]:=List.length_eq_zero_iff.1 (by omega)
  simp only [octet_lay.l0]
  rw [if_neg (by omega),List.append_nil]
 |succ d ih=>
  intro k i z hd hi hz hk
  obtain ⟨k,rfl⟩:∃ m,k=m+1:=⟨k - 1,by omega⟩
  obtain ⟨y,t,rfl⟩:∃ y t,z=y++[t]:=⟨z.dropLast,z.getLast (by rintro rfl;simp at hz;omega),(List.dropLast_concat_getLast _).symm⟩
  have hl:(p++(y++[t])++be i x).length=p.length+w:=by
   simp only [List.length_append,be_length,List.length_singleton] at hz ⊢;omega
  have hy:y.length=w - i - 1:=by simp only [List.length_append,List.length_singleton] at hz;omega
  have e:wrap64 (wrap64 (((p++(y++[t])++be i x).length:Int) - 1) - (i:Int))=((p.length+y.length:Nat):Int):=by
   rw [hl,w64 (i:=((p.length+w:Nat):Int) - 1) (by omega) (by omega),w64 (by omega) (by omega)];omega
  simp only [octet_lay.l0]
  rw [if_pos (by omega),if_pos (by rw [w64 (by omega) (by omega)];omega),e,if_pos (by omega),if_pos (by rw [hl];omega),shr_byte x i (by omega),w64 (by omega) (by omega),Int.toNat_natCast,show (i:Int)+1=((i+1:Nat):Int) by omega]
  have e2:(p++(y++[t])++be i x).set (p.length+y.length) (x / 256 ^ i % 256)=p++y++be (i+1) x:=by
   rw [be_front,← List.append_assoc,List.append_assoc (p++y),List.set_append_right _ _ (by rw [List.length_append];omega),List.length_append,Nat.sub_self]
   rfl
  rw [e2]
  exact ih k (i+1) y (by omega) (by omega) (by omega) (by omega)
theorem oput_eq (k:Nat) (l:List Int) (x:Int) (w:Nat) (hw:w=8∨w=2) (hl:l.length < 100000000000000) (hk:10≤k):octet_Put.f k l x w=some (l++be w x):=by
 have h1:octet_wide.f k w 8=some true:=by
  rcases hw with rfl|rfl
  ·exact wide_8 k hk
  ·exact wide_2 k hk
 unfold octet_Put.f
 rw [h1]
 simp only [Option.bind_some,if_true]
 unfold octet_grown.f octet_lay.f
 rw [if_pos (by omega),if_pos (by omega),Int.toNat_natCast]
 simp only [Option.bind_some]
 have h:=lay_l0 x l w (by omega) (by omega) w k 0 (List.replicate w 0) (by omega) (by omega) (by simp) (by omega)
 rw [be,List.append_nil,show ((0:Nat):Int)=0 from rfl] at h
 rw [h]
 rfl
theorem bt_nums {l:List Int} (hb:byt l) (j:Nat) (hj:j < l.length):bt (strOfNums l) j=rd l j:=by
 have hs:j < (strOfNums l).size:=by rw [strOfNums_size];exact hj
 unfold bt
 rw [Int.toNat_natCast,dif_pos hs,rd_get l j hj]
 have:=hb l[j] (List.getElem_mem hj)
 have e:(strOfNums l)[j]=UInt8.ofNat l[j].toNat:=by
  have h9:∀ (h:j < ((l.map fun n=>UInt8.ofNat n.toNat).toArray).size),((l.map fun n=>UInt8.ofNat n.toNat).toArray)[j]=UInt8.ofNat l[j].toNat:=fun h=>by simp
  exact h9 _
 rw [e,UInt8.toNat_ofNat']
 omega
theorem extract_nums (l:List Int) (a b:Nat):(strOfNums l).extract a b=strOfNums ((l.take b).drop a):=by
 apply ByteArray.ext
 unfold strOfNums
 rw [ByteArray.data_extract]
 simp [List.map_drop,List.map_take,List.drop_take]
theorem nx_eq (a b:Int) (h0:0≤a) (h1:a < 256 ^ 7) (h2:0≤b) (h3:b < 256):nx a b=a * 256+b:=by
 unfold nx
 rw [wu64 (by omega) (by omega),wu64 (by omega) (by omega)]
 exact bits_join .u64 64 (by decide) (fun n h h'=>wu64 h (by omega)) 8 (a * 256) b (by omega) (by omega) (by omega) h2 (by omega) (by omega)
theorem take_succ_rd (l:List Int) (j:Nat) (h:j < l.length):l.take (j+1)=l.take j++[rd l j]:=by rw [List.take_succ_eq_append_getElem h,rd_get l j h]
theorem val_small {l:List Int} (hb:byt l) {m:Nat} (hm:l.length≤m):0≤val l∧val l < 256 ^ m:=by
 have h:=val_range l.length l rfl hb
 have h2:(256:Nat) ^ l.length≤256 ^ m:=Nat.pow_le_pow_right (by omega) hm
 have h3:(256:Int) ^ l.length≤256 ^ m:=by
  have h4:=Int.ofNat_le.2 h2
  rw [Int.natCast_pow,Int.natCast_pow] at h4
  exact h4
 omega
theorem numOf_eq {l:List Int} (hb:byt l):∀ j:Nat,j≤l.length→j≤8→numOf (strOfNums l) 0 j=val (l.take j)
 |0,_,_=>by simp [numOf,val]
 |j+1,h,h8=>by
  rw [numOf,numOf_eq hb j (by omega) (by omega),bt_nums hb j h,take_succ_rd l j h,val_append]
  have h1:=val_small (byt_take hb j) (m:=7) (by rw [List.length_take];omega)
  have h2:=hb (rd l j) (by rw [rd_get l j h];exact List.getElem_mem _)
  exact nx_eq _ _ h1.1 h1.2 h2.1 h2.2
theorem rdN_eq {l:List Int} (hb:byt l) (p n:Nat) (hn:n≤8) (h:p+n≤l.length):rdN (strOfNums l) p false n=val ((l.drop p).take n):=by
 unfold rdN
 rw [if_neg (by rw [strOfNums_size];simp;omega),Int.toNat_natCast,Int.toNat_natCast,strOfNums_size,extract_nums,extract_nums,List.take_length,List.drop_zero]
 rw [numOf_eq (byt_take (byt_drop hb p) n) n (by rw [List.length_take,List.length_drop];omega) hn,List.take_take,Nat.min_self]
theorem tl_inj {a b:ByteArray} (h:a.toList=b.toList):a=b:=by
 rw [Go.Lib.toList_data,Go.Lib.toList_data] at h
 exact ByteArray.ext (Array.toList_inj.1 h)
theorem lss_iff (a b:ByteArray):(Op.bytesLess a.toList b.toList=true)↔a.toList < b.toList:=by
 rw [show Op.bytesLess a.toList b.toList=decide (a.toList < b.toList) from bytesLess_eq _ _,decide_eq_true_iff]
def fits (c:S42):Prop:=c.f0.size≤513∧c.f1.size≤2048
def okFrom (l:List S42) (i:Nat):Prop:=∀ t,i≤t→t < l.length→fits (rd_T42 l t)∧(0 < t→(rd_T42 l ((t - 1:Nat):Int)).f0.toList < (rd_T42 l t).f0.toList)
def RightP (l:List S42):Prop:=okFrom l 0
theorem okFrom_step {l:List S42} {i:Nat} (h:i < l.length):okFrom l i↔(fits (rd_T42 l i)∧(0 < i→(rd_T42 l ((i - 1:Nat):Int)).f0.toList < (rd_T42 l i).f0.toList))∧okFrom l (i+1):=by
 constructor
 ·intro q
  exact ⟨q i (Nat.le_refl _) h,fun t h1 h2=>q t (by omega) h2⟩
 ·rintro ⟨q1,q2⟩ t h1 h2
  by_cases e:t=i
  ·subst e;exact q1
  ·exact q2 t (by omega) h2
theorem cright_l0 (l:List S42) (hn:l.length < 4611686018427387904):∀ (d k i:Nat),l.length - i=d→i≤l.length→d < k→∃ b,cells_Right.l0 k l l (l.length:Int) (i:Int)=some b∧(b=true↔okFrom l i)
 |0,k+1,i,hd,hi,hk=>by
  refine ⟨true,?_,?_⟩
  ·unfold cells_Right.l0
   rw [if_neg (by omega)]
  ·simp only [true_iff]
   intro t h1 h2
   omega
 |d+1,k+1,i,hd,hi,hk=>by
  have hlt:i < l.length:=by omega
  obtain ⟨b,hb,hbi⟩:=cright_l0 l hn d k (i+1) (by omega) (by omega) (by omega)
  have e1:wrap64 ((i:Int)+1)=((i+1:Nat):Int):=by rw [w64 (by omega) (by omega)];omega
  unfold cells_Right.l0 cells_cell_right.f
  rw [if_pos (by omega),if_pos (by omega),if_pos (by omega),okFrom_step hlt,e1,hb]
  by_cases hf:(rd_T42 l i).f0.size≤513
  ·rw [if_pos (by omega)]
   simp only [Option.bind_some]
   by_cases hg:(rd_T42 l i).f1.size≤2048
   ·rw [if_pos (by rw [decide_eq_true_iff];omega)]
    by_cases h0:0 < i
    ·have e2:wrap64 ((i:Int) - 1)=((i - 1:Nat):Int):=by rw [w64 (by omega) (by omega)];omega
     rw [if_pos (by omega),e2,if_pos (by omega),if_pos (by omega)]
     by_cases hs:(rd_T42 l ((i - 1:Nat):Int)).f0.toList < (rd_T42 l i).f0.toList
     ·rw [if_pos ((lss_iff _ _).2 hs)]
      exact ⟨b,rfl,by rw [hbi];exact ⟨fun q=>⟨⟨⟨hf,hg⟩,fun _=>hs⟩,q⟩,fun q=>q.2⟩⟩
     ·rw [if_neg (fun q=>hs ((lss_iff _ _).1 q))]
      exact ⟨false,rfl,by simp only [Bool.false_eq_true,false_iff];exact fun q=>hs (q.1.2 h0)⟩
    ·rw [if_neg (by omega)]
     exact ⟨b,rfl,by rw [hbi];exact ⟨fun q=>⟨⟨⟨hf,hg⟩,fun q=>absurd q h0⟩,q⟩,fun q=>q.2⟩⟩
   ·rw [if_neg (by rw [decide_eq_true_iff];omega)]
    exact ⟨false,rfl,by simp only [Bool.false_eq_true,false_iff];exact fun q=>hg q.1.1.2⟩
  ·rw [if_neg (by omega)]
   simp only [Option.bind_some]
   exact ⟨false,by rw [if_neg (by simp)],by simp only [Bool.false_eq_true,false_iff];exact fun q=>hf q.1.1.1⟩
theorem cright_eq (l:List S42) (k:Nat) (hn:l.length < 4611686018427387904) (hk:l.length < k):∃ b,cells_Right.f k l=some b∧(b=true↔RightP l):=
 cright_l0 l hn l.length k 0 (by omega) (by omega) hk
theorem crright_l0 (l:List S42) (hn:l.length < 4611686018427387904):∀ (d k i:Nat),l.length - i=d→i≤l.length→d < k→∃ b,lockkeeperref10_Right.l0 k l (i:Int)=some b∧(b=true↔okFrom l i)
 |0,k+1,i,hd,hi,hk=>by
  refine ⟨true,?_,?_⟩
  ·unfold lockkeeperref10_Right.l0
   rw [if_neg (by omega)]
  ·simp only [true_iff]
   intro t h1 h2
   omega
 |d+1,k+1,i,hd,hi,hk=>by
  have hlt:i < l.length:=by omega
  obtain ⟨b,hb,hbi⟩:=crright_l0 l hn d k (i+1) (by omega) (by omega) (by omega)
  have e1:wrap64 ((i:Int)+1)=((i+1:Nat):Int):=by rw [w64 (by omega) (by omega)];omega
  unfold lockkeeperref10_Right.l0 lockkeeperref10_fits.f
  rw [if_pos (by omega),if_pos (by omega),okFrom_step hlt,e1,hb]
  by_cases hf:(rd_T42 l i).f0.size≤513
  ·rw [if_pos (by omega)]
   simp only [Option.bind_some]
   by_cases hg:(rd_T42 l i).f1.size≤2048
   ·rw [if_pos (by rw [decide_eq_true_iff];omega)]
    by_cases h0:0 < i
    ·have e2:wrap64 ((i:Int) - 1)=((i - 1:Nat):Int):=by rw [w64 (by omega) (by omega)];omega
     rw [if_pos (by omega),e2,if_pos (by omega),if_pos (by omega)]
     by_cases hs:(rd_T42 l ((i - 1:Nat):Int)).f0.toList < (rd_T42 l i).f0.toList
     ·rw [if_pos ((lss_iff _ _).2 hs)]
      exact ⟨b,rfl,by rw [hbi];exact ⟨fun q=>⟨⟨⟨hf,hg⟩,fun _=>hs⟩,q⟩,fun q=>q.2⟩⟩
     ·rw [if_neg (fun q=>hs ((lss_iff _ _).1 q))]
      exact ⟨false,rfl,by simp only [Bool.false_eq_true,false_iff];exact fun q=>hs (q.1.2 h0)⟩
    ·rw [if_neg (by omega)]
     exact ⟨b,rfl,by rw [hbi];exact ⟨fun q=>⟨⟨⟨hf,hg⟩,fun q=>absurd q h0⟩,q⟩,fun q=>q.2⟩⟩
   ·rw [if_neg (by rw [decide_eq_true_iff];omega)]
    exact ⟨false,rfl,by simp only [Bool.false_eq_true,false_iff];exact fun q=>hg q.1.1.2⟩
  ·rw [if_neg (by omega)]
   simp only [Option.bind_some]
   exact ⟨false,by rw [if_neg (by simp)],by simp only [Bool.false_eq_true,false_iff];exact fun q=>hf q.1.1.1⟩
theorem crright_eq (l:List S42) (k:Nat) (hn:l.length < 4611686018427387904) (hk:l.length < k):∃ b,lockkeeperref10_Right.f k l=some b∧(b=true↔RightP l):=
 crright_l0 l hn l.length k 0 (by omega) (by omega) hk
theorem cright_yes {l:List S42} (h:RightP l) (k:Nat) (hn:l.length < 4611686018427387904) (hk:l.length < k):cells_Right.f k l=some true:=by
 obtain ⟨b,hb,hbi⟩:=cright_eq l k hn hk
 rw [hb,hbi.2 h]
theorem crd_get {l:List S42} {i:Nat} (h:i < l.length):rd_T42 l (i:Int)=l[i]:=by
 unfold rd_T42
 simp [h]
theorem lt_tr {a b c:List UInt8} (h1:a < b) (h2:b < c):a < c:=List.lt_trans h1 h2
theorem lt_irr {a:List UInt8} (h:a < a):False:=List.lt_irrefl a h
theorem srt {l:List S42} (h:RightP l):∀ (d s:Nat),s+d+1 < l.length→(rd_T42 l (s:Int)).f0.toList < (rd_T42 l ((s+d+1:Nat):Int)).f0.toList
 |0,s,hl=>by
  have q:=(h (s+0+1) (Nat.zero_le _) hl).2 (by omega)
  rw [show s+0+1 - 1=s by omega] at q
  exact q
 |d+1,s,hl=>by
  have q:=(h (s+(d+1)+1) (Nat.zero_le _) hl).2 (by omega)
  rw [show s+(d+1)+1 - 1=s+d+1 by omega] at q
  exact lt_tr (srt h d s (by omega)) q
theorem srt' {l:List S42} (h:RightP l) {s t:Nat} (hst:s < t) (ht:t < l.length):(rd_T42 l (s:Int)).f0.toList < (rd_T42 l (t:Int)).f0.toList:=by
 have q:=srt h (t - s - 1) s (by omega)
 rw [show s+(t - s - 1)+1=t by omega] at q
 exact q
theorem rightP_iff {l:List S42}:RightP l↔(∀ c∈l,fits c)∧l.Pairwise (fun x y=>x.f0.toList < y.f0.toList):=by
 constructor
 ·intro h
  refine ⟨fun c hc=>?_,List.pairwise_iff_getElem.2 fun i j hi hj hij=>?_⟩
  ·obtain ⟨t,ht,rfl⟩:=List.getElem_of_mem hc
   have q:=(h t (Nat.zero_le _) ht).1
   rw [crd_get ht] at q
   exact q
  ·have q:=srt' h hij hj
   rw [crd_get hi,crd_get hj] at q
   exact q
 ·rintro ⟨h1,h2⟩ t _ ht
  rw [crd_get ht]
  refine ⟨h1 _ (List.getElem_mem ht),fun h0=>?_⟩
  rw [crd_get (by omega:t - 1 < l.length)]
  exact List.pairwise_iff_getElem.1 h2 _ _ (by omega) ht (by omega)
def look (l:List S42) (key:ByteArray):Option ByteArray:=(l.find? fun c=>c.f0.toList==key.toList).map (·.f1)
theorem look_at {l:List S42} (h:RightP l) {t:Nat} (ht:t < l.length) {a:ByteArray} (e:(rd_T42 l (t:Int)).f0.toList=a.toList):look l a=some (rd_T42 l (t:Int)).f1:=by
 unfold look
 have q:l.find? (fun c=>c.f0.toList==a.toList)=some l[t]:=by
  rw [List.find?_eq_some_iff_getElem]
  refine ⟨by rw [← crd_get ht,e];simp,t,ht,rfl,fun j hj=>?_⟩
  have r:=srt' h hj ht
  rw [e,crd_get (by omega:j < l.length)] at r
  simp only [Bool.not_eq_true',beq_eq_false_iff_ne]
  intro e2
  rw [e2] at r
  exact lt_irr r
 rw [q,crd_get ht];rfl
theorem look_no {l:List S42} {a:ByteArray} (h:∀ t,t < l.length→(rd_T42 l (t:Int)).f0.toList≠a.toList):look l a=none:=by
 unfold look
 rw [List.find?_eq_none.2]
 ·rfl
 ·intro c hc
  obtain ⟨t,ht,rfl⟩:=List.getElem_of_mem hc
  have q:=h t ht
  rw [crd_get ht] at q
  simp [q]
theorem bsearch_spec (p:Nat→Bool) (n:Nat) (hm:∀ a b,a≤b→b < n→p a=true→p b=true):∀ (d i j:Nat),j - i=d→i≤j→j≤n→(∀ t,t < i→p t=false)→(∀ t,j≤t→t < n→p t=true)→
  bsearch p i j≤n∧(∀ t,t < bsearch p i j→p t=false)∧(∀ t,bsearch p i j≤t→t < n→p t=true):=by
 intro d
 induction d using Nat.strongRecOn with
 |_ d ih=>
  intro i j hd hij hjn hlo hhi
  by_cases h:i < j
  ·cases hp:p ((i+j) / 2)
   ·rw [bsearch_no h hp]
    refine ih (j - ((i+j) / 2+1)) (by omega) _ _ rfl (by omega) hjn (fun t ht=>?_) hhi
    cases hq:p t
    ·rfl
    ·have:=hm t ((i+j) / 2) (by omega) (by omega) hq
     rw [hp] at this
     cases this
   ·rw [bsearch_yes h hp]
    exact ih ((i+j) / 2 - i) (by omega) _ _ rfl (by omega) (by omega) hlo (fun t ht htn=>hm _ t ht htn hp)
  ·obtain rfl:i=j:=by omega
   rw [bsearch_done]
   exact ⟨hjn,hlo,hhi⟩
theorem nlt_le {a b:List UInt8} (h:¬ a < b) (e:b≠a):b < a:=by
 by_cases q:b < a
 ·exact q
 ·exact absurd (List.le_antisymm (List.not_lt.1 h) (List.not_lt.1 q)) e
theorem at_spec {l:List S42} (h:RightP l) (k:Nat) (hn:l.length < 4611686018427387904) (hk:l.length < k) (a:ByteArray):
  ∃ b:Nat,b≤l.length∧cells_At.f k l a=some ((b:Int) - 1)∧(∀ t,t < b→¬ a.toList < (rd_T42 l (t:Int)).f0.toList)∧(∀ t,b≤t→t < l.length→a.toList < (rd_T42 l (t:Int)).f0.toList):=by
 have hm:∀ x y,x≤y→y < l.length→cells_At_gt (rd_T42 l (x:Int)).f0 a=true→cells_At_gt (rd_T42 l (y:Int)).f0 a=true:=fun x y hxy hy hx=>by
  unfold cells_At_gt at hx ⊢
  rw [lss_iff] at hx ⊢
  by_cases e:x=y
  ·subst e;exact hx
  ·exact lt_tr hx (srt' h (by omega) hy)
 obtain ⟨h1,h2,h3⟩:=bsearch_spec (fun i=>cells_At_gt (rd_T42 l (i:Int)).f0 a) l.length hm l.length 0 l.length (by omega) (by omega) (Nat.le_refl _) (fun t ht=>by omega) (fun t h1 h2=>by omega)
 refine ⟨_,h1,?_,fun t ht q=>?_,fun t ht hl=>?_⟩
 ·unfold cells_At.f
  rw [cright_yes h k hn hk]
  simp only [Option.bind_some,if_true]
  rw [if_pos hn]
 ·have r:=h2 t ht
  unfold cells_At_gt at r
  rw [(lss_iff _ _).2 q] at r
  cases r
 ·have r:=h3 t ht hl
  unfold cells_At_gt at r
  exact (lss_iff _ _).1 r
theorem find_eq {l:List S42} (h:RightP l) (k:Nat) (hn:l.length < 4611686018427387904) (hk:l.length < k) (a:ByteArray):cells_Find.f k l a=some ((look l a).getD ⟨#[]⟩,(look l a).isSome):=by
 obtain ⟨b,hb,e,h1,h2⟩:=at_spec h k hn hk a
 unfold cells_Find.f
 rw [e]
 simp only [Option.bind_some]
 by_cases h0:0 < b
 ·have e1:(b:Int) - 1=((b - 1:Nat):Int):=by omega
  rw [e1,if_pos (by omega),if_pos (by omega),if_pos (by omega)]
  by_cases hq:(rd_T42 l ((b - 1:Nat):Int)).f0.toList=a.toList
  ·rw [if_pos hq,look_at h (by omega) hq];rfl
  ·rw [if_neg hq,look_no fun t ht q=>?_];rfl
   by_cases ht2:b≤t
   ·have r:=h2 t ht2 ht
    rw [q] at r
    exact lt_irr r
   ·have r:=nlt_le (h1 (b - 1) (by omega)) hq
    by_cases e2:t=b - 1
    ·subst e2;exact hq q
    ·have r2:=srt' h (show t < b - 1 by omega) (by omega)
     rw [q] at r2
     exact lt_irr (lt_tr r r2)
 ·rw [if_neg (by omega),look_no fun t ht q=>?_];rfl
  have r:=h2 t (by omega) ht
  rw [q] at r
  exact lt_irr r
theorem rd_mem {l:List S42} {t:Nat} (h:t < l.length):rd_T42 l (t:Int)∈l:=by rw [crd_get h];exact List.getElem_mem h
theorem mem_rd {l:List S42} {c:S42} (h:c∈l):∃ t,t < l.length∧rd_T42 l (t:Int)=c:=by
 obtain ⟨t,ht,rfl⟩:=List.getElem_of_mem h
 exact ⟨t,ht,crd_get ht⟩
theorem filter_right {l:List S42} (h:RightP l) (p:S42→Bool):RightP (l.filter p):=by
 obtain ⟨q1,q2⟩:=rightP_iff.1 h
 exact rightP_iff.2 ⟨fun c hc=>q1 c (List.mem_filter.1 hc).1,q2.sublist List.filter_sublist⟩
end Go.Proofs.YtmfaopjfdedheaaGreat.Fq
namespace Go.Proofs.YtmfaopjfdedheaaGreat.Fq
open Go.RowKit Go.Proofs.YtmfaopjfdedheaaGreat.F Go.Proofs.YtmfaopjfdedheaaGreatW.PrintWords Go.Proofs.YtmfaopjfdedheaaGreatW.PrintLast Go.Proofs.YtmfaopjfdedheaaGreatW.PrintMore
set_option linter.unusedVariables false
set_option linter.unusedSimpArgs false

/-- From some rounds on, an answer that is yes just if P. -/
def EvB (f:Nat→Option Bool) (P:Prop):Prop:=EvP f (fun b=>b=true↔P)
theorem Ev.evp {α:Type} {f:Nat→Option α} {a:α} {p:α→Prop} (h:Ev f a) (hp:p a):EvP f p:=⟨a,h,hp⟩
theorem EvP.mono {α:Type} {f:Nat→Option α} {p q:α→Prop} (h:EvP f p) (hp:∀ a,p a→q a):EvP f q:=h.elim fun a h=>⟨a,h.1,hp a h.2⟩
theorem EvP.ev {α:Type} {f:Nat→Option α} {a:α} (h:EvP f (fun b=>b=a)):Ev f a:=by
 obtain ⟨r,h1,rfl⟩:=h
 exact h1
theorem Ev.to {α:Type} {f:Nat→Option α} {a:α} (h:Ev f a):EvP f (fun b=>b=a):=⟨a,h,rfl⟩
theorem Ev.at {α:Type} {f:Nat→Option α} {a:α} {K:Nat} (h:∀ k,K≤k→f k=some a):Ev f a:=⟨K,h⟩
theorem EvB.of {f:Nat→Option Bool} {P:Prop} {K:Nat} (h:∀ k,K≤k→∃ b,f k=some b∧(b=true↔P)):EvB f P:=by
 by_cases hp:P
 ·exact ⟨true,⟨K,fun k hk=>by obtain ⟨b,e,hb⟩:=h k hk;rw [e,hb.2 hp]⟩,by simp [hp]⟩
 ·exact ⟨false,⟨K,fun k hk=>by obtain ⟨b,e,hb⟩:=h k hk;cases b with|true=>exact absurd (hb.1 rfl) hp|false=>exact e⟩,by simp [hp]⟩

/-! ### spans -/
def SpanR (a b:ByteArray) (c:Bool):Bool:=decide (a.size≤513) && decide (b.size≤513) && (if c=true then Op.bytesLess a.toList b.toList else b.toList==[])
theorem span_ev (a b:ByteArray) (c:Bool):Ev (fun k=>span_Right.f k a b c) (SpanR a b c):=by
 refine ⟨2,fun k hk=>?_⟩
 obtain ⟨j,rfl⟩:∃ j,k=j+2:=⟨k - 2,by omega⟩
 show span_Right.f (j+2) a b c=_
 unfold span_Right.f SpanR
 by_cases h1:a.size≤513
 ·have e1:¬ ((a.size:Int) > 513):=by omega
  by_cases h2:b.size≤513
  ·have e2:¬ ((b.size:Int) > 513):=by omega
   rw [if_neg e1,decide_eq_false e2,decide_eq_true h1,decide_eq_true h2]
   cases c
   ·by_cases h4:b.toList=[] <;> simp [span_Right.j0,span_Right.j1,h4]
   ·cases h3:Op.bytesLess a.toList b.toList <;> simp [span_Right.j0,span_Right.j1,h3]
  ·have e2:(b.size:Int) > 513:=by omega
   rw [if_neg e1,decide_eq_true e2,decide_eq_true h1,decide_eq_false h2]
   simp [span_Right.j0]
 ·have e1:(a.size:Int) > 513:=by omega
  rw [if_pos e1,decide_eq_false h1]
  simp [span_Right.j0]
theorem rspan_ev (a b:ByteArray) (c:Bool):Ev (fun k=>lockkeeperref03_Right.f k a b c) (SpanR a b c):=by
 refine ⟨1,fun k hk=>?_⟩
 obtain ⟨j,rfl⟩:∃ j,k=j+1:=⟨k - 1,by omega⟩
 show lockkeeperref03_Right.f (j+1) a b c=_
 unfold lockkeeperref03_Right.f SpanR
 by_cases h1:a.size≤513
 ·have e1:¬ ((a.size:Int) > 513):=by omega
  by_cases h2:b.size≤513
  ·have e2:¬ ((b.size:Int) > 513):=by omega
   rw [if_neg e1,decide_eq_false e2,decide_eq_true h1,decide_eq_true h2]
   cases c
   ·by_cases h4:b.toList=[] <;> simp [lockkeeperref03_Right.j0,h4]
   ·cases h3:Op.bytesLess a.toList b.toList <;> simp [lockkeeperref03_Right.j0,h3]
  ·have e2:(b.size:Int) > 513:=by omega
   rw [if_neg e1,decide_eq_true e2,decide_eq_true h1,decide_eq_false h2]
   simp [lockkeeperref03_Right.j0]
 ·have e1:(a.size:Int) > 513:=by omega
  rw [if_pos e1,decide_eq_false h1]
  simp [lockkeeperref03_Right.j0]
theorem rhas_ev (a b:ByteArray) (c:Bool) (key:ByteArray):Ev (fun k=>lockkeeperref03_Has.f k a b c key) (SpanR a b c && inside a b c key):=by
 unfold lockkeeperref03_Has.f
 refine (rspan_ev a b c).bind ?_
 refine (Ev.const _).congr fun k=>?_
 unfold inside
 cases SpanR a b c <;> cases c <;> cases Op.bytesLess key.toList a.toList <;> cases Op.bytesLess key.toList b.toList <;> rfl

/-! ### children -/
theorem byt_bytesOf (v:ByteArray):byt (bytesOf v):=fun x hx=>by
 obtain ⟨b,_,rfl⟩:=List.mem_map.1 hx
 have:=b.toNat_lt
 omega
theorem be_val:∀ (n:Nat) (l:List Int),l.length=n→byt l→be n (val l)=l
 |0,l,h,_=>by
  obtain rfl:l=[]:=List.length_eq_zero_iff.1 h
  rfl
 |n+1,l,h,hb=>by
  have e:l=l.dropLast++[l.getLast (by rintro rfl;simp at h)]:=(List.dropLast_concat_getLast _).symm
  generalize l.getLast _=b at e
  generalize l.dropLast=m at e
  subst e
  have hm:m.length=n:=by simp at h;exact h
  have h1:=be_val n m hm (fun x hx=>hb x (List.mem_append_left _ hx))
  have h2:=hb b (List.mem_append_right _ List.mem_cons_self)
  rw [val_append,be,show (val m * 256+b) / 256=val m by omega,show (val m * 256+b) % 256=b by omega,h1]
def kidv (a:Int):ByteArray×Int:=if 1≤a∧a≤400 then (strOfNums (be 8 a),0) else (⟨#[]⟩,110)
theorem kid_ev (a:Int):Ev (fun k=>page_Kid.f k a) (kidv a):=by
 refine ⟨10,fun k hk=>?_⟩
 show page_Kid.f k a=_
 unfold page_Kid.f kidv
 by_cases h1:a < 1
 ·rw [if_pos h1,if_neg (by omega)]
 ·rw [if_neg h1]
  by_cases h2:a > 400
  ·rw [if_pos h2,if_neg (by omega)]
  ·rw [if_neg h2,if_pos (by omega)]
   have h:=oput_eq k [] a 8 (.inl rfl) (by simp) hk
   rw [show ((8:Nat):Int)=8 from rfl] at h
   rw [h]
   rfl
def idOk (v:ByteArray):Prop:=v.size=8∧1≤val (bytesOf v)∧val (bytesOf v)≤400
instance (v:ByteArray):Decidable (idOk v):=inferInstanceAs (Decidable (_∧_))
def idv (v:ByteArray):Int×Int:=if idOk v then (val (bytesOf v),0) else (0,110)
theorem rworth_l0 (v:ByteArray) (h8:v.size≤8):∀ (d k i:Nat),v.size - i=d→i≤v.size→d < k→lockkeeperref11_worth.l0 k v (val ((bytesOf v).take i)) i=some (val (bytesOf v)):=by
 have hb:=byt_bytesOf v
 have hl:=bytesOf_length v
 intro d
 induction d with
 |zero=>
  intro k i hd hi hk
  obtain ⟨k,rfl⟩:∃ m,k=m+1:=⟨k - 1,by omega⟩
  obtain rfl:i=v.size:=by omega
  simp only [lockkeeperref11_worth.l0]
  rw [if_neg (by omega),← hl,List.take_length]
 |succ d ih=>
  intro k i hd hi hk
  obtain ⟨k,rfl⟩:∃ m,k=m+1:=⟨k - 1,by omega⟩
  have h1:=val_small (byt_take hb i) (m:=7) (by rw [List.length_take];omega)
  have h2:=hb (rd (bytesOf v) i) (by rw [rd_get _ i (by omega)];exact List.getElem_mem _)
  simp only [lockkeeperref11_worth.l0]
  rw [if_pos (by omega),if_pos (by omega),← rd_bytesOf,wu64 (i:=256 * val ((bytesOf v).take i)) (by omega) (by omega),wu64 (i:=rd (bytesOf v) i) (by omega) (by omega),wu64 (by omega) (by omega),w64 (by omega) (by omega),show (i:Int)+1=((i+1:Nat):Int) by omega]
  have e:256 * val ((bytesOf v).take i)+rd (bytesOf v) i=val ((bytesOf v).take (i+1)):=by rw [take_succ_rd _ i (by omega),val_append];omega
  rw [e]
  exact ih k (i+1) (by omega) (by omega) (by omega)
theorem rworth_ev (v:ByteArray) (h8:v.size≤8):Ev (fun k=>lockkeeperref11_worth.f k v) (val (bytesOf v)):=⟨10,fun k hk=>rworth_l0 v h8 v.size k 0 (by omega) (by omega) (by omega)⟩
theorem rid_ev (v:ByteArray):Ev (fun k=>lockkeeperref11_Id.f k v) (idv v):=by
 unfold lockkeeperref11_Id.f idv
 by_cases h8:v.size=8
 ·have hw:=rworth_ev v (by omega)
  refine Ev.congr (g:=fun k=>(lockkeeperref11_worth.f k v).bind fun t258=>(if t258 < 1 then (some (0,110)) else ((lockkeeperref11_worth.f k v).bind fun t259=>(if t259 > 400 then (some (0,110)) else ((lockkeeperref11_worth.f k v).bind fun t260=>(some (t260,0))))))) ?_ (fun k=>if_pos (by omega))
  refine hw.bind ?_
  by_cases h1:val (bytesOf v) < 1
  ·refine (Ev.const (0,110)).congr (fun k=>if_pos h1)|>.evp (p:=fun r=>r=_) ?_ |>.ev
   rw [if_neg (fun h=>by have:=h.2.1;omega)]
  ·refine Ev.congr ?_ (fun k=>if_neg h1)
   refine hw.bind ?_
   by_cases h2:val (bytesOf v) > 400
   ·refine (Ev.const (0,110)).congr (fun k=>if_pos h2)|>.evp (p:=fun r=>r=_) ?_ |>.ev
    rw [if_neg (fun h=>by have:=h.2.2;omega)]
   ·refine Ev.congr ?_ (fun k=>if_neg h2)
    rw [if_pos ⟨h8,by omega,by omega⟩]
    exact hw.bind (Ev.const _)
 ·rw [if_neg (fun h=>h8 h.1)]
  exact (Ev.const _).congr (fun k=>if_neg (by omega))
theorem id_ev (v:ByteArray) (hv:v.size < 140737488355328):Ev (fun k=>page_Id.f k v) (idv v):=by
 have hb:=byt_bytesOf v
 have hl:=bytesOf_length v
 obtain ⟨n,hn⟩:∃ n,n=rdN v 0 false 8:=⟨_,rfl⟩
 have hmain:Ev (fun k=>(page_Kid.f k n).bind fun t=>if t.2=0∧t.1.toList=v.toList then some (n,(0:Int)) else some (0,110)) (idv v):=by
  refine (kid_ev n).bind ?_
  by_cases h8:v.size < 8
  ·have e:n=0:=by rw [hn];unfold rdN;rw [if_pos (.inr (by omega))]
   subst e
   rw [show kidv 0=(⟨#[]⟩,110) from if_neg (by omega),show idv v=(0,110) from if_neg (fun h=>by have:=h.1;omega)]
   exact (Ev.const _).congr (fun k=>if_neg (fun h=>by have:=h.1;simp at this))
  ·have e:n=val ((bytesOf v).take 8):=by
    have h:=rdN_eq hb 0 8 (by omega) (by omega)
    rw [strOfNums_bytesOf,List.drop_zero] at h
    rw [hn];exact h
   by_cases h1:1≤n∧n≤400
   ·rw [show kidv n=(strOfNums (be 8 n),0) from if_pos h1]
    by_cases h9:v.size=8
    ·have e2:(bytesOf v).take 8=bytesOf v:=List.take_of_length_le (by omega)
     rw [e2] at e
     have e3:be 8 n=bytesOf v:=by rw [e];exact be_val 8 _ (by omega) hb
     rw [show idv v=(n,0) by rw [e];exact if_pos ⟨h9,by omega,by omega⟩]
     exact (Ev.const _).congr (fun k=>if_pos ⟨rfl,by rw [e3,strOfNums_bytesOf]⟩)
    ·rw [show idv v=(0,110) from if_neg (fun h=>h9 h.1)]
     refine (Ev.const _).congr (fun k=>if_neg (fun h=>h9 ?_))
     have e4:strOfNums (be 8 n)=v:=tl_inj h.2
     rw [← e4,strOfNums_size,be_length]
   ·rw [show kidv n=(⟨#[]⟩,110) from if_neg h1]
    have e9:idv v=(0,110):=by
     refine if_neg fun h=>?_
     have e2:(bytesOf v).take 8=bytesOf v:=List.take_of_length_le (by have:=h.1;omega)
     rw [e2] at e
     exact h1 ⟨by have:=h.2.1;omega,by have:=h.2.2;omega⟩
    rw [e9]
    exact (Ev.const _).congr (fun k=>if_neg (fun h=>by have:=h.1;simp at this))
 obtain ⟨K,hK⟩:=hmain
 refine ⟨K+10,fun k hk=>?_⟩
 show page_Id.f k v=_
 unfold page_Id.f
 rw [if_pos ⟨hv,wide_8 k (by omega)⟩,← hn]
 exact hK k (by omega)
theorem idv_iff (v:ByteArray):(idv v).2=0↔idOk v:=by
 unfold idv
 split
 ·simp [*]
 ·simp [*]

/-! ### pages -/
structure Pg where
 id:Int
 right:Int
 level:Int
 low:ByteArray
 high:ByteArray
 fin:Bool
 dsn:Int
 slow:Int
 sin:List Int
 cells:List S42
/-- What every page handed in has. -/
structure Pg.ok (p:Pg):Prop where
 id0:0≤p.id
 right0:0≤p.right
 level0:0≤p.level
 level1:p.level < 256
 slow0:0≤p.slow
 sin:p.sin.length < 17592186044415
 len:p.cells.length < 4398046511104
 cell:∀ x∈p.cells,x.f0.size≤140737488351232∧x.f1.size≤140737488351232
def cellOk (p:Pg) (c:S42):Prop:=inside p.low p.high p.fin c.f0=true∧(p.level=0→c.f0.size≤512)∧(0 < p.level→idOk c.f1)
structure CheckP (p:Pg):Prop where
 id1:1≤p.id
 id2:p.id≤400
 right2:p.right≤400
 other:p.right≠p.id
 level2:p.level≤10
 dsn2:p.dsn≤281474976710656
 span:SpanR p.low p.high p.fin=true
 fin:p.fin=true↔0 < p.right
 good:Good p.slow p.sin
 most:most_ p.slow p.sin≤281474976710656
 cells:RightP p.cells
 each:∀ t:Nat,t < p.cells.length→cellOk p (rd_T42 p.cells (t:Int))
 inner:0 < p.level→p.slow=0∧p.sin=[]∧0 < p.cells.length∧(rd_T42 p.cells 0).f0.toList=p.low.toList
def CheckR (p:Pg) (r:Int):Prop:=(r=0∧CheckP p)∨(r=110∧¬ CheckP p)
theorem leaf_b (l:List S42) (hl:l.length < 4611686018427387904):∀ d (i:Nat),l.length - i=d→i≤l.length→EvB (fun k=>page_leaf.l0 k l (l.length:Int) (i:Int)) (∀ t:Nat,i≤t→t < l.length→(rd_T42 l (t:Int)).f0.size≤512):=by
 intro d;induction d with
 |zero=>
  intro i h1 h2
  exact EvP.succ (g:=fun _=>some true) (EvP.const (by simp;intro t h3 h4;omega)) (fun k=>by simp only [page_leaf.l0];rw [if_neg (by omega)])
 |succ d ih=>
  intro i h1 h2
  refine EvP.succ (g:=fun k=>if ((rd_T42 l (i:Int)).f0.size:Int) > 512 then some false else page_leaf.l0 k l (l.length:Int) ((i+1:Nat):Int)) ?_ (fun k=>by simp only [page_leaf.l0];rw [if_pos (by omega),if_pos (by omega),if_pos (by omega),w1 (by omega)])
  refine EvP.ite (fun h=>EvP.const ?_) (fun h=>(ih (i+1) (by omega) (by omega)).mono fun b hb=>?_)
  ·simp only [Bool.false_eq_true,false_iff]
   intro h3
   have:=h3 i (Nat.le_refl _) (by omega)
   omega
  ·rw [hb]
   refine ⟨fun h3 t h4 h5=>?_,fun h3 t h4 h5=>h3 t (by omega) h5⟩
   rcases Nat.eq_or_lt_of_le h4 with rfl|h6
   ·omega
   ·exact h3 t h6 h5
theorem inner_b (p:Pg) (ho:p.ok):∀ d (i:Nat),p.cells.length - i=d→i≤p.cells.length→EvB (fun k=>page_inner.l0 k p.cells (p.cells.length:Int) (i:Int) p.id p.right p.level p.low p.high p.fin p.dsn p.slow p.sin p.cells)
  ((∀ t:Nat,i≤t→t < p.cells.length→idOk (rd_T42 p.cells (t:Int)).f1)∧p.slow=0∧p.sin=[]∧0 < p.cells.length∧(rd_T42 p.cells 0).f0.toList=p.low.toList):=by
 have hlen:=ho.len
 intro d;induction d with
 |zero=>
  intro i h1 h2
  refine EvP.succ (g:=fun _=>if p.slow=0 then (if (p.sin.length:Int)=0 then (if (p.cells.length:Int) > 0 then (if 0 < (p.cells.length:Int) then (some (((rd_T42 p.cells 0).f0).toList==p.low.toList)) else (none)) else (some false)) else (some false)) else (some false)) ?_ (fun k=>by simp only [page_inner.l0];rw [if_neg (by omega)])
  refine EvP.ite (fun e1=>EvP.ite (fun e2=>EvP.ite (fun e3=>EvP.congr (g:=fun _=>some (((rd_T42 p.cells 0).f0).toList==p.low.toList)) (EvP.const ?_) (fun k=>if_pos e3)) (fun e3=>EvP.const ?_)) (fun e2=>EvP.const ?_)) (fun e1=>EvP.const ?_)
  ·rw [beq_iff_eq]
   exact ⟨fun h=>⟨fun t h3 h4=>by omega,e1,List.length_eq_zero_iff.1 (by omega),by omega,h⟩,fun h=>h.2.2.2.2⟩
  ·simp only [Bool.false_eq_true,false_iff]
   intro h;have:=h.2.2.2.1;omega
  ·simp only [Bool.false_eq_true,false_iff]
   intro h;exact e2 (by rw [h.2.2.1];rfl)
  ·simp only [Bool.false_eq_true,false_iff]
   intro h;exact e1 h.2.1
 |succ d ih=>
  intro i h1 h2
  refine EvP.succ (g:=fun k=>(page_Id.f k ((rd_T42 p.cells (i:Int)).f1)).bind fun bt=>if bt.2=0 then page_inner.l0 k p.cells (p.cells.length:Int) ((i+1:Nat):Int) p.id p.right p.level p.low p.high p.fin p.dsn p.slow p.sin p.cells else some false) ?_ (fun k=>by simp only [page_inner.l0];rw [if_pos (by omega),if_pos (by omega),if_pos (by omega),w1 (by omega)])
  refine EvP.bind ((id_ev _ (by have:=(ho.cell _ (rd_mem (by omega:i < p.cells.length))).2;omega)).to) fun r hr=>?_
  subst hr
  refine EvP.ite (fun h=>(ih (i+1) (by omega) (by omega)).mono fun b hb=>?_) (fun h=>EvP.const ?_)
  ·rw [hb]
   refine ⟨fun h3=>⟨fun t h4 h5=>?_,h3.2⟩,fun h3=>⟨fun t h4 h5=>h3.1 t (by omega) h5,h3.2⟩⟩
   rcases Nat.eq_or_lt_of_le h4 with rfl|h6
   ·exact (idv_iff _).1 h
   ·exact h3.1 t h6 h5
  ·simp only [Bool.false_eq_true,false_iff]
   intro h3
   exact h ((idv_iff _).2 (h3.1 i (Nat.le_refl _) (by omega)))
theorem good_b (low:Int) (l:List Int) (h:l.length < 17592186044415):EvB (fun k=>lsns_Right.f k low l) (Good low l):=Ev.evp (a:=decide (Good low l)) ⟨l.length+1,fun k hk=>right_eq low l k (by omega) (by omega)⟩ (by simp)
theorem rgood_b (low:Int) (l:List Int) (h:l.length < 17592186044415):EvB (fun k=>lockkeeperref04_Right.f k low l) (Good low l):=Ev.evp (a:=decide (Good low l)) ⟨l.length+1,fun k hk=>rright_eq low l k (by omega) (by omega)⟩ (by simp)
theorem cright_b (l:List S42) (h:l.length < 4398046511104):EvB (fun k=>cells_Right.f k l) (RightP l):=EvB.of (K:=l.length+1) fun k hk=>cright_eq l k (by omega) (by omega)
theorem crright_b (l:List S42) (h:l.length < 4398046511104):EvB (fun k=>lockkeeperref10_Right.f k l) (RightP l):=EvB.of (K:=l.length+1) fun k hk=>crright_eq l k (by omega) (by omega)
theorem filter_all {l:List S42} {q:S42→Bool}:(l.filter q).length=l.length↔∀ t:Nat,t < l.length→q (rd_T42 l (t:Int))=true:=by
 rw [List.length_filter_eq_length_iff]
 exact ⟨fun h t ht=>h _ (rd_mem ht),fun h c hc=>by obtain ⟨t,ht,rfl⟩:=mem_rd hc;exact h t ht⟩
theorem check_evp (p:Pg) (ho:p.ok):EvP (fun k=>page_Check.f k p.id p.right p.level p.low p.high p.fin p.dsn p.slow p.sin p.cells) (CheckR p):=by
 have hlen:=ho.len
 have hno:∀ {Q:Prop},¬ CheckP p→CheckR p 110:=fun h=>.inr ⟨rfl,h⟩
 unfold page_Check.f page_Check_3 page_Check_4 page_Check_5 page_Check_6 page_Check_7
 refine EvP.ite (fun h1=>?_) (fun h1=>EvP.const (.inr ⟨rfl,fun hc=>h1 ?_⟩))
 ·simp only [page_Check_1,page_Check_2,Bool.and_eq_true,decide_eq_true_eq,bne_iff_ne,ne_eq] at h1
  refine EvP.bind (p:=fun t3:Bool=>t3=true↔(SpanR p.low p.high p.fin=true∧(p.fin=true↔0 < p.right))) ((span_ev _ _ _).to.bind fun s hs=>EvP.const ?_) fun t3 h3=>EvP.ite (fun e3=>?_) (fun e3=>EvP.const (.inr ⟨rfl,fun hc=>e3 (h3.2 ⟨hc.span,hc.fin⟩)⟩))
  ·subst hs
   have hr:=ho.right0
   by_cases hz:p.right=0
   ·cases SpanR p.low p.high p.fin <;> cases p.fin <;> simp [hz]
   ·have hp:0 < p.right:=by omega
    cases SpanR p.low p.high p.fin <;> cases p.fin <;> simp [hz,hp]
  refine EvP.bind (p:=fun t4:Bool=>t4=true↔(Good p.slow p.sin∧most_ p.slow p.sin≤281474976710656)) ((good_b _ _ ho.sin).bind fun g hg=>EvP.ite (fun eg=>EvP.bind (p:=fun m=>m=most_ p.slow p.sin) (Ev.to ⟨p.sin.length+1,fun k hk=>most_eq _ _ k (by have:=ho.sin;omega) (by omega)⟩) fun m hm=>EvP.const ?_) (fun eg=>EvP.const ?_)) fun t4 h4=>EvP.ite (fun e4=>?_) (fun e4=>EvP.const (.inr ⟨rfl,fun hc=>e4 (h4.2 ⟨hc.good,hc.most⟩)⟩))
  ·subst hm;rw [decide_eq_true_eq];exact ⟨fun h=>⟨hg.1 eg,h⟩,fun h=>h.2⟩
  ·simp only [Bool.false_eq_true,false_iff];exact fun h=>eg (hg.2 h.1)
  refine EvP.bind (p:=fun t5:Bool=>t5=true↔(RightP p.cells∧∀ t:Nat,t < p.cells.length→inside p.low p.high p.fin (rd_T42 p.cells (t:Int)).f0=true)) ((cright_b _ ho.len).bind fun g hg=>EvP.ite (fun eg=>?_) (fun eg=>EvP.const ?_)) fun t5 h5=>EvP.ite (fun e5=>?_) (fun e5=>EvP.const (.inr ⟨rfl,fun hc=>e5 (h5.2 ⟨hc.cells,fun t ht=>(hc.each t ht).1⟩)⟩))
  ·unfold cells_Part.f
   refine EvP.bind (p:=fun q:List S42=>q=p.cells.filter (fun y=>inside p.low p.high p.fin y.f0)) ((cright_b _ ho.len).bind fun g2 hg2=>EvP.ite (fun _=>(span_ev _ _ _).to.bind fun s hs=>EvP.congr (g:=fun _=>some (p.cells.filter (fun y=>s && inside p.low p.high p.fin y.f0))) (EvP.const ?_) (fun k=>if_pos hlen)) (fun e=>absurd (hg2.2 (hg.1 eg)) e)) fun q hq=>EvP.const ?_
   ·rw [hs,(h3.1 e3).1];simp only [Bool.true_and]
   ·subst hq
    rw [beq_iff_eq,Int.natCast_inj,filter_all]
    exact ⟨fun h=>⟨hg.1 eg,h⟩,fun h=>h.2⟩
  ·simp only [Bool.false_eq_true,false_iff];exact fun h=>eg (hg.2 h.1)
  refine EvP.bind (p:=fun t6:Bool=>t6=true↔(p.level=0→∀ t:Nat,t < p.cells.length→(rd_T42 p.cells (t:Int)).f0.size≤512)) (EvP.ite (fun hl=>EvP.const ?_) (fun hl=>(leaf_b p.cells (by omega) _ 0 rfl (Nat.zero_le _)).mono fun b hb=>?_)) fun t6 h6=>EvP.ite (fun e6=>?_) (fun e6=>EvP.const (.inr ⟨rfl,fun hc=>e6 (h6.2 fun hz t ht=>(hc.each t ht).2.1 hz)⟩))
  ·simp only [true_iff];intro hz;omega
  ·rw [hb];exact ⟨fun h _ t ht=>h t (Nat.zero_le _) ht,fun h t _ ht=>h (by have:=ho.level0;omega) t ht⟩
  refine EvP.bind (p:=fun t7:Bool=>t7=true↔(0 < p.level→(∀ t:Nat,t < p.cells.length→idOk (rd_T42 p.cells (t:Int)).f1)∧p.slow=0∧p.sin=[]∧0 < p.cells.length∧(rd_T42 p.cells 0).f0.toList=p.low.toList)) (EvP.ite (fun hl=>EvP.const ?_) (fun hl=>(inner_b p ho _ 0 rfl (Nat.zero_le _)).mono fun b hb=>?_)) fun t7 h7=>EvP.ite (fun e7=>EvP.const (.inl ⟨rfl,?_⟩)) (fun e7=>EvP.const (.inr ⟨rfl,fun hc=>e7 (h7.2 fun hz=>⟨fun t ht=>(hc.each t ht).2.2 hz,hc.inner hz⟩)⟩))
  ·simp only [true_iff];intro hz;omega
  ·rw [hb]
   exact ⟨fun h _=>⟨fun t ht=>h.1 t (Nat.zero_le _) ht,h.2⟩,fun h=>by have h':=h (by have:=ho.level0;omega);exact ⟨fun t _ ht=>h'.1 t ht,h'.2⟩⟩
  have g3:=h3.1 e3;have g4:=h4.1 e4;have g5:=h5.1 e5;have g6:=h6.1 e6;have g7:=h7.1 e7
  exact ⟨h1.1.1.1.1,h1.1.1.1.2,h1.1.1.2,h1.1.2,h1.2.1,h1.2.2,g3.1,g3.2,g4.1,g4.2,g5.1,fun t ht=>⟨g5.2 t ht,fun hz=>g6 hz t ht,fun hz=>(g7 hz).1 t ht⟩,fun hz=>(g7 hz).2⟩
 ·simp only [page_Check_1,page_Check_2,Bool.and_eq_true,decide_eq_true_eq,bne_iff_ne,ne_eq]
  exact ⟨⟨⟨⟨hc.id1,hc.id2⟩,hc.right2⟩,hc.other⟩,hc.level2,hc.dsn2⟩
theorem rcheck_evp (p:Pg) (ho:p.ok):EvP (fun k=>lockkeeperref11_Check.f k p.id p.right p.level p.low p.high p.fin p.dsn p.slow p.sin p.cells) (CheckR p):=by
 have hlen:=ho.len
 have hloop:SpanR p.low p.high p.fin=true→((∀ t:Nat,t < p.cells.length→cellOk p (rd_T42 p.cells (t:Int)))→(0 < p.level→p.slow=0∧p.sin=[]∧0 < p.cells.length∧(rd_T42 p.cells 0).f0.toList=p.low.toList)→CheckP p)→
   ∀ d (i:Nat),p.cells.length - i=d→i≤p.cells.length→(∀ t:Nat,t < i→cellOk p (rd_T42 p.cells (t:Int)))→EvP (fun k=>lockkeeperref11_Check.l0 k (i:Int) p.id p.right p.level p.low p.high p.fin p.dsn p.slow p.sin p.cells) (CheckR p):=by
  intro hspan hall d;induction d with
  |zero=>
   intro i h1 h2 h3
   refine EvP.succ (g:=fun _=>if p.level > 0 then (if p.slow > 0 then (some 110) else (if (p.sin.length:Int) > 0 then (some 110) else (if (p.cells.length:Int)=0 then (some 110) else (if 0 < (p.cells.length:Int) then (if ((rd_T42 p.cells 0).f0).toList=p.low.toList then (some 0) else (some 110)) else (none))))) else (some 0)) ?_ (fun k=>by simp only [lockkeeperref11_Check.l0];rw [if_neg (by omega)])
   refine EvP.ite (fun e1=>EvP.ite (fun e2=>EvP.const ?_) (fun e2=>EvP.ite (fun e3=>EvP.const ?_) (fun e3=>EvP.ite (fun e4=>EvP.const ?_) (fun e4=>EvP.congr (g:=fun _=>if ((rd_T42 p.cells 0).f0).toList=p.low.toList then (some 0) else (some 110)) (EvP.ite (fun e5=>EvP.const ?_) (fun e5=>EvP.const ?_)) (fun k=>if_pos (by omega)))))) (fun e1=>EvP.const ?_)
   ·exact .inr ⟨rfl,fun hc=>by have:=(hc.inner e1).1;omega⟩
   ·exact .inr ⟨rfl,fun hc=>by have:=(hc.inner e1).2.1;rw [this] at e3;simp at e3⟩
   ·exact .inr ⟨rfl,fun hc=>by have:=(hc.inner e1).2.2.1;omega⟩
   ·exact .inl ⟨rfl,hall (fun t ht=>h3 t (by omega)) fun _=>⟨by have:=ho.slow0;omega,List.length_eq_zero_iff.1 (by omega),by omega,e5⟩⟩
   ·exact .inr ⟨rfl,fun hc=>e5 (hc.inner e1).2.2.2⟩
   ·exact .inl ⟨rfl,hall (fun t ht=>h3 t (by omega)) fun h=>absurd h e1⟩
  |succ d ih=>
   intro i h1 h2 h3
   obtain ⟨c,hc⟩:∃ c,c=rd_T42 p.cells (i:Int):=⟨_,rfl⟩
   refine EvP.succ (g:=fun k=>(lockkeeperref03_Has.f k p.low p.high p.fin c.f0).bind fun t288=>(if t288=true then (if p.level=0 then (lockkeeperref11_Check.j4 k (i:Int) (decide (((c.f0).size:Int) > 512)) p.id p.right p.level p.low p.high p.fin p.dsn p.slow p.sin p.cells c.f0 c.f1) else (lockkeeperref11_Check.j4 k (i:Int) false p.id p.right p.level p.low p.high p.fin p.dsn p.slow p.sin p.cells c.f0 c.f1)) else (lockkeeperref11_Check.j4 k (i:Int) true p.id p.right p.level p.low p.high p.fin p.dsn p.slow p.sin p.cells c.f0 c.f1))) ?_ (fun k=>by
    rw [hc];simp only [lockkeeperref11_Check.l0,lockkeeperref11_Range.f,Option.bind_some];rw [if_pos (by omega),if_pos (by omega)])
   have hno:¬ cellOk p c→¬ CheckP p:=fun h hp=>h (hc ▸ hp.each i (by omega))
   have hbad:¬ cellOk p c→EvP (fun k=>lockkeeperref11_Check.j4 k (i:Int) true p.id p.right p.level p.low p.high p.fin p.dsn p.slow p.sin p.cells c.f0 c.f1) (CheckR p):=fun h=>EvP.succ (g:=fun _=>some 110) (EvP.const (.inr ⟨rfl,hno h⟩)) (fun k=>by simp only [lockkeeperref11_Check.j4];rw [if_pos trivial])
   have hgood:inside p.low p.high p.fin c.f0=true→(p.level=0→c.f0.size≤512)→EvP (fun k=>lockkeeperref11_Check.j4 k (i:Int) false p.id p.right p.level p.low p.high p.fin p.dsn p.slow p.sin p.cells c.f0 c.f1) (CheckR p):=fun g1 g2=>by
    have hnext:cellOk p c→EvP (fun k=>lockkeeperref11_Check.l0 k ((i+1:Nat):Int) p.id p.right p.level p.low p.high p.fin p.dsn p.slow p.sin p.cells) (CheckR p):=fun g=>ih (i+1) (by omega) (by omega) fun t ht=>by
     rcases Nat.lt_or_ge t i with h|h
     ·exact h3 t h
     ·obtain rfl:t=i:=by omega
      exact hc ▸ g
    refine EvP.succ (g:=fun k=>(lockkeeperref11_Id.f k c.f1).bind fun bt=>(if p.level > 0 then (if bt.2=0 then (lockkeeperref11_Check.l0 k ((i+1:Nat):Int) p.id p.right p.level p.low p.high p.fin p.dsn p.slow p.sin p.cells) else (some 110)) else (lockkeeperref11_Check.l0 k ((i+1:Nat):Int) p.id p.right p.level p.low p.high p.fin p.dsn p.slow p.sin p.cells))) ?_ (fun k=>by simp only [lockkeeperref11_Check.j4];rw [if_neg (by simp),w1 (by omega)])
    refine (rid_ev c.f1).to.bind fun r hr=>?_
    subst hr
    refine EvP.ite (fun hl=>EvP.ite (fun e=>hnext ⟨g1,g2,fun _=>(idv_iff _).1 e⟩) (fun e=>EvP.const (.inr ⟨rfl,hno fun h=>e ((idv_iff _).2 (h.2.2 hl))⟩))) (fun hl=>hnext ⟨g1,g2,fun h=>absurd h hl⟩)
   refine (rhas_ev p.low p.high p.fin c.f0).to.bind fun t ht=>?_
   subst ht
   rw [hspan,Bool.true_and]
   refine EvP.ite (fun e1=>EvP.ite (fun e2=>?_) (fun e2=>hgood e1 fun h=>absurd h e2)) (fun e1=>hbad fun h=>e1 h.1)
   by_cases e3:c.f0.size≤512
   ·rw [decide_eq_false (by omega)];exact hgood e1 fun _=>e3
   ·rw [decide_eq_true (by omega)];exact hbad fun h=>e3 (h.2.1 e2)
 have h2:∀ x:Bool,SpanR p.low p.high p.fin=true→(x=true→¬ CheckP p)→(x=false→(∀ t:Nat,t < p.cells.length→cellOk p (rd_T42 p.cells (t:Int)))→(0 < p.level→p.slow=0∧p.sin=[]∧0 < p.cells.length∧(rd_T42 p.cells 0).f0.toList=p.low.toList)→CheckP p)→
   EvP (fun k=>lockkeeperref11_Check.j2 k x p.id p.right p.level p.low p.high p.fin p.dsn p.slow p.sin p.cells) (CheckR p):=fun x hs h1 h2=>by
  refine EvP.succ (g:=fun k=>if x=true then some 110 else lockkeeperref11_Check.l0 k 0 p.id p.right p.level p.low p.high p.fin p.dsn p.slow p.sin p.cells) ?_ (fun k=>by simp only [lockkeeperref11_Check.j2])
  exact EvP.ite (fun e=>EvP.const (.inr ⟨rfl,h1 e⟩)) (fun e=>hloop hs (h2 (by simpa using e)) _ 0 rfl (Nat.zero_le _) (fun t ht=>by omega))
 have h1:∀ x:Bool,(x=true→¬ CheckP p)→(x=false→SpanR p.low p.high p.fin=true∧(Good p.slow p.sin→most_ p.slow p.sin≤281474976710656→RightP p.cells→(∀ t:Nat,t < p.cells.length→cellOk p (rd_T42 p.cells (t:Int)))→(0 < p.level→p.slow=0∧p.sin=[]∧0 < p.cells.length∧(rd_T42 p.cells 0).f0.toList=p.low.toList)→CheckP p))→
   EvP (fun k=>lockkeeperref11_Check.j1 k x p.id p.right p.level p.low p.high p.fin p.dsn p.slow p.sin p.cells) (CheckR p):=fun x hn hy=>by
  refine EvP.succ ?_ (fun k=>by simp only [lockkeeperref11_Check.j1];rfl)
  refine EvP.ite (fun e=>EvP.const (.inr ⟨rfl,hn e⟩)) (fun e=>?_)
  obtain ⟨hs,hy⟩:=hy (by simpa using e)
  refine (rgood_b _ _ ho.sin).bind fun g hg=>EvP.ite (fun eg=>EvP.bind (p:=fun m=>m=most_ p.slow p.sin) (Ev.to ⟨p.sin.length+1,fun k hk=>rmost_eq _ _ k (by have:=ho.sin;omega) (by omega)⟩) fun m hm=>?_) (fun eg=>?_)
  ·subst hm
   refine EvP.ite (fun em=>h2 true hs (fun _ hc=>by have:=hc.most;omega) (fun h=>by cases h)) (fun em=>(crright_b _ ho.len).bind fun r hr=>h2 (!r) hs (fun h hc=>?_) (fun h=>hy (hg.1 eg) (by omega) (hr.1 (by simpa using h))))
   rw [hr.2 hc.cells] at h;cases h
  ·exact h2 true hs (fun _ hc=>eg (hg.2 hc.good)) (fun h=>by cases h)
 have h0:∀ x:Bool,(x=true→¬ CheckP p)→(x=false→SpanR p.low p.high p.fin=true→(p.fin=true↔0 < p.right)→Good p.slow p.sin→most_ p.slow p.sin≤281474976710656→RightP p.cells→(∀ t:Nat,t < p.cells.length→cellOk p (rd_T42 p.cells (t:Int)))→(0 < p.level→p.slow=0∧p.sin=[]∧0 < p.cells.length∧(rd_T42 p.cells 0).f0.toList=p.low.toList)→CheckP p)→
   EvP (fun k=>lockkeeperref11_Check.j0 k x p.id p.right p.level p.low p.high p.fin p.dsn p.slow p.sin p.cells) (CheckR p):=fun x hn hy=>by
  refine EvP.succ ?_ (fun k=>by simp only [lockkeeperref11_Check.j0,lockkeeperref11_Range.f,Option.bind_some];rfl)
  refine EvP.ite (fun e=>EvP.const (.inr ⟨rfl,hn e⟩)) (fun e=>?_)
  refine (rspan_ev _ _ _).to.bind fun s hs=>EvP.ite (fun es=>h1 _ (fun h hc=>?_) (fun h=>⟨hs ▸ es,hy (by simpa using e) (hs ▸ es) ?_⟩)) (fun es=>h1 true (fun _ hc=>es (hs ▸ hc.span)) (fun h=>by cases h))
  ·have hf:=hc.fin
   by_cases hz:0 < p.right
   ·rw [hf.2 hz,decide_eq_true hz] at h;cases h
   ·have:p.fin=false:=by cases hq:p.fin with|false=>rfl|true=>exact absurd (hf.1 hq) hz
    rw [this,decide_eq_false hz] at h;cases h
  ·by_cases hz:0 < p.right
   ·rw [decide_eq_true hz] at h
    exact ⟨fun _=>hz,fun _=>by cases hq:p.fin with|true=>rfl|false=>rw [hq] at h;cases h⟩
   ·rw [decide_eq_false hz] at h
    exact ⟨fun hq=>(by rw [hq] at h;cases h),fun h9=>absurd h9 hz⟩
 unfold lockkeeperref11_Check.f
 refine EvP.ite (fun e=>h0 true (fun _ hc=>by have:=hc.id1;omega) (fun h=>by cases h)) fun e1=>EvP.ite (fun e=>h0 true (fun _ hc=>by have:=hc.id2;omega) (fun h=>by cases h)) fun e2=>EvP.ite (fun e=>h0 true (fun _ hc=>by have:=hc.right2;omega) (fun h=>by cases h)) fun e3=>EvP.ite (fun e=>h0 true (fun _ hc=>hc.other e) (fun h=>by cases h)) fun e4=>EvP.ite (fun e=>h0 true (fun _ hc=>by have:=hc.level2;omega) (fun h=>by cases h)) fun e5=>?_
 refine h0 _ (fun h hc=>by have:=hc.dsn2;have:=of_decide_eq_true h;omega) (fun h g1 g2 g3 g4 g5 g6 g7=>⟨by omega,by omega,by omega,e4,by omega,by have:=of_decide_eq_false h;omega,g1,g2,g3,g4,g5,g6,g7⟩)
open Classical in
noncomputable def chk (p:Pg):Int:=if CheckP p then 0 else 110
theorem chk_of {p:Pg} {r:Int} (h:CheckR p r):r=chk p:=by
 unfold chk
 rcases h with ⟨rfl,h⟩|⟨rfl,h⟩
 ·rw [if_pos h]
 ·rw [if_neg h]
theorem chk0 {p:Pg}:chk p=0↔CheckP p:=by
 unfold chk
 split
 ·simp [*]
 ·simp [*]
theorem check_ev (p:Pg) (ho:p.ok):Ev (fun k=>page_Check.f k p.id p.right p.level p.low p.high p.fin p.dsn p.slow p.sin p.cells) (chk p):=((check_evp p ho).mono fun r h=>chk_of h).ev
theorem rcheck_ev (p:Pg) (ho:p.ok):Ev (fun k=>lockkeeperref11_Check.f k p.id p.right p.level p.low p.high p.fin p.dsn p.slow p.sin p.cells) (chk p):=((rcheck_evp p ho).mono fun r h=>chk_of h).ev
end Go.Proofs.YtmfaopjfdedheaaGreat.Fq
