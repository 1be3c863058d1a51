/- Plain words: a cut with a capacity of its own, and an append behind it, which always makes a new row. -/
import Derived.Test.YtmfaopjfdedheaaGreatWWords
import Derived.ArgAppend
import Derived.Deep.RegionLawGrows
import Derived.Laws.CopyOwn
namespace Go.Proofs.YtmfaopjfdedheaaGreatW.GpMore
open Go.RowKit Go.Proofs.YtmfaopjfdedheaaGreatW.PrintWords
set_option linter.unusedVariables false
theorem bytes_le:∀ x y:List UInt8,(Op.bytesLess x y||x==y)= !Op.bytesLess y x
 |[],[]=>rfl
 |[],_::_=>rfl
 |_::_,[]=>rfl
 |a::x,b::y=>by
  have ih:=bytes_le x y
  simp only [Op.bytesLess]
  rcases Nat.lt_trichotomy a.toNat b.toNat with h|h|h
  ·have h1:a < b:=UInt8.lt_iff_toNat_lt.2 h
   have h2:¬ b < a:=fun h'=>by have:=UInt8.lt_iff_toNat_lt.1 h';omega
   have h3:(b==a)=false:=beq_eq_false_iff_ne.2 (fun e=>by rw [e] at h;omega)
   simp [h1,h2,h3]
  ·have h0:a=b:=UInt8.toNat_inj.1 h
   subst h0
   have h1:¬ a < a:=fun h'=>by have:=UInt8.lt_iff_toNat_lt.1 h';omega
   simpa [h1] using ih
  ·have h1:b < a:=UInt8.lt_iff_toNat_lt.2 h
   have h2:¬ a < b:=fun h'=>by have:=UInt8.lt_iff_toNat_lt.1 h';omega
   have h3:(a==b)=false:=beq_eq_false_iff_ne.2 (fun e=>by rw [e] at h;omega)
   have h4:(a::x==b::y)=false:=beq_eq_false_iff_ne.2 (fun e=>by injection e with e1 _;rw [e1] at h;omega)
   simp [h1,h2,h3,h4]
section
variable {P:Program}
end
section
variable {P:Program} {ops:Array Oper} {rest:List Oper} {o:Oper} {a:Act} {Q:Exit→Act→World→Prop} {α:Type}
end
section
variable {P:Program} {ops:Array Oper} {o:Oper} {a:Act} {Q:Exit→Act→World→Prop} {Kc:Act→World→Prop} {α:Type}
end
section
variable {P:Program} {ops:Array Oper} {rest:List Oper} {o:Oper} {a:Act} {Q:Exit→Act→World→Prop} {α:Type}
/-- copy into a row of the call's own, from its begin. -/
theorem R_copy (enc:α→Value) {h1:∀ x,(enc x).oneCell'=true} {w0 W:World} (base:Nat) (hgd:o.guard=none) (d s:Operand) (dT sT e:TypeId)
  (ho:o.op=.call { callee:=.builtin .copy,args:=#[d,s],argTypes:=#[dT,sT] }) (ht:P.underlying dT=some (.slice e)) (hinfo:(P.info? e).map (·.size)=some 1) {ok:Nat→Prop}
  (v:Value) (xs ys:List α) (A:Option Addr) (m c:Nat) (hd:a.eval d=v) (hs:a.eval s=.slice A m c) (HO:(Kd.scalar enc h1).R e W base ok v xs) (HR:(Kd.scalar enc h1).C W A m ys) (hle:m≤xs.length) (HB:Below base w0 W)
  (h:∀ w1,(Kd.scalar enc h1).R e w1 base ok v (ys++xs.drop m)→Below base w0 w1→wpList P ops Q rest (a.put o.dst (goInt m)) w1):wpList P ops Q (o::rest) a W:=by
 have hm:ys.length=m:=HR.1
 have hsrc:0 < m→∃ ad,A=some ad∧∀ j u,(encs enc ys)[j]? =some u→W.cell? (ad.add j)=some u:=fun h0=>by
  obtain ⟨ad,e,hc⟩:=HR.2.2 h0
  refine ⟨ad,e,fun j u hu=>?_⟩
  have hj:j < ys.length:=by
   rcases Nat.lt_or_ge j ys.length with q|q
   ·exact q
   ·rw [List.getElem?_eq_none (by rw [encs_length];exact q)] at hu;cases hu
  obtain ⟨c,_,hK,hcell⟩:=hc j _ (List.getElem?_eq_getElem hj)
  have hK':c=[enc ys[j]]:=hK
  subst hK'
  have h2:=hcell 0 _ rfl
  rw [Nat.add_zero,show (Kd.scalar enc h1).sz=1 from rfl,Nat.mul_one] at h2
  rw [h2,← hu];simp [encs,hj]
 have hone:∀ u∈encs enc ys,u.oneCell'=true:=fun u hu=>by obtain ⟨x,_,rfl⟩:=List.mem_map.1 hu;exact h1 x
 obtain ⟨hlen,hcase⟩:=Kd.own_of_R HO
 rcases hcase with ⟨rfl,hn⟩|⟨g,cap,cur,rfl,hg,hh,hnc,hcm,hcs,htake⟩
 ·obtain rfl:m=0:=by omega
  obtain rfl:ys=[]:=List.eq_nil_of_length_eq_zero hm
  refine wpList_copy_nothing hgd d s dT sT ho e ht hinfo none A 0 0 0 c hd hs rfl ?_
  exact h W (by simpa using HO) HB
 ·rw [Nat.mul_one] at hcs htake
  have hcl:cur.toList.length=cur.size:=Array.length_toList
  have hex:(encs enc xs).length=xs.length:=encs_length ..
  have hey:(encs enc ys).length=ys.length:=encs_length ..
  refine wpList_copy_splice hgd d s dT sT ho e ht hinfo (some ⟨g,0,none⟩) A xs.length cap m c hd hs g 0 cur.toList e (by simpa using hh) (encs enc ys) (by rw [encs_length,hm];exact (Nat.min_eq_left hle).symm) (fun h0=>?_) (by omega) hone base w0 HB hg ?_
  ·rw [encs_length,hm] at h0;obtain ⟨ad,he,hc⟩:=hsrc h0;exact ⟨rfl,ad,he,hc⟩
  ·intro w1 hw1 hb1
   rw [encs_length,hm]
   refine h w1 (Kd.R_of_own ⟨by rw [encs_length,Nat.mul_one],.inr ⟨g,cap,(splice cur.toList 0 (encs enc ys)).toArray,?_,hg,hw1.out,?_,hcm,?_,?_⟩⟩ (fun k hk=>HO.1 k hk)) hb1
   ·congr 1;rw [List.length_append,List.length_drop,hm];omega
   ·rw [List.length_append,List.length_drop,hm];omega
   ·rw [List.size_toArray,length_splice _ _ _ (by omega),hcl,Nat.mul_one];exact hcs
   ·rw [Nat.mul_one];show (splice cur.toList 0 (encs enc ys)).take _=_
    unfold splice
    rw [List.take_zero,List.nil_append,encs_length,Nat.zero_add,List.length_append,List.length_drop,encs_append,List.take_append,encs_length,List.take_of_length_le (by rw [encs_length];omega),hm]
    congr 1
    have e1:(encs enc xs).drop m=encs enc (xs.drop m):=by simp [encs]
    rw [← e1,← htake,List.drop_take];congr 1;omega
end
end Go.Proofs.YtmfaopjfdedheaaGreatW.GpMore
