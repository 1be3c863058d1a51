/- slices.Sort at []uint64: the sorted slice, in place; told of an own row. -/
import Derived.Test.YtmfaopjfdedheaaGreatSortB
import Derived.Test.YtmfaopjfdedheaaGreatSortC
import Derived.Test.YtmfaopjfdedheaaGreatSortD
import Derived.Test.YtmfaopjfdedheaaGreatSortE
import Derived.Test.YtmfaopjfdedheaaGreatOwn
namespace Go.Proofs.YtmfaopjfdedheaaGreat
set_option linter.unusedVariables false
set_option linter.unusedSimpArgs false
open Go.Sort Go.RowKit Go.Proofs.YtmfaopjfdedheaaGreatW Go.Proofs.YtmfaopjfdedheaaGreatW.PrintWords Go.Proofs.YtmfaopjfdedheaaGreatW.PrintLast Go.Proofs.YtmfaopjfdedheaaGreatW.PrintMore

theorem callees13u:Callees13u where
 ins:=SoU.insertionSort_int
 brk:=SoU.breakPatterns_int
 piv:=SoU.choosePivot_int
 par:=SoU.partialInsertionSort_int
 peq:=SoU.partitionEqualOrdered_int
 prt:=SoU.partitionOrdered_int
theorem plain13u:Plain13 where
 swo:=swo_ltInt
 ins:=insertionSort_holds
 par:=partialInsertionSort_holds
 prt:=partition_holds _
 peq:=partitionEqual_holds _
 pdq:=pdq_sorts _
theorem pdqWalkU:pdqWalk_u:=fun blk off cap a b limit d w hH hb hab hbd hsz hl hB=>
 SoU.pdqsort_int callees13u plain13u (b - a+1) blk off cap a b limit d w (by omega) hH hb hab hbd hsz hl hB
def sortL (l:List Int):List Int:=l.mergeSort fun x y=>decide (x≤y)
theorem sortL_length (l:List Int):(sortL l).length=l.length:=List.length_mergeSort l
theorem SoU.sort (blk off cap:Nat) (zs:List Int) (w:World) (hH:Holds (Value.int .u64) w blk off zs.toArray) (hblk:blk < w.heap.size) (hsz:zs.length < 4611686018427387904):
  Calls Tryz.prog 78 #[.slice (some ⟨blk,off,none⟩) zs.length cap] w fun e w'=>e=.returned (.tuple #[])∧∃ n os,w'=grow (putRow (Value.int .u64) (Sort.ahead w n) blk off (sortL zs).toArray) os:=by
 have h:=SoU.Sort_int pdqWalkU blk off cap zs.toArray w hH hblk (by simpa using hsz)
 rw [show Sort.sort ltInt zs.toArray=(sortL zs).toArray by unfold sortL;rw [← sortInt zs]] at h
 simpa using h

/-! ### Sort, of an own row -/
def sortU.f (l:List Int):Option (List Int):=if l.length < 4611686018427387904 then some (sortL l) else none
theorem sortU.calls (P0_:Nat→Prop) (u9000_:Value) (l0 r:List Int) (w0 w:World) (hB:Below w0.heap.size w0 w) (ho0:Kd.R (Kd.int .u64) 22 w w0.heap.size P0_ u9000_ l0) (h:sortU.f l0=some r):
  Calls Tryz.prog 78 #[u9000_] w fun e w'=>e=.returned (.tuple #[])∧Kd.R (Kd.int .u64) 22 w' w0.heap.size (fun k_=>(P0_ k_∨w.heap.size≤k_)) u9000_ r∧Below w0.heap.size w0 w'∧Kept w w' (fun k_=>P0_ k_):=by
 unfold sortU.f at h
 by_cases hl:l0.length < 4611686018427387904
 ·rw [if_pos hl] at h
  obtain rfl:=Option.some.inj h
  rcases own_opened ho0 with ⟨rfl,rfl⟩|⟨g,cap,cur,rfl,hok,hb,hg,h1,h2,h3,h4⟩
  ·refine (SoU.Sort_int_nil none 0 w).mono ?_
   rintro e w' ⟨rfl,rfl⟩
   have e1:sortL []=[]:=by unfold sortL;simp
   rw [e1]
   exact ⟨rfl,Kd.R_nil _ _ _ _ _,hB,Kept.refl _ _⟩
  ·have hlt:g < w.heap.size:=(Array.getElem?_eq_some_iff.1 hg).1
   refine (SoU.sort g 0 cap l0 w (own_holds hg (by omega) h4) hlt hl).mono ?_
   rintro e w' ⟨rfl,n,os,rfl⟩
   obtain ⟨cur',hg',hs',ht'⟩:=own_put (k:=.u64) hg n (sortL l0) (by rw [sortL_length];omega) os
   have hr:=own_closed (k:=.u64) (base:=w0.heap.size) (ok:=fun k_=>(P0_ k_∨w.heap.size≤k_)) (cap:=cap) (sortL l0) (.inl hok) hb hg' (by rw [sortL_length];omega) h2 (by omega) ht'
   rw [sortL_length] at hr
   exact ⟨rfl,hr,⟨hB.os,hB.tape,hB.output,Nat.le_trans hB.size (put_size _ _ _ _ _ _),fun j hj=>(put_other _ _ _ _ _ _ j (Nat.lt_of_lt_of_le hj hB.size) (by omega)).trans (hB.block j hj)⟩,own_kept hok⟩
 ·rw [if_neg hl] at h;cases h
end Go.Proofs.YtmfaopjfdedheaaGreat
