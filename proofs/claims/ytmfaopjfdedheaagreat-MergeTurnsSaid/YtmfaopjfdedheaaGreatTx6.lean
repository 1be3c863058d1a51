-- PRINTED by print.py (a twelfth state) out of the translation. Not trusted: Lean checks it.
import Derived.Test.YtmfaopjfdedheaaGreatSq
import Derived.Test.YtmfaopjfdedheaaGreatSh
import Derived.Test.YtmfaopjfdedheaaGreatTx0
import Derived.Test.YtmfaopjfdedheaaGreatTx2
import Derived.Test.YtmfaopjfdedheaaGreatTx4
import Derived.Test.YtmfaopjfdedheaaGreatTx5
namespace Go.Proofs.YtmfaopjfdedheaaGreat.T
open Go.RowKit Go.Proofs.YtmfaopjfdedheaaGreatW Go.Proofs.YtmfaopjfdedheaaGreatW.PrintWords Go.Proofs.YtmfaopjfdedheaaGreatW.PrintLast Go.Proofs.YtmfaopjfdedheaaGreatW.PrintMore
attribute [local go_sem] GpMore.bytes_le max2_int min2_int max_two min_two max_three min_three max_four min_four   -- for this text's walks alone
set_option linter.unusedVariables false
set_option linter.unusedSimpArgs false

/-! ### merge_Join: function 10 -/
theorem blk_new_at {w:World} {o:Obj} {b:Nat} (h:b=w.heap.size):(w.alloc o).heap[b]? =some o:=h ▸ blk_new w o
/-- A call of a function value that is bound to its first arguments, in a plain region. -/
theorem goesF_ {P:Program} {ops:Array Oper} {Q:Exit→Act→World→Prop} {rest:List Oper} {oi:Oper} {a:Act} {w:World} (N:Option Tmp) (hd:oi.dst=N) (hg:oi.guard=none) {f:FuncId} {fn:Func} {as_:Array Operand} {ts:Array TypeId} {j:Tmp} {first:Array Value} (hf:P.funcs[f]? =some fn) (hname:(fn.name== "runtime.NumGoroutine")=false) (hb:fn.body.isSome=true) (args:Array Value)
  (hop:oi.op=.call { callee:=.value (.tmp j),args:=as_,argTypes:=ts }) (hv:a.eval (.tmp j)=.func (.func f) first #[]) (hargs:first++as_.map a.eval=args)
  (h:Calls P f args w fun e w'=>∃ v,e=.returned v∧wpList P ops Q rest (a.put N v) w'):wpList P ops Q (oi::rest) a w:=by
 refine wpList_plain hg fun K hK=>?_
 have he:=enters_ hf hname hb args w
 have hrun:(execOp a.eval oi).run P w=.ok (.enter f args) w:=by
  unfold execOp
  simp [hop,resolve,Deferred.ofValue,invoke,hv,hargs,he]
 unfold Oper.wp
 rw [hrun,Oper.upon_enter]
 refine h.mono fun e w'' hh=>?_
 obtain ⟨v,rfl,hk⟩:=hh
 subst hd
 exact hK _ _ hk
mutual
def merge_Join.j0:Nat→Int→Int→Bool→Int→Int→Int→ByteArray→ByteArray→Bool→Int→Int→List Int→List (S42)→Int→Int→Int→ByteArray→ByteArray→Bool→Int→Int→List Int→List (S42)→Option (Int×Int×Int×ByteArray×ByteArray×Bool×Int×Int×List Int×(List (S42))×Int)
 |0,_,_,_,_,_,_,_,_,_,_,_,_,_,_,_,_,_,_,_,_,_,_,_=>none
 |k+1,x2,x3,x15,aq4,ci1,am5,aq5,ci2,ci3,ci4,ai4,ay8,bl7,ci5,aq6,ci6,ci7,aq7,aq8,ci8,ay9,bl8,bl9=>if x15=true then (some (0,0,0,(⟨#[]⟩:ByteArray),(⟨#[]⟩:ByteArray),false,0,0,([]:List Int),([]:List (S42)),110)) else ((merge_Beside.f k aq4 ci1 am5 aq5 ci2 ci3 ci4 ai4 ay8 bl7 ci5 aq6 ci6 ci7 aq7 aq8 ci8 ay9 bl8 bl9).bind fun fx4=>(if fx4=true then ((slices_Clone_uint64_uint64.f ay8).bind fun J7=>((api_Cell.f k bl7 bl9).bind fun aw0=>(if am5 > 0 then (some (aq4,aq6,am5,aq5,aq7,aq8,x3,ai4,J7,aw0,0)) else (if ai4 > x2 then (merge_Join.j1 k x2 true aq4 ci1 am5 aq5 ci2 ci3 ci4 ai4 ay8 bl7 ci5 aq6 ci6 ci7 aq7 aq8 ci8 ay9 bl8 bl9 aq4 aq6 am5 aq5 aq7 aq8 x3 ai4 J7 aw0) else (merge_Join.j1 k x2 (decide (ay9 > x2)) aq4 ci1 am5 aq5 ci2 ci3 ci4 ai4 ay8 bl7 ci5 aq6 ci6 ci7 aq7 aq8 ci8 ay9 bl8 bl9 aq4 aq6 am5 aq5 aq7 aq8 x3 ai4 J7 aw0))))) else (some (0,0,0,(⟨#[]⟩:ByteArray),(⟨#[]⟩:ByteArray),false,0,0,([]:List Int),([]:List (S42)),140))))
def merge_Join.j1:Nat→Int→Bool→Int→Int→Int→ByteArray→ByteArray→Bool→Int→Int→List Int→List (S42)→Int→Int→Int→ByteArray→ByteArray→Bool→Int→Int→List Int→List (S42)→Int→Int→Int→ByteArray→ByteArray→Bool→Int→Int→List Int→List (S42)→Option (Int×Int×Int×ByteArray×ByteArray×Bool×Int×Int×List Int×(List (S42))×Int)
 |0,_,_,_,_,_,_,_,_,_,_,_,_,_,_,_,_,_,_,_,_,_,_,_,_,_,_,_,_,_,_,_,_=>none
 |k+1,x2,x78,aq4,ci1,am5,aq5,ci2,ci3,ci4,ai4,ay8,bl7,ci5,aq6,ci6,ci7,aq7,aq8,ci8,ay9,bl8,bl9,hs6,hs7,ht0,ht1,ht2,ht3,ht4,kv1,kv2,ht5=>if x78=true then (some (0,0,0,(⟨#[]⟩:ByteArray),(⟨#[]⟩:ByteArray),false,0,0,([]:List Int),([]:List (S42)),9)) else ((merge_set_raised.f k ai4 ay8 x2).bind fun hj5=>((merge_set_raised.f k ay9 bl8 x2).bind fun hj6=>((lsns_Join.f k hj5.1 hj5.2 hj6.1 hj6.2).bind fun dy0=>(if dy0.2.2=0 then (some (hs6,hs7,ht0,ht1,ht2,ht3,ht4,dy0.1,dy0.2.1,ht5,0)) else (some (0,0,0,(⟨#[]⟩:ByteArray),(⟨#[]⟩:ByteArray),false,0,0,([]:List Int),([]:List (S42)),dy0.2.2))))))
end
def merge_Join.f (k:Nat) (a5:Int) (a7:Int) (a8:Int) (b7:ByteArray) (b6:ByteArray) (b9:Bool) (d0:Int) (b5:Int) (b0:List Int) (a6:List (S42)) (d3:Int) (d4:Int) (d7:Int) (d9:ByteArray) (e6:ByteArray) (e4:Bool) (f9:Int) (e7:Int) (d8:List Int) (d6:List (S42)) (a2:Int) (a3:Int):Option (Int×Int×Int×ByteArray×ByteArray×Bool×Int×Int×List Int×(List (S42))×Int):=(page_Check.f k a5 a7 a8 b7 b6 b9 d0 b5 b0 a6).bind fun ad1=>((page_Check.f k d3 d4 d7 d9 e6 e4 f9 e7 d8 d6).bind fun ad2=>((api_Errno.f k 0 (([ad1,ad2]:List Int))).bind fun cp4=>(if cp4=true then (if a3 > 281474976710656 then (merge_Join.j0 k a2 a3 true a5 a7 a8 b7 b6 b9 d0 b5 b0 a6 d3 d4 d7 d9 e6 e4 f9 e7 d8 d6) else (merge_Join.j0 k a2 a3 (decide (a2 > 281474976710656)) a5 a7 a8 b7 b6 b9 d0 b5 b0 a6 d3 d4 d7 d9 e6 e4 f9 e7 d8 d6)) else (merge_Join.j0 k a2 a3 true a5 a7 a8 b7 b6 b9 d0 b5 b0 a6 d3 d4 d7 d9 e6 e4 f9 e7 d8 d6))))
end Go.Proofs.YtmfaopjfdedheaaGreat.T
