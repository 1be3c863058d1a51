-- PRINTED by print.py (a twelfth state) out of the translation. Not trusted: Lean checks it.
import Derived.Test.YtmfaopjfdedheaaGreatSq
import Derived.Test.YtmfaopjfdedheaaGreatSh
import Derived.Test.YtmfaopjfdedheaaGreatSx0
import Derived.Test.YtmfaopjfdedheaaGreatSx3
import Derived.Test.YtmfaopjfdedheaaGreatSx5
import Derived.Test.YtmfaopjfdedheaaGreatSx6
namespace Go.Proofs.YtmfaopjfdedheaaGreat.S
open Go.RowKit Go.Proofs.YtmfaopjfdedheaaGreatW Go.Proofs.YtmfaopjfdedheaaGreatW.PrintWords Go.Proofs.YtmfaopjfdedheaaGreatW.PrintLast Go.Proofs.YtmfaopjfdedheaaGreatW.PrintMore
attribute [local go_sem] GpMore.bytes_le max2_int min2_int max_two min_two max_three min_three max_four min_four   -- for this text's walks alone
set_option linter.unusedVariables false
set_option linter.unusedSimpArgs false

/-! ### merge_Join: function 10 -/
theorem blk_new_at {w:World} {o:Obj} {b:Nat} (h:b=w.heap.size):(w.alloc o).heap[b]? =some o:=h ▸ blk_new w o
/-- A call of a function value that is bound to its first arguments, in a plain region. -/
theorem goesF_ {P:Program} {ops:Array Oper} {Q:Exit→Act→World→Prop} {rest:List Oper} {oi:Oper} {a:Act} {w:World} (N:Option Tmp) (hd:oi.dst=N) (hg:oi.guard=none) {f:FuncId} {fn:Func} {as_:Array Operand} {ts:Array TypeId} {j:Tmp} {first:Array Value} (hf:P.funcs[f]? =some fn) (hname:(fn.name== "runtime.NumGoroutine")=false) (hb:fn.body.isSome=true) (args:Array Value)
  (hop:oi.op=.call { callee:=.value (.tmp j),args:=as_,argTypes:=ts }) (hv:a.eval (.tmp j)=.func (.func f) first #[]) (hargs:first++as_.map a.eval=args)
  (h:Calls P f args w fun e w'=>∃ v,e=.returned v∧wpList P ops Q rest (a.put N v) w'):wpList P ops Q (oi::rest) a w:=by
 refine wpList_plain hg fun K hK=>?_
 have he:=enters_ hf hname hb args w
 have hrun:(execOp a.eval oi).run P w=.ok (.enter f args) w:=by
  unfold execOp
  simp [hop,resolve,Deferred.ofValue,invoke,hv,hargs,he]
 unfold Oper.wp
 rw [hrun,Oper.upon_enter]
 refine h.mono fun e w'' hh=>?_
 obtain ⟨v,rfl,hk⟩:=hh
 subst hd
 exact hK _ _ hk
mutual
def merge_Join.j0:Nat→Int→Int→Bool→Int→Int→Int→ByteArray→ByteArray→Bool→Int→Int→List Int→List (S42)→Int→Int→Int→ByteArray→ByteArray→Bool→Int→Int→List Int→List (S42)→Option (Int×Int×Int×ByteArray×ByteArray×Bool×Int×Int×List Int×(List (S42))×Int)
 |0,_,_,_,_,_,_,_,_,_,_,_,_,_,_,_,_,_,_,_,_,_,_,_=>none
 |k+1,x2,x3,x15,ah3,bk9,ad6,ah4,bl0,bl1,bl2,X4,al6,as8,bl3,ah5,bl4,bl5,ah6,ah7,bl6,al7,as9,at0=>if x15=true then (some (0,0,0,(⟨#[]⟩:ByteArray),(⟨#[]⟩:ByteArray),false,0,0,([]:List Int),([]:List (S42)),110)) else ((merge_Beside.f k ah3 bk9 ad6 ah4 bl0 bl1 bl2 X4 al6 as8 bl3 ah5 bl4 bl5 ah6 ah7 bl6 al7 as9 at0).bind fun dw7=>(if dw7=true then ((slices_Clone_uint64_uint64.f al6).bind fun G7=>((api_Cell.f k as8 at0).bind fun aj6=>(if ad6 > 0 then (some (ah3,ah5,ad6,ah4,ah6,ah7,x3,X4,G7,aj6,0)) else (if X4 > x2 then (merge_Join.j1 k x2 true ah3 bk9 ad6 ah4 bl0 bl1 bl2 X4 al6 as8 bl3 ah5 bl4 bl5 ah6 ah7 bl6 al7 as9 at0 ah3 ah5 ad6 ah4 ah6 ah7 x3 X4 G7 aj6) else (merge_Join.j1 k x2 (decide (al7 > x2)) ah3 bk9 ad6 ah4 bl0 bl1 bl2 X4 al6 as8 bl3 ah5 bl4 bl5 ah6 ah7 bl6 al7 as9 at0 ah3 ah5 ad6 ah4 ah6 ah7 x3 X4 G7 aj6))))) else (some (0,0,0,(⟨#[]⟩:ByteArray),(⟨#[]⟩:ByteArray),false,0,0,([]:List Int),([]:List (S42)),140))))
def merge_Join.j1:Nat→Int→Bool→Int→Int→Int→ByteArray→ByteArray→Bool→Int→Int→List Int→List (S42)→Int→Int→Int→ByteArray→ByteArray→Bool→Int→Int→List Int→List (S42)→Int→Int→Int→ByteArray→ByteArray→Bool→Int→Int→List Int→List (S42)→Option (Int×Int×Int×ByteArray×ByteArray×Bool×Int×Int×List Int×(List (S42))×Int)
 |0,_,_,_,_,_,_,_,_,_,_,_,_,_,_,_,_,_,_,_,_,_,_,_,_,_,_,_,_,_,_,_,_=>none
 |k+1,x2,x78,ah3,bk9,ad6,ah4,bl0,bl1,bl2,X4,al6,as8,bl3,ah5,bl4,bl5,ah6,ah7,bl6,al7,as9,at0,fk6,fk7,fk8,fk9,fl0,fl1,fl2,hz4,hz5,fl3=>if x78=true then (some (0,0,0,(⟨#[]⟩:ByteArray),(⟨#[]⟩:ByteArray),false,0,0,([]:List Int),([]:List (S42)),9)) else ((merge_set_raised.f k X4 al6 x2).bind fun fe8=>((merge_set_raised.f k al7 as9 x2).bind fun fe9=>((lsns_Join.f k fe8.1 fe8.2 fe9.1 fe9.2).bind fun cs7=>(if cs7.2.2=0 then (some (fk6,fk7,fk8,fk9,fl0,fl1,fl2,cs7.1,cs7.2.1,fl3,0)) else (some (0,0,0,(⟨#[]⟩:ByteArray),(⟨#[]⟩:ByteArray),false,0,0,([]:List Int),([]:List (S42)),cs7.2.2))))))
end
def merge_Join.f (k:Nat) (a5:Int) (a7:Int) (a8:Int) (b7:ByteArray) (b8:ByteArray) (b9:Bool) (d0:Int) (b6:Int) (b0:List Int) (a6:List (S42)) (i5:Int) (i9:Int) (j3:Int) (k0:ByteArray) (m2:ByteArray) (m3:Bool) (m5:Int) (m0:Int) (j8:List Int) (j9:List (S42)) (a2:Int) (a3:Int):Option (Int×Int×Int×ByteArray×ByteArray×Bool×Int×Int×List Int×(List (S42))×Int):=(page_Check.f k a5 a7 a8 b7 b8 b9 d0 b6 b0 a6).bind fun S1=>((page_Check.f k i5 i9 j3 k0 m2 m3 m5 m0 j8 j9).bind fun S2=>((api_Errno.f k 0 (([S1,S2]:List Int))).bind fun br1=>(if br1=true then (if a3 > 281474976710656 then (merge_Join.j0 k a2 a3 true a5 a7 a8 b7 b8 b9 d0 b6 b0 a6 i5 i9 j3 k0 m2 m3 m5 m0 j8 j9) else (merge_Join.j0 k a2 a3 (decide (a2 > 281474976710656)) a5 a7 a8 b7 b8 b9 d0 b6 b0 a6 i5 i9 j3 k0 m2 m3 m5 m0 j8 j9)) else (merge_Join.j0 k a2 a3 true a5 a7 a8 b7 b8 b9 d0 b6 b0 a6 i5 i9 j3 k0 m2 m3 m5 m0 j8 j9))))
end Go.Proofs.YtmfaopjfdedheaaGreat.S
