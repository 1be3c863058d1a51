-- PRINTED by print.py (a twelfth state) out of the translation. Not trusted: Lean checks it.
import Derived.Test.YtmfaopjfdedheaaGreatSv
import Derived.Test.YtmfaopjfdedheaaGreatSh
import Derived.Test.YtmfaopjfdedheaaGreatFx0
import Derived.Test.YtmfaopjfdedheaaGreatFx9
import Derived.Test.YtmfaopjfdedheaaGreatFx10
namespace Go.Proofs.YtmfaopjfdedheaaGreat.F
open Go.RowKit Go.Proofs.YtmfaopjfdedheaaGreatW Go.Proofs.YtmfaopjfdedheaaGreatW.PrintWords Go.Proofs.YtmfaopjfdedheaaGreatW.PrintLast Go.Proofs.YtmfaopjfdedheaaGreatW.PrintMore
attribute [local go_sem] GpMore.bytes_le max2_int min2_int max_two min_two max_three min_three max_four min_four   -- for this text's walks alone
set_option linter.unusedVariables false
set_option linter.unusedSimpArgs false

/-! ### lockkeeperref11_Check: function 42 -/
mutual
def lockkeeperref11_Check.j0:Nat→Bool→Int→Int→Int→ByteArray→ByteArray→Bool→Int→Int→List Int→List (S42)→Option (Int)
 |0,_,_,_,_,_,_,_,_,_,_,_=>none
 |k+1,x36,L2,K0,H2,K8,L3,K9,L4,H8,H9,p8=>if x36=true then (some 110) else ((lockkeeperref11_Range.f L2 K0 H2 K8 L3 K9 L4 H8 H9 p8).bind fun cj2=>((lockkeeperref03_Right.f k cj2.1 cj2.2.1 cj2.2.2).bind fun dp4=>(if dp4=true then (lockkeeperref11_Check.j1 k (K9 != (decide (K0 > 0))) L2 K0 H2 K8 L3 K9 L4 H8 H9 p8) else (lockkeeperref11_Check.j1 k true L2 K0 H2 K8 L3 K9 L4 H8 H9 p8))))
def lockkeeperref11_Check.j1:Nat→Bool→Int→Int→Int→ByteArray→ByteArray→Bool→Int→Int→List Int→List (S42)→Option (Int)
 |0,_,_,_,_,_,_,_,_,_,_,_=>none
 |k+1,x48,L2,K0,H2,K8,L3,K9,L4,H8,H9,p8=>if x48=true then (some 110) else ((lockkeeperref04_Right.f k H8 H9).bind fun dp5=>(if dp5=true then ((lockkeeperref04_Most.f k H8 H9).bind fun cj3=>(if cj3 > 281474976710656 then (lockkeeperref11_Check.j2 k true L2 K0 H2 K8 L3 K9 L4 H8 H9 p8) else ((lockkeeperref10_Right.f k p8).bind fun cj4=>(lockkeeperref11_Check.j2 k (!cj4) L2 K0 H2 K8 L3 K9 L4 H8 H9 p8)))) else (lockkeeperref11_Check.j2 k true L2 K0 H2 K8 L3 K9 L4 H8 H9 p8)))
def lockkeeperref11_Check.j2:Nat→Bool→Int→Int→Int→ByteArray→ByteArray→Bool→Int→Int→List Int→List (S42)→Option (Int)
 |0,_,_,_,_,_,_,_,_,_,_,_=>none
 |k+1,x64,L2,K0,H2,K8,L3,K9,L4,H8,H9,p8=>if x64=true then (some 110) else (lockkeeperref11_Check.l0 k 0 L2 K0 H2 K8 L3 K9 L4 H8 H9 p8)
def lockkeeperref11_Check.l0:Nat→Int→Int→Int→Int→ByteArray→ByteArray→Bool→Int→Int→List Int→List (S42)→Option (Int)
 |0,_,_,_,_,_,_,_,_,_,_,_=>none
 |k+1,x3,L2,K0,H2,K8,L3,K9,L4,H8,H9,p8=>if x3 < (p8.length:Int) then (if 0≤x3 then ((lockkeeperref11_Range.f L2 K0 H2 K8 L3 K9 L4 H8 H9 p8).bind fun cj5=>((lockkeeperref03_Has.f k cj5.1 cj5.2.1 cj5.2.2 ((rd_T42 p8 x3).f0)).bind fun dp6=>(if dp6=true then (if H2=0 then (lockkeeperref11_Check.j4 k x3 (decide ((((rd_T42 p8 x3).f0).size:Int) > 512)) L2 K0 H2 K8 L3 K9 L4 H8 H9 p8 ((rd_T42 p8 x3).f0) ((rd_T42 p8 x3).f1)) else (lockkeeperref11_Check.j4 k x3 false L2 K0 H2 K8 L3 K9 L4 H8 H9 p8 ((rd_T42 p8 x3).f0) ((rd_T42 p8 x3).f1))) else (lockkeeperref11_Check.j4 k x3 true L2 K0 H2 K8 L3 K9 L4 H8 H9 p8 ((rd_T42 p8 x3).f0) ((rd_T42 p8 x3).f1))))) else (none)) else (if H2 > 0 then (if H8 > 0 then (some 110) else (if (H9.length:Int) > 0 then (some 110) else (if (p8.length:Int)=0 then (some 110) else (if 0 < (p8.length:Int) then (if ((rd_T42 p8 0).f0).toList=K8.toList then (some 0) else (some 110)) else (none))))) else (some 0))
def lockkeeperref11_Check.j4:Nat→Int→Bool→Int→Int→Int→ByteArray→ByteArray→Bool→Int→Int→List Int→List (S42)→ByteArray→ByteArray→Option (Int)
 |0,_,_,_,_,_,_,_,_,_,_,_,_,_,_=>none
 |k+1,x3,x93,L2,K0,H2,K8,L3,K9,L4,H8,H9,p8,ex1,de4=>if x93=true then (some 110) else ((lockkeeperref11_Id.f k de4).bind fun ea9=>(if H2 > 0 then (if ea9.2=0 then (lockkeeperref11_Check.l0 k (wrap64 (x3+1)) L2 K0 H2 K8 L3 K9 L4 H8 H9 p8) else (some 110)) else (lockkeeperref11_Check.l0 k (wrap64 (x3+1)) L2 K0 H2 K8 L3 K9 L4 H8 H9 p8)))
end
def lockkeeperref11_Check.f (k:Nat) (a6:Int) (b0:Int) (b5:Int) (b9:ByteArray) (d1:ByteArray) (d2:Bool) (d3:Int) (d0:Int) (b7:List Int) (a8:List (S42)):Option (Int):=if a6 < 1 then (lockkeeperref11_Check.j0 k true a6 b0 b5 b9 d1 d2 d3 d0 b7 a8) else (if a6 > 400 then (lockkeeperref11_Check.j0 k true a6 b0 b5 b9 d1 d2 d3 d0 b7 a8) else (if b0 > 400 then (lockkeeperref11_Check.j0 k true a6 b0 b5 b9 d1 d2 d3 d0 b7 a8) else (if b0=a6 then (lockkeeperref11_Check.j0 k true a6 b0 b5 b9 d1 d2 d3 d0 b7 a8) else (if b5 > 10 then (lockkeeperref11_Check.j0 k true a6 b0 b5 b9 d1 d2 d3 d0 b7 a8) else (lockkeeperref11_Check.j0 k (decide (d3 > 281474976710656)) a6 b0 b5 b9 d1 d2 d3 d0 b7 a8)))))
end Go.Proofs.YtmfaopjfdedheaaGreat.F
