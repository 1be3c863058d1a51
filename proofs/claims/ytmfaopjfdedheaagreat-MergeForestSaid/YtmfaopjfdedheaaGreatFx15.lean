-- PRINTED by print.py (a twelfth state) out of the translation. Not trusted: Lean checks it.
import Derived.Test.YtmfaopjfdedheaaGreatSv
import Derived.Test.YtmfaopjfdedheaaGreatSh
import Derived.Test.YtmfaopjfdedheaaGreatFx0
import Derived.Test.YtmfaopjfdedheaaGreatFx9
import Derived.Test.YtmfaopjfdedheaaGreatFx10
import Derived.Test.YtmfaopjfdedheaaGreatFx11
import Derived.Test.YtmfaopjfdedheaaGreatFx14
namespace Go.Proofs.YtmfaopjfdedheaaGreat.F
open Go.RowKit Go.Proofs.YtmfaopjfdedheaaGreatW Go.Proofs.YtmfaopjfdedheaaGreatW.PrintWords Go.Proofs.YtmfaopjfdedheaaGreatW.PrintLast Go.Proofs.YtmfaopjfdedheaaGreatW.PrintMore
attribute [local go_sem] GpMore.bytes_le max2_int min2_int max_two min_two max_three min_three max_four min_four   -- for this text's walks alone
set_option linter.unusedVariables false
set_option linter.unusedSimpArgs false

/-! ### lockkeeperref14_Check: function 25 -/
mutual
def lockkeeperref14_Check.l0:Nat→List (S28)→Int→Int→Int→Int→Int→ByteArray→ByteArray→Bool→Int→Int→List Int→List (S42)→Option (Int)
 |0,_,_,_,_,_,_,_,_,_,_,_,_,_=>none
 |k+1,x0,x1,x7,ag0,ag1,S2,ag2,ag3,ag4,ag5,ag6,ag7,ag8=>if x7 < (x0.length:Int) then (if 0≤x7 then ((lockkeeperref11_Check.f k ((rd_T28 x0 x7).f0) ((rd_T28 x0 x7).f1) ((rd_T28 x0 x7).f2) ((rd_T28 x0 x7).f3) ((rd_T28 x0 x7).f4) ((rd_T28 x0 x7).f5) ((rd_T28 x0 x7).f6) ((rd_T28 x0 x7).f7.f0) ((rd_T28 x0 x7).f7.f1) ((rd_T28 x0 x7).f8)).bind fun X7=>(if X7=0 then (if x7 > 0 then (if 0≤(wrap64 (x7 - 1)) then (if (wrap64 (x7 - 1)) < (x0.length:Int) then (if ((rd_T28 x0 (wrap64 (x7 - 1))).f0)≥((rd_T28 x0 x7).f0) then (some 140) else (if ((rd_T28 x0 x7).f2) > S2 then (some 140) else (if ((rd_T28 x0 x7).f2)=S2 then (if ((rd_T28 x0 x7).f0)=x1 then (lockkeeperref14_Check.l0 k x0 x1 (wrap64 (x7+1)) ag0 ag1 S2 ag2 ag3 ag4 ag5 ag6 ag7 ag8) else (some 140)) else (lockkeeperref14_Check.l0 k x0 x1 (wrap64 (x7+1)) ag0 ag1 S2 ag2 ag3 ag4 ag5 ag6 ag7 ag8)))) else (none)) else (none)) else (if ((rd_T28 x0 x7).f2) > S2 then (some 140) else (if ((rd_T28 x0 x7).f2)=S2 then (if ((rd_T28 x0 x7).f0)=x1 then (lockkeeperref14_Check.l0 k x0 x1 (wrap64 (x7+1)) ag0 ag1 S2 ag2 ag3 ag4 ag5 ag6 ag7 ag8) else (some 140)) else (lockkeeperref14_Check.l0 k x0 x1 (wrap64 (x7+1)) ag0 ag1 S2 ag2 ag3 ag4 ag5 ag6 ag7 ag8)))) else (some 140))) else (none)) else (lockkeeperref14_Check.l1 k x0 0 ag0 ag1 S2 ag2 ag3 ag4 ag5 ag6 ag7 ag8)
def lockkeeperref14_Check.l1:Nat→List (S28)→Int→Int→Int→Int→ByteArray→ByteArray→Bool→Int→Int→List Int→List (S42)→Option (Int)
 |0,_,_,_,_,_,_,_,_,_,_,_,_=>none
 |k+1,x0,x8,ag0,ag1,S2,ag2,ag3,ag4,ag5,ag6,ag7,ag8=>if x8≤(wrap64 (S2)) then ((lockkeeperref14_row.f k x0 ((x8) % 256)).bind fun ed8=>(if ed8.2=true then (lockkeeperref14_Check.l1 k x0 (wrap64 (x8+1)) ag0 ag1 S2 ag2 ag3 ag4 ag5 ag6 ag7 ag8) else (some 140))) else (lockkeeperref14_Check.l2 k x0 0)
def lockkeeperref14_Check.l2:Nat→List (S28)→Int→Option (Int)
 |0,_,_=>none
 |k+1,x0,S0=>if S0 < (x0.length:Int) then (lockkeeperref14_Check.l3 k x0 S0 0) else (some 0)
def lockkeeperref14_Check.l3:Nat→List (S28)→Int→Int→Option (Int)
 |0,_,_,_=>none
 |k+1,x0,S0,x12=>if 0≤S0 then (if S0 < (x0.length:Int) then (if x12 < (((rd_T28 x0 S0).f8).length:Int) then (lockkeeperref14_Check.j4 k x0 S0 x12 (decide (((rd_T28 x0 S0).f2) > 0))) else (lockkeeperref14_Check.j4 k x0 S0 x12 false)) else (none)) else (none)
def lockkeeperref14_Check.j4:Nat→List (S28)→Int→Int→Bool→Option (Int)
 |0,_,_,_,_=>none
 |k+1,x0,S0,x12,es2=>if es2=true then (if 0≤S0 then (if S0 < (x0.length:Int) then (if 0≤x12 then (if x12 < (((rd_T28 x0 S0).f8).length:Int) then ((lockkeeperref11_Id.f k ((rd_T42 ((rd_T28 x0 S0).f8) x12).f1)).bind fun ed9=>((lockkeeperref14_At.f k x0 ed9.1).bind fun cl6=>(if cl6.2.2.2.2.2.2.2.2.2.2=true then (if cl6.2.2.1=((((rd_T28 x0 S0).f2) - 1) % 256) then (if cl6.2.2.2.1.toList=((rd_T42 ((rd_T28 x0 S0).f8) x12).f0).toList then (lockkeeperref14_Check.l3 k x0 S0 (wrap64 (x12+1))) else (some 140)) else (some 140)) else (some 140)))) else (none)) else (none)) else (none)) else (none)) else (lockkeeperref14_Check.l2 k x0 (wrap64 (S0+1)))
end
def lockkeeperref14_Check.f (k:Nat) (l0:List (S28)) (a1:Int):Option (Int):=(lockkeeperref14_At.f k l0 a1).bind fun M3=>(if M3.2.2.2.2.2.2.2.2.2.2=true then (lockkeeperref14_Check.l0 k l0 a1 0 M3.1 M3.2.1 M3.2.2.1 M3.2.2.2.1 M3.2.2.2.2.1 M3.2.2.2.2.2.1 M3.2.2.2.2.2.2.1 M3.2.2.2.2.2.2.2.1 M3.2.2.2.2.2.2.2.2.1 M3.2.2.2.2.2.2.2.2.2.1) else (some 140))
end Go.Proofs.YtmfaopjfdedheaaGreat.F
