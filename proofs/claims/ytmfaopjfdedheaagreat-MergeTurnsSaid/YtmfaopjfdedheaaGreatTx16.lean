-- PRINTED by print.py (a twelfth state) out of the translation. Not trusted: Lean checks it.
import Derived.Test.YtmfaopjfdedheaaGreatSq
import Derived.Test.YtmfaopjfdedheaaGreatSh
import Derived.Test.YtmfaopjfdedheaaGreatTx0
import Derived.Test.YtmfaopjfdedheaaGreatTx10
import Derived.Test.YtmfaopjfdedheaaGreatTx11
import Derived.Test.YtmfaopjfdedheaaGreatTx13
import Derived.Test.YtmfaopjfdedheaaGreatTx14
import Derived.Test.YtmfaopjfdedheaaGreatTx15
namespace Go.Proofs.YtmfaopjfdedheaaGreat.T
open Go.RowKit Go.Proofs.YtmfaopjfdedheaaGreatW Go.Proofs.YtmfaopjfdedheaaGreatW.PrintWords Go.Proofs.YtmfaopjfdedheaaGreatW.PrintLast Go.Proofs.YtmfaopjfdedheaaGreatW.PrintMore
attribute [local go_sem] GpMore.bytes_le max2_int min2_int max_two min_two max_three min_three max_four min_four   -- for this text's walks alone
set_option linter.unusedVariables false
set_option linter.unusedSimpArgs false

/-! ### q16_Join: function 11 -/
mutual
def q16_Join.j0:Nat→Int→Int→Bool→Int→Int→Int→ByteArray→ByteArray→Bool→Int→Int→List Int→List (S42)→Int→Int→Int→ByteArray→ByteArray→Bool→Int→Int→List Int→List (S42)→Option (Int×Int×Int×ByteArray×ByteArray×Bool×Int×Int×List Int×(List (S42))×Int)
 |0,_,_,_,_,_,_,_,_,_,_,_,_,_,_,_,_,_,_,_,_,_,_,_=>none
 |k+1,x2,x3,x32,bh7,bh8,ay0,bh9,bi0,bi1,bi2,ap8,ay1,bi3,cg5,ap9,cg6,cg7,aq0,aq1,cg8,ay2,bi4,ay3=>if x32=true then (some (0,0,0,(⟨#[]⟩:ByteArray),(⟨#[]⟩:ByteArray),false,0,0,([]:List Int),([]:List (S42)),110)) else ((q16_Beside.f k bh7 bh8 ay0 bh9 bi0 bi1 bi2 ap8 ay1 bi3 cg5 ap9 cg6 cg7 aq0 aq1 cg8 ay2 bi4 ay3).bind fun fu6=>(if fu6=true then ((q11_Copy.f bh7 bh8 ay0 bh9 bi0 bi1 bi2 ap8 ay1 bi3).bind fun ab2=>(if ab2.2.2.2.2.2.2.2.2.2.length+ay3.length < 4398046511104 then ((some (ab2.2.2.2.2.2.2.2.2.2++ay3:List (S42))).bind fun y352=>(if ay0 > 0 then (some (ab2.1,ap9,ab2.2.2.1,ab2.2.2.2.1,aq0,aq1,x3,ab2.2.2.2.2.2.2.2.1,ab2.2.2.2.2.2.2.2.2.1,y352,0)) else (if ap8 > x2 then (q16_Join.j1 k x2 true bh7 bh8 ay0 bh9 bi0 bi1 bi2 ap8 ay1 bi3 cg5 ap9 cg6 cg7 aq0 aq1 cg8 ay2 bi4 ay3 ab2.1 ap9 ab2.2.2.1 ab2.2.2.2.1 aq0 aq1 x3 ab2.2.2.2.2.2.2.2.1 ab2.2.2.2.2.2.2.2.2.1 y352) else (q16_Join.j1 k x2 (decide (ay2 > x2)) bh7 bh8 ay0 bh9 bi0 bi1 bi2 ap8 ay1 bi3 cg5 ap9 cg6 cg7 aq0 aq1 cg8 ay2 bi4 ay3 ab2.1 ap9 ab2.2.2.1 ab2.2.2.2.1 aq0 aq1 x3 ab2.2.2.2.2.2.2.2.1 ab2.2.2.2.2.2.2.2.2.1 y352)))) else (none))) else (some (0,0,0,(⟨#[]⟩:ByteArray),(⟨#[]⟩:ByteArray),false,0,0,([]:List Int),([]:List (S42)),140))))
def q16_Join.j1:Nat→Int→Bool→Int→Int→Int→ByteArray→ByteArray→Bool→Int→Int→List Int→List (S42)→Int→Int→Int→ByteArray→ByteArray→Bool→Int→Int→List Int→List (S42)→Int→Int→Int→ByteArray→ByteArray→Bool→Int→Int→List Int→List (S42)→Option (Int×Int×Int×ByteArray×ByteArray×Bool×Int×Int×List Int×(List (S42))×Int)
 |0,_,_,_,_,_,_,_,_,_,_,_,_,_,_,_,_,_,_,_,_,_,_,_,_,_,_,_,_,_,_,_,_=>none
 |k+1,x2,x73,bh7,bh8,ay0,bh9,bi0,bi1,bi2,ap8,ay1,bi3,cg5,ap9,cg6,cg7,aq0,aq1,cg8,ay2,bi4,ay3,hn9,ho7,ho8,ho9,hp0,hp2,hp4,ku2,ku3,hp5=>if x73=true then (some (0,0,0,(⟨#[]⟩:ByteArray),(⟨#[]⟩:ByteArray),false,0,0,([]:List Int),([]:List (S42)),9)) else ((q04_Raise.f k ap8 ay1 x2).bind fun gy7=>((q04_Raise.f k ay2 bi4 x2).bind fun gy8=>((q04_Join.f k gy7.1 gy7.2.1 gy8.1 gy8.2.1).bind fun dt2=>(if dt2.2.2=0 then (some (hn9,ho7,ho8,ho9,hp0,hp2,hp4,dt2.1,dt2.2.1,hp5,0)) else (some (0,0,0,(⟨#[]⟩:ByteArray),(⟨#[]⟩:ByteArray),false,0,0,([]:List Int),([]:List (S42)),dt2.2.2))))))
end
def q16_Join.f (k:Nat) (a5:Int) (a7:Int) (a8:Int) (b7:ByteArray) (b6:ByteArray) (b9:Bool) (d0:Int) (b5:Int) (b0:List Int) (a6:List (S42)) (d3:Int) (d4:Int) (d7:Int) (d9:ByteArray) (e6:ByteArray) (e4:Bool) (f9:Int) (e7:Int) (d8:List Int) (d6:List (S42)) (a2:Int) (a3:Int):Option (Int×Int×Int×ByteArray×ByteArray×Bool×Int×Int×List Int×(List (S42))×Int):=(q11_Check.f k a5 a7 a8 b7 b6 b9 d0 b5 b0 a6).bind fun aq2=>(if aq2=0 then ((q11_Check.f k d3 d4 d7 d9 e6 e4 f9 e7 d8 d6).bind fun au4=>(if au4=0 then (if a3 > 281474976710656 then (q16_Join.j0 k a2 a3 true a5 a7 a8 b7 b6 b9 d0 b5 b0 a6 d3 d4 d7 d9 e6 e4 f9 e7 d8 d6) else (q16_Join.j0 k a2 a3 (decide (a2 > 281474976710656)) a5 a7 a8 b7 b6 b9 d0 b5 b0 a6 d3 d4 d7 d9 e6 e4 f9 e7 d8 d6)) else (q16_Join.j0 k a2 a3 true a5 a7 a8 b7 b6 b9 d0 b5 b0 a6 d3 d4 d7 d9 e6 e4 f9 e7 d8 d6))) else (q16_Join.j0 k a2 a3 true a5 a7 a8 b7 b6 b9 d0 b5 b0 a6 d3 d4 d7 d9 e6 e4 f9 e7 d8 d6))
end Go.Proofs.YtmfaopjfdedheaaGreat.T
