-- PRINTED by print.py (a twelfth state) out of the translation. Not trusted: Lean checks it.
import Derived.Test.YtoggblomknemoaaSh
import Derived.Test.YtoggblomknemoaaRx0
import Derived.Test.YtoggblomknemoaaRx2
import Derived.Test.YtoggblomknemoaaRx4
import Derived.Test.YtoggblomknemoaaRx5
import Derived.Test.YtoggblomknemoaaRx6
import Derived.Test.YtoggblomknemoaaRx7
import Derived.Test.YtoggblomknemoaaRx8
import Derived.Test.YtoggblomknemoaaRx9
import Derived.Test.YtoggblomknemoaaRx12
namespace Go.Proofs.Ytoggblomknemoaa.R
open Go.RowKit Go.Proofs.YtoggblomknemoaaW Go.Proofs.YtoggblomknemoaaW.PrintWords Go.Proofs.YtoggblomknemoaaW.PrintLast Go.Proofs.YtoggblomknemoaaW.PrintMore
attribute [local go_sem] GpMore.bytes_le max2_int min2_int max_two min_two max_three min_three max_four min_four   -- for this text's walks alone
set_option linter.unusedVariables false
set_option linter.unusedSimpArgs false

/-! ### lockkeeperlaw30_ModelRuns: function 6 -/
mutual
def lockkeeperlaw30_ModelRuns.j0:Nat→List (S42)→List (S42)→List (S54)→Bool→Option (Bool)
 |0,_,_,_,_=>none
 |k+1,x0,x1,x2,x32=>if x32=true then ((lockkeeperlaw30_head.f k).bind fun eb7=>(some eb7)) else (lockkeeperlaw30_ModelRuns.l0 k x0 x1 x2 0)
def lockkeeperlaw30_ModelRuns.l0:Nat→List (S42)→List (S42)→List (S54)→Int→Option (Bool)
 |0,_,_,_,_=>none
 |k+1,x0,x1,x2,x7=>if x7 < (x2.length:Int) then (if 0≤x7 then ((lockkeeperlaw30_many.f k ((rd_T54 x2 x7).f1)).bind fun eb8=>(if eb8=true then (lockkeeperlaw30_ModelRuns.j2 k x0 x1 x2 x7 true) else (lockkeeperlaw30_ModelRuns.j2 k x0 x1 x2 x7 (decide ((((rd_T54 x2 x7).f2).length:Int) > 20))))) else (none)) else ((model_Diff.f k x0 x1).bind fun N8=>((lockkeeperref30_Diff.f k x0 x1).bind fun Q1=>(if (N8.length:Int)=(Q1.length:Int) then (lockkeeperlaw30_ModelRuns.l2 k x0 x2 N8 Q1 0) else (none))))
def lockkeeperlaw30_ModelRuns.j2:Nat→List (S42)→List (S42)→List (S54)→Int→Bool→Option (Bool)
 |0,_,_,_,_,_=>none
 |k+1,x0,x1,x2,x7,x54=>if x54=true then ((lockkeeperlaw30_head.f k).bind fun eb9=>(some eb9)) else (lockkeeperlaw30_ModelRuns.l1 k x0 x1 x2 x7 0)
def lockkeeperlaw30_ModelRuns.l1:Nat→List (S42)→List (S42)→List (S54)→Int→Int→Option (Bool)
 |0,_,_,_,_,_=>none
 |k+1,x0,x1,x2,x7,x8=>if 0≤x7 then (if x7 < (x2.length:Int) then (if x8 < (((rd_T54 x2 x7).f2).length:Int) then (if 0≤x8 then ((lockkeeperlaw30_great.f k ((rd_T33 ((rd_T54 x2 x7).f2) x8).f6)).bind fun ec0=>(if ec0=true then ((lockkeeperlaw30_head.f k).bind fun ec1=>(some ec1)) else (if (((rd_T33 ((rd_T54 x2 x7).f2) x8).f5).size:Int) > 5000 then ((lockkeeperlaw30_head.f k).bind fun ec2=>(some ec2)) else (lockkeeperlaw30_ModelRuns.l1 k x0 x1 x2 x7 (wrap64 (x8+1)))))) else (none)) else (lockkeeperlaw30_ModelRuns.l0 k x0 x1 x2 (wrap64 (x7+1)))) else (none)) else (none)
def lockkeeperlaw30_ModelRuns.l2:Nat→List (S42)→List (S54)→List ByteArray→List ByteArray→Int→Option (Bool)
 |0,_,_,_,_,_=>none
 |k+1,x0,x2,x9,x10,L7=>if L7 < (x9.length:Int) then (if 0≤L7 then (if L7 < (x10.length:Int) then (if (rdOf ByteArray.empty x9 L7).toList=(rdOf ByteArray.empty x10 L7).toList then (lockkeeperlaw30_ModelRuns.l2 k x0 x2 x9 x10 (wrap64 (L7+1))) else (none)) else (none)) else (none)) else ((model_Serial.f k x0 x2).bind fun ek0=>((lockkeeperref30_Serial.f k x0 x2).bind fun ek1=>(if ek0.2=ek1.2 then ((lockkeeperref10_Same.f k ek0.1 ek1.1).bind fun ec3=>(if ec3=true then (lockkeeperlaw30_ModelRuns.l3 k x0 x2 0) else (none))) else (none))))
def lockkeeperlaw30_ModelRuns.l3:Nat→List (S42)→List (S54)→Int→Option (Bool)
 |0,_,_,_=>none
 |k+1,x0,x2,u9=>if u9 < (x2.length:Int) then (if 0≤u9 then ((model_Run.f k x0 ((rd_T54 x2 u9).f1)).bind fun df4=>((lockkeeperref30_Run.f k x0 ((rd_T54 x2 u9).f1)).bind fun df5=>((lockkeeperref10_Same.f k df4.1 df5.1).bind fun ec4=>(if ec4=true then (if (df4.2.length:Int)=(df5.2.length:Int) then (lockkeeperlaw30_ModelRuns.l4 k x0 x2 u9 df4.2 df5.2 0) else (none)) else (none))))) else (none)) else ((lockkeeperlaw30_head.f k).bind fun ec5=>(some ec5))
def lockkeeperlaw30_ModelRuns.l4:Nat→List (S42)→List (S54)→Int→List (S33)→List (S33)→Int→Option (Bool)
 |0,_,_,_,_,_,_=>none
 |k+1,x0,x2,u9,G3,x20,t5=>if t5 < (G3.length:Int) then (if 0≤t5 then (if t5 < (x20.length:Int) then ((lockkeeperref30_Same.f k ((rd_T33 G3 t5).f0) ((rd_T33 G3 t5).f1) ((rd_T33 G3 t5).f2) ((rd_T33 G3 t5).f3) ((rd_T33 G3 t5).f4) ((rd_T33 G3 t5).f5) ((rd_T33 G3 t5).f6) ((rd_T33 x20 t5).f0) ((rd_T33 x20 t5).f1) ((rd_T33 x20 t5).f2) ((rd_T33 x20 t5).f3) ((rd_T33 x20 t5).f4) ((rd_T33 x20 t5).f5) ((rd_T33 x20 t5).f6)).bind fun ec6=>(if ec6=true then (if 0≤u9 then (if u9 < (x2.length:Int) then (if t5 < (((rd_T54 x2 u9).f2).length:Int) then ((model_Same.f k ((rd_T33 G3 t5).f0) ((rd_T33 G3 t5).f1) ((rd_T33 G3 t5).f2) ((rd_T33 G3 t5).f3) ((rd_T33 G3 t5).f4) ((rd_T33 G3 t5).f5) ((rd_T33 G3 t5).f6) ((rd_T33 ((rd_T54 x2 u9).f2) t5).f0) ((rd_T33 ((rd_T54 x2 u9).f2) t5).f1) ((rd_T33 ((rd_T54 x2 u9).f2) t5).f2) ((rd_T33 ((rd_T54 x2 u9).f2) t5).f3) ((rd_T33 ((rd_T54 x2 u9).f2) t5).f4) ((rd_T33 ((rd_T54 x2 u9).f2) t5).f5) ((rd_T33 ((rd_T54 x2 u9).f2) t5).f6)).bind fun bg0=>((lockkeeperref30_Same.f k ((rd_T33 G3 t5).f0) ((rd_T33 G3 t5).f1) ((rd_T33 G3 t5).f2) ((rd_T33 G3 t5).f3) ((rd_T33 G3 t5).f4) ((rd_T33 G3 t5).f5) ((rd_T33 G3 t5).f6) ((rd_T33 ((rd_T54 x2 u9).f2) t5).f0) ((rd_T33 ((rd_T54 x2 u9).f2) t5).f1) ((rd_T33 ((rd_T54 x2 u9).f2) t5).f2) ((rd_T33 ((rd_T54 x2 u9).f2) t5).f3) ((rd_T33 ((rd_T54 x2 u9).f2) t5).f4) ((rd_T33 ((rd_T54 x2 u9).f2) t5).f5) ((rd_T33 ((rd_T54 x2 u9).f2) t5).f6)).bind fun bg1=>(if (bg0 != bg1)=true then (none) else (lockkeeperlaw30_ModelRuns.l4 k x0 x2 u9 G3 x20 (wrap64 (t5+1)))))) else (lockkeeperlaw30_ModelRuns.l4 k x0 x2 u9 G3 x20 (wrap64 (t5+1)))) else (none)) else (none)) else (none))) else (none)) else (none)) else (lockkeeperlaw30_ModelRuns.l3 k x0 x2 (wrap64 (u9+1)))
end
def lockkeeperlaw30_ModelRuns.f (k:Nat) (l0:List (S42)) (l1:List (S42)) (l2:List (S54)):Option (Bool):=(lockkeeperlaw30_great.f k l0).bind fun ck8=>(if ck8=true then (lockkeeperlaw30_ModelRuns.j0 k l0 l1 l2 true) else ((lockkeeperlaw30_great.f k l1).bind fun ck9=>(if ck9=true then (lockkeeperlaw30_ModelRuns.j0 k l0 l1 l2 true) else (lockkeeperlaw30_ModelRuns.j0 k l0 l1 l2 (decide ((l2.length:Int) > 10))))))
theorem lockkeeperlaw30_ModelRuns.mono_l:∀ k,(∀ y0 y1 y2 y3,LeO (lockkeeperlaw30_ModelRuns.j0 k y0 y1 y2 y3) (lockkeeperlaw30_ModelRuns.j0 (k+1) y0 y1 y2 y3))∧(∀ y0 y1 y2 y3,LeO (lockkeeperlaw30_ModelRuns.l0 k y0 y1 y2 y3) (lockkeeperlaw30_ModelRuns.l0 (k+1) y0 y1 y2 y3))∧(∀ y0 y1 y2 y3 y4,LeO (lockkeeperlaw30_ModelRuns.j2 k y0 y1 y2 y3 y4) (lockkeeperlaw30_ModelRuns.j2 (k+1) y0 y1 y2 y3 y4))∧(∀ y0 y1 y2 y3 y4,LeO (lockkeeperlaw30_ModelRuns.l1 k y0 y1 y2 y3 y4) (lockkeeperlaw30_ModelRuns.l1 (k+1) y0 y1 y2 y3 y4))∧(∀ y0 y1 y2 y3 y4,LeO (lockkeeperlaw30_ModelRuns.l2 k y0 y1 y2 y3 y4) (lockkeeperlaw30_ModelRuns.l2 (k+1) y0 y1 y2 y3 y4))∧(∀ y0 y1 y2,LeO (lockkeeperlaw30_ModelRuns.l3 k y0 y1 y2) (lockkeeperlaw30_ModelRuns.l3 (k+1) y0 y1 y2))∧(∀ y0 y1 y2 y3 y4 y5,LeO (lockkeeperlaw30_ModelRuns.l4 k y0 y1 y2 y3 y4 y5) (lockkeeperlaw30_ModelRuns.l4 (k+1) y0 y1 y2 y3 y4 y5))
 |0=>⟨fun _ _ _ _ r h=>by simp [lockkeeperlaw30_ModelRuns.j0] at h,fun _ _ _ _ r h=>by simp [lockkeeperlaw30_ModelRuns.l0] at h,fun _ _ _ _ _ r h=>by simp [lockkeeperlaw30_ModelRuns.j2] at h,fun _ _ _ _ _ r h=>by simp [lockkeeperlaw30_ModelRuns.l1] at h,fun _ _ _ _ _ r h=>by simp [lockkeeperlaw30_ModelRuns.l2] at h,fun _ _ _ r h=>by simp [lockkeeperlaw30_ModelRuns.l3] at h,fun _ _ _ _ _ _ r h=>by simp [lockkeeperlaw30_ModelRuns.l4] at h⟩
 |k+1=>by
  obtain ⟨ih0,ih1,ih2,ih3,ih4,ih5,ih6⟩:=lockkeeperlaw30_ModelRuns.mono_l k
  refine ⟨?_,?_,?_,?_,?_,?_,?_⟩
  all_goals (intros;first|unfold lockkeeperlaw30_ModelRuns.j0|unfold lockkeeperlaw30_ModelRuns.l0|unfold lockkeeperlaw30_ModelRuns.j2|unfold lockkeeperlaw30_ModelRuns.l1|unfold lockkeeperlaw30_ModelRuns.l2|unfold lockkeeperlaw30_ModelRuns.l3|unfold lockkeeperlaw30_ModelRuns.l4)
  all_goals repeat' first
   |(with_reducible exact ih0 _ _ _ _)
   |(with_reducible exact ih1 _ _ _ _)
   |(with_reducible exact ih2 _ _ _ _ _)
   |(with_reducible exact ih3 _ _ _ _ _)
   |(with_reducible exact ih4 _ _ _ _ _)
   |(with_reducible exact ih5 _ _ _)
   |(with_reducible exact ih6 _ _ _ _ _ _)
   |(with_reducible exact lockkeeperlaw30_great.mono _ _)
   |(with_reducible exact lockkeeperlaw30_head.mono _)
   |(with_reducible exact lockkeeperlaw30_many.mono _ _)
   |(with_reducible exact lockkeeperref10_Same.mono _ _ _)
   |(with_reducible exact lockkeeperref30_Diff.mono _ _ _)
   |(with_reducible exact lockkeeperref30_Run.mono _ _ _)
   |(with_reducible exact lockkeeperref30_Same.mono _ _ _ _ _ _ _ _ _ _ _ _ _ _ _)
   |(with_reducible exact lockkeeperref30_Serial.mono _ _ _)
   |(with_reducible exact model_Diff.mono _ _ _)
   |(with_reducible exact model_Run.mono _ _ _)
   |(with_reducible exact model_Same.mono _ _ _ _ _ _ _ _ _ _ _ _ _ _ _)
   |(with_reducible exact model_Serial.mono _ _ _)
   |(with_reducible exact LeO.refl _)
   |(with_reducible exact LeO.none _)
   |(with_reducible refine LeO.ite ?_ ?_)
   |(with_reducible refine LeO.bind ?_ (fun _=>?_))
   |exact ih0 _ _ _ _
   |exact ih1 _ _ _ _
   |exact ih2 _ _ _ _ _
   |exact ih3 _ _ _ _ _
   |exact ih4 _ _ _ _ _
   |exact ih5 _ _ _
   |exact ih6 _ _ _ _ _ _
   |exact lockkeeperlaw30_great.mono _ _
   |exact lockkeeperlaw30_head.mono _
   |exact lockkeeperlaw30_many.mono _ _
   |exact lockkeeperref10_Same.mono _ _ _
   |exact lockkeeperref30_Diff.mono _ _ _
   |exact lockkeeperref30_Run.mono _ _ _
   |exact lockkeeperref30_Same.mono _ _ _ _ _ _ _ _ _ _ _ _ _ _ _
   |exact lockkeeperref30_Serial.mono _ _ _
   |exact model_Diff.mono _ _ _
   |exact model_Run.mono _ _ _
   |exact model_Same.mono _ _ _ _ _ _ _ _ _ _ _ _ _ _ _
   |exact model_Serial.mono _ _ _
   |exact LeO.none _
   |refine LeO.ite ?_ ?_
   |refine LeO.bind ?_ (fun _=>?_)
theorem lockkeeperlaw30_ModelRuns.mono:∀ a0 a1 a2 k,LeO (lockkeeperlaw30_ModelRuns.f k a0 a1 a2) (lockkeeperlaw30_ModelRuns.f (k+1) a0 a1 a2):=by
 intro a0 a1 a2 k
 obtain ⟨ih0,ih1,ih2,ih3,ih4,ih5,ih6⟩:=lockkeeperlaw30_ModelRuns.mono_l k
 unfold lockkeeperlaw30_ModelRuns.f
 repeat' first
   |(with_reducible exact ih0 _ _ _ _)
   |(with_reducible exact ih1 _ _ _ _)
   |(with_reducible exact ih2 _ _ _ _ _)
   |(with_reducible exact ih3 _ _ _ _ _)
   |(with_reducible exact ih4 _ _ _ _ _)
   |(with_reducible exact ih5 _ _ _)
   |(with_reducible exact ih6 _ _ _ _ _ _)
   |(with_reducible exact lockkeeperlaw30_great.mono _ _)
   |(with_reducible exact lockkeeperlaw30_head.mono _)
   |(with_reducible exact lockkeeperlaw30_many.mono _ _)
   |(with_reducible exact lockkeeperref10_Same.mono _ _ _)
   |(with_reducible exact lockkeeperref30_Diff.mono _ _ _)
   |(with_reducible exact lockkeeperref30_Run.mono _ _ _)
   |(with_reducible exact lockkeeperref30_Same.mono _ _ _ _ _ _ _ _ _ _ _ _ _ _ _)
   |(with_reducible exact lockkeeperref30_Serial.mono _ _ _)
   |(with_reducible exact model_Diff.mono _ _ _)
   |(with_reducible exact model_Run.mono _ _ _)
   |(with_reducible exact model_Same.mono _ _ _ _ _ _ _ _ _ _ _ _ _ _ _)
   |(with_reducible exact model_Serial.mono _ _ _)
   |(with_reducible exact LeO.refl _)
   |(with_reducible exact LeO.none _)
   |(with_reducible refine LeO.ite ?_ ?_)
   |(with_reducible refine LeO.bind ?_ (fun _=>?_))
   |exact ih0 _ _ _ _
   |exact ih1 _ _ _ _
   |exact ih2 _ _ _ _ _
   |exact ih3 _ _ _ _ _
   |exact ih4 _ _ _ _ _
   |exact ih5 _ _ _
   |exact ih6 _ _ _ _ _ _
   |exact lockkeeperlaw30_great.mono _ _
   |exact lockkeeperlaw30_head.mono _
   |exact lockkeeperlaw30_many.mono _ _
   |exact lockkeeperref10_Same.mono _ _ _
   |exact lockkeeperref30_Diff.mono _ _ _
   |exact lockkeeperref30_Run.mono _ _ _
   |exact lockkeeperref30_Same.mono _ _ _ _ _ _ _ _ _ _ _ _ _ _ _
   |exact lockkeeperref30_Serial.mono _ _ _
   |exact model_Diff.mono _ _ _
   |exact model_Run.mono _ _ _
   |exact model_Same.mono _ _ _ _ _ _ _ _ _ _ _ _ _ _ _
   |exact model_Serial.mono _ _ _
   |exact LeO.none _
   |refine LeO.ite ?_ ?_
   |refine LeO.bind ?_ (fun _=>?_)

end Go.Proofs.Ytoggblomknemoaa.R
