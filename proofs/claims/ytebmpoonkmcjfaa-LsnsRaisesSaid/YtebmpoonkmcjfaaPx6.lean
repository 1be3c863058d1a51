-- PRINTED by print.py (a twelfth state) out of the translation. Not trusted: Lean checks it.
import Derived.Test.YtebmpoonkmcjfaaPx0
import Derived.Test.YtebmpoonkmcjfaaPx1
import Derived.Test.YtebmpoonkmcjfaaPx2
import Derived.Test.YtebmpoonkmcjfaaPx3
namespace Go.Proofs.Ytebmpoonkmcjfaa.P
open Go.RowKit Go.Proofs.YtebmpoonkmcjfaaW Go.Proofs.YtebmpoonkmcjfaaW.PrintWords Go.Proofs.YtebmpoonkmcjfaaW.PrintLast Go.Proofs.YtebmpoonkmcjfaaW.PrintMore
attribute [local go_sem] max2_int min2_int max_two min_two max_three min_three max_four min_four   -- for this text's walks alone
set_option linter.unusedVariables false
set_option linter.unusedSimpArgs false

/-! ### lockkeeperlaw04_LsnsRaises: function 7 -/
def lockkeeperlaw04_LsnsRaises.j0 : Nat → Int → Int → Bool → Int → List Int → Option (Bool)
  | 0, _, _, _, _, _ => none
  | k + 1, x1, x2, x22, x250000, x250001 => if x22 = true then ((lockkeeperlaw04_head.f k).bind fun t252 => (some t252)) else ((lsns_Raise.f k x250000 x250001 x1).bind fun bt253 => ((lsns_Raise.f k bt253.1 bt253.2.1 x2).bind fun bt259 => ((lsns_Raise.f k x250000 x250001 (mx x1 x2)).bind fun bt265 => (if bt253.2.2 = 0 then (if bt259.2.2 = 0 then (if bt265.2.2 = 0 then ((lsns_Same.f k bt259.1 bt259.2.1 bt265.1 bt265.2.1).bind fun t271 => (if t271 = true then ((lsns_Add.f k x250000 x250001 x2).bind fun bt272 => ((lsns_Raise.f k bt272.1 bt272.2.1 x1).bind fun bt278 => ((lsns_Add.f k bt253.1 bt253.2.1 x2).bind fun bt284 => (if bt272.2.2 = 0 then (if bt284.2.2 = 0 then (if bt278.2.2 = 0 then ((lsns_Same.f k bt278.1 bt278.2.1 bt284.1 bt284.2.1).bind fun t290 => (if t290 = true then ((lockkeeperlaw04_head.f k).bind fun t291 => (some t291)) else (none))) else (none)) else ((lockkeeperlaw04_head.f k).bind fun t292 => (some t292))) else ((lockkeeperlaw04_head.f k).bind fun t293 => (some t293)))))) else (none))) else (none)) else (none)) else (none)))))
def lockkeeperlaw04_LsnsRaises.f (k : Nat) (a0_0 : Int) (l0_1 : List Int) (a1 : Int) (a2 : Int) : Option (Bool) := (lockkeeperlaw04_great.f a0_0 l0_1).bind fun t250 => (if t250 = true then (lockkeeperlaw04_LsnsRaises.j0 k a1 a2 true a0_0 l0_1) else ((lsns_Right.f k a0_0 l0_1).bind fun t251 => (lockkeeperlaw04_LsnsRaises.j0 k a1 a2 (!t251) a0_0 l0_1)))
theorem lockkeeperlaw04_LsnsRaises.mono_l : ∀ k, (∀ y0 y1 y2 y3 y4, LeO (lockkeeperlaw04_LsnsRaises.j0 k y0 y1 y2 y3 y4) (lockkeeperlaw04_LsnsRaises.j0 (k + 1) y0 y1 y2 y3 y4))
  | 0 => fun _ _ _ _ _ r h => by simp [lockkeeperlaw04_LsnsRaises.j0] at h
  | k + 1 => by
    have ih0 := lockkeeperlaw04_LsnsRaises.mono_l k
    · intro y0 y1 y2 y3 y4
      unfold lockkeeperlaw04_LsnsRaises.j0
      repeat' first
      | (with_reducible exact ih0 _ _ _ _ _)
      | (with_reducible exact lockkeeperlaw04_head.mono _)
      | (with_reducible exact lsns_Add.mono _ _ _ _)
      | (with_reducible exact lsns_Raise.mono _ _ _ _)
      | (with_reducible exact lsns_Right.mono _ _ _)
      | (with_reducible exact lsns_Same.mono _ _ _ _ _)
      | (with_reducible exact LeO.refl _)
      | (with_reducible exact LeO.none _)
      | (with_reducible refine LeO.ite ?_ ?_)
      | (with_reducible refine LeO.bind ?_ (fun _ => ?_))
      | exact ih0 _ _ _ _ _
      | exact lockkeeperlaw04_head.mono _
      | exact lsns_Add.mono _ _ _ _
      | exact lsns_Raise.mono _ _ _ _
      | exact lsns_Right.mono _ _ _
      | exact lsns_Same.mono _ _ _ _ _
      | exact LeO.none _
      | refine LeO.ite ?_ ?_
      | refine LeO.bind ?_ (fun _ => ?_)
theorem lockkeeperlaw04_LsnsRaises.mono : ∀ a0 a1 a2 a3 k, LeO (lockkeeperlaw04_LsnsRaises.f k a0 a1 a2 a3) (lockkeeperlaw04_LsnsRaises.f (k + 1) a0 a1 a2 a3) := by
  intro a0 a1 a2 a3 k
  have ih0 := lockkeeperlaw04_LsnsRaises.mono_l k
  unfold lockkeeperlaw04_LsnsRaises.f
  repeat' first
      | (with_reducible exact ih0 _ _ _ _ _)
      | (with_reducible exact lockkeeperlaw04_head.mono _)
      | (with_reducible exact lsns_Add.mono _ _ _ _)
      | (with_reducible exact lsns_Raise.mono _ _ _ _)
      | (with_reducible exact lsns_Right.mono _ _ _)
      | (with_reducible exact lsns_Same.mono _ _ _ _ _)
      | (with_reducible exact LeO.refl _)
      | (with_reducible exact LeO.none _)
      | (with_reducible refine LeO.ite ?_ ?_)
      | (with_reducible refine LeO.bind ?_ (fun _ => ?_))
      | exact ih0 _ _ _ _ _
      | exact lockkeeperlaw04_head.mono _
      | exact lsns_Add.mono _ _ _ _
      | exact lsns_Raise.mono _ _ _ _
      | exact lsns_Right.mono _ _ _
      | exact lsns_Same.mono _ _ _ _ _
      | exact LeO.none _
      | refine LeO.ite ?_ ?_
      | refine LeO.bind ?_ (fun _ => ?_)

end Go.Proofs.Ytebmpoonkmcjfaa.P
