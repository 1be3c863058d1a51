-- PRINTED by print.py (a twelfth state) out of the translation. Not trusted: Lean checks it.
import Derived.Test.YtebmpoonkmcjfaaCx0
import Derived.Test.YtebmpoonkmcjfaaCx1
import Derived.Test.YtebmpoonkmcjfaaCx2
namespace Go.Proofs.Ytebmpoonkmcjfaa.C
open Go.RowKit Go.Proofs.YtebmpoonkmcjfaaW Go.Proofs.YtebmpoonkmcjfaaW.PrintWords Go.Proofs.YtebmpoonkmcjfaaW.PrintLast Go.Proofs.YtebmpoonkmcjfaaW.PrintMore
attribute [local go_sem] max2_int min2_int max_two min_two max_three min_three max_four min_four   -- for this text's walks alone
set_option linter.unusedVariables false
set_option linter.unusedSimpArgs false

/-! ### lockkeeperlaw04_LsnsJoins: function 8 -/
mutual
def lockkeeperlaw04_LsnsJoins.j0 : Nat → Bool → Int → List Int → Int → List Int → Int → List Int → Option (Bool)
  | 0, _, _, _, _, _, _, _ => none
  | k + 1, x46, x185000, x185001, x186000, x186001, x187000, x187001 => if x46 = true then ((lockkeeperlaw04_head.f k).bind fun t193 => (some t193)) else ((lsns_Join.f k x185000 x185001 x186000 x186001).bind fun bt194 => ((lsns_Join.f k x186000 x186001 x185000 x185001).bind fun bt200 => ((lsns_Join.f k x185000 x185001 x185000 x185001).bind fun bt206 => (if bt194.2.2 = bt200.2.2 then ((lsns_Same.f k bt194.1 bt194.2.1 bt200.1 bt200.2.1).bind fun t212 => (if t212 = true then (if bt206.2.2 = 0 then ((lsns_Same.f k bt206.1 bt206.2.1 x185000 x185001).bind fun t213 => (if t213 = true then ((lsns_Join.f k x186000 x186001 x187000 x187001).bind fun bt214 => (if bt194.2.2 = 0 then (lockkeeperlaw04_LsnsJoins.j1 k (bt214.2.2 != 0) x185000 x185001 x187000 x187001 bt194.1 bt194.2.1 bt214.1 bt214.2.1) else (lockkeeperlaw04_LsnsJoins.j1 k true x185000 x185001 x187000 x187001 bt194.1 bt194.2.1 bt214.1 bt214.2.1))) else (none))) else (none)) else (none))) else (none)))))
def lockkeeperlaw04_LsnsJoins.j1 : Nat → Bool → Int → List Int → Int → List Int → Int → List Int → Int → List Int → Option (Bool)
  | 0, _, _, _, _, _, _, _, _, _ => none
  | k + 1, x96, x185000, x185001, x187000, x187001, x200000, x200001, x220000, x220001 => if x96 = true then ((lockkeeperlaw04_head.f k).bind fun t220 => (some t220)) else ((lsns_Join.f k x200000 x200001 x187000 x187001).bind fun bt221 => ((lsns_Join.f k x185000 x185001 x220000 x220001).bind fun bt227 => (if bt221.2.2 = bt227.2.2 then ((lsns_Same.f k bt221.1 bt221.2.1 bt227.1 bt227.2.1).bind fun t233 => (if t233 = true then ((lockkeeperlaw04_head.f k).bind fun t234 => (some t234)) else (none))) else (none))))
end
def lockkeeperlaw04_LsnsJoins.f (k : Nat) (a0_0 : Int) (l0_1 : List Int) (a1_0 : Int) (l1_1 : List Int) (a2_0 : Int) (l2_1 : List Int) : Option (Bool) := (lockkeeperlaw04_great.f a0_0 l0_1).bind fun t187 => (if t187 = true then (lockkeeperlaw04_LsnsJoins.j0 k true a0_0 l0_1 a0_0 l1_1 a0_0 l2_1) else ((lockkeeperlaw04_great.f a0_0 l1_1).bind fun t188 => (if t188 = true then (lockkeeperlaw04_LsnsJoins.j0 k true a0_0 l0_1 a0_0 l1_1 a0_0 l2_1) else ((lockkeeperlaw04_great.f a0_0 l2_1).bind fun t189 => (if t189 = true then (lockkeeperlaw04_LsnsJoins.j0 k true a0_0 l0_1 a0_0 l1_1 a0_0 l2_1) else ((lsns_Right.f k a0_0 l0_1).bind fun t190 => (if t190 = true then ((lsns_Right.f k a0_0 l1_1).bind fun t191 => (if t191 = true then ((lsns_Right.f k a0_0 l2_1).bind fun t192 => (lockkeeperlaw04_LsnsJoins.j0 k (!t192) a0_0 l0_1 a0_0 l1_1 a0_0 l2_1)) else (lockkeeperlaw04_LsnsJoins.j0 k true a0_0 l0_1 a0_0 l1_1 a0_0 l2_1))) else (lockkeeperlaw04_LsnsJoins.j0 k true a0_0 l0_1 a0_0 l1_1 a0_0 l2_1))))))))
theorem lockkeeperlaw04_LsnsJoins.mono_l : ∀ k, (∀ y0 y1 y2 y3 y4 y5 y6, LeO (lockkeeperlaw04_LsnsJoins.j0 k y0 y1 y2 y3 y4 y5 y6) (lockkeeperlaw04_LsnsJoins.j0 (k + 1) y0 y1 y2 y3 y4 y5 y6)) ∧ (∀ y0 y1 y2 y3 y4 y5 y6 y7 y8, LeO (lockkeeperlaw04_LsnsJoins.j1 k y0 y1 y2 y3 y4 y5 y6 y7 y8) (lockkeeperlaw04_LsnsJoins.j1 (k + 1) y0 y1 y2 y3 y4 y5 y6 y7 y8))
  | 0 => ⟨fun _ _ _ _ _ _ _ r h => by simp [lockkeeperlaw04_LsnsJoins.j0] at h, fun _ _ _ _ _ _ _ _ _ r h => by simp [lockkeeperlaw04_LsnsJoins.j1] at h⟩
  | k + 1 => by
    obtain ⟨ih0, ih1⟩ := lockkeeperlaw04_LsnsJoins.mono_l k
    refine ⟨?_, ?_⟩
    · intro y0 y1 y2 y3 y4 y5 y6
      unfold lockkeeperlaw04_LsnsJoins.j0
      repeat' first
      | (with_reducible exact ih0 _ _ _ _ _ _ _)
      | (with_reducible exact ih1 _ _ _ _ _ _ _ _ _)
      | (with_reducible exact lockkeeperlaw04_head.mono _)
      | (with_reducible exact lsns_Join.mono _ _ _ _ _)
      | (with_reducible exact lsns_Right.mono _ _ _)
      | (with_reducible exact lsns_Same.mono _ _ _ _ _)
      | (with_reducible exact LeO.refl _)
      | (with_reducible exact LeO.none _)
      | (with_reducible refine LeO.ite ?_ ?_)
      | (with_reducible refine LeO.bind ?_ (fun _ => ?_))
      | exact ih0 _ _ _ _ _ _ _
      | exact ih1 _ _ _ _ _ _ _ _ _
      | exact lockkeeperlaw04_head.mono _
      | exact lsns_Join.mono _ _ _ _ _
      | exact lsns_Right.mono _ _ _
      | exact lsns_Same.mono _ _ _ _ _
      | exact LeO.none _
      | refine LeO.ite ?_ ?_
      | refine LeO.bind ?_ (fun _ => ?_)
    · intro y0 y1 y2 y3 y4 y5 y6 y7 y8
      unfold lockkeeperlaw04_LsnsJoins.j1
      repeat' first
      | (with_reducible exact ih0 _ _ _ _ _ _ _)
      | (with_reducible exact ih1 _ _ _ _ _ _ _ _ _)
      | (with_reducible exact lockkeeperlaw04_head.mono _)
      | (with_reducible exact lsns_Join.mono _ _ _ _ _)
      | (with_reducible exact lsns_Right.mono _ _ _)
      | (with_reducible exact lsns_Same.mono _ _ _ _ _)
      | (with_reducible exact LeO.refl _)
      | (with_reducible exact LeO.none _)
      | (with_reducible refine LeO.ite ?_ ?_)
      | (with_reducible refine LeO.bind ?_ (fun _ => ?_))
      | exact ih0 _ _ _ _ _ _ _
      | exact ih1 _ _ _ _ _ _ _ _ _
      | exact lockkeeperlaw04_head.mono _
      | exact lsns_Join.mono _ _ _ _ _
      | exact lsns_Right.mono _ _ _
      | exact lsns_Same.mono _ _ _ _ _
      | exact LeO.none _
      | refine LeO.ite ?_ ?_
      | refine LeO.bind ?_ (fun _ => ?_)
theorem lockkeeperlaw04_LsnsJoins.mono : ∀ a0 a1 a2 a3 a4 a5 k, LeO (lockkeeperlaw04_LsnsJoins.f k a0 a1 a2 a3 a4 a5) (lockkeeperlaw04_LsnsJoins.f (k + 1) a0 a1 a2 a3 a4 a5) := by
  intro a0 a1 a2 a3 a4 a5 k
  obtain ⟨ih0, ih1⟩ := lockkeeperlaw04_LsnsJoins.mono_l k
  unfold lockkeeperlaw04_LsnsJoins.f
  repeat' first
      | (with_reducible exact ih0 _ _ _ _ _ _ _)
      | (with_reducible exact ih1 _ _ _ _ _ _ _ _ _)
      | (with_reducible exact lockkeeperlaw04_head.mono _)
      | (with_reducible exact lsns_Join.mono _ _ _ _ _)
      | (with_reducible exact lsns_Right.mono _ _ _)
      | (with_reducible exact lsns_Same.mono _ _ _ _ _)
      | (with_reducible exact LeO.refl _)
      | (with_reducible exact LeO.none _)
      | (with_reducible refine LeO.ite ?_ ?_)
      | (with_reducible refine LeO.bind ?_ (fun _ => ?_))
      | exact ih0 _ _ _ _ _ _ _
      | exact ih1 _ _ _ _ _ _ _ _ _
      | exact lockkeeperlaw04_head.mono _
      | exact lsns_Join.mono _ _ _ _ _
      | exact lsns_Right.mono _ _ _
      | exact lsns_Same.mono _ _ _ _ _
      | exact LeO.none _
      | refine LeO.ite ?_ ?_
      | refine LeO.bind ?_ (fun _ => ?_)

end Go.Proofs.Ytebmpoonkmcjfaa.C
