-- PRINTED by print.py (a twelfth state) out of the translation. Not trusted: Lean checks it.
import Derived.Test.YtebmpoonkmcjfaaEx0
import Derived.Test.YtebmpoonkmcjfaaEx1
import Derived.Test.YtebmpoonkmcjfaaEx2
import Derived.Test.YtebmpoonkmcjfaaEx3
import Derived.Test.YtebmpoonkmcjfaaEx4
import Derived.Test.YtebmpoonkmcjfaaEx5
namespace Go.Proofs.Ytebmpoonkmcjfaa.E
open Go.RowKit Go.Proofs.YtebmpoonkmcjfaaW Go.Proofs.YtebmpoonkmcjfaaW.PrintWords Go.Proofs.YtebmpoonkmcjfaaW.PrintLast Go.Proofs.YtebmpoonkmcjfaaW.PrintMore
attribute [local go_sem] max2_int min2_int max_two min_two max_three min_three max_four min_four   -- for this text's walks alone
set_option linter.unusedVariables false
set_option linter.unusedSimpArgs false

def ok25 (x : S25) : Prop := ((Lit.int .u64 x.f0).wf = true) ∧ (x.f1.length * 8 ≤ 140737488351232 ∧ ∀ e0 ∈ x.f1, (Lit.int .u64 e0).wf = true)
theorem opn25 {H : Type} {enc : TypeId × Value → H} : Open.Opn enc Try.prog 25 k25 ok25 := Open.opn_struct (fun p => ⟨p.1, p.2⟩) (fun _ => rfl) Try.underlying25 (by kernel_rfl) (Open.opnFs_cons (off := 0) (off' := 1) (tot := 2) rfl (by kernel_rfl) (Open.opn_int Try.underlying22) (Open.opnFs_one (off := 1) (tot := 2) rfl (by kernel_rfl) (Open.opn_slice (B := 8) Try.underlying23 (by kernel_rfl) (by kernel_rfl) (Open.opn_int Try.underlying22))))

/-! ### lockkeeperlaw04_LsnsTurns: function 3 -/
mutual
def lockkeeperlaw04_LsnsTurns.j0 : Nat → Int → Bool → Int → List Int → Int → List Int → Option (Bool)
  | 0, _, _, _, _, _, _ => none
  | k + 1, x2, x25, x276000, x276001, x277000, x277001 => if x25 = true then ((lockkeeperlaw04_head.f k).bind fun t279 => (some t279)) else ((lockkeeperref04_Copy.f x276000 x276001).bind fun bt280 => ((lockkeeperref04_Copy.f x277000 x277001).bind fun bt284 => ((lsns_Add.f k bt280.1 bt280.2 x2).bind fun bt290 => ((lockkeeperref04_Add.f k x276000 x276001 x2).bind fun bt296 => ((lockkeeperref04_Same.f k bt290.1 bt290.2.1 bt296.1 bt296.2.1).bind fun t302 => (if t302 = true then (if bt290.2.2 = bt296.2.2 then ((lsns_Raise.f k bt280.1 bt280.2 x2).bind fun bt303 => ((lockkeeperref04_Raise.f k x276000 x276001 x2).bind fun bt309 => ((lockkeeperref04_Same.f k bt303.1 bt303.2.1 bt309.1 bt309.2.1).bind fun t315 => (if t315 = true then (if bt303.2.2 = bt309.2.2 then ((lsns_Join.f k bt280.1 bt280.2 bt284.1 bt284.2).bind fun bt316 => ((lockkeeperref04_Join.f k x276000 x276001 x277000 x277001).bind fun bt322 => ((lockkeeperref04_Same.f k bt316.1 bt316.2.1 bt322.1 bt322.2.1).bind fun t328 => (if t328 = true then (if bt316.2.2 = bt322.2.2 then (lockkeeperlaw04_LsnsTurns.l0 k 0 x276000 x276001 x277000 x277001 bt280.1 bt280.2 bt284.1 bt284.2 bt290.1 bt290.2.1 bt303.1 bt303.2.1 bt316.1 bt316.2.1) else (none)) else (none))))) else (none)) else (none))))) else (none)) else (none)))))))
def lockkeeperlaw04_LsnsTurns.l0 : Nat → Int → Int → List Int → Int → List Int → Int → List Int → Int → List Int → Int → List Int → Int → List Int → Int → List Int → Option (Bool)
  | 0, _, _, _, _, _, _, _, _, _, _, _, _, _, _, _ => none
  | k + 1, x17, x276000, x276001, x277000, x277001, x289000, x289001, x290000, x290001, x296000, x296001, x309000, x309001, x322000, x322001 => if x17 < (x296001.length : Int) then (if 0 ≤ x17 then (lockkeeperlaw04_LsnsTurns.l0 k (wrap64 (x17 + 1)) x276000 x276001 x277000 x277001 x289000 x289001 x290000 x290001 x296000 (x296001.set (x17 : Int).toNat 0) x309000 x309001 x322000 x322001) else (none)) else (lockkeeperlaw04_LsnsTurns.l1 k 0 x276000 x276001 x277000 x277001 x289000 x289001 x290000 x290001 x309000 x309001 x322000 x322001)
def lockkeeperlaw04_LsnsTurns.l1 : Nat → Int → Int → List Int → Int → List Int → Int → List Int → Int → List Int → Int → List Int → Int → List Int → Option (Bool)
  | 0, _, _, _, _, _, _, _, _, _, _, _, _, _ => none
  | k + 1, x18, x276000, x276001, x277000, x277001, x289000, x289001, x290000, x290001, x309000, x309001, x322000, x322001 => if x18 < (x309001.length : Int) then (if 0 ≤ x18 then (lockkeeperlaw04_LsnsTurns.l1 k (wrap64 (x18 + 1)) x276000 x276001 x277000 x277001 x289000 x289001 x290000 x290001 x309000 (x309001.set (x18 : Int).toNat 0) x322000 x322001) else (none)) else (lockkeeperlaw04_LsnsTurns.l2 k 0 x276000 x276001 x277000 x277001 x289000 x289001 x290000 x290001 x322000 x322001)
def lockkeeperlaw04_LsnsTurns.l2 : Nat → Int → Int → List Int → Int → List Int → Int → List Int → Int → List Int → Int → List Int → Option (Bool)
  | 0, _, _, _, _, _, _, _, _, _, _, _ => none
  | k + 1, x19, x276000, x276001, x277000, x277001, x289000, x289001, x290000, x290001, x322000, x322001 => if x19 < (x322001.length : Int) then (if 0 ≤ x19 then (lockkeeperlaw04_LsnsTurns.l2 k (wrap64 (x19 + 1)) x276000 x276001 x277000 x277001 x289000 x289001 x290000 x290001 x322000 (x322001.set (x19 : Int).toNat 0)) else (none)) else ((lockkeeperref04_Same.f k x289000 x289001 x276000 x276001).bind fun t332 => (if t332 = true then ((lockkeeperref04_Same.f k x290000 x290001 x277000 x277001).bind fun t333 => (if t333 = true then ((lockkeeperlaw04_head.f k).bind fun t334 => (some t334)) else (none))) else (none)))
end
def lockkeeperlaw04_LsnsTurns.f (k : Nat) (a0_0 : Int) (l0_1 : List Int) (a1_0 : Int) (l1_1 : List Int) (a2 : Int) : Option (Bool) := (lockkeeperlaw04_great.f a0_0 l0_1).bind fun t277 => (if t277 = true then (lockkeeperlaw04_LsnsTurns.j0 k a2 true a0_0 l0_1 a1_0 l1_1) else ((lockkeeperlaw04_great.f a1_0 l1_1).bind fun t278 => (lockkeeperlaw04_LsnsTurns.j0 k a2 t278 a0_0 l0_1 a1_0 l1_1)))
theorem lockkeeperlaw04_LsnsTurns.mono_l : ∀ k, (∀ y0 y1 y2 y3 y4 y5, LeO (lockkeeperlaw04_LsnsTurns.j0 k y0 y1 y2 y3 y4 y5) (lockkeeperlaw04_LsnsTurns.j0 (k + 1) y0 y1 y2 y3 y4 y5)) ∧ (∀ y0 y1 y2 y3 y4 y5 y6 y7 y8 y9 y10 y11 y12 y13 y14, LeO (lockkeeperlaw04_LsnsTurns.l0 k y0 y1 y2 y3 y4 y5 y6 y7 y8 y9 y10 y11 y12 y13 y14) (lockkeeperlaw04_LsnsTurns.l0 (k + 1) y0 y1 y2 y3 y4 y5 y6 y7 y8 y9 y10 y11 y12 y13 y14)) ∧ (∀ y0 y1 y2 y3 y4 y5 y6 y7 y8 y9 y10 y11 y12, LeO (lockkeeperlaw04_LsnsTurns.l1 k y0 y1 y2 y3 y4 y5 y6 y7 y8 y9 y10 y11 y12) (lockkeeperlaw04_LsnsTurns.l1 (k + 1) y0 y1 y2 y3 y4 y5 y6 y7 y8 y9 y10 y11 y12)) ∧ (∀ y0 y1 y2 y3 y4 y5 y6 y7 y8 y9 y10, LeO (lockkeeperlaw04_LsnsTurns.l2 k y0 y1 y2 y3 y4 y5 y6 y7 y8 y9 y10) (lockkeeperlaw04_LsnsTurns.l2 (k + 1) y0 y1 y2 y3 y4 y5 y6 y7 y8 y9 y10))
  | 0 => ⟨fun _ _ _ _ _ _ r h => by simp [lockkeeperlaw04_LsnsTurns.j0] at h, fun _ _ _ _ _ _ _ _ _ _ _ _ _ _ _ r h => by simp [lockkeeperlaw04_LsnsTurns.l0] at h, fun _ _ _ _ _ _ _ _ _ _ _ _ _ r h => by simp [lockkeeperlaw04_LsnsTurns.l1] at h, fun _ _ _ _ _ _ _ _ _ _ _ r h => by simp [lockkeeperlaw04_LsnsTurns.l2] at h⟩
  | k + 1 => by
    obtain ⟨ih0, ih1, ih2, ih3⟩ := lockkeeperlaw04_LsnsTurns.mono_l k
    refine ⟨?_, ?_, ?_, ?_⟩
    · intro y0 y1 y2 y3 y4 y5
      unfold lockkeeperlaw04_LsnsTurns.j0
      repeat' first
      | (with_reducible exact ih0 _ _ _ _ _ _)
      | (with_reducible exact ih1 _ _ _ _ _ _ _ _ _ _ _ _ _ _ _)
      | (with_reducible exact ih2 _ _ _ _ _ _ _ _ _ _ _ _ _)
      | (with_reducible exact ih3 _ _ _ _ _ _ _ _ _ _ _)
      | (with_reducible exact lockkeeperlaw04_head.mono _)
      | (with_reducible exact lockkeeperref04_Add.mono _ _ _ _)
      | (with_reducible exact lockkeeperref04_Join.mono _ _ _ _ _)
      | (with_reducible exact lockkeeperref04_Raise.mono _ _ _ _)
      | (with_reducible exact lockkeeperref04_Same.mono _ _ _ _ _)
      | (with_reducible exact lsns_Add.mono _ _ _ _)
      | (with_reducible exact lsns_Join.mono _ _ _ _ _)
      | (with_reducible exact lsns_Raise.mono _ _ _ _)
      | (with_reducible exact LeO.refl _)
      | (with_reducible exact LeO.none _)
      | (with_reducible refine LeO.ite ?_ ?_)
      | (with_reducible refine LeO.bind ?_ (fun _ => ?_))
      | exact ih0 _ _ _ _ _ _
      | exact ih1 _ _ _ _ _ _ _ _ _ _ _ _ _ _ _
      | exact ih2 _ _ _ _ _ _ _ _ _ _ _ _ _
      | exact ih3 _ _ _ _ _ _ _ _ _ _ _
      | exact lockkeeperlaw04_head.mono _
      | exact lockkeeperref04_Add.mono _ _ _ _
      | exact lockkeeperref04_Join.mono _ _ _ _ _
      | exact lockkeeperref04_Raise.mono _ _ _ _
      | exact lockkeeperref04_Same.mono _ _ _ _ _
      | exact lsns_Add.mono _ _ _ _
      | exact lsns_Join.mono _ _ _ _ _
      | exact lsns_Raise.mono _ _ _ _
      | exact LeO.none _
      | refine LeO.ite ?_ ?_
      | refine LeO.bind ?_ (fun _ => ?_)
    · intro y0 y1 y2 y3 y4 y5 y6 y7 y8 y9 y10 y11 y12 y13 y14
      unfold lockkeeperlaw04_LsnsTurns.l0
      repeat' first
      | (with_reducible exact ih0 _ _ _ _ _ _)
      | (with_reducible exact ih1 _ _ _ _ _ _ _ _ _ _ _ _ _ _ _)
      | (with_reducible exact ih2 _ _ _ _ _ _ _ _ _ _ _ _ _)
      | (with_reducible exact ih3 _ _ _ _ _ _ _ _ _ _ _)
      | (with_reducible exact lockkeeperlaw04_head.mono _)
      | (with_reducible exact lockkeeperref04_Add.mono _ _ _ _)
      | (with_reducible exact lockkeeperref04_Join.mono _ _ _ _ _)
      | (with_reducible exact lockkeeperref04_Raise.mono _ _ _ _)
      | (with_reducible exact lockkeeperref04_Same.mono _ _ _ _ _)
      | (with_reducible exact lsns_Add.mono _ _ _ _)
      | (with_reducible exact lsns_Join.mono _ _ _ _ _)
      | (with_reducible exact lsns_Raise.mono _ _ _ _)
      | (with_reducible exact LeO.refl _)
      | (with_reducible exact LeO.none _)
      | (with_reducible refine LeO.ite ?_ ?_)
      | (with_reducible refine LeO.bind ?_ (fun _ => ?_))
      | exact ih0 _ _ _ _ _ _
      | exact ih1 _ _ _ _ _ _ _ _ _ _ _ _ _ _ _
      | exact ih2 _ _ _ _ _ _ _ _ _ _ _ _ _
      | exact ih3 _ _ _ _ _ _ _ _ _ _ _
      | exact lockkeeperlaw04_head.mono _
      | exact lockkeeperref04_Add.mono _ _ _ _
      | exact lockkeeperref04_Join.mono _ _ _ _ _
      | exact lockkeeperref04_Raise.mono _ _ _ _
      | exact lockkeeperref04_Same.mono _ _ _ _ _
      | exact lsns_Add.mono _ _ _ _
      | exact lsns_Join.mono _ _ _ _ _
      | exact lsns_Raise.mono _ _ _ _
      | exact LeO.none _
      | refine LeO.ite ?_ ?_
      | refine LeO.bind ?_ (fun _ => ?_)
    · intro y0 y1 y2 y3 y4 y5 y6 y7 y8 y9 y10 y11 y12
      unfold lockkeeperlaw04_LsnsTurns.l1
      repeat' first
      | (with_reducible exact ih0 _ _ _ _ _ _)
      | (with_reducible exact ih1 _ _ _ _ _ _ _ _ _ _ _ _ _ _ _)
      | (with_reducible exact ih2 _ _ _ _ _ _ _ _ _ _ _ _ _)
      | (with_reducible exact ih3 _ _ _ _ _ _ _ _ _ _ _)
      | (with_reducible exact lockkeeperlaw04_head.mono _)
      | (with_reducible exact lockkeeperref04_Add.mono _ _ _ _)
      | (with_reducible exact lockkeeperref04_Join.mono _ _ _ _ _)
      | (with_reducible exact lockkeeperref04_Raise.mono _ _ _ _)
      | (with_reducible exact lockkeeperref04_Same.mono _ _ _ _ _)
      | (with_reducible exact lsns_Add.mono _ _ _ _)
      | (with_reducible exact lsns_Join.mono _ _ _ _ _)
      | (with_reducible exact lsns_Raise.mono _ _ _ _)
      | (with_reducible exact LeO.refl _)
      | (with_reducible exact LeO.none _)
      | (with_reducible refine LeO.ite ?_ ?_)
      | (with_reducible refine LeO.bind ?_ (fun _ => ?_))
      | exact ih0 _ _ _ _ _ _
      | exact ih1 _ _ _ _ _ _ _ _ _ _ _ _ _ _ _
      | exact ih2 _ _ _ _ _ _ _ _ _ _ _ _ _
      | exact ih3 _ _ _ _ _ _ _ _ _ _ _
      | exact lockkeeperlaw04_head.mono _
      | exact lockkeeperref04_Add.mono _ _ _ _
      | exact lockkeeperref04_Join.mono _ _ _ _ _
      | exact lockkeeperref04_Raise.mono _ _ _ _
      | exact lockkeeperref04_Same.mono _ _ _ _ _
      | exact lsns_Add.mono _ _ _ _
      | exact lsns_Join.mono _ _ _ _ _
      | exact lsns_Raise.mono _ _ _ _
      | exact LeO.none _
      | refine LeO.ite ?_ ?_
      | refine LeO.bind ?_ (fun _ => ?_)
    · intro y0 y1 y2 y3 y4 y5 y6 y7 y8 y9 y10
      unfold lockkeeperlaw04_LsnsTurns.l2
      repeat' first
      | (with_reducible exact ih0 _ _ _ _ _ _)
      | (with_reducible exact ih1 _ _ _ _ _ _ _ _ _ _ _ _ _ _ _)
      | (with_reducible exact ih2 _ _ _ _ _ _ _ _ _ _ _ _ _)
      | (with_reducible exact ih3 _ _ _ _ _ _ _ _ _ _ _)
      | (with_reducible exact lockkeeperlaw04_head.mono _)
      | (with_reducible exact lockkeeperref04_Add.mono _ _ _ _)
      | (with_reducible exact lockkeeperref04_Join.mono _ _ _ _ _)
      | (with_reducible exact lockkeeperref04_Raise.mono _ _ _ _)
      | (with_reducible exact lockkeeperref04_Same.mono _ _ _ _ _)
      | (with_reducible exact lsns_Add.mono _ _ _ _)
      | (with_reducible exact lsns_Join.mono _ _ _ _ _)
      | (with_reducible exact lsns_Raise.mono _ _ _ _)
      | (with_reducible exact LeO.refl _)
      | (with_reducible exact LeO.none _)
      | (with_reducible refine LeO.ite ?_ ?_)
      | (with_reducible refine LeO.bind ?_ (fun _ => ?_))
      | exact ih0 _ _ _ _ _ _
      | exact ih1 _ _ _ _ _ _ _ _ _ _ _ _ _ _ _
      | exact ih2 _ _ _ _ _ _ _ _ _ _ _ _ _
      | exact ih3 _ _ _ _ _ _ _ _ _ _ _
      | exact lockkeeperlaw04_head.mono _
      | exact lockkeeperref04_Add.mono _ _ _ _
      | exact lockkeeperref04_Join.mono _ _ _ _ _
      | exact lockkeeperref04_Raise.mono _ _ _ _
      | exact lockkeeperref04_Same.mono _ _ _ _ _
      | exact lsns_Add.mono _ _ _ _
      | exact lsns_Join.mono _ _ _ _ _
      | exact lsns_Raise.mono _ _ _ _
      | exact LeO.none _
      | refine LeO.ite ?_ ?_
      | refine LeO.bind ?_ (fun _ => ?_)
theorem lockkeeperlaw04_LsnsTurns.mono : ∀ a0 a1 a2 a3 a4 k, LeO (lockkeeperlaw04_LsnsTurns.f k a0 a1 a2 a3 a4) (lockkeeperlaw04_LsnsTurns.f (k + 1) a0 a1 a2 a3 a4) := by
  intro a0 a1 a2 a3 a4 k
  obtain ⟨ih0, ih1, ih2, ih3⟩ := lockkeeperlaw04_LsnsTurns.mono_l k
  unfold lockkeeperlaw04_LsnsTurns.f
  repeat' first
      | (with_reducible exact ih0 _ _ _ _ _ _)
      | (with_reducible exact ih1 _ _ _ _ _ _ _ _ _ _ _ _ _ _ _)
      | (with_reducible exact ih2 _ _ _ _ _ _ _ _ _ _ _ _ _)
      | (with_reducible exact ih3 _ _ _ _ _ _ _ _ _ _ _)
      | (with_reducible exact lockkeeperlaw04_head.mono _)
      | (with_reducible exact lockkeeperref04_Add.mono _ _ _ _)
      | (with_reducible exact lockkeeperref04_Join.mono _ _ _ _ _)
      | (with_reducible exact lockkeeperref04_Raise.mono _ _ _ _)
      | (with_reducible exact lockkeeperref04_Same.mono _ _ _ _ _)
      | (with_reducible exact lsns_Add.mono _ _ _ _)
      | (with_reducible exact lsns_Join.mono _ _ _ _ _)
      | (with_reducible exact lsns_Raise.mono _ _ _ _)
      | (with_reducible exact LeO.refl _)
      | (with_reducible exact LeO.none _)
      | (with_reducible refine LeO.ite ?_ ?_)
      | (with_reducible refine LeO.bind ?_ (fun _ => ?_))
      | exact ih0 _ _ _ _ _ _
      | exact ih1 _ _ _ _ _ _ _ _ _ _ _ _ _ _ _
      | exact ih2 _ _ _ _ _ _ _ _ _ _ _ _ _
      | exact ih3 _ _ _ _ _ _ _ _ _ _ _
      | exact lockkeeperlaw04_head.mono _
      | exact lockkeeperref04_Add.mono _ _ _ _
      | exact lockkeeperref04_Join.mono _ _ _ _ _
      | exact lockkeeperref04_Raise.mono _ _ _ _
      | exact lockkeeperref04_Same.mono _ _ _ _ _
      | exact lsns_Add.mono _ _ _ _
      | exact lsns_Join.mono _ _ _ _ _
      | exact lsns_Raise.mono _ _ _ _
      | exact LeO.none _
      | refine LeO.ite ?_ ?_
      | refine LeO.bind ?_ (fun _ => ?_)

end Go.Proofs.Ytebmpoonkmcjfaa.E
