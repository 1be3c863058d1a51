import Derived.Test.YtmfaopjfdedheaaPlainA
import Derived.Test.YtmfaopjfdedheaaAx11
namespace Go.Proofs.Ytmfaopjfdedheaa.Pure
open Go.RowKit Go.Proofs.Ytmfaopjfdedheaa.A Go.Proofs.YtmfaopjfdedheaaW.PrintWords Go.Proofs.YtmfaopjfdedheaaW.PrintLast Go.Proofs.YtmfaopjfdedheaaW.PrintMore
set_option linter.unusedVariables false

theorem head_evp : EvP (fun k => (lockkeeperlaw16_head.f k).bind fun t => some t) (fun r => r = true) :=
  EvP.bind (p := fun t => t = true) ⟨true, head_ev, rfl⟩ fun t h => EvP.const h
theorem under_ev (a0 a1 a2 : Int) (a3 a4 : ByteArray) (a5 : Bool) (a6 a7 : Int) (s : List Int) (l : List S42) (b0 b1 b2 : Int) (b3 b4 : ByteArray) (b5 : Bool) (b6 b7 : Int) (s' : List Int) (l' : List S42) (is : Bool) (sa sb m : Int)
    (hB : Ev (fun k => merge_Beside.f k a0 a1 a2 a3 a4 a5 a6 a7 s l b0 b1 b2 b3 b4 b5 b6 b7 s' l') is) (h1 : Ev (fun k => cells_Size.f k l) sa) (h2 : Ev (fun k => cells_Size.f k l') sb) :
    EvP (fun k => merge_Under.f k a0 a1 a2 a3 a4 a5 a6 a7 s l b0 b1 b2 b3 b4 b5 b6 b7 s' l' m) (fun r => r = (is && decide (wrap64 (sa + sb) ≤ m))) := by
  unfold merge_Under.f
  refine EvP.bind (p := fun t => t = is) ⟨is, hB, rfl⟩ fun t ht => ?_
  subst ht
  refine EvP.ite (fun hi => EvP.bind (p := fun x => x = sa) ⟨sa, h1, rfl⟩ fun x hx => EvP.bind (p := fun y => y = sb) ⟨sb, h2, rfl⟩ fun y hy => EvP.const ?_) (fun hi => EvP.const ?_)
  · subst hx hy hi; simp
  · have : t = false := by simpa using hi
    subst this; simp
theorem MergeSizes : lockkeeperlaw16_MergeSizes.Pure := by
  intro a0 a1 a2 a3 a4 a5 a6 a7 s l b0 b1 b2 b3 b4 b5 b6 b7 s' l' low dsn most _ _ _ _ _ _ _ _ _ hlen ho _ _ _ _ _ _ _ _ _ hlen' ho' _ _ _
  have ho : okc l := fun x hx => ho x hx
  have ho' : okc l' := fun x hx => ho' x hx
  suffices h : EvP (fun k => lockkeeperlaw16_MergeSizes.f k a0 a1 a2 a3 a4 a5 a6 a7 s l b0 b1 b2 b3 b4 b5 b6 b7 s' l' low dsn most) (fun r => r = true) by
    obtain ⟨r, ⟨K, hK⟩, hr⟩ := h
    exact ⟨K, (hK K (Nat.le_refl _)).trans (congrArg some hr)⟩
  have hhead : EvP (fun k => lockkeeperlaw16_MergeSizes.j0 k true a0 a1 a2 a3 a4 a5 a6 a7 s l b0 b1 b2 b3 b4 b5 b6 b7 s' l' low dsn most) (fun r => r = true) := by
    refine EvP.succ ?_ (fun k => rfl)
    simp only [lockkeeperlaw16_MergeSizes.j0]
    exact EvP.ite (fun _ => head_evp) (fun h => absurd trivial h)
  unfold lockkeeperlaw16_MergeSizes.f
  refine (small_ev a0 a1 a2 a3 a4 a5 a6 a7 s l (by omega)).bind fun t1 h1 => EvP.ite (fun e1 => (small_ev b0 b1 b2 b3 b4 b5 b6 b7 s' l' (by omega)).bind fun t2 h2 => ?_) (fun _ => hhead)
  cases t2
  · exact hhead
  obtain ⟨hl, hs⟩ := h1 e1
  obtain ⟨hl', hs'⟩ := h2 rfl
  obtain ⟨sa, ea1, ea2, ea3, ea4⟩ := size_ev l hl ho
  obtain ⟨sb, eb1, eb2, eb3, eb4⟩ := size_ev l' hl' ho'
  obtain ⟨is, hB⟩ := beside_tot a0 a1 a2 a3 a4 a5 a6 a7 s l b0 b1 b2 b3 b4 b5 b6 b7 s' l' (by omega) (by omega) ho (by omega) (by omega) ho'
  have hU := fun m => under_ev a0 a1 a2 a3 a4 a5 a6 a7 s l b0 b1 b2 b3 b4 b5 b6 b7 s' l' is sa sb m hB ea1 eb1
  have hw : wrap64 (sa + sb) = sa + sb := by unfold wrap64; omega
  have hw1 : wrap64 (sa + sb - 1) = sa + sb - 1 := by unfold wrap64; omega
  have hj1 : EvP (fun k => lockkeeperlaw16_MergeSizes.j1 k is false a0 a1 a2 a3 a4 a5 a6 a7 s l b0 b1 b2 b3 b4 b5 b6 b7 s' l' low dsn most) (fun r => r = true) := by
    refine EvP.succ ?_ (fun k => rfl)
    simp only [lockkeeperlaw16_MergeSizes.j1]
    refine EvP.ite (fun h => by cases h) (fun _ => (join_ev a0 a1 a2 a3 a4 a5 a6 a7 s l b0 b1 b2 b3 b4 b5 b6 b7 s' l' low dsn is hs hl ho hs' hl' ho' hB).bind fun r hr => EvP.ite (fun he => ?_) (fun _ => head_evp))
    obtain ⟨hi, g1, g2, g3, g4, g5, g6, g7, g8⟩ := hr he
    refine EvP.congr (g := fun k => (lockkeeperref10_Same.f k r.2.2.2.2.2.2.2.2.2.1 (l ++ l')).bind fun t348 => if t348 = true then (lockkeeperlaw16_head.f k).bind fun t => some t else none) ?_ (fun k => by
      rw [if_pos (by simp; omega)]
      simp only [Option.bind_some, List.nil_append]
      rw [if_pos (by omega), if_pos hi, if_pos g1, if_pos (by rw [g4]), if_pos g2, if_pos (by rw [g5]), if_pos (by rw [g6]; simp), if_pos g3, if_pos g7])
    rw [g8]
    exact EvP.bind (p := fun t => t = true) ⟨true, same_ev _ (by simp; omega), rfl⟩ fun t ht => EvP.ite (fun _ => head_evp) (fun h => absurd ht h)
  refine EvP.succ ?_ (fun k => rfl)
  simp only [lockkeeperlaw16_MergeSizes.j0, Bool.not_true]
  refine EvP.ite (fun h => by cases h) (fun _ => EvP.bind (p := fun x => x = sa) ⟨sa, ea2, rfl⟩ fun x hx => EvP.bind (p := fun y => y = sb) ⟨sb, eb2, rfl⟩ fun y hy => EvP.bind (p := fun t => t = is) ⟨is, hB, rfl⟩ fun t ht => ?_)
  subst hx hy ht
  rw [hw, hw1]
  refine (hU _).bind fun u1 e1 => EvP.ite (fun h => ?_) (fun _ => (hU _).bind fun u2 e2 => EvP.ite (fun h => ?_) (fun _ => EvP.ite (fun hi => (hU _).bind fun u3 e3 => ?_) (fun hi => hj1)))
  · rw [hw] at e1; subst e1; simp at h
  · rw [hw] at e2; subst e2; simp at h
    omega
  · rw [hw] at e3; subst e3
    have e : ((t && decide (x + y ≤ most)) != decide (most ≥ x + y)) = false := by rw [hi]; simp
    rw [e]
    exact hj1
end Go.Proofs.Ytmfaopjfdedheaa.Pure
