/- LsnsMembers's plain law: what is in what Add, Raise and Join tell. -/
import Derived.Test.YtebmpoonkmcjfaaPlainD
import Derived.Test.YtebmpoonkmcjfaaDx3
namespace Go.Proofs.Ytebmpoonkmcjfaa.Pure
set_option linter.unusedVariables false
set_option linter.unusedSimpArgs false
open Go.RowKit Go.Proofs.Ytebmpoonkmcjfaa.D Go.Proofs.YtebmpoonkmcjfaaW.PrintWords Go.Proofs.YtebmpoonkmcjfaaW.PrintLast Go.Proofs.YtebmpoonkmcjfaaW.PrintMore

theorem has_of {low : Int} {l : List Int} (h : D.Good low l) (n : Int) : has_ low l n = decide (n ≤ low ∨ n ∈ l) := by
  unfold has_
  exact decide_eq_decide.2 ⟨fun h1 => h1.2, fun h1 => ⟨h, h1⟩⟩
theorem most_top {low : Int} {l : List Int} (h : D.Good low l) : low ≤ most_ low l ∧ (∀ x ∈ l, x ≤ most_ low l) ∧ (most_ low l = low ∨ most_ low l ∈ l) := by
  unfold most_
  rw [if_pos h]
  have h' := good_iff.1 h
  by_cases h0 : 0 < l.length
  · rw [if_pos h0, rd_get l _ (by omega)]
    have hm : l[l.length - 1] ∈ l := List.getElem_mem _
    have := h'.2.1 _ hm
    refine ⟨by omega, fun x hx => ?_, .inr hm⟩
    obtain ⟨i, hi, rfl⟩ := List.mem_iff_getElem.1 hx
    rcases Nat.lt_or_ge i (l.length - 1) with h1 | h1
    · have := List.pairwise_iff_getElem.1 h'.1 i (l.length - 1) hi (by omega) h1
      omega
    · have : i = l.length - 1 := by omega
      subst this
      exact Int.le_refl _
  · rw [if_neg h0]
    refine ⟨Int.le_refl _, fun x hx => ?_, .inl rfl⟩
    have : l = [] := List.length_eq_zero_iff.1 (by omega)
    rw [this] at hx
    cases hx
theorem most_join {a : Int} {l m : List Int} (hl : D.Good a l) (hm : D.Good a m) (hj : D.Good a (jl l m)) : most_ a (jl l m) = mx (most_ a l) (most_ a m) := by
  have h1 := most_top hl
  have h2 := most_top hm
  have h3 := most_top hj
  have e1 : most_ a l ≤ most_ a (jl l m) := by
    rcases h1.2.2 with h | h
    · rw [h]; exact h3.1
    · exact h3.2.1 _ ((jl_mem l m _).2 (.inl h))
  have e2 : most_ a m ≤ most_ a (jl l m) := by
    rcases h2.2.2 with h | h
    · rw [h]; exact h3.1
    · exact h3.2.1 _ ((jl_mem l m _).2 (.inr h))
  have e3 : most_ a (jl l m) ≤ most_ a l ∨ most_ a (jl l m) ≤ most_ a m := by
    rcases h3.2.2 with h | h
    · rw [h]; exact .inl h1.1
    · rcases (jl_mem l m _).1 h with h | h
      · exact .inl (h1.2.1 _ h)
      · exact .inr (h2.2.1 _ h)
  unfold mx
  split <;> omega
theorem members_j2 (k : Nat) (hk : 5000 ≤ k) (a : Int) (l m : List Int) (x : Int) (hl : D.Good a l) (b : Int) (hm : m.length ≤ 1100) : lockkeeperlaw04_LsnsMembers.j2 (k + 1) x false a l b m = some true := by
  have h1 := hl.2
  simp only [lockkeeperlaw04_LsnsMembers.j2]
  rw [if_neg (by simp), right_eq a m k (by omega) (by omega)]
  simp only [Option.bind_some, decide_eq_true_eq]
  by_cases g : D.Good a m
  · have h2 := g.2
    have hq : joined_ a l a m = if 1000 < (jl l m).length then (0, [], 6) else (a, jl l m, 0) := by
      unfold joined_
      rw [if_pos ⟨hl, g⟩, if_pos rfl]
    rw [if_pos g, join_eq a l a m k (by omega) (by omega) (by omega) (by omega), hq]
    simp only [Option.bind_some]
    by_cases c : 1000 < (jl l m).length
    · have := jl_length l m
      rw [if_pos c, if_pos rfl, w64 (by omega) (by omega), if_pos (by omega), head_eq k (by omega)]
      rfl
    · have gj := jl_good hl g c
      rw [if_neg c, if_neg (by simp), if_pos rfl, right_eq a (jl l m) k (by omega) (by omega), has_eq a (jl l m) x k (by omega) (by omega), has_eq a l x k (by omega) (by omega), has_eq a m x k (by omega) (by omega), most_eq a (jl l m) k (by omega) (by omega), most_eq a l k (by omega) (by omega), most_eq a m k (by omega) (by omega), decide_eq_true gj, has_of gj, has_of hl, has_of g, most_join hl g gj, head_eq k (by omega)]
      simp only [Option.bind_some, if_true, decide_eq_true_eq]
      by_cases c1 : x ≤ a ∨ x ∈ l
      · rw [if_pos c1, if_pos (by simp only [beq_iff_eq, decide_eq_true_eq]; exact c1.imp id (fun h => (jl_mem l m x).2 (.inl h)))]
      · rw [if_neg c1, if_pos]
        simp only [beq_iff_eq]
        refine decide_eq_decide.2 ⟨fun h => ?_, fun h => ?_⟩
        · rcases h with h | h
          · exact .inl h
          · exact ((jl_mem l m x).1 h).elim (fun h => absurd (.inr h) c1) .inr
        · exact h.imp id (fun h => (jl_mem l m x).2 (.inr h))
  · rw [if_neg g, head_eq k (by omega)]
    rfl
theorem members_j1 (k : Nat) (hk : 5000 ≤ k) (a : Int) (l m : List Int) (n x : Int) (hl : D.Good a l) (b : Int) (hm : m.length ≤ 1100) : lockkeeperlaw04_LsnsMembers.j1 (k + 2) n x false a l b m = some true := by
  have h1 := hl.2
  have hr : raise_ a l n = (mx n a, l.filter (fun y => decide (y > mx n a)), 0) := by unfold raise_; rw [if_pos hl]
  have gr := raise_good hl n
  have hf : (l.filter (fun y => decide (y > mx n a))).length ≤ 1000 := gr.2
  have hmx : ∀ y : Int, y ≤ mx n a ↔ y ≤ n ∨ y ≤ a := fun y => by unfold mx; split <;> omega
  have key : decide (x ≤ mx n a ∨ x ∈ l.filter (fun y => decide (y > mx n a))) = (decide (x ≤ a ∨ x ∈ l) || decide (x ≤ n)) := by
    rw [← Bool.decide_or]
    refine decide_eq_decide.2 ?_
    rw [List.mem_filter, hmx]
    simp only [decide_eq_true_eq]
    constructor
    · rintro ((h | h) | h)
      · exact .inr h
      · exact .inl (.inl h)
      · exact .inl (.inr h.1)
    · rintro ((h | h) | h)
      · exact .inl (.inr h)
      · by_cases h9 : x ≤ mx n a
        · exact .inl ((hmx x).1 h9)
        · exact .inr ⟨h, by omega⟩
      · exact .inl (.inl h)
  simp only [lockkeeperlaw04_LsnsMembers.j1]
  rw [if_neg (by simp), raise_eq a l n (k + 1) (by omega) (by omega), hr]
  simp only [Option.bind_some, if_true]
  rw [right_eq _ _ (k + 1) (by omega) (by omega), has_eq _ _ x (k + 1) (by omega) (by omega), has_eq a l x (k + 1) (by omega) (by omega), decide_eq_true gr, has_of gr, has_of hl, key]
  simp only [Option.bind_some, if_true, decide_eq_true_eq]
  by_cases c : x ≤ a ∨ x ∈ l
  · rw [if_pos c]
    have e : (((decide (x ≤ a ∨ x ∈ l) || decide (x ≤ n))) != true) = false := by simp [c]
    rw [e]
    exact members_j2 k hk a l m x hl b hm
  · rw [if_neg c]
    have e : (((decide (x ≤ a ∨ x ∈ l) || decide (x ≤ n))) != decide (x ≤ n)) = false := by simp [c]
    rw [e]
    exact members_j2 k hk a l m x hl b hm
theorem members_j0 (k : Nat) (hk : 5000 ≤ k) (a : Int) (l m : List Int) (n x : Int) (hl : D.Good a l) (b : Int) (hm : m.length ≤ 1100) : lockkeeperlaw04_LsnsMembers.j0 (k + 3) n x false a l b m = some true := by
  have h1 := hl.2
  have h' := good_iff.1 hl
  simp only [lockkeeperlaw04_LsnsMembers.j0]
  rw [if_neg (by simp), add_eq a l n (k + 2) (by omega) (by omega)]
  simp only [Option.bind_some]
  unfold add_
  rw [if_neg (not_not_intro hl)]
  by_cases c : ¬ (n ≤ a ∨ n ∈ l) ∧ l.length = 1000
  · rw [if_pos c, if_neg (by simp)]
    exact members_j1 k hk a l m n x hl b hm
  · have ga : D.Good a (addl a l n) := addl_good hl n (by
      by_cases h1 : n ≤ a
      · exact .inl h1
      · by_cases h2 : n ∈ l
        · exact .inr (.inl h2)
        · refine .inr (.inr ?_)
          have := hl.2
          rcases Nat.lt_or_ge l.length 1000 with h | h
          · exact h
          · exact absurd ⟨fun h3 => h3.elim h1 h2, by omega⟩ c)
    have key : decide (x ≤ a ∨ x ∈ addl a l n) = (decide (x ≤ a ∨ x ∈ l) || decide (x = n)) := by
      rw [← Bool.decide_or]
      refine decide_eq_decide.2 ?_
      rw [addl_mem h'.2.1]
      constructor
      · rintro (h | h | h)
        · exact .inl (.inl h)
        · exact .inl (.inr h)
        · exact .inr h.1
      · rintro ((h | h) | h)
        · exact .inl h
        · exact .inr (.inl h)
        · by_cases h9 : x ≤ a
          · exact .inl h9
          · exact .inr (.inr ⟨h, by omega⟩)
    have hal : (addl a l n).length ≤ 1000 := ga.2
    rw [if_neg c, if_pos rfl]
    dsimp only
    rw [right_eq a (addl a l n) (k + 2) (by omega) (by omega), has_eq a (addl a l n) x (k + 2) (by omega) (by omega), has_eq a l x (k + 2) (by omega) (by omega), decide_eq_true ga, has_of ga, has_of hl, key]
    simp only [Option.bind_some, if_true, decide_eq_true_eq]
    by_cases c2 : x ≤ a ∨ x ∈ l
    · rw [if_pos c2, if_neg (by simp [c2])]
      exact members_j1 k hk a l m n x hl b hm
    · rw [if_neg c2, if_neg (by
        by_cases e : x = n
        · simp [e]
        · simp [c2, e])]
      exact members_j1 k hk a l m n x hl b hm
theorem LsnsMembers : lockkeeperlaw04_LsnsMembers.Pure := by
  intro a l b m n x _ hl _ _ hm _ _ _
  refine ⟨6003, ?_⟩
  generalize hk : 6000 = k
  rw [show 6003 = k + 3 by omega]
  have hd : lockkeeperlaw04_LsnsMembers.j0 (k + 3) n x true a l b m = some true := by
    simp only [lockkeeperlaw04_LsnsMembers.j0]
    rw [if_pos trivial, head_eq (k + 2) (by omega)]
    rfl
  unfold lockkeeperlaw04_LsnsMembers.f lockkeeperlaw04_great.f
  simp only [Option.bind_some, decide_eq_true_eq]
  by_cases h1 : l.length ≤ 1100
  · rw [if_neg (by omega)]
    by_cases h2 : m.length ≤ 1100
    · rw [if_neg (by omega), right_eq a l _ (by omega) (by omega)]
      simp only [Option.bind_some]
      by_cases g : D.Good a l
      · rw [decide_eq_true g]
        exact members_j0 k (by omega) a l m n x g b h2
      · rw [decide_eq_false g]
        exact hd
    · rw [if_pos (by omega)]; exact hd
  · rw [if_pos (by omega)]; exact hd
end Go.Proofs.Ytebmpoonkmcjfaa.Pure
