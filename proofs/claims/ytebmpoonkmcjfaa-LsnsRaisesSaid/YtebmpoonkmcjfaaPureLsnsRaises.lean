/- LsnsRaises' plain law: raising twice is raising to the greater one; adding ahead of raising, or behind it, is the same. -/
import Derived.Test.YtebmpoonkmcjfaaPlain
import Derived.Test.YtebmpoonkmcjfaaPx7
namespace Go.Proofs.Ytebmpoonkmcjfaa.Pure
set_option linter.unusedVariables false
set_option linter.unusedSimpArgs false
open Go.RowKit Go.Proofs.Ytebmpoonkmcjfaa.P Go.Proofs.YtebmpoonkmcjfaaW.PrintWords Go.Proofs.YtebmpoonkmcjfaaW.PrintLast Go.Proofs.YtebmpoonkmcjfaaW.PrintMore

theorem mx_lt (a b x : Int) : mx a b < x ↔ a < x ∧ b < x := by
  unfold mx
  split <;> omega
theorem mx_mx (a b low : Int) : mx b (mx a low) = mx (mx a b) low := by
  unfold mx
  repeat' split
  all_goals omega
theorem raise_ok {low : Int} {l : List Int} (h : P.Good low l) (n : Int) : raise_ low l n = (mx n low, l.filter (fun x => decide (x > mx n low)), 0) := if_pos h
theorem raise_twice (low : Int) (l : List Int) (a b : Int) : (l.filter (fun x => decide (x > mx a low))).filter (fun x => decide (x > mx b (mx a low))) = l.filter (fun x => decide (x > mx (mx a b) low)) := by
  rw [List.filter_filter]
  congr 1
  funext x
  have h1 := mx_lt a low x
  have h2 := mx_lt b (mx a low) x
  have h3 := mx_lt (mx a b) low x
  have h4 := mx_lt a b x
  rw [← Bool.decide_and]
  apply decide_eq_decide.2
  simp only [gt_iff_lt]
  rw [h2, h1, h3, h4]
  constructor
  · rintro ⟨⟨h, _⟩, h5, h6⟩
    exact ⟨⟨h5, h⟩, h6⟩
  · rintro ⟨⟨h5, h⟩, h6⟩
    exact ⟨⟨h, h5, h6⟩, h5, h6⟩
theorem add_raise {low : Int} {l : List Int} (h : P.Good low l) (a b : Int) : (addl low l b).filter (fun x => decide (x > mx a low)) = addl (mx a low) (l.filter (fun x => decide (x > mx a low))) b := by
  have h' := good_iff.1 h
  refine sorted_ext ((addl_sorted h'.1 b).filter _) (addl_sorted (h'.1.filter _) b) (fun x => ?_)
  rw [addl_mem (fun x hx => by have := (List.mem_filter.1 hx).2; simpa using this), List.mem_filter, List.mem_filter, addl_mem h'.2.1]
  have h1 := mx_lt a low x
  simp only [decide_eq_true_eq, gt_iff_lt]
  constructor
  · rintro ⟨h2 | ⟨rfl, h2⟩, h3⟩
    · exact .inl ⟨h2, h3⟩
    · exact .inr ⟨rfl, h3⟩
  · rintro (⟨h2, h3⟩ | ⟨rfl, h3⟩)
    · exact ⟨.inl h2, h3⟩
    · exact ⟨.inr ⟨rfl, (h1.1 h3).2⟩, h3⟩
theorem raises_j0 (a b low : Int) (l : List Int) (c : Bool) (k : Nat) (hk : 41 ≤ k) (hc : c = false → P.Good low l ∧ 1100 ≤ k) : lockkeeperlaw04_LsnsRaises.j0 k a b c low l = some true := by
  obtain ⟨k, rfl⟩ : ∃ j, k = j + 1 := ⟨k - 1, by omega⟩
  simp only [lockkeeperlaw04_LsnsRaises.j0]
  cases c
  · obtain ⟨hg, h3⟩ := hc rfl
    have hl := hg.2
    have gx := raise_good hg a
    have hlx := gx.2
    have gy := raise_good gx b
    have hly := gy.2
    have e1 := mx_mx a b low
    have e2 := raise_twice low l a b
    rw [if_neg (by simp), raise_eq low l a k (by omega) (by omega), raise_ok hg]
    simp only [Option.bind_some]
    rw [raise_eq _ _ b k (by omega) (by omega), raise_ok gx, raise_eq low l (mx a b) k (by omega) (by omega), raise_ok hg]
    simp only [Option.bind_some]
    simp only [if_true]
    rw [same_eq _ _ _ _ k (by omega) (by omega), decide_eq_true ⟨e1, e2⟩]
    simp only [Option.bind_some, if_true]
    rw [add_eq low l b k (by omega) (by omega), add_eq _ _ b k (by omega) (by omega)]
    by_cases hf : ¬ (b ≤ low ∨ b ∈ l) ∧ l.length = 1000
    · have e3 : add_ low l b = (0, [], 6) := by unfold add_; rw [if_neg (not_not_intro hg), if_pos hf]
      rw [e3]
      simp only [Option.bind_some]
      rw [raise_eq 0 [] a k (by simp) (by simp; omega)]
      simp only [Option.bind_some]
      simp [head_eq k (by omega)]
    · have e3 : add_ low l b = (low, addl low l b, 0) := by unfold add_; rw [if_neg (not_not_intro hg), if_neg hf]
      have gp : P.Good low (addl low l b) := addl_good hg b (by
        rcases Classical.em (b ≤ low ∨ b ∈ l) with h | h
        · exact h.elim .inl (fun h => .inr (.inl h))
        · have : l.length ≠ 1000 := fun h1 => hf ⟨h, h1⟩
          exact .inr (.inr (by omega)))
      have hlp := gp.2
      rw [e3]
      simp only [Option.bind_some]
      rw [raise_eq _ _ a k (by omega) (by omega), raise_ok gp]
      simp only [Option.bind_some]
      by_cases hf2 : ¬ (b ≤ mx a low ∨ b ∈ l.filter (fun x => decide (x > mx a low))) ∧ (l.filter (fun x => decide (x > mx a low))).length = 1000
      · have e4 : add_ (mx a low) (l.filter (fun x => decide (x > mx a low))) b = (0, [], 6) := by unfold add_; rw [if_neg (not_not_intro gx), if_pos hf2]
        rw [e4]
        simp [head_eq k (by omega)]
      · have e4 : add_ (mx a low) (l.filter (fun x => decide (x > mx a low))) b = (mx a low, addl (mx a low) (l.filter (fun x => decide (x > mx a low))) b, 0) := by unfold add_; rw [if_neg (not_not_intro gx), if_neg hf2]
        have e5 := add_raise hg a b
        have := List.length_filter_le (fun x => decide (x > mx a low)) (addl low l b)
        rw [e4]
        simp only [Option.bind_some, if_true]
        rw [same_eq _ _ _ _ k (by omega) (by omega), decide_eq_true ⟨rfl, e5⟩]
        simp only [Option.bind_some, if_true]
        rw [head_eq k (by omega)]
        rfl
  · rw [if_pos rfl, head_eq k (by omega)]
    rfl
theorem LsnsRaises : lockkeeperlaw04_LsnsRaises.Pure := by
  intro low l a b _ _ _ _ _
  refine ⟨1201, ?_⟩
  generalize hK : (1201 : Nat) = K
  unfold lockkeeperlaw04_LsnsRaises.f lockkeeperlaw04_great.f
  simp only [Option.bind_some]
  by_cases h1 : (l.length : Int) > 1100
  · rw [if_pos (decide_eq_true h1)]
    exact raises_j0 _ _ _ _ _ _ (by omega) (fun h => by cases h)
  · rw [if_neg (by simpa using h1), right_eq low l K (by omega) (by omega)]
    simp only [Option.bind_some]
    refine raises_j0 _ _ _ _ _ _ (by omega) (fun h => ?_)
    have : P.Good low l := by simpa using h
    exact ⟨this, by omega⟩
end Go.Proofs.Ytebmpoonkmcjfaa.Pure
