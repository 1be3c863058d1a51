/- LsnsOrder's plain law: the order in which numbers are added does not matter, nor whether some come twice. -/
import Derived.Test.YtebmpoonkmcjfaaPlain
import Derived.Test.YtebmpoonkmcjfaaPx5
namespace Go.Proofs.Ytebmpoonkmcjfaa.Pure
set_option linter.unusedVariables false
set_option linter.unusedSimpArgs false
open Go.RowKit Go.Proofs.Ytebmpoonkmcjfaa.P Go.Proofs.YtebmpoonkmcjfaaW.PrintWords Go.Proofs.YtebmpoonkmcjfaaW.PrintLast Go.Proofs.YtebmpoonkmcjfaaW.PrintMore

theorem add_ok {low : Int} {l : List Int} (h : P.Good low l) (hl : l.length < 1000) (n : Int) : add_ low l n = (low, addl low l n, 0) := by
  unfold add_
  rw [if_neg (not_not_intro h), if_neg (fun h1 => by have := h1.2; omega)]
theorem addl_twice (low : Int) (l : List Int) (hx : ∀ x ∈ l, low < x) (n : Int) : addl low (addl low l n) n = addl low l n := by
  have h : n ≤ low ∨ n ∈ addl low l n := by
    rcases Int.lt_or_le low n with h1 | h1
    · exact .inr ((addl_mem hx n n).2 (.inr ⟨rfl, h1⟩))
    · exact .inl h1
  have key : ∀ m : List Int, (n ≤ low ∨ n ∈ m) → addl low m n = m := fun m h => if_pos h
  exact key _ h
theorem good_of {low : Int} {l : List Int} (hs : l.Pairwise (· < ·)) (hx : ∀ x ∈ l, low < x) (hl : l.length ≤ 1000) : P.Good low l := good_iff.2 ⟨hs, hx, hl⟩
theorem order_l0 (xs : List Int) (low : Int) (hn : xs.length ≤ 60) : ∀ (d k i : Nat) (A B : List Int), xs.length - i = d → i ≤ xs.length → d + 1100 < k →
    A.Pairwise (· < ·) → (∀ x, x ∈ A ↔ low < x ∧ ∃ j : Nat, j < i ∧ rd xs j = x) → A.length ≤ i →
    B.Pairwise (· < ·) → (∀ x, x ∈ B ↔ low < x ∧ ∃ j : Nat, j < i ∧ rd xs ((xs.length - 1 - j : Nat) : Int) = x) → B.length ≤ i →
    lockkeeperlaw04_LsnsOrder.l0 k xs i low A low B = some true := by
  intro d
  induction d with
  | zero =>
    intro k i A B hd hi hk hA hAm hAl hB hBm hBl
    obtain ⟨k, rfl⟩ : ∃ m, k = m + 1 := ⟨k - 1, by omega⟩
    simp only [lockkeeperlaw04_LsnsOrder.l0]
    have e : A = B := sorted_ext hA hB (fun x => by
      rw [hAm, hBm]
      refine and_congr_right fun _ => ⟨?_, ?_⟩
      · rintro ⟨j, hj, hx⟩
        refine ⟨xs.length - 1 - j, by omega, ?_⟩
        rw [← hx, show xs.length - 1 - (xs.length - 1 - j) = j by omega]
      · rintro ⟨j, hj, hx⟩
        exact ⟨xs.length - 1 - j, by omega, hx⟩)
    rw [if_neg (by omega), same_eq low low A B k (by omega) (by omega), head_eq k (by omega)]
    simp [e]
  | succ d ih =>
    intro k i A B hd hi hk hA hAm hAl hB hBm hBl
    obtain ⟨k, rfl⟩ : ∃ m, k = m + 1 := ⟨k - 1, by omega⟩
    have hlt : i < xs.length := by omega
    have gA : P.Good low A := good_of hA (fun x hx => ((hAm x).1 hx).1) (by omega)
    have gB : P.Good low B := good_of hB (fun x hx => ((hBm x).1 hx).1) (by omega)
    have hBx : ∀ x ∈ B, low < x := fun x hx => ((hBm x).1 hx).1
    have hAx : ∀ x ∈ A, low < x := fun x hx => ((hAm x).1 hx).1
    have hidx : wrap64 (wrap64 ((xs.length : Int) - 1) - i) = ((xs.length - 1 - i : Nat) : Int) := by
      rw [w64 (i := (xs.length : Int) - 1) (by omega) (by omega), w64 (by omega) (by omega)]
      omega
    simp only [lockkeeperlaw04_LsnsOrder.l0]
    rw [if_pos (by omega), if_pos (by omega), hidx, w64 (i := (i : Int) + 1) (by omega) (by omega), show (i : Int) + 1 = ((i + 1 : Nat) : Int) by omega]
    generalize hn1 : rd xs (i : Int) = n
    generalize hm1 : rd xs ((xs.length - 1 - i : Nat) : Int) = m
    have hl1 := addl_length low A n
    have hl2 := addl_length low B m
    have gB2 : P.Good low (addl low B m) := addl_good gB m (.inr (.inr (by omega)))
    rw [add_eq low A n k (by omega) (by omega), add_ok gA (by omega), add_eq low B m k (by omega) (by omega), add_ok gB (by omega)]
    simp only [Option.bind_some]
    rw [if_pos (by omega), if_pos (by omega), add_eq low (addl low B m) m k (by omega) (by omega), add_ok gB2 (by omega), addl_twice low B hBx m]
    simp only [Option.bind_some]
    simp only [if_true]
    rw [same_eq low low _ _ k (by omega) (by omega)]
    simp only [Option.bind_some, and_self, decide_true, if_true]
    refine ih k (i + 1) _ _ (by omega) (by omega) (by omega) (addl_sorted hA n) (fun x => ?_) (by omega) (addl_sorted hB m) (fun x => ?_) (by omega)
    · rw [addl_mem hAx, hAm]
      constructor
      · rintro (⟨h1, j, hj, h2⟩ | ⟨rfl, h1⟩)
        · exact ⟨h1, j, by omega, h2⟩
        · exact ⟨h1, i, by omega, hn1⟩
      · rintro ⟨h1, j, hj, h2⟩
        rcases Nat.lt_or_ge j i with h | h
        · exact .inl ⟨h1, j, h, h2⟩
        · obtain rfl : j = i := by omega
          rw [hn1] at h2
          subst h2
          exact .inr ⟨rfl, h1⟩
    · rw [addl_mem hBx, hBm]
      constructor
      · rintro (⟨h1, j, hj, h2⟩ | ⟨rfl, h1⟩)
        · exact ⟨h1, j, by omega, h2⟩
        · exact ⟨h1, i, by omega, hm1⟩
      · rintro ⟨h1, j, hj, h2⟩
        rcases Nat.lt_or_ge j i with h | h
        · exact .inl ⟨h1, j, h, h2⟩
        · obtain rfl : j = i := by omega
          rw [hm1] at h2
          subst h2
          exact .inr ⟨rfl, h1⟩
theorem LsnsOrder : lockkeeperlaw04_LsnsOrder.Pure := by
  intro low xs _ _ _
  refine ⟨1200, ?_⟩
  generalize hK : (1200 : Nat) = K
  unfold lockkeeperlaw04_LsnsOrder.f
  by_cases h1 : (xs.length : Int) > 60
  · rw [if_pos h1, head_eq K (by omega)]
    rfl
  · rw [if_neg h1]
    exact order_l0 xs low (by omega) xs.length K 0 [] [] (by omega) (by omega) (by omega) .nil (fun x => by simp) (by simp) .nil (fun x => by simp) (by simp)
end Go.Proofs.Ytebmpoonkmcjfaa.Pure
