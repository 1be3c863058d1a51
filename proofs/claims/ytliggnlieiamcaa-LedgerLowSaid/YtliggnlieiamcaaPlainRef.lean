/- Plain words: what the document's functions of layer 25, ledger.Same and the law's head come to. -/
import Derived.Test.YtliggnlieiamcaaPlain
namespace Go.Proofs.Ytliggnlieiamcaa.P
set_option linter.unusedVariables false
set_option linter.unusedSimpArgs false
open Go.RowKit Go.Proofs.YtliggnlieiamcaaW.PrintWords Go.Proofs.YtliggnlieiamcaaW.PrintLast Go.Proofs.YtliggnlieiamcaaW.PrintMore

theorem rcheck_l0 (last : Int) (l : List Int) (hn : l.length < 4611686018427387904) : ∀ (d k i : Nat), l.length - i = d → i ≤ l.length → d < k → (∀ j : Nat, j < i → 1 ≤ rd l j) →
    lockkeeperref25_Check.l0 k i last l = some (if okF (if i = 0 then 0 else rd l ((i - 1 : Nat) : Int)) last (l.drop i) = true then 0 else 250) := by
  intro d
  induction d with
  | zero =>
    intro k i hd hi hk _
    obtain ⟨k, rfl⟩ : ∃ m, k = m + 1 := ⟨k - 1, by omega⟩
    have : i = l.length := by omega
    subst this
    simp only [lockkeeperref25_Check.l0, List.drop_length, okF, if_true]
    rw [if_neg (by omega)]
  | succ d ih =>
    intro k i hd hi hk hpos
    obtain ⟨k, rfl⟩ : ∃ m, k = m + 1 := ⟨k - 1, by omega⟩
    have hlt : i < l.length := by omega
    simp only [lockkeeperref25_Check.l0]
    rw [if_pos (by omega), if_pos (by omega), drop_rd l i hlt, okF]
    have hnext : 1 ≤ rd l i → lockkeeperref25_Check.l0 k (wrap64 (i + 1)) last l = some (if okF (rd l i) last (l.drop (i + 1)) = true then 0 else 250) := fun h1 => by
      rw [w64 (by omega) (by omega), show (i : Int) + 1 = ((i + 1 : Nat) : Int) by omega, ih k (i + 1) (by omega) (by omega) (by omega) (fun j hj => by
        rcases Nat.lt_or_ge j i with h | h
        · exact hpos j h
        · obtain rfl : j = i := by omega
          exact h1)]
      rw [if_neg (show ¬ (i + 1 = 0) by omega), Nat.add_sub_cancel]
    by_cases h1 : rd l i < 1
    · rw [if_pos h1, if_neg]
      simp only [Bool.and_eq_true, decide_eq_true_eq]
      split
      · omega
      · have := hpos (i - 1) (by omega)
        omega
    · rw [if_neg h1]
      by_cases h2 : rd l i > last
      · rw [if_pos h2, if_neg]
        simp only [Bool.and_eq_true, decide_eq_true_eq]
        omega
      · rw [if_neg h2, hnext (by omega), decide_eq_true (show rd l i ≤ last by omega), Bool.true_and]
        by_cases h3 : i = 0
        · subst h3
          rw [if_neg (by omega), if_pos rfl, decide_eq_true (show 0 < rd l ((0 : Nat) : Int) by omega), Bool.true_and]
        · rw [if_pos (by omega), w64 (by omega) (by omega), if_pos (by omega), if_pos (by omega), if_neg h3, show (i : Int) - 1 = ((i - 1 : Nat) : Int) by omega]
          by_cases h4 : rd l i ≤ rd l ((i - 1 : Nat) : Int)
          · rw [if_pos h4, decide_eq_false (by omega), Bool.false_and, if_neg (by simp)]
          · rw [if_neg h4, decide_eq_true (by omega), Bool.true_and]
theorem rcheck_eq (last : Int) (l : List Int) (k : Nat) (hn : l.length < 4611686018427387904) (hk : l.length + 1 < k) : lockkeeperref25_Check.f k last l = some (chk last l) := by
  unfold lockkeeperref25_Check.f chk
  obtain ⟨k, rfl⟩ : ∃ m, k = m + 1 := ⟨k - 1, by omega⟩
  have h := rcheck_l0 last l hn l.length k 0 (by omega) (by omega) (by omega) (fun j hj => absurd hj (Nat.not_lt_zero _))
  rw [List.drop_zero, if_pos rfl, show ((0 : Nat) : Int) = 0 from rfl] at h
  simp only [lockkeeperref25_Check.j0, if_true]
  rw [h]
  by_cases h1 : l.length ≤ 1000
  · rw [if_neg (by omega)]
    by_cases h2 : last ≤ 281474976710656
    · rw [if_neg (by simp; omega)]
      by_cases ho : okF 0 last l = true
      · rw [if_pos ho, if_pos (show Good last l from ⟨ho, h1, h2⟩)]
      · rw [if_neg ho, if_neg (fun h : Good last l => ho h.1)]
    · rw [if_pos (by simp; omega), if_neg (fun h : Good last l => h2 h.2.2)]
  · rw [if_pos (by omega), if_neg (fun h : Good last l => h1 h.2.1)]
theorem rcopy_eq (last : Int) (l : List Int) (hn : l.length < 17592186044416) : lockkeeperref25_Copy.f last l = some (last, l) := by
  unfold lockkeeperref25_Copy.f
  simp [hn]
theorem rgive_j1 (last : Int) (l : List Int) (n : Int) (op b : Bool) (k : Nat) (hn : l.length < 17592186044415) (hk : 1 ≤ k) : lockkeeperref25_Give.j1 k n op b last l = some (if b then (0, [], 6) else (n, if op then l ++ [n] else l, 0)) := by
  obtain ⟨k, rfl⟩ : ∃ m, k = m + 1 := ⟨k - 1, by omega⟩
  simp only [lockkeeperref25_Give.j1]
  rw [rcopy_eq last l (by omega)]
  cases b <;> cases op <;> simp
  omega
theorem rgive_j0 (last : Int) (l : List Int) (n : Int) (op b : Bool) (k : Nat) (hn : l.length < 17592186044415) (hk : 2 ≤ k) : lockkeeperref25_Give.j0 k n op b last l = some (if b then (0, [], 250) else if last = 281474976710656 ∨ (op = true ∧ l.length = 1000) then (0, [], 6) else (n, if op then l ++ [n] else l, 0)) := by
  obtain ⟨k, rfl⟩ : ∃ m, k = m + 1 := ⟨k - 1, by omega⟩
  simp only [lockkeeperref25_Give.j0]
  rw [rgive_j1 last l n op _ k hn (by omega), rgive_j1 last l n op _ k hn (by omega), rgive_j1 last l n op _ k hn (by omega)]
  cases b
  · by_cases h1 : last = 281474976710656
    · simp [h1]
    · cases op
      · simp [h1]
      · by_cases h2 : l.length = 1000
        · simp [h1, h2]
        · have h3 : ¬ ((l.length : Int) = 1000) := by omega
          simp [h1, h2, h3]
  · simp
theorem rgive_eq (last : Int) (l : List Int) (n : Int) (op : Bool) (k : Nat) (h0 : 0 ≤ last) (h1 : last ≤ 18446744073709551615) (n0 : 0 ≤ n) (n1 : n ≤ 18446744073709551615) (hn : l.length < 17592186044415) (hk : l.length + 2 ≤ k) : lockkeeperref25_Give.f k last l n op = some (give_ last l n op) := by
  unfold lockkeeperref25_Give.f give_
  rw [rcheck_eq last l k (by omega) (by omega)]
  simp only [Option.bind_some, chk_zero]
  rw [rgive_j0 last l n op _ k hn (by omega), rgive_j0 last l n op _ k hn (by omega)]
  by_cases hg : Good last l
  · rw [if_pos hg]
    have hl := hg.2.2
    by_cases h3 : n = 0
    · have : n ≠ last + 1 := by omega
      simp [h3, hg]
      omega
    · rw [if_neg h3, wu64 (by omega) (by omega)]
      by_cases h2 : n = last + 1
      · simp [hg, h2]
      · have h4 : ¬ (n - 1 = last) := by omega
        simp [hg, h2, h4]
  · simp [hg]
theorem risopen_l0 (last : Int) (l : List Int) (n : Int) (hn : l.length < 4611686018427387904) : ∀ (d k i : Nat), l.length - i = d → i ≤ l.length → 2 * d + l.length + 4 ≤ k →
    lockkeeperref25_IsOpen.l0 k n i last l = some (decide (Good last l ∧ n ∈ l.drop i)) := by
  intro d
  induction d with
  | zero =>
    intro k i hd hi hk
    obtain ⟨k, rfl⟩ : ∃ m, k = m + 2 := ⟨k - 2, by omega⟩
    have : i = l.length := by omega
    subst this
    simp only [lockkeeperref25_IsOpen.l0, lockkeeperref25_IsOpen.j1, List.drop_length]
    rw [if_neg (by omega)]
    simp
  | succ d ih =>
    intro k i hd hi hk
    obtain ⟨k, rfl⟩ : ∃ m, k = m + 2 := ⟨k - 2, by omega⟩
    have hlt : i < l.length := by omega
    simp only [lockkeeperref25_IsOpen.l0]
    rw [if_pos (by omega), rcheck_eq last l (k + 1) hn (by omega)]
    simp only [Option.bind_some, lockkeeperref25_IsOpen.j1]
    rw [drop_rd l i hlt]
    by_cases hg : Good last l
    · rw [if_pos (by simp [chk_zero, hg]), if_pos (by omega), if_pos (by omega)]
      by_cases h1 : rd l i = n
      · rw [if_pos h1]
        simp [hg, h1]
      · rw [if_neg h1, w64 (by omega) (by omega), show (i : Int) + 1 = ((i + 1 : Nat) : Int) by omega, ih k (i + 1) (by omega) (by omega) (by omega)]
        have : ¬ (n = rd l i) := fun h => h1 h.symm
        simp [this]
    · have hc : (chk last l == 0) = false := by rw [beq_eq_false_iff_ne]; exact fun h => hg (chk_zero.1 h)
      rw [hc, if_neg (by simp), decide_eq_false (fun h => hg h.1)]
theorem risopen_eq (last : Int) (l : List Int) (n : Int) (k : Nat) (hn : l.length < 4611686018427387904) (hk : 3 * l.length + 4 ≤ k) : lockkeeperref25_IsOpen.f k last l n = some (decide (Good last l ∧ n ∈ l)) := by
  unfold lockkeeperref25_IsOpen.f
  have := risopen_l0 last l n hn l.length k 0 (by omega) (by omega) (by omega)
  rwa [List.drop_zero] at this
theorem ranswer_l0 (last : Int) (l : List Int) (n last2 : Int) (hg : Good last l) : ∀ (d k i : Nat) (acc : List Int), l.length - i = d → i ≤ l.length → d + 3 * l.length + 5 ≤ k → acc.length ≤ i →
    lockkeeperref25_Answer.l0 k n i last l last2 acc = some (last2, acc ++ (l.drop i).filter (fun x => decide (x ≠ n)), decide (n ∈ l), 0) := by
  have hlen := hg.2.1
  intro d
  induction d with
  | zero =>
    intro k i acc hd hi hk hacc
    obtain ⟨k, rfl⟩ : ∃ m, k = m + 1 := ⟨k - 1, by omega⟩
    have : i = l.length := by omega
    subst this
    simp only [lockkeeperref25_Answer.l0, List.drop_length, List.filter_nil, List.append_nil]
    rw [if_neg (by omega), risopen_eq last l n k (by omega) (by omega)]
    simp [hg]
  | succ d ih =>
    intro k i acc hd hi hk hacc
    obtain ⟨k, rfl⟩ : ∃ m, k = m + 1 := ⟨k - 1, by omega⟩
    have hlt : i < l.length := by omega
    simp only [lockkeeperref25_Answer.l0]
    rw [if_pos (by omega), if_pos (by omega), w64 (by omega) (by omega), show (i : Int) + 1 = ((i + 1 : Nat) : Int) by omega, drop_rd l i hlt, List.filter_cons]
    by_cases h1 : rd l i = n
    · rw [if_pos h1, ih k (i + 1) acc (by omega) (by omega) (by omega) (by omega)]
      simp [h1]
    · rw [if_neg h1, if_pos (by omega), ih k (i + 1) _ (by omega) (by omega) (by omega) (by rw [List.length_append, List.length_singleton]; omega)]
      simp [h1]
theorem ranswer_eq (last : Int) (l : List Int) (n : Int) (k : Nat) (hn : l.length < 17592186044415) (hk : 4 * l.length + 6 ≤ k) : lockkeeperref25_Answer.f k last l n = some (answer_ last l n) := by
  unfold lockkeeperref25_Answer.f answer_
  rw [rcheck_eq last l k (by omega) (by omega)]
  obtain ⟨k, rfl⟩ : ∃ m, k = m + 1 := ⟨k - 1, by omega⟩
  simp only [Option.bind_some, chk_zero, lockkeeperref25_Answer.j0]
  by_cases hg : Good last l
  · rw [if_pos hg]
    have h := ranswer_l0 last l n last hg l.length k 0 [] (by omega) (by omega) (by omega) (by simp)
    rw [List.drop_zero, List.nil_append, show ((0 : Nat) : Int) = 0 from rfl] at h
    rw [h]
    by_cases h1 : n = 0
    · simp [h1]
    · by_cases h2 : n > last
      · simp [h1, h2]
      · simp [hg, h1, h2]
  · rw [if_neg hg]
    simp [hg]
theorem rsame_l0 (x y : Int) (a b : List Int) (hn : a.length < 4611686018427387904) (hl : a.length = b.length) : ∀ (d k i : Nat), a.length - i = d → i ≤ a.length → d < k →
    lockkeeperref25_Same.l0 k i x a y b = some (decide (a.drop i = b.drop i)) := by
  intro d
  induction d with
  | zero =>
    intro k i hd hi hk
    obtain ⟨k, rfl⟩ : ∃ m, k = m + 1 := ⟨k - 1, by omega⟩
    have : i = a.length := by omega
    subst this
    simp only [lockkeeperref25_Same.l0, List.drop_length]
    rw [if_neg (by omega), hl, List.drop_length]
    simp
  | succ d ih =>
    intro k i hd hi hk
    obtain ⟨k, rfl⟩ : ∃ m, k = m + 1 := ⟨k - 1, by omega⟩
    have hlt : i < a.length := by omega
    simp only [lockkeeperref25_Same.l0]
    rw [if_pos (by omega), if_pos (by omega), if_pos (by omega), w64 (by omega) (by omega), show (i : Int) + 1 = ((i + 1 : Nat) : Int) by omega, drop_rd a i hlt, drop_rd b i (by omega)]
    by_cases h1 : rd a i = rd b i
    · rw [if_pos h1, ih k (i + 1) (by omega) (by omega) (by omega)]
      simp [h1]
    · rw [if_neg h1]
      simp [h1]
theorem rsame_eq (x y : Int) (a b : List Int) (k : Nat) (hn : a.length < 4611686018427387904) (hk : a.length + 1 < k) : lockkeeperref25_Same.f k x a y b = some (decide (x = y ∧ a = b)) := by
  unfold lockkeeperref25_Same.f
  obtain ⟨k, rfl⟩ : ∃ m, k = m + 1 := ⟨k - 1, by omega⟩
  simp only [lockkeeperref25_Same.j0]
  by_cases h1 : x = y
  · rw [if_pos h1]
    by_cases h2 : a.length = b.length
    · have h := rsame_l0 x y a b hn h2 a.length k 0 (by omega) (by omega) (by omega)
      rw [List.drop_zero, List.drop_zero, show ((0 : Nat) : Int) = 0 from rfl] at h
      rw [h, if_neg (by simp; omega)]
      simp [h1]
    · rw [if_pos (by simp; omega), decide_eq_false]
      rintro ⟨_, rfl⟩
      exact h2 rfl
  · rw [if_neg h1, if_pos trivial, decide_eq_false (fun h => h1 h.1)]
theorem sequal_l0 (a b : List Int) (hn : a.length < 4611686018427387904) (hl : a.length = b.length) : ∀ (d k i : Nat), a.length - i = d → i ≤ a.length → d < k →
    slices_Equal_uint64_uint64.l0 k a b a.length i = some (decide (a.drop i = b.drop i)) := by
  intro d
  induction d with
  | zero =>
    intro k i hd hi hk
    obtain ⟨k, rfl⟩ : ∃ m, k = m + 1 := ⟨k - 1, by omega⟩
    have : i = a.length := by omega
    subst this
    simp only [slices_Equal_uint64_uint64.l0, List.drop_length]
    rw [if_neg (by omega), hl, List.drop_length]
    simp
  | succ d ih =>
    intro k i hd hi hk
    obtain ⟨k, rfl⟩ : ∃ m, k = m + 1 := ⟨k - 1, by omega⟩
    have hlt : i < a.length := by omega
    simp only [slices_Equal_uint64_uint64.l0]
    rw [if_pos (by omega), if_pos (by omega), if_pos (by omega), if_pos (by omega), w64 (by omega) (by omega), show (i : Int) + 1 = ((i + 1 : Nat) : Int) by omega, drop_rd a i hlt, drop_rd b i (by omega)]
    by_cases h1 : rd a i = rd b i
    · rw [if_pos h1, ih k (i + 1) (by omega) (by omega) (by omega)]
      simp [h1]
    · rw [if_neg h1]
      simp [h1]
theorem same_eq (x y : Int) (a b : List Int) (k : Nat) (hn : a.length < 4611686018427387904) (hk : a.length < k) : ledger_Same.f k x a y b = some (decide (x = y ∧ a = b)) := by
  unfold ledger_Same.f slices_Equal_uint64_uint64.f
  by_cases h1 : x = y
  · rw [if_pos h1]
    by_cases h2 : a.length = b.length
    · have h := sequal_l0 a b hn h2 a.length k 0 (by omega) (by omega) (by omega)
      rw [List.drop_zero, List.drop_zero, show ((0 : Nat) : Int) = 0 from rfl] at h
      rw [if_pos (by omega), h]
      simp [h1]
    · rw [if_neg (by omega)]
      simp only [Option.bind_some]
      rw [decide_eq_false]
      rintro ⟨_, rfl⟩
      exact h2 rfl
  · rw [if_neg h1, decide_eq_false (fun h => h1 h.1)]
theorem rlow_tail (last : Int) (l : List Int) (x : Int) (hn : l.length < 4611686018427387904) : ∀ (d k i : Nat), l.length - i = d → i ≤ l.length → d < k → (∀ y ∈ l.drop i, x < y) → lockkeeperref25_Low.l0 k x i last l = some x := by
  intro d
  induction d with
  | zero =>
    intro k i hd hi hk _
    obtain ⟨k, rfl⟩ : ∃ m, k = m + 1 := ⟨k - 1, by omega⟩
    simp only [lockkeeperref25_Low.l0]
    rw [if_neg (by omega)]
  | succ d ih =>
    intro k i hd hi hk hx
    obtain ⟨k, rfl⟩ : ∃ m, k = m + 1 := ⟨k - 1, by omega⟩
    have hlt : i < l.length := by omega
    simp only [lockkeeperref25_Low.l0]
    have := hx (rd l i) (by rw [drop_rd l i hlt]; exact List.mem_cons_self)
    rw [if_pos (by omega), if_pos (by omega), if_neg (by omega), w64 (by omega) (by omega), show (i : Int) + 1 = ((i + 1 : Nat) : Int) by omega]
    exact ih k (i + 1) (by omega) (by omega) (by omega) (fun y hy => hx y (by rw [drop_rd l i hlt]; exact List.mem_cons_of_mem _ hy))
theorem rlow_eq (last : Int) (l : List Int) (k : Nat) (hn : l.length < 4611686018427387904) (hk : l.length + 1 < k) : lockkeeperref25_Low.f k last l = some (low_ last l) := by
  unfold lockkeeperref25_Low.f low_
  rw [rcheck_eq last l k hn hk]
  obtain ⟨k, rfl⟩ : ∃ m, k = m + 1 := ⟨k - 1, by omega⟩
  simp only [Option.bind_some, chk_zero]
  by_cases hg : Good last l
  · rw [if_pos hg, if_pos hg]
    cases l with
    | nil => simp [lockkeeperref25_Low.l0]
    | cons x t =>
      have h1 := okF_mono hg.1 x List.mem_cons_self
      have h2 := hg.2.2
      have h3 := List.pairwise_cons.1 (okF_sorted hg.1)
      simp only [lockkeeperref25_Low.l0]
      rw [if_pos (by simp), if_pos (by omega)]
      simp only [rd, Int.toNat_zero, List.getD_cons_zero]
      rw [if_pos (by omega), wu64 (by omega) (by omega), w64 (by omega) (by omega)]
      simp only [List.length_cons] at hk hn
      have := rlow_tail last (x :: t) (x - 1) (by simpa using hn) t.length k 1 (by simp) (by simp) (by omega) (fun y hy => by
        have := h3.1 y (by simpa using hy)
        omega)
      rw [show ((1 : Nat) : Int) = 0 + 1 by omega] at this
      exact this
  · rw [if_neg hg, if_neg hg]

theorem head_eq (k : Nat) (hk : 20 ≤ k) : lockkeeperlaw25_head.f k = some true := by
  have g0 : Good 0 [] := by decide
  have g1 : Good 1 [1] := by decide
  have g2 : Good 2 [1] := by decide
  have g3 : Good 3 [1, 3] := by decide
  have g4 : Good 3 [1] := by decide
  have g5 : Good 3 [] := by decide
  have e1 : give_ 0 [] 1 true = (1, [1], 0) := by decide
  have e2 : give_ 1 [1] 2 false = (2, [1], 0) := by decide
  have e3 : give_ 2 [1] 3 true = (3, [1, 3], 0) := by decide
  have e4 : answer_ 3 [1, 3] 3 = (3, [1], true, 0) := by decide
  have e5 : answer_ 3 [1] 1 = (3, [], true, 0) := by decide
  have e6 : answer_ 3 [] 1 = (3, [], false, 0) := by decide
  have e7 : give_ 3 [1, 3] 5 false = (0, [], 250) := by decide
  have e8 : low_ 3 [1, 3] = 0 := by decide
  have e9 : low_ 3 [1] = 0 := by decide
  have e10 : low_ 3 [] = 3 := by decide
  unfold lockkeeperlaw25_head.f
  rw [give_eq 0 [] 1 true k (by omega) (by omega) (by simp) (by simp; omega), e1]
  simp only [Option.bind_some]
  rw [give_eq 1 [1] 2 false k (by omega) (by omega) (by simp) (by simp; omega), e2]
  simp only [Option.bind_some]
  rw [give_eq 2 [1] 3 true k (by omega) (by omega) (by simp) (by simp; omega), e3]
  simp only [Option.bind_some]
  rw [answer_eq 3 [1, 3] 3 k (by simp) (by simp; omega), e4]
  simp only [Option.bind_some]
  rw [answer_eq 3 [1] 1 k (by simp) (by simp; omega), e5]
  simp only [Option.bind_some]
  rw [answer_eq 3 [] 1 k (by simp) (by simp; omega), e6]
  simp only [Option.bind_some]
  rw [give_eq 3 [1, 3] 5 false k (by omega) (by omega) (by simp) (by simp; omega), e7, low_eq 3 [1, 3] k (by simp) (by simp; omega), e8, low_eq 3 [1] k (by simp) (by simp; omega), e9, low_eq 3 [] k (by simp) (by simp; omega), e10,
    isopen_eq 3 [1, 3] 3 k (by simp) (by simp; omega), isopen_eq 3 [1, 3] 2 k (by simp) (by simp; omega)]
  simp [g3]
end Go.Proofs.Ytliggnlieiamcaa.P
