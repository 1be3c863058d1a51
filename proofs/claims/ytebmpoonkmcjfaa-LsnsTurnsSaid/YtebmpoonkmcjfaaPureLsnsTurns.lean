/- LsnsTurns's plain law: what Add, Raise and Join tell is the document's. -/
import Derived.Test.YtebmpoonkmcjfaaPlainE
import Derived.Test.YtebmpoonkmcjfaaEx7
namespace Go.Proofs.Ytebmpoonkmcjfaa.Pure
set_option linter.unusedVariables false
set_option linter.unusedSimpArgs false
open Go.RowKit Go.Proofs.Ytebmpoonkmcjfaa.E Go.Proofs.YtebmpoonkmcjfaaW.PrintWords Go.Proofs.YtebmpoonkmcjfaaW.PrintLast Go.Proofs.YtebmpoonkmcjfaaW.PrintMore

/-! ### Add -/
theorem with_l0 (low : Int) (l : List Int) (n : Int) (hs : l.Pairwise (· < ·)) (hn : l.length ≤ 1100) : ∀ (d k i : Nat), at_ l n - i = d → i ≤ at_ l n → d < k →
    lockkeeperref04_with.l0 k n (l.take i) i low l = some (low, ins l n) := by
  have hle := at_le l n
  have hsp := at_sorted hs n
  intro d
  induction d with
  | zero =>
    intro k i hd hi hk
    obtain ⟨k, rfl⟩ : ∃ m, k = m + 1 := ⟨k - 1, by omega⟩
    have : i = at_ l n := by omega
    subst this
    simp only [lockkeeperref04_with.l0]
    have hfin : ((some (l.take (at_ l n) ++ [n] : List Int)).bind fun y => (if ((at_ l n : Nat) : Int) ≤ (l.length : Int) then (if y.length + (l.drop ((at_ l n : Nat) : Int).toNat).length < 17592186044416 then (some (low, (y ++ (l.drop ((at_ l n : Nat) : Int).toNat)))) else (none)) else (none))) = some (low, ins l n) := by
      simp only [Option.bind_some, Int.toNat_natCast]
      rw [if_pos (by omega), if_pos (by simp only [List.length_append, List.length_take, List.length_drop, List.length_singleton]; omega)]
      rfl
    by_cases h : at_ l n < l.length
    · have := hsp.2 _ (Nat.le_refl _) h
      rw [if_pos (by omega), if_pos (by omega), if_neg (by omega), if_pos (by rw [List.length_take]; omega)]
      exact hfin
    · rw [if_neg (by omega), if_pos (by rw [List.length_take]; omega)]
      simp only [Option.bind_some, Int.toNat_natCast]
      rw [if_pos (by omega), if_pos (by omega), if_pos (by simp only [List.length_append, List.length_take, List.length_drop, List.length_singleton]; omega)]
      rfl
  | succ d ih =>
    intro k i hd hi hk
    obtain ⟨k, rfl⟩ : ∃ m, k = m + 1 := ⟨k - 1, by omega⟩
    have := hsp.1 i (by omega)
    simp only [lockkeeperref04_with.l0]
    rw [if_pos (by omega), if_pos (by omega), if_pos this, if_pos (by rw [List.length_take]; omega), w64 (by omega) (by omega), show (i : Int) + 1 = ((i + 1 : Nat) : Int) by omega]
    have e : l.take i ++ [rd l i] = l.take (i + 1) := by rw [List.take_succ_eq_append_getElem (by omega), rd_get l i (by omega)]
    rw [e]
    exact ih k (i + 1) (by omega) (by omega) (by omega)
theorem radd_eq (low : Int) (l : List Int) (n : Int) (k : Nat) (hn : l.length ≤ 1100) (hk : 5000 ≤ k) : lockkeeperref04_Add.f k low l n = some (add_ low l n) := by
  unfold lockkeeperref04_Add.f lockkeeperref04_with.f add_
  rw [rright_eq low l k (by omega) (by omega)]
  simp only [Option.bind_some, decide_eq_true_eq]
  by_cases hg : E.Good low l
  · have hl := hg.2
    rw [if_pos hg, if_neg (not_not_intro hg), rhas_eq low l n k (by omega) (by omega)]
    simp only [Option.bind_some, has_, decide_eq_true_eq]
    by_cases hm : n ≤ low ∨ n ∈ l
    · rw [if_pos ⟨hg, hm⟩, rcopy_eq low l (by omega)]
      simp only [Option.bind_some]
      rw [if_neg (by omega), if_neg (fun h => h.1 hm)]
      unfold addl
      rw [if_pos hm]
    · have h := with_l0 low l n (okG_sorted hg.1) hn (at_ l n) k 0 (by omega) (by omega) (by have := at_le l n; omega)
      rw [List.take_zero, show ((0 : Nat) : Int) = 0 from rfl] at h
      rw [if_neg (fun h => hm h.2), h]
      simp only [Option.bind_some]
      have hil := ins_length l n
      by_cases h2 : l.length = 1000
      · rw [if_pos (by omega), if_pos ⟨hm, h2⟩]
      · rw [if_neg (by omega), if_neg (fun h => h2 h.2)]
        unfold addl
        rw [if_neg hm]
  · rw [if_neg hg, if_pos hg]

/-! ### Raise -/
theorem rraise_l0 (low : Int) (l : List Int) (x : Int) (hn : l.length ≤ 1100) : ∀ (d k i : Nat), l.length - i = d → i ≤ l.length → d < k →
    lockkeeperref04_Raise.l0 k i low l x ((l.take i).filter (fun y => decide (y > x))) = some (x, l.filter (fun y => decide (y > x)), 0) := by
  intro d
  induction d with
  | zero =>
    intro k i hd hi hk
    obtain ⟨k, rfl⟩ : ∃ m, k = m + 1 := ⟨k - 1, by omega⟩
    have : i = l.length := by omega
    subst this
    simp only [lockkeeperref04_Raise.l0]
    rw [if_neg (by omega), List.take_length]
  | succ d ih =>
    intro k i hd hi hk
    obtain ⟨k, rfl⟩ : ∃ m, k = m + 1 := ⟨k - 1, by omega⟩
    have hfl : ((l.take i).filter (fun y => decide (y > x))).length ≤ 1100 := Nat.le_trans (List.length_filter_le _ _) (by rw [List.length_take]; omega)
    have e : (l.take (i + 1)).filter (fun y => decide (y > x)) = (l.take i).filter (fun y => decide (y > x)) ++ (if rd l i > x then [rd l i] else []) := by
      rw [List.take_succ_eq_append_getElem (by omega), List.filter_append, rd_get l i (by omega)]
      congr 1
      by_cases h : l[i] > x
      · rw [if_pos h]; simp [h]
      · rw [if_neg h]; simp [h]
    simp only [lockkeeperref04_Raise.l0]
    rw [if_pos (by omega), if_pos (by omega), w64 (by omega) (by omega), show (i : Int) + 1 = ((i + 1 : Nat) : Int) by omega]
    have h := ih k (i + 1) (by omega) (by omega) (by omega)
    rw [e] at h
    by_cases c : rd l i > x
    · rw [if_pos c] at h
      rw [if_pos c, if_pos (by omega)]
      exact h
    · rw [if_neg c, List.append_nil] at h
      rw [if_neg c]
      exact h
theorem rraise_eq (low : Int) (l : List Int) (n : Int) (k : Nat) (hn : l.length ≤ 1100) (hk : 5000 ≤ k) : lockkeeperref04_Raise.f k low l n = some (raise_ low l n) := by
  unfold lockkeeperref04_Raise.f raise_
  rw [rright_eq low l k (by omega) (by omega)]
  simp only [Option.bind_some, decide_eq_true_eq]
  obtain ⟨k, rfl⟩ : ∃ m, k = m + 1 := ⟨k - 1, by omega⟩
  by_cases hg : E.Good low l
  · have h := fun x => rraise_l0 low l x hn l.length k 0 (by omega) (by omega) (by omega)
    simp only [List.take_zero, List.filter_nil] at h
    rw [show ((0 : Nat) : Int) = 0 from rfl] at h
    rw [if_pos hg, if_pos hg]
    simp only [lockkeeperref04_Raise.j0]
    unfold mx
    by_cases c : n > low
    · rw [if_pos c, if_neg (by omega)]
      exact h n
    · rw [if_neg c, h low]
      by_cases c2 : n < low
      · rw [if_pos c2]
      · rw [if_neg c2, show n = low by omega]
  · rw [if_neg hg, if_neg hg]

/-! ### Join -/
def mrg : List Int → List Int → List Int
  | xs, [] => xs
  | [], y :: ys => y :: mrg [] ys
  | x :: xs, y :: ys => if x < y then x :: mrg xs (y :: ys) else if x = y then y :: mrg xs ys else y :: mrg (x :: xs) ys
termination_by xs ys => xs.length + ys.length
theorem mrg_mem : ∀ (l m : List Int) (x : Int), x ∈ mrg l m ↔ x ∈ l ∨ x ∈ m
  | xs, [], z => by simp [mrg]
  | [], y :: ys, z => by
    rw [mrg, List.mem_cons, mrg_mem [] ys z, List.mem_cons]
    simp
  | x :: xs, y :: ys, z => by
    rw [mrg]
    split
    · simp only [List.mem_cons, mrg_mem xs (y :: ys) z, or_assoc]
    · split
      · rename_i h1 h2
        rw [List.mem_cons, mrg_mem xs ys z, List.mem_cons, List.mem_cons, h2]
        constructor
        · rintro (h | h | h)
          · exact .inl (.inl h)
          · exact .inl (.inr h)
          · exact .inr (.inr h)
        · rintro ((h | h) | h | h)
          · exact .inl h
          · exact .inr (.inl h)
          · exact .inl h
          · exact .inr (.inr h)
      · rw [List.mem_cons, mrg_mem (x :: xs) ys z, List.mem_cons (a := z) (b := y)]
        constructor
        · rintro (h | h | h)
          · exact .inr (.inl h)
          · exact .inl h
          · exact .inr (.inr h)
        · rintro (h | h | h)
          · exact .inr (.inl h)
          · exact .inl h
          · exact .inr (.inr h)
termination_by xs ys => xs.length + ys.length
theorem mrg_sorted : ∀ (l m : List Int), l.Pairwise (· < ·) → m.Pairwise (· < ·) → (mrg l m).Pairwise (· < ·)
  | xs, [], h, _ => by rw [mrg]; exact h
  | [], y :: ys, h, hm => by
    rw [mrg]
    have hm' := List.pairwise_cons.1 hm
    refine .cons (fun z hz => ?_) (mrg_sorted [] ys h hm'.2)
    rcases (mrg_mem [] ys z).1 hz with h1 | h1
    · cases h1
    · exact hm'.1 z h1
  | x :: xs, y :: ys, hl, hm => by
    have hl' := List.pairwise_cons.1 hl
    have hm' := List.pairwise_cons.1 hm
    rw [mrg]
    split
    · rename_i h1
      refine .cons (fun z hz => ?_) (mrg_sorted xs (y :: ys) hl'.2 hm)
      rcases (mrg_mem xs (y :: ys) z).1 hz with h2 | h2
      · exact hl'.1 z h2
      · rcases List.mem_cons.1 h2 with rfl | h2
        · exact h1
        · have := hm'.1 z h2
          omega
    · split
      · rename_i h1 h2
        refine .cons (fun z hz => ?_) (mrg_sorted xs ys hl'.2 hm'.2)
        rcases (mrg_mem xs ys z).1 hz with h3 | h3
        · have := hl'.1 z h3
          omega
        · exact hm'.1 z h3
      · rename_i h1 h2
        refine .cons (fun z hz => ?_) (mrg_sorted (x :: xs) ys hl hm'.2)
        rcases (mrg_mem (x :: xs) ys z).1 hz with h3 | h3
        · rcases List.mem_cons.1 h3 with rfl | h3
          · omega
          · have := hl'.1 z h3
            omega
        · exact hm'.1 z h3
termination_by xs ys => xs.length + ys.length
theorem mrg_nil (m : List Int) : mrg [] m = m := by
  induction m with
  | nil => rw [mrg]
  | cons y ys ih => rw [mrg, ih]
def fin_ (a : Int) (r : List Int) : Int × List Int × Int := if 1000 < r.length then (0, [], 6) else (a, r, 0)
theorem rjoin_l0 (a b : Int) (l m : List Int) (hl : l.length ≤ 1000) (hm : m.length ≤ 1000) : ∀ (s k i j : Nat) (acc : List Int), (l.length - i) + (m.length - j) = s → i ≤ l.length → j ≤ m.length → 2 * s + 2 < k → acc.length ≤ i + j →
    lockkeeperref04_Join.l0 k i acc j b m a l = some (fin_ a (acc ++ mrg (l.drop i) (m.drop j))) ∧
      (j < m.length → lockkeeperref04_Join.l1 (k - 1) i acc j b m a l = some (fin_ a (acc ++ mrg (l.drop i) (m.drop j)))) := by
  intro s
  induction s using Nat.strongRecOn with
  | _ s ih =>
    intro k i j acc hs hi hj hk hacc
    obtain ⟨k, rfl⟩ : ∃ q, k = q + 2 := ⟨k - 2, by omega⟩
    have inner : j < m.length → lockkeeperref04_Join.l1 (k + 1) i acc j b m a l = some (fin_ a (acc ++ mrg (l.drop i) (m.drop j))) := by
      intro hj2
      simp only [lockkeeperref04_Join.l1]
      have ey : m.drop j = rd m j :: m.drop (j + 1) := drop_rd m j hj2
      by_cases h1 : i < l.length
      · have ex : l.drop i = rd l i :: l.drop (i + 1) := drop_rd l i h1
        rw [if_pos (by omega), if_pos (by omega), if_pos (by omega), if_pos (by omega)]
        by_cases c1 : rd l i < rd m j
        · have h := (ih (s - 1) (by omega) (k + 1) (i + 1) j (acc ++ [rd l i]) (by omega) (by omega) hj (by omega) (by rw [List.length_append, List.length_singleton]; omega)).2 hj2
          rw [Nat.add_sub_cancel] at h
          rw [if_pos c1, if_pos (by omega), w64 (by omega) (by omega), show (i : Int) + 1 = ((i + 1 : Nat) : Int) by omega, h, ex, ey, mrg, if_pos c1, ← ey, List.append_assoc]
          rfl
        · by_cases c2 : rd l i = rd m j
          · have h := (ih (s - 2) (by omega) k (i + 1) (j + 1) (acc ++ [rd m j]) (by omega) (by omega) (by omega) (by omega) (by rw [List.length_append, List.length_singleton]; omega)).1
            rw [if_neg c1, if_pos c2, if_pos (by omega), w64 (i := (i : Int) + 1) (by omega) (by omega), w64 (i := (j : Int) + 1) (by omega) (by omega), show (i : Int) + 1 = ((i + 1 : Nat) : Int) by omega, show (j : Int) + 1 = ((j + 1 : Nat) : Int) by omega, h, ex, ey, mrg, if_neg c1, if_pos c2, List.append_assoc]
            rfl
          · have h := (ih (s - 1) (by omega) k i (j + 1) (acc ++ [rd m j]) (by omega) hi (by omega) (by omega) (by rw [List.length_append, List.length_singleton]; omega)).1
            rw [if_neg c1, if_neg c2, if_pos (by omega), w64 (i := (j : Int) + 1) (by omega) (by omega), show (j : Int) + 1 = ((j + 1 : Nat) : Int) by omega, h, ex, ey, mrg, if_neg c1, if_neg c2, ← ex, List.append_assoc]
            rfl
      · have ex : l.drop i = [] := List.drop_eq_nil_of_le (by omega)
        have h := (ih (s - 1) (by omega) k i (j + 1) (acc ++ [rd m j]) (by omega) hi (by omega) (by omega) (by rw [List.length_append, List.length_singleton]; omega)).1
        rw [if_neg (by omega), if_pos (by omega), if_pos (by omega), if_pos (by omega), w64 (i := (j : Int) + 1) (by omega) (by omega), show (j : Int) + 1 = ((j + 1 : Nat) : Int) by omega, h, ex, ey, mrg, List.append_assoc]
        rfl
    refine ⟨?_, inner⟩
    simp only [lockkeeperref04_Join.l0]
    by_cases hj2 : j < m.length
    · rw [if_pos (by omega)]
      exact inner hj2
    · have ey : m.drop j = [] := List.drop_eq_nil_of_le (by omega)
      have em : mrg (l.drop i) [] = l.drop i := by rw [mrg]
      rw [if_neg (by omega), if_pos (by omega), if_pos (by omega), Int.toNat_natCast, ey, em]
      simp only [Option.bind_some]
      rw [if_pos (by rw [List.length_drop]; omega)]
      unfold fin_
      by_cases c : 1000 < (acc ++ l.drop i).length
      · rw [if_pos c, if_pos (by omega)]
      · rw [if_neg c, if_neg (by omega)]
theorem rjoin_eq (a : Int) (l : List Int) (b : Int) (m : List Int) (k : Nat) (hl : l.length ≤ 1100) (hm : m.length ≤ 1100) (hk : 5100 ≤ k) : lockkeeperref04_Join.f k a l b m = some (joined_ a l b m) := by
  obtain ⟨k, rfl⟩ : ∃ q, k = q + 1 := ⟨k - 1, by omega⟩
  unfold lockkeeperref04_Join.f joined_
  rw [rright_eq a l _ (by omega) (by omega), rright_eq b m _ (by omega) (by omega)]
  simp only [Option.bind_some, decide_eq_true_eq]
  by_cases g1 : E.Good a l
  · rw [if_pos g1]
    by_cases g2 : E.Good b m
    · rw [if_pos ⟨g1, g2⟩, decide_eq_true g2]
      simp only [lockkeeperref04_Join.j0, Bool.not_true]
      rw [if_neg (by simp)]
      by_cases c : a = b
      · have h := (rjoin_l0 a b l m g1.2 g2.2 (l.length + m.length) k 0 0 [] (by omega) (by omega) (by omega) (by have := g1.2; have := g2.2; omega) (by simp)).1
        rw [show ((0 : Nat) : Int) = 0 from rfl, List.drop_zero, List.drop_zero, List.nil_append] at h
        have e : mrg l m = jl l m := sorted_ext (mrg_sorted l m (okG_sorted g1.1) (okG_sorted g2.1)) (jl_sorted l m) (fun x => by rw [mrg_mem, jl_mem])
        rw [if_pos c, if_pos c, rcopy_eq a l (by omega)]
        simp only [Option.bind_some]
        rw [h, e]
        rfl
      · rw [if_neg c, if_neg c]
    · rw [if_neg (fun h => g2 h.2), decide_eq_false g2]
      simp only [lockkeeperref04_Join.j0, Bool.not_false]
      rw [if_pos trivial]
  · rw [if_neg g1, if_neg (fun h => g1 h.1)]
    simp only [lockkeeperref04_Join.j0]
    rw [if_pos trivial]

/-! ### the law -/
theorem turns_l2 (a : Int) (l : List Int) (b : Int) (m : List Int) (z : Int) (hl : l.length ≤ 1100) (hm : m.length ≤ 1100) : ∀ (d k i : Nat) (r : List Int), r.length - i = d → i ≤ r.length → r.length ≤ 2000 → d + 1200 < k →
    lockkeeperlaw04_LsnsTurns.l2 k i a l b m a l b m z r = some true := by
  intro d
  induction d with
  | zero =>
    intro k i r hd hi hr hk
    obtain ⟨k, rfl⟩ : ∃ q, k = q + 1 := ⟨k - 1, by omega⟩
    simp only [lockkeeperlaw04_LsnsTurns.l2]
    rw [if_neg (by omega), rsame_eq a a l l k (by omega) (by omega), decide_eq_true ⟨rfl, rfl⟩]
    simp only [Option.bind_some, if_true]
    rw [rsame_eq b b m m k (by omega) (by omega), decide_eq_true ⟨rfl, rfl⟩]
    simp only [Option.bind_some, if_true]
    rw [head_eq k (by omega)]
    rfl
  | succ d ih =>
    intro k i r hd hi hr hk
    obtain ⟨k, rfl⟩ : ∃ q, k = q + 1 := ⟨k - 1, by omega⟩
    simp only [lockkeeperlaw04_LsnsTurns.l2]
    rw [if_pos (by omega), if_pos (by omega), w64 (by omega) (by omega), show (i : Int) + 1 = ((i + 1 : Nat) : Int) by omega]
    exact ih k (i + 1) _ (by rw [List.length_set]; omega) (by rw [List.length_set]; omega) (by rw [List.length_set]; omega) (by omega)
theorem turns_l1 (a : Int) (l : List Int) (b : Int) (m : List Int) (y z : Int) (q : List Int) (hl : l.length ≤ 1100) (hm : m.length ≤ 1100) (hq : q.length ≤ 2000) : ∀ (d k i : Nat) (r : List Int), r.length - i = d → i ≤ r.length → r.length ≤ 2000 → d + 3300 < k →
    lockkeeperlaw04_LsnsTurns.l1 k i a l b m a l b m y r z q = some true := by
  intro d
  induction d with
  | zero =>
    intro k i r hd hi hr hk
    obtain ⟨k, rfl⟩ : ∃ q, k = q + 1 := ⟨k - 1, by omega⟩
    simp only [lockkeeperlaw04_LsnsTurns.l1]
    rw [if_neg (by omega)]
    exact turns_l2 a l b m z hl hm q.length k 0 q (by omega) (by omega) hq (by omega)
  | succ d ih =>
    intro k i r hd hi hr hk
    obtain ⟨k, rfl⟩ : ∃ q, k = q + 1 := ⟨k - 1, by omega⟩
    simp only [lockkeeperlaw04_LsnsTurns.l1]
    rw [if_pos (by omega), if_pos (by omega), w64 (by omega) (by omega), show (i : Int) + 1 = ((i + 1 : Nat) : Int) by omega]
    exact ih k (i + 1) _ (by rw [List.length_set]; omega) (by rw [List.length_set]; omega) (by rw [List.length_set]; omega) (by omega)
theorem turns_l0 (a : Int) (l : List Int) (b : Int) (m : List Int) (x y z : Int) (p q : List Int) (hl : l.length ≤ 1100) (hm : m.length ≤ 1100) (hp : p.length ≤ 2000) (hq : q.length ≤ 2000) : ∀ (d k i : Nat) (r : List Int), r.length - i = d → i ≤ r.length → r.length ≤ 2000 → d + 5400 < k →
    lockkeeperlaw04_LsnsTurns.l0 k i a l b m a l b m x r y p z q = some true := by
  intro d
  induction d with
  | zero =>
    intro k i r hd hi hr hk
    obtain ⟨k, rfl⟩ : ∃ q, k = q + 1 := ⟨k - 1, by omega⟩
    simp only [lockkeeperlaw04_LsnsTurns.l0]
    rw [if_neg (by omega)]
    exact turns_l1 a l b m y z q hl hm hq p.length k 0 p (by omega) (by omega) hp (by omega)
  | succ d ih =>
    intro k i r hd hi hr hk
    obtain ⟨k, rfl⟩ : ∃ q, k = q + 1 := ⟨k - 1, by omega⟩
    simp only [lockkeeperlaw04_LsnsTurns.l0]
    rw [if_pos (by omega), if_pos (by omega), w64 (by omega) (by omega), show (i : Int) + 1 = ((i + 1 : Nat) : Int) by omega]
    exact ih k (i + 1) _ (by rw [List.length_set]; omega) (by rw [List.length_set]; omega) (by rw [List.length_set]; omega) (by omega)
theorem add_len (low : Int) (l : List Int) (n : Int) (hl : l.length ≤ 1100) : (add_ low l n).2.1.length ≤ 1101 := by
  unfold add_
  split
  · simp
  · split
    · simp
    · have := addl_length low l n
      show (addl low l n).length ≤ 1101
      omega
theorem raise_len (low : Int) (l : List Int) (n : Int) (hl : l.length ≤ 1100) : (raise_ low l n).2.1.length ≤ 1101 := by
  unfold raise_
  split
  · have := List.length_filter_le (fun x => decide (x > mx n low)) l
    show (l.filter (fun x => decide (x > mx n low))).length ≤ 1101
    omega
  · simp
theorem join_len (a : Int) (l : List Int) (b : Int) (m : List Int) : (joined_ a l b m).2.1.length ≤ 1000 := by
  unfold joined_
  split
  · split
    · split
      · simp
      · show (jl l m).length ≤ 1000; omega
    · simp
  · simp
theorem LsnsTurns : lockkeeperlaw04_LsnsTurns.Pure := by
  intro a l b m n _ _ _ _ _ _ _
  refine ⟨10000, ?_⟩
  generalize hk : 10000 = k
  obtain ⟨k, rfl⟩ : ∃ q, k = q + 1 := ⟨k - 1, by omega⟩
  have hd : lockkeeperlaw04_LsnsTurns.j0 (k + 1) n true a l b m = some true := by
    simp only [lockkeeperlaw04_LsnsTurns.j0]
    rw [if_pos trivial, head_eq k (by omega)]
    rfl
  unfold lockkeeperlaw04_LsnsTurns.f lockkeeperlaw04_great.f
  simp only [Option.bind_some, decide_eq_true_eq]
  by_cases h1 : l.length ≤ 1100
  · rw [if_neg (by omega)]
    by_cases h2 : m.length ≤ 1100
    · rw [decide_eq_false (by omega)]
      have l1 := add_len a l n h1
      have l2 := raise_len a l n h1
      have l3 := join_len a l b m
      simp only [lockkeeperlaw04_LsnsTurns.j0]
      rw [if_neg (by simp), rcopy_eq a l (by omega), rcopy_eq b m (by omega)]
      simp only [Option.bind_some]
      rw [add_eq a l n k (by omega) (by omega), radd_eq a l n k h1 (by omega), raise_eq a l n k (by omega) (by omega), rraise_eq a l n k h1 (by omega), join_eq a l b m k (by omega) (by omega) (by omega) (by omega), rjoin_eq a l b m k h1 h2 (by omega)]
      simp only [Option.bind_some]
      rw [rsame_eq _ _ _ _ k (by omega) (by omega), decide_eq_true ⟨rfl, rfl⟩]
      simp only [Option.bind_some, if_true]
      rw [rsame_eq _ _ _ _ k (by omega) (by omega), decide_eq_true ⟨rfl, rfl⟩]
      simp only [Option.bind_some, if_true]
      rw [rsame_eq _ _ _ _ k (by omega) (by omega), decide_eq_true ⟨rfl, rfl⟩]
      simp only [Option.bind_some, if_true]
      exact turns_l0 a l b m _ _ _ _ _ h1 h2 (by omega) (by omega) _ k 0 _ rfl (by omega) (by omega) (by omega)
    · rw [decide_eq_true (by omega)]
      exact hd
  · rw [if_pos (by omega)]
    exact hd
end Go.Proofs.Ytebmpoonkmcjfaa.Pure
