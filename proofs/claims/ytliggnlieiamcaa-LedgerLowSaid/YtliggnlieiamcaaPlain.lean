/- Plain words about ledgers: what the printed functions Check, Low, Give, Answer, IsOpen, Same, join (and the document's) come to. -/
import Derived.Test.YtliggnlieiamcaaPx1
import Derived.Test.YtliggnlieiamcaaPx2
import Derived.Test.YtliggnlieiamcaaPx3
import Derived.Test.YtliggnlieiamcaaPx5
import Derived.Test.YtliggnlieiamcaaPx6
namespace Go.Proofs.Ytliggnlieiamcaa.P
set_option linter.unusedVariables false
set_option linter.unusedSimpArgs false
open Go.RowKit Go.Proofs.YtliggnlieiamcaaW.PrintWords Go.Proofs.YtliggnlieiamcaaW.PrintLast Go.Proofs.YtliggnlieiamcaaW.PrintMore

theorem drop_rd (l : List Int) (i : Nat) (h : i < l.length) : l.drop i = rd l i :: l.drop (i + 1) := by
  rw [List.drop_eq_getElem_cons h]
  unfold rd
  rw [Int.toNat_natCast, List.getD_eq_getElem?_getD, List.getElem?_eq_getElem h]
  rfl
theorem rd_get (l : List Int) (i : Nat) (h : i < l.length) : rd l i = l[i] := by
  unfold rd
  rw [Int.toNat_natCast, List.getD_eq_getElem?_getD, List.getElem?_eq_getElem h]
  rfl
theorem w64 {i : Int} (h0 : -9223372036854775808 ≤ i) (h1 : i ≤ 9223372036854775807) : wrap64 i = i := by unfold wrap64; omega
theorem wu64 {i : Int} (h0 : 0 ≤ i) (h1 : i ≤ 18446744073709551615) : IntKind.u64.wrap i = i := by
  unfold IntKind.wrap; simp [IntKind.signed, IntKind.bits]; omega

/-- Ascending from above p, none above last. -/
def okF (p last : Int) : List Int → Bool
  | [] => true
  | x :: t => decide (p < x) && (decide (x ≤ last) && okF x last t)
def Good (last : Int) (l : List Int) : Prop := okF 0 last l = true ∧ l.length ≤ 1000 ∧ last ≤ 281474976710656
instance (last : Int) (l : List Int) : Decidable (Good last l) := inferInstanceAs (Decidable (_ ∧ _ ∧ _))
def chk (last : Int) (l : List Int) : Int := if Good last l then 0 else 250
theorem chk_zero {last : Int} {l : List Int} : chk last l = 0 ↔ Good last l := by unfold chk; split <;> simp_all

theorem check_l0 (last : Int) (l : List Int) (hn : l.length < 4611686018427387904) : ∀ (d k i : Nat) (p : Int), l.length - i = d → i ≤ l.length → d < k →
    ledger_Check.l0 k p l l.length i last l = some (if okF p last (l.drop i) = true ∧ l.length ≤ 1000 ∧ last ≤ 281474976710656 then 0 else 250) := by
  intro d
  induction d with
  | zero =>
    intro k i p hd hi hk
    obtain ⟨k, rfl⟩ : ∃ m, k = m + 1 := ⟨k - 1, by omega⟩
    have : i = l.length := by omega
    subst this
    simp only [ledger_Check.l0, List.drop_length, okF, true_and]
    rw [if_neg (by omega)]
    by_cases h1 : l.length ≤ 1000
    · rw [if_neg (by omega)]
      by_cases h2 : last ≤ 281474976710656
      · rw [if_neg (by omega), if_pos ⟨h1, h2⟩]
      · rw [if_pos (by omega), if_neg (fun h => h2 h.2)]
    · rw [if_pos (by omega), if_neg (fun h => h1 h.1)]
  | succ d ih =>
    intro k i p hd hi hk
    obtain ⟨k, rfl⟩ : ∃ m, k = m + 1 := ⟨k - 1, by omega⟩
    have hlt : i < l.length := by omega
    simp only [ledger_Check.l0]
    rw [if_pos (by omega), if_pos (by omega), if_pos (by omega), drop_rd l i hlt, okF]
    by_cases h1 : rd l i ≤ p
    · rw [if_pos h1, if_neg]
      simp only [Bool.and_eq_true, decide_eq_true_eq]
      omega
    · rw [if_neg h1]
      by_cases h2 : rd l i > last
      · rw [if_pos h2, if_neg]
        simp only [Bool.and_eq_true, decide_eq_true_eq]
        omega
      · rw [if_neg h2, w64 (by omega) (by omega), show (i : Int) + 1 = ((i + 1 : Nat) : Int) by omega, ih k (i + 1) (rd l i) (by omega) (by omega) (by omega)]
        have e1 : decide (p < rd l i) = true := decide_eq_true (by omega)
        have e2 : decide (rd l i ≤ last) = true := decide_eq_true (by omega)
        rw [e1, e2, Bool.true_and, Bool.true_and]
theorem check_eq (last : Int) (l : List Int) (k : Nat) (hn : l.length < 4611686018427387904) (hk : l.length < k) : ledger_Check.f k last l = some (chk last l) := by
  unfold ledger_Check.f chk Good
  have h := check_l0 last l hn l.length k 0 0 (by omega) (by omega) hk
  rw [List.drop_zero] at h
  exact h

theorem okF_mono {p last : Int} : ∀ {l : List Int}, okF p last l = true → ∀ x ∈ l, p < x ∧ x ≤ last
  | [], _, x, hx => by cases hx
  | y :: t, h, x, hx => by
    simp only [okF, Bool.and_eq_true, decide_eq_true_eq] at h
    rcases List.mem_cons.1 hx with rfl | hx
    · exact ⟨h.1, h.2.1⟩
    · have := okF_mono h.2.2 x hx
      omega
theorem okF_sorted {p last : Int} : ∀ {l : List Int}, okF p last l = true → l.Pairwise (· < ·)
  | [], _ => .nil
  | y :: t, h => by
    simp only [okF, Bool.and_eq_true, decide_eq_true_eq] at h
    exact .cons (fun x hx => (okF_mono h.2.2 x hx).1) (okF_sorted h.2.2)
theorem okF_of {p last : Int} : ∀ {l : List Int}, l.Pairwise (· < ·) → (∀ x ∈ l, p < x ∧ x ≤ last) → okF p last l = true
  | [], _, _ => rfl
  | y :: t, h, hx => by
    simp only [okF, Bool.and_eq_true, decide_eq_true_eq]
    have h' := List.pairwise_cons.1 h
    exact ⟨(hx y List.mem_cons_self).1, (hx y List.mem_cons_self).2, okF_of h'.2 (fun x hm => ⟨h'.1 x hm, (hx x (List.mem_cons_of_mem _ hm)).2⟩)⟩
theorem good_iff {last : Int} {l : List Int} : Good last l ↔ l.Pairwise (· < ·) ∧ (∀ x ∈ l, 0 < x ∧ x ≤ last) ∧ l.length ≤ 1000 ∧ last ≤ 281474976710656 :=
  ⟨fun h => ⟨okF_sorted h.1, okF_mono h.1, h.2⟩, fun h => ⟨okF_of h.1 h.2.1, h.2.2⟩⟩

/-! ### the search -/
theorem bsearch_spec (p : Nat → Bool) (n : Nat) (hm : ∀ a b, a ≤ b → b < n → p a = true → p b = true) : ∀ (d i j : Nat), j - i = d → i ≤ j → j ≤ n → (∀ t, t < i → p t = false) → (∀ t, j ≤ t → t < n → p t = true) →
    bsearch p i j ≤ n ∧ (∀ t, t < bsearch p i j → p t = false) ∧ (∀ t, bsearch p i j ≤ t → t < n → p t = true) := by
  intro d
  induction d using Nat.strongRecOn with
  | _ d ih =>
    intro i j hd hij hjn hlo hhi
    by_cases h : i < j
    · cases hp : p ((i + j) / 2)
      · rw [bsearch_no h hp]
        refine ih (j - ((i + j) / 2 + 1)) (by omega) _ _ rfl (by omega) hjn (fun t ht => ?_) hhi
        cases hq : p t
        · rfl
        · have := hm t ((i + j) / 2) (by omega) (by omega) hq
          rw [hp] at this
          cases this
      · rw [bsearch_yes h hp]
        exact ih ((i + j) / 2 - i) (by omega) _ _ rfl (by omega) (by omega) hlo (fun t ht htn => hm _ t ht htn hp)
    · obtain rfl : i = j := by omega
      rw [bsearch_done]
      exact ⟨hjn, hlo, hhi⟩
theorem bsearch_le (p : Nat → Bool) : ∀ (d i j : Nat), j - i = d → i ≤ j → i ≤ bsearch p i j ∧ bsearch p i j ≤ j := by
  intro d
  induction d using Nat.strongRecOn with
  | _ d ih =>
    intro i j hd hij
    by_cases h : i < j
    · cases hp : p ((i + j) / 2)
      · rw [bsearch_no h hp]
        have := ih (j - ((i + j) / 2 + 1)) (by omega) ((i + j) / 2 + 1) j rfl (by omega)
        omega
      · rw [bsearch_yes h hp]
        have := ih ((i + j) / 2 - i) (by omega) i ((i + j) / 2) rfl (by omega)
        omega
    · obtain rfl : i = j := by omega
      rw [bsearch_done]
      omega
def at_ (l : List Int) (n : Int) : Nat := bsearch (fun i => decide (n ≤ rd l i)) 0 l.length
theorem at_le (l : List Int) (n : Int) : at_ l n ≤ l.length := (bsearch_le _ l.length 0 l.length (by omega) (by omega)).2
theorem at_eq (last : Int) (l : List Int) (n : Int) (hn : l.length < 4611686018427387904) : ledger_at.f last l n = some (at_ l n : Int) := by
  unfold ledger_at.f at_
  rw [if_pos hn]
theorem at_sorted {l : List Int} (hs : l.Pairwise (· < ·)) (n : Int) : (∀ t, t < at_ l n → rd l t < n) ∧ (∀ t, at_ l n ≤ t → t < l.length → n ≤ rd l t) := by
  have h := bsearch_spec (fun i => decide (n ≤ rd l i)) l.length (fun a b hab hb ha => by
    simp only [decide_eq_true_eq] at ha ⊢
    rcases Nat.lt_or_ge a b with h | h
    · have := List.pairwise_iff_getElem.1 hs a b (by omega) hb h
      rw [rd_get l a (by omega)] at ha
      rw [rd_get l b hb]
      omega
    · obtain rfl : a = b := by omega
      exact ha) l.length 0 l.length (by omega) (by omega) (by omega) (fun t ht => absurd ht (Nat.not_lt_zero _)) (fun t h1 h2 => by omega)
  refine ⟨fun t ht => ?_, fun t h1 h2 => ?_⟩
  · have := h.2.1 t ht
    simp only [decide_eq_false_iff_not] at this
    omega
  · have := h.2.2 t h1 h2
    simpa using this
theorem at_mem {l : List Int} (hs : l.Pairwise (· < ·)) (n : Int) : (at_ l n < l.length ∧ rd l (at_ l n) = n) ↔ n ∈ l := by
  constructor
  · rintro ⟨h1, h2⟩
    rw [rd_get l _ h1] at h2
    rw [← h2]
    exact List.getElem_mem h1
  · intro hm
    obtain ⟨i, hi, rfl⟩ := List.mem_iff_getElem.1 hm
    have hsp := at_sorted hs l[i]
    have h1 : ¬ i < at_ l l[i] := fun h => by have := hsp.1 i h; rw [rd_get l i hi] at this; omega
    have h2 : at_ l l[i] < l.length := by omega
    refine ⟨h2, ?_⟩
    have h3 := hsp.2 _ (Nat.le_refl _) h2
    rw [rd_get l _ h2] at h3 ⊢
    rcases Nat.lt_or_ge (at_ l l[i]) i with h | h
    · have := List.pairwise_iff_getElem.1 hs _ i h2 hi h
      omega
    · have : at_ l l[i] = i := by omega
      simp only [this]
theorem at_erase {l : List Int} (hs : l.Pairwise (· < ·)) (n : Int) (hm : n ∈ l) : l.take (at_ l n) ++ l.drop (at_ l n + 1) = l.filter (fun x => decide (x ≠ n)) := by
  obtain ⟨h1, h2⟩ := (at_mem hs n).2 hm
  have hsp := at_sorted hs n
  conv => rhs; rw [← List.take_append_drop (at_ l n) l, drop_rd l _ h1]
  rw [List.filter_append, List.filter_cons, h2]
  simp only [ne_eq, not_true_eq_false, decide_false, Bool.false_eq_true, if_false]
  congr 1
  · symm
    rw [List.filter_eq_self]
    intro x hx
    obtain ⟨i, hi, rfl⟩ := List.mem_iff_getElem.1 hx
    have hi' : i < at_ l n := by rw [List.length_take] at hi; omega
    have := hsp.1 i hi'
    rw [rd_get l i (by omega)] at this
    rw [List.getElem_take]
    simp
    omega
  · symm
    rw [List.filter_eq_self]
    intro x hx
    obtain ⟨i, hi, rfl⟩ := List.mem_iff_getElem.1 hx
    rw [List.length_drop] at hi
    rw [List.getElem_drop]
    have := List.pairwise_iff_getElem.1 hs (at_ l n) (at_ l n + 1 + i) h1 (by omega) (by omega)
    rw [rd_get l _ h1] at h2
    simp
    omega

/-! ### the functions -/
theorem isopen_eq (last : Int) (l : List Int) (n : Int) (k : Nat) (hn : l.length < 4611686018427387904) (hk : l.length < k) : ledger_IsOpen.f k last l n = some (decide (Good last l ∧ n ∈ l)) := by
  unfold ledger_IsOpen.f
  rw [at_eq last l n hn, check_eq last l k hn hk]
  simp only [Option.bind_some, chk_zero]
  by_cases hg : Good last l
  · rw [if_pos hg]
    have hm := at_mem (okF_sorted hg.1) n
    by_cases h1 : at_ l n < l.length
    · rw [if_pos (by omega), if_pos (by omega)]
      by_cases h2 : rd l (at_ l n) = n
      · rw [decide_eq_true ⟨hg, hm.1 ⟨h1, h2⟩⟩]; simp [h2]
      · rw [decide_eq_false (fun h => h2 (hm.2 h.2).2)]; simp [h2]
    · rw [if_neg (by omega), decide_eq_false (fun h => h1 (hm.2 h.2).1)]
  · rw [if_neg hg, decide_eq_false (fun h => hg h.1)]
theorem join_one (a : List Int) (k : Nat) (ha : a.length < 17592186044416) (hk : 2 ≤ k) : ledger_join.f k [a] = some a := by
  obtain ⟨k, rfl⟩ : ∃ m, k = m + 2 := ⟨k - 2, by omega⟩
  simp [ledger_join.f, ledger_join.l0, rd_L1, ha, wrap64]
theorem join_two (a b : List Int) (k : Nat) (ha : a.length + b.length < 17592186044416) (hk : 3 ≤ k) : ledger_join.f k [a, b] = some (a ++ b) := by
  obtain ⟨k, rfl⟩ : ∃ m, k = m + 3 := ⟨k - 3, by omega⟩
  have h1 : a.length < 17592186044416 := by omega
  simp [ledger_join.f, ledger_join.l0, rd_L1, h1, ha, wrap64]
def low_ (last : Int) (l : List Int) : Int := if Good last l then (match l with | [] => last | x :: _ => x - 1) else 0
theorem low_eq (last : Int) (l : List Int) (k : Nat) (hn : l.length < 4611686018427387904) (hk : l.length < k) : ledger_Low.f k last l = some (low_ last l) := by
  unfold ledger_Low.f low_
  rw [check_eq last l k hn hk]
  simp only [Option.bind_some, chk_zero]
  by_cases hg : Good last l
  · rw [if_pos hg, if_pos hg]
    cases l with
    | nil => rfl
    | cons x t =>
      have := okF_mono hg.1 x List.mem_cons_self
      have := hg.2.2
      rw [if_pos (by simp), if_pos (by simp)]
      simp only [rd, Int.toNat_zero, List.getD_cons_zero]
      rw [wu64 (by omega) (by omega)]
  · rw [if_neg hg, if_neg hg]
def give_ (last : Int) (l : List Int) (n : Int) (op : Bool) : Int × List Int × Int :=
  if ¬ Good last l ∨ n ≠ last + 1 then (0, [], 250) else if last = 281474976710656 ∨ (op = true ∧ l.length = 1000) then (0, [], 6) else (n, if op then l ++ [n] else l, 0)
theorem give_j1 (last : Int) (l : List Int) (n : Int) (op b : Bool) (k : Nat) (hn : l.length < 17592186044415) (hk : 3 ≤ k) : ledger_Give.j1 k n op b last l = some (if b then (0, [], 6) else (n, if op then l ++ [n] else l, 0)) := by
  obtain ⟨k, rfl⟩ : ∃ m, k = m + 1 := ⟨k - 1, by omega⟩
  simp only [ledger_Give.j1]
  rw [join_one l k (by omega) (by omega)]
  cases b <;> cases op <;> simp
  omega
theorem give_j0 (last : Int) (l : List Int) (n : Int) (op b : Bool) (k : Nat) (hn : l.length < 17592186044415) (hk : 4 ≤ k) : ledger_Give.j0 k n op b last l = some (if b then (0, [], 250) else if last = 281474976710656 ∨ (op = true ∧ l.length = 1000) then (0, [], 6) else (n, if op then l ++ [n] else l, 0)) := by
  obtain ⟨k, rfl⟩ : ∃ m, k = m + 1 := ⟨k - 1, by omega⟩
  simp only [ledger_Give.j0]
  rw [give_j1 last l n op _ k hn (by omega), give_j1 last l n op _ k hn (by omega), give_j1 last l n op _ k hn (by omega)]
  cases b
  · by_cases h1 : last = 281474976710656
    · simp [h1]
    · cases op
      · simp [h1]
      · by_cases h2 : l.length = 1000
        · simp [h1, h2]
        · have h3 : ¬ ((l.length : Int) = 1000) := by omega
          simp [h1, h2, h3]
  · simp
theorem give_eq (last : Int) (l : List Int) (n : Int) (op : Bool) (k : Nat) (h0 : 0 ≤ last) (h1 : last ≤ 18446744073709551615) (hn : l.length < 17592186044415) (hk : l.length + 4 ≤ k) : ledger_Give.f k last l n op = some (give_ last l n op) := by
  unfold ledger_Give.f give_
  rw [check_eq last l k (by omega) (by omega)]
  simp only [Option.bind_some, chk_zero]
  rw [give_j0 last l n op _ k hn (by omega), give_j0 last l n op _ k hn (by omega)]
  by_cases hg : Good last l
  · rw [if_pos hg]
    have hl := hg.2.2
    rw [wu64 (by omega) (by omega)]
    by_cases h2 : n = last + 1
    · simp [hg, h2]
    · simp [hg, h2]
  · simp [hg]
def answer_ (last : Int) (l : List Int) (n : Int) : Int × List Int × Bool × Int :=
  if ¬ Good last l ∨ n = 0 ∨ n > last then (0, [], false, 250) else (last, l.filter (fun x => decide (x ≠ n)), decide (n ∈ l), 0)
theorem answer_j0 (last : Int) (l : List Int) (n : Int) (b : Bool) (k : Nat) (hg : b = false → Good last l) (hn : l.length < 17592186044415) (hk : l.length + 4 ≤ k) : ledger_Answer.j0 k n b last l = some (if b then (0, [], false, 250) else (last, l.filter (fun x => decide (x ≠ n)), decide (n ∈ l), 0)) := by
  obtain ⟨k, rfl⟩ : ∃ m, k = m + 1 := ⟨k - 1, by omega⟩
  simp only [ledger_Answer.j0]
  cases b with
  | true => simp
  | false =>
    have hg := hg rfl
    have hs := okF_sorted hg.1
    have hle := at_le l n
    rw [at_eq last l n (by omega), isopen_eq last l n k (by omega) (by omega)]
    simp only [Option.bind_some, Bool.false_eq_true, if_false]
    by_cases hm : n ∈ l
    · obtain ⟨h1, h2⟩ := (at_mem hs n).2 hm
      rw [w64 (by omega) (by omega), decide_eq_true ⟨hg, hm⟩, if_pos rfl, if_pos (by omega), if_pos (by omega), if_pos (by omega), if_pos (by omega)]
      rw [show ((at_ l n : Int)).toNat = at_ l n by omega, show ((at_ l n : Int) + 1).toNat = at_ l n + 1 by omega, join_two _ _ k (by rw [List.length_take, List.length_drop]; omega) (by omega), at_erase hs n hm]
      simp [hm]
    · rw [decide_eq_false (fun h => hm h.2), join_one l k (by omega) (by omega), if_neg (by simp)]
      have e : l.filter (fun x => decide (x ≠ n)) = l := by
        rw [List.filter_eq_self]
        intro x hx
        simp only [decide_eq_true_eq]
        rintro rfl
        exact hm hx
      rw [e, decide_eq_false hm]
      rfl
theorem answer_eq (last : Int) (l : List Int) (n : Int) (k : Nat) (hn : l.length < 17592186044415) (hk : l.length + 4 ≤ k) : ledger_Answer.f k last l n = some (answer_ last l n) := by
  unfold ledger_Answer.f answer_
  rw [check_eq last l k (by omega) (by omega)]
  simp only [Option.bind_some, chk_zero]
  by_cases hg : Good last l
  · rw [if_pos hg, answer_j0 last l n _ k (fun _ => hg) hn hk, answer_j0 last l n _ k (fun _ => hg) hn hk]
    by_cases h1 : n = 0
    · simp [h1]
    · by_cases h2 : n > last
      · simp [h1, h2]
      · simp [hg, h1, h2]
  · rw [if_neg hg, answer_j0 last l n true k (fun h => by cases h) hn hk]
    simp [hg]
end Go.Proofs.Ytliggnlieiamcaa.P
