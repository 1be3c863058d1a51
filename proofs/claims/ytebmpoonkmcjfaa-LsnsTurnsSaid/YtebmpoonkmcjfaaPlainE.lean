/- Plain words about sets of numbered operations: what the printed functions Right, at, Has, Most, Same, Add, Raise (and the document's) come to. -/
import Derived.Test.YtebmpoonkmcjfaaEx5
import Derived.Test.YtebmpoonkmcjfaaEx4
import Derived.Test.YtebmpoonkmcjfaaEx3
namespace Go.Proofs.Ytebmpoonkmcjfaa.E
set_option linter.unusedVariables false
set_option linter.unusedSimpArgs false
open Go.RowKit Go.Proofs.YtebmpoonkmcjfaaW.PrintWords Go.Proofs.YtebmpoonkmcjfaaW.PrintLast Go.Proofs.YtebmpoonkmcjfaaW.PrintMore

theorem drop_rd (l : List Int) (i : Nat) (h : i < l.length) : l.drop i = rd l i :: l.drop (i + 1) := by
  rw [List.drop_eq_getElem_cons h]
  unfold rd
  rw [Int.toNat_natCast, List.getD_eq_getElem?_getD, List.getElem?_eq_getElem h]
  rfl
theorem rd_get (l : List Int) (i : Nat) (h : i < l.length) : rd l i = l[i] := by
  unfold rd
  rw [Int.toNat_natCast, List.getD_eq_getElem?_getD, List.getElem?_eq_getElem h]
  rfl
theorem w64 {i : Int} (h0 : -9223372036854775808 ≤ i) (h1 : i ≤ 9223372036854775807) : wrap64 i = i := by unfold wrap64; omega
theorem wu64 {i : Int} (h0 : 0 ≤ i) (h1 : i ≤ 18446744073709551615) : IntKind.u64.wrap i = i := by
  unfold IntKind.wrap; simp [IntKind.signed, IntKind.bits]; omega

/-- Ascending from above p. -/
def okG (p : Int) : List Int → Bool
  | [] => true
  | x :: t => decide (p < x) && okG x t
def Good (low : Int) (l : List Int) : Prop := okG low l = true ∧ l.length ≤ 1000
instance (low : Int) (l : List Int) : Decidable (Good low l) := inferInstanceAs (Decidable (_ ∧ _))
theorem right_l0 (low : Int) (l : List Int) (hn : l.length < 4611686018427387904) : ∀ (d k i : Nat) (p : Int), l.length - i = d → i ≤ l.length → d < k →
    lsns_Right.l0 k p l l.length i low l = some (decide (okG p (l.drop i) = true ∧ l.length ≤ 1000)) := by
  intro d
  induction d with
  | zero =>
    intro k i p hd hi hk
    obtain ⟨k, rfl⟩ : ∃ m, k = m + 1 := ⟨k - 1, by omega⟩
    have : i = l.length := by omega
    subst this
    simp only [lsns_Right.l0, List.drop_length, okG, true_and]
    rw [if_neg (by omega)]
    congr 1
    exact decide_eq_decide.2 (by omega)
  | succ d ih =>
    intro k i p hd hi hk
    obtain ⟨k, rfl⟩ : ∃ m, k = m + 1 := ⟨k - 1, by omega⟩
    have hlt : i < l.length := by omega
    simp only [lsns_Right.l0]
    rw [if_pos (by omega), if_pos (by omega), if_pos (by omega), drop_rd l i hlt, okG]
    by_cases h1 : rd l i ≤ p
    · rw [if_pos h1, decide_eq_false (show ¬ p < rd l i by omega)]
      simp
    · rw [if_neg h1, w64 (by omega) (by omega), show (i : Int) + 1 = ((i + 1 : Nat) : Int) by omega, ih k (i + 1) (rd l i) (by omega) (by omega) (by omega), decide_eq_true (show p < rd l i by omega), Bool.true_and]
theorem right_eq (low : Int) (l : List Int) (k : Nat) (hn : l.length < 4611686018427387904) (hk : l.length < k) : lsns_Right.f k low l = some (decide (Good low l)) := by
  unfold lsns_Right.f Good
  have h := right_l0 low l hn l.length k 0 low (by omega) (by omega) hk
  rw [List.drop_zero] at h
  exact h
theorem okG_mono {p : Int} : ∀ {l : List Int}, okG p l = true → ∀ x ∈ l, p < x
  | [], _, x, hx => by cases hx
  | y :: t, h, x, hx => by
    simp only [okG, Bool.and_eq_true, decide_eq_true_eq] at h
    rcases List.mem_cons.1 hx with rfl | hx
    · exact h.1
    · have := okG_mono h.2 x hx
      omega
theorem okG_sorted {p : Int} : ∀ {l : List Int}, okG p l = true → l.Pairwise (· < ·)
  | [], _ => .nil
  | y :: t, h => by
    simp only [okG, Bool.and_eq_true, decide_eq_true_eq] at h
    exact .cons (fun x hx => okG_mono h.2 x hx) (okG_sorted h.2)
theorem okG_of {p : Int} : ∀ {l : List Int}, l.Pairwise (· < ·) → (∀ x ∈ l, p < x) → okG p l = true
  | [], _, _ => rfl
  | y :: t, h, hx => by
    simp only [okG, Bool.and_eq_true, decide_eq_true_eq]
    have h' := List.pairwise_cons.1 h
    exact ⟨hx y List.mem_cons_self, okG_of h'.2 (fun x hm => h'.1 x hm)⟩
theorem good_iff {low : Int} {l : List Int} : Good low l ↔ l.Pairwise (· < ·) ∧ (∀ x ∈ l, low < x) ∧ l.length ≤ 1000 :=
  ⟨fun h => ⟨okG_sorted h.1, okG_mono h.1, h.2⟩, fun h => ⟨okG_of h.1 h.2.1, h.2.2⟩⟩
theorem sorted_ext : ∀ {l m : List Int}, l.Pairwise (· < ·) → m.Pairwise (· < ·) → (∀ x, x ∈ l ↔ x ∈ m) → l = m
  | [], [], _, _, _ => rfl
  | [], y :: m, _, _, h => absurd ((h y).2 List.mem_cons_self) (by simp)
  | x :: l, [], _, _, h => absurd ((h x).1 List.mem_cons_self) (by simp)
  | x :: l, y :: m, hl, hm, h => by
    have hl' := List.pairwise_cons.1 hl
    have hm' := List.pairwise_cons.1 hm
    have e : x = y := by
      rcases List.mem_cons.1 ((h x).1 List.mem_cons_self) with h1 | h1
      · exact h1
      · rcases List.mem_cons.1 ((h y).2 List.mem_cons_self) with h2 | h2
        · exact h2.symm
        · have := hm'.1 x h1
          have := hl'.1 y h2
          omega
    subst e
    congr 1
    refine sorted_ext hl'.2 hm'.2 (fun z => ⟨fun hz => ?_, fun hz => ?_⟩)
    · rcases List.mem_cons.1 ((h z).1 (List.mem_cons_of_mem _ hz)) with h1 | h1
      · have := hl'.1 z hz
        omega
      · exact h1
    · rcases List.mem_cons.1 ((h z).2 (List.mem_cons_of_mem _ hz)) with h1 | h1
      · have := hm'.1 z hz
        omega
      · exact h1

/-! ### the search -/
theorem bsearch_spec (p : Nat → Bool) (n : Nat) (hm : ∀ a b, a ≤ b → b < n → p a = true → p b = true) : ∀ (d i j : Nat), j - i = d → i ≤ j → j ≤ n → (∀ t, t < i → p t = false) → (∀ t, j ≤ t → t < n → p t = true) →
    bsearch p i j ≤ n ∧ (∀ t, t < bsearch p i j → p t = false) ∧ (∀ t, bsearch p i j ≤ t → t < n → p t = true) := by
  intro d
  induction d using Nat.strongRecOn with
  | _ d ih =>
    intro i j hd hij hjn hlo hhi
    by_cases h : i < j
    · cases hp : p ((i + j) / 2)
      · rw [bsearch_no h hp]
        refine ih (j - ((i + j) / 2 + 1)) (by omega) _ _ rfl (by omega) hjn (fun t ht => ?_) hhi
        cases hq : p t
        · rfl
        · have := hm t ((i + j) / 2) (by omega) (by omega) hq
          rw [hp] at this
          cases this
      · rw [bsearch_yes h hp]
        exact ih ((i + j) / 2 - i) (by omega) _ _ rfl (by omega) (by omega) hlo (fun t ht htn => hm _ t ht htn hp)
    · obtain rfl : i = j := by omega
      rw [bsearch_done]
      exact ⟨hjn, hlo, hhi⟩
theorem bsearch_le (p : Nat → Bool) : ∀ (d i j : Nat), j - i = d → i ≤ j → i ≤ bsearch p i j ∧ bsearch p i j ≤ j := by
  intro d
  induction d using Nat.strongRecOn with
  | _ d ih =>
    intro i j hd hij
    by_cases h : i < j
    · cases hp : p ((i + j) / 2)
      · rw [bsearch_no h hp]
        have := ih (j - ((i + j) / 2 + 1)) (by omega) ((i + j) / 2 + 1) j rfl (by omega)
        omega
      · rw [bsearch_yes h hp]
        have := ih ((i + j) / 2 - i) (by omega) i ((i + j) / 2) rfl (by omega)
        omega
    · obtain rfl : i = j := by omega
      rw [bsearch_done]
      omega
def at_ (l : List Int) (n : Int) : Nat := bsearch (fun i => decide (n ≤ rd l i)) 0 l.length
theorem at_le (l : List Int) (n : Int) : at_ l n ≤ l.length := (bsearch_le _ l.length 0 l.length (by omega) (by omega)).2
theorem at_eq (last : Int) (l : List Int) (n : Int) (hn : l.length < 4611686018427387904) : lsns_at.f last l n = some (at_ l n : Int) := by
  unfold lsns_at.f at_
  rw [if_pos hn]
theorem at_sorted {l : List Int} (hs : l.Pairwise (· < ·)) (n : Int) : (∀ t, t < at_ l n → rd l t < n) ∧ (∀ t, at_ l n ≤ t → t < l.length → n ≤ rd l t) := by
  have h := bsearch_spec (fun i => decide (n ≤ rd l i)) l.length (fun a b hab hb ha => by
    simp only [decide_eq_true_eq] at ha ⊢
    rcases Nat.lt_or_ge a b with h | h
    · have := List.pairwise_iff_getElem.1 hs a b (by omega) hb h
      rw [rd_get l a (by omega)] at ha
      rw [rd_get l b hb]
      omega
    · obtain rfl : a = b := by omega
      exact ha) l.length 0 l.length (by omega) (by omega) (by omega) (fun t ht => absurd ht (Nat.not_lt_zero _)) (fun t h1 h2 => by omega)
  refine ⟨fun t ht => ?_, fun t h1 h2 => ?_⟩
  · have := h.2.1 t ht
    simp only [decide_eq_false_iff_not] at this
    omega
  · have := h.2.2 t h1 h2
    simpa using this
theorem at_mem {l : List Int} (hs : l.Pairwise (· < ·)) (n : Int) : (at_ l n < l.length ∧ rd l (at_ l n) = n) ↔ n ∈ l := by
  constructor
  · rintro ⟨h1, h2⟩
    rw [rd_get l _ h1] at h2
    rw [← h2]
    exact List.getElem_mem h1
  · intro hm
    obtain ⟨i, hi, rfl⟩ := List.mem_iff_getElem.1 hm
    have hsp := at_sorted hs l[i]
    have h1 : ¬ i < at_ l l[i] := fun h => by have := hsp.1 i h; rw [rd_get l i hi] at this; omega
    have h2 : at_ l l[i] < l.length := by omega
    refine ⟨h2, ?_⟩
    have h3 := hsp.2 _ (Nat.le_refl _) h2
    rw [rd_get l _ h2] at h3 ⊢
    rcases Nat.lt_or_ge (at_ l l[i]) i with h | h
    · have := List.pairwise_iff_getElem.1 hs _ i h2 hi h
      omega
    · have : at_ l l[i] = i := by omega
      simp only [this]

/-! ### the functions -/
def has_ (low : Int) (l : List Int) (n : Int) : Bool := decide (Good low l ∧ (n ≤ low ∨ n ∈ l))
theorem has_eq (low : Int) (l : List Int) (n : Int) (k : Nat) (hn : l.length < 4611686018427387904) (hk : l.length < k) : lsns_Has.f k low l n = some (has_ low l n) := by
  unfold lsns_Has.f has_
  rw [at_eq low l n hn, right_eq low l k hn hk]
  simp only [Option.bind_some, decide_eq_true_eq]
  by_cases hg : Good low l
  · rw [if_pos hg]
    have hm := at_mem (okG_sorted hg.1) n
    by_cases h0 : n ≤ low
    · rw [if_pos h0, decide_eq_true ⟨hg, .inl h0⟩]
    · rw [if_neg h0]
      by_cases h1 : at_ l n < l.length
      · rw [if_pos (by omega), if_pos (by omega)]
        by_cases h2 : rd l (at_ l n) = n
        · rw [decide_eq_true ⟨hg, .inr (hm.1 ⟨h1, h2⟩)⟩]; simp [h2]
        · rw [decide_eq_false (fun h => h.2.elim h0 (fun h => h2 (hm.2 h).2))]; simp [h2]
      · rw [if_neg (by omega), decide_eq_false (fun h => h.2.elim h0 (fun h => h1 (hm.2 h).1))]
  · rw [if_neg hg, decide_eq_false (fun h => hg h.1)]
def most_ (low : Int) (l : List Int) : Int := if Good low l then (if 0 < l.length then rd l ((l.length - 1 : Nat) : Int) else low) else 0
theorem most_eq (low : Int) (l : List Int) (k : Nat) (hn : l.length < 4611686018427387904) (hk : l.length < k) : lsns_Most.f k low l = some (most_ low l) := by
  unfold lsns_Most.f most_
  rw [right_eq low l k hn hk]
  simp only [Option.bind_some, decide_eq_true_eq]
  by_cases hg : Good low l
  · rw [if_pos hg, if_pos hg]
    by_cases h1 : 0 < l.length
    · rw [if_pos (by omega), if_pos h1, w64 (by omega) (by omega), if_pos (by omega), if_pos (by omega), show (l.length : Int) - 1 = ((l.length - 1 : Nat) : Int) by omega]
    · rw [if_neg (by omega), if_neg h1]
  · rw [if_neg hg, if_neg hg]
def ins (l : List Int) (n : Int) : List Int := l.take (at_ l n) ++ [n] ++ l.drop (at_ l n)
theorem ins_mem (l : List Int) (n x : Int) : x ∈ ins l n ↔ x ∈ l ∨ x = n := by
  unfold ins
  conv => rhs; rw [← List.take_append_drop (at_ l n) l]
  simp only [List.mem_append, List.mem_singleton]
  constructor
  · rintro ((h | h) | h)
    · exact .inl (.inl h)
    · exact .inr h
    · exact .inl (.inr h)
  · rintro ((h | h) | h)
    · exact .inl (.inl h)
    · exact .inr h
    · exact .inl (.inr h)
theorem ins_length (l : List Int) (n : Int) : (ins l n).length = l.length + 1 := by
  have := at_le l n
  unfold ins
  simp only [List.length_append, List.length_take, List.length_drop, List.length_singleton]
  omega
theorem ins_sorted {l : List Int} (hs : l.Pairwise (· < ·)) {n : Int} (hm : n ∉ l) : (ins l n).Pairwise (· < ·) := by
  have hsp := at_sorted hs n
  have hlo : ∀ x ∈ l.take (at_ l n), x < n := fun x hx => by
    obtain ⟨i, hi, rfl⟩ := List.mem_iff_getElem.1 hx
    have hi' : i < at_ l n ∧ i < l.length := by rw [List.length_take] at hi; omega
    have := hsp.1 i hi'.1
    rw [rd_get l i hi'.2] at this
    rw [List.getElem_take]
    exact this
  have hhi : ∀ x ∈ l.drop (at_ l n), n < x := fun x hx => by
    have hne : x ≠ n := fun e => hm (e ▸ List.mem_of_mem_drop hx)
    obtain ⟨i, hi, rfl⟩ := List.mem_iff_getElem.1 hx
    rw [List.length_drop] at hi
    have := hsp.2 (at_ l n + i) (by omega) (by omega)
    rw [rd_get l _ (by omega)] at this
    rw [List.getElem_drop] at hne ⊢
    omega
  unfold ins
  rw [List.pairwise_append, List.pairwise_append]
  refine ⟨⟨hs.sublist (List.take_sublist _ _), List.pairwise_singleton _ _, fun a ha b hb => by rw [List.mem_singleton.1 hb]; exact hlo a ha⟩, hs.sublist (List.drop_sublist _ _), fun a ha b hb => ?_⟩
  have hb' := hhi b hb
  rcases List.mem_append.1 ha with ha | ha
  · have := hlo a ha
    omega
  · rw [List.mem_singleton.1 ha]
    exact hb'
def addl (low : Int) (l : List Int) (n : Int) : List Int := if n ≤ low ∨ n ∈ l then l else ins l n
def add_ (low : Int) (l : List Int) (n : Int) : Int × List Int × Int :=
  if ¬ Good low l then (0, [], 40) else if ¬ (n ≤ low ∨ n ∈ l) ∧ l.length = 1000 then (0, [], 6) else (low, addl low l n, 0)
theorem add_eq (low : Int) (l : List Int) (n : Int) (k : Nat) (hn : l.length < 17592186044415) (hk : l.length < k) : lsns_Add.f k low l n = some (add_ low l n) := by
  unfold lsns_Add.f add_ slices_Clone_uint64_uint64.f addl ins
  have hle := at_le l n
  rw [right_eq low l k (by omega) hk, has_eq low l n k (by omega) hk, at_eq low l n (by omega)]
  simp only [Option.bind_some, decide_eq_true_eq, has_]
  by_cases hg : Good low l
  · rw [if_pos hg, if_neg (not_not_intro hg)]
    by_cases hm : n ≤ low ∨ n ∈ l
    · rw [if_pos ⟨hg, hm⟩, if_pos (by omega), if_neg (fun h => h.1 hm), if_pos hm]
      rfl
    · rw [if_neg (fun h => hm h.2)]
      by_cases h2 : l.length = 1000
      · rw [if_pos (by omega), if_pos ⟨hm, h2⟩]
      · have e1 : ((at_ l n : Int)).toNat = at_ l n := by omega
        rw [if_neg (show ¬ ((l.length : Int) = 1000) by omega), if_pos (show (0 : Int) ≤ (at_ l n : Int) by omega), if_pos (show (at_ l n : Int) ≤ (l.length : Int) by omega), e1, if_pos (show (l.take (at_ l n)).length < 17592186044416 by rw [List.length_take]; omega), if_pos (by simp only [List.length_append, List.length_take, List.length_drop, List.length_singleton]; omega), if_neg (show ¬ (¬ (n ≤ low ∨ n ∈ l) ∧ l.length = 1000) from fun h => h2 h.2), if_neg hm]
  · rw [if_neg hg, if_pos hg]
theorem addl_sorted {low : Int} {l : List Int} (h : l.Pairwise (· < ·)) (n : Int) : (addl low l n).Pairwise (· < ·) := by
  unfold addl
  split
  · exact h
  · rename_i h1
    exact ins_sorted h (fun h2 => h1 (.inr h2))
theorem addl_mem {low : Int} {l : List Int} (h : ∀ x ∈ l, low < x) (n x : Int) : x ∈ addl low l n ↔ x ∈ l ∨ (x = n ∧ low < n) := by
  unfold addl
  split
  · rename_i h1
    refine ⟨fun hx => .inl hx, ?_⟩
    rintro (hx | ⟨rfl, hx⟩)
    · exact hx
    · exact h1.elim (fun h2 => by omega) id
  · rename_i h1
    rw [ins_mem]
    refine ⟨fun hx => hx.imp id (fun e => ⟨e, ?_⟩), fun hx => hx.imp id (fun e => e.1)⟩
    rcases Int.lt_or_le low n with h2 | h2
    · exact h2
    · exact absurd (.inl h2) h1
theorem addl_length (low : Int) (l : List Int) (n : Int) : (addl low l n).length ≤ l.length + 1 := by
  unfold addl
  split
  · omega
  · rw [ins_length]
    exact Nat.le_refl _
theorem addl_good {low : Int} {l : List Int} (h : Good low l) (n : Int) (hl : n ≤ low ∨ n ∈ l ∨ l.length < 1000) : Good low (addl low l n) := by
  have h' := good_iff.1 h
  refine good_iff.2 ⟨addl_sorted h'.1 n, fun x hx => ?_, ?_⟩
  · rcases (addl_mem h'.2.1 n x).1 hx with h1 | ⟨rfl, h1⟩
    · exact h'.2.1 x h1
    · exact h1
  · unfold addl
    split
    · exact h.2
    · rename_i h1
      rw [ins_length]
      have := hl.elim (fun h2 => absurd (.inl h2) h1) (fun h2 => h2.elim (fun h2 => absurd (.inr h2) h1) id)
      omega
def raise_ (low : Int) (l : List Int) (n : Int) : Int × List Int × Int := if Good low l then (mx n low, l.filter (fun x => decide (x > mx n low)), 0) else (0, [], 40)
theorem raise_eq (low : Int) (l : List Int) (n : Int) (k : Nat) (hn : l.length < 17592186044415) (hk : l.length < k) : lsns_Raise.f k low l n = some (raise_ low l n) := by
  unfold lsns_Raise.f raise_
  rw [right_eq low l k (by omega) hk]
  simp only [Option.bind_some, decide_eq_true_eq]
  by_cases hg : Good low l
  · rw [if_pos hg, if_pos hg, if_pos (by omega)]
  · rw [if_neg hg, if_neg hg]
theorem raise_good {low : Int} {l : List Int} (h : Good low l) (n : Int) : Good (mx n low) (l.filter (fun x => decide (x > mx n low))) := by
  have h' := good_iff.1 h
  refine good_iff.2 ⟨h'.1.filter _, fun x hx => by have := (List.mem_filter.1 hx).2; simpa using this, ?_⟩
  have := List.length_filter_le (fun x => decide (x > mx n low)) l
  omega

/-! ### the document's -/
theorem rright_l0 (low : Int) (l : List Int) (hn : l.length < 4611686018427387904) : ∀ (d k i : Nat), l.length - i = d → i ≤ l.length → d < k → (∀ j : Nat, j < i → low < rd l j) →
    lockkeeperref04_Right.l0 k i low l = some (okG (if i = 0 then low else rd l ((i - 1 : Nat) : Int)) (l.drop i)) := by
  intro d
  induction d with
  | zero =>
    intro k i hd hi hk _
    obtain ⟨k, rfl⟩ : ∃ m, k = m + 1 := ⟨k - 1, by omega⟩
    have : i = l.length := by omega
    subst this
    simp only [lockkeeperref04_Right.l0, List.drop_length, okG]
    rw [if_neg (by omega)]
  | succ d ih =>
    intro k i hd hi hk hpos
    obtain ⟨k, rfl⟩ : ∃ m, k = m + 1 := ⟨k - 1, by omega⟩
    have hlt : i < l.length := by omega
    simp only [lockkeeperref04_Right.l0]
    rw [if_pos (by omega), if_pos (by omega), drop_rd l i hlt, okG]
    have hnext : low < rd l i → lockkeeperref04_Right.l0 k (wrap64 (i + 1)) low l = some (okG (rd l i) (l.drop (i + 1))) := fun h1 => by
      rw [w64 (by omega) (by omega), show (i : Int) + 1 = ((i + 1 : Nat) : Int) by omega, ih k (i + 1) (by omega) (by omega) (by omega) (fun j hj => by
        rcases Nat.lt_or_ge j i with h | h
        · exact hpos j h
        · obtain rfl : j = i := by omega
          exact h1)]
      rw [if_neg (show ¬ (i + 1 = 0) by omega), Nat.add_sub_cancel]
    by_cases h1 : rd l i ≤ low
    · rw [if_pos h1]
      split
      · rw [decide_eq_false (by omega), Bool.false_and]
      · have := hpos (i - 1) (by omega)
        rw [decide_eq_false (by omega), Bool.false_and]
    · rw [if_neg h1, hnext (by omega)]
      by_cases h3 : i = 0
      · subst h3
        rw [if_neg (by omega), if_pos rfl, decide_eq_true (show low < rd l ((0 : Nat) : Int) by omega), Bool.true_and]
      · rw [if_pos (by omega), w64 (by omega) (by omega), if_pos (by omega), if_pos (by omega), if_neg h3, show (i : Int) - 1 = ((i - 1 : Nat) : Int) by omega]
        by_cases h4 : rd l i ≤ rd l ((i - 1 : Nat) : Int)
        · rw [if_pos h4, decide_eq_false (by omega), Bool.false_and]
        · rw [if_neg h4, decide_eq_true (by omega), Bool.true_and]
theorem rright_eq (low : Int) (l : List Int) (k : Nat) (hn : l.length < 4611686018427387904) (hk : l.length < k) : lockkeeperref04_Right.f k low l = some (decide (Good low l)) := by
  unfold lockkeeperref04_Right.f
  have h := rright_l0 low l hn l.length k 0 (by omega) (by omega) (by omega) (fun j hj => absurd hj (Nat.not_lt_zero _))
  rw [List.drop_zero, if_pos rfl, show ((0 : Nat) : Int) = 0 from rfl] at h
  rw [h]
  by_cases h1 : l.length ≤ 1000
  · rw [if_neg (by omega)]
    cases ho : okG low l
    · rw [decide_eq_false (fun h : Good low l => by have h9 := h.1; rw [ho] at h9; cases h9)]
    · rw [decide_eq_true (show Good low l from ⟨ho, h1⟩)]
  · rw [if_pos (by omega), decide_eq_false (fun h : Good low l => h1 h.2)]
theorem rhas_l0 (low : Int) (l : List Int) (n : Int) (hn : l.length < 4611686018427387904) : ∀ (d k i : Nat) (b : Bool), l.length - i = d → i ≤ l.length → d + l.length + 1 < k →
    lockkeeperref04_Has.l0 k n b i low l = some (decide (Good low l) && (b || decide (n ∈ l.drop i))) := by
  intro d
  induction d with
  | zero =>
    intro k i b hd hi hk
    obtain ⟨k, rfl⟩ : ∃ m, k = m + 1 := ⟨k - 1, by omega⟩
    have : i = l.length := by omega
    subst this
    simp only [lockkeeperref04_Has.l0, List.drop_length]
    rw [if_neg (by omega), rright_eq low l k hn (by omega)]
    simp only [Option.bind_some, decide_eq_true_eq]
    by_cases hg : Good low l
    · rw [if_pos hg]; simp [hg]
    · rw [if_neg hg]; simp [hg]
  | succ d ih =>
    intro k i b hd hi hk
    obtain ⟨k, rfl⟩ : ∃ m, k = m + 1 := ⟨k - 1, by omega⟩
    have hlt : i < l.length := by omega
    simp only [lockkeeperref04_Has.l0]
    rw [if_pos (by omega), w64 (by omega) (by omega), show (i : Int) + 1 = ((i + 1 : Nat) : Int) by omega, drop_rd l i hlt]
    cases b
    · rw [if_neg (by simp), if_pos (by omega), ih k (i + 1) _ (by omega) (by omega) (by omega)]
      congr 2
      by_cases h1 : n = rd l i
      · simp [h1]
      · have h2 : ¬ rd l i = n := fun e => h1 e.symm
        simp [h1, h2]
    · rw [if_pos rfl, ih k (i + 1) _ (by omega) (by omega) (by omega)]
      simp
theorem rhas_eq (low : Int) (l : List Int) (n : Int) (k : Nat) (hn : l.length < 4611686018427387904) (hk : 2 * l.length + 1 < k) : lockkeeperref04_Has.f k low l n = some (has_ low l n) := by
  unfold lockkeeperref04_Has.f has_
  have h := rhas_l0 low l n hn l.length k 0 (decide (n ≤ low)) (by omega) (by omega) (by omega)
  rw [List.drop_zero, show ((0 : Nat) : Int) = 0 from rfl] at h
  rw [h]
  by_cases h1 : Good low l <;> by_cases h2 : n ≤ low <;> by_cases h3 : n ∈ l <;> simp [h1, h2, h3]
theorem rcopy_eq (low : Int) (l : List Int) (hn : l.length < 17592186044416) : lockkeeperref04_Copy.f low l = some (low, l) := by
  unfold lockkeeperref04_Copy.f
  simp [hn]

theorem rsame_l0 (x y : Int) (a b : List Int) (hn : a.length < 4611686018427387904) (hl : a.length = b.length) : ∀ (d k i : Nat), a.length - i = d → i ≤ a.length → d < k →
    lockkeeperref04_Same.l0 k i x a y b = some (decide (a.drop i = b.drop i)) := by
  intro d
  induction d with
  | zero =>
    intro k i hd hi hk
    obtain ⟨k, rfl⟩ : ∃ m, k = m + 1 := ⟨k - 1, by omega⟩
    have : i = a.length := by omega
    subst this
    simp only [lockkeeperref04_Same.l0, List.drop_length]
    rw [if_neg (by omega), hl, List.drop_length]
    simp
  | succ d ih =>
    intro k i hd hi hk
    obtain ⟨k, rfl⟩ : ∃ m, k = m + 1 := ⟨k - 1, by omega⟩
    have hlt : i < a.length := by omega
    simp only [lockkeeperref04_Same.l0]
    rw [if_pos (by omega), if_pos (by omega), if_pos (by omega), w64 (by omega) (by omega), show (i : Int) + 1 = ((i + 1 : Nat) : Int) by omega, drop_rd a i hlt, drop_rd b i (by omega)]
    by_cases h1 : rd a i = rd b i
    · rw [if_pos h1, ih k (i + 1) (by omega) (by omega) (by omega)]
      simp [h1]
    · rw [if_neg h1]
      simp [h1]
theorem rsame_eq (x y : Int) (a b : List Int) (k : Nat) (hn : a.length < 4611686018427387904) (hk : a.length + 1 < k) : lockkeeperref04_Same.f k x a y b = some (decide (x = y ∧ a = b)) := by
  unfold lockkeeperref04_Same.f
  obtain ⟨k, rfl⟩ : ∃ m, k = m + 1 := ⟨k - 1, by omega⟩
  simp only [lockkeeperref04_Same.j0]
  by_cases h1 : x = y
  · rw [if_pos h1]
    by_cases h2 : a.length = b.length
    · have h := rsame_l0 x y a b hn h2 a.length k 0 (by omega) (by omega) (by omega)
      rw [List.drop_zero, List.drop_zero, show ((0 : Nat) : Int) = 0 from rfl] at h
      rw [h, if_neg (by simp; omega)]
      simp [h1]
    · rw [if_pos (by simp; omega), decide_eq_false]
      rintro ⟨_, rfl⟩
      exact h2 rfl
  · rw [if_neg h1, if_pos trivial, decide_eq_false (fun h => h1 h.1)]
/-! ### Join: both rows, each number once -/
theorem compact_mem {zs : List Int} (x : Int) : x ∈ Go.Lib.compact zs ↔ x ∈ zs := by
  unfold Go.Lib.compact Go.Lib.compactUpTo
  rw [List.mem_map]
  constructor
  · rintro ⟨j, hj, rfl⟩
    have hj' : j < zs.length := List.mem_range.1 (List.mem_filter.1 hj).1
    simp [hj']
  · intro hx
    obtain ⟨i, hi, rfl⟩ := List.mem_iff_getElem.1 hx
    have key : ∀ i : Nat, (hi : i < zs.length) → ∃ a, a ∈ (List.range zs.length).filter (Go.Lib.keeps zs.toArray) ∧ zs.toArray[a]! = zs[i] := by
      intro i
      induction i with
      | zero => exact fun hi => ⟨0, List.mem_filter.2 ⟨List.mem_range.2 hi, by simp [Go.Lib.keeps]⟩, by simp [hi]⟩
      | succ i ih =>
        intro hi
        by_cases h : zs[i + 1] = zs[i]
        · obtain ⟨a, h1, h2⟩ := ih (by omega)
          exact ⟨a, h1, by rw [h2, h]⟩
        · refine ⟨i + 1, List.mem_filter.2 ⟨List.mem_range.2 hi, ?_⟩, by simp [hi]⟩
          have h2 : i < zs.length := by omega
          simp [Go.Lib.keeps, hi, h2, h]
    exact key i hi
theorem compact_sorted {zs : List Int} (hs : zs.Pairwise (· ≤ ·)) : (Go.Lib.compact zs).Pairwise (· < ·) := by
  unfold Go.Lib.compact Go.Lib.compactUpTo
  rw [List.pairwise_map]
  refine List.Pairwise.imp_of_mem ?_ ((List.pairwise_lt_range (n := zs.length)).filter _)
  intro a b ha hb hab
  have hb1 : b < zs.length := List.mem_range.1 (List.mem_filter.1 hb).1
  have hk := (List.mem_filter.1 hb).2
  have hb2 : b - 1 < zs.length := by omega
  have ha2 : a < zs.length := by omega
  have hne : ¬ zs[b] = zs[b - 1] := by
    intro e
    simp [Go.Lib.keeps, hb1, hb2, e] at hk
    omega
  have h1 : zs[b - 1] ≤ zs[b] := List.pairwise_iff_getElem.1 hs (b - 1) b hb2 hb1 (by omega)
  have h2 : zs[a] ≤ zs[b - 1] := by
    rcases Nat.lt_or_ge a (b - 1) with h | h
    · exact List.pairwise_iff_getElem.1 hs a (b - 1) ha2 hb2 h
    · obtain rfl : a = b - 1 := by omega
      exact Int.le_refl _
  simp only [List.getElem!_toArray]
  rw [List.getElem!_eq_getElem?_getD, List.getElem!_eq_getElem?_getD, List.getElem?_eq_getElem ha2, List.getElem?_eq_getElem hb1]
  simp only [Option.getD_some]
  omega
theorem sortL_sorted (l : List Int) : (sortL l).Pairwise (· ≤ ·) := by
  unfold sortL
  have h := List.pairwise_mergeSort (le := fun x y : Int => decide (x ≤ y)) (fun a b c h1 h2 => by simp at *; omega) (fun a b => by simp; omega) l
  exact h.imp (fun h => by simpa using h)
def jl (l m : List Int) : List Int := lsns_Join_l l m
theorem jl_mem (l m : List Int) (x : Int) : x ∈ jl l m ↔ x ∈ l ∨ x ∈ m := by
  unfold jl lsns_Join_l
  rw [compact_mem]
  unfold sortL
  rw [List.mem_mergeSort, List.mem_append]
theorem jl_sorted (l m : List Int) : (jl l m).Pairwise (· < ·) := compact_sorted (sortL_sorted _)
theorem jl_length (l m : List Int) : (jl l m).length ≤ l.length + m.length := by
  have h := compact_length (sortL (l ++ m))
  rw [sortL_length, List.length_append] at h
  exact h
def joined_ (a : Int) (l : List Int) (b : Int) (m : List Int) : Int × List Int × Int :=
  if Good a l ∧ Good b m then (if a = b then (if 1000 < (jl l m).length then (0, [], 6) else (a, jl l m, 0)) else (0, [], 9)) else (0, [], 40)
theorem join_eq (a : Int) (l : List Int) (b : Int) (m : List Int) (k : Nat) (hl : l.length < 4611686018427387904) (hm : m.length < 4611686018427387904) (hkl : l.length < k) (hkm : m.length < k) : lsns_Join.f k a l b m = some (joined_ a l b m) := by
  unfold lsns_Join.f joined_
  rw [right_eq a l k hl hkl, right_eq b m k hm hkm]
  simp only [Option.bind_some, decide_eq_true_eq]
  by_cases hg : Good a l ∧ Good b m
  · rw [if_pos hg, if_pos hg]
    have h1 := hg.1.2
    have h2 := hg.2.2
    by_cases he : a = b
    · rw [if_pos he, if_pos he, if_pos (by omega)]
      show (if 1000 < (jl l m).length then _ else some (a, jl l m, 0)) = _
      split
      · rfl
      · rfl
    · rw [if_neg he, if_neg he]
  · rw [if_neg hg, if_neg hg]
theorem jl_good {a : Int} {l m : List Int} (hl : Good a l) (hm : Good a m) (h : ¬ 1000 < (jl l m).length) : Good a (jl l m) := by
  refine good_iff.2 ⟨jl_sorted l m, fun x hx => ?_, by omega⟩
  rcases (jl_mem l m x).1 hx with h1 | h1
  · exact (good_iff.1 hl).2.1 x h1
  · exact (good_iff.1 hm).2.1 x h1
/-! ### the law's head -/
theorem put_one (k : Nat) (hk : 40 ≤ k) : lsns_Put.f k 1 [3] = some ([0, 0, 0, 0, 0, 0, 0, 1, 0, 1, 0, 0, 0, 0, 0, 0, 0, 3], 0) := by
  obtain ⟨d, rfl⟩ : ∃ d, k = 40 + d := ⟨k - 40, by omega⟩
  induction d with
  | zero => kernel_rfl
  | succ d ih => exact lsns_Put.mono _ _ _ _ (ih (by omega))
theorem head_eq (k : Nat) (hk : 40 ≤ k) : lockkeeperlaw04_head.f k = some true := by
  have g1 : Good 2 [5] := by decide
  have g2 : Good 2 [4, 5] := by decide
  have g3 : Good 2 [] := by decide
  have g4 : Good 3 [] := by decide
  have e1 : add_ 2 [5] 4 = (2, [4, 5], 0) := by
    unfold add_
    rw [if_neg (not_not_intro g1), if_neg (by simp)]
    congr 2
    refine sorted_ext (addl_sorted (by simp) 4) (by simp) (fun x => ?_)
    rw [addl_mem (by simp)]
    simp
    omega
  have e2 : raise_ 2 [4, 5] 4 = (4, [5], 0) := by decide
  have e3 : lsns_Join.f k 2 [] 3 [] = some (0, [], 9) := by
    unfold lsns_Join.f
    rw [right_eq 2 [] k (by simp) (by simp; omega), right_eq 3 [] k (by simp) (by simp; omega), decide_eq_true g3, decide_eq_true g4]
    simp
  have e4 : most_ 2 [4, 5] = 5 := by decide
  unfold lockkeeperlaw04_head.f
  rw [add_eq 2 [5] 4 k (by simp) (by simp; omega), e1]
  simp only [Option.bind_some]
  rw [raise_eq 2 [4, 5] 4 k (by simp) (by simp; omega), e2, e3, put_one k hk, most_eq 2 [4, 5] k (by simp) (by simp; omega), e4]
  simp only [Option.bind_some, if_true]
  rw [if_pos (by simp), if_pos (by simp), if_pos (by simp [rd]), if_pos (by simp)]
  have e5 : ((strOfNums [0, 0, 0, 0, 0, 0, 0, 1, 0, 1, 0, 0, 0, 0, 0, 0, 0, 3]).toList == ([0, 0, 0, 0, 0, 0, 0, 1, 0, 1, 0, 0, 0, 0, 0, 0, 0, 3] : List UInt8)) = true := by kernel_rfl
  rw [e5]
end Go.Proofs.Ytebmpoonkmcjfaa.E
