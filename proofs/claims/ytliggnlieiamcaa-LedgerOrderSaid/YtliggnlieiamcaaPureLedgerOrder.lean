/- LedgerOrder's plain law: two numbers answered in either order leave the same ledger; what a number given out does to Low. -/
import Derived.Test.YtliggnlieiamcaaPlainRef
import Derived.OpenShut
import Derived.Test.YtliggnlieiamcaaPx8
namespace Go.Proofs.Ytliggnlieiamcaa.Pure
set_option linter.unusedVariables false
set_option linter.unusedSimpArgs false
open Go.RowKit Go.Proofs.Ytliggnlieiamcaa.P Go.Proofs.YtliggnlieiamcaaW.PrintWords Go.Proofs.YtliggnlieiamcaaW.PrintLast Go.Proofs.YtliggnlieiamcaaW.PrintMore

theorem good_filter {last : Int} {l : List Int} (h : P.Good last l) (p : Int → Bool) : P.Good last (l.filter p) := by
  rw [good_iff] at h ⊢
  refine ⟨h.1.filter _, fun x hx => h.2.1 x (List.mem_filter.1 hx).1, ?_, h.2.2.2⟩
  have := List.length_filter_le p l
  omega
theorem good_give {last : Int} {l : List Int} (h : P.Good last l) (h0 : 0 ≤ last) (hl : last < 281474976710656) (op : Bool) (hop : op = true → l.length < 1000) : P.Good (last + 1) (if op then l ++ [last + 1] else l) := by
  rw [good_iff] at h ⊢
  cases op
  · exact ⟨h.1, fun x hx => ⟨(h.2.1 x hx).1, by have := (h.2.1 x hx).2; omega⟩, h.2.2.1, by omega⟩
  · have := hop rfl
    refine ⟨?_, ?_, by simp; omega, by omega⟩
    · rw [if_pos rfl, List.pairwise_append]
      exact ⟨h.1, List.pairwise_singleton _ _, fun a ha b hb => by
        rw [List.mem_singleton.1 hb]
        have := (h.2.1 a ha).2
        omega⟩
    · intro x hx
      rcases List.mem_append.1 hx with hx | hx
      · have := h.2.1 x hx
        omega
      · rw [List.mem_singleton.1 hx]
        omega
theorem give_good {last : Int} {l : List Int} (h : P.Good last l) (op : Bool) : give_ last l (last + 1) op = if last = 281474976710656 ∨ (op = true ∧ l.length = 1000) then (0, [], 6) else (last + 1, if op then l ++ [last + 1] else l, 0) := by
  unfold give_
  rw [if_neg (by simp [h])]
theorem answer_zero {last : Int} {l : List Int} {n : Int} : (answer_ last l n).2.2.2 = 0 ↔ P.Good last l ∧ n ≠ 0 ∧ n ≤ last := by
  unfold answer_
  by_cases h : ¬ P.Good last l ∨ n = 0 ∨ n > last
  · rw [if_pos h]
    simp
    intro h1 h2
    rcases h with h | h | h
    · exact absurd h1 h
    · exact absurd h h2
    · omega
  · rw [if_neg h]
    simp only [true_iff]
    refine ⟨Classical.byContradiction fun h1 => h (.inl h1), fun h1 => h (.inr (.inl h1)), ?_⟩
    rcases Int.lt_or_le last n with h1 | h1
    · exact absurd (.inr (.inr h1)) h
    · exact h1
theorem answer_ok {last : Int} {l : List Int} {n : Int} (h : P.Good last l) (h0 : n ≠ 0) (h1 : n ≤ last) : answer_ last l n = (last, l.filter (fun x => decide (x ≠ n)), decide (n ∈ l), 0) := by
  unfold answer_
  rw [if_neg]
  rintro (h2 | h2 | h2)
  · exact h2 h
  · exact h0 h2
  · omega
theorem filter_swap (l : List Int) (a b : Int) : (l.filter (fun x => decide (x ≠ a))).filter (fun x => decide (x ≠ b)) = (l.filter (fun x => decide (x ≠ b))).filter (fun x => decide (x ≠ a)) := by
  rw [List.filter_filter, List.filter_filter]
  congr 1
  funext x
  rw [Bool.and_comm]

theorem low_give_op {last : Int} {l : List Int} (h : P.Good last l) (h0 : 0 ≤ last) (hl : last < 281474976710656) (hop : l.length < 1000) : low_ (last + 1) (l ++ [last + 1]) = low_ last l := by
  have hg := good_give h h0 hl true (fun _ => hop)
  rw [if_pos rfl] at hg
  unfold low_
  rw [if_pos hg, if_pos h]
  cases l with
  | nil => simp
  | cons x t => rfl
theorem low_give_no {last : Int} {l : List Int} (h : P.Good last l) (h0 : 0 ≤ last) (hl : last < 281474976710656) : low_ (last + 1) l = low_ last l + (if l = [] then 1 else 0) := by
  have hg := good_give h h0 hl false (fun h => by cases h)
  rw [if_neg (by simp)] at hg
  unfold low_
  rw [if_pos hg, if_pos h]
  cases l with
  | nil => simp
  | cons x t => simp
theorem low_range {last : Int} {l : List Int} (h : P.Good last l) (h0 : 0 ≤ last) : 0 ≤ low_ last l ∧ low_ last l ≤ 281474976710656 := by
  unfold low_
  rw [if_pos h]
  rw [good_iff] at h
  cases l with
  | nil => exact ⟨h0, h.2.2.2⟩
  | cons x t =>
    have := h.2.1 x List.mem_cons_self
    have := h.2.2.2
    exact ⟨by show 0 ≤ x - 1; omega, by show x - 1 ≤ _; omega⟩

theorem order_j4 (last : Int) (l : List Int) (h : P.Good last l) (h0 : 0 ≤ last) (k : Nat) (hk : 4000 ≤ k) : lockkeeperlaw25_LedgerOrder.j4 k (low_ last l) false last l = some true := by
  have hg := good_iff.1 h
  have hr := low_range h h0
  obtain ⟨k, rfl⟩ : ∃ m, k = m + 1 := ⟨k - 1, by omega⟩
  simp only [lockkeeperlaw25_LedgerOrder.j4, Bool.false_eq_true, if_false]
  rw [wu64 (by omega) (by omega), give_eq last l (last + 1) false k h0 (by omega) (by omega) (by omega), head_eq k (by omega)]
  simp only [Option.bind_some]
  by_cases h1 : last = 281474976710656
  · have e : give_ last l (last + 1) false = (0, [], 6) := by rw [give_good h, if_pos (.inl h1)]
    rw [e]
    simp [h1]
  · have e : give_ last l (last + 1) false = (last + 1, l, 0) := by rw [give_good h, if_neg (by simp [h1])]; simp
    rw [e]
    simp only [if_true]
    rw [low_eq (last + 1) l k (by omega) (by omega), low_give_no h h0 (by omega)]
    simp only [Option.bind_some]
    have hm : IntKind.u64.wrap (low_ last l + IntKind.u64.wrap (wrap64 (1 - mn (l.length : Int) 1))) = low_ last l + (if l = [] then 1 else 0) := by
      cases l with
      | nil => rw [show mn (([] : List Int).length : Int) 1 = 0 from rfl, w64 (by omega) (by omega), wu64 (i := 1 - 0) (by omega) (by omega), if_pos rfl, wu64 (by omega) (by omega)]; rfl
      | cons x t =>
        have hmn : mn ((x :: t).length : Int) 1 = 1 := by unfold mn; simp only [List.length_cons]; split <;> omega
        rw [hmn, w64 (by omega) (by omega), wu64 (i := 1 - 1) (by omega) (by omega), if_neg (by simp), wu64 (by omega) (by omega)]; rfl
    rw [hm, if_pos rfl]
theorem order_j3 (last : Int) (l : List Int) (h : P.Good last l) (h0 : 0 ≤ last) (k : Nat) (hk : 4010 ≤ k) : lockkeeperlaw25_LedgerOrder.j3 k last l = some true := by
  have hg := good_iff.1 h
  obtain ⟨k, rfl⟩ : ∃ m, k = m + 1 := ⟨k - 1, by omega⟩
  simp only [lockkeeperlaw25_LedgerOrder.j3]
  rw [low_eq last l k (by omega) (by omega), wu64 (by omega) (by omega), give_eq last l (last + 1) true k h0 (by omega) (by omega) (by omega)]
  simp only [Option.bind_some]
  by_cases h1 : last = 281474976710656 ∨ l.length = 1000
  · have e : give_ last l (last + 1) true = (0, [], 6) := by rw [give_good h, if_pos (by rcases h1 with h1 | h1 <;> simp [h1])]
    rw [e]
    simp only [show ¬ ((6 : Int) = 0) by omega, if_false]
    exact order_j4 last l h h0 k (by omega)
  · have h2 : last ≠ 281474976710656 ∧ l.length ≠ 1000 := by simpa [not_or] using h1
    have e : give_ last l (last + 1) true = (last + 1, l ++ [last + 1], 0) := by rw [give_good h, if_neg (by simp [h2])]; simp
    rw [e]
    simp only [if_true]
    rw [low_eq (last + 1) _ k (by simp; omega) (by simp; omega), low_give_op h h0 (by omega) (by omega)]
    simp only [Option.bind_some, bne_self_eq_false]
    exact order_j4 last l h h0 k (by omega)

theorem LedgerOrder : lockkeeperlaw25_LedgerOrder.Pure := by
  intro last l a b hw _ _ _ _
  have h0 : 0 ≤ last ∧ last ≤ 18446744073709551615 := bounds_u64 hw
  refine ⟨6004, ?_⟩
  unfold lockkeeperlaw25_LedgerOrder.f
  have hhead : ∀ e f, lockkeeperlaw25_LedgerOrder.j0 6004 a b true e f = some true := fun e f => by
    simp only [lockkeeperlaw25_LedgerOrder.j0, if_true]
    rw [head_eq 6003 (by omega)]
    rfl
  by_cases h1 : l.length ≤ 1100
  · rw [if_neg (by omega), check_eq last l 6004 (by omega) (by omega)]
    simp only [Option.bind_some]
    by_cases hg : P.Good last l
    · rw [chk_zero.2 hg]
      have hgi := good_iff.1 hg
      simp only [bne_self_eq_false, lockkeeperlaw25_LedgerOrder.j0, Bool.false_eq_true, if_false]
      rw [answer_eq last l a 6003 (by omega) (by omega)]
      simp only [Option.bind_some]
      have hj1 : ∀ (e f : Int) (x : Int) (y : List Int), (e = 0 → f = 0 → (answer_ last l a).2.2.2 = 0 ∧ (answer_ last l b).2.2.2 = 0 ∧ x = last ∧ y = (l.filter (fun x => decide (x ≠ a))).filter (fun x => decide (x ≠ b))) → lockkeeperlaw25_LedgerOrder.j1 6003 a b e f last l x y = some true := by
        intro e f x y hxy
        simp only [lockkeeperlaw25_LedgerOrder.j1]
        rw [answer_eq last l b 6002 (by omega) (by omega)]
        simp only [Option.bind_some]
        by_cases he : e = 0
        · rw [if_pos he]
          simp only [lockkeeperlaw25_LedgerOrder.j2]
          by_cases hf : f = 0
          · obtain ⟨ha, hb, rfl, rfl⟩ := hxy he hf
            have ha := answer_zero.1 ha
            have hb := answer_zero.1 hb
            have hlb := List.length_filter_le (fun x => decide (x ≠ b)) l
            have hgb := good_filter hg (fun x => decide (x ≠ b))
            rw [answer_ok hg hb.2.1 hb.2.2, hf]
            simp only [beq_self_eq_true, if_true]
            rw [answer_eq x _ a 6001 (by omega) (by omega), answer_ok hgb ha.2.1 ha.2.2]
            simp only [Option.bind_some]
            simp only [if_true]
            have hlb2 := List.length_filter_le (fun x => decide (x ≠ a)) (l.filter (fun x => decide (x ≠ b)))
            rw [same_eq _ _ _ _ 6001 (by omega) (by omega), filter_swap l a b]
            simp only [and_self, decide_true, Option.bind_some, if_true]
            exact order_j3 x l hg h0.1 6001 (by omega)
          · rw [beq_eq_false_iff_ne.2 hf]
            simp only [Bool.false_eq_true, if_false]
            exact order_j3 last l hg h0.1 6001 (by omega)
        · rw [if_neg he]
          simp only [lockkeeperlaw25_LedgerOrder.j2, Bool.false_eq_true, if_false]
          exact order_j3 last l hg h0.1 6001 (by omega)
      by_cases he : (answer_ last l a).2.2.2 = 0
      · rw [if_pos he]
        have ha := answer_zero.1 he
        have hla := List.length_filter_le (fun x => decide (x ≠ a)) l
        have hga := good_filter hg (fun x => decide (x ≠ a))
        rw [answer_ok hg ha.2.1 ha.2.2]
        simp only []
        rw [answer_eq last _ b 6003 (by omega) (by omega)]
        simp only [Option.bind_some]
        refine hj1 _ _ _ _ (fun _ hf => ?_)
        have hb := answer_zero.1 hf
        rw [answer_ok hga hb.2.1 hb.2.2]
        exact ⟨he, answer_zero.2 ⟨hg, hb.2⟩, rfl, rfl⟩
      · rw [if_neg he]
        exact hj1 _ _ _ _ (fun h => absurd h he)
    · have hc : (chk last l != 0) = true := by rw [bne_iff_ne]; exact fun h => hg (chk_zero.1 h)
      rw [hc]
      exact hhead _ _
  · rw [if_pos (by omega)]
    exact hhead _ _
end Go.Proofs.Ytliggnlieiamcaa.Pure
