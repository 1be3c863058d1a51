/- LedgerTurns' plain law: the program's ledger functions tell what the document's tell. -/
import Derived.Test.YtliggnlieiamcaaPlainRef
import Derived.OpenShut
import Derived.Test.YtliggnlieiamcaaPx7
namespace Go.Proofs.Ytliggnlieiamcaa.Pure
set_option linter.unusedVariables false
set_option linter.unusedSimpArgs false
open Go.RowKit Go.Proofs.Ytliggnlieiamcaa.P Go.Proofs.YtliggnlieiamcaaW.PrintWords Go.Proofs.YtliggnlieiamcaaW.PrintLast Go.Proofs.YtliggnlieiamcaaW.PrintMore

theorem turns_end (last : Int) (l : List Int) (ml : Int) (m : List Int) (n : Int) (op : Bool) (x : Int) (hl : l.length ≤ 1100) (hm : m.length ≤ 1100) : ∀ (d k i : Nat) (r : List Int), r.length - i = d → i ≤ r.length → r.length ≤ 1200 → d + 8000 ≤ k →
    lockkeeperlaw25_LedgerTurns.l1 k i last l ml m n op last l x r = some true := by
  intro d
  induction d with
  | zero =>
    intro k i r hd hi hr hk
    obtain ⟨k, rfl⟩ : ∃ m, k = m + 1 := ⟨k - 1, by omega⟩
    simp only [lockkeeperlaw25_LedgerTurns.l1]
    rw [if_neg (by omega), rsame_eq last last l l k (by omega) (by omega), check_eq last l k (by omega) (by omega), rcheck_eq last l k (by omega) (by omega), low_eq last l k (by omega) (by omega), rlow_eq last l k (by omega) (by omega),
      isopen_eq last l n k (by omega) (by omega), risopen_eq last l n k (by omega) (by omega), same_eq last ml l m k (by omega) (by omega), rsame_eq last ml l m k (by omega) (by omega), same_eq last last l l k (by omega) (by omega), head_eq k (by omega)]
    simp
  | succ d ih =>
    intro k i r hd hi hr hk
    obtain ⟨k, rfl⟩ : ∃ m, k = m + 1 := ⟨k - 1, by omega⟩
    simp only [lockkeeperlaw25_LedgerTurns.l1]
    rw [if_pos (by omega), if_pos (by omega), w64 (by omega) (by omega), show (i : Int) + 1 = ((i + 1 : Nat) : Int) by omega]
    exact ih k (i + 1) _ (by rw [List.length_set]; omega) (by rw [List.length_set]; omega) (by rw [List.length_set]; omega) (by omega)
theorem turns_mid (last : Int) (l : List Int) (ml : Int) (m : List Int) (n : Int) (op : Bool) (x y : Int) (r : List Int) (hl : l.length ≤ 1100) (hm : m.length ≤ 1100) (hr : r.length ≤ 1200) : ∀ (d k i : Nat) (a : List Int), a.length - i = d → i ≤ a.length → a.length ≤ 1200 → d + 9300 ≤ k →
    lockkeeperlaw25_LedgerTurns.l0 k i last l ml m n op last l x a y r = some true := by
  intro d
  induction d with
  | zero =>
    intro k i a hd hi ha hk
    obtain ⟨k, rfl⟩ : ∃ m, k = m + 1 := ⟨k - 1, by omega⟩
    simp only [lockkeeperlaw25_LedgerTurns.l0]
    rw [if_neg (by omega)]
    exact turns_end last l ml m n op y hl hm r.length k 0 r (by omega) (by omega) hr (by omega)
  | succ d ih =>
    intro k i a hd hi ha hk
    obtain ⟨k, rfl⟩ : ∃ m, k = m + 1 := ⟨k - 1, by omega⟩
    simp only [lockkeeperlaw25_LedgerTurns.l0]
    rw [if_pos (by omega), if_pos (by omega), w64 (by omega) (by omega), show (i : Int) + 1 = ((i + 1 : Nat) : Int) by omega]
    exact ih k (i + 1) _ (by rw [List.length_set]; omega) (by rw [List.length_set]; omega) (by rw [List.length_set]; omega) (by omega)
theorem give_len (last : Int) (l : List Int) (n : Int) (op : Bool) : (give_ last l n op).2.1.length ≤ l.length + 1 := by
  unfold give_
  split
  · simp
  · split
    · simp
    · cases op <;> simp
theorem answer_len (last : Int) (l : List Int) (n : Int) : (answer_ last l n).2.1.length ≤ l.length := by
  unfold answer_
  split
  · simp
  · exact List.length_filter_le _ _

theorem LedgerTurns : lockkeeperlaw25_LedgerTurns.Pure := by
  intro last l ml m n op h0 _ _ _ _ _ hn
  have hb : 0 ≤ last ∧ last ≤ 18446744073709551615 := bounds_u64 h0
  have hb2 : 0 ≤ n ∧ n ≤ 18446744073709551615 := bounds_u64 hn
  refine ⟨20001, ?_⟩
  unfold lockkeeperlaw25_LedgerTurns.f
  have hhead : ∀ a b c d e f, lockkeeperlaw25_LedgerTurns.j0 20001 true a b c d e f = some true := fun a b c d e f => by
    simp only [lockkeeperlaw25_LedgerTurns.j0, if_true]
    rw [head_eq 20000 (by omega)]
    rfl
  by_cases h1 : l.length ≤ 1100
  · rw [if_neg (by omega)]
    by_cases h2 : m.length ≤ 1100
    · rw [decide_eq_false (by omega)]
      simp only [lockkeeperlaw25_LedgerTurns.j0, Bool.false_eq_true, if_false]
      rw [rcopy_eq last l (by omega)]
      simp only [Option.bind_some]
      rw [give_eq last l n op 20000 hb.1 hb.2 (by omega) (by omega), rgive_eq last l n op 20000 hb.1 hb.2 hb2.1 hb2.2 (by omega) (by omega), answer_eq last l n 20000 (by omega) (by omega), ranswer_eq last l n 20000 (by omega) (by omega)]
      have hg := give_len last l n op
      have ha := answer_len last l n
      simp only [Option.bind_some]
      rw [rsame_eq _ _ _ _ 20000 (by omega) (by omega)]
      simp only [Option.bind_some, and_self, decide_true, if_true]
      rw [rsame_eq _ _ _ _ 20000 (by omega) (by omega)]
      simp only [Option.bind_some, and_self, decide_true, if_true, bne_self_eq_false, Bool.false_eq_true, if_false]
      exact turns_mid last l ml m n op _ _ _ h1 h2 (by omega) _ 20000 0 _ rfl (Nat.zero_le _) (by omega) (by omega)
    · rw [decide_eq_true (by omega)]
      exact hhead _ _ _ _ _ _
  · rw [if_pos (by omega)]
    exact hhead _ _ _ _ _ _
end Go.Proofs.Ytliggnlieiamcaa.Pure
