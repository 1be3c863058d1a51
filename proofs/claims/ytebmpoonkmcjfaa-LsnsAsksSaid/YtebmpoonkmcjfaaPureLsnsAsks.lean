/- LsnsAsks' plain law: Right, Has, Most and Same tell what the document says. -/
import Derived.Test.YtebmpoonkmcjfaaPlain
import Derived.Test.YtebmpoonkmcjfaaPx4
namespace Go.Proofs.Ytebmpoonkmcjfaa.Pure
set_option linter.unusedVariables false
set_option linter.unusedSimpArgs false
open Go.RowKit Go.Proofs.Ytebmpoonkmcjfaa.P Go.Proofs.YtebmpoonkmcjfaaW.PrintWords Go.Proofs.YtebmpoonkmcjfaaW.PrintLast Go.Proofs.YtebmpoonkmcjfaaW.PrintMore

theorem asks_j0 (n low : Int) (l : List Int) (low2 : Int) (m : List Int) (b : Bool) (k : Nat) (hk : 41 ≤ k) (hb : b = false → l.length ≤ 1100 ∧ m.length ≤ 1100 ∧ 3000 ≤ k) : lockkeeperlaw04_LsnsAsks.j0 k n b low l low2 m = some true := by
  obtain ⟨k, rfl⟩ : ∃ j, k = j + 1 := ⟨k - 1, by omega⟩
  simp only [lockkeeperlaw04_LsnsAsks.j0]
  cases b
  · obtain ⟨h1, h2, h3⟩ := hb rfl
    rw [if_neg (by simp), right_eq low l k (by omega) (by omega), rright_eq low l k (by omega) (by omega), has_eq low l n k (by omega) (by omega), rhas_eq low l n k (by omega) (by omega), most_eq low l k (by omega) (by omega), rmost_eq low l k (by omega) (by omega), same_eq low low2 l m k (by omega) (by omega), rsame_eq low low2 l m k (by omega) (by omega), rcopy_eq low l (by omega)]
    simp only [Option.bind_some]
    rw [same_eq low low l l k (by omega) (by omega), head_eq k (by omega)]
    simp
  · rw [if_pos rfl, head_eq k (by omega)]
    rfl
theorem LsnsAsks : lockkeeperlaw04_LsnsAsks.Pure := by
  intro low l low2 m n _ _ _ _ _ _ _
  refine ⟨3001, ?_⟩
  generalize hK : (3001 : Nat) = K
  unfold lockkeeperlaw04_LsnsAsks.f lockkeeperlaw04_great.f
  simp only [Option.bind_some]
  by_cases h1 : (l.length : Int) > 1100
  · rw [if_pos (decide_eq_true h1)]
    exact asks_j0 _ _ _ _ _ _ _ (by omega) (fun h => by cases h)
  · rw [if_neg (by simpa using h1)]
    exact asks_j0 _ _ _ _ _ _ _ (by omega) (fun h => by
      simp only [decide_eq_false_iff_not] at h
      omega)
end Go.Proofs.Ytebmpoonkmcjfaa.Pure
