/- LsnsJoins's plain law: joining is the same both ways, and in whatever groups; a set with itself is itself. -/
import Derived.Test.YtebmpoonkmcjfaaPlainC
import Derived.Test.YtebmpoonkmcjfaaCx4
namespace Go.Proofs.Ytebmpoonkmcjfaa.Pure
set_option linter.unusedVariables false
set_option linter.unusedSimpArgs false
open Go.RowKit Go.Proofs.Ytebmpoonkmcjfaa.C Go.Proofs.YtebmpoonkmcjfaaW.PrintWords Go.Proofs.YtebmpoonkmcjfaaW.PrintLast Go.Proofs.YtebmpoonkmcjfaaW.PrintMore

theorem jl_comm (l m : List Int) : jl l m = jl m l := sorted_ext (jl_sorted _ _) (jl_sorted _ _) (fun x => by rw [jl_mem, jl_mem, or_comm])
theorem jl_assoc (l m n : List Int) : jl (jl l m) n = jl l (jl m n) := sorted_ext (jl_sorted _ _) (jl_sorted _ _) (fun x => by rw [jl_mem, jl_mem, jl_mem, jl_mem, or_assoc])
theorem jl_self {l : List Int} (h : l.Pairwise (· < ·)) : jl l l = l := sorted_ext (jl_sorted _ _) h (fun x => by rw [jl_mem, or_self])
theorem join_ok {a : Int} {l m : List Int} (hl : C.Good a l) (hm : C.Good a m) : joined_ a l a m = if 1000 < (jl l m).length then (0, [], 6) else (a, jl l m, 0) := by
  unfold joined_
  rw [if_pos ⟨hl, hm⟩, if_pos rfl]
theorem joins_j0 (k : Nat) (hk : 5000 ≤ k) (a : Int) (l m n : List Int) (hl : C.Good a l) (hm : C.Good a m) (hn : C.Good a n) : lockkeeperlaw04_LsnsJoins.j0 (k + 1) false a l a m a n = some true := by
  have h1 := hl.2
  have h2 := hm.2
  have h3 := hn.2
  have hs : joined_ a l a l = (a, l, 0) := by rw [join_ok hl hl, jl_self (okG_sorted hl.1), if_neg (by omega)]
  have hc : joined_ a m a l = joined_ a l a m := by rw [join_ok hm hl, join_ok hl hm, jl_comm]
  simp only [lockkeeperlaw04_LsnsJoins.j0]
  rw [if_neg (by simp), join_eq a l a m k (by omega) (by omega) (by omega) (by omega), join_eq a m a l k (by omega) (by omega) (by omega) (by omega), join_eq a l a l k (by omega) (by omega) (by omega) (by omega), hs, hc]
  simp only [Option.bind_some, if_true]
  have hlen : (joined_ a l a m).2.1.length ≤ 1000 := by
    rw [join_ok hl hm]
    split
    · simp
    · show (jl l m).length ≤ 1000; omega
  rw [same_eq _ _ _ _ k (by omega) (by omega), decide_eq_true ⟨rfl, rfl⟩]
  simp only [Option.bind_some, if_true]
  rw [same_eq _ _ _ _ k (by omega) (by omega), decide_eq_true ⟨rfl, rfl⟩]
  simp only [Option.bind_some, if_true]
  rw [join_eq a m a n k (by omega) (by omega) (by omega) (by omega)]
  simp only [Option.bind_some]
  obtain ⟨k, rfl⟩ : ∃ q, k = q + 1 := ⟨k - 1, by omega⟩
  rw [join_ok hl hm, join_ok hm hn]
  by_cases c1 : 1000 < (jl l m).length
  · rw [if_pos c1, if_neg (by simp)]
    simp only [lockkeeperlaw04_LsnsJoins.j1]
    rw [if_pos trivial, head_eq k (by omega)]
    rfl
  · rw [if_neg c1, if_pos rfl]
    by_cases c2 : 1000 < (jl m n).length
    · rw [if_pos c2]
      simp only [lockkeeperlaw04_LsnsJoins.j1]
      rw [if_pos (by simp), head_eq k (by omega)]
      rfl
    · rw [if_neg c2]
      have g1 := jl_good hl hm c1
      have g2 := jl_good hm hn c2
      simp only [lockkeeperlaw04_LsnsJoins.j1]
      rw [if_neg (by simp), join_eq a (jl l m) a n k (by omega) (by omega) (by omega) (by omega), join_eq a l a (jl m n) k (by omega) (by omega) (by omega) (by omega)]
      simp only [Option.bind_some]
      have hq : joined_ a (jl l m) a n = joined_ a l a (jl m n) := by rw [join_ok g1 hn, join_ok hl g2, jl_assoc]
      have hlen : (joined_ a l a (jl m n)).2.1.length ≤ 1000 := by
        rw [join_ok hl g2]
        split
        · simp
        · show (jl l (jl m n)).length ≤ 1000; omega
      rw [hq, if_pos rfl, same_eq _ _ _ _ k (by omega) (by omega), decide_eq_true ⟨rfl, rfl⟩]
      simp only [Option.bind_some, if_true]
      rw [head_eq k (by omega)]
      rfl
theorem LsnsJoins : lockkeeperlaw04_LsnsJoins.Pure := by
  intro a l b m c n _ hl _ _ hm _ _ hn _
  refine ⟨6000, ?_⟩
  generalize hk : 6000 = k
  obtain ⟨k, rfl⟩ : ∃ m, k = m + 1 := ⟨k - 1, by omega⟩
  have hd : lockkeeperlaw04_LsnsJoins.j0 (k + 1) true a l a m a n = some true := by
    simp only [lockkeeperlaw04_LsnsJoins.j0]
    rw [if_pos trivial, head_eq k (by omega)]
    rfl
  unfold lockkeeperlaw04_LsnsJoins.f lockkeeperlaw04_great.f
  simp only [Option.bind_some, decide_eq_true_eq]
  by_cases h1 : l.length ≤ 1100
  · rw [if_neg (by omega)]
    by_cases h2 : m.length ≤ 1100
    · rw [if_neg (by omega)]
      by_cases h3 : n.length ≤ 1100
      · rw [if_neg (by omega), right_eq a l _ (by omega) (by omega), right_eq a m _ (by omega) (by omega), right_eq a n _ (by omega) (by omega)]
        simp only [Option.bind_some, decide_eq_true_eq]
        by_cases g1 : C.Good a l
        · rw [if_pos g1]
          by_cases g2 : C.Good a m
          · rw [if_pos g2]
            by_cases g3 : C.Good a n
            · rw [decide_eq_true g3]
              exact joins_j0 k (by omega) a l m n g1 g2 g3
            · rw [decide_eq_false g3]
              exact hd
          · rw [if_neg g2]; exact hd
        · rw [if_neg g1]; exact hd
      · rw [if_pos (by omega)]; exact hd
    · rw [if_pos (by omega)]; exact hd
  · rw [if_pos (by omega)]; exact hd
end Go.Proofs.Ytebmpoonkmcjfaa.Pure
