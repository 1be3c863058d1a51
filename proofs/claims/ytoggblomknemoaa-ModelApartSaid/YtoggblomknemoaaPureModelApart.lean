/- The plain law behind ModelApart: two calls on other keys are told the same in either order, and make the same map. Conditions: none beyond the row's own. -/
import Derived.Test.YtoggblomknemoaaAPh
namespace Go.Proofs.Ytoggblomknemoaa.Pure
open Go.Sort Go.RowKit Go.Proofs.Ytoggblomknemoaa.A Go.Proofs.YtoggblomknemoaaW.PrintWords Go.Proofs.YtoggblomknemoaaW.PrintLast
set_option linter.unusedVariables false
set_option linter.unusedSimpArgs false
theorem w1 {i n : Nat} (h : i < n) (hn : n < 4611686018427387904) : wrap64 ((i : Int) + 1) = ((i + 1 : Nat) : Int) := by rw [w64 (by omega) (by omega)]; omega
theorem csame_l0 (l : List S42) (hn : l.length < 4611686018427387904) : ∀ (d k i : Nat), l.length - i = d → i ≤ l.length → d < k → api_Cell_61.l0 k l l (l.length : Int) (i : Int) = some true
  | 0, k + 1, i, hd, hi, hk => by
    unfold api_Cell_61.l0
    rw [if_neg (by omega)]
  | d + 1, k + 1, i, hd, hi, hk => by
    unfold api_Cell_61.l0
    rw [if_pos (by omega), if_pos (by omega), if_pos (by omega), if_pos (by omega), if_neg (by simp), w1 (show i < l.length by omega) hn]
    exact csame_l0 l hn d k (i + 1) (by omega) (by omega) (by omega)
theorem csame_refl (l : List S42) (hn : l.length < 4611686018427387904) (k : Nat) (hk : l.length < k) : cells_Same.f k l l = some true := by
  unfold cells_Same.f api_Cell_61.f
  rw [if_pos rfl, show (0 : Int) = ((0 : Nat) : Int) from rfl, csame_l0 l hn l.length k 0 (by omega) (by omega) hk]
  rfl
theorem diff_same {l : List S42} (h : RightP l) (k : Nat) (hn : l.length < 2000000000000) (hk : l.length < k) : model_Diff.f k l l = some [] := by
  rcases diff_one h h k hn hn hk hk ⟨#[]⟩ (fun _ _ => rfl) with ⟨q, _⟩ | ⟨_, q⟩
  · exact q
  · exact absurd rfl q
theorem msame (k : Nat) (hk : 10 < k) (wh e : Int) (is : Bool) (v : ByteArray) : model_Same.f k 0 wh e 0 is v [] 0 wh e 0 is v [] = some true := by
  unfold model_Same.f
  rw [if_pos rfl, if_pos rfl, if_pos (by simp), if_pos rfl, csame_refl [] (by simp) k (by simp; omega)]
  rfl
theorem aj0t (l : List S42) (k : Nat) (hk : 20 < k) (wh : Int) (key val fr tt : ByteArray) (en : Bool) (mo : Int) (wh2 : Int) (key2 val2 fr2 tt2 : ByteArray) (en2 : Bool) (mo2 : Int) :
    lockkeeperlaw30_ModelApart.j0 k l true wh key val fr tt en mo wh2 key2 val2 fr2 tt2 en2 mo2 = some true := by
  obtain ⟨k, rfl⟩ : ∃ j, k = j + 1 := ⟨k - 1, by omega⟩
  rw [lockkeeperlaw30_ModelApart.j0, if_pos rfl, head_eq k (by omega)]
  rfl
theorem aj0 {l : List S42} (h : RightP l) (k : Nat) (hn : l.length < 100000000) (hk : 10 * l.length + 100 < k) (wh : Int) (key val fr tt : ByteArray) (en : Bool) (mo : Int) (wh2 : Int) (key2 val2 fr2 tt2 : ByteArray) (en2 : Bool) (mo2 : Int)
    (h6 : wh ≠ 6) (h62 : wh2 ≠ 6) (hne : key ≠ key2) : lockkeeperlaw30_ModelApart.j0 k l false wh key val fr tt en mo wh2 key2 val2 fr2 tt2 en2 mo2 = some true := by
  obtain ⟨k, rfl⟩ : ∃ j, k = j + 1 := ⟨k - 1, by omega⟩
  obtain ⟨a, ea, a1, a2, a3, a4⟩ := do_eq h k (by omega) (by omega) wh key val fr tt en mo h6
  obtain ⟨b, eb, b1, b2, b3, b4⟩ := do_eq a1 k (by omega) (by omega) wh2 key2 val2 fr2 tt2 en2 mo2 h62
  obtain ⟨c, ec, c1, c2, c3, c4⟩ := do_eq h k (by omega) (by omega) wh2 key2 val2 fr2 tt2 en2 mo2 h62
  obtain ⟨d, ed, d1, d2, d3, d4⟩ := do_eq c1 k (by omega) (by omega) wh key val fr tt en mo h6
  rw [a4 key2 (fun q => hne q.symm)] at eb b3
  rw [c4 key hne] at ed d3
  have e : d = b := right_look b1 d1 fun x => by
    by_cases q : x = key
    · subst q
      rw [d3, b4 _ hne, a3]
    · by_cases q2 : x = key2
      · subst q2
        rw [d4 _ (fun q => hne q.symm), c3, b3]
      · rw [d4 x q, c4 x q2, b4 x q2, a4 x q]
  subst e
  obtain ⟨f, ef, f1, f2, f3, f4⟩ := do_eq h k (by omega) (by omega) 2 key ⟨#[]⟩ ⟨#[]⟩ ⟨#[]⟩ false 0 (by decide)
  have e : f = l := right_look h f1 fun x => by
    by_cases q : x = key
    · subst q
      rw [f3]; unfold step
      by_cases g : (2 ≤ (2 : Int) ∧ (2 : Int) ≤ 5) ∧ may x ⟨#[]⟩ = false
      · rw [if_pos g]
      · rw [if_neg g, if_pos rfl]
    · exact f4 x q
  subst e
  have e0 : ((([] : List ByteArray).length : Nat) : Int) = 0 := rfl
  have eg := do_scan h k (by omega) (by omega) ⟨#[]⟩ ⟨#[]⟩ ⟨#[]⟩ ⟨#[]⟩ false 5
  rw [lockkeeperlaw30_ModelApart.j0, if_neg (by simp), ea, Option.bind_some, eb, Option.bind_some, ec, Option.bind_some, ed, Option.bind_some, msame k (by omega), Option.bind_some, if_pos rfl, msame k (by omega), Option.bind_some, if_pos rfl, diff_same d1 k (by omega) (by omega), Option.bind_some, if_pos e0, if_pos rfl, ef, Option.bind_some, eg, Option.bind_some, diff_same h k (by omega) (by omega), Option.bind_some, if_pos e0, if_pos rfl, Option.bind_some, if_pos e0, if_pos rfl, head_eq k (by omega)]
  rfl
theorem ModelApart : lockkeeperlaw30_ModelApart.Pure := by
  intro l wh key val fr tt en mo wh2 key2 val2 fr2 tt2 en2 mo2 hl hok h1 h2 h3 h4 h5 h6 g1 g2 g3 g4 g5 g6
  refine ⟨10 * l.length + 200, ?_⟩
  have T := aj0t l (10 * l.length + 200) (by omega) wh key val fr tt en mo wh2 key2 val2 fr2 tt2 en2 mo2
  unfold lockkeeperlaw30_ModelApart.f
  obtain ⟨b, hb, hg⟩ := great_eq l (10 * l.length + 200) (by omega)
  rw [hb, Option.bind_some]
  cases b
  · rw [if_neg (by simp)]
    have hl40 := hg rfl
    obtain ⟨r, hr, hri⟩ := rright_eq l (10 * l.length + 200) (by omega) (by omega)
    rw [hr, Option.bind_some]
    cases r
    · rw [if_neg (by simp)]
      exact T
    · rw [if_pos rfl]
      unfold lockkeeperref30_Small.f
      rw [Option.bind_some]
      split
      · rw [Option.bind_some]
        split
        · by_cases q : wh = 6
          · rw [if_pos q]; exact T
          rw [if_neg q]
          by_cases q2 : wh2 = 6
          · rw [if_pos q2]; exact T
          rw [if_neg q2]
          by_cases q3 : key = key2
          · rw [q3, beq_self_eq_true, ← q3]; exact T
          · rw [show (key.toList == key2.toList) = false by simpa using fun e => q3 (tl_inj e)]
            exact aj0 (hri.1 rfl) _ (by omega) (by omega) wh key val fr tt en mo wh2 key2 val2 fr2 tt2 en2 mo2 q q2 q3
        · exact T
      · exact T
  · rw [if_pos rfl]
    exact T
end Go.Proofs.Ytoggblomknemoaa.Pure
