/- The plain law behind ModelRuns: Run, Serial, Diff and Same tell what the document says. Conditions: none beyond the row's own. -/
import Derived.Test.YtoggblomknemoaaRPd
import Derived.Test.YtoggblomknemoaaRx14
namespace Go.Proofs.Ytoggblomknemoaa.Pure
open Go.Sort Go.RowKit Go.Proofs.Ytoggblomknemoaa.R Go.Proofs.YtoggblomknemoaaW.PrintWords Go.Proofs.YtoggblomknemoaaW.PrintLast
set_option linter.unusedVariables false
set_option linter.unusedSimpArgs false
set_option maxRecDepth 20000
theorem lift {α : Type} {f : Nat → Option α} (hm : ∀ k, LeO (f k) (f (k + 1))) {K : Nat} {r : α} (e : f K = some r) : ∀ k, K ≤ k → f k = some r := by
  intro k hk
  induction k with
  | zero =>
    obtain rfl : K = 0 := by omega
    exact e
  | succ k ih =>
    by_cases q : K = k + 1
    · rw [← q]; exact e
    · exact hm k r (ih (by omega))
/-- Do, for all rounds from a number on. -/
theorem do_allk (l : List S42) (K : Nat) (hn : l.length < 1000000000000) (hk : 5 * l.length + 40 < K) (wh : Int) (key val fr tt : ByteArray) (en : Bool) (mo : Int) :
    ∃ n e is v cs, (∀ k, K ≤ k → model_Do.f k l wh key val fr tt en mo = some (n, 0, wh, e, 0, is, v, cs) ∧ lockkeeperref30_Do.f k l wh key val fr tt en mo = some (n, 0, wh, e, 0, is, v, cs)) ∧ n.length ≤ l.length + 1 ∧ cs.length ≤ l.length ∧ (RightP l → RightP n) ∧ (¬ RightP l → n = [] ∧ e = 100 ∧ is = false ∧ v = ⟨#[]⟩ ∧ cs = []) := by
  obtain ⟨n, e, is, v, cs, h1, h2, h3, h4⟩ := do_all l K hn hk wh key val fr tt en mo
  refine ⟨n, e, is, v, cs, fun k hkk => ⟨lift (fun k => model_Do.mono _ _ _ _ _ _ _ _ k) h1 k hkk, lift (fun k => lockkeeperref30_Do.mono _ _ _ _ _ _ _ _ k) h2 k hkk⟩, h3, h4, fun h => ?_, fun h => ?_⟩
  · by_cases h6 : wh = 6
    · subst h6
      rw [do_scan h K (by omega) (by omega)] at h1
      have e9 : l = n := congrArg Prod.fst (Option.some.inj h1)
      rw [← e9]; exact h
    · obtain ⟨m, e2, g1, _⟩ := do_eq h K (by omega) (by omega) wh key val fr tt en mo h6
      rw [e2] at h1
      have e9 : m = n := congrArg Prod.fst (Option.some.inj h1)
      rw [← e9]; exact g1
  · obtain ⟨b, hb, hbi⟩ := cright_eq l K (by omega) (by omega)
    have hbf : b = false := by
      cases b
      · rfl
      · exact absurd (hbi.1 rfl) h
    have e3 : model_Do.f K l wh key val fr tt en mo = some ([], 0, wh, 100, 0, false, ⟨#[]⟩, []) := by
      unfold model_Do.f
      rw [hb, hbf]; rfl
    rw [e3] at h1
    have := Option.some.inj h1
    simp only [Prod.mk.injEq] at this
    obtain ⟨a1, _, _, a4, _, a6, a7, a8⟩ := this
    exact ⟨a1.symm, a4.symm, a6.symm, a7.symm, a8.symm⟩
/-! ### Same -/
theorem cell_ext {x y : S42} (h0 : x.f0.toList = y.f0.toList) (h1 : x.f1.toList = y.f1.toList) : x = y := by
  cases x; cases y
  simp only at h0 h1
  rw [tl_inj h0, tl_inj h1]
theorem ne_iff (x y : S42) : ((!(x.f0.toList == y.f0.toList) || (!(x.f1.toList == y.f1.toList))) = true) ↔ x ≠ y := by
  constructor
  · rintro h rfl; simp at h
  · intro h
    by_cases q : x.f0.toList = y.f0.toList
    · by_cases q2 : x.f1.toList = y.f1.toList
      · exact absurd (cell_ext q q2) h
      · simp [q2]
    · simp [q]
theorem drop_eq_step {l m : List S42} {i : Nat} (h : i < l.length) (h2 : i < m.length) : l.drop i = m.drop i ↔ rd_T42 l (i : Int) = rd_T42 m (i : Int) ∧ l.drop (i + 1) = m.drop (i + 1) := by
  rw [drop_step h, drop_step h2, List.cons.injEq]
theorem csame_l0' (l m : List S42) (hn : l.length < 4611686018427387904) (he : l.length = m.length) : ∀ (d k i : Nat), l.length - i = d → i ≤ l.length → d < k → ∃ b, api_Cell_61.l0 k l m (l.length : Int) (i : Int) = some b ∧ (b = true ↔ l.drop i = m.drop i)
  | 0, k + 1, i, hd, hi, hk => by
    refine ⟨true, ?_, ?_⟩
    · unfold api_Cell_61.l0
      rw [if_neg (by omega)]
    · rw [drop_nil (by omega), drop_nil (by omega)]; simp
  | d + 1, k + 1, i, hd, hi, hk => by
    obtain ⟨b, hb, hbi⟩ := csame_l0' l m hn he d k (i + 1) (by omega) (by omega) (by omega)
    unfold api_Cell_61.l0
    rw [if_pos (by omega), if_pos (by omega), if_pos (by omega), if_pos (by omega), drop_eq_step (by omega) (by omega)]
    by_cases q : rd_T42 l (i : Int) = rd_T42 m (i : Int)
    · rw [if_neg (fun r => (ne_iff _ _).1 r q), w1 (show i < l.length by omega) hn, hb]
      exact ⟨b, rfl, by rw [hbi]; exact ⟨fun r => ⟨q, r⟩, fun r => r.2⟩⟩
    · rw [if_pos ((ne_iff _ _).2 q)]
      exact ⟨false, rfl, by simp [q]⟩
theorem rsame_l0' (l m : List S42) (hn : l.length < 4611686018427387904) (he : l.length = m.length) : ∀ (d k i : Nat), l.length - i = d → i ≤ l.length → d < k → ∃ b, lockkeeperref10_Same.l0 k l m (i : Int) = some b ∧ (b = true ↔ l.drop i = m.drop i)
  | 0, k + 1, i, hd, hi, hk => by
    refine ⟨true, ?_, ?_⟩
    · unfold lockkeeperref10_Same.l0
      rw [if_neg (by omega)]
    · rw [drop_nil (by omega), drop_nil (by omega)]; simp
  | d + 1, k + 1, i, hd, hi, hk => by
    obtain ⟨b, hb, hbi⟩ := rsame_l0' l m hn he d k (i + 1) (by omega) (by omega) (by omega)
    unfold lockkeeperref10_Same.l0
    rw [if_pos (by omega), if_pos (by omega), if_pos (by omega), drop_eq_step (by omega) (by omega)]
    by_cases q : rd_T42 l (i : Int) = rd_T42 m (i : Int)
    · rw [if_neg (fun r => (ne_iff _ _).1 r q), w1 (show i < l.length by omega) hn, hb]
      exact ⟨b, rfl, by rw [hbi]; exact ⟨fun r => ⟨q, r⟩, fun r => r.2⟩⟩
    · rw [if_pos ((ne_iff _ _).2 q)]
      exact ⟨false, rfl, by simp [q]⟩
/-- Replies, as both tell whether they are the same. -/
def sameP (x y : S33) : Prop := x.f1 = y.f1 ∧ x.f2 = y.f2 ∧ x.f4 = y.f4 ∧ x.f5 = y.f5 ∧ x.f6 = y.f6
theorem msame_eq (k : Nat) (x y : S33) (hx : x.f6.length < 1000000000000) (hk : x.f6.length + 2 < k) :
    ∃ b, model_Same.f k x.f0 x.f1 x.f2 x.f3 x.f4 x.f5 x.f6 y.f0 y.f1 y.f2 y.f3 y.f4 y.f5 y.f6 = some b ∧ (b = true ↔ sameP x y) := by
  unfold model_Same.f sameP
  by_cases h1 : x.f1 = y.f1
  · rw [if_pos h1]
    by_cases h2 : x.f2 = y.f2
    · rw [if_pos h2]
      by_cases h4 : x.f4 = y.f4
      · rw [if_pos (by rw [h4]; simp)]
        by_cases h5 : x.f5 = y.f5
        · rw [if_pos (by rw [h5])]
          unfold cells_Same.f api_Cell_61.f
          by_cases h6 : x.f6.length = y.f6.length
          · rw [if_pos (by rw [h6])]
            obtain ⟨b, hb, hbi⟩ := csame_l0' x.f6 y.f6 (by omega) h6 x.f6.length k 0 (by omega) (by omega) (by omega)
            rw [show ((0 : Nat) : Int) = 0 from rfl] at hb
            rw [hb]
            rw [List.drop_zero, List.drop_zero] at hbi
            exact ⟨b, rfl, by rw [hbi]; exact ⟨fun r => ⟨h1, h2, h4, h5, r⟩, fun r => r.2.2.2.2⟩⟩
          · rw [if_neg (by omega)]
            exact ⟨false, rfl, by simp only [Bool.false_eq_true, false_iff]; exact fun r => h6 (by rw [r.2.2.2.2])⟩
        · rw [if_neg (fun q => h5 (tl_inj q))]
          exact ⟨false, rfl, by simp [h5]⟩
      · rw [if_neg (by simpa using h4)]
        exact ⟨false, rfl, by simp [h4]⟩
    · rw [if_neg h2]
      exact ⟨false, rfl, by simp [h2]⟩
  · rw [if_neg h1]
    exact ⟨false, rfl, by simp [h1]⟩
theorem rsame_eq (k : Nat) (x y : S33) (hx : x.f6.length < 1000000000000) (hk : x.f6.length + 2 < k) :
    ∃ b, lockkeeperref30_Same.f k x.f0 x.f1 x.f2 x.f3 x.f4 x.f5 x.f6 y.f0 y.f1 y.f2 y.f3 y.f4 y.f5 y.f6 = some b ∧ (b = true ↔ sameP x y) := by
  unfold lockkeeperref30_Same.f sameP
  by_cases h1 : x.f1 = y.f1
  · rw [if_pos h1]
    by_cases h2 : x.f2 = y.f2
    · rw [if_pos h2]
      by_cases h4 : x.f4 = y.f4
      · rw [if_pos (by rw [h4]; simp)]
        by_cases h5 : x.f5 = y.f5
        · rw [if_pos (by rw [h5])]
          unfold lockkeeperref10_Same.f
          by_cases h6 : x.f6.length = y.f6.length
          · rw [if_pos (by rw [h6])]
            obtain ⟨b, hb, hbi⟩ := rsame_l0' x.f6 y.f6 (by omega) h6 x.f6.length k 0 (by omega) (by omega) (by omega)
            rw [show ((0 : Nat) : Int) = 0 from rfl] at hb
            rw [hb]
            rw [List.drop_zero, List.drop_zero] at hbi
            exact ⟨b, rfl, by rw [hbi]; exact ⟨fun r => ⟨h1, h2, h4, h5, r⟩, fun r => r.2.2.2.2⟩⟩
          · rw [if_neg (by omega)]
            exact ⟨false, rfl, by simp only [Bool.false_eq_true, false_iff]; exact fun r => h6 (by rw [r.2.2.2.2])⟩
        · rw [if_neg (fun q => h5 (tl_inj q))]
          exact ⟨false, rfl, by simp [h5]⟩
      · rw [if_neg (by simpa using h4)]
        exact ⟨false, rfl, by simp [h4]⟩
    · rw [if_neg h2]
      exact ⟨false, rfl, by simp [h2]⟩
  · rw [if_neg h1]
    exact ⟨false, rfl, by simp [h1]⟩
theorem same_both (k k2 : Nat) (x y : S33) (hx : x.f6.length < 1000000000000) (hk : x.f6.length + 2 < k) (hk2 : x.f6.length + 2 < k2) :
    ∃ b, model_Same.f k x.f0 x.f1 x.f2 x.f3 x.f4 x.f5 x.f6 y.f0 y.f1 y.f2 y.f3 y.f4 y.f5 y.f6 = some b ∧ lockkeeperref30_Same.f k2 x.f0 x.f1 x.f2 x.f3 x.f4 x.f5 x.f6 y.f0 y.f1 y.f2 y.f3 y.f4 y.f5 y.f6 = some b ∧ (x = y → b = true) := by
  obtain ⟨b, h1, h2⟩ := msame_eq k x y hx hk
  obtain ⟨c, h3, h4⟩ := rsame_eq k2 x y hx hk2
  have e : b = c := Bool.eq_iff_iff.2 (h2.trans h4.symm)
  exact ⟨b, h1, by rw [e]; exact h3, fun q => h2.2 (by rw [q]; exact ⟨rfl, rfl, rfl, rfl, rfl⟩)⟩
/-! ### Run -/
theorem run_l0 (l : List S42) (xs : List S26) (hr : RightP l) (hn : l.length + xs.length < 100000000) : ∀ (d i : Nat) (acc : List S33) (out : List S42), xs.length - i = d → i ≤ xs.length → acc.length = i → out.length ≤ l.length + i → RightP out →
    ∃ n rs, (∀ k, 10 * (l.length + xs.length) + 100 + d < k → model_Run.l0 k l acc out xs (xs.length : Int) (i : Int) = some (n, acc ++ rs) ∧ lockkeeperref30_Run.l0 k l xs acc true out (i : Int) = some (n, acc ++ rs)) ∧ n.length ≤ l.length + xs.length ∧ rs.length = d ∧ RightP n ∧ ∀ r ∈ rs, r.f6.length ≤ l.length + xs.length := by
  intro d
  induction d with
  | zero =>
    intro i acc out hd hi ha ho hro
    refine ⟨out, [], fun k hk => ?_, by omega, rfl, hro, by simp⟩
    obtain ⟨k, rfl⟩ : ∃ j, k = j + 1 := ⟨k - 1, by omega⟩
    constructor
    · unfold model_Run.l0
      rw [if_neg (by omega), List.append_nil]
    · unfold lockkeeperref30_Run.l0
      rw [if_neg (by omega), List.append_nil]
  | succ d ih =>
    intro i acc out hd hi ha ho hro
    obtain ⟨n, e, is, v, cs, h1, h2, h3, h4, -⟩ := do_allk out (10 * (l.length + xs.length) + 90) (by omega) (by omega) (rd_T26 xs (i : Int)).f0 (rd_T26 xs (i : Int)).f1 (rd_T26 xs (i : Int)).f2 (rd_T26 xs (i : Int)).f3.f0 (rd_T26 xs (i : Int)).f3.f1 (rd_T26 xs (i : Int)).f3.f2 (rd_T26 xs (i : Int)).f4
    obtain ⟨n0, e0, is0, v0, cs0, g1, -⟩ := do_allk l (10 * (l.length + xs.length) + 90) (by omega) (by omega) (rd_T26 xs (i : Int)).f0 (rd_T26 xs (i : Int)).f1 (rd_T26 xs (i : Int)).f2 (rd_T26 xs (i : Int)).f3.f0 (rd_T26 xs (i : Int)).f3.f1 (rd_T26 xs (i : Int)).f3.f2 (rd_T26 xs (i : Int)).f4
    obtain ⟨m, rs, q1, q2, q3, q4, q5⟩ := ih (i + 1) (acc ++ [⟨0, (rd_T26 xs (i : Int)).f0, e, 0, is, v, cs⟩]) n (by omega) (by omega) (by rw [List.length_append, List.length_singleton]; omega) (by omega) (h4 hro)
    refine ⟨m, ⟨0, (rd_T26 xs (i : Int)).f0, e, 0, is, v, cs⟩ :: rs, fun k hk => ?_, q2, by rw [List.length_cons, q3], q4, fun r hr => ?_⟩
    · obtain ⟨k, rfl⟩ : ∃ j, k = j + 1 := ⟨k - 1, by omega⟩
      obtain ⟨a1, a2⟩ := q1 k (by omega)
      rw [List.append_assoc] at a1 a2
      constructor
      · unfold model_Run.l0
        rw [if_pos (by omega), if_pos (by omega), if_pos (by omega), cright_yes hr k (by omega) (by omega), Option.bind_some, if_pos rfl, (h1 k (by omega)).1, Option.bind_some, if_pos (by omega), w1 (show i < xs.length by omega) (by omega)]
        exact a1
      · unfold lockkeeperref30_Run.l0
        rw [if_pos (by omega), if_pos (by omega), (g1 k (by omega)).2, Option.bind_some, if_pos rfl, (h1 k (by omega)).2, Option.bind_some, if_pos (by omega), w1 (show i < xs.length by omega) (by omega)]
        exact a2
    · rcases List.mem_cons.1 hr with rfl | hr
      · show cs.length ≤ _
        omega
      · exact q5 r hr
theorem run_l0n (l : List S42) (xs : List S26) (hr : ¬ RightP l) (hn : l.length + xs.length < 100000000) : ∀ (d i : Nat) (acc : List S33), xs.length - i = d → i ≤ xs.length → acc.length = i →
    ∃ rs, (∀ k, 10 * (l.length + xs.length) + 100 + d < k → model_Run.l0 k l acc [] xs (xs.length : Int) (i : Int) = some ([], acc ++ rs) ∧ lockkeeperref30_Run.l0 k l xs acc false [] (i : Int) = some ([], acc ++ rs)) ∧ rs.length = d ∧ ∀ r ∈ rs, r.f6.length ≤ l.length + xs.length := by
  intro d
  induction d with
  | zero =>
    intro i acc hd hi ha
    refine ⟨[], fun k hk => ?_, rfl, by simp⟩
    obtain ⟨k, rfl⟩ : ∃ j, k = j + 1 := ⟨k - 1, by omega⟩
    constructor
    · unfold model_Run.l0
      rw [if_neg (by omega), List.append_nil]
    · unfold lockkeeperref30_Run.l0
      rw [if_neg (by omega), List.append_nil]
  | succ d ih =>
    intro i acc hd hi ha
    obtain ⟨n0, e0, is0, v0, cs0, g1, -, -, -, g5⟩ := do_allk l (10 * (l.length + xs.length) + 90) (by omega) (by omega) (rd_T26 xs (i : Int)).f0 (rd_T26 xs (i : Int)).f1 (rd_T26 xs (i : Int)).f2 (rd_T26 xs (i : Int)).f3.f0 (rd_T26 xs (i : Int)).f3.f1 (rd_T26 xs (i : Int)).f3.f2 (rd_T26 xs (i : Int)).f4
    obtain ⟨rfl, rfl, rfl, rfl, rfl⟩ := g5 hr
    obtain ⟨rs, q1, q3, q5⟩ := ih (i + 1) (acc ++ [⟨0, (rd_T26 xs (i : Int)).f0, 100, 0, false, ⟨#[]⟩, []⟩]) (by omega) (by omega) (by rw [List.length_append, List.length_singleton]; omega)
    refine ⟨⟨0, (rd_T26 xs (i : Int)).f0, 100, 0, false, ⟨#[]⟩, []⟩ :: rs, fun k hk => ?_, by rw [List.length_cons, q3], fun r hr => ?_⟩
    · obtain ⟨k, rfl⟩ : ∃ j, k = j + 1 := ⟨k - 1, by omega⟩
      obtain ⟨a1, a2⟩ := q1 k (by omega)
      rw [List.append_assoc] at a1 a2
      obtain ⟨b, hb, hbi⟩ := cright_eq l k (by omega) (by omega)
      have hbf : b = false := by
        cases b
        · rfl
        · exact absurd (hbi.1 rfl) hr
      constructor
      · unfold model_Run.l0
        rw [if_pos (by omega), if_pos (by omega), if_pos (by omega), hb, hbf, Option.bind_some, if_neg (by simp), if_pos (by omega), w1 (show i < xs.length by omega) (by omega)]
        exact a1
      · unfold lockkeeperref30_Run.l0
        rw [if_pos (by omega), if_pos (by omega), (g1 k (by omega)).2, Option.bind_some, if_neg (by simp), if_pos (by omega), w1 (show i < xs.length by omega) (by omega)]
        exact a2
    · rcases List.mem_cons.1 hr with rfl | hr
      · show ([] : List S42).length ≤ _
        simp
      · exact q5 r hr
theorem run_both (l : List S42) (xs : List S26) (hn : l.length + xs.length < 100000000) :
    ∃ n rs, (∀ k, 20 * (l.length + xs.length) + 200 < k → model_Run.f k l xs = some (n, rs) ∧ lockkeeperref30_Run.f k l xs = some (n, rs)) ∧ n.length ≤ l.length + xs.length ∧ rs.length = xs.length ∧ (RightP l → RightP n) ∧ ∀ r ∈ rs, r.f6.length ≤ l.length + xs.length := by
  have hcp : lockkeeperref10_Copy.f l = some l := by
    unfold lockkeeperref10_Copy.f
    rw [if_pos (by simp only [List.length_nil]; omega)]; rfl
  have hcl : api_Cell_50.f l = some l := by
    unfold api_Cell_50.f
    rw [if_pos (by omega)]
  by_cases hr : RightP l
  · obtain ⟨n, rs, q1, q2, q3, q4, q5⟩ := run_l0 l xs hr hn xs.length 0 [] l (by omega) (by omega) rfl (by omega) hr
    refine ⟨n, rs, fun k hk => ?_, q2, q3, fun _ => q4, q5⟩
    obtain ⟨k, rfl⟩ : ∃ j, k = j + 1 := ⟨k - 1, by omega⟩
    obtain ⟨a1, a2⟩ := q1 k (by omega)
    rw [List.nil_append] at a1 a2
    constructor
    · unfold model_Run.f
      rw [hcl, Option.bind_some, cright_yes hr (k + 1) (by omega) (by omega), Option.bind_some, if_pos rfl, model_Run.j0]
      exact a1
    · unfold lockkeeperref30_Run.f
      rw [rright_yes hr (k + 1) (by omega) (by omega), Option.bind_some, if_pos rfl, hcp, Option.bind_some, lockkeeperref30_Run.j0]
      exact a2
  · obtain ⟨rs, q1, q3, q5⟩ := run_l0n l xs hr hn xs.length 0 [] (by omega) (by omega) rfl
    refine ⟨[], rs, fun k hk => ?_, by simp, q3, fun h => absurd h hr, q5⟩
    obtain ⟨k, rfl⟩ : ∃ j, k = j + 1 := ⟨k - 1, by omega⟩
    obtain ⟨a1, a2⟩ := q1 k (by omega)
    rw [List.nil_append] at a1 a2
    obtain ⟨b, hb, hbi⟩ := cright_eq l (k + 1) (by omega) (by omega)
    obtain ⟨c, hc, hci⟩ := rright_eq l (k + 1) (by omega) (by omega)
    have hbf : b = false := by
      cases b
      · rfl
      · exact absurd (hbi.1 rfl) hr
    have hcf : c = false := by
      cases c
      · rfl
      · exact absurd (hci.1 rfl) hr
    constructor
    · unfold model_Run.f
      rw [hcl, Option.bind_some, hb, hbf, Option.bind_some, if_neg (by simp), model_Run.j0]
      exact a1
    · unfold lockkeeperref30_Run.f
      rw [hc, hcf, Option.bind_some, if_neg (by simp), lockkeeperref30_Run.j0]
      exact a2
/-! ### Serial -/
  noncomputable def sameD (x y : S33) : Bool := @decide (sameP x y) (Classical.propDecidable _)
theorem sameD_iff (x y : S33) : sameD x y = true ↔ sameP x y := by unfold sameD; exact @decide_eq_true_iff _ (Classical.propDecidable _)
theorem msame_d (k : Nat) (x y : S33) (hx : x.f6.length < 1000000000000) (hk : x.f6.length + 2 < k) :
    model_Same.f k x.f0 x.f1 x.f2 x.f3 x.f4 x.f5 x.f6 y.f0 y.f1 y.f2 y.f3 y.f4 y.f5 y.f6 = some (sameD x y) := by
  obtain ⟨b, hb, hbi⟩ := msame_eq k x y hx hk
  rw [hb, Bool.eq_iff_iff.2 (hbi.trans (sameD_iff x y).symm)]
theorem rsame_d (k : Nat) (x y : S33) (hx : x.f6.length < 1000000000000) (hk : x.f6.length + 2 < k) :
    lockkeeperref30_Same.f k x.f0 x.f1 x.f2 x.f3 x.f4 x.f5 x.f6 y.f0 y.f1 y.f2 y.f3 y.f4 y.f5 y.f6 = some (sameD x y) := by
  obtain ⟨b, hb, hbi⟩ := rsame_eq k x y hx hk
  rw [hb, Bool.eq_iff_iff.2 (hbi.trans (sameD_iff x y).symm)]
theorem sameD_self (x : S33) : sameD x x = true := (sameD_iff x x).2 ⟨rfl, rfl, rfl, rfl, rfl⟩
theorem rd33_mem {l : List S33} {t : Nat} (h : t < l.length) : rd_T33 l (t : Int) ∈ l := by
  unfold rd_T33
  rw [Int.toNat_natCast, List.getD_eq_getElem?_getD, List.getElem?_eq_getElem h]
  exact List.getElem_mem h
theorem cmp_l (ds : List S54) (now : List S42) (i : Nat) (hi : i < ds.length) (n' : List S42) (told : List S33) (hl : told.length = (rd_T54 ds (i : Int)).f2.length) (C : Nat) (hC : C < 1000000000000) (hc : ∀ r ∈ told, r.f6.length ≤ C) (ht : told.length < 1000000) :
    ∀ (d j : Nat), told.length - j = d → j ≤ told.length → ∃ B : Bool, (∀ k : Nat, C + 10 + d < k → api_Reply.l0 k (rd_T54 ds (i : Int)).f2 told (told.length : Int) (j : Int) = some B) ∧ (B = false → ∀ k : Nat, C + 10 + d < k → lockkeeperref30_Serial.l1 k ds now (i : Int) n' told true (j : Int) = some (now, (i : Int))) ∧
      (B = true → ∀ (k : Nat) (R : List S42 × Int), C + 10 + d < k → (∀ k', k ≤ k' + d + 1 → lockkeeperref30_Serial.l0 k' ds n' (wrap64 ((i : Int) + 1)) = some R) → lockkeeperref30_Serial.l1 k ds now (i : Int) n' told true (j : Int) = some R) := by
  intro d
  induction d with
  | zero =>
    intro j hd hj
    refine ⟨true, fun k hk => ?_, fun q => absurd q (by simp), fun _ k R hk hR => ?_⟩
    · obtain ⟨k, rfl⟩ : ∃ j, k = j + 1 := ⟨k - 1, by omega⟩
      unfold api_Reply.l0
      rw [if_neg (by omega)]
    · obtain ⟨k, rfl⟩ : ∃ j, k = j + 1 := ⟨k - 1, by omega⟩
      rw [lockkeeperref30_Serial.l1, if_pos rfl, if_neg (by omega)]
      exact hR k (by omega)
  | succ d ih =>
    intro j hd hj
    have hm := hc _ (rd33_mem (show j < told.length by omega))
    obtain ⟨B, h1, h2, h3⟩ := ih (j + 1) (by omega) (by omega)
    by_cases q : sameD (rd_T33 told (j : Int)) (rd_T33 (rd_T54 ds (i : Int)).f2 (j : Int)) = true
    · refine ⟨B, fun k hk => ?_, fun hB k hk => ?_, fun hB k R hk hR => ?_⟩
      · obtain ⟨k, rfl⟩ : ∃ j, k = j + 1 := ⟨k - 1, by omega⟩
        unfold api_Reply.l0
        rw [if_pos (by omega), if_pos (by omega), if_pos (by omega), if_pos (by omega), msame_d k _ _ (by omega) (by omega), Option.bind_some, if_pos q, w1 (show j < told.length by omega) (by omega)]
        exact h1 k (by omega)
      · obtain ⟨k, rfl⟩ : ∃ j, k = j + 1 := ⟨k - 1, by omega⟩
        rw [lockkeeperref30_Serial.l1, if_pos rfl, if_pos (by omega), if_pos (by omega), if_pos (by omega), if_pos (by omega), if_pos (by omega), rsame_d k _ _ (by omega) (by omega), Option.bind_some, q, w1 (show j < told.length by omega) (by omega)]
        exact h2 hB k (by omega)
      · obtain ⟨k, rfl⟩ : ∃ j, k = j + 1 := ⟨k - 1, by omega⟩
        rw [lockkeeperref30_Serial.l1, if_pos rfl, if_pos (by omega), if_pos (by omega), if_pos (by omega), if_pos (by omega), if_pos (by omega), rsame_d k _ _ (by omega) (by omega), Option.bind_some, q, w1 (show j < told.length by omega) (by omega)]
        exact h3 hB k R (by omega) fun k' hk' => hR k' (by omega)
    · have q' : sameD (rd_T33 told (j : Int)) (rd_T33 (rd_T54 ds (i : Int)).f2 (j : Int)) = false := by simpa using q
      refine ⟨false, fun k hk => ?_, fun hB k hk => ?_, fun hB => absurd hB (by simp)⟩
      · obtain ⟨k, rfl⟩ : ∃ j, k = j + 1 := ⟨k - 1, by omega⟩
        unfold api_Reply.l0
        rw [if_pos (by omega), if_pos (by omega), if_pos (by omega), if_pos (by omega), msame_d k _ _ (by omega) (by omega), Option.bind_some, if_neg q]
      · obtain ⟨k, rfl⟩ : ∃ j, k = j + 2 := ⟨k - 2, by omega⟩
        rw [show k + 2 = (k + 1) + 1 from rfl, lockkeeperref30_Serial.l1, if_pos rfl, if_pos (by omega), if_pos (by omega), if_pos (by omega), if_pos (by omega), if_pos (by omega), rsame_d (k + 1) _ _ (by omega) (by omega), Option.bind_some, q', lockkeeperref30_Serial.l1, if_neg (by simp)]
theorem serial_l0 (ds : List S54) (M : Nat) (hM : M < 1000) (hds : ds.length ≤ 10) (hcs : ∀ t : Nat, t < ds.length → (rd_T54 ds (t : Int)).f1.length ≤ 20) : ∀ (d i : Nat) (now : List S42), ds.length - i = d → i ≤ ds.length → RightP now → now.length ≤ M + 20 * i →
    ∃ (R : List S42) (n : Int), (∀ k, 20 * (M + 400) + 1000 + 50 * d < k → model_Serial.l0 k now ds ds (ds.length : Int) (i : Int) = some (R, n) ∧ lockkeeperref30_Serial.l0 k ds now (i : Int) = some (R, n)) ∧ R.length ≤ M + 400 := by
  intro d
  induction d with
  | zero =>
    intro i now hd hi hr hn
    refine ⟨now, (ds.length : Int), fun k hk => ?_, by omega⟩
    obtain ⟨k, rfl⟩ : ∃ j, k = j + 1 := ⟨k - 1, by omega⟩
    constructor
    · unfold model_Serial.l0
      rw [if_neg (by omega)]
    · unfold lockkeeperref30_Serial.l0
      rw [if_neg (by omega)]
  | succ d ih =>
    intro i now hd hi hr hn
    have hlt : i < ds.length := by omega
    have hc20 := hcs i hlt
    obtain ⟨n', told, q1, q2, q3, q4, q5⟩ := run_both now (rd_T54 ds (i : Int)).f1 (by omega)
    obtain ⟨R, n, p1, p2⟩ := ih (i + 1) n' (by omega) (by omega) (q4 hr) (by omega)
    by_cases hl : told.length = (rd_T54 ds (i : Int)).f2.length
    · obtain ⟨B, h1, h2, h3⟩ := cmp_l ds now i hlt n' told hl (now.length + (rd_T54 ds (i : Int)).f1.length) (by omega) q5 (by omega) told.length 0 (by omega) (by omega)
      have hrep : ∀ k, 20 * (M + 400) + 1000 < k → api_Reply.f k told (rd_T54 ds (i : Int)).f2 = some B := fun k hk => by
        unfold api_Reply.f
        rw [if_pos (by rw [hl])]
        exact h1 k (by omega)
      have hbeq : ((told.length : Int) == ((rd_T54 ds (i : Int)).f2.length : Int)) = true := by rw [hl]; simp
      cases B
      · refine ⟨now, (i : Int), fun k hk => ?_, by omega⟩
        obtain ⟨k, rfl⟩ : ∃ j, k = j + 1 := ⟨k - 1, by omega⟩
        constructor
        · unfold model_Serial.l0
          rw [if_pos (by omega), if_pos (by omega), if_pos (by omega), (q1 k (by omega)).1, Option.bind_some, hrep k (by omega), Option.bind_some, if_neg (by simp)]
        · unfold lockkeeperref30_Serial.l0
          rw [if_pos (by omega), if_pos (by omega), (q1 k (by omega)).2, Option.bind_some, hbeq]
          exact h2 rfl k (by omega)
      · refine ⟨R, n, fun k hk => ?_, p2⟩
        obtain ⟨k, rfl⟩ : ∃ j, k = j + 1 := ⟨k - 1, by omega⟩
        constructor
        · unfold model_Serial.l0
          rw [if_pos (by omega), if_pos (by omega), if_pos (by omega), (q1 k (by omega)).1, Option.bind_some, hrep k (by omega), Option.bind_some, if_pos rfl, w1 hlt (by omega)]
          exact (p1 k (by omega)).1
        · unfold lockkeeperref30_Serial.l0
          rw [if_pos (by omega), if_pos (by omega), (q1 k (by omega)).2, Option.bind_some, hbeq]
          refine h3 rfl k (R, n) (by omega) fun k' hk' => ?_
          rw [w1 hlt (by omega)]
          exact (p1 k' (by omega)).2
    · refine ⟨now, (i : Int), fun k hk => ?_, by omega⟩
      obtain ⟨k, rfl⟩ : ∃ j, k = j + 2 := ⟨k - 2, by omega⟩
      have hbeq : ((told.length : Int) == ((rd_T54 ds (i : Int)).f2.length : Int)) = false := by
        rw [beq_eq_false_iff_ne]; omega
      constructor
      · rw [show k + 2 = (k + 1) + 1 from rfl, model_Serial.l0, if_pos (by omega), if_pos (by omega), if_pos (by omega), (q1 (k + 1) (by omega)).1, Option.bind_some]
        have hrep : api_Reply.f (k + 1) told (rd_T54 ds (i : Int)).f2 = some false := by
          unfold api_Reply.f
          exact if_neg (by omega)
        rw [hrep, Option.bind_some, if_neg (by simp)]
      · rw [show k + 2 = (k + 1) + 1 from rfl, lockkeeperref30_Serial.l0, if_pos (by omega), if_pos (by omega), (q1 (k + 1) (by omega)).2, Option.bind_some, hbeq, lockkeeperref30_Serial.l1, if_neg (by simp)]
theorem serial_both (l : List S42) (ds : List S54) (hM : l.length < 1000) (hds : ds.length ≤ 10) (hcs : ∀ t : Nat, t < ds.length → (rd_T54 ds (t : Int)).f1.length ≤ 20) :
    ∃ (R : List S42) (n : Int), (∀ k, 20 * (l.length + 400) + 2000 < k → model_Serial.f k l ds = some (R, n) ∧ lockkeeperref30_Serial.f k l ds = some (R, n)) ∧ R.length ≤ l.length + 400 := by
  by_cases hr : RightP l
  · obtain ⟨R, n, h1, h2⟩ := serial_l0 ds l.length hM hds hcs ds.length 0 l (by omega) (by omega) hr (by omega)
    refine ⟨R, n, fun k hk => ?_, h2⟩
    obtain ⟨a1, a2⟩ := h1 k (by omega)
    constructor
    · unfold model_Serial.f api_Cell_50.f
      rw [cright_yes hr k (by omega) (by omega), Option.bind_some, if_pos rfl, if_pos (by omega), Option.bind_some]
      exact a1
    · unfold lockkeeperref30_Serial.f lockkeeperref10_Copy.f
      rw [rright_yes hr k (by omega) (by omega), Option.bind_some, if_pos rfl, if_pos (by simp only [List.length_nil]; omega), Option.bind_some]
      exact a2
  · refine ⟨[], 0, fun k hk => ?_, by simp⟩
    obtain ⟨b, hb, hbi⟩ := cright_eq l k (by omega) (by omega)
    obtain ⟨c, hc, hci⟩ := rright_eq l k (by omega) (by omega)
    have hbf : b = false := by
      cases b
      · rfl
      · exact absurd (hbi.1 rfl) hr
    have hcf : c = false := by
      cases c
      · rfl
      · exact absurd (hci.1 rfl) hr
    constructor
    · unfold model_Serial.f
      rw [hb, hbf]; rfl
    · unfold lockkeeperref30_Serial.f
      rw [hc, hcf]; rfl
/-! ### The law -/
theorem great_any (l : List S42) (k : Nat) (hk : 41 < k) : ∃ b, lockkeeperlaw30_great.f k l = some b := by
  obtain ⟨b, hb, -⟩ := great_eq l k hk
  exact ⟨b, hb⟩
theorem many_l0 (l : List S26) : ∀ (d k i : Nat), 20 - i = d → i ≤ 20 → 2 * d + 2 < k → ∃ b, lockkeeperlaw30_many.l0 k l (i : Int) = some b ∧ (b = false → l.length ≤ 20) := by
  intro d
  induction d with
  | zero =>
    intro k i hd hi hk
    obtain ⟨k, rfl⟩ : ∃ j, k = j + 2 := ⟨k - 2, by omega⟩
    rw [show k + 2 = (k + 1) + 1 from rfl, lockkeeperlaw30_many.l0]
    by_cases h : i < l.length
    · rw [if_pos (by omega), decide_eq_false (by omega), lockkeeperlaw30_many.j1, if_neg (by simp)]
      exact ⟨_, rfl, fun q => by rw [decide_eq_false_iff_not] at q; omega⟩
    · rw [if_neg (by omega), lockkeeperlaw30_many.j1, if_neg (by simp)]
      exact ⟨_, rfl, fun q => by rw [decide_eq_false_iff_not] at q; omega⟩
  | succ d ih =>
    intro k i hd hi hk
    obtain ⟨k, rfl⟩ : ∃ j, k = j + 2 := ⟨k - 2, by omega⟩
    rw [show k + 2 = (k + 1) + 1 from rfl, lockkeeperlaw30_many.l0]
    by_cases h : i < l.length
    · rw [if_pos (by omega), decide_eq_true (by omega), lockkeeperlaw30_many.j1, if_pos rfl, if_pos (by omega), if_pos (by omega)]
      unfold lockkeeperref30_Small.f
      rw [Option.bind_some]
      split
      · rw [w1 (show i < 20 by omega) (by omega)]
        exact ih k (i + 1) (by omega) (by omega) (by omega)
      · exact ⟨true, rfl, fun q => by cases q⟩
    · rw [if_neg (by omega), lockkeeperlaw30_many.j1, if_neg (by simp)]
      exact ⟨_, rfl, fun q => by rw [decide_eq_false_iff_not] at q; omega⟩
theorem many_eq (l : List S26) (k : Nat) (hk : 42 < k) : ∃ b, lockkeeperlaw30_many.f k l = some b ∧ (b = false → l.length ≤ 20) := many_l0 l 20 k 0 (by omega) (by omega) (by omega)
theorem hdt (k : Nat) (hk : 10 < k) : ((lockkeeperlaw30_head.f k).bind fun t => some t) = some true := by rw [head_eq k hk]; rfl
theorem rl4 (l : List S42) (ds : List S54) (i : Nat) (hi : i < ds.length) (rs : List S33) (C : Nat) (hC : C < 1000000) (hc : ∀ r ∈ rs, r.f6.length ≤ C) (hl : rs.length ≤ 20) (K : Nat) (hK : C + 10 < K) (hnext : ∀ k, K ≤ k → lockkeeperlaw30_ModelRuns.l3 k l ds (wrap64 ((i : Int) + 1)) = some true) :
    ∀ (d j k : Nat), rs.length - j = d → j ≤ rs.length → K + d < k → lockkeeperlaw30_ModelRuns.l4 k l ds (i : Int) rs rs (j : Int) = some true := by
  intro d
  induction d with
  | zero =>
    intro j k hd hj hk
    obtain ⟨k, rfl⟩ : ∃ j, k = j + 1 := ⟨k - 1, by omega⟩
    rw [lockkeeperlaw30_ModelRuns.l4, if_neg (by omega)]
    exact hnext k (by omega)
  | succ d ih =>
    intro j k hd hj hk
    obtain ⟨k, rfl⟩ : ∃ j, k = j + 1 := ⟨k - 1, by omega⟩
    have hm := hc _ (rd33_mem (show j < rs.length by omega))
    rw [lockkeeperlaw30_ModelRuns.l4, if_pos (by omega), if_pos (by omega), if_pos (by omega), rsame_d k _ _ (by omega) (by omega), Option.bind_some, sameD_self, if_pos rfl, if_pos (by omega), if_pos (by omega), w1 (show j < rs.length by omega) (by omega)]
    have hn := ih (j + 1) k (by omega) (by omega) (by omega)
    by_cases q : (j : Int) < ((rd_T54 ds (i : Int)).f2.length : Int)
    · rw [if_pos q, msame_d k _ _ (by omega) (by omega), Option.bind_some, rsame_d k _ _ (by omega) (by omega), Option.bind_some, if_neg (by simp)]
      exact hn
    · rw [if_neg q]
      exact hn
theorem rl3 (l : List S42) (ds : List S54) (hM : l.length ≤ 40) (hds : ds.length ≤ 10) (hcs : ∀ t : Nat, t < ds.length → (rd_T54 ds (t : Int)).f1.length ≤ 20) : ∀ (d i k : Nat), ds.length - i = d → i ≤ ds.length → 5000 + 50 * d < k → lockkeeperlaw30_ModelRuns.l3 k l ds (i : Int) = some true := by
  intro d
  induction d with
  | zero =>
    intro i k hd1 hi hk
    obtain ⟨k, rfl⟩ : ∃ j, k = j + 1 := ⟨k - 1, by omega⟩
    rw [lockkeeperlaw30_ModelRuns.l3, if_neg (by omega)]
    exact hdt k (by omega)
  | succ d ih =>
    intro i k hd1 hi hk
    obtain ⟨k, rfl⟩ : ∃ j, k = j + 1 := ⟨k - 1, by omega⟩
    have hlt : i < ds.length := by omega
    have hc20 := hcs i hlt
    obtain ⟨n', told, q1, q2, q3, q4, q5⟩ := run_both l (rd_T54 ds (i : Int)).f1 (by omega)
    rw [lockkeeperlaw30_ModelRuns.l3, if_pos (by omega), if_pos (by omega), (q1 k (by omega)).1, Option.bind_some, (q1 k (by omega)).2, Option.bind_some, rsame_refl n' (by omega) k (by omega), Option.bind_some, if_pos rfl, if_pos rfl]
    exact rl4 l ds i hlt told (l.length + (rd_T54 ds (i : Int)).f1.length) (by omega) q5 (by omega) (5001 + 50 * d) (by omega) (fun k' hk' => by
      rw [w1 hlt (by omega)]
      exact ih (i + 1) k' (by omega) (by omega) (by omega)) told.length 0 k (by omega) (by omega) (by omega)
theorem rl2 (l : List S42) (ds : List S54) (hM : l.length ≤ 40) (hds : ds.length ≤ 10) (hcs : ∀ t : Nat, t < ds.length → (rd_T54 ds (t : Int)).f1.length ≤ 20) (df : List ByteArray) (hdf : df.length ≤ 80) : ∀ (d j k : Nat), df.length - j = d → j ≤ df.length → 20000 + d < k → lockkeeperlaw30_ModelRuns.l2 k l ds df df (j : Int) = some true := by
  intro d
  induction d with
  | zero =>
    intro j k hd1 hj hk
    obtain ⟨k, rfl⟩ : ∃ j, k = j + 1 := ⟨k - 1, by omega⟩
    obtain ⟨R, n, h1, h2⟩ := serial_both l ds (by omega) hds hcs
    rw [lockkeeperlaw30_ModelRuns.l2, if_neg (by omega), (h1 k (by omega)).1, Option.bind_some, (h1 k (by omega)).2, Option.bind_some, if_pos rfl, rsame_refl R (by omega) k (by omega), Option.bind_some, if_pos rfl]
    exact rl3 l ds hM hds hcs ds.length 0 k (by omega) (by omega) (by omega)
  | succ d ih =>
    intro j k hd1 hj hk
    obtain ⟨k, rfl⟩ : ∃ j, k = j + 1 := ⟨k - 1, by omega⟩
    rw [lockkeeperlaw30_ModelRuns.l2, if_pos (by omega), if_pos (by omega), if_pos (by omega), if_pos rfl, w1 (show j < df.length by omega) (by omega)]
    exact ih (j + 1) k (by omega) (by omega) (by omega)
theorem rl1 (l m : List S42) (ds : List S54) (i : Nat) (hi : i < ds.length) (hr : (rd_T54 ds (i : Int)).f2.length ≤ 20) (K : Nat) (hK : 100 < K) (hnext : ∀ k, K ≤ k → lockkeeperlaw30_ModelRuns.l0 k l m ds (wrap64 ((i : Int) + 1)) = some true) :
    ∀ (d j k : Nat), (rd_T54 ds (i : Int)).f2.length - j = d → j ≤ (rd_T54 ds (i : Int)).f2.length → K + d < k → lockkeeperlaw30_ModelRuns.l1 k l m ds (i : Int) (j : Int) = some true := by
  intro d
  induction d with
  | zero =>
    intro j k hd1 hj hk
    obtain ⟨k, rfl⟩ : ∃ j, k = j + 1 := ⟨k - 1, by omega⟩
    rw [lockkeeperlaw30_ModelRuns.l1, if_pos (by omega), if_pos (by omega), if_neg (by omega)]
    exact hnext k (by omega)
  | succ d ih =>
    intro j k hd1 hj hk
    obtain ⟨k, rfl⟩ : ∃ j, k = j + 1 := ⟨k - 1, by omega⟩
    obtain ⟨b, hb⟩ := great_any (rd_T33 (rd_T54 ds (i : Int)).f2 (j : Int)).f6 k (by omega)
    rw [lockkeeperlaw30_ModelRuns.l1, if_pos (by omega), if_pos (by omega), if_pos (by omega), if_pos (by omega), hb, Option.bind_some]
    cases b
    · rw [if_neg (by simp)]
      split
      · exact hdt k (by omega)
      · rw [w1 (show j < 20 by omega) (by omega)]
        exact ih (j + 1) k (by omega) (by omega) (by omega)
    · rw [if_pos rfl]
      exact hdt k (by omega)
theorem rl0 (l m : List S42) (ds : List S54) (hl : l.length ≤ 40) (hm : m.length ≤ 40) (hds : ds.length ≤ 10) : ∀ (d i k : Nat), ds.length - i = d → i ≤ ds.length → (∀ t : Nat, t < i → (rd_T54 ds (t : Int)).f1.length ≤ 20) → 30000 + 50 * d < k → lockkeeperlaw30_ModelRuns.l0 k l m ds (i : Int) = some true := by
  intro d
  induction d with
  | zero =>
    intro i k hd1 hi hcs hk
    obtain ⟨k, rfl⟩ : ∃ j, k = j + 1 := ⟨k - 1, by omega⟩
    obtain ⟨df, h1, h2, h3⟩ := diff_same_ref l m k (by omega) (by omega) (by omega)
    rw [lockkeeperlaw30_ModelRuns.l0, if_neg (by omega), h1, Option.bind_some, h2, Option.bind_some, if_pos rfl]
    exact rl2 l ds hl hds (fun t ht => hcs t (by omega)) df (by omega) df.length 0 k (by omega) (by omega) (by omega)
  | succ d ih =>
    intro i k hd1 hi hcs hk
    obtain ⟨k, rfl⟩ : ∃ j, k = j + 2 := ⟨k - 2, by omega⟩
    have hlt : i < ds.length := by omega
    obtain ⟨b, hb, hbi⟩ := many_eq (rd_T54 ds (i : Int)).f1 (k + 1) (by omega)
    rw [show k + 2 = (k + 1) + 1 from rfl, lockkeeperlaw30_ModelRuns.l0, if_pos (by omega), if_pos (by omega), hb, Option.bind_some]
    cases b
    · rw [if_neg (by simp), lockkeeperlaw30_ModelRuns.j2]
      by_cases hr : ((rd_T54 ds (i : Int)).f2.length : Int) > 20
      · rw [if_pos (decide_eq_true hr)]
        exact hdt k (by omega)
      · rw [if_neg (by simpa using hr)]
        exact rl1 l m ds i hlt (by omega) (30001 + 50 * d) (by omega) (fun k' hk' => by
          rw [w1 hlt (by omega)]
          refine ih (i + 1) k' (by omega) (by omega) (fun t ht => ?_) (by omega)
          by_cases e : t = i
          · subst e; exact hbi rfl
          · exact hcs t (by omega)) _ 0 k rfl (by omega) (by omega)
    · rw [if_pos rfl, lockkeeperlaw30_ModelRuns.j2, if_pos rfl]
      exact hdt k (by omega)
theorem rj0t (l m : List S42) (ds : List S54) (k : Nat) (hk : 20 < k) : lockkeeperlaw30_ModelRuns.j0 k l m ds true = some true := by
  obtain ⟨k, rfl⟩ : ∃ j, k = j + 1 := ⟨k - 1, by omega⟩
  rw [lockkeeperlaw30_ModelRuns.j0, if_pos rfl]
  exact hdt k (by omega)
theorem runs_any (l m : List S42) (ds : List S54) (k : Nat) (hk : 40000 < k) : lockkeeperlaw30_ModelRuns.f k l m ds = some true := by
  unfold lockkeeperlaw30_ModelRuns.f
  obtain ⟨b, hb, hg⟩ := great_eq l k (by omega)
  rw [hb, Option.bind_some]
  cases b
  · rw [if_neg (by simp)]
    obtain ⟨c, hc, hgc⟩ := great_eq m k (by omega)
    rw [hc, Option.bind_some]
    cases c
    · rw [if_neg (by simp)]
      by_cases hds : (ds.length : Int) > 10
      · rw [decide_eq_true hds]
        exact rj0t l m ds k (by omega)
      · rw [decide_eq_false hds]
        obtain ⟨k, rfl⟩ : ∃ j, k = j + 1 := ⟨k - 1, by omega⟩
        rw [lockkeeperlaw30_ModelRuns.j0, if_neg (by simp)]
        exact rl0 l m ds (hg rfl) (hgc rfl) (by omega) ds.length 0 k (by omega) (by omega) (fun t ht => by omega) (by omega)
    · rw [if_pos rfl]
      exact rj0t l m ds k (by omega)
  · rw [if_pos rfl]
    exact rj0t l m ds k (by omega)
theorem ModelRuns : lockkeeperlaw30_ModelRuns.Pure := fun l m ds _ _ _ _ _ _ => ⟨40001, runs_any l m ds 40001 (by decide)⟩
end Go.Proofs.Ytoggblomknemoaa.Pure
