/- The plain law behind ModelSerial: deeds whose replies are Run's are as the model, one behind the other; and where one reply is another one, they are not from that deed on. Conditions: none beyond the row's own. -/
import Derived.Test.YtoggblomknemoaaSPh
import Derived.Test.YtoggblomknemoaaSx9
namespace Go.Proofs.Ytoggblomknemoaa.Pure
open Go.Sort Go.RowKit Go.Proofs.Ytoggblomknemoaa.S Go.Proofs.YtoggblomknemoaaW.PrintWords Go.Proofs.YtoggblomknemoaaW.PrintLast
set_option linter.unusedVariables false
set_option linter.unusedSimpArgs false
set_option maxRecDepth 20000
theorem w1 {i n : Nat} (h : i < n) (hn : n < 4611686018427387904) : wrap64 ((i : Int) + 1) = ((i + 1 : Nat) : Int) := by rw [w64 (by omega) (by omega)]; omega
theorem lift {α : Type} {f : Nat → Option α} (hm : ∀ k, LeO (f k) (f (k + 1))) {K : Nat} {r : α} (e : f K = some r) : ∀ k, K ≤ k → f k = some r := by
  intro k hk
  induction k with
  | zero =>
    obtain rfl : K = 0 := by omega
    exact e
  | succ k ih =>
    by_cases q : K = k + 1
    · rw [← q]; exact e
    · exact hm k r (ih (by omega))
theorem rsame_l0 (l : List S42) (hn : l.length < 4611686018427387904) : ∀ (d k i : Nat), l.length - i = d → i ≤ l.length → d < k → lockkeeperref10_Same.l0 k l l (i : Int) = some true
  | 0, k + 1, i, hd, hi, hk => by
    unfold lockkeeperref10_Same.l0
    rw [if_neg (by omega)]
  | d + 1, k + 1, i, hd, hi, hk => by
    unfold lockkeeperref10_Same.l0
    rw [if_pos (by omega), if_pos (by omega), if_pos (by omega), if_neg (by simp), w1 (show i < l.length by omega) hn]
    exact rsame_l0 l hn d k (i + 1) (by omega) (by omega) (by omega)
theorem rsame_refl (l : List S42) (hn : l.length < 4611686018427387904) (k : Nat) (hk : l.length < k) : lockkeeperref10_Same.f k l l = some true := by
  unfold lockkeeperref10_Same.f
  rw [if_pos rfl]
  exact rsame_l0 l hn l.length k 0 (by omega) (by omega) hk
theorem scan_len (l : List S42) (fr tt : ByteArray) (en : Bool) (mo : Int) : (scan l fr tt en mo).1.length ≤ l.length := by
  unfold scan
  split
  · rw [List.length_take]
    exact Nat.le_trans (Nat.min_le_right _ _) (List.length_filter_le _ _)
  · exact Nat.zero_le _
theorem drop_step {l : List S42} {i : Nat} (h : i < l.length) : l.drop i = rd_T42 l (i : Int) :: l.drop (i + 1) := by
  rw [List.drop_eq_getElem_cons h, rd_get h]
theorem drop_nil {l : List S42} {i : Nat} (h : ¬ i < l.length) : l.drop i = [] := List.drop_eq_nil_of_le (by omega)
/-! ### Same -/
theorem cell_ext {x y : S42} (h0 : x.f0.toList = y.f0.toList) (h1 : x.f1.toList = y.f1.toList) : x = y := by
  cases x; cases y
  simp only at h0 h1
  rw [tl_inj h0, tl_inj h1]
theorem ne_iff (x y : S42) : ((!(x.f0.toList == y.f0.toList) || (!(x.f1.toList == y.f1.toList))) = true) ↔ x ≠ y := by
  constructor
  · rintro h rfl; simp at h
  · intro h
    by_cases q : x.f0.toList = y.f0.toList
    · by_cases q2 : x.f1.toList = y.f1.toList
      · exact absurd (cell_ext q q2) h
      · simp [q2]
    · simp [q]
theorem drop_eq_step {l m : List S42} {i : Nat} (h : i < l.length) (h2 : i < m.length) : l.drop i = m.drop i ↔ rd_T42 l (i : Int) = rd_T42 m (i : Int) ∧ l.drop (i + 1) = m.drop (i + 1) := by
  rw [drop_step h, drop_step h2, List.cons.injEq]
theorem csame_l0' (l m : List S42) (hn : l.length < 4611686018427387904) (he : l.length = m.length) : ∀ (d k i : Nat), l.length - i = d → i ≤ l.length → d < k → ∃ b, api_Cell_61.l0 k l m (l.length : Int) (i : Int) = some b ∧ (b = true ↔ l.drop i = m.drop i)
  | 0, k + 1, i, hd, hi, hk => by
    refine ⟨true, ?_, ?_⟩
    · unfold api_Cell_61.l0
      rw [if_neg (by omega)]
    · rw [drop_nil (by omega), drop_nil (by omega)]; simp
  | d + 1, k + 1, i, hd, hi, hk => by
    obtain ⟨b, hb, hbi⟩ := csame_l0' l m hn he d k (i + 1) (by omega) (by omega) (by omega)
    unfold api_Cell_61.l0
    rw [if_pos (by omega), if_pos (by omega), if_pos (by omega), if_pos (by omega), drop_eq_step (by omega) (by omega)]
    by_cases q : rd_T42 l (i : Int) = rd_T42 m (i : Int)
    · rw [if_neg (fun r => (ne_iff _ _).1 r q), w1 (show i < l.length by omega) hn, hb]
      exact ⟨b, rfl, by rw [hbi]; exact ⟨fun r => ⟨q, r⟩, fun r => r.2⟩⟩
    · rw [if_pos ((ne_iff _ _).2 q)]
      exact ⟨false, rfl, by simp [q]⟩
/-- Replies, as both tell whether they are the same. -/
def sameP (x y : S33) : Prop := x.f1 = y.f1 ∧ x.f2 = y.f2 ∧ x.f4 = y.f4 ∧ x.f5 = y.f5 ∧ x.f6 = y.f6
theorem msame_eq (k : Nat) (x y : S33) (hx : x.f6.length < 1000000000000) (hk : x.f6.length + 2 < k) :
    ∃ b, model_Same.f k x.f0 x.f1 x.f2 x.f3 x.f4 x.f5 x.f6 y.f0 y.f1 y.f2 y.f3 y.f4 y.f5 y.f6 = some b ∧ (b = true ↔ sameP x y) := by
  unfold model_Same.f sameP
  by_cases h1 : x.f1 = y.f1
  · rw [if_pos h1]
    by_cases h2 : x.f2 = y.f2
    · rw [if_pos h2]
      by_cases h4 : x.f4 = y.f4
      · rw [if_pos (by rw [h4]; simp)]
        by_cases h5 : x.f5 = y.f5
        · rw [if_pos (by rw [h5])]
          unfold cells_Same.f api_Cell_61.f
          by_cases h6 : x.f6.length = y.f6.length
          · rw [if_pos (by rw [h6])]
            obtain ⟨b, hb, hbi⟩ := csame_l0' x.f6 y.f6 (by omega) h6 x.f6.length k 0 (by omega) (by omega) (by omega)
            rw [show ((0 : Nat) : Int) = 0 from rfl] at hb
            rw [hb]
            rw [List.drop_zero, List.drop_zero] at hbi
            exact ⟨b, rfl, by rw [hbi]; exact ⟨fun r => ⟨h1, h2, h4, h5, r⟩, fun r => r.2.2.2.2⟩⟩
          · rw [if_neg (by omega)]
            exact ⟨false, rfl, by simp only [Bool.false_eq_true, false_iff]; exact fun r => h6 (by rw [r.2.2.2.2])⟩
        · rw [if_neg (fun q => h5 (tl_inj q))]
          exact ⟨false, rfl, by simp [h5]⟩
      · rw [if_neg (by simpa using h4)]
        exact ⟨false, rfl, by simp [h4]⟩
    · rw [if_neg h2]
      exact ⟨false, rfl, by simp [h2]⟩
  · rw [if_neg h1]
    exact ⟨false, rfl, by simp [h1]⟩
noncomputable def sameD (x y : S33) : Bool := @decide (sameP x y) (Classical.propDecidable _)
theorem sameD_iff (x y : S33) : sameD x y = true ↔ sameP x y := by unfold sameD; exact @decide_eq_true_iff _ (Classical.propDecidable _)
theorem msame_d (k : Nat) (x y : S33) (hx : x.f6.length < 1000000000000) (hk : x.f6.length + 2 < k) :
    model_Same.f k x.f0 x.f1 x.f2 x.f3 x.f4 x.f5 x.f6 y.f0 y.f1 y.f2 y.f3 y.f4 y.f5 y.f6 = some (sameD x y) := by
  obtain ⟨b, hb, hbi⟩ := msame_eq k x y hx hk
  rw [hb, Bool.eq_iff_iff.2 (hbi.trans (sameD_iff x y).symm)]
theorem rd33_mem {l : List S33} {t : Nat} (h : t < l.length) : rd_T33 l (t : Int) ∈ l := by
  unfold rd_T33
  rw [Int.toNat_natCast, List.getD_eq_getElem?_getD, List.getElem?_eq_getElem h]
  exact List.getElem_mem h
theorem many_l0 (l : List S26) : ∀ (d k i : Nat), 20 - i = d → i ≤ 20 → 2 * d + 2 < k → ∃ b, lockkeeperlaw30_many.l0 k l (i : Int) = some b ∧ (b = false → l.length ≤ 20) := by
  intro d
  induction d with
  | zero =>
    intro k i hd hi hk
    obtain ⟨k, rfl⟩ : ∃ j, k = j + 2 := ⟨k - 2, by omega⟩
    rw [show k + 2 = (k + 1) + 1 from rfl, lockkeeperlaw30_many.l0]
    by_cases h : i < l.length
    · rw [if_pos (by omega), decide_eq_false (by omega), lockkeeperlaw30_many.j1, if_neg (by simp)]
      exact ⟨_, rfl, fun q => by rw [decide_eq_false_iff_not] at q; omega⟩
    · rw [if_neg (by omega), lockkeeperlaw30_many.j1, if_neg (by simp)]
      exact ⟨_, rfl, fun q => by rw [decide_eq_false_iff_not] at q; omega⟩
  | succ d ih =>
    intro k i hd hi hk
    obtain ⟨k, rfl⟩ : ∃ j, k = j + 2 := ⟨k - 2, by omega⟩
    rw [show k + 2 = (k + 1) + 1 from rfl, lockkeeperlaw30_many.l0]
    by_cases h : i < l.length
    · rw [if_pos (by omega), decide_eq_true (by omega), lockkeeperlaw30_many.j1, if_pos rfl, if_pos (by omega), if_pos (by omega)]
      unfold lockkeeperref30_Small.f
      rw [Option.bind_some]
      split
      · rw [w1 (show i < 20 by omega) (by omega)]
        exact ih k (i + 1) (by omega) (by omega) (by omega)
      · exact ⟨true, rfl, fun q => by cases q⟩
    · rw [if_neg (by omega), lockkeeperlaw30_many.j1, if_neg (by simp)]
      exact ⟨_, rfl, fun q => by rw [decide_eq_false_iff_not] at q; omega⟩
theorem many_eq (l : List S26) (k : Nat) (hk : 42 < k) : ∃ b, lockkeeperlaw30_many.f k l = some b ∧ (b = false → l.length ≤ 20) := many_l0 l 20 k 0 (by omega) (by omega) (by omega)
theorem hdt (k : Nat) (hk : 10 < k) : ((lockkeeperlaw30_head.f k).bind fun t => some t) = some true := by rw [head_eq k hk]; rfl
/-! ### Do and Run over a right map: the replies' sizes -/
theorem step_size {l : List S42} (h : RightP l) (wh : Int) (key val : ByteArray) : (step wh key val (look l key)).2.2.2.size ≤ 2048 := by
  have hg : ((look l key).getD ⟨#[]⟩).size ≤ 2048 := by
    cases q : look l key with
    | none => exact Nat.zero_le _
    | some v =>
      obtain ⟨c, hc, -, rfl⟩ := (look_iff h key v).1 q
      exact ((rightP_iff.1 h).1 c hc).2
  unfold step
  repeat' split
  all_goals first | exact hg | exact Nat.zero_le _
theorem do_ok {l : List S42} (h : RightP l) (hn : l.length < 1000000) (wh : Int) (key val fr tt : ByteArray) (en : Bool) (mo : Int) :
    ∃ n e is v cs, (∀ k, l.length + 2 ≤ k → model_Do.f k l wh key val fr tt en mo = some (n, 0, wh, e, 0, is, v, cs)) ∧ RightP n ∧ n.length ≤ l.length + 1 ∧ cs.length ≤ l.length ∧ v.size ≤ 2048 := by
  by_cases h6 : wh = 6
  · subst h6
    exact ⟨l, _, _, _, _, fun k hk => do_scan h k (by omega) (by omega) key val fr tt en mo, h, by omega, scan_len l fr tt en mo, Nat.zero_le _⟩
  · obtain ⟨n, e1, h1, h2, -⟩ := do_eq h (l.length + 2) (by omega) (by omega) wh key val fr tt en mo h6
    exact ⟨n, _, _, _, _, fun k hk => lift (fun k => model_Do.mono _ _ _ _ _ _ _ _ k) e1 k hk, h1, h2, Nat.zero_le _, step_size h wh key val⟩
theorem run_l0 (l : List S42) (xs : List S26) (hr : RightP l) (hn : l.length + xs.length < 100000) : ∀ (d i : Nat) (acc : List S33) (out : List S42), xs.length - i = d → i ≤ xs.length → acc.length = i → out.length ≤ l.length + i → RightP out →
    ∃ n rs, (∀ k, l.length + xs.length + 100 + d < k → model_Run.l0 k l acc out xs (xs.length : Int) (i : Int) = some (n, acc ++ rs)) ∧ n.length ≤ l.length + xs.length ∧ rs.length = d ∧ RightP n ∧ ∀ r ∈ rs, r.f6.length ≤ l.length + xs.length ∧ r.f5.size ≤ 2048 := by
  intro d
  induction d with
  | zero =>
    intro i acc out hd hi ha ho hro
    refine ⟨out, [], fun k hk => ?_, by omega, rfl, hro, by simp⟩
    obtain ⟨k, rfl⟩ : ∃ j, k = j + 1 := ⟨k - 1, by omega⟩
    unfold model_Run.l0
    rw [if_neg (by omega), List.append_nil]
  | succ d ih =>
    intro i acc out hd hi ha ho hro
    obtain ⟨n, e, is, v, cs, h1, h4, h3, h5, h6⟩ := do_ok hro (by omega) (rd_T26 xs (i : Int)).f0 (rd_T26 xs (i : Int)).f1 (rd_T26 xs (i : Int)).f2 (rd_T26 xs (i : Int)).f3.f0 (rd_T26 xs (i : Int)).f3.f1 (rd_T26 xs (i : Int)).f3.f2 (rd_T26 xs (i : Int)).f4
    obtain ⟨m, rs, q1, q2, q3, q4, q5⟩ := ih (i + 1) (acc ++ [⟨0, (rd_T26 xs (i : Int)).f0, e, 0, is, v, cs⟩]) n (by omega) (by omega) (by rw [List.length_append, List.length_singleton]; omega) (by omega) h4
    refine ⟨m, ⟨0, (rd_T26 xs (i : Int)).f0, e, 0, is, v, cs⟩ :: rs, fun k hk => ?_, q2, by rw [List.length_cons, q3], q4, fun r hr => ?_⟩
    · obtain ⟨k, rfl⟩ : ∃ j, k = j + 1 := ⟨k - 1, by omega⟩
      have a1 := q1 k (by omega)
      rw [List.append_assoc] at a1
      unfold model_Run.l0
      rw [if_pos (by omega), if_pos (by omega), if_pos (by omega), cright_yes hr k (by omega) (by omega), Option.bind_some, if_pos rfl, h1 k (by omega), Option.bind_some, if_pos (by omega), w1 (show i < xs.length by omega) (by omega)]
      exact a1
    · rcases List.mem_cons.1 hr with rfl | hr
      · exact ⟨by show cs.length ≤ _; omega, h6⟩
      · exact q5 r hr
/-- A run from a right map: what it leaves, what it tells. -/
def RunP (now : List S42) (xs : List S26) (n : List S42) (rs : List S33) : Prop :=
  (∀ k, 1000 < k → model_Run.f k now xs = some (n, rs)) ∧ rs.length ≤ 20 ∧ ∀ r ∈ rs, r.f6.length ≤ 300 ∧ r.f5.size ≤ 2048
theorem run_ok (l : List S42) (xs : List S26) (hr : RightP l) (hl : l.length ≤ 240) (hx : xs.length ≤ 20) : ∃ n rs, RunP l xs n rs ∧ n.length ≤ l.length + 20 ∧ RightP n := by
  have hcl : api_Cell_50.f l = some l := by
    unfold api_Cell_50.f
    rw [if_pos (by omega)]
  obtain ⟨n, rs, q1, q2, q3, q4, q5⟩ := run_l0 l xs hr (by omega) xs.length 0 [] l (by omega) (by omega) rfl (by omega) hr
  refine ⟨n, rs, ⟨fun k hk => ?_, by omega, fun r hr => ⟨by have := (q5 r hr).1; omega, (q5 r hr).2⟩⟩, by omega, q4⟩
  obtain ⟨k, rfl⟩ : ∃ j, k = j + 1 := ⟨k - 1, by omega⟩
  have a1 := q1 k (by omega)
  rw [List.nil_append] at a1
  unfold model_Run.f
  rw [hcl, Option.bind_some, cright_yes hr (k + 1) (by omega) (by omega), Option.bind_some, if_pos rfl, model_Run.j0]
  exact a1
/-! ### Replies, row by row -/
theorem rep_l0 (told xs : List S33) (hl : told.length = xs.length) (hc : ∀ r ∈ told, r.f6.length ≤ 300) (ht : told.length < 1000000) :
    ∀ (d j : Nat), told.length - j = d → j ≤ told.length → ∃ B : Bool, (∀ k : Nat, 400 + d < k → api_Reply.l0 k xs told (told.length : Int) (j : Int) = some B) ∧ (B = true ↔ ∀ t : Nat, j ≤ t → t < told.length → sameP (rd_T33 told (t : Int)) (rd_T33 xs (t : Int))) := by
  intro d
  induction d with
  | zero =>
    intro j hd hj
    refine ⟨true, fun k hk => ?_, fun _ t h1 h2 => by omega, fun _ => rfl⟩
    obtain ⟨k, rfl⟩ : ∃ j, k = j + 1 := ⟨k - 1, by omega⟩
    unfold api_Reply.l0
    rw [if_neg (by omega)]
  | succ d ih =>
    intro j hd hj
    have hm := hc _ (rd33_mem (show j < told.length by omega))
    obtain ⟨B, h1, h2⟩ := ih (j + 1) (by omega) (by omega)
    by_cases q : sameD (rd_T33 told (j : Int)) (rd_T33 xs (j : Int)) = true
    · refine ⟨B, fun k hk => ?_, ?_⟩
      · obtain ⟨k, rfl⟩ : ∃ j, k = j + 1 := ⟨k - 1, by omega⟩
        unfold api_Reply.l0
        rw [if_pos (by omega), if_pos (by omega), if_pos (by omega), if_pos (by omega), msame_d k _ _ (by omega) (by omega), Option.bind_some, if_pos q, w1 (show j < told.length by omega) (by omega)]
        exact h1 k (by omega)
      · rw [h2]
        refine ⟨fun h t a b => ?_, fun h t a b => h t (by omega) b⟩
        by_cases e : t = j
        · subst e; exact (sameD_iff _ _).1 q
        · exact h t (by omega) b
    · refine ⟨false, fun k hk => ?_, fun h => absurd h (by simp), fun h => absurd ((sameD_iff _ _).2 (h j (Nat.le_refl _) (by omega))) q⟩
      obtain ⟨k, rfl⟩ : ∃ j, k = j + 1 := ⟨k - 1, by omega⟩
      unfold api_Reply.l0
      rw [if_pos (by omega), if_pos (by omega), if_pos (by omega), if_pos (by omega), msame_d k _ _ (by omega) (by omega), Option.bind_some, if_neg q]
theorem rep_eq (told xs : List S33) (hl : told.length = xs.length) (hc : ∀ r ∈ told, r.f6.length ≤ 300) (ht : told.length ≤ 20) :
    ∃ B : Bool, (∀ k : Nat, 1000 < k → api_Reply.f k told xs = some B) ∧ (B = true ↔ ∀ t : Nat, t < told.length → sameP (rd_T33 told (t : Int)) (rd_T33 xs (t : Int))) := by
  obtain ⟨B, h1, h2⟩ := rep_l0 told xs hl hc (by omega) told.length 0 (by omega) (by omega)
  refine ⟨B, fun k hk => ?_, by rw [h2]; exact ⟨fun h t => h t (Nat.zero_le _), fun h t _ => h t⟩⟩
  unfold api_Reply.f
  rw [if_pos (by rw [hl])]
  exact h1 k (by omega)
theorem rep_same (told : List S33) (hc : ∀ r ∈ told, r.f6.length ≤ 300) (ht : told.length ≤ 20) (k : Nat) (hk : 1000 < k) : api_Reply.f k told told = some true := by
  obtain ⟨B, h1, h2⟩ := rep_eq told told rfl hc ht
  rw [h1 k hk, h2.2 fun t _ => ⟨rfl, rfl, rfl, rfl, rfl⟩]
/-! ### Serial over a chain of deeds -/
/-- Deeds that follow on each other, each told by Run. -/
def Ch : List S42 → List S54 → List S42 → Prop
  | now, [], e => now = e
  | now, d :: ds, e => ∃ n, RunP now d.f1 n d.f2 ∧ Ch n ds e
theorem ch_snoc : ∀ (ds : List S54) (now m : List S42) (d : S54) (e : List S42), Ch now ds m → RunP m d.f1 e d.f2 → Ch now (ds ++ [d]) e
  | [], now, m, d, e, h, hr => by
    obtain rfl : now = m := h
    exact ⟨e, hr, rfl⟩
  | x :: ds, now, m, d, e, h, hr => by
    obtain ⟨n, h1, h2⟩ := h
    exact ⟨n, h1, ch_snoc ds n m d e h2 hr⟩
theorem ch_split : ∀ (xs ys : List S54) (now e : List S42), Ch now (xs ++ ys) e → ∃ m, Ch now xs m ∧ Ch m ys e
  | [], ys, now, e, h => ⟨now, rfl, h⟩
  | x :: xs, ys, now, e, h => by
    obtain ⟨n, h1, h2⟩ := h
    obtain ⟨m, h3, h4⟩ := ch_split xs ys n e h2
    exact ⟨m, ⟨n, h1, h3⟩, h4⟩
theorem ch_mem : ∀ (ds : List S54) (now e : List S42), Ch now ds e → ∀ d ∈ ds, d.f2.length ≤ 20 ∧ ∀ r ∈ d.f2, r.f6.length ≤ 300 ∧ r.f5.size ≤ 2048
  | [], _, _, _, d, hd => by simp at hd
  | x :: ds, now, e, h, d, hd => by
    obtain ⟨n, h1, h2⟩ := h
    rcases List.mem_cons.1 hd with rfl | hd
    · exact h1.2
    · exact ch_mem ds n e h2 d hd
theorem rd54_at (pre : List S54) (d : S54) (tail : List S54) : rd_T54 (pre ++ d :: tail) ((pre.length : Nat) : Int) = d := by
  unfold rd_T54
  simp [List.getD_eq_getElem?_getD]
theorem serial_go (ds : List S54) (hds : ds.length ≤ 10) (R : List S42 × Int) (K : Nat) (hK : 1000 < K) : ∀ (mid pre tail : List S54) (now m : List S42), ds = pre ++ (mid ++ tail) → Ch now mid m →
    (∀ k, K < k → model_Serial.l0 k m ds ds (ds.length : Int) ((pre.length + mid.length : Nat) : Int) = some R) → ∀ k, K + mid.length < k → model_Serial.l0 k now ds ds (ds.length : Int) ((pre.length : Nat) : Int) = some R
  | [], pre, tail, now, m, hd, hc, hR, k, hk => by
    obtain rfl : now = m := hc
    exact hR k hk
  | d :: mid, pre, tail, now, m, hd, hc, hR, k, hk => by
    obtain ⟨n, h1, h2⟩ := hc
    obtain ⟨k, rfl⟩ : ∃ j, k = j + 1 := ⟨k - 1, by rw [List.length_cons] at hk; omega⟩
    rw [List.length_cons] at hk
    have hlen : ds.length = pre.length + (mid.length + tail.length + 1) := by rw [hd]; simp only [List.length_append, List.length_cons, List.cons_append]
    have hat : rd_T54 ds ((pre.length : Nat) : Int) = d := by rw [hd]; exact rd54_at pre d (mid ++ tail)
    have hn := serial_go ds hds R K hK mid (pre ++ [d]) tail n m (by rw [hd]; simp) h2 (fun k hk => by
      rw [List.length_append, List.length_singleton, Nat.add_assoc, Nat.add_comm 1]
      exact hR k hk) k (by omega)
    rw [List.length_append, List.length_singleton] at hn
    unfold model_Serial.l0
    rw [if_pos (by omega), if_pos (by omega), if_pos (by omega), hat, h1.1 k (by omega), Option.bind_some, rep_same d.f2 (fun r hr => (h1.2.2 r hr).1) h1.2.1 k (by omega), Option.bind_some, if_pos rfl, w1 (show pre.length < ds.length by omega) (by omega)]
    exact hn
theorem serial_all (l : List S42) (ds : List S54) (e : List S42) (hr : RightP l) (hl : l.length ≤ 40) (hds : ds.length ≤ 10) (hc : Ch l ds e) (k : Nat) (hk : 2000 < k) : model_Serial.f k l ds = some (e, (ds.length : Int)) := by
  unfold model_Serial.f api_Cell_50.f
  rw [cright_yes hr k (by omega) (by omega), Option.bind_some, if_pos rfl, if_pos (by omega), Option.bind_some]
  refine serial_go ds hds (e, (ds.length : Int)) 1001 (by omega) ds [] [] l e (by simp) hc (fun k hk => ?_) k (by omega)
  obtain ⟨k, rfl⟩ : ∃ j, k = j + 1 := ⟨k - 1, by omega⟩
  unfold model_Serial.l0
  rw [List.length_nil, Nat.zero_add, if_neg (by omega)]
theorem turned_at (xs : List S54) (d : S54) (ys : List S54) (j : Int) : turned (xs ++ d :: ys) ((xs.length : Nat) : Int) j = xs ++ ⟨d.f0, d.f1, d.f2.set j.toNat ⟨(rd_T33 d.f2 j).f0, (rd_T33 d.f2 j).f1, (rd_T33 d.f2 j).f2, (rd_T33 d.f2 j).f3, (rd_T33 d.f2 j).f4, (rd_T33 d.f2 j).f5 ++ (⟨#[120]⟩ : ByteArray), (rd_T33 d.f2 j).f6⟩⟩ :: ys := by
  unfold turned
  rw [rd54_at, Int.toNat_natCast, List.set_append_right _ _ (Nat.le_refl _), Nat.sub_self, List.set_cons_zero]
theorem serial_stop (l : List S42) (xs : List S54) (d : S54) (ys : List S54) (e : List S42) (hr : RightP l) (hl : l.length ≤ 40) (hds : (xs ++ d :: ys).length ≤ 10) (hc : Ch l (xs ++ d :: ys) e) (j : Nat) (hj : j < d.f2.length) (k : Nat) (hk : 2000 < k) :
    ∃ m, model_Serial.f k l (turned (xs ++ d :: ys) ((xs.length : Nat) : Int) (j : Int)) = some (m, ((xs.length : Nat) : Int)) := by
  obtain ⟨m, h1, n, h2, h3⟩ := ch_split xs (d :: ys) l e hc
  refine ⟨m, ?_⟩
  rw [turned_at, Int.toNat_natCast]
  generalize hr' : (⟨(rd_T33 d.f2 (j : Int)).f0, (rd_T33 d.f2 (j : Int)).f1, (rd_T33 d.f2 (j : Int)).f2, (rd_T33 d.f2 (j : Int)).f3, (rd_T33 d.f2 (j : Int)).f4, (rd_T33 d.f2 (j : Int)).f5 ++ (⟨#[120]⟩ : ByteArray), (rd_T33 d.f2 (j : Int)).f6⟩ : S33) = r'
  generalize hd' : (⟨d.f0, d.f1, d.f2.set j r'⟩ : S54) = d'
  have hd1 : d'.f1 = d.f1 := by rw [← hd']
  have hd2 : d'.f2 = d.f2.set j r' := by rw [← hd']
  have hlen : (xs ++ d' :: ys).length = xs.length + (ys.length + 1) := by rw [List.length_append, List.length_cons]
  have hlen' : (xs ++ d :: ys).length = xs.length + (ys.length + 1) := by rw [List.length_append, List.length_cons]
  unfold model_Serial.f api_Cell_50.f
  rw [cright_yes hr k (by omega) (by omega), Option.bind_some, if_pos rfl, if_pos (by omega), Option.bind_some]
  refine serial_go (xs ++ d' :: ys) (by omega) (m, ((xs.length : Nat) : Int)) 1001 (by omega) xs [] (d' :: ys) l m (by simp) h1 (fun k hk => ?_) k (by omega)
  obtain ⟨k, rfl⟩ : ∃ j, k = j + 1 := ⟨k - 1, by omega⟩
  obtain ⟨B, b1, b2⟩ := rep_eq d.f2 (d.f2.set j r') (by rw [List.length_set]) (fun r hr => (h2.2.2 r hr).1) h2.2.1
  have hB : B = false := by
    cases B
    · rfl
    · have q := (b2.1 rfl j hj).2.2.2.1
      have e1 : rd_T33 (d.f2.set j r') (j : Int) = r' := by
        unfold rd_T33
        rw [Int.toNat_natCast, List.getD_eq_getElem?_getD, List.getElem?_set_self hj]; rfl
      rw [e1, ← hr'] at q
      have q2 := congrArg ByteArray.size q
      rw [ByteArray.size_append] at q2
      have : (⟨#[120]⟩ : ByteArray).size = 1 := rfl
      omega
  unfold model_Serial.l0
  rw [List.length_nil, Nat.zero_add, if_pos (by omega), if_pos (by omega), if_pos (by omega), rd54_at, hd1, h2.1 k (by omega), Option.bind_some, hd2, b1 k (by omega), hB, Option.bind_some, if_neg (by simp)]
/-! ### The law -/
theorem tm {a n : Int} (h0 : 0 ≤ a) (h1 : a < 256) (hn : 0 < n) : ∃ t : Nat, Int.tmod (wrap64 a) n = (t : Int) ∧ (t : Int) < n := by
  rw [w64 (by omega) (by omega), Int.tmod_eq_emod_of_nonneg h0]
  exact ⟨(a % n).toNat, (Int.toNat_of_nonneg (Int.emod_nonneg _ (by omega))).symm, by rw [Int.toNat_of_nonneg (Int.emod_nonneg _ (by omega))]; exact Int.emod_lt_of_pos _ hn⟩
theorem ser_end (l : List S42) (l1 : List (List S26)) (a : Int) (ha0 : 0 ≤ a) (ha1 : a < 256) (hr : RightP l) (hl : l.length ≤ 40) (ds : List S54) (now : List S42) (hds : ds.length ≤ 10) (hd : ds.length = l1.length) (hc : Ch l ds now) (hnow : now.length ≤ 240) (k : Nat) (hk : 3000 < k) :
    lockkeeperlaw30_ModelSerial.l0 k l l1 a now ds ((l1.length : Nat) : Int) = some true := by
  obtain ⟨k, rfl⟩ : ∃ j, k = j + 1 := ⟨k - 1, by omega⟩
  rw [lockkeeperlaw30_ModelSerial.l0, if_neg (by omega), serial_all l ds now hr hl hds hc k (by omega), Option.bind_some, if_pos rfl, rsame_refl now (by omega) k (by omega), Option.bind_some, if_pos rfl]
  by_cases h0 : ds.length = 0
  · rw [if_pos (by omega)]
    exact hdt k (by omega)
  · rw [if_neg (by omega)]
    obtain ⟨i, hi, hil⟩ := tm ha0 ha1 (show (0 : Int) < (ds.length : Int) by omega)
    rw [hi, if_pos (by omega), if_pos hil]
    have hil' : i < ds.length := by omega
    obtain ⟨xs, d, ys, rfl, rfl⟩ : ∃ xs d ys, ds = xs ++ d :: ys ∧ xs.length = i := ⟨ds.take i, ds[i], ds.drop (i + 1), by rw [List.getElem_cons_drop, List.take_append_drop], by rw [List.length_take]; omega⟩
    rw [rd54_at]
    by_cases h1 : d.f2.length = 0
    · rw [if_pos (by omega)]
      exact hdt k (by omega)
    · rw [if_neg (by omega)]
      obtain ⟨j, hj, hjl⟩ := tm ha0 ha1 (show (0 : Int) < (d.f2.length : Int) by omega)
      have hjl' : j < d.f2.length := by omega
      have hs := ((ch_mem _ _ _ hc d (by simp)).2 _ (rd33_mem hjl')).2
      obtain ⟨m, hm⟩ := serial_stop l xs d ys now hr hl hds hc j hjl' k (by omega)
      rw [hj, if_pos (by omega), if_pos hjl, if_pos (by omega), hm, Option.bind_some, if_pos rfl]
      exact hdt k (by omega)
theorem ser_l0 (l : List S42) (l1 : List (List S26)) (a : Int) (ha0 : 0 ≤ a) (ha1 : a < 256) (hr : RightP l) (hl : l.length ≤ 40) (hl1 : l1.length ≤ 10) : ∀ (d i : Nat) (now : List S42) (ds : List S54), l1.length - i = d → i ≤ l1.length → ds.length = i → Ch l ds now → RightP now → now.length ≤ 40 + 20 * i → ∀ k, 3000 + d < k →
    lockkeeperlaw30_ModelSerial.l0 k l l1 a now ds (i : Int) = some true := by
  intro d
  induction d with
  | zero =>
    intro i now ds hd hi hds hc hrn hn k hk
    obtain rfl : i = l1.length := by omega
    exact ser_end l l1 a ha0 ha1 hr hl ds now (by omega) hds hc (by omega) k (by omega)
  | succ d ih =>
    intro i now ds hd hi hds hc hrn hn k hk
    obtain ⟨k, rfl⟩ : ∃ j, k = j + 1 := ⟨k - 1, by omega⟩
    obtain ⟨b, hb, hbi⟩ := many_eq (rd_L12 l1 (i : Int)) k (by omega)
    rw [lockkeeperlaw30_ModelSerial.l0, if_pos (by omega), if_pos (by omega), hb, Option.bind_some]
    cases b
    · obtain ⟨n, rs, h1, h2, h3⟩ := run_ok now (rd_L12 l1 (i : Int)) hrn (by omega) (hbi rfl)
      rw [if_neg (by simp), h1.1 k (by omega), Option.bind_some, if_pos (by omega), w1 (show i < l1.length by omega) (by omega)]
      exact ih (i + 1) n _ (by omega) (by omega) (by rw [List.length_append, List.length_singleton]; omega) (ch_snoc ds l now _ n hc h1) h3 (by omega) k (by omega)
    · rw [if_pos rfl]
      exact hdt k (by omega)
theorem sj0t (l : List S42) (l1 : List (List S26)) (a : Int) (k : Nat) (hk : 20 < k) : lockkeeperlaw30_ModelSerial.j0 k l l1 a true = some true := by
  obtain ⟨k, rfl⟩ : ∃ j, k = j + 1 := ⟨k - 1, by omega⟩
  rw [lockkeeperlaw30_ModelSerial.j0, if_pos rfl]
  exact hdt k (by omega)
theorem serial_any (l : List S42) (l1 : List (List S26)) (a : Int) (ha0 : 0 ≤ a) (ha1 : a < 256) (hlen : l.length < 4611686018427387904) (k : Nat) (hk : 4000 < k) (hk2 : l.length < k) : lockkeeperlaw30_ModelSerial.f k l l1 a = some true := by
  unfold lockkeeperlaw30_ModelSerial.f
  obtain ⟨b, hb, hg⟩ := great_eq l k (by omega)
  rw [hb, Option.bind_some]
  cases b
  · rw [if_neg (by simp)]
    obtain ⟨c, hc, hci⟩ := rright_eq l k hlen hk2
    rw [hc, Option.bind_some]
    cases c
    · rw [if_neg (by simp)]
      exact sj0t l l1 a k (by omega)
    · rw [if_pos rfl]
      by_cases hds : (l1.length : Int) > 10
      · rw [decide_eq_true hds]
        exact sj0t l l1 a k (by omega)
      · rw [decide_eq_false hds]
        obtain ⟨k, rfl⟩ : ∃ j, k = j + 1 := ⟨k - 1, by omega⟩
        rw [lockkeeperlaw30_ModelSerial.j0, if_neg (by simp)]
        exact ser_l0 l l1 a ha0 ha1 (hci.1 rfl) (hg rfl) (by omega) l1.length 0 l [] (by omega) (by omega) rfl rfl (hci.1 rfl) (by have := hg rfl; omega) k (by omega)
  · rw [if_pos rfl]
    exact sj0t l l1 a k (by omega)
theorem ModelSerial : lockkeeperlaw30_ModelSerial.Pure := fun l l1 a h _ _ _ hw => by
  simp [Lit.wf, IntKind.min, IntKind.max, IntKind.signed, IntKind.bits] at hw
  exact ⟨4001 + l.length, serial_any l l1 a (by omega) (by omega) (by omega) _ (by omega) (by omega)⟩
end Go.Proofs.Ytoggblomknemoaa.Pure
