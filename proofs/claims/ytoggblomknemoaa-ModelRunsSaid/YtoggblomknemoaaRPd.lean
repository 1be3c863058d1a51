/- Plain words of the model's Run, Serial, Diff and Same, and of the document's: they tell the same. -/
import Derived.Test.YtoggblomknemoaaRPr
namespace Go.Proofs.Ytoggblomknemoaa.Pure
open Go.Sort Go.RowKit Go.Proofs.Ytoggblomknemoaa.R Go.Proofs.YtoggblomknemoaaW.PrintWords Go.Proofs.YtoggblomknemoaaW.PrintLast
set_option linter.unusedVariables false
set_option linter.unusedSimpArgs false
/-! ### Diff -/
theorem compact_memB {zs : List ByteArray} (x : ByteArray) : x ∈ Go.Lib.compact zs ↔ x ∈ zs := by
  unfold Go.Lib.compact Go.Lib.compactUpTo
  rw [List.mem_map]
  constructor
  · rintro ⟨j, hj, rfl⟩
    have hj' : j < zs.length := List.mem_range.1 (List.mem_filter.1 hj).1
    simp [hj']
  · intro hx
    obtain ⟨i, hi, rfl⟩ := List.mem_iff_getElem.1 hx
    have key : ∀ i : Nat, (hi : i < zs.length) → ∃ a, a ∈ (List.range zs.length).filter (Go.Lib.keeps zs.toArray) ∧ zs.toArray[a]! = zs[i] := by
      intro i
      induction i with
      | zero => exact fun hi => ⟨0, List.mem_filter.2 ⟨List.mem_range.2 hi, by simp [Go.Lib.keeps]⟩, by simp [hi]⟩
      | succ i ih =>
        intro hi
        by_cases h : zs[i + 1] = zs[i]
        · obtain ⟨a, h1, h2⟩ := ih (by omega)
          exact ⟨a, h1, by rw [h2, h]⟩
        · refine ⟨i + 1, List.mem_filter.2 ⟨List.mem_range.2 hi, ?_⟩, by simp [hi]⟩
          have h2 : i < zs.length := by omega
          simp [Go.Lib.keeps, hi, h2, h]
    exact key i hi
def ltB (x y : ByteArray) : Prop := x.toList < y.toList
def leB (x y : ByteArray) : Prop := ¬ y.toList < x.toList
theorem le_lt {x y z : ByteArray} (h : leB x y) (h2 : ltB y z) : ltB x z := by
  by_cases e : x.toList = y.toList
  · unfold ltB at *; rw [e]; exact h2
  · exact lt_tr (nlt_le h e) h2
theorem compact_sortedB {zs : List ByteArray} (hs : zs.Pairwise leB) : (Go.Lib.compact zs).Pairwise ltB := by
  unfold Go.Lib.compact Go.Lib.compactUpTo
  rw [List.pairwise_map]
  refine List.Pairwise.imp_of_mem ?_ ((List.pairwise_lt_range (n := zs.length)).filter _)
  intro a b ha hb hab
  have hb1 : b < zs.length := List.mem_range.1 (List.mem_filter.1 hb).1
  have hk := (List.mem_filter.1 hb).2
  have hb2 : b - 1 < zs.length := by omega
  have ha2 : a < zs.length := by omega
  have hne : ¬ zs[b] = zs[b - 1] := by
    intro e
    simp [Go.Lib.keeps, hb1, hb2, e] at hk
    omega
  have h1 : leB zs[b - 1] zs[b] := List.pairwise_iff_getElem.1 hs (b - 1) b hb2 hb1 (by omega)
  have h2 : leB zs[a] zs[b - 1] := by
    rcases Nat.lt_or_ge a (b - 1) with h | h
    · exact List.pairwise_iff_getElem.1 hs a (b - 1) ha2 hb2 h
    · obtain rfl : a = b - 1 := by omega
      exact fun q => lt_irr q
  simp only [List.getElem!_toArray]
  rw [List.getElem!_eq_getElem?_getD, List.getElem!_eq_getElem?_getD, List.getElem?_eq_getElem ha2, List.getElem?_eq_getElem hb1]
  simp only [Option.getD_some]
  exact le_lt h2 (nlt_le h1 (fun e => hne (tl_inj e.symm)))
theorem bl_tl (b : ByteArray) : bl b = b.toList := by rw [Go.Lib.toList_data]; rfl
theorem sortB_sorted (l : List ByteArray) : (sortB l).Pairwise leB := by
  unfold sortB
  rw [List.pairwise_map]
  have h := List.pairwise_mergeSort (le := fun x y : List UInt8 => decide (x ≤ y)) (fun a b c h1 h2 => by
    rw [decide_eq_true_iff] at *; exact List.le_trans h1 h2) (fun a b => by
    rw [Bool.or_eq_true, decide_eq_true_iff, decide_eq_true_iff]; exact List.le_total a b) (l.map bl)
  refine List.Pairwise.imp_of_mem (fun {x y} hx hy hxy => ?_) h
  have hx := List.mem_mergeSort.1 hx
  have hy := List.mem_mergeSort.1 hy
  obtain ⟨x, -, rfl⟩ := List.mem_map.1 hx
  obtain ⟨y, -, rfl⟩ := List.mem_map.1 hy
  rw [lb_bl, lb_bl]
  unfold leB
  rw [← bl_tl, ← bl_tl]
  exact List.not_lt.2 (by simpa using hxy)
theorem sortB_mem (l : List ByteArray) (x : ByteArray) : x ∈ sortB l ↔ x ∈ l := by
  unfold sortB
  rw [List.mem_map]
  constructor
  · rintro ⟨y, hy, rfl⟩
    obtain ⟨z, hz, rfl⟩ := List.mem_map.1 (List.mem_mergeSort.1 hy)
    rw [lb_bl]; exact hz
  · intro h
    exact ⟨bl x, List.mem_mergeSort.2 (List.mem_map.2 ⟨x, h, rfl⟩), lb_bl x⟩
theorem ext_sortedB : ∀ {l n : List ByteArray}, l.Pairwise ltB → n.Pairwise ltB → (∀ x, x ∈ n ↔ x ∈ l) → n = l := by
  intro l
  induction l with
  | nil =>
    intro n _ _ h
    cases n with
    | nil => rfl
    | cons y t => exact absurd ((h y).1 List.mem_cons_self) (by simp)
  | cons x s ih =>
    intro n a b h
    cases n with
    | nil => exact absurd ((h x).2 List.mem_cons_self) (by simp)
    | cons y t =>
      rw [List.pairwise_cons] at a b
      have e : y = x := by
        rcases List.mem_cons.1 ((h y).1 List.mem_cons_self) with q | q
        · exact q
        · rcases List.mem_cons.1 ((h x).2 List.mem_cons_self) with q2 | q2
          · exact q2.symm
          · exact absurd (lt_tr (a.1 y q) (b.1 x q2)) (fun q => lt_irr q)
      subst e
      rw [ih a.2 b.2 fun z => ?_]
      constructor
      · intro q
        rcases List.mem_cons.1 ((h z).1 (List.mem_cons_of_mem _ q)) with r | r
        · subst r; exact absurd (b.1 z q) (fun q => lt_irr q)
        · exact r
      · intro q
        rcases List.mem_cons.1 ((h z).2 (List.mem_cons_of_mem _ q)) with r | r
        · subst r; exact absurd (a.1 z q) (fun q => lt_irr q)
        · exact r
/-- Both are gone through side by side. -/
def mrg : List S42 → List S42 → List ByteArray
  | [], ys => ys.map (·.f0)
  | xs, [] => xs.map (·.f0)
  | x :: xs, y :: ys => if x.f0.toList < y.f0.toList then x.f0 :: mrg xs (y :: ys) else if y.f0.toList < x.f0.toList then y.f0 :: mrg (x :: xs) ys else if x.f1.toList = y.f1.toList then mrg xs ys else x.f0 :: mrg xs ys
  termination_by xs ys => xs.length + ys.length
def KP (l : List S42) : Prop := l.Pairwise fun x y => x.f0.toList < y.f0.toList
theorem mrg_bound (P : ByteArray → Prop) : ∀ (n : Nat) (xs ys : List S42), xs.length + ys.length = n → (∀ c ∈ xs, P c.f0) → (∀ c ∈ ys, P c.f0) → ∀ a ∈ mrg xs ys, P a := by
  intro n
  induction n using Nat.strongRecOn with
  | _ n ih =>
    intro xs ys hn hx hy a ha
    match xs, ys with
    | [], ys =>
      rw [mrg] at ha
      obtain ⟨c, hc, rfl⟩ := List.mem_map.1 ha
      exact hy c hc
    | x :: xs, [] =>
      rw [mrg] at ha
      · obtain ⟨c, hc, rfl⟩ := List.mem_map.1 ha
        exact hx c hc
      · exact fun e => by cases e
    | x :: xs, y :: ys =>
      simp only [List.length_cons] at hn
      have hx' : ∀ c ∈ xs, P c.f0 := fun c hc => hx c (List.mem_cons_of_mem _ hc)
      have hy' : ∀ c ∈ ys, P c.f0 := fun c hc => hy c (List.mem_cons_of_mem _ hc)
      rw [mrg] at ha
      split at ha
      · rcases List.mem_cons.1 ha with rfl | ha
        · exact hx x List.mem_cons_self
        · exact ih _ (by simp only [List.length_cons]; omega) xs (y :: ys) rfl hx' hy a ha
      · split at ha
        · rcases List.mem_cons.1 ha with rfl | ha
          · exact hy y List.mem_cons_self
          · exact ih _ (by simp only [List.length_cons]; omega) (x :: xs) ys rfl hx hy' a ha
        · split at ha
          · exact ih _ (by omega) xs ys rfl hx' hy' a ha
          · rcases List.mem_cons.1 ha with rfl | ha
            · exact hx x List.mem_cons_self
            · exact ih _ (by omega) xs ys rfl hx' hy' a ha
theorem look_none_lt {xs : List S42} {a : ByteArray} (h : ∀ c ∈ xs, a.toList < c.f0.toList) : look xs a = none := by
  unfold look
  rw [List.find?_eq_none.2]
  · rfl
  · intro c hc q
    have r := h c hc
    rw [beq_iff_eq.1 q] at r
    exact lt_irr r
theorem mem_look {xs : List S42} {a : ByteArray} : a ∈ xs.map (·.f0) ↔ look xs a ≠ none := by
  unfold look
  rw [Ne, Option.map_eq_none_iff, List.find?_eq_none]
  constructor
  · intro h q
    obtain ⟨c, hc, rfl⟩ := List.mem_map.1 h
    exact q c hc (by simp)
  · intro h
    refine Classical.byContradiction fun q => h fun c hc r => q ?_
    rw [← tl_inj (beq_iff_eq.1 r)]
    exact List.mem_map.2 ⟨c, hc, rfl⟩
theorem mrg_spec : ∀ (n : Nat) (xs ys : List S42), xs.length + ys.length = n → KP xs → KP ys → (mrg xs ys).Pairwise ltB ∧ ∀ a, a ∈ mrg xs ys ↔ look xs a ≠ look ys a := by
  intro n
  induction n using Nat.strongRecOn with
  | _ n ih =>
    intro xs ys hn hx hy
    match xs, ys with
    | [], ys =>
      rw [mrg]
      refine ⟨List.pairwise_map.2 hy, fun a => ?_⟩
      rw [mem_look]
      exact ⟨fun q e => q (by rw [← e]; rfl), fun q e => q (by rw [e]; rfl)⟩
    | x :: xs, [] =>
      rw [mrg]
      · refine ⟨List.pairwise_map.2 hx, fun a => ?_⟩
        rw [mem_look]
        exact Iff.rfl
      · exact fun e => by cases e
    | x :: xs, y :: ys =>
      simp only [List.length_cons] at hn
      have hx1 := (List.pairwise_cons.1 hx).1
      have hx2 : KP xs := (List.pairwise_cons.1 hx).2
      have hy1 := (List.pairwise_cons.1 hy).1
      have hy2 : KP ys := (List.pairwise_cons.1 hy).2
      rw [mrg]
      split
      · rename_i h
        obtain ⟨q1, q2⟩ := ih _ (by simp only [List.length_cons]; omega) xs (y :: ys) rfl hx2 hy
        have hb : ∀ c ∈ y :: ys, x.f0.toList < c.f0.toList := fun c hc => by
          rcases List.mem_cons.1 hc with rfl | hc
          · exact h
          · exact lt_tr h (hy1 c hc)
        refine ⟨List.pairwise_cons.2 ⟨fun a ha => mrg_bound (fun a => ltB x.f0 a) _ xs (y :: ys) rfl hx1 hb a ha, q1⟩, fun a => ?_⟩
        rw [List.mem_cons, q2, look_cons x]
        by_cases e : x.f0 = a
        · subst e
          rw [if_pos rfl, look_none_lt hb]
          simp
        · rw [if_neg e]
          exact ⟨fun q => q.elim (fun q => absurd q.symm e) id, .inr⟩
      · rename_i h
        split
        · rename_i h2
          obtain ⟨q1, q2⟩ := ih _ (by simp only [List.length_cons]; omega) (x :: xs) ys rfl hx hy2
          have hb : ∀ c ∈ x :: xs, y.f0.toList < c.f0.toList := fun c hc => by
            rcases List.mem_cons.1 hc with rfl | hc
            · exact h2
            · exact lt_tr h2 (hx1 c hc)
          refine ⟨List.pairwise_cons.2 ⟨fun a ha => mrg_bound (fun a => ltB y.f0 a) _ (x :: xs) ys rfl hb hy1 a ha, q1⟩, fun a => ?_⟩
          rw [List.mem_cons, q2, look_cons y]
          by_cases e : y.f0 = a
          · subst e
            rw [if_pos rfl, look_none_lt hb]
            simp
          · rw [if_neg e]
            exact ⟨fun q => q.elim (fun q => absurd q.symm e) id, .inr⟩
        · rename_i h2
          have e : x.f0 = y.f0 := by
            refine tl_inj ?_
            by_cases q : x.f0.toList = y.f0.toList
            · exact q
            · exact absurd (nlt_le h2 q) h
          obtain ⟨q1, q2⟩ := ih _ (by omega) xs ys rfl hx2 hy2
          have hb : ∀ c ∈ ys, x.f0.toList < c.f0.toList := fun c hc => by rw [e]; exact hy1 c hc
          split
          · rename_i h3
            refine ⟨q1, fun a => ?_⟩
            rw [q2, look_cons x, look_cons y, ← e]
            by_cases r : x.f0 = a
            · subst r
              rw [if_pos rfl, if_pos rfl, look_none_lt hx1, look_none_lt hb, tl_inj h3]
              simp
            · rw [if_neg r, if_neg r]
          · rename_i h3
            refine ⟨List.pairwise_cons.2 ⟨fun a ha => mrg_bound (fun a => ltB x.f0 a) _ xs ys rfl hx1 hb a ha, q1⟩, fun a => ?_⟩
            rw [List.mem_cons, q2, look_cons x, look_cons y, ← e]
            by_cases r : x.f0 = a
            · subst r
              rw [if_pos rfl, if_pos rfl]
              exact ⟨fun _ q => h3 (by rw [Option.some.inj q]), fun _ => .inl rfl⟩
            · rw [if_neg r, if_neg r]
              exact ⟨fun q => q.elim (fun q => absurd q.symm r) id, .inr⟩
theorem drop_nil {l : List S42} {i : Nat} (h : ¬ i < l.length) : l.drop i = [] := List.drop_eq_nil_of_le (by omega)
theorem mrg_nil (xs : List S42) : mrg xs [] = xs.map (·.f0) := by
  cases xs
  · rw [mrg]
  · rw [mrg]; exact fun e => by cases e
theorem rdiff_l0 (l m : List S42) (hl : l.length < 1000000000000) (hm : m.length < 1000000000000) : ∀ (d k i j : Nat) (acc : List ByteArray), (l.length - i) + (m.length - j) = d → i ≤ l.length → j ≤ m.length → 4 * d + 4 < k → acc.length + d < 8000000000000 →
    lockkeeperref30_Diff.l0 k l m acc (i : Int) (j : Int) = some (acc ++ mrg (l.drop i) (m.drop j)) := by
  intro d
  induction d using Nat.strongRecOn with
  | _ d ih =>
    intro k i j acc hd hi hj hk ha
    obtain ⟨k, rfl⟩ : ∃ q, k = q + 4 := ⟨k - 4, by omega⟩
    have hx : ∀ (hlt : i < l.length), lockkeeperref30_Diff.l0 k l m (acc ++ [(rd_T42 l (i : Int)).f0]) (wrap64 ((i : Int) + 1)) (j : Int) = some (acc ++ (rd_T42 l (i : Int)).f0 :: mrg (l.drop (i + 1)) (m.drop j)) := fun hlt => by
      rw [w1 hlt (by omega), ih (d - 1) (by omega) k (i + 1) j _ (by omega) (by omega) hj (by omega) (by rw [List.length_append, List.length_singleton]; omega), List.append_assoc]
      rfl
    have hy : ∀ (hlt : j < m.length), lockkeeperref30_Diff.l0 k l m (acc ++ [(rd_T42 m (j : Int)).f0]) (i : Int) (wrap64 ((j : Int) + 1)) = some (acc ++ (rd_T42 m (j : Int)).f0 :: mrg (l.drop i) (m.drop (j + 1))) := fun hlt => by
      rw [w1 hlt (by omega), ih (d - 1) (by omega) k i (j + 1) _ (by omega) hi (by omega) (by omega) (by rw [List.length_append, List.length_singleton]; omega), List.append_assoc]
      rfl
    rw [show k + 4 = (k + 3) + 1 from rfl, lockkeeperref30_Diff.l0]
    by_cases h1 : i < l.length
    · rw [if_pos (by omega), show k + 3 = (k + 2) + 1 from rfl, lockkeeperref30_Diff.j2, if_pos rfl]
      by_cases h2 : j < m.length
      · rw [if_neg (by omega), if_pos (by omega), if_pos (by omega), if_pos (by omega), if_pos (by omega), show k + 2 = (k + 1) + 1 from rfl, lockkeeperref30_Diff.j3, drop_step h1, drop_step h2, mrg]
        by_cases h3 : (rd_T42 l (i : Int)).f0.toList < (rd_T42 m (j : Int)).f0.toList
        · rw [if_pos ((lss_iff _ _).2 h3), if_pos (by omega), if_pos (by omega), if_pos (by omega), if_pos h3, ← drop_step h2]
          have q : ∀ k', k' = k + 1 → lockkeeperref30_Diff.l0 k' l m (acc ++ [(rd_T42 l (i : Int)).f0]) (wrap64 ((i : Int) + 1)) (j : Int) = some (acc ++ (rd_T42 l (i : Int)).f0 :: mrg (l.drop (i + 1)) (m.drop j)) := fun k' e => by
            rw [e, w1 h1 (by omega), ih (d - 1) (by omega) (k + 1) (i + 1) j _ (by omega) (by omega) hj (by omega) (by rw [List.length_append, List.length_singleton]; omega), List.append_assoc]
            rfl
          exact q _ rfl
        · rw [if_neg (fun q => h3 ((lss_iff _ _).1 q)), if_neg (by omega), if_pos (by omega), if_pos (by omega), if_pos (by omega), if_pos (by omega), if_neg h3, lockkeeperref30_Diff.j4]
          by_cases h4 : (rd_T42 m (j : Int)).f0.toList < (rd_T42 l (i : Int)).f0.toList
          · rw [if_pos ((lss_iff _ _).2 h4), if_pos (by omega), if_pos (by omega), if_pos (by omega), if_pos h4, ← drop_step h1]
            exact hy h2
          · rw [if_neg (fun q => h4 ((lss_iff _ _).1 q)), if_pos (by omega), if_pos (by omega), if_pos (by omega), if_pos (by omega), if_neg h4]
            by_cases h5 : (rd_T42 l (i : Int)).f1.toList = (rd_T42 m (j : Int)).f1.toList
            · rw [if_pos h5, if_pos h5, w1 h1 (by omega), w1 h2 (by omega)]
              exact ih (d - 2) (by omega) k (i + 1) (j + 1) acc (by omega) (by omega) (by omega) (by omega) (by omega)
            · rw [if_neg h5, if_neg h5, if_pos (by omega), w1 h1 (by omega), w1 h2 (by omega), ih (d - 2) (by omega) k (i + 1) (j + 1) _ (by omega) (by omega) (by omega) (by omega) (by rw [List.length_append, List.length_singleton]; omega), List.append_assoc]
              rfl
      · rw [if_pos (by omega), show k + 2 = (k + 1) + 1 from rfl, lockkeeperref30_Diff.j3, if_pos rfl, if_pos (by omega), if_pos (by omega), if_pos (by omega), w1 h1 (by omega), ih (d - 1) (by omega) (k + 1) (i + 1) j _ (by omega) (by omega) hj (by omega) (by rw [List.length_append, List.length_singleton]; omega), List.append_assoc, drop_nil h2, mrg_nil, mrg_nil, drop_step h1]
        rfl
    · rw [if_neg (by omega), show k + 3 = (k + 2) + 1 from rfl, lockkeeperref30_Diff.j2]
      by_cases h2 : j < m.length
      · rw [decide_eq_true (by omega), if_pos rfl, if_neg (by omega), if_neg (by omega), show k + 2 = (k + 1) + 1 from rfl, lockkeeperref30_Diff.j3, if_neg (by simp), if_pos (by omega), lockkeeperref30_Diff.j4, if_pos rfl, if_pos (by omega), if_pos (by omega), if_pos (by omega), hy h2, drop_nil h1, mrg, mrg, drop_step h2]
        rfl
      · rw [decide_eq_false (by omega), if_neg (by simp), drop_nil h1, drop_nil h2, mrg]
        simp
theorem diff_same_ref (l m : List S42) (k : Nat) (hl : l.length < 1000000000) (hm : m.length < 1000000000) (hk : 4 * (l.length + m.length) + 20 < k) :
    ∃ d, model_Diff.f k l m = some d ∧ lockkeeperref30_Diff.f k l m = some d ∧ d.length ≤ l.length + m.length := by
  obtain ⟨b, hb, hbi⟩ := cright_eq l k (by omega) (by omega)
  obtain ⟨r, hr, hri⟩ := rright_eq l k (by omega) (by omega)
  have hbr : b = r := Bool.eq_iff_iff.2 (hbi.trans hri.symm)
  obtain ⟨b', hb', hbi'⟩ := cright_eq m k (by omega) (by omega)
  obtain ⟨r', hr', hri'⟩ := rright_eq m k (by omega) (by omega)
  have hbr' : b' = r' := Bool.eq_iff_iff.2 (hbi'.trans hri'.symm)
  subst hbr hbr'
  obtain ⟨k, rfl⟩ : ∃ j, k = j + 1 := ⟨k - 1, by omega⟩
  cases b
  · refine ⟨[], ?_, ?_, by simp⟩
    · unfold model_Diff.f
      rw [hb]; rfl
    · unfold lockkeeperref30_Diff.f
      rw [hr, Option.bind_some, if_neg (by simp), lockkeeperref30_Diff.j0, if_pos rfl]
  cases b'
  · refine ⟨[], ?_, ?_, by simp⟩
    · unfold model_Diff.f
      rw [hb, Option.bind_some, if_pos rfl, hb']; rfl
    · unfold lockkeeperref30_Diff.f
      rw [hr, Option.bind_some, if_pos rfl, hr', Option.bind_some, lockkeeperref30_Diff.j0]; rfl
  have h := hbi.1 rfl
  have h' := hbi'.1 rfl
  have e := rdiff_l0 l m (by omega) (by omega) (l.length + m.length) k 0 0 [] (by omega) (by omega) (by omega) (by omega) (by simp only [List.length_nil]; omega)
  rw [List.drop_zero, List.drop_zero, List.nil_append] at e
  obtain ⟨q1, q2⟩ := mrg_spec _ l m rfl (rightP_iff.1 h).2 (rightP_iff.1 h').2
  have hlen : ∀ (n : Nat) (xs ys : List S42), xs.length + ys.length = n → (mrg xs ys).length ≤ xs.length + ys.length := by
    intro n
    induction n using Nat.strongRecOn with
    | _ n ih =>
      intro xs ys hn
      match xs, ys with
      | [], ys => rw [mrg, List.length_map]; simp
      | x :: xs, [] => rw [mrg_nil, List.length_map]; simp
      | x :: xs, y :: ys =>
        simp only [List.length_cons] at hn
        have a1 := ih _ (by simp only [List.length_cons]; omega) xs (y :: ys) rfl
        have a2 := ih _ (by simp only [List.length_cons]; omega) (x :: xs) ys rfl
        have a3 := ih _ (by omega) xs ys rfl
        simp only [List.length_cons] at a1 a2
        rw [mrg]
        split
        · simp only [List.length_cons]; omega
        · split
          · simp only [List.length_cons]; omega
          · split
            · simp only [List.length_cons]; omega
            · simp only [List.length_cons]; omega
  refine ⟨mrg l m, ?_, ?_, hlen _ l m rfl⟩
  · rw [diff_eq h h' (k + 1) (by omega) (by omega) (by omega) (by omega)]
    refine congrArg some (ext_sortedB q1 (compact_sortedB (sortB_sorted _)) fun x => ?_)
    rw [compact_memB, sortB_mem, q2]
    constructor
    · intro hx
      obtain ⟨c, hc, rfl⟩ := List.mem_map.1 hx
      exact of_decide_eq_true (List.mem_filter.1 hc).2
    · intro hne
      obtain ⟨c, hc, hcx⟩ : ∃ c, c ∈ l ++ m ∧ c.f0 = x := by
        cases q : look l x with
        | some v =>
          obtain ⟨c, h1, h2, _⟩ := (look_iff h x v).1 q
          exact ⟨c, List.mem_append.2 (.inl h1), h2⟩
        | none =>
          cases q2 : look m x with
          | some v =>
            obtain ⟨c, h1, h2, _⟩ := (look_iff h' x v).1 q2
            exact ⟨c, List.mem_append.2 (.inr h1), h2⟩
          | none => exact absurd (q.trans q2.symm) hne
      exact List.mem_map.2 ⟨c, List.mem_filter.2 ⟨hc, by rw [hcx]; exact decide_eq_true hne⟩, hcx⟩
  · unfold lockkeeperref30_Diff.f
    rw [hr, Option.bind_some, if_pos rfl, hr', Option.bind_some, lockkeeperref30_Diff.j0, if_neg (by simp)]
    exact e
end Go.Proofs.Ytoggblomknemoaa.Pure
