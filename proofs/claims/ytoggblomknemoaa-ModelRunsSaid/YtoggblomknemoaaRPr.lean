/- Plain words of the document's Do: it tells what the model tells. -/
import Derived.Test.YtoggblomknemoaaRPh
namespace Go.Proofs.Ytoggblomknemoaa.Pure
open Go.Sort Go.RowKit Go.Proofs.Ytoggblomknemoaa.R Go.Proofs.YtoggblomknemoaaW.PrintWords Go.Proofs.YtoggblomknemoaaW.PrintLast
set_option linter.unusedVariables false
set_option linter.unusedSimpArgs false
theorem drop_step {l : List S42} {i : Nat} (h : i < l.length) : l.drop i = rd_T42 l (i : Int) :: l.drop (i + 1) := by
  rw [List.drop_eq_getElem_cons h, rd_get h]
theorem w1 {i n : Nat} (h : i < n) (hn : n < 4611686018427387904) : wrap64 ((i : Int) + 1) = ((i + 1 : Nat) : Int) := by rw [w64 (by omega) (by omega)]; omega
def below (key : ByteArray) (c : S42) : Bool := Op.bytesLess c.f0.toList key.toList
def above (key : ByteArray) (c : S42) : Bool := Op.bytesLess key.toList c.f0.toList
theorem rput_l1 (l : List S42) (hn : l.length < 2000000000000) (key val : ByteArray) : ∀ (d k i : Nat) (acc : List S42), l.length - i = d → i ≤ l.length → d < k → acc.length + d < 4398046511104 → lockkeeperref10_Put.l1 k l acc (i : Int) key val = some (acc ++ (l.drop i).filter (above key), 0)
  | 0, k + 1, i, acc, hd, hi, hk, ha => by
    unfold lockkeeperref10_Put.l1
    rw [if_neg (by omega), List.drop_eq_nil_of_le (by omega), List.filter_nil, List.append_nil]
  | d + 1, k + 1, i, acc, hd, hi, hk, ha => by
    have hlt : i < l.length := by omega
    unfold lockkeeperref10_Put.l1
    rw [if_pos (by omega), if_pos (by omega), w1 hlt (by omega), drop_step hlt]
    by_cases q : Op.bytesLess key.toList (rd_T42 l (i : Int)).f0.toList = true
    · rw [if_pos q, if_pos (by omega), rput_l1 l hn key val d k (i + 1) _ (by omega) (by omega) (by omega) (by rw [List.length_append, List.length_singleton]; omega), List.filter_cons_of_pos (show above key _ = true from q), List.append_assoc]
      rfl
    · rw [if_neg q, rput_l1 l hn key val d k (i + 1) _ (by omega) (by omega) (by omega) (by omega), List.filter_cons_of_neg (show ¬ above key _ = true from q)]
theorem rput_l0 (l : List S42) (hn : l.length < 2000000000000) (key val : ByteArray) : ∀ (d k i : Nat) (acc : List S42), l.length - i = d → i ≤ l.length → d + l.length + 1 < k → acc.length + d ≤ l.length → lockkeeperref10_Put.l0 k l acc (i : Int) key val = some (acc ++ (l.drop i).filter (below key) ++ [⟨key, val⟩] ++ l.filter (above key), 0)
  | 0, k + 1, i, acc, hd, hi, hk, ha => by
    unfold lockkeeperref10_Put.l0
    rw [if_neg (by omega), if_pos (by omega), List.drop_eq_nil_of_le (by omega), List.filter_nil, List.append_nil]
    have e := rput_l1 l hn key val l.length k 0 (acc ++ [⟨key, val⟩]) (by omega) (by omega) (by omega) (by rw [List.length_append, List.length_singleton]; omega)
    rw [List.drop_zero] at e
    exact e
  | d + 1, k + 1, i, acc, hd, hi, hk, ha => by
    have hlt : i < l.length := by omega
    unfold lockkeeperref10_Put.l0
    rw [if_pos (by omega), if_pos (by omega), w1 hlt (by omega), drop_step hlt]
    by_cases q : Op.bytesLess (rd_T42 l (i : Int)).f0.toList key.toList = true
    · rw [if_pos q, if_pos (by omega), rput_l0 l hn key val d k (i + 1) _ (by omega) (by omega) (by omega) (by rw [List.length_append, List.length_singleton]; omega), List.filter_cons_of_pos (show below key _ = true from q)]
      simp only [List.append_assoc, List.cons_append, List.nil_append]
    · rw [if_neg q, rput_l0 l hn key val d k (i + 1) _ (by omega) (by omega) (by omega) (by omega), List.filter_cons_of_neg (show ¬ below key _ = true from q)]
theorem mid_right {l : List S42} (h : RightP l) {key val : ByteArray} (hf : fits ⟨key, val⟩) : RightP (l.filter (below key) ++ [⟨key, val⟩] ++ l.filter (above key)) ∧ ∀ x, x ∈ l.filter (below key) ++ [⟨key, val⟩] ++ l.filter (above key) ↔ x = ⟨key, val⟩ ∨ (x ∈ l ∧ x.f0 ≠ key) := by
  obtain ⟨q1, q2⟩ := rightP_iff.1 h
  refine ⟨rightP_iff.2 ⟨fun x hx => ?_, ?_⟩, fun x => ?_⟩
  · simp only [List.mem_append, List.mem_singleton, List.mem_filter] at hx
    rcases hx with (hx | rfl) | hx
    · exact q1 x hx.1
    · exact hf
    · exact q1 x hx.1
  · rw [List.append_assoc, List.pairwise_append]
    refine ⟨q2.sublist List.filter_sublist, ?_, fun x hx y hy => ?_⟩
    · rw [List.singleton_append, List.pairwise_cons]
      exact ⟨fun y hy => (lss_iff _ _).1 (List.mem_filter.1 hy).2, q2.sublist List.filter_sublist⟩
    · have r := (lss_iff _ _).1 (List.mem_filter.1 hx).2
      rw [List.singleton_append, List.mem_cons] at hy
      rcases hy with rfl | hy
      · exact r
      · exact lt_tr r ((lss_iff _ _).1 (List.mem_filter.1 hy).2)
  · simp only [List.mem_append, List.mem_singleton, List.mem_filter]
    constructor
    · rintro ((q | q) | q)
      · refine .inr ⟨q.1, fun e => ?_⟩
        have r := (lss_iff _ _).1 q.2
        rw [e] at r; exact lt_irr r
      · exact .inl q
      · refine .inr ⟨q.1, fun e => ?_⟩
        have r := (lss_iff _ _).1 q.2
        rw [e] at r; exact lt_irr r
    · rintro (q | ⟨q, q2⟩)
      · exact .inl (.inr q)
      · by_cases r : x.f0.toList < key.toList
        · exact .inl (.inl ⟨q, (lss_iff _ _).2 r⟩)
        · exact .inr ⟨q, (lss_iff _ _).2 (nlt_le r (fun e => q2 (tl_inj e.symm)))⟩
theorem rput_eq {l : List S42} (h : RightP l) (k : Nat) (hn : l.length < 2000000000000) (hk : 2 * l.length + 3 < k) (key val : ByteArray) (hf : fits ⟨key, val⟩) :
    ∃ n, lockkeeperref10_Put.f k l key val = some (n, 0) ∧ RightP n ∧ ∀ x, x ∈ n ↔ x = ⟨key, val⟩ ∨ (x ∈ l ∧ x.f0 ≠ key) := by
  obtain ⟨k, rfl⟩ : ∃ j, k = j + 1 := ⟨k - 1, by omega⟩
  have hfit : lockkeeperref10_fits.f key val = some true := by
    unfold lockkeeperref10_fits.f
    rw [if_pos (by have := hf.1; simp only at this; omega), decide_eq_true (by have := hf.2; simp only at this; omega)]
  unfold lockkeeperref10_Put.f
  rw [rright_yes h (k + 1) (by omega) (by omega), Option.bind_some, if_pos rfl, hfit, Option.bind_some, Bool.not_true, lockkeeperref10_Put.j0, if_neg (by simp)]
  have e := rput_l0 l hn key val l.length k 0 [] (by omega) (by omega) (by omega) (by simp)
  rw [List.drop_zero, List.nil_append] at e
  exact ⟨_, e, mid_right h hf⟩
theorem rdel_l0 (l : List S42) (hn : l.length < 2000000000000) (key : ByteArray) : ∀ (d k i : Nat) (acc : List S42), l.length - i = d → i ≤ l.length → d < k → acc.length + d < 4398046511104 → lockkeeperref10_Delete.l0 k l key acc (i : Int) = some (acc ++ (l.drop i).filter (fun y => !(y.f0.toList == key.toList)), 0)
  | 0, k + 1, i, acc, hd, hi, hk, ha => by
    unfold lockkeeperref10_Delete.l0
    rw [if_neg (by omega), List.drop_eq_nil_of_le (by omega), List.filter_nil, List.append_nil]
  | d + 1, k + 1, i, acc, hd, hi, hk, ha => by
    have hlt : i < l.length := by omega
    unfold lockkeeperref10_Delete.l0
    rw [if_pos (by omega), if_pos (by omega), w1 hlt (by omega), drop_step hlt]
    by_cases q : (rd_T42 l (i : Int)).f0.toList = key.toList
    · rw [if_pos q, rdel_l0 l hn key d k (i + 1) _ (by omega) (by omega) (by omega) (by omega), List.filter_cons_of_neg (by simp [q])]
    · rw [if_neg q, if_pos (by omega), rdel_l0 l hn key d k (i + 1) _ (by omega) (by omega) (by omega) (by rw [List.length_append, List.length_singleton]; omega), List.filter_cons_of_pos (by simpa using q), List.append_assoc]
      rfl
theorem rdel_eq {l : List S42} (h : RightP l) (k : Nat) (hn : l.length < 2000000000000) (hk : l.length < k) (key : ByteArray) :
    ∃ n, lockkeeperref10_Delete.f k l key = some (n, 0) ∧ RightP n ∧ ∀ x, x ∈ n ↔ x ∈ l ∧ x.f0 ≠ key := by
  unfold lockkeeperref10_Delete.f
  rw [rright_yes h k (by omega) hk, Option.bind_some, if_pos rfl]
  have e := rdel_l0 l hn key l.length k 0 [] (by omega) (by omega) hk (by simp only [List.length_nil]; omega)
  rw [List.drop_zero, List.nil_append] at e
  refine ⟨_, e, filter_right h _, fun x => ?_⟩
  rw [List.mem_filter]
  refine and_congr_right fun _ => ?_
  rw [Bool.not_eq_true', beq_eq_false_iff_ne]
  exact ⟨fun q e => q (by rw [e]), fun q e => q (tl_inj e)⟩
theorem rspan_eq (k : Nat) (hk : 1 < k) (fr tt : ByteArray) (en : Bool) : lockkeeperref03_Right.f k fr tt en = some (spanB fr tt en) := by
  obtain ⟨k, rfl⟩ : ∃ j, k = j + 2 := ⟨k - 2, by omega⟩
  unfold lockkeeperref03_Right.f spanB
  by_cases h1 : (fr.size : Int) > 513
  · rw [if_pos h1, decide_eq_false (show ¬ fr.size ≤ 513 by omega), lockkeeperref03_Right.j0, if_pos rfl]; rfl
  rw [if_neg h1, decide_eq_true (show fr.size ≤ 513 by omega), Bool.true_and]
  by_cases h2 : (tt.size : Int) > 513
  · rw [decide_eq_true h2, decide_eq_false (show ¬ tt.size ≤ 513 by omega), lockkeeperref03_Right.j0, if_pos rfl]; rfl
  rw [decide_eq_false h2, decide_eq_true (show tt.size ≤ 513 by omega), Bool.true_and, lockkeeperref03_Right.j0, if_neg (by simp)]
  cases en
  · rw [if_neg (by simp), if_neg (by simp)]
    exact congrArg some (by rw [Bool.eq_iff_iff]; simp)
  · rw [if_pos rfl, if_pos rfl]
theorem rhas_eq (k : Nat) (hk : 1 < k) (fr tt : ByteArray) (en : Bool) (x : ByteArray) : lockkeeperref03_Has.f k fr tt en x = some (spanB fr tt en && inside fr tt en x) := by
  unfold lockkeeperref03_Has.f
  rw [rspan_eq k hk, Option.bind_some]
  cases spanB fr tt en
  · rw [if_neg (by simp)]; rfl
  · rw [if_pos rfl, Bool.true_and]
    unfold inside
    cases Op.bytesLess x.toList fr.toList <;> cases en <;> simp
theorem rscan_l1 (l x7 : List S42) (hn : l.length < 2000000000000) (key val fr tt : ByteArray) (en : Bool) (mo : Int) (hmo : 1 ≤ mo) (hs : spanB fr tt en = true) (wh r0 r1 r2 r3 : Int) (v : ByteArray) : ∀ (d k i : Nat) (is : Bool) (acc : List S42), l.length - i = d → i ≤ l.length → d + 2 < k → acc.length + d ≤ l.length → (acc.length : Int) ≤ mo → (is = true → (acc.length : Int) = mo) →
    lockkeeperref30_Do.l1 k l x7 (i : Int) wh key val fr tt en mo r0 r1 r2 r3 is v acc = some (x7, r0, r1, r2, r3, is || decide (mo < ((acc.length + ((l.drop i).filter (fun y => inside fr tt en y.f0)).length : Nat) : Int)), v, acc ++ ((l.drop i).filter (fun y => inside fr tt en y.f0)).take (mo.toNat - acc.length))
  | 0, k + 1, i, is, acc, hd, hi, hk, ha, hm, his => by
    unfold lockkeeperref30_Do.l1
    rw [if_neg (by omega), List.drop_eq_nil_of_le (by omega), List.filter_nil, List.take_nil, List.append_nil, List.length_nil, decide_eq_false (by omega), Bool.or_false]
  | d + 1, k + 1, i, is, acc, hd, hi, hk, ha, hm, his => by
    have hlt : i < l.length := by omega
    unfold lockkeeperref30_Do.l1
    rw [if_pos (by omega), if_pos (by omega), rhas_eq k (by omega), Option.bind_some, hs, Bool.true_and, w1 hlt (by omega), drop_step hlt]
    by_cases q : inside fr tt en (rd_T42 l (i : Int)).f0 = true
    · rw [if_pos q, show List.filter (fun y => inside fr tt en y.f0) (rd_T42 l (i : Int) :: List.drop (i + 1) l) = rd_T42 l (i : Int) :: List.filter (fun y => inside fr tt en y.f0) (List.drop (i + 1) l) from List.filter_cons_of_pos q]
      by_cases q2 : (acc.length : Int) = mo
      · rw [if_pos q2, rscan_l1 l x7 hn key val fr tt en mo hmo hs wh r0 r1 r2 r3 v d k (i + 1) true acc (by omega) (by omega) (by omega) (by omega) hm (fun _ => q2)]
        rw [show mo.toNat - acc.length = 0 by omega, List.take_zero, List.take_zero, Bool.true_or, decide_eq_true (by rw [List.length_cons]; omega), Bool.or_true]
      · have hf : is = false := by cases is; rfl; exact absurd (his rfl) q2
        subst hf
        rw [if_neg q2, if_pos (by omega), rscan_l1 l x7 hn key val fr tt en mo hmo hs wh r0 r1 r2 r3 v d k (i + 1) false _ (by omega) (by omega) (by omega) (by rw [List.length_append, List.length_singleton]; omega) (by rw [List.length_append, List.length_singleton]; omega) (fun q => by cases q)]
        rw [List.length_append, List.length_singleton, List.length_cons, show mo.toNat - acc.length = (mo.toNat - (acc.length + 1)) + 1 by omega, List.take_succ_cons, List.append_assoc]
        rw [show acc.length + 1 + (List.filter (fun y => inside fr tt en y.f0) (List.drop (i + 1) l)).length = acc.length + ((List.filter (fun y => inside fr tt en y.f0) (List.drop (i + 1) l)).length + 1) by omega]
        rfl
    · rw [if_neg q, show List.filter (fun y => inside fr tt en y.f0) (rd_T42 l (i : Int) :: List.drop (i + 1) l) = List.filter (fun y => inside fr tt en y.f0) (List.drop (i + 1) l) from List.filter_cons_of_neg q]
      exact rscan_l1 l x7 hn key val fr tt en mo hmo hs wh r0 r1 r2 r3 v d k (i + 1) is acc (by omega) (by omega) (by omega) (by omega) hm his
/-- The index that the document's loop has found. -/
def Found (l : List S42) (key : ByteArray) (c : Int) (i : Nat) : Prop := (c = -1 ∧ ∀ t, t < i → (rd_T42 l (t : Int)).f0.toList ≠ key.toList) ∨ ∃ j : Nat, j < i ∧ c = (j : Int) ∧ (rd_T42 l (j : Int)).f0.toList = key.toList
theorem rdo_loop (l x7 : List S42) (hn : l.length < 2000000000000) (wh : Int) (key val fr tt : ByteArray) (en : Bool) (mo r0 r1 r2 r3 : Int) (is : Bool) (v : ByteArray) : ∀ (d k i : Nat) (c : Int), l.length - i = d → i ≤ l.length → d < k → Found l key c i →
    ∃ c' k', k ≤ k' + d ∧ lockkeeperref30_Do.l0 k l x7 c (i : Int) wh key val fr tt en mo r0 r1 r2 r3 is v = lockkeeperref30_Do.l0 k' l x7 c' (l.length : Int) wh key val fr tt en mo r0 r1 r2 r3 is v ∧ Found l key c' l.length
  | 0, k, i, c, hd, hi, hk, hc => by
    obtain rfl : i = l.length := by omega
    exact ⟨c, k, by omega, rfl, hc⟩
  | d + 1, k + 1, i, c, hd, hi, hk, hc => by
    have hlt : i < l.length := by omega
    by_cases q : (rd_T42 l (i : Int)).f0.toList = key.toList
    · obtain ⟨c', k', h1, h2, h3⟩ := rdo_loop l x7 hn wh key val fr tt en mo r0 r1 r2 r3 is v d k (i + 1) (i : Int) (by omega) (by omega) (by omega) (.inr ⟨i, by omega, rfl, q⟩)
      refine ⟨c', k', by omega, ?_, h3⟩
      rw [← h2]
      conv => lhs; unfold lockkeeperref30_Do.l0
      rw [if_pos (by omega), if_pos (by omega), if_pos q, w1 hlt (by omega)]
    · obtain ⟨c', k', h1, h2, h3⟩ := rdo_loop l x7 hn wh key val fr tt en mo r0 r1 r2 r3 is v d k (i + 1) c (by omega) (by omega) (by omega) (by
        rcases hc with ⟨h1, h2⟩ | ⟨j, h1, h2⟩
        · refine .inl ⟨h1, fun t ht => ?_⟩
          by_cases e : t = i
          · subst e; exact q
          · exact h2 t (by omega)
        · exact .inr ⟨j, by omega, h2⟩)
      refine ⟨c', k', by omega, ?_, h3⟩
      rw [← h2]
      conv => lhs; unfold lockkeeperref30_Do.l0
      rw [if_pos (by omega), if_pos (by omega), if_neg q, w1 hlt (by omega)]
theorem rdo_fin {l : List S42} (h : RightP l) (k : Nat) (hn : l.length < 1000000000000) (hk : 3 * l.length + 20 < k) (c : Int) (wh : Int) (key val fr tt : ByteArray) (en : Bool) (mo : Int) (hc : Found l key c l.length) (h6 : wh ≠ 6) (hm : (2 ≤ wh ∧ wh ≤ 5) → may key val = true) :
    ∃ n, lockkeeperref30_Do.l0 k l l c (l.length : Int) wh key val fr tt en mo 0 wh 0 0 false ⟨#[]⟩ = some (n, 0, wh, (step wh key val (look l key)).2.1, 0, (step wh key val (look l key)).2.2.1, (step wh key val (look l key)).2.2.2, []) ∧ RightP n ∧ look n key = (step wh key val (look l key)).1 ∧ ∀ a, a ≠ key → look n a = look l a := by
  obtain ⟨k, rfl⟩ : ∃ j, k = j + 2 := ⟨k - 2, by omega⟩
  have hg : (c ≥ 0 ∧ ∃ j : Nat, j < l.length ∧ c = (j : Int) ∧ (rd_T42 l (j : Int)).f0.toList = key.toList ∧ look l key = some (rd_T42 l (j : Int)).f1) ∨ (c = -1 ∧ look l key = none) := by
    rcases hc with ⟨h1, h2⟩ | ⟨j, h1, h2, h3⟩
    · exact .inr ⟨h1, look_no h2⟩
    · exact .inl ⟨by omega, j, h1, h2, h3, look_at h h1 h3⟩
  clear hc
  have hfit : (2 ≤ wh ∧ wh ≤ 5) → fits ⟨key, val⟩ := fun q => may_fits (by rw [hm q]; simp)
  unfold lockkeeperref30_Do.l0
  rw [if_neg (by omega)]
  have hst : step wh key val (look l key) = if wh = 2 then (look l key, 0, (look l key).isSome, (look l key).getD ⟨#[]⟩)
      else if wh = 3 then (if (look l key).isSome = true then (look l key, 8, false, ⟨#[]⟩) else (some val, 0, false, ⟨#[]⟩))
      else if wh = 4 then (if (look l key).isSome = true then (some val, 0, false, ⟨#[]⟩) else (look l key, 7, false, ⟨#[]⟩))
      else if wh = 5 then (if (look l key).isSome = true then (none, 0, false, ⟨#[]⟩) else (look l key, 7, false, ⟨#[]⟩))
      else (look l key, 2, false, ⟨#[]⟩) := by
    unfold step
    rw [if_neg (fun q => by rw [hm q.1] at q; exact absurd q.2 (by simp))]
  rw [hst]
  clear hst
  by_cases h2 : wh = 2
  · rw [if_pos h2, if_pos h2]
    rcases hg with ⟨g1, j, g2, g3, g4, g5⟩ | ⟨g1, g2⟩
    · subst g3
      rw [if_pos g1, if_pos g1, if_pos (by omega), g5]
      exact ⟨l, rfl, h, g5, fun _ _ => rfl⟩
    · rw [if_neg (by omega), g2]
      exact ⟨l, rfl, h, g2, fun _ _ => rfl⟩
  rw [if_neg h2, if_neg h2]
  by_cases h3 : wh = 3
  · rw [if_pos h3, if_pos h3]
    rcases hg with ⟨g1, j, g2, g3, g4, g5⟩ | ⟨g1, g2⟩
    · rw [if_pos g1, g5]
      exact ⟨l, rfl, h, g5, fun _ _ => rfl⟩
    · obtain ⟨n, e, q1, q2⟩ := rput_eq h (k + 1) (by omega) (by omega) key val (hfit (by omega))
      rw [if_neg (by omega), e, g2]
      exact ⟨n, rfl, q1, put_look h q1 q2⟩
  rw [if_neg h3, if_neg h3]
  by_cases h4 : wh = 4
  · subst h4
    rw [if_pos rfl, if_pos rfl, show ((4 : Int) == 4) = true from rfl, lockkeeperref30_Do.j2, if_pos rfl]
    rcases hg with ⟨g1, j, g2, g3, g4, g5⟩ | ⟨g1, g2⟩
    · subst g3
      have ek : (rd_T42 l (j : Int)).f0 = key := tl_inj g4
      rw [if_neg (by omega), if_pos rfl, if_pos g1, if_pos (by omega), g5, ek, Int.toNat_natCast]
      have q1 := set_right (t := j) (c := (⟨key, val⟩ : S42)) h (hfit (by omega)) g4
      refine ⟨_, rfl, q1, put_look h q1 fun x => set_mem h g2 g4⟩
    · rw [if_pos (by omega), g2]
      exact ⟨l, rfl, h, g2, fun _ _ => rfl⟩
  rw [if_neg h4, if_neg h4]
  by_cases h5 : wh = 5
  · subst h5
    rw [if_pos rfl, show ((5 : Int) == 5) = true from rfl, lockkeeperref30_Do.j2, if_pos rfl]
    rcases hg with ⟨g1, j, g2, g3, g4, g5⟩ | ⟨g1, g2⟩
    · obtain ⟨n, e, q1, q2⟩ := rdel_eq h k (by omega) (by omega) key
      rw [if_neg (by omega), if_neg (by decide), e, g5]
      exact ⟨n, rfl, q1, del_look h q1 q2⟩
    · rw [if_pos (by omega), g2]
      exact ⟨l, rfl, h, g2, fun _ _ => rfl⟩
  rw [if_neg h5, show (wh == 5) = false by simpa using h5, lockkeeperref30_Do.j2, if_neg (by simp), if_neg h6]
  exact ⟨l, rfl, h, rfl, fun _ _ => rfl⟩
theorem rdo_fin6 {l : List S42} (h : RightP l) (k : Nat) (hn : l.length < 1000000000000) (hk : 3 * l.length + 20 < k) (c : Int) (key val fr tt : ByteArray) (en : Bool) (mo : Int) :
    lockkeeperref30_Do.l0 k l l c (l.length : Int) 6 key val fr tt en mo 0 6 0 0 false ⟨#[]⟩ = some (l, 0, 6, (scan l fr tt en mo).2.1, 0, (scan l fr tt en mo).2.2, ⟨#[]⟩, (scan l fr tt en mo).1) := by
  obtain ⟨k, rfl⟩ : ∃ j, k = j + 3 := ⟨k - 3, by omega⟩
  unfold lockkeeperref30_Do.l0
  rw [if_neg (by omega), if_neg (by decide), if_neg (by decide), if_neg (by decide), show ((6 : Int) == 5) = false from rfl, lockkeeperref30_Do.j2, if_neg (by simp), if_pos rfl, rspan_eq _ (by omega), Option.bind_some]
  unfold scan
  by_cases hs : spanB fr tt en = true
  · rw [if_pos hs, lockkeeperref30_Do.j3]
    by_cases hm : mo < 1
    · rw [if_pos (decide_eq_true hm), if_neg (by omega)]
    · rw [if_neg (by simpa using hm), if_pos ⟨hs, by omega⟩]
      have e := rscan_l1 l l (by omega) key val fr tt en mo (by omega) hs 6 0 6 0 0 ⟨#[]⟩ l.length k 0 false [] (by omega) (by omega) (by omega) (by simp) (by simp only [List.length_nil]; omega) (fun q => by cases q)
      rw [List.drop_zero, List.nil_append, List.length_nil, Nat.zero_add, Nat.sub_zero, Bool.false_or] at e
      exact e
  · rw [if_neg hs, if_neg (fun q => hs q.1), lockkeeperref30_Do.j3, if_pos rfl]
theorem size_nil (key : ByteArray) : key.toList = [] ↔ key.size < 1 := by
  rw [Go.Lib.toList_data, ByteArray.size, ← Array.length_toList]
  cases key.data.toList <;> simp
theorem rdo_eq {l : List S42} (h : RightP l) (k : Nat) (hn : l.length < 1000000000000) (hk : 5 * l.length + 40 < k) (wh : Int) (key val fr tt : ByteArray) (en : Bool) (mo : Int) :
    lockkeeperref30_Do.f k l wh key val fr tt en mo = model_Do.f k l wh key val fr tt en mo := by
  obtain ⟨k, rfl⟩ : ∃ j, k = j + 1 := ⟨k - 1, by omega⟩
  have hcp : lockkeeperref10_Copy.f l = some l := by
    unfold lockkeeperref10_Copy.f
    rw [if_pos (by simp only [List.length_nil]; omega)]; rfl
  have hj : ∀ hm : (2 ≤ wh ∧ wh ≤ 5) → may key val = true, lockkeeperref30_Do.j0 (k + 1) l l false wh key val fr tt en mo 0 wh 0 0 false ⟨#[]⟩ = model_Do.f (k + 1) l wh key val fr tt en mo := fun hm => by
    rw [lockkeeperref30_Do.j0, if_neg (by simp)]
    obtain ⟨c, k', h1, h2, h3⟩ := rdo_loop l l (by omega) wh key val fr tt en mo 0 wh 0 0 false ⟨#[]⟩ l.length k 0 (-1) (by omega) (by omega) (by omega) (.inl ⟨rfl, fun t ht => by omega⟩)
    refine Eq.trans h2 ?_
    by_cases h6 : wh = 6
    · subst h6
      rw [rdo_fin6 h k' hn (by omega), do_scan h _ (by omega) (by omega)]
    · obtain ⟨n, e1, g1, g2, g3⟩ := rdo_fin h k' hn (by omega) c wh key val fr tt en mo h3 h6 hm
      obtain ⟨m, e2, f1, _, f2, f3⟩ := do_eq h (k + 1) (by omega) (by omega) wh key val fr tt en mo h6
      have e : n = m := right_look f1 g1 fun a => by
        by_cases q : a = key
        · subst q; rw [g2, f2]
        · rw [g3 a q, f3 a q]
      rw [e1, e2, e]
  have hj3 : ∀ hw : (2 ≤ wh ∧ wh ≤ 5) ∧ may key val = false, lockkeeperref30_Do.j0 (k + 1) l l true wh key val fr tt en mo 0 wh 0 0 false ⟨#[]⟩ = model_Do.f (k + 1) l wh key val fr tt en mo := fun hw => by
    rw [lockkeeperref30_Do.j0, if_pos rfl]
    obtain ⟨m, e2, f1, _, f2, f3⟩ := do_eq h (k + 1) (by omega) (by omega) wh key val fr tt en mo (by omega)
    have es : step wh key val (look l key) = (look l key, 3, false, ⟨#[]⟩) := by unfold step; rw [if_pos hw]
    rw [es] at e2 f2
    have e : m = l := right_look h f1 fun a => by
      by_cases q : a = key
      · subst q; rw [f2]
      · rw [f3 a q]
    rw [e2, e]
  unfold lockkeeperref30_Do.f
  rw [rright_yes h _ (by omega) (by omega), Option.bind_some, if_pos rfl, hcp, Option.bind_some]
  by_cases h2 : wh ≥ 2
  · rw [if_pos h2]
    by_cases h5 : wh ≤ 5
    · rw [if_pos h5]
      by_cases k1 : (key.size : Int) < 1
      · rw [if_pos k1]
        exact hj3 ⟨⟨h2, h5⟩, by unfold may; simp [(size_nil key).2 (by omega)]⟩
      · rw [if_neg k1]
        by_cases k2 : (key.size : Int) > 512
        · rw [if_pos k2]
          exact hj3 ⟨⟨h2, h5⟩, by unfold may; rw [decide_eq_false (show ¬ key.size ≤ 512 by omega)]; simp⟩
        · rw [if_neg k2]
          by_cases k3 : (val.size : Int) > 2048
          · rw [decide_eq_true k3]
            exact hj3 ⟨⟨h2, h5⟩, by unfold may; rw [decide_eq_false (show ¬ val.size ≤ 2048 by omega)]; simp⟩
          · rw [decide_eq_false k3]
            exact hj fun _ => by
              unfold may
              rw [Bool.and_eq_true, Bool.and_eq_true, decide_eq_true_eq, decide_eq_true_eq, decide_eq_true_eq]
              exact ⟨fun q => k1 (by have := (size_nil key).1 q; omega), by omega, by omega⟩
    · rw [if_neg h5]
      exact hj fun q => absurd q.2 h5
  · rw [if_neg h2]
    exact hj fun q => absurd q.1 h2
theorem rsame_l0 (l : List S42) (hn : l.length < 4611686018427387904) : ∀ (d k i : Nat), l.length - i = d → i ≤ l.length → d < k → lockkeeperref10_Same.l0 k l l (i : Int) = some true
  | 0, k + 1, i, hd, hi, hk => by
    unfold lockkeeperref10_Same.l0
    rw [if_neg (by omega)]
  | d + 1, k + 1, i, hd, hi, hk => by
    unfold lockkeeperref10_Same.l0
    rw [if_pos (by omega), if_pos (by omega), if_pos (by omega), if_neg (by simp), w1 (show i < l.length by omega) hn]
    exact rsame_l0 l hn d k (i + 1) (by omega) (by omega) (by omega)
theorem rsame_refl (l : List S42) (hn : l.length < 4611686018427387904) (k : Nat) (hk : l.length < k) : lockkeeperref10_Same.f k l l = some true := by
  unfold lockkeeperref10_Same.f
  rw [if_pos rfl]
  exact rsame_l0 l hn l.length k 0 (by omega) (by omega) hk
theorem csame_l0 (l : List S42) (hn : l.length < 4611686018427387904) : ∀ (d k i : Nat), l.length - i = d → i ≤ l.length → d < k → api_Cell_61.l0 k l l (l.length : Int) (i : Int) = some true
  | 0, k + 1, i, hd, hi, hk => by
    unfold api_Cell_61.l0
    rw [if_neg (by omega)]
  | d + 1, k + 1, i, hd, hi, hk => by
    unfold api_Cell_61.l0
    rw [if_pos (by omega), if_pos (by omega), if_pos (by omega), if_pos (by omega), if_neg (by simp), w1 (show i < l.length by omega) hn]
    exact csame_l0 l hn d k (i + 1) (by omega) (by omega) (by omega)
theorem csame_refl (l : List S42) (hn : l.length < 4611686018427387904) (k : Nat) (hk : l.length < k) : cells_Same.f k l l = some true := by
  unfold cells_Same.f api_Cell_61.f
  rw [if_pos rfl, show (0 : Int) = ((0 : Nat) : Int) from rfl, csame_l0 l hn l.length k 0 (by omega) (by omega) hk]
  rfl
theorem scan_len (l : List S42) (fr tt : ByteArray) (en : Bool) (mo : Int) : (scan l fr tt en mo).1.length ≤ l.length := by
  unfold scan
  split
  · rw [List.length_take]
    exact Nat.le_trans (Nat.min_le_right _ _) (List.length_filter_le _ _)
  · exact Nat.zero_le _
/-- A call of Do, whatever the map: the document's answer, and its sizes. -/
theorem do_all (l : List S42) (k : Nat) (hn : l.length < 1000000000000) (hk : 5 * l.length + 40 < k) (wh : Int) (key val fr tt : ByteArray) (en : Bool) (mo : Int) :
    ∃ n e is v cs, model_Do.f k l wh key val fr tt en mo = some (n, 0, wh, e, 0, is, v, cs) ∧ lockkeeperref30_Do.f k l wh key val fr tt en mo = some (n, 0, wh, e, 0, is, v, cs) ∧ n.length ≤ l.length + 1 ∧ cs.length ≤ l.length := by
  obtain ⟨b, hb, hbi⟩ := cright_eq l k (by omega) (by omega)
  obtain ⟨r, hr, hri⟩ := rright_eq l k (by omega) (by omega)
  have hbr : b = r := Bool.eq_iff_iff.2 (hbi.trans hri.symm)
  subst hbr
  cases b
  · refine ⟨[], 100, false, ⟨#[]⟩, [], ?_, ?_, by simp, by simp⟩
    · unfold model_Do.f
      rw [hb]; rfl
    · unfold lockkeeperref30_Do.f
      rw [hr]; rfl
  · have h := hbi.1 rfl
    rw [rdo_eq h k hn hk]
    by_cases h6 : wh = 6
    · subst h6
      have e := do_scan h k (by omega) (by omega) key val fr tt en mo
      exact ⟨l, _, _, _, _, e, e, by omega, scan_len l fr tt en mo⟩
    · obtain ⟨n, e, h1, h2, h3, h4⟩ := do_eq h k (by omega) (by omega) wh key val fr tt en mo h6
      exact ⟨n, _, _, _, _, e, e, h2, by simp⟩
end Go.Proofs.Ytoggblomknemoaa.Pure
