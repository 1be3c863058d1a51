/- Plain words of the model's Do: what a call does to a map, by its key; and the document's head. -/
import Derived.Test.YtoggblomknemoaaSPl
namespace Go.Proofs.Ytoggblomknemoaa.Pure
open Go.Sort Go.RowKit Go.Proofs.Ytoggblomknemoaa.S Go.Proofs.YtoggblomknemoaaW.PrintWords Go.Proofs.YtoggblomknemoaaW.PrintLast
set_option linter.unusedVariables false
set_option linter.unusedSimpArgs false
def may (key val : ByteArray) : Bool := decide (key.toList ≠ []) && (decide (key.size ≤ 512) && decide (val.size ≤ 2048))
theorem key_eq (wh : Int) (key val fr tt : ByteArray) (en : Bool) (mo : Int) : model_key.f wh key val fr tt en mo = some (decide (2 ≤ wh ∧ wh ≤ 5), may key val) := by
  unfold model_key.f may
  have e2 : (decide ((val.size : Int) ≤ 2048)) = decide (val.size ≤ 2048) := decide_eq_decide.2 (by omega)
  have e1 : wh ≥ 2 → decide (2 ≤ wh ∧ wh ≤ 5) = decide (wh ≤ 5) := fun h => decide_eq_decide.2 (by omega)
  have e3 : ¬ wh ≥ 2 → decide (2 ≤ wh ∧ wh ≤ 5) = false := fun h => decide_eq_false (by omega)
  rw [e2]
  by_cases h0 : wh ≥ 2
  · rw [if_pos h0, e1 h0]
    by_cases h1 : key.toList = []
    · rw [if_pos h1]; simp [h1]
    · rw [if_neg h1]
      by_cases h2 : (key.size : Int) ≤ 512
      · rw [if_pos h2, decide_eq_true (show key.size ≤ 512 by omega)]; simp [h1]
      · rw [if_neg h2, decide_eq_false (show ¬ key.size ≤ 512 by omega)]; simp
  · rw [if_neg h0, e3 h0]
    by_cases h1 : key.toList = []
    · rw [if_pos h1]; simp [h1]
    · rw [if_neg h1]
      by_cases h2 : (key.size : Int) ≤ 512
      · rw [if_pos h2, decide_eq_true (show key.size ≤ 512 by omega)]; simp [h1]
      · rw [if_neg h2, decide_eq_false (show ¬ key.size ≤ 512 by omega)]; simp
/-- What a call with a key makes of what the map says of its key, and its answer. -/
def step (wh : Int) (key val : ByteArray) (o : Option ByteArray) : Option ByteArray × Int × Bool × ByteArray :=
  if (2 ≤ wh ∧ wh ≤ 5) ∧ may key val = false then (o, 3, false, ⟨#[]⟩)
  else if wh = 2 then (o, 0, o.isSome, o.getD ⟨#[]⟩)
  else if wh = 3 then (if o.isSome = true then (o, 8, false, ⟨#[]⟩) else (some val, 0, false, ⟨#[]⟩))
  else if wh = 4 then (if o.isSome = true then (some val, 0, false, ⟨#[]⟩) else (o, 7, false, ⟨#[]⟩))
  else if wh = 5 then (if o.isSome = true then (none, 0, false, ⟨#[]⟩) else (o, 7, false, ⟨#[]⟩))
  else (o, 2, false, ⟨#[]⟩)
theorem may_fits {key val : ByteArray} (h : ¬ may key val = false) : fits ⟨key, val⟩ := by
  unfold may at h
  simp only [Bool.not_eq_false, Bool.and_eq_true, decide_eq_true_eq] at h
  exact ⟨by simp only; omega, h.2.2⟩
theorem put_look {l n : List S42} (h : RightP l) (hn : RightP n) {key val : ByteArray} (hm : ∀ x, x ∈ n ↔ x = ⟨key, val⟩ ∨ (x ∈ l ∧ x.f0 ≠ key)) : look n key = some val ∧ ∀ a, a ≠ key → look n a = look l a := by
  refine ⟨(look_iff hn key val).2 ⟨⟨key, val⟩, (hm _).2 (.inl rfl), rfl, rfl⟩, fun a ha => look_ext h hn a fun c hc => ?_⟩
  rw [hm]
  exact ⟨fun q => q.elim (fun e => absurd (by rw [← hc, e]) ha) (fun q => q.1), fun q => .inr ⟨q, by rw [hc]; exact ha⟩⟩
theorem del_look {l n : List S42} (h : RightP l) (hn : RightP n) {key : ByteArray} (hm : ∀ x, x ∈ n ↔ x ∈ l ∧ x.f0 ≠ key) : look n key = none ∧ ∀ a, a ≠ key → look n a = look l a := by
  refine ⟨?_, fun a ha => look_ext h hn a fun c hc => ?_⟩
  · cases q : look n key with
    | none => rfl
    | some v =>
      obtain ⟨c, h1, h2, _⟩ := (look_iff hn key v).1 q
      exact absurd h2 ((hm c).1 h1).2
  · rw [hm]
    exact ⟨fun q => q.1, fun q => ⟨q, by rw [hc]; exact ha⟩⟩
theorem do_eq {l : List S42} (h : RightP l) (k : Nat) (hn : l.length < 4398046511103) (hk : l.length + 1 < k) (wh : Int) (key val fr tt : ByteArray) (en : Bool) (mo : Int) (h6 : wh ≠ 6) :
    ∃ n, model_Do.f k l wh key val fr tt en mo = some (n, 0, wh, (step wh key val (look l key)).2.1, 0, (step wh key val (look l key)).2.2.1, (step wh key val (look l key)).2.2.2, []) ∧ RightP n ∧ n.length ≤ l.length + 1 ∧ look n key = (step wh key val (look l key)).1 ∧ ∀ a, a ≠ key → look n a = look l a := by
  unfold model_Do.f
  rw [cright_yes h k (by omega) (by omega)]
  simp only [Option.bind_some, if_true]
  rw [if_pos (by omega), key_eq]
  simp only [Option.bind_some, decide_eq_true_eq]
  unfold step
  by_cases h0 : (2 ≤ wh ∧ wh ≤ 5) ∧ may key val = false
  · rw [if_pos h0, if_pos h0]
    exact ⟨l, rfl, h, by omega, rfl, fun _ _ => rfl⟩
  rw [if_neg h0, if_neg h0, find_eq h k (by omega) (by omega)]
  simp only [Option.bind_some]
  by_cases h2 : wh = 2
  · rw [if_pos h2, if_pos h2]
    exact ⟨l, rfl, h, by omega, rfl, fun _ _ => rfl⟩
  rw [if_neg h2, if_neg h2]
  by_cases h3 : wh = 3
  · rw [if_pos h3, if_pos h3]
    by_cases hs : (look l key).isSome = true
    · rw [if_pos hs, if_pos hs]
      exact ⟨l, rfl, h, by omega, rfl, fun _ _ => rfl⟩
    · obtain ⟨n, e, g1, g2, g3⟩ := put_eq h k hn hk key val (may_fits fun q => h0 ⟨by omega, q⟩)
      rw [if_neg hs, if_neg hs, e]
      exact ⟨n, rfl, g1, g2, put_look h g1 g3⟩
  rw [if_neg h3, if_neg h3]
  by_cases h4 : wh = 4
  · rw [if_pos h4, if_pos h4]
    by_cases hs : (look l key).isSome = true
    · obtain ⟨n, e, g1, g2, g3⟩ := put_eq h k hn hk key val (may_fits fun q => h0 ⟨by omega, q⟩)
      rw [if_pos hs, if_pos hs, e]
      exact ⟨n, rfl, g1, g2, put_look h g1 g3⟩
    · rw [if_neg hs, if_neg hs]
      exact ⟨l, rfl, h, by omega, rfl, fun _ _ => rfl⟩
  rw [if_neg h4, if_neg h4]
  by_cases h5 : wh = 5
  · rw [if_pos h5, if_pos h5]
    by_cases hs : (look l key).isSome = true
    · obtain ⟨n, e, g1, g2, g3⟩ := del_eq h k (by omega) (by omega) key
      rw [if_pos hs, if_pos hs, e]
      exact ⟨n, rfl, g1, by omega, del_look h g1 g3⟩
    · rw [if_neg hs, if_neg hs]
      exact ⟨l, rfl, h, by omega, rfl, fun _ _ => rfl⟩
  rw [if_neg h5, if_neg h5, if_neg h6]
  exact ⟨l, rfl, h, by omega, rfl, fun _ _ => rfl⟩
def spanB (fr tt : ByteArray) (en : Bool) : Bool := decide (fr.size ≤ 513) && (decide (tt.size ≤ 513) && (if en = true then Op.bytesLess fr.toList tt.toList else decide (tt.toList = [])))
theorem span_eq (k : Nat) (hk : 1 < k) (fr tt : ByteArray) (en : Bool) : span_Right.f k fr tt en = some (spanB fr tt en) := by
  obtain ⟨k, rfl⟩ : ∃ j, k = j + 2 := ⟨k - 2, by omega⟩
  unfold span_Right.f spanB
  by_cases h1 : (fr.size : Int) > 513
  · rw [if_pos h1, decide_eq_false (show ¬ fr.size ≤ 513 by omega), span_Right.j0, if_pos rfl]; rfl
  rw [if_neg h1, decide_eq_true (show fr.size ≤ 513 by omega), Bool.true_and]
  by_cases h2 : (tt.size : Int) > 513
  · rw [decide_eq_true h2, decide_eq_false (show ¬ tt.size ≤ 513 by omega), span_Right.j0, if_pos rfl]; rfl
  rw [decide_eq_false h2, decide_eq_true (show tt.size ≤ 513 by omega), Bool.true_and, span_Right.j0, if_neg (by simp)]
  cases en
  · rw [if_neg (by simp), if_neg (by simp), span_Right.j1, if_neg (by simp), if_neg (by simp)]
    by_cases h3 : tt.toList = []
    · rw [if_pos h3, decide_eq_true h3]
    · rw [if_neg h3, decide_eq_false h3]
  · rw [if_pos rfl, if_pos rfl, span_Right.j1]
    cases Op.bytesLess fr.toList tt.toList
    · rfl
    · rfl
/-- What a scan tells. -/
def scan (l : List S42) (fr tt : ByteArray) (en : Bool) (mo : Int) : List S42 × Int × Bool :=
  if spanB fr tt en = true ∧ 1 ≤ mo then ((l.filter (fun y => inside fr tt en y.f0)).take mo.toNat, 0, decide (mo < ((l.filter (fun y => inside fr tt en y.f0)).length : Int))) else ([], 2, false)
theorem do_scan {l : List S42} (h : RightP l) (k : Nat) (hn : l.length < 4398046511103) (hk : l.length + 1 < k) (key val fr tt : ByteArray) (en : Bool) (mo : Int) :
    model_Do.f k l 6 key val fr tt en mo = some (l, 0, 6, (scan l fr tt en mo).2.1, 0, (scan l fr tt en mo).2.2, ⟨#[]⟩, (scan l fr tt en mo).1) := by
  unfold model_Do.f
  rw [cright_yes h k (by omega) (by omega)]
  simp only [Option.bind_some, if_true]
  rw [if_pos (by omega), key_eq]
  simp only [Option.bind_some, decide_eq_true_eq]
  rw [if_neg (by omega), find_eq h k (by omega) (by omega)]
  simp only [Option.bind_some]
  rw [if_neg (by decide), if_neg (by decide), if_neg (by decide), if_neg (by decide), span_eq k (by omega)]
  simp only [Option.bind_some]
  unfold scan
  by_cases hs : spanB fr tt en = true ∧ 1 ≤ mo
  · rw [if_pos hs, if_pos hs]
    unfold cells_Part.f
    rw [cright_yes h k (by omega) (by omega)]
    simp only [Option.bind_some, if_true]
    rw [span_eq k (by omega), Option.bind_some, if_pos (by omega), Option.bind_some]
    simp only [hs.1, Bool.true_and]
    congr 5
    refine congrArg (fun b : Bool => (0, b, _, _)) (decide_eq_decide.2 ?_)
    unfold mn
    split <;> omega
  · rw [if_neg hs, if_neg hs]
theorem wh_ne_6 {wh : Int} {f : Prop} (h : wh = 6 → f) (h2 : wh ≠ 6 → f) : f := by by_cases q : wh = 6; exact h q; exact h2 q
end Go.Proofs.Ytoggblomknemoaa.Pure
