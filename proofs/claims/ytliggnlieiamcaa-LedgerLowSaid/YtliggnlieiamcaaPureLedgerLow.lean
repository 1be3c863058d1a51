/- LedgerLow's plain law: Low never falls, is never above Last, no open number is at or below it; all answered, it is Last. -/
import Derived.Test.YtliggnlieiamcaaPlainRef
import Derived.OpenShut
import Derived.Test.YtliggnlieiamcaaPx4
namespace Go.Proofs.Ytliggnlieiamcaa.Pure
set_option linter.unusedVariables false
set_option linter.unusedSimpArgs false
open Go.RowKit Go.Proofs.Ytliggnlieiamcaa.P Go.Proofs.YtliggnlieiamcaaW.PrintWords Go.Proofs.YtliggnlieiamcaaW.PrintLast Go.Proofs.YtliggnlieiamcaaW.PrintMore

theorem l_good_filter {last : Int} {l : List Int} (h : P.Good last l) (p : Int → Bool) : P.Good last (l.filter p) := by
  rw [good_iff] at h ⊢
  refine ⟨h.1.filter _, fun x hx => h.2.1 x (List.mem_filter.1 hx).1, ?_, h.2.2.2⟩
  have := List.length_filter_le p l
  omega
theorem l_good_give {last : Int} {l : List Int} (h : P.Good last l) (h0 : 0 ≤ last) (hl : last < 281474976710656) (op : Bool) (hop : op = true → l.length < 1000) : P.Good (last + 1) (if op then l ++ [last + 1] else l) := by
  rw [good_iff] at h ⊢
  cases op
  · exact ⟨h.1, fun x hx => ⟨(h.2.1 x hx).1, by have := (h.2.1 x hx).2; omega⟩, h.2.2.1, by omega⟩
  · have := hop rfl
    refine ⟨?_, ?_, by simp; omega, by omega⟩
    · rw [if_pos rfl, List.pairwise_append]
      exact ⟨h.1, List.pairwise_singleton _ _, fun a ha b hb => by
        rw [List.mem_singleton.1 hb]
        have := (h.2.1 a ha).2
        omega⟩
    · intro x hx
      rcases List.mem_append.1 hx with hx | hx
      · have := h.2.1 x hx
        omega
      · rw [List.mem_singleton.1 hx]
        omega
theorem l_give {last : Int} {l : List Int} (h : P.Good last l) (op : Bool) (h1 : last < 281474976710656) (h2 : l.length < 1000) : give_ last l (last + 1) op = (last + 1, if op then l ++ [last + 1] else l, 0) := by
  unfold give_
  rw [if_neg (by simp [h]), if_neg (by simp; omega)]
theorem l_answer {last : Int} {l : List Int} {n : Int} (h : P.Good last l) (h0 : 1 ≤ n) (h1 : n ≤ last) : answer_ last l n = (last, l.filter (fun x => decide (x ≠ n)), decide (n ∈ l), 0) := by
  unfold answer_
  rw [if_neg]
  rintro (h2 | h2 | h2)
  · exact h2 h
  · omega
  · omega
theorem l_low {last : Int} {l : List Int} (h : P.Good last l) : low_ last l ≤ last ∧ (∀ x ∈ l, low_ last l < x) ∧ (l = [] → low_ last l = last) := by
  unfold low_
  rw [if_pos h]
  have hg := good_iff.1 h
  cases l with
  | nil => simp
  | cons y t =>
    have h1 := hg.2.1 y List.mem_cons_self
    have h2 := List.pairwise_cons.1 hg.1
    refine ⟨by show y - 1 ≤ _; omega, fun x hx => ?_, by simp⟩
    show y - 1 < x
    rcases List.mem_cons.1 hx with rfl | hx
    · omega
    · have := h2.1 x hx
      omega
theorem l_low_ge {last : Int} {l : List Int} (h : P.Good last l) (v : Int) (h1 : v ≤ last) (h2 : ∀ x ∈ l, v < x) : v ≤ low_ last l := by
  unfold low_
  rw [if_pos h]
  cases l with
  | nil => exact h1
  | cons y t => have := h2 y List.mem_cons_self; show v ≤ y - 1; omega

theorem low_l4 (last : Int) (op : List Int) (ho : op.length ≤ 100) (hop : ∀ y ∈ op, 1 ≤ y ∧ y ≤ last) : ∀ (d k i : Nat) (L : List Int), op.length - i = d → i ≤ op.length → P.Good last L → (∀ y ∈ L, y ∈ op.drop i) → d + 3000 ≤ k →
    lockkeeperlaw25_LedgerLow.l4 k op i last L = some true := by
  intro d
  induction d with
  | zero =>
    intro k i L hd hi hg hL hk
    obtain ⟨k, rfl⟩ : ∃ m, k = m + 1 := ⟨k - 1, by omega⟩
    have : i = op.length := by omega
    subst this
    have hn : L = [] := by
      rw [List.drop_length] at hL
      exact List.eq_nil_iff_forall_not_mem.2 (fun y hy => by cases hL y hy)
    simp only [lockkeeperlaw25_LedgerLow.l4]
    rw [if_neg (by omega), low_eq last L k (by rw [hn]; simp) (by rw [hn]; simp; omega), head_eq k (by omega), (l_low hg).2.2 hn]
    simp
  | succ d ih =>
    intro k i L hd hi hg hL hk
    obtain ⟨k, rfl⟩ : ∃ m, k = m + 1 := ⟨k - 1, by omega⟩
    have hlt : i < op.length := by omega
    have hm : rd op i ∈ op := by rw [rd_get op i hlt]; exact List.getElem_mem hlt
    have hb := hop _ hm
    have hlen := (good_iff.1 hg).2.2.1
    simp only [lockkeeperlaw25_LedgerLow.l4]
    rw [if_pos (by omega), if_pos (by omega), answer_eq last L _ k (by omega) (by omega), l_answer hg hb.1 hb.2]
    simp only [Option.bind_some, if_true]
    rw [w64 (by omega) (by omega), show (i : Int) + 1 = ((i + 1 : Nat) : Int) by omega]
    refine ih k (i + 1) _ (by omega) (by omega) (l_good_filter hg _) (fun y hy => ?_) (by omega)
    have hy2 := List.mem_filter.1 hy
    have := hL y hy2.1
    rw [drop_rd op i hlt] at this
    rcases List.mem_cons.1 this with h | h
    · have := hy2.2
      simp [h] at this
    · exact h
theorem low_l3 (last : Int) (op : List Int) (ho : op.length ≤ 100) (hop : ∀ y ∈ op, 1 ≤ y ∧ y ≤ last) : ∀ (d k i : Nat) (L : List Int), op.length - i = d → i ≤ op.length → P.Good last L → (∀ y ∈ L, y ∈ op) → d + 3200 ≤ k →
    lockkeeperlaw25_LedgerLow.l3 k op i last L = some true := by
  intro d
  induction d with
  | zero =>
    intro k i L hd hi hg hL hk
    obtain ⟨k, rfl⟩ : ∃ m, k = m + 1 := ⟨k - 1, by omega⟩
    simp only [lockkeeperlaw25_LedgerLow.l3]
    rw [if_neg (by omega)]
    exact low_l4 last op ho hop op.length k 0 L (by omega) (by omega) hg (by simpa using hL) (by omega)
  | succ d ih =>
    intro k i L hd hi hg hL hk
    obtain ⟨k, rfl⟩ : ∃ m, k = m + 1 := ⟨k - 1, by omega⟩
    have hlt : i < op.length := by omega
    have hlen := (good_iff.1 hg).2.2.1
    have hpos : 0 < op.length := by omega
    have e : Int.tmod (wrap64 ((wrap64 (7 * (i : Int))) + 3)) (op.length : Int) = (((7 * i + 3) % op.length : Nat) : Int) := by
      rw [w64 (i := 7 * (i : Int)) (by omega) (by omega), w64 (by omega) (by omega), show 7 * (i : Int) + 3 = ((7 * i + 3 : Nat) : Int) by omega]
      rfl
    have hj := Nat.mod_lt (7 * i + 3) hpos
    generalize (7 * i + 3) % op.length = j at e hj
    have hm : rd op j ∈ op := by rw [rd_get op j hj]; exact List.getElem_mem hj
    have hb := hop _ hm
    simp only [lockkeeperlaw25_LedgerLow.l3]
    rw [e, if_pos (by omega), if_neg (by omega), if_pos (by omega), if_pos (by omega), answer_eq last L _ k (by omega) (by omega), l_answer hg hb.1 hb.2]
    simp only [Option.bind_some, if_true]
    rw [w64 (by omega) (by omega), show (i : Int) + 1 = ((i + 1 : Nat) : Int) by omega]
    exact ih k (i + 1) _ (by omega) (by omega) (l_good_filter hg _) (fun y hy => hL y (List.mem_filter.1 hy).1) (by omega)
theorem low_l2 (tl : List S30) (last : Int) (low x8 : Int) (op : List Int) (hg : P.Good last op) (ho : op.length ≤ 100) (hlow : ∀ y ∈ op, low < y) : ∀ (d K j : Nat), op.length - j = d → j ≤ op.length → d + 1200 ≤ K →
    lockkeeperlaw25_LedgerLow.l2 K tl op low x8 j last op = lockkeeperlaw25_LedgerLow.l0 (K - (d + 1)) tl op low (wrap64 (x8 + 1)) last op := by
  intro d
  induction d with
  | zero =>
    intro K j hd hj hk
    obtain ⟨K, rfl⟩ : ∃ m, K = m + 1 := ⟨K - 1, by omega⟩
    simp only [lockkeeperlaw25_LedgerLow.l2]
    rw [if_neg (by omega), show K + 1 - (0 + 1) = K by omega]
  | succ d ih =>
    intro K j hd hj hk
    obtain ⟨K, rfl⟩ : ∃ m, K = m + 1 := ⟨K - 1, by omega⟩
    have hlt : j < op.length := by omega
    have hm : rd op j ∈ op := by rw [rd_get op j hlt]; exact List.getElem_mem hlt
    have := hlow _ hm
    simp only [lockkeeperlaw25_LedgerLow.l2]
    rw [if_pos (by omega), if_pos (by omega), if_neg (by omega), isopen_eq last op _ _ (by omega) (by omega), decide_eq_true ⟨hg, hm⟩]
    simp only [Option.bind_some, if_true]
    rw [w64 (by omega) (by omega), show (j : Int) + 1 = ((j + 1 : Nat) : Int) by omega, ih K (j + 1) (by omega) (by omega) (by omega), show K + 1 - (d + 1 + 1) = K - (d + 1) by omega]
theorem low_l1 (tl : List S30) (x7 x8 n last : Int) (op L : List Int) (ho : op.length ≤ 100) : ∀ (d K j : Nat) (acc : List Int), op.length - j = d → j ≤ op.length → acc.length ≤ j → d + 1 ≤ K →
    lockkeeperlaw25_LedgerLow.l1 K tl op x7 x8 n acc j last L = lockkeeperlaw25_LedgerLow.j3 (K - (d + 1)) tl (acc ++ (op.drop j).filter (fun x => decide (x ≠ n))) x7 x8 last L := by
  intro d
  induction d with
  | zero =>
    intro K j acc hd hj ha hk
    obtain ⟨K, rfl⟩ : ∃ m, K = m + 1 := ⟨K - 1, by omega⟩
    have : j = op.length := by omega
    subst this
    simp only [lockkeeperlaw25_LedgerLow.l1]
    rw [if_neg (by omega), List.drop_length, List.filter_nil, List.append_nil, show K + 1 - (0 + 1) = K by omega]
  | succ d ih =>
    intro K j acc hd hj ha hk
    obtain ⟨K, rfl⟩ : ∃ m, K = m + 1 := ⟨K - 1, by omega⟩
    have hlt : j < op.length := by omega
    simp only [lockkeeperlaw25_LedgerLow.l1]
    rw [if_pos (by omega), if_pos (by omega), w64 (by omega) (by omega), show (j : Int) + 1 = ((j + 1 : Nat) : Int) by omega, drop_rd op j hlt, List.filter_cons, show K + 1 - (d + 1 + 1) = K - (d + 1) by omega]
    by_cases h1 : rd op j = n
    · rw [if_pos h1, ih K (j + 1) acc (by omega) (by omega) (by omega) (by omega)]
      simp [h1]
    · rw [if_neg h1, if_pos (by omega), ih K (j + 1) _ (by omega) (by omega) (by rw [List.length_append, List.length_singleton]; omega) (by omega)]
      simp [h1]
theorem low_j3 (tl : List S30) (x7 x8 last : Int) (op : List Int) (hg : P.Good last op) (ho : op.length ≤ 100) (h7 : x7 ≤ low_ last op) (K : Nat) (hk : 1400 ≤ K) :
    lockkeeperlaw25_LedgerLow.j3 K tl op x7 x8 last op = lockkeeperlaw25_LedgerLow.l0 (K - (op.length + 2)) tl op (low_ last op) (wrap64 (x8 + 1)) last op := by
  have hl := l_low hg
  obtain ⟨K, rfl⟩ : ∃ m, K = m + 1 := ⟨K - 1, by omega⟩
  simp only [lockkeeperlaw25_LedgerLow.j3]
  rw [low_eq last op _ (by omega) (by omega), check_eq last op _ (by omega) (by omega), chk_zero.2 hg]
  simp only [Option.bind_some, if_true]
  rw [if_neg (by omega), if_neg (by omega), show K + 1 - (op.length + 2) = K - (op.length + 1) by omega]
  exact low_l2 tl last _ x8 op hg ho hl.2.1 op.length K 0 (by omega) (by omega) (by omega)

/-- One turn. -/
def turn (m : Nat) (tl : List S30) (op : List Int) (low x8 last : Int) (u : S30) : Option Bool :=
  if u.f1 = true then ((ledger_Give.f m last op (IntKind.u64.wrap (last + 1)) ((Int.tmod u.f0 2) == 1)).bind fun bt213 => (if bt213.2.2 = 0 then (if (Int.tmod u.f0 2) = 1 then (if op.length < 17592186044416 then (lockkeeperlaw25_LedgerLow.j3 m tl (op ++ [bt213.1]) low x8 bt213.1 bt213.2.1) else (none)) else (lockkeeperlaw25_LedgerLow.j3 m tl op low x8 bt213.1 bt213.2.1)) else (none))) else ((ledger_Answer.f m last op (Int.tmod u.f0 64)).bind fun bt223 => (if bt223.2.2.2 = 0 then (lockkeeperlaw25_LedgerLow.l1 m tl op low x8 (Int.tmod u.f0 64) ([] : List Int) 0 bt223.1 bt223.2.1) else (if (Int.tmod u.f0 64) ≥ 1 then (if (Int.tmod u.f0 64) ≤ last then (none) else (lockkeeperlaw25_LedgerLow.l0 m tl op low (wrap64 (x8 + 1)) last op)) else (lockkeeperlaw25_LedgerLow.l0 m tl op low (wrap64 (x8 + 1)) last op))))
theorem turn_eq (m : Nat) (tl : List S30) (op : List Int) (low last : Int) (x8 : Nat) (h : x8 < tl.length) (h60 : x8 < 60) : lockkeeperlaw25_LedgerLow.l0 (m + 2) tl op low x8 last op = turn m tl op low x8 last (rd_T30 tl x8) := by
  simp only [lockkeeperlaw25_LedgerLow.l0, lockkeeperlaw25_LedgerLow.j1]
  rw [if_pos (by omega), decide_eq_true (show (x8 : Int) < 60 by omega), if_pos rfl, if_pos (by omega), if_pos (by omega)]
  rfl
theorem turn_true (m : Nat) (tl : List S30) (op : List Int) (low last : Int) (x8 : Nat) (u : S30) (hu : 0 ≤ u.f0) (hx8 : x8 < 60) (hg : P.Good last op) (hl0 : 0 ≤ last) (hl1 : last ≤ 1000 + x8) (ho : op.length ≤ x8) (hlow : low ≤ low_ last op) (hm : 2000 ≤ m)
    (next : ∀ (k : Nat) (last' low' : Int) (op' : List Int), P.Good last' op' → 0 ≤ last' → last' ≤ 1000 + (x8 + 1 : Nat) → op'.length ≤ x8 + 1 → low' ≤ low_ last' op' → m - 200 ≤ k → lockkeeperlaw25_LedgerLow.l0 k tl op' low' (x8 + 1 : Nat) last' op' = some true) :
    turn m tl op low x8 last u = some true := by
  have hlo := l_low hg
  have hwx : wrap64 ((x8 : Int) + 1) = ((x8 + 1 : Nat) : Int) := by rw [w64 (by omega) (by omega)]; omega
  unfold turn
  generalize u.f0 = v at hu
  by_cases hop : u.f1 = true
  · rw [if_pos hop, wu64 (by omega) (by omega), give_eq last op _ _ _ (by omega) (by omega) (by omega) (by omega), l_give hg _ (by omega) (by omega)]
    simp only [Option.bind_some, if_true]
    by_cases hv : Int.tmod v 2 = 1
    · rw [if_pos hv, if_pos (by omega), hv]
      simp only [beq_self_eq_true, if_true]
      have hg2 := l_good_give hg hl0 (by omega) true (fun _ => by omega)
      rw [if_pos rfl] at hg2
      have hlow2 : low ≤ low_ (last + 1) (op ++ [last + 1]) := l_low_ge hg2 low (by omega) (fun y hy => by
        rcases List.mem_append.1 hy with hy | hy
        · have := hlo.2.1 y hy; omega
        · rw [List.mem_singleton.1 hy]; omega)
      have hlen : (op ++ [last + 1]).length = op.length + 1 := by rw [List.length_append, List.length_singleton]
      rw [low_j3 tl low x8 (last + 1) (op ++ [last + 1]) hg2 (by omega) hlow2 _ (by omega), hwx]
      exact next _ _ _ _ hg2 (by omega) (by omega) (by omega) (Int.le_refl _) (by omega)
    · rw [if_neg hv]
      have hvb : (Int.tmod v 2 == 1) = false := beq_eq_false_iff_ne.2 hv
      rw [hvb]
      simp only [Bool.false_eq_true, if_false]
      have hg2 := l_good_give hg hl0 (by omega) false (fun h => by cases h)
      simp only [Bool.false_eq_true, if_false] at hg2
      have hlow2 : low ≤ low_ (last + 1) op := l_low_ge hg2 low (by omega) (fun y hy => by have := hlo.2.1 y hy; omega)
      rw [low_j3 tl low x8 (last + 1) op hg2 (by omega) hlow2 _ (by omega), hwx]
      exact next _ _ _ _ hg2 (by omega) (by omega) (by omega) (Int.le_refl _) (by omega)
  · rw [if_neg hop]
    have hm0 : 0 ≤ Int.tmod v 64 := Int.tmod_nonneg _ hu
    generalize Int.tmod v 64 = n at hm0
    rw [answer_eq last op n _ (by omega) (by omega)]
    simp only [Option.bind_some]
    by_cases hn1 : 1 ≤ n ∧ n ≤ last
    · rw [l_answer hg hn1.1 hn1.2]
      simp only [if_true]
      have hg2 := l_good_filter hg (fun x => decide (x ≠ n))
      have hfl := List.length_filter_le (fun x => decide (x ≠ n)) op
      have hlow2 : low ≤ low_ last (op.filter (fun x => decide (x ≠ n))) := l_low_ge hg2 low (by omega) (fun y hy => by have := hlo.2.1 y (List.mem_filter.1 hy).1; omega)
      have h1 := low_l1 tl low x8 n last op (op.filter (fun x => decide (x ≠ n))) (by omega) op.length m 0 [] (by omega) (by omega) (by simp) (by omega)
      rw [show ((0 : Nat) : Int) = 0 from rfl, List.drop_zero, List.nil_append] at h1
      rw [h1]
      generalize op.filter (fun x => decide (x ≠ n)) = op2 at hg2 hfl hlow2
      rw [low_j3 tl low x8 last op2 hg2 (by omega) hlow2 _ (by omega), hwx]
      exact next _ _ _ _ hg2 (by omega) (by omega) (by omega) (Int.le_refl _) (by omega)
    · have ha : answer_ last op n = (0, [], false, 250) := by
        unfold answer_
        rw [if_pos]
        rcases Int.lt_or_le last n with h | h
        · exact .inr (.inr h)
        · exact .inr (.inl (by omega))
      rw [ha]
      simp only [show ¬ ((250 : Int) = 0) by omega, if_false]
      have hih := next m last low op hg (by omega) (by omega) (by omega) hlow (by omega)
      rw [hwx]
      by_cases hn2 : n ≥ 1
      · rw [if_pos hn2, if_neg (by omega)]
        exact hih
      · rw [if_neg hn2]
        exact hih
theorem low_end (tl : List S30) (x8 : Nat) (h : 60 ≤ x8 ∨ tl.length ≤ x8) (last low : Int) (op : List Int) (hg : P.Good last op) (ho : op.length ≤ 60) (k : Nat) (hk : 5000 ≤ k) : lockkeeperlaw25_LedgerLow.l0 k tl op low x8 last op = some true := by
  obtain ⟨k, rfl⟩ : ∃ m, k = m + 3 := ⟨k - 3, by omega⟩
  have hgi := good_iff.1 hg
  have e3 : lockkeeperlaw25_LedgerLow.l3 k op 0 last op = some true := low_l3 last op (by omega) (fun y hy => by have := hgi.2.1 y hy; omega) op.length k 0 op (by omega) (by omega) hg (fun y hy => hy) (by omega)
  simp only [lockkeeperlaw25_LedgerLow.l0, lockkeeperlaw25_LedgerLow.j1, lockkeeperlaw25_LedgerLow.j5]
  rcases h with h | h
  · rw [decide_eq_false (show ¬ (x8 : Int) < 60 by omega)]
    simp only [Bool.false_eq_true, if_false, ite_self]
    exact e3
  · rw [if_neg (by omega)]
    simp only [Bool.false_eq_true, if_false]
    exact e3
theorem low_l0 (tl : List S30) (hw : ∀ x ∈ tl, (Lit.int .u64 x.f0).wf = true) (hn : tl.length < 4611686018427387904) : ∀ (d k x8 : Nat) (last low : Int) (op : List Int), 60 - x8 = d → x8 ≤ 60 → P.Good last op → 0 ≤ last → last ≤ 1000 + x8 → op.length ≤ x8 → low ≤ low_ last op → 400 * d + 5000 ≤ k →
    lockkeeperlaw25_LedgerLow.l0 k tl op low x8 last op = some true := by
  intro d
  induction d with
  | zero =>
    intro k x8 last low op hd h60 hg hl0 hl1 ho hlow hk
    exact low_end tl x8 (by omega) last low op hg (by omega) k (by omega)
  | succ d ih =>
    intro k x8 last low op hd h60 hg hl0 hl1 ho hlow hk
    by_cases hend : x8 < tl.length
    · obtain ⟨m, rfl⟩ : ∃ m, k = m + 2 := ⟨k - 2, by omega⟩
      have hel : (rd_T30 tl x8) ∈ tl := by
        unfold rd_T30
        rw [Int.toNat_natCast, List.getD_eq_getElem?_getD, List.getElem?_eq_getElem hend]
        exact List.getElem_mem hend
      rw [turn_eq m tl op low last x8 hend (by omega)]
      exact turn_true m tl op low last x8 _ (bounds_u64 (hw _ hel)).1 (by omega) hg hl0 hl1 ho hlow (by omega) (fun k' last' low' op' h1 h2 h3 h4 h5 h6 => ih k' (x8 + 1) last' low' op' (by omega) (by omega) h1 h2 h3 h4 h5 (by omega))
    · exact low_end tl x8 (by omega) last low op hg (by omega) k (by omega)

theorem LedgerLow : lockkeeperlaw25_LedgerLow.Pure := by
  intro a l hw hn hok
  have h0 := bounds_u64 hw
  have hm : 0 ≤ Int.tmod a 1000 ∧ Int.tmod a 1000 < 1000 := ⟨Int.tmod_nonneg _ h0.1, Int.tmod_lt_of_pos _ (by omega)⟩
  obtain ⟨k, hk⟩ : ∃ k, 30000 ≤ k := ⟨30000, Nat.le_refl _⟩
  refine ⟨k, ?_⟩
  unfold lockkeeperlaw25_LedgerLow.f
  generalize Int.tmod a 1000 = last at hm
  have hg : P.Good last [] := good_iff.2 ⟨.nil, fun x hx => (by cases hx), by simp, by omega⟩
  rw [low_eq last [] k (by simp) (by simp; omega)]
  simp only [Option.bind_some]
  exact low_l0 l (fun x hx => (hok x hx).1) (by omega) 60 k 0 last _ [] (by omega) (by omega) hg hm.1 (by omega) (by simp) (Int.le_refl _) (by omega)
end Go.Proofs.Ytliggnlieiamcaa.Pure
