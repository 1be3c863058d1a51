/- Plain words of the model's functions: maps of cells, by their keys. -/
import Derived.Test.YtoggblomknemoaaSx8
import Derived.Sort.Walk0
namespace Go.Proofs.Ytoggblomknemoaa.Pure
open Go.Sort Go.RowKit Go.Proofs.Ytoggblomknemoaa.S Go.Proofs.YtoggblomknemoaaW.PrintWords Go.Proofs.YtoggblomknemoaaW.PrintLast
set_option linter.unusedVariables false
set_option linter.unusedSimpArgs false

theorem w64 {i : Int} (h0 : -9223372036854775808 ≤ i) (h1 : i ≤ 9223372036854775807) : wrap64 i = i := by unfold wrap64; omega
theorem tl_inj {a b : ByteArray} (h : a.toList = b.toList) : a = b := by
  rw [Go.Lib.toList_data, Go.Lib.toList_data] at h
  exact ByteArray.ext (Array.toList_inj.1 h)
theorem lss_iff (a b : ByteArray) : (Op.bytesLess a.toList b.toList = true) ↔ a.toList < b.toList := by
  rw [show Op.bytesLess a.toList b.toList = decide (a.toList < b.toList) from bytesLess_eq _ _, decide_eq_true_iff]
/-- A cell that may be, by its sizes. -/
def fits (c : S42) : Prop := c.f0.size ≤ 513 ∧ c.f1.size ≤ 2048
/-- Right from index i on. -/
def okFrom (l : List S42) (i : Nat) : Prop := ∀ t, i ≤ t → t < l.length → fits (rd_T42 l t) ∧ (0 < t → (rd_T42 l ((t - 1 : Nat) : Int)).f0.toList < (rd_T42 l t).f0.toList)
def RightP (l : List S42) : Prop := okFrom l 0
theorem okFrom_step {l : List S42} {i : Nat} (h : i < l.length) : okFrom l i ↔ (fits (rd_T42 l i) ∧ (0 < i → (rd_T42 l ((i - 1 : Nat) : Int)).f0.toList < (rd_T42 l i).f0.toList)) ∧ okFrom l (i + 1) := by
  constructor
  · intro q
    exact ⟨q i (Nat.le_refl _) h, fun t h1 h2 => q t (by omega) h2⟩
  · rintro ⟨q1, q2⟩ t h1 h2
    by_cases e : t = i
    · subst e; exact q1
    · exact q2 t (by omega) h2
theorem cright_l0 (l : List S42) (hn : l.length < 4611686018427387904) : ∀ (d k i : Nat), l.length - i = d → i ≤ l.length → d < k → ∃ b, cells_Right.l0 k l l (l.length : Int) (i : Int) = some b ∧ (b = true ↔ okFrom l i)
  | 0, k + 1, i, hd, hi, hk => by
    refine ⟨true, ?_, ?_⟩
    · unfold cells_Right.l0
      rw [if_neg (by omega)]
    · simp only [true_iff]
      intro t h1 h2
      omega
  | d + 1, k + 1, i, hd, hi, hk => by
    have hlt : i < l.length := by omega
    obtain ⟨b, hb, hbi⟩ := cright_l0 l hn d k (i + 1) (by omega) (by omega) (by omega)
    have e1 : wrap64 ((i : Int) + 1) = ((i + 1 : Nat) : Int) := by rw [w64 (by omega) (by omega)]; omega
    unfold cells_Right.l0 cells_cell_right.f
    rw [if_pos (by omega), if_pos (by omega), if_pos (by omega), okFrom_step hlt, e1, hb]
    by_cases hf : (rd_T42 l i).f0.size ≤ 513
    · rw [if_pos (by omega)]
      simp only [Option.bind_some]
      by_cases hg : (rd_T42 l i).f1.size ≤ 2048
      · rw [if_pos (by rw [decide_eq_true_iff]; omega)]
        by_cases h0 : 0 < i
        · have e2 : wrap64 ((i : Int) - 1) = ((i - 1 : Nat) : Int) := by rw [w64 (by omega) (by omega)]; omega
          rw [if_pos (by omega), e2, if_pos (by omega), if_pos (by omega)]
          by_cases hs : (rd_T42 l ((i - 1 : Nat) : Int)).f0.toList < (rd_T42 l i).f0.toList
          · rw [if_pos ((lss_iff _ _).2 hs)]
            exact ⟨b, rfl, by rw [hbi]; exact ⟨fun q => ⟨⟨⟨hf, hg⟩, fun _ => hs⟩, q⟩, fun q => q.2⟩⟩
          · rw [if_neg (fun q => hs ((lss_iff _ _).1 q))]
            exact ⟨false, rfl, by simp only [Bool.false_eq_true, false_iff]; exact fun q => hs (q.1.2 h0)⟩
        · rw [if_neg (by omega)]
          exact ⟨b, rfl, by rw [hbi]; exact ⟨fun q => ⟨⟨⟨hf, hg⟩, fun q => absurd q h0⟩, q⟩, fun q => q.2⟩⟩
      · rw [if_neg (by rw [decide_eq_true_iff]; omega)]
        exact ⟨false, rfl, by simp only [Bool.false_eq_true, false_iff]; exact fun q => hg q.1.1.2⟩
    · rw [if_neg (by omega)]
      simp only [Option.bind_some]
      exact ⟨false, by rw [if_neg (by simp)], by simp only [Bool.false_eq_true, false_iff]; exact fun q => hf q.1.1.1⟩
theorem cright_eq (l : List S42) (k : Nat) (hn : l.length < 4611686018427387904) (hk : l.length < k) : ∃ b, cells_Right.f k l = some b ∧ (b = true ↔ RightP l) :=
  cright_l0 l hn l.length k 0 (by omega) (by omega) hk
theorem rright_l0 (l : List S42) (hn : l.length < 4611686018427387904) : ∀ (d k i : Nat), l.length - i = d → i ≤ l.length → d < k → ∃ b, lockkeeperref10_Right.l0 k l (i : Int) = some b ∧ (b = true ↔ okFrom l i)
  | 0, k + 1, i, hd, hi, hk => by
    refine ⟨true, ?_, ?_⟩
    · unfold lockkeeperref10_Right.l0
      rw [if_neg (by omega)]
    · simp only [true_iff]
      intro t h1 h2
      omega
  | d + 1, k + 1, i, hd, hi, hk => by
    have hlt : i < l.length := by omega
    obtain ⟨b, hb, hbi⟩ := rright_l0 l hn d k (i + 1) (by omega) (by omega) (by omega)
    have e1 : wrap64 ((i : Int) + 1) = ((i + 1 : Nat) : Int) := by rw [w64 (by omega) (by omega)]; omega
    unfold lockkeeperref10_Right.l0 lockkeeperref10_fits.f
    rw [if_pos (by omega), if_pos (by omega), okFrom_step hlt, e1, hb]
    by_cases hf : (rd_T42 l i).f0.size ≤ 513
    · rw [if_pos (by omega)]
      simp only [Option.bind_some]
      by_cases hg : (rd_T42 l i).f1.size ≤ 2048
      · rw [if_pos (by rw [decide_eq_true_iff]; omega)]
        by_cases h0 : 0 < i
        · have e2 : wrap64 ((i : Int) - 1) = ((i - 1 : Nat) : Int) := by rw [w64 (by omega) (by omega)]; omega
          rw [if_pos (by omega), e2, if_pos (by omega), if_pos (by omega)]
          by_cases hs : (rd_T42 l ((i - 1 : Nat) : Int)).f0.toList < (rd_T42 l i).f0.toList
          · rw [if_pos ((lss_iff _ _).2 hs)]
            exact ⟨b, rfl, by rw [hbi]; exact ⟨fun q => ⟨⟨⟨hf, hg⟩, fun _ => hs⟩, q⟩, fun q => q.2⟩⟩
          · rw [if_neg (fun q => hs ((lss_iff _ _).1 q))]
            exact ⟨false, rfl, by simp only [Bool.false_eq_true, false_iff]; exact fun q => hs (q.1.2 h0)⟩
        · rw [if_neg (by omega)]
          exact ⟨b, rfl, by rw [hbi]; exact ⟨fun q => ⟨⟨⟨hf, hg⟩, fun q => absurd q h0⟩, q⟩, fun q => q.2⟩⟩
      · rw [if_neg (by rw [decide_eq_true_iff]; omega)]
        exact ⟨false, rfl, by simp only [Bool.false_eq_true, false_iff]; exact fun q => hg q.1.1.2⟩
    · rw [if_neg (by omega)]
      simp only [Option.bind_some]
      exact ⟨false, by rw [if_neg (by simp)], by simp only [Bool.false_eq_true, false_iff]; exact fun q => hf q.1.1.1⟩
theorem rright_eq (l : List S42) (k : Nat) (hn : l.length < 4611686018427387904) (hk : l.length < k) : ∃ b, lockkeeperref10_Right.f k l = some b ∧ (b = true ↔ RightP l) :=
  rright_l0 l hn l.length k 0 (by omega) (by omega) hk
theorem cright_yes {l : List S42} (h : RightP l) (k : Nat) (hn : l.length < 4611686018427387904) (hk : l.length < k) : cells_Right.f k l = some true := by
  obtain ⟨b, hb, hbi⟩ := cright_eq l k hn hk
  rw [hb, hbi.2 h]
theorem rright_yes {l : List S42} (h : RightP l) (k : Nat) (hn : l.length < 4611686018427387904) (hk : l.length < k) : lockkeeperref10_Right.f k l = some true := by
  obtain ⟨b, hb, hbi⟩ := rright_eq l k hn hk
  rw [hb, hbi.2 h]
theorem rd_get {l : List S42} {i : Nat} (h : i < l.length) : rd_T42 l (i : Int) = l[i] := by
  unfold rd_T42
  simp [h]
theorem lt_tr {a b c : List UInt8} (h1 : a < b) (h2 : b < c) : a < c := List.lt_trans h1 h2
theorem lt_irr {a : List UInt8} (h : a < a) : False := List.lt_irrefl a h
theorem srt {l : List S42} (h : RightP l) : ∀ (d s : Nat), s + d + 1 < l.length → (rd_T42 l (s : Int)).f0.toList < (rd_T42 l ((s + d + 1 : Nat) : Int)).f0.toList
  | 0, s, hl => by
    have q := (h (s + 0 + 1) (Nat.zero_le _) hl).2 (by omega)
    rw [show s + 0 + 1 - 1 = s by omega] at q
    exact q
  | d + 1, s, hl => by
    have q := (h (s + (d + 1) + 1) (Nat.zero_le _) hl).2 (by omega)
    rw [show s + (d + 1) + 1 - 1 = s + d + 1 by omega] at q
    exact lt_tr (srt h d s (by omega)) q
theorem srt' {l : List S42} (h : RightP l) {s t : Nat} (hst : s < t) (ht : t < l.length) : (rd_T42 l (s : Int)).f0.toList < (rd_T42 l (t : Int)).f0.toList := by
  have q := srt h (t - s - 1) s (by omega)
  rw [show s + (t - s - 1) + 1 = t by omega] at q
  exact q
theorem rightP_iff {l : List S42} : RightP l ↔ (∀ c ∈ l, fits c) ∧ l.Pairwise (fun x y => x.f0.toList < y.f0.toList) := by
  constructor
  · intro h
    refine ⟨fun c hc => ?_, List.pairwise_iff_getElem.2 fun i j hi hj hij => ?_⟩
    · obtain ⟨t, ht, rfl⟩ := List.getElem_of_mem hc
      have q := (h t (Nat.zero_le _) ht).1
      rw [rd_get ht] at q
      exact q
    · have q := srt' h hij hj
      rw [rd_get hi, rd_get hj] at q
      exact q
  · rintro ⟨h1, h2⟩ t _ ht
    rw [rd_get ht]
    refine ⟨h1 _ (List.getElem_mem ht), fun h0 => ?_⟩
    rw [rd_get (by omega : t - 1 < l.length)]
    exact List.pairwise_iff_getElem.1 h2 _ _ (by omega) ht (by omega)
/-- What a map says of a key. -/
def look (l : List S42) (key : ByteArray) : Option ByteArray := (l.find? fun c => c.f0.toList == key.toList).map (·.f1)
theorem look_at {l : List S42} (h : RightP l) {t : Nat} (ht : t < l.length) {a : ByteArray} (e : (rd_T42 l (t : Int)).f0.toList = a.toList) : look l a = some (rd_T42 l (t : Int)).f1 := by
  unfold look
  have q : l.find? (fun c => c.f0.toList == a.toList) = some l[t] := by
    rw [List.find?_eq_some_iff_getElem]
    refine ⟨by rw [← rd_get ht, e]; simp, t, ht, rfl, fun j hj => ?_⟩
    have r := srt' h hj ht
    rw [e, rd_get (by omega : j < l.length)] at r
    simp only [Bool.not_eq_true', beq_eq_false_iff_ne]
    intro e2
    rw [e2] at r
    exact lt_irr r
  rw [q, rd_get ht]; rfl
theorem look_no {l : List S42} {a : ByteArray} (h : ∀ t, t < l.length → (rd_T42 l (t : Int)).f0.toList ≠ a.toList) : look l a = none := by
  unfold look
  rw [List.find?_eq_none.2]
  · rfl
  · intro c hc
    obtain ⟨t, ht, rfl⟩ := List.getElem_of_mem hc
    have q := h t ht
    rw [rd_get ht] at q
    simp [q]
theorem bsearch_spec (p : Nat → Bool) (n : Nat) (hm : ∀ a b, a ≤ b → b < n → p a = true → p b = true) : ∀ (d i j : Nat), j - i = d → i ≤ j → j ≤ n → (∀ t, t < i → p t = false) → (∀ t, j ≤ t → t < n → p t = true) →
    bsearch p i j ≤ n ∧ (∀ t, t < bsearch p i j → p t = false) ∧ (∀ t, bsearch p i j ≤ t → t < n → p t = true) := by
  intro d
  induction d using Nat.strongRecOn with
  | _ d ih =>
    intro i j hd hij hjn hlo hhi
    by_cases h : i < j
    · cases hp : p ((i + j) / 2)
      · rw [bsearch_no h hp]
        refine ih (j - ((i + j) / 2 + 1)) (by omega) _ _ rfl (by omega) hjn (fun t ht => ?_) hhi
        cases hq : p t
        · rfl
        · have := hm t ((i + j) / 2) (by omega) (by omega) hq
          rw [hp] at this
          cases this
      · rw [bsearch_yes h hp]
        exact ih ((i + j) / 2 - i) (by omega) _ _ rfl (by omega) (by omega) hlo (fun t ht htn => hm _ t ht htn hp)
    · obtain rfl : i = j := by omega
      rw [bsearch_done]
      exact ⟨hjn, hlo, hhi⟩
theorem nlt_le {a b : List UInt8} (h : ¬ a < b) (e : b ≠ a) : b < a := by
  by_cases q : b < a
  · exact q
  · exact absurd (List.le_antisymm (List.not_lt.1 h) (List.not_lt.1 q)) e
theorem at_spec {l : List S42} (h : RightP l) (k : Nat) (hn : l.length < 4611686018427387904) (hk : l.length < k) (a : ByteArray) :
    ∃ b : Nat, b ≤ l.length ∧ cells_At.f k l a = some ((b : Int) - 1) ∧ (∀ t, t < b → ¬ a.toList < (rd_T42 l (t : Int)).f0.toList) ∧ (∀ t, b ≤ t → t < l.length → a.toList < (rd_T42 l (t : Int)).f0.toList) := by
  have hm : ∀ x y, x ≤ y → y < l.length → cells_At_gt (rd_T42 l (x : Int)).f0 a = true → cells_At_gt (rd_T42 l (y : Int)).f0 a = true := fun x y hxy hy hx => by
    unfold cells_At_gt at hx ⊢
    rw [lss_iff] at hx ⊢
    by_cases e : x = y
    · subst e; exact hx
    · exact lt_tr hx (srt' h (by omega) hy)
  obtain ⟨h1, h2, h3⟩ := bsearch_spec (fun i => cells_At_gt (rd_T42 l (i : Int)).f0 a) l.length hm l.length 0 l.length (by omega) (by omega) (Nat.le_refl _) (fun t ht => by omega) (fun t h1 h2 => by omega)
  refine ⟨_, h1, ?_, fun t ht q => ?_, fun t ht hl => ?_⟩
  · unfold cells_At.f
    rw [cright_yes h k hn hk]
    simp only [Option.bind_some, if_true]
    rw [if_pos hn]
  · have r := h2 t ht
    unfold cells_At_gt at r
    rw [(lss_iff _ _).2 q] at r
    cases r
  · have r := h3 t ht hl
    unfold cells_At_gt at r
    exact (lss_iff _ _).1 r
theorem find_eq {l : List S42} (h : RightP l) (k : Nat) (hn : l.length < 4611686018427387904) (hk : l.length < k) (a : ByteArray) : cells_Find.f k l a = some ((look l a).getD ⟨#[]⟩, (look l a).isSome) := by
  obtain ⟨b, hb, e, h1, h2⟩ := at_spec h k hn hk a
  unfold cells_Find.f
  rw [e]
  simp only [Option.bind_some]
  by_cases h0 : 0 < b
  · have e1 : (b : Int) - 1 = ((b - 1 : Nat) : Int) := by omega
    rw [e1, if_pos (by omega), if_pos (by omega), if_pos (by omega)]
    by_cases hq : (rd_T42 l ((b - 1 : Nat) : Int)).f0.toList = a.toList
    · rw [if_pos hq, look_at h (by omega) hq]; rfl
    · rw [if_neg hq, look_no fun t ht q => ?_]; rfl
      by_cases ht2 : b ≤ t
      · have r := h2 t ht2 ht
        rw [q] at r
        exact lt_irr r
      · have r := nlt_le (h1 (b - 1) (by omega)) hq
        by_cases e2 : t = b - 1
        · subst e2; exact hq q
        · have r2 := srt' h (show t < b - 1 by omega) (by omega)
          rw [q] at r2
          exact lt_irr (lt_tr r r2)
  · rw [if_neg (by omega), look_no fun t ht q => ?_]; rfl
    have r := h2 t (by omega) ht
    rw [q] at r
    exact lt_irr r
theorem rd_mem {l : List S42} {t : Nat} (h : t < l.length) : rd_T42 l (t : Int) ∈ l := by rw [rd_get h]; exact List.getElem_mem h
theorem mem_rd {l : List S42} {c : S42} (h : c ∈ l) : ∃ t, t < l.length ∧ rd_T42 l (t : Int) = c := by
  obtain ⟨t, ht, rfl⟩ := List.getElem_of_mem h
  exact ⟨t, ht, rd_get ht⟩
theorem look_iff {l : List S42} (h : RightP l) (a v : ByteArray) : look l a = some v ↔ ∃ c ∈ l, c.f0 = a ∧ c.f1 = v := by
  constructor
  · intro q
    unfold look at q
    obtain ⟨c, hc, rfl⟩ := Option.map_eq_some_iff.1 q
    exact ⟨c, List.mem_of_find?_eq_some hc, tl_inj (by simpa using List.find?_some hc), rfl⟩
  · rintro ⟨c, hc, rfl, rfl⟩
    obtain ⟨t, ht, rfl⟩ := mem_rd hc
    exact look_at h ht rfl
theorem look_ext {l n : List S42} (hl : RightP l) (hn : RightP n) (a : ByteArray) (h : ∀ c : S42, c.f0 = a → (c ∈ n ↔ c ∈ l)) : look n a = look l a := by
  apply Option.ext
  intro v
  rw [look_iff hn, look_iff hl]
  exact ⟨fun ⟨c, h1, h2, h3⟩ => ⟨c, (h c h2).1 h1, h2, h3⟩, fun ⟨c, h1, h2, h3⟩ => ⟨c, (h c h2).2 h1, h2, h3⟩⟩
/-- The cell put in at b. -/
theorem ins_right {l : List S42} (h : RightP l) {b : Nat} (hb : b ≤ l.length) {c : S42} (hc : fits c) (h1 : ∀ t, t < b → (rd_T42 l (t : Int)).f0.toList < c.f0.toList) (h2 : ∀ t, b ≤ t → t < l.length → c.f0.toList < (rd_T42 l (t : Int)).f0.toList) : RightP (l.take b ++ [c] ++ l.drop b) := by
  obtain ⟨q1, q2⟩ := rightP_iff.1 h
  have m1 : ∀ x ∈ l.take b, x.f0.toList < c.f0.toList := fun x hx => by
    obtain ⟨t, ht, rfl⟩ := List.getElem_of_mem hx
    rw [List.length_take] at ht
    have r := h1 t (by omega)
    rw [rd_get (by omega : t < l.length)] at r
    rw [List.getElem_take]; exact r
  have m2 : ∀ x ∈ l.drop b, c.f0.toList < x.f0.toList := fun x hx => by
    obtain ⟨t, ht, rfl⟩ := List.getElem_of_mem hx
    rw [List.length_drop] at ht
    have r := h2 (b + t) (by omega) (by omega)
    rw [rd_get (by omega : b + t < l.length)] at r
    rw [List.getElem_drop]; exact r
  refine rightP_iff.2 ⟨fun x hx => ?_, ?_⟩
  · simp only [List.mem_append, List.mem_singleton] at hx
    rcases hx with (hx | rfl) | hx
    · exact q1 x (List.mem_of_mem_take hx)
    · exact hc
    · exact q1 x (List.mem_of_mem_drop hx)
  · rw [List.append_assoc, List.pairwise_append]
    refine ⟨q2.sublist (List.take_sublist _ _), ?_, fun x hx y hy => ?_⟩
    · rw [List.singleton_append, List.pairwise_cons]
      exact ⟨m2, q2.sublist (List.drop_sublist _ _)⟩
    · rw [List.singleton_append, List.mem_cons] at hy
      rcases hy with rfl | hy
      · exact m1 x hx
      · exact lt_tr (m1 x hx) (m2 y hy)
theorem ins_mem {l : List S42} {b : Nat} {c x : S42} : x ∈ l.take b ++ [c] ++ l.drop b ↔ x = c ∨ x ∈ l := by
  have e : x ∈ l ↔ x ∈ l.take b ∨ x ∈ l.drop b := by rw [← List.mem_append, List.take_append_drop]
  rw [e]
  simp only [List.mem_append, List.mem_singleton]
  constructor
  · rintro ((q | q) | q)
    · exact .inr (.inl q)
    · exact .inl q
    · exact .inr (.inr q)
  · rintro (q | q | q)
    · exact .inl (.inr q)
    · exact .inl (.inl q)
    · exact .inr q
theorem set_rd {l : List S42} {t s : Nat} {c : S42} (hs : s < l.length) : rd_T42 (l.set t c) (s : Int) = if t = s then c else rd_T42 l (s : Int) := by
  rw [rd_get (by rw [List.length_set]; exact hs), rd_get hs, List.getElem_set]
theorem set_key {l : List S42} {t s : Nat} {c : S42} (hs : s < l.length) (e : (rd_T42 l (t : Int)).f0.toList = c.f0.toList) : (rd_T42 (l.set t c) (s : Int)).f0.toList = (rd_T42 l (s : Int)).f0.toList := by
  rw [set_rd hs]
  by_cases q : t = s
  · subst q; rw [if_pos rfl, e]
  · rw [if_neg q]
theorem set_right {l : List S42} (h : RightP l) {t : Nat} {c : S42} (hc : fits c) (e : (rd_T42 l (t : Int)).f0.toList = c.f0.toList) : RightP (l.set t c) := by
  intro s _ hs
  rw [List.length_set] at hs
  refine ⟨?_, fun h0 => ?_⟩
  · rw [set_rd hs]
    split
    · exact hc
    · exact (h s (Nat.zero_le _) hs).1
  · rw [set_key hs e, set_key (by omega : s - 1 < l.length) e]
    exact (h s (Nat.zero_le _) hs).2 h0
theorem set_mem {l : List S42} (h : RightP l) {t : Nat} (ht : t < l.length) {c x : S42} (e : (rd_T42 l (t : Int)).f0.toList = c.f0.toList) : x ∈ l.set t c ↔ x = c ∨ (x ∈ l ∧ x.f0 ≠ c.f0) := by
  constructor
  · intro q
    obtain ⟨s, hs, rfl⟩ := mem_rd q
    rw [List.length_set] at hs
    rw [set_rd hs]
    by_cases q2 : t = s
    · rw [if_pos q2]; exact .inl rfl
    · rw [if_neg q2]
      refine .inr ⟨rd_mem hs, fun e2 => ?_⟩
      have e3 : (rd_T42 l (s : Int)).f0.toList = (rd_T42 l (t : Int)).f0.toList := by rw [e2, e]
      rcases Nat.lt_or_gt_of_ne q2 with r | r
      · have r2 := srt' h r hs
        rw [e3] at r2; exact lt_irr r2
      · have r2 := srt' h r ht
        rw [e3] at r2; exact lt_irr r2
  · rintro (rfl | ⟨q1, q2⟩)
    · have r := rd_mem (l := l.set t x) (t := t) (by rw [List.length_set]; exact ht)
      rw [set_rd ht, if_pos rfl] at r
      exact r
    · obtain ⟨s, hs, rfl⟩ := mem_rd q1
      have r := rd_mem (l := l.set t c) (t := s) (by rw [List.length_set]; exact hs)
      rw [set_rd hs] at r
      by_cases q3 : t = s
      · subst q3; exact absurd (tl_inj e) q2
      · rw [if_neg q3] at r; exact r
theorem put_eq {l : List S42} (h : RightP l) (k : Nat) (hn : l.length < 4398046511103) (hk : l.length + 1 < k) (key val : ByteArray) (hf : fits ⟨key, val⟩) :
    ∃ n, cells_Put.f k l key val = some (n, 0) ∧ RightP n ∧ n.length ≤ l.length + 1 ∧ ∀ x, x ∈ n ↔ x = ⟨key, val⟩ ∨ (x ∈ l ∧ x.f0 ≠ key) := by
  obtain ⟨k, rfl⟩ : ∃ j, k = j + 1 := ⟨k - 1, by omega⟩
  obtain ⟨b, hb, e, h1, h2⟩ := at_spec h k (by omega) (by omega) key
  have hfit : cells_cell_right.f key val = some true := by
    unfold cells_cell_right.f
    rw [if_pos (by have := hf.1; simp only at this; omega), decide_eq_true (by have := hf.2; simp only at this; omega)]
  unfold cells_Put.f
  rw [cright_yes h (k + 1) (by omega) (by omega)]
  simp only [Option.bind_some, if_true]
  rw [hfit]
  simp only [Option.bind_some, Bool.not_true]
  rw [cells_Put.j0]
  rw [if_neg (by simp), e]
  simp only [Option.bind_some]
  have hins : ∀ q : ∀ t, t < b → (rd_T42 l (t : Int)).f0.toList ≠ key.toList, RightP (l.take b ++ ([⟨key, val⟩] : List S42) ++ l.drop b) ∧ (l.take b ++ ([⟨key, val⟩] : List S42) ++ l.drop b).length ≤ l.length + 1 ∧ ∀ x : S42, x ∈ l.take b ++ ([⟨key, val⟩] : List S42) ++ l.drop b ↔ x = ⟨key, val⟩ ∨ (x ∈ l ∧ x.f0 ≠ key) := fun q => by
    refine ⟨ins_right h hb hf (fun t ht => nlt_le (h1 t ht) (q t ht)) h2, by simp; omega, fun x => ?_⟩
    rw [ins_mem]
    constructor
    · rintro (r | r)
      · exact .inl r
      · refine .inr ⟨r, fun e2 => ?_⟩
        obtain ⟨t, ht, rfl⟩ := mem_rd r
        by_cases hlt : t < b
        · exact q t hlt (by rw [e2])
        · have r2 := h2 t (by omega) ht
          rw [e2] at r2; exact lt_irr r2
    · rintro (r | r)
      · exact .inl r
      · exact .inr r.1
  have e1 : wrap64 ((b : Int) - 1 + 1) = (b : Int) := by rw [w64 (by omega) (by omega)]; omega
  by_cases h0 : 0 < b
  · have e2 : (b : Int) - 1 = ((b - 1 : Nat) : Int) := by omega
    rw [if_pos (by omega), if_pos (by omega), if_pos (by omega)]
    by_cases hq : (rd_T42 l ((b : Int) - 1)).f0.toList = key.toList
    · rw [if_pos hq]
      unfold api_Cell_50.f
      rw [if_pos (by omega)]
      simp only [Option.bind_some]
      rw [if_pos (by omega), e2, Int.toNat_natCast]
      rw [e2] at hq
      exact ⟨_, rfl, set_right h hf hq, by rw [List.length_set]; omega, fun x => set_mem h (by omega) hq⟩
    · rw [if_neg hq, e1, if_pos (by omega), if_pos (by omega), Int.toNat_natCast, if_pos (by rw [List.length_take]; omega), if_pos (by simp; omega)]
      obtain ⟨g1, g2, g3⟩ := hins fun t ht q => by
        rw [e2] at hq
        have r := nlt_le (h1 (b - 1) (by omega)) hq
        by_cases e3 : t = b - 1
        · subst e3; exact hq q
        · have r2 := srt' h (show t < b - 1 by omega) (by omega)
          rw [q] at r2
          exact lt_irr (lt_tr r r2)
      exact ⟨_, rfl, g1, g2, g3⟩
  · rw [if_neg (by omega), e1, if_pos (by omega), if_pos (by omega), Int.toNat_natCast, if_pos (by rw [List.length_take]; omega), if_pos (by simp; omega)]
    obtain ⟨g1, g2, g3⟩ := hins fun t ht q => by omega
    exact ⟨_, rfl, g1, g2, g3⟩
theorem filter_right {l : List S42} (h : RightP l) (p : S42 → Bool) : RightP (l.filter p) := by
  obtain ⟨q1, q2⟩ := rightP_iff.1 h
  exact rightP_iff.2 ⟨fun c hc => q1 c (List.mem_filter.1 hc).1, q2.sublist List.filter_sublist⟩
theorem del_eq {l : List S42} (h : RightP l) (k : Nat) (hn : l.length < 4398046511104) (hk : l.length < k) (key : ByteArray) :
    ∃ n, cells_Delete.f k l key = some (n, 0) ∧ RightP n ∧ n.length ≤ l.length ∧ ∀ x, x ∈ n ↔ x ∈ l ∧ x.f0 ≠ key := by
  unfold cells_Delete.f
  rw [cright_yes h k (by omega) hk]
  simp only [Option.bind_some, if_true]
  rw [if_pos hn]
  refine ⟨_, rfl, filter_right h _, List.length_filter_le _ _, fun x => ?_⟩
  rw [List.mem_filter]
  refine and_congr_right fun _ => ?_
  rw [Bool.not_eq_true', beq_eq_false_iff_ne]
  exact ⟨fun q e => q (by rw [e]), fun q e => q (tl_inj e)⟩
/-- Sorted rows of the same cells are one. -/
theorem right_ext : ∀ {l n : List S42}, RightP l → RightP n → (∀ x, x ∈ n ↔ x ∈ l) → n = l := by
  intro l n hl hn h
  have a := (rightP_iff.1 hl).2
  have b := (rightP_iff.1 hn).2
  clear hl hn
  induction l generalizing n with
  | nil => cases n with
    | nil => rfl
    | cons y t => exact absurd ((h y).1 List.mem_cons_self) (by simp)
  | cons x s ih => cases n with
    | nil => exact absurd ((h x).2 List.mem_cons_self) (by simp)
    | cons y t =>
      rw [List.pairwise_cons] at a b
      have e : y = x := by
        rcases List.mem_cons.1 ((h y).1 List.mem_cons_self) with q | q
        · exact q
        · rcases List.mem_cons.1 ((h x).2 List.mem_cons_self) with q2 | q2
          · exact q2.symm
          · exact absurd (lt_tr (a.1 y q) (b.1 x q2)) (fun q => lt_irr q)
      subst e
      rw [ih (n := t) (fun z => ?_) a.2 b.2]
      constructor
      · intro q
        rcases List.mem_cons.1 ((h z).1 (List.mem_cons_of_mem _ q)) with r | r
        · subst r; exact absurd (b.1 z q) (fun q => lt_irr q)
        · exact r
      · intro q
        rcases List.mem_cons.1 ((h z).2 (List.mem_cons_of_mem _ q)) with r | r
        · subst r; exact absurd (a.1 z q) (fun q => lt_irr q)
        · exact r
theorem look_same (x y : Option ByteArray) : (x.getD ⟨#[]⟩).toList = (y.getD ⟨#[]⟩).toList ∧ x.isSome = y.isSome ↔ x = y := by
  constructor
  · rintro ⟨h1, h2⟩
    cases x <;> cases y
    · rfl
    · cases h2
    · cases h2
    · exact congrArg some (tl_inj h1)
  · rintro rfl
    exact ⟨rfl, rfl⟩
theorem diff_l_eq {l n : List S42} (h : RightP l) (h' : RightP n) (k : Nat) (hn : l.length < 4611686018427387904) (hn' : n.length < 4611686018427387904) (hk : l.length < k) (hk' : n.length < k) : ∀ (xs : List S42) (acc : List ByteArray), model_Diff_l k l n xs acc = some (acc ++ (xs.filter (fun c => decide (look l c.f0 ≠ look n c.f0))).map (·.f0))
  | [], acc => by simp [model_Diff_l]
  | c :: t, acc => by
    rw [model_Diff_l, find_eq h k hn hk, find_eq h' k hn' hk']
    simp only [Option.bind_some]
    rw [diff_l_eq h h' k hn hn' hk hk' t]
    by_cases q : look l c.f0 = look n c.f0
    · rw [if_pos ((look_same _ _).2 q), List.filter_cons_of_neg (by simpa using q)]
    · rw [if_neg (fun r => q ((look_same _ _).1 r)), List.filter_cons_of_pos (by simpa using q), List.map_cons, List.append_assoc]
      rfl
theorem compact_rep (m : Nat) (a : ByteArray) : Go.Lib.compact (List.replicate (m + 1) a) = [a] := by
  have hd : ∀ j, j < m + 1 → (List.replicate (m + 1) a).toArray[j]! = a := fun j hj => by
    rw [getElem!_pos _ j (by simpa using hj)]
    simp
  unfold Go.Lib.compact Go.Lib.compactUpTo
  rw [List.length_replicate, List.range_succ_eq_map, List.filter_cons_of_pos (by simp [Go.Lib.keeps]), List.map_cons, hd 0 (by omega)]
  rw [List.filter_eq_nil_iff.2 (fun j hj => ?_)]
  · rfl
  · obtain ⟨i, hi, rfl⟩ := List.mem_map.1 hj
    have hi2 := List.mem_range.1 hi
    unfold Go.Lib.keeps
    rw [decide_eq_true_iff]
    rintro (q | q)
    · omega
    · rw [hd (i + 1) (by omega), show i + 1 - 1 = i by omega, hd i (by omega)] at q
      exact q rfl
theorem sortB_rep (m : Nat) (a : ByteArray) : sortB (List.replicate m a) = List.replicate m a := by
  unfold sortB
  have e : (List.replicate m (bl a)).mergeSort (fun x y => decide (x ≤ y)) = List.replicate m (bl a) := by
    refine List.eq_replicate_iff.2 ⟨by rw [List.length_mergeSort, List.length_replicate], fun b hb => ?_⟩
    exact List.eq_of_mem_replicate ((List.mergeSort_perm _ _).mem_iff.1 hb)
  rw [List.map_replicate, e, List.map_replicate, lb_bl]
theorem diff_eq {l n : List S42} (h : RightP l) (h' : RightP n) (k : Nat) (hn : l.length < 2000000000000) (hn' : n.length < 2000000000000) (hk : l.length < k) (hk' : n.length < k) : model_Diff.f k l n = some (Go.Lib.compact (sortB (((l ++ n).filter (fun c => decide (look l c.f0 ≠ look n c.f0))).map (·.f0)))) := by
  unfold model_Diff.f
  rw [cright_yes h k (by omega) hk]
  simp only [Option.bind_some, if_true]
  rw [cright_yes h' k (by omega) hk']
  simp only [Option.bind_some, if_true]
  rw [if_pos (by omega), diff_l_eq h h' k (by omega) (by omega) hk hk']
  rfl
theorem diff_one {l n : List S42} (h : RightP l) (h' : RightP n) (k : Nat) (hn : l.length < 2000000000000) (hn' : n.length < 2000000000000) (hk : l.length < k) (hk' : n.length < k) (key : ByteArray) (hs : ∀ a, a ≠ key → look l a = look n a) :
    model_Diff.f k l n = some [] ∧ (∀ a, look l a = look n a) ∨ model_Diff.f k l n = some [key] ∧ look l key ≠ look n key := by
  rw [diff_eq h h' k hn hn' hk hk']
  have hr : ((l ++ n).filter (fun c => decide (look l c.f0 ≠ look n c.f0))).map (·.f0) = List.replicate ((l ++ n).filter (fun c => decide (look l c.f0 ≠ look n c.f0))).length key := by
    refine List.eq_replicate_iff.2 ⟨by rw [List.length_map], fun b hb => ?_⟩
    obtain ⟨c, hc, rfl⟩ := List.mem_map.1 hb
    have q := of_decide_eq_true (List.mem_filter.1 hc).2
    by_cases e : c.f0 = key
    · exact e
    · exact absurd (hs _ e) q
  rw [hr, sortB_rep]
  by_cases e : look l key = look n key
  · refine .inl ⟨?_, fun a => ?_⟩
    · rw [List.filter_eq_nil_iff.2 (fun c hc => ?_)]
      · rfl
      · rw [decide_eq_true_iff]
        intro q
        by_cases e2 : c.f0 = key
        · rw [e2] at q; exact q e
        · exact q (hs _ e2)
    · by_cases e2 : a = key
      · rw [e2]; exact e
      · exact hs a e2
  · refine .inr ⟨?_, e⟩
    obtain ⟨c, hc, hck⟩ : ∃ c, c ∈ l ++ n ∧ c.f0 = key := by
      cases q : look l key with
      | some v =>
        obtain ⟨c, h1, h2, _⟩ := (look_iff h key v).1 q
        exact ⟨c, List.mem_append.2 (.inl h1), h2⟩
      | none =>
        cases q2 : look n key with
        | some v =>
          obtain ⟨c, h1, h2, _⟩ := (look_iff h' key v).1 q2
          exact ⟨c, List.mem_append.2 (.inr h1), h2⟩
        | none => exact absurd (q.trans q2.symm) e
    have hm : c ∈ (l ++ n).filter (fun c => decide (look l c.f0 ≠ look n c.f0)) := List.mem_filter.2 ⟨hc, by rw [decide_eq_true_iff, hck]; exact e⟩
    have hp := List.length_pos_of_mem hm
    obtain ⟨m, hm⟩ : ∃ m, ((l ++ n).filter (fun c => decide (look l c.f0 ≠ look n c.f0))).length = m + 1 := ⟨_, (Nat.succ_pred_eq_of_pos hp).symm⟩
    rw [hm, compact_rep]
theorem great_l0 (l : List S42) : ∀ (d k i : Nat) (x : Int), 40 - i = d → i ≤ 40 → d < k → ∃ b, lockkeeperlaw30_great.l0 k l x (i : Int) = some b ∧ (b = false → l.length ≤ 40)
  | 0, k + 1, i, x, hd, hi, hk => by
    unfold lockkeeperlaw30_great.l0
    by_cases h1 : i < l.length
    · rw [if_pos (by omega), if_neg (by omega), if_pos (by omega)]
      exact ⟨true, rfl, fun q => by cases q⟩
    · rw [if_neg (by omega)]
      by_cases h2 : (l.length : Int) > 40
      · rw [if_pos h2]; exact ⟨true, rfl, fun q => by cases q⟩
      · rw [if_neg h2]; exact ⟨_, rfl, fun _ => by omega⟩
  | d + 1, k + 1, i, x, hd, hi, hk => by
    unfold lockkeeperlaw30_great.l0
    by_cases h1 : i < l.length
    · rw [if_pos (by omega), if_pos (by omega), if_pos (by omega)]
      have e1 : wrap64 ((i : Int) + 1) = ((i + 1 : Nat) : Int) := by rw [w64 (by omega) (by omega)]; omega
      rw [e1]
      exact great_l0 l d k (i + 1) _ (by omega) (by omega) (by omega)
    · rw [if_neg (by omega)]
      by_cases h2 : (l.length : Int) > 40
      · rw [if_pos h2]; exact ⟨true, rfl, fun q => by cases q⟩
      · rw [if_neg h2]; exact ⟨_, rfl, fun _ => by omega⟩
theorem great_eq (l : List S42) (k : Nat) (hk : 41 < k) : ∃ b, lockkeeperlaw30_great.f k l = some b ∧ (b = false → l.length ≤ 40) := great_l0 l 40 k 0 0 (by omega) (by omega) (by omega)
theorem point_lt : ∀ (a x : List UInt8), ¬ x < a → x < a ++ [0] → x = a
  | [], [], _, _ => rfl
  | [], x :: xs, _, h => by
    rw [List.nil_append, List.cons_lt_cons_iff] at h
    rcases h with h | ⟨_, h⟩
    · exact absurd h (by simp)
    · exact absurd h (by simp)
  | a :: t, [], h, _ => absurd (List.nil_lt_cons a t) h
  | a :: t, x :: xs, h, h2 => by
    rw [List.cons_append, List.cons_lt_cons_iff] at h2
    rw [List.cons_lt_cons_iff] at h
    rcases h2 with h2 | ⟨rfl, h2⟩
    · exact absurd (.inl h2) h
    · rw [point_lt t xs (fun q => h (.inr ⟨rfl, q⟩)) h2]
theorem lt_point : ∀ (a : List UInt8), a < a ++ [0]
  | [] => List.nil_lt_cons _ _
  | a :: t => by rw [List.cons_append, List.cons_lt_cons_iff]; exact .inr ⟨rfl, lt_point t⟩
theorem tl_app0 (a : ByteArray) : (a ++ (⟨#[0]⟩ : ByteArray)).toList = a.toList ++ [0] := by
  rw [Go.Lib.toList_data, Go.Lib.toList_data]
  simp
theorem span_point (key : ByteArray) (hs : key.size ≤ 512) (k : Nat) : span_Right.f (k + 2) key (key ++ (⟨#[0]⟩ : ByteArray)) true = some true := by
  unfold span_Right.f
  rw [if_neg (by omega), decide_eq_false (by rw [ByteArray.size_append, show (⟨#[0]⟩ : ByteArray).size = 1 from rfl]; omega), span_Right.j0, if_neg (by simp), if_pos rfl, span_Right.j1, (lss_iff _ _).2 (by rw [tl_app0]; exact lt_point _)]
  simp
theorem inside_point (key x : ByteArray) : inside key (key ++ (⟨#[0]⟩ : ByteArray)) true x = true ↔ x = key := by
  unfold inside
  simp only [Bool.and_eq_true, Bool.not_eq_true', Bool.true_and, Bool.not_not]
  rw [← Bool.not_eq_true, lss_iff]
  constructor
  · rintro ⟨h1, h2⟩
    rw [lss_iff, tl_app0] at h2
    exact tl_inj (point_lt _ _ h1 h2)
  · rintro rfl
    exact ⟨fun q => lt_irr q, by rw [lss_iff, tl_app0]; exact lt_point _⟩
end Go.Proofs.Ytoggblomknemoaa.Pure
