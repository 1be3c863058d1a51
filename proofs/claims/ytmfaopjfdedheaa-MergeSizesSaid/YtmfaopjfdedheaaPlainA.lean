/- Merge's laws, in plain Lean: every function that is reached answers, from some rounds on. -/
import Derived.Test.YtmfaopjfdedheaaAx10
namespace Go.Proofs.Ytmfaopjfdedheaa.Pure
open Go.RowKit Go.Proofs.Ytmfaopjfdedheaa.A Go.Proofs.YtmfaopjfdedheaaW.PrintWords Go.Proofs.YtmfaopjfdedheaaW.PrintLast Go.Proofs.YtmfaopjfdedheaaW.PrintMore
set_option linter.unusedVariables false
set_option linter.unusedSimpArgs false

/-- From some rounds on, the answer is r. -/
def Ev {α : Type} (f : Nat → Option α) (r : α) : Prop := ∃ K, ∀ k, K ≤ k → f k = some r
def Tot {α : Type} (f : Nat → Option α) : Prop := ∃ r, Ev f r
section
variable {α β : Type} {f g : Nat → Option α} {a r : α}
theorem Ev.const (r : α) : Ev (fun _ => some r) r := ⟨0, fun _ _ => rfl⟩
theorem Ev.bind {h : Nat → α → Option β} {b : β} (hf : Ev f a) (hg : Ev (fun k => h k a) b) : Ev (fun k => (f k).bind (h k)) b := by
  obtain ⟨K, hK⟩ := hf; obtain ⟨L, hL⟩ := hg
  exact ⟨K + L, fun k hk => by show (f k).bind (h k) = some b; rw [hK k (by omega)]; exact hL k (by omega)⟩
theorem Ev.succ (h : Ev g r) (e : ∀ k, f (k + 1) = g k) : Ev f r := by
  obtain ⟨K, hK⟩ := h
  refine ⟨K + 1, fun k hk => ?_⟩
  obtain ⟨j, rfl⟩ : ∃ j, k = j + 1 := ⟨k - 1, by omega⟩
  rw [e]; exact hK j (by omega)
theorem Ev.congr (h : Ev g r) (e : ∀ k, f k = g k) : Ev f r := by
  obtain ⟨K, hK⟩ := h; exact ⟨K, fun k hk => by rw [e]; exact hK k hk⟩
theorem Ev.of_mono {K : Nat} (h : f K = some r) (m : ∀ k, LeO (f k) (f (k + 1))) : Ev f r := by
  refine ⟨K, fun k hk => ?_⟩
  obtain ⟨d, rfl⟩ : ∃ d, k = K + d := ⟨k - K, by omega⟩
  induction d with
  | zero => exact h
  | succ d ih => exact m (K + d) _ (ih (by omega))
theorem Tot.const (r : α) : Tot (fun _ => some r) := ⟨r, Ev.const r⟩
theorem Tot.bind {h : Nat → α → Option β} (hf : Tot f) (hg : ∀ a, Ev f a → Tot (fun k => h k a)) : Tot (fun k => (f k).bind (h k)) := by
  obtain ⟨a, ha⟩ := hf; obtain ⟨b, hb⟩ := hg a ha
  exact ⟨b, ha.bind hb⟩
theorem Tot.succ (h : Tot g) (e : ∀ k, f (k + 1) = g k) : Tot f := by
  obtain ⟨r, h⟩ := h; exact ⟨r, h.succ e⟩
theorem Tot.congr (h : Tot g) (e : ∀ k, f k = g k) : Tot f := by
  obtain ⟨r, h⟩ := h; exact ⟨r, h.congr e⟩
theorem Tot.ite {c : Prop} [Decidable c] (h1 : c → Tot f) (h2 : ¬ c → Tot g) : Tot (fun k => if c then f k else g k) := by
  by_cases hc : c
  · exact (h1 hc).congr (fun k => if_pos hc)
  · exact (h2 hc).congr (fun k => if_neg hc)
end
def EvP {α : Type} (f : Nat → Option α) (p : α → Prop) : Prop := ∃ r, Ev f r ∧ p r
section
variable {α β : Type} {f g : Nat → Option α} {p : α → Prop} {q : β → Prop}
theorem Tot.evp (h : Tot f) : EvP f (fun _ => True) := h.elim fun r hr => ⟨r, hr, trivial⟩
theorem EvP.const {r : α} (h : p r) : EvP (fun _ => some r) p := ⟨r, Ev.const r, h⟩
theorem EvP.bind {h : Nat → α → Option β} (hf : EvP f p) (hg : ∀ a, p a → EvP (fun k => h k a) q) : EvP (fun k => (f k).bind (h k)) q := by
  obtain ⟨a, ha, pa⟩ := hf; obtain ⟨b, hb, qb⟩ := hg a pa
  exact ⟨b, ha.bind hb, qb⟩
theorem EvP.ite {c : Prop} [Decidable c] (h1 : c → EvP f p) (h2 : ¬ c → EvP g p) : EvP (fun k => if c then f k else g k) p := by
  by_cases hc : c
  · obtain ⟨r, hr, pr⟩ := h1 hc; exact ⟨r, hr.congr (fun k => if_pos hc), pr⟩
  · obtain ⟨r, hr, pr⟩ := h2 hc; exact ⟨r, hr.congr (fun k => if_neg hc), pr⟩
theorem EvP.succ (h : EvP g p) (e : ∀ k, f (k + 1) = g k) : EvP f p := by
  obtain ⟨r, hr, pr⟩ := h; exact ⟨r, hr.succ e, pr⟩
theorem EvP.congr (h : EvP g p) (e : ∀ k, f k = g k) : EvP f p := by
  obtain ⟨r, hr, pr⟩ := h; exact ⟨r, hr.congr e, pr⟩
end
theorem w1 {i : Nat} (h : i < 4611686018427387904) : wrap64 ((i : Int) + 1) = ((i + 1 : Nat) : Int) := by unfold wrap64; omega

theorem errno_tot (x : Int) (l : List Int) (hl : l.length < 4611686018427387904) : ∀ n (i : Nat), l.length - i = n → i ≤ l.length → Tot (fun k => api_Errno.l0 k x l (l.length : Int) (i : Int)) := by
  intro n; induction n with
  | zero =>
    intro i h1 h2
    exact (Tot.const true).succ (fun k => by simp only [api_Errno.l0]; rw [if_neg (by omega)])
  | succ n ih =>
    intro i h1 h2
    exact (Tot.ite (c := rd l (i : Int) = x) (fun _ => ih (i + 1) (by omega) (by omega)) (fun _ => Tot.const false)).succ (fun k => by
      simp only [api_Errno.l0]; rw [if_pos (by omega), if_pos (by omega), if_pos (by omega), w1 (by omega)])
theorem every_tot (x : Bool) (l : List Bool) (hl : l.length < 4611686018427387904) : ∀ n (i : Nat), l.length - i = n → i ≤ l.length → Tot (fun k => merge_every_bool.l0 k x l (l.length : Int) (i : Int)) := by
  intro n; induction n with
  | zero =>
    intro i h1 h2
    exact (Tot.const true).succ (fun k => by simp only [merge_every_bool.l0]; rw [if_neg (by omega)])
  | succ n ih =>
    intro i h1 h2
    exact (Tot.ite (c := (rdOf false l (i : Int) != x) = true) (fun _ => Tot.const false) (fun _ => ih (i + 1) (by omega) (by omega))).succ (fun k => by
      simp only [merge_every_bool.l0]; rw [if_pos (by omega), if_pos (by omega), if_pos (by omega), w1 (by omega)])
theorem span_tot (a b : ByteArray) (c : Bool) : Tot (fun k => span_Right.f k a b c) := by
  have h1 : ∀ x, Tot (fun k => span_Right.j1 k x a b c) := fun x =>
    (Tot.ite (c := x = true) (fun _ => Tot.const false) (fun _ => Tot.ite (c := c = true) (fun _ => Tot.const true) (fun _ => Tot.ite (c := b.toList = ([] : List UInt8)) (fun _ => Tot.const true) (fun _ => Tot.const false)))).succ (fun k => by simp only [span_Right.j1])
  have h0 : ∀ x, Tot (fun k => span_Right.j0 k x a b c) := fun x =>
    (Tot.ite (c := x = true) (fun _ => Tot.const false) (fun _ => Tot.ite (c := c = true) (fun _ => h1 (!Op.bytesLess a.toList b.toList)) (fun _ => h1 false))).succ (fun k => by simp only [span_Right.j0])
  unfold span_Right.f
  exact Tot.ite (fun _ => h0 _) (fun _ => h0 _)
theorem lright_tot (a : Int) (l : List Int) (hl : l.length < 4611686018427387904) : Tot (fun k => lsns_Right.f k a l) := by
  have h : ∀ n (i : Nat) x, l.length - i = n → i ≤ l.length → Tot (fun k => lsns_Right.l0 k x l (l.length : Int) (i : Int) a l) := by
    intro n; induction n with
    | zero =>
      intro i x h1 h2
      exact (Tot.const _).succ (fun k => by simp only [lsns_Right.l0]; rw [if_neg (by omega)])
    | succ n ih =>
      intro i x h1 h2
      exact (Tot.ite (c := rd l (i : Int) ≤ x) (fun _ => Tot.const false) (fun _ => ih (i + 1) _ (by omega) (by omega))).succ (fun k => by
        simp only [lsns_Right.l0]; rw [if_pos (by omega), if_pos (by omega), if_pos (by omega), w1 (by omega)])
  exact h _ 0 a rfl (Nat.zero_le _)
theorem lmost_tot (a : Int) (l : List Int) (hl : l.length < 4611686018427387904) : Tot (fun k => lsns_Most.f k a l) := by
  unfold lsns_Most.f
  refine (lright_tot a l hl).bind (fun t _ => Tot.ite (fun _ => Tot.ite (fun h0 => ?_) (fun _ => Tot.const _)) (fun _ => Tot.const _))
  have e : wrap64 ((l.length : Int) - 1) = (l.length : Int) - 1 := by unfold wrap64; omega
  exact (Tot.const _).congr (fun k => by rw [e, if_pos (by omega), if_pos (by omega)])
theorem cright_tot (l : List S42) (hl : l.length < 4611686018427387904) : Tot (fun k => cells_Right.f k l) := by
  have h : ∀ n (i : Nat), l.length - i = n → i ≤ l.length → Tot (fun k => cells_Right.l0 k l l (l.length : Int) (i : Int)) := by
    intro n; induction n with
    | zero =>
      intro i h1 h2
      exact (Tot.const true).succ (fun k => by simp only [cells_Right.l0]; rw [if_neg (by omega)])
    | succ n ih =>
      intro i h1 h2
      have hs := ih (i + 1) (by omega) (by omega)
      have hc : Tot (fun _ => cells_cell_right.f ((rd_T42 l (i : Int)).f0) ((rd_T42 l (i : Int)).f1)) := by
        unfold cells_cell_right.f
        exact Tot.ite (fun _ => Tot.const _) (fun _ => Tot.const _)
      by_cases h0 : 0 < i
      · have e : wrap64 ((i : Int) - 1) = (i : Int) - 1 := by unfold wrap64; omega
        exact (hc.bind (h := fun k t => if t = true then (if Op.bytesLess (rd_T42 l ((i : Int) - 1)).f0.toList (rd_T42 l (i : Int)).f0.toList = true then cells_Right.l0 k l l (l.length : Int) ((i + 1 : Nat) : Int) else some false) else some false)
          (fun t _ => Tot.ite (fun _ => Tot.ite (fun _ => hs) (fun _ => Tot.const false)) (fun _ => Tot.const false))).succ (fun k => by
          simp only [cells_Right.l0]; rw [if_pos (by omega), if_pos (by omega), if_pos (by omega), w1 (by omega), if_pos (by omega), e, if_pos (by omega), if_pos (by omega)])
      · exact (hc.bind (h := fun k t => if t = true then cells_Right.l0 k l l (l.length : Int) ((i + 1 : Nat) : Int) else some false)
          (fun t _ => Tot.ite (fun _ => hs) (fun _ => Tot.const false))).succ (fun k => by
          simp only [cells_Right.l0]; rw [if_pos (by omega), if_pos (by omega), if_pos (by omega), w1 (by omega), if_neg (by omega)])
  exact h _ 0 rfl (Nat.zero_le _)
theorem cpart_tot (l : List S42) (a b : ByteArray) (c : Bool) (hl : l.length < 4398046511104) : Tot (fun k => cells_Part.f k l a b c) := by
  unfold cells_Part.f
  exact (cright_tot l (by omega)).bind (fun t _ => Tot.ite (fun _ => (span_tot a b c).bind (fun s _ => (Tot.const _).congr (fun k => if_pos hl))) (fun _ => Tot.const _))
theorem leaf_tot (l : List S42) (hl : l.length < 4611686018427387904) : ∀ n (i : Nat), l.length - i = n → i ≤ l.length → Tot (fun k => page_leaf.l0 k l (l.length : Int) (i : Int)) := by
  intro n; induction n with
  | zero =>
    intro i h1 h2
    exact (Tot.const true).succ (fun k => by simp only [page_leaf.l0]; rw [if_neg (by omega)])
  | succ n ih =>
    intro i h1 h2
    exact (Tot.ite (c := ((rd_T42 l (i : Int)).f0.size : Int) > 512) (fun _ => Tot.const false) (fun _ => ih (i + 1) (by omega) (by omega))).succ (fun k => by
      simp only [page_leaf.l0]; rw [if_pos (by omega), if_pos (by omega), if_pos (by omega), w1 (by omega)])
theorem wide8 : Ev (fun k => octet_wide.f k 8 8) true := by
  have h8 : Ev (fun k => octet_wide.l0 k 8 8 8) true := (Ev.const true).succ (fun k => by simp [octet_wide.l0])
  have h4 : Ev (fun k => octet_wide.l0 k 8 8 4) true := h8.succ (fun k => by simp [octet_wide.l0, wrap64])
  have h2 : Ev (fun k => octet_wide.l0 k 8 8 2) true := h4.succ (fun k => by simp [octet_wide.l0, wrap64])
  exact h2.succ (fun k => by simp [octet_wide.f, octet_wide.l0, wrap64])
theorem lay8_tot (a : Int) : ∀ n (i : Nat) (l : List Int), l.length = 8 → 8 - i = n → i ≤ 8 → Tot (fun k => octet_lay.l0 k l a 8 (i : Int)) := by
  intro n; induction n with
  | zero =>
    intro i l hl h1 h2
    exact (Tot.const l).succ (fun k => by simp only [octet_lay.l0]; rw [if_neg (by omega)])
  | succ n ih =>
    intro i l hl h1 h2
    have e1 : 0 ≤ wrap64 (8 * (i : Int)) := by unfold wrap64; omega
    have e2 : wrap64 (wrap64 ((l.length : Int) - 1) - (i : Int)) = 7 - (i : Int) := by rw [hl]; unfold wrap64; omega
    exact (ih (i + 1) (l.set (7 - (i : Int)).toNat (shr .u64 a (wrap64 (8 * (i : Int))) % 256)) (by rw [List.length_set]; exact hl) (by omega) (by omega)).succ (fun k => by
      simp only [octet_lay.l0]; rw [e2, if_pos (by omega), if_pos e1, if_pos (by omega), if_pos (by omega), w1 (by omega)])
theorem kid_tot (a : Int) : Tot (fun k => page_Kid.f k a) := by
  unfold page_Kid.f
  refine Tot.ite (fun _ => Tot.const _) (fun _ => Tot.ite (fun _ => Tot.const _) (fun _ => Tot.bind ?_ (fun t _ => Tot.const _)))
  unfold octet_Put.f
  refine Tot.bind ⟨_, wide8⟩ (fun t _ => Tot.ite (fun _ => ?_) (fun _ => ?_))
  · refine Tot.bind (f := fun _ => octet_grown.f [] 8) ⟨List.replicate 8 0, (Ev.const _).congr (fun k => by simp [octet_grown.f])⟩ (fun t ht => Tot.bind ?_ (fun _ _ => Tot.const _))
    obtain ⟨K, hK⟩ := ht
    have h := hK K (Nat.le_refl _)
    have : t = List.replicate 8 0 := by
      have e : octet_grown.f [] 8 = some (List.replicate 8 0) := by simp [octet_grown.f]
      exact (Option.some.inj (e.symm.trans h)).symm
    subst this
    exact lay8_tot a _ 0 _ (by simp) rfl (by omega)
  · exact Tot.bind (f := fun _ => octet_grown.f [] 0) ⟨[], (Ev.const _).congr (fun k => by simp [octet_grown.f])⟩ (fun _ _ => Tot.const _)
theorem id_tot (a : ByteArray) (ha : a.size < 140737488355328) : Tot (fun k => page_Id.f k a) := by
  have hb : Tot (fun k => (page_Kid.f k (rdN a 0 false 8)).bind fun t => if t.2 = 0 ∧ t.1.toList = a.toList then some (rdN a 0 false 8, (0 : Int)) else some (0, 110)) := (kid_tot (rdN a 0 false 8)).bind (fun t _ => Tot.ite (fun _ => Tot.const _) (fun _ => Tot.const _))
  obtain ⟨r, K, hK⟩ := hb
  obtain ⟨L, hL⟩ := wide8
  refine ⟨r, K + L, fun k hk => ?_⟩
  have e1 := hK k (by omega)
  have e2 : octet_wide.f k 8 8 = some true := hL k (by omega)
  show page_Id.f k a = some r
  unfold page_Id.f
  rw [if_pos ⟨ha, e2⟩]
  exact e1
def okc (l : List S42) : Prop := ∀ x ∈ l, x.f0.size ≤ 140737488351232 ∧ x.f1.size ≤ 140737488351232
theorem okc_rd {l : List S42} (h : okc l) {i : Nat} (hi : i < l.length) : (rd_T42 l (i : Int)).f0.size ≤ 140737488351232 ∧ (rd_T42 l (i : Int)).f1.size ≤ 140737488351232 := by
  have e : rd_T42 l (i : Int) = l[i] := by unfold rd_T42; simp [hi]
  rw [e]; exact h _ (List.getElem_mem hi)
theorem inner_tot (l : List S42) (hl : l.length < 4611686018427387904) (ho : okc l) (a0 a1 a2 : Int) (a3 a4 : ByteArray) (a5 : Bool) (a6 a7 : Int) (s : List Int) : ∀ n (i : Nat), l.length - i = n → i ≤ l.length → Tot (fun k => page_inner.l0 k l (l.length : Int) (i : Int) a0 a1 a2 a3 a4 a5 a6 a7 s l) := by
  intro n; induction n with
  | zero =>
    intro i h1 h2
    refine Tot.succ (g := fun _ => if a7 = 0 then (if (s.length : Int) = 0 then (if (l.length : Int) > 0 then (if 0 < (l.length : Int) then (some (((rd_T42 l 0).f0).toList == a3.toList)) else (none)) else (some false)) else (some false)) else (some false)) ?_ (fun k => by simp only [page_inner.l0]; rw [if_neg (by omega)])
    exact Tot.ite (fun _ => Tot.ite (fun _ => Tot.ite (fun h => (Tot.const _).congr (fun k => if_pos h)) (fun _ => Tot.const _)) (fun _ => Tot.const _)) (fun _ => Tot.const _)
  | succ n ih =>
    intro i h1 h2
    exact (Tot.bind (f := fun k => page_Id.f k (rd_T42 l (i : Int)).f1) (h := fun k bt => if bt.2 = 0 then page_inner.l0 k l (l.length : Int) ((i + 1 : Nat) : Int) a0 a1 a2 a3 a4 a5 a6 a7 s l else some false)
      (id_tot _ (by have := (okc_rd ho (i := i) (by omega)).2; omega)) (fun bt _ => Tot.ite (fun _ => ih (i + 1) (by omega) (by omega)) (fun _ => Tot.const false))).succ (fun k => by
      simp only [page_inner.l0]; rw [if_pos (by omega), if_pos (by omega), if_pos (by omega), w1 (by omega)])
/-- A page that is small enough is checked. -/
theorem check_tot (a0 a1 a2 : Int) (a3 a4 : ByteArray) (a5 : Bool) (a6 a7 : Int) (s : List Int) (l : List S42) (hs : s.length < 4611686018427387904) (hl : l.length < 4398046511104) (ho : okc l) : Tot (fun k => page_Check.f k a0 a1 a2 a3 a4 a5 a6 a7 s l) := by
  unfold page_Check.f page_Check_3 page_Check_4 page_Check_5 page_Check_6 page_Check_7
  refine Tot.ite (fun _ => Tot.bind ((span_tot a3 a4 a5).bind fun _ _ => Tot.const _) fun _ _ => Tot.ite (fun _ => Tot.bind ((lright_tot a7 s hs).bind fun _ _ => Tot.ite (fun _ => (lmost_tot a7 s hs).bind fun _ _ => Tot.const _) (fun _ => Tot.const _)) fun _ _ => Tot.ite (fun _ => Tot.bind ((cright_tot l (by omega)).bind fun _ _ => Tot.ite (fun _ => (cpart_tot l a3 a4 a5 hl).bind fun _ _ => Tot.const _) (fun _ => Tot.const _)) fun _ _ => Tot.ite (fun _ => Tot.bind ?_ fun _ _ => Tot.ite (fun _ => Tot.bind ?_ fun _ _ => Tot.ite (fun _ => Tot.const _) (fun _ => Tot.const _)) (fun _ => Tot.const _)) (fun _ => Tot.const _)) (fun _ => Tot.const _)) (fun _ => Tot.const _)) (fun _ => Tot.const _)
  · exact Tot.ite (fun _ => Tot.const _) (fun _ => leaf_tot l (by omega) _ 0 rfl (Nat.zero_le _))
  · exact Tot.ite (fun _ => Tot.const _) (fun _ => inner_tot l (by omega) ho a0 a1 a2 a3 a4 a5 a6 a7 s _ 0 rfl (Nat.zero_le _))
theorem errno2_tot (x y : Int) : Tot (fun k => api_Errno.f k 0 ([x, y] : List Int)) := errno_tot 0 [x, y] (by simp) _ 0 rfl (Nat.zero_le _)
theorem beside_tot (a0 a1 a2 : Int) (a3 a4 : ByteArray) (a5 : Bool) (a6 a7 : Int) (s : List Int) (l : List S42) (b0 b1 b2 : Int) (b3 b4 : ByteArray) (b5 : Bool) (b6 b7 : Int) (s' : List Int) (l' : List S42)
    (hs : s.length < 4611686018427387904) (hl : l.length < 4398046511104) (ho : okc l) (hs' : s'.length < 4611686018427387904) (hl' : l'.length < 4398046511104) (ho' : okc l') : Tot (fun k => merge_Beside.f k a0 a1 a2 a3 a4 a5 a6 a7 s l b0 b1 b2 b3 b4 b5 b6 b7 s' l') := by
  unfold merge_Beside.f
  exact (check_tot a0 a1 a2 a3 a4 a5 a6 a7 s l hs hl ho).bind fun _ _ => (check_tot b0 b1 b2 b3 b4 b5 b6 b7 s' l' hs' hl' ho').bind fun _ _ => (errno2_tot _ _).bind fun _ _ => Tot.ite (fun _ => (every_tot true _ (by simp) _ 0 rfl (Nat.zero_le _)).bind fun _ _ => Tot.const _) (fun _ => Tot.const _)
/-- Both sizes come to the same. -/
theorem size_ev (l : List S42) (hl : l.length ≤ 60) (ho : okc l) : ∃ r, Ev (fun k => cells_Size.f k l) r ∧ Ev (fun k => lockkeeperref10_Size.f k l) r ∧ 0 ≤ r ∧ r ≤ 20000000000000000 := by
  have h : ∀ n (i : Nat) (x : Int), l.length - i = n → i ≤ l.length → 0 ≤ x → x ≤ (i : Int) * 300000000000000 → ∃ r, Ev (fun k => cells_Size.l0 k x l (l.length : Int) (i : Int)) r ∧ Ev (fun k => lockkeeperref10_Size.l0 k l x (i : Int)) r ∧ 0 ≤ r ∧ r ≤ 20000000000000000 := by
    intro n; induction n with
    | zero =>
      intro i x h1 h2 h3 h4
      exact ⟨x, (Ev.const x).succ (fun k => by simp only [cells_Size.l0]; rw [if_neg (by omega)]), (Ev.const x).succ (fun k => by simp only [lockkeeperref10_Size.l0]; rw [if_neg (by omega)]), h3, by omega⟩
    | succ n ih =>
      intro i x h1 h2 h3 h4
      have hb := okc_rd ho (i := i) (by omega)
      generalize hc : rd_T42 l (i : Int) = c at hb
      obtain ⟨r, e1, e2, h5, h6⟩ := ih (i + 1) (x + (4 + c.f0.size + c.f1.size : Nat)) (by omega) (by omega) (by omega) (by omega)
      refine ⟨r, e1.succ (fun k => ?_), e2.succ (fun k => ?_), h5, h6⟩
      · have e : wrap64 (x + wrap64 (wrap64 (4 + (c.f0.size : Int)) + (c.f1.size : Int))) = x + ((4 + c.f0.size + c.f1.size : Nat) : Int) := by unfold wrap64; omega
        simp only [cells_Size.l0, cells_cell_size.f, hc, Option.bind_some]
        rw [if_pos (by omega), if_pos (by omega), if_pos (by omega), w1 (by omega), e]
      · have e : wrap64 (wrap64 (wrap64 (x + 4) + (c.f0.size : Int)) + (c.f1.size : Int)) = x + ((4 + c.f0.size + c.f1.size : Nat) : Int) := by unfold wrap64; omega
        simp only [lockkeeperref10_Size.l0, hc]
        rw [if_pos (by omega), if_pos (by omega), w1 (by omega), e]
  exact h _ 0 0 rfl (Nat.zero_le _) (Int.le_refl _) (by simp)
/-- A small page has few cells and few numbers. -/
theorem small_ev (a0 a1 a2 : Int) (a3 a4 : ByteArray) (a5 : Bool) (a6 a7 : Int) (s : List Int) (l : List S42) (hl : l.length < 4611686018427387904) : EvP (fun k => lockkeeperref11_Small.f k a0 a1 a2 a3 a4 a5 a6 a7 s l) (fun r => r = true → l.length ≤ 60 ∧ s.length ≤ 1100) := by
  have hend : ∀ x : Int, EvP (fun _ => if (l.length : Int) ≤ 60 then (if (s.length : Int) ≤ 1100 then some (decide (x ≤ 30000)) else some false) else some false) (fun r => r = true → l.length ≤ 60 ∧ s.length ≤ 1100) := fun x =>
    EvP.ite (fun h1 => EvP.ite (fun h2 => EvP.const (fun _ => ⟨by omega, by omega⟩)) (fun _ => EvP.const (fun h => by cases h))) (fun _ => EvP.const (fun h => by cases h))
  have h : ∀ n (i : Nat) (x : Int), l.length - i = n → i ≤ l.length → EvP (fun k => lockkeeperref11_Small.l0 k x (i : Int) a0 a1 a2 a3 a4 a5 a6 a7 s l) (fun r => r = true → l.length ≤ 60 ∧ s.length ≤ 1100) := by
    intro n; induction n with
    | zero =>
      intro i x h1 h2
      exact (hend x).succ (fun k => by simp only [lockkeeperref11_Small.l0]; rw [if_neg (by omega)])
    | succ n ih =>
      intro i x h1 h2
      by_cases h60 : (i : Int) < 60
      · exact (ih (i + 1) (wrap64 ((wrap64 (x + (((rd_T42 l (i : Int)).f0).size : Int))) + (((rd_T42 l (i : Int)).f1).size : Int))) (by omega) (by omega)).succ (fun k => by simp only [lockkeeperref11_Small.l0]; rw [if_pos (by omega), if_pos h60, if_pos (by omega), w1 (by omega)])
      · exact (hend x).succ (fun k => by simp only [lockkeeperref11_Small.l0]; rw [if_pos (by omega), if_neg h60])
  exact h _ 0 _ rfl (Nat.zero_le _)
theorem same_ev (l : List S42) (hl : l.length < 4611686018427387904) : Ev (fun k => lockkeeperref10_Same.f k l l) true := by
  have h : ∀ n (i : Nat), l.length - i = n → i ≤ l.length → Ev (fun k => lockkeeperref10_Same.l0 k l l (i : Int)) true := by
    intro n; induction n with
    | zero =>
      intro i h1 h2
      exact (Ev.const true).succ (fun k => by simp only [lockkeeperref10_Same.l0]; rw [if_neg (by omega)])
    | succ n ih =>
      intro i h1 h2
      exact (ih (i + 1) (by omega) (by omega)).succ (fun k => by simp only [lockkeeperref10_Same.l0]; rw [if_pos (by omega), if_pos (by omega), if_pos (by omega), w1 (by omega), if_neg (by simp)])
  exact (h _ 0 rfl (Nat.zero_le _)).congr (fun k => if_pos rfl)
theorem raised_ev (a : Int) (l : List Int) (n : Int) (hl : l.length < 17592186044416) : EvP (fun k => merge_set_raised.f k a l n) (fun r => r.2.length ≤ l.length) := by
  unfold merge_set_raised.f lsns_Raise.f
  refine EvP.bind (p := fun r : Int × List Int × Int => r.2.1.length ≤ l.length) ((lright_tot a l (by omega)).evp.bind fun t _ => EvP.ite (fun _ => (EvP.const (p := fun r : Int × List Int × Int => r.2.1.length ≤ l.length) ?_).congr (fun k => if_pos hl)) (fun _ => EvP.const (Nat.zero_le _))) (fun r h => EvP.const h)
  exact List.length_filter_le _ _
theorem ljoin_tot (a : Int) (l : List Int) (b : Int) (m : List Int) (h : l.length + m.length < 17592186044416) : Tot (fun k => lsns_Join.f k a l b m) := by
  unfold lsns_Join.f
  exact (lright_tot a l (by omega)).bind fun _ _ => (lright_tot b m (by omega)).bind fun _ _ => Tot.ite (fun _ => Tot.ite (fun _ => (Tot.ite (c := 1000 < (lsns_Join_l l m).length) (fun _ => Tot.const _) (fun _ => Tot.const _)).congr (fun k => if_pos h)) (fun _ => Tot.const _)) (fun _ => Tot.const _)
theorem join_ev (a0 a1 a2 : Int) (a3 a4 : ByteArray) (a5 : Bool) (a6 a7 : Int) (s : List Int) (l : List S42) (b0 b1 b2 : Int) (b3 b4 : ByteArray) (b5 : Bool) (b6 b7 : Int) (s' : List Int) (l' : List S42) (low dsn : Int) (is : Bool)
    (hs : s.length ≤ 1100) (hl : l.length ≤ 60) (ho : okc l) (hs' : s'.length ≤ 1100) (hl' : l'.length ≤ 60) (ho' : okc l') (hB : Ev (fun k => merge_Beside.f k a0 a1 a2 a3 a4 a5 a6 a7 s l b0 b1 b2 b3 b4 b5 b6 b7 s' l') is) :
    EvP (fun k => merge_Join.f k a0 a1 a2 a3 a4 a5 a6 a7 s l b0 b1 b2 b3 b4 b5 b6 b7 s' l' low dsn) (fun r => r.2.2.2.2.2.2.2.2.2.2 = 0 → is = true ∧ r.1 = a0 ∧ r.2.1 = b1 ∧ r.2.2.1 = a2 ∧ r.2.2.2.1 = a3 ∧ r.2.2.2.2.1 = b4 ∧ r.2.2.2.2.2.1 = b5 ∧ r.2.2.2.2.2.2.1 = dsn ∧ r.2.2.2.2.2.2.2.2.2.1 = l ++ l') := by
  have h1 : is = true → ∀ x c, EvP (fun k => merge_Join.j1 k low x a0 a1 a2 a3 a4 a5 a6 a7 s l b0 b1 b2 b3 b4 b5 b6 b7 s' l' a0 b1 a2 a3 b4 b5 dsn a7 c (l ++ l')) (fun r => r.2.2.2.2.2.2.2.2.2.2 = 0 → is = true ∧ r.1 = a0 ∧ r.2.1 = b1 ∧ r.2.2.1 = a2 ∧ r.2.2.2.1 = a3 ∧ r.2.2.2.2.1 = b4 ∧ r.2.2.2.2.2.1 = b5 ∧ r.2.2.2.2.2.2.1 = dsn ∧ r.2.2.2.2.2.2.2.2.2.1 = l ++ l') := by
    intro hi x c
    refine EvP.succ ?_ (fun k => rfl)
    simp only [merge_Join.j1]
    exact EvP.ite (fun _ => EvP.const (fun h => absurd h (by decide))) (fun _ => (raised_ev a7 s low (by omega)).bind fun r1 e1 => (raised_ev b7 s' low (by omega)).bind fun r2 e2 => (ljoin_tot r1.1 r1.2 r2.1 r2.2 (by omega)).evp.bind fun r3 _ => EvP.ite (fun _ => EvP.const (fun _ => ⟨hi, rfl, rfl, rfl, rfl, rfl, rfl, rfl, rfl⟩)) (fun hn => EvP.const (fun h => absurd h hn)))
  have h0 : ∀ x, EvP (fun k => merge_Join.j0 k low dsn x a0 a1 a2 a3 a4 a5 a6 a7 s l b0 b1 b2 b3 b4 b5 b6 b7 s' l') (fun r => r.2.2.2.2.2.2.2.2.2.2 = 0 → is = true ∧ r.1 = a0 ∧ r.2.1 = b1 ∧ r.2.2.1 = a2 ∧ r.2.2.2.1 = a3 ∧ r.2.2.2.2.1 = b4 ∧ r.2.2.2.2.2.1 = b5 ∧ r.2.2.2.2.2.2.1 = dsn ∧ r.2.2.2.2.2.2.2.2.2.1 = l ++ l') := by
    intro x
    refine EvP.succ ?_ (fun k => rfl)
    simp only [merge_Join.j0]
    refine EvP.ite (fun _ => EvP.const (fun h => absurd h (by decide))) (fun _ => EvP.bind (p := fun t => t = is) ⟨is, hB, rfl⟩ fun t ht => ?_)
    subst ht
    refine EvP.ite (fun hi => EvP.bind (f := fun _ => slices_Clone_uint64_uint64.f s) (p := fun _ => True) ⟨s, (Ev.const s).congr (fun k => if_pos (by omega)), trivial⟩ fun c _ => EvP.bind (f := fun k => api_Cell.f k l l') (p := fun y => y = l ++ l') ⟨l ++ l', (Ev.const _).congr (fun k => if_pos (by omega)), rfl⟩ fun y hy => ?_) (fun _ => EvP.const (fun h => absurd h (by decide)))
    subst hy
    exact EvP.ite (fun _ => EvP.const (fun _ => ⟨hi, rfl, rfl, rfl, rfl, rfl, rfl, rfl, rfl⟩)) (fun _ => EvP.ite (fun _ => h1 hi _ _) (fun _ => h1 hi _ _))
  unfold merge_Join.f
  exact (check_tot a0 a1 a2 a3 a4 a5 a6 a7 s l (by omega) (by omega) ho).evp.bind fun _ _ => (check_tot b0 b1 b2 b3 b4 b5 b6 b7 s' l' (by omega) (by omega) ho').evp.bind fun _ _ => (errno2_tot _ _).evp.bind fun _ _ => EvP.ite (fun _ => EvP.ite (fun _ => h0 _) (fun _ => h0 _)) (fun _ => h0 _)
theorem head_ev : Ev (fun k => lockkeeperlaw16_head.f k) true := ⟨40, fun k hk => if_pos hk⟩
end Go.Proofs.Ytmfaopjfdedheaa.Pure
