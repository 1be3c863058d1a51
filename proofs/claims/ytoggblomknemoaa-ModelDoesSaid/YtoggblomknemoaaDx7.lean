-- PRINTED by print.py (a twelfth state) out of the translation. Not trusted: Lean checks it.
import Derived.Test.YtoggblomknemoaaMv
import Derived.Test.YtoggblomknemoaaDx0
namespace Go.Proofs.Ytoggblomknemoaa.D
open Go.RowKit Go.Proofs.YtoggblomknemoaaW Go.Proofs.YtoggblomknemoaaW.PrintWords Go.Proofs.YtoggblomknemoaaW.PrintLast Go.Proofs.YtoggblomknemoaaW.PrintMore
attribute [local go_sem] GpMore.bytes_le max2_int min2_int max_two min_two max_three min_three max_four min_four   -- for this text's walks alone
set_option linter.unusedVariables false
set_option linter.unusedSimpArgs false

/-! ### lockkeeperref10_Copy: function 16 -/
def lockkeeperref10_Copy.f (l0 : List (S42)) : Option ((List (S42))) := if ([] : List (S42)).length + l0.length < 4398046511104 then (some (([] : List (S42)) ++ l0)) else (none)
set_option maxHeartbeats 8000000 in
set_option maxRecDepth 100000 in
theorem lockkeeperref10_Copy.calls (A0 : Option Addr) (c0 : Nat) (l0 : List (S42)) (r : List (S42)) (w : World) (hr0 : Kd.C k42 w A0 l0.length l0) (hc0 : l0.length ≤ c0) (h : lockkeeperref10_Copy.f l0 = some r) :
    Calls Try.prog 16 #[.slice A0 l0.length c0] w fun e w' => ∃ v0_ : Value, e = .returned (v0_) ∧ Kd.R k42 42 w' w.heap.size (fun _ => True) v0_ r ∧ Below w.heap.size w w' := by
  (have HR0 := Aside0.mk hr0); (have HC0 := Aside0.mk hc0); (clear hr0 hc0); (have HB := Aside0.mk (Below.refl w.heap.size w)); (have H : (if ([] : List (S42)).length + l0.length < 4398046511104 then (some (([] : List (S42)) ++ l0)) else (none)) = some r := h); (clear h); (by_cases c2 : ([] : List (S42)).length + l0.length < 4398046511104)
  · (rw [if_pos c2] at H); (have LMc2 := Aside0.mk c2); (clear c2); (obtain ⟨y234, hy234⟩ : ∃ y_ : List (S42), y_ = (([] : List (S42)) ++ l0) := ⟨_, rfl⟩); (replace H : (some y234) = some r := by first | (rw [hy234]; with_reducible exact H) | (have H2_ := (Option.bind_some _ _).symm.trans H; rw [hy234]; with_reducible exact H2_) | (have H2_ := (Option.bind_some _ _).symm.trans H; with_reducible exact H2_) | with_reducible exact H | (rw [hy234]; exact H) | exact H); (have Ny234 := Aside0.mk hy234); (clear hy234); (obtain rfl := Option.some.inj H); (go_enter Try.func16, Try.ntmps16); (go_wp2_with (first | ((with_reducible refine gate_builtin (b := .append) (xs := #[.tmp 4, .tmp 5]) rfl ?_); at_builtin; refine Kd.R_append_rows k42 (w0 := w) w.heap.size rfl (.tmp 4) (.tmp 5) 22 42 (.agg #[(.string ⟨#[]⟩), (.string ⟨#[]⟩)]) 32 rfl Try.underlying22 info42 rfl (by decide) (by omega) (.slice none 0 0) ([] : List (S42)) l0 _ _ _ (fun _ => True) (fun _ => False) rfl rfl ?aO ?aR (fun _ _ h => h) (fun _ h => h.elim) ?aF ?aB ?aS ?aL ?_; (case aR => repeat (first | exact HR0.out | (with_reducible refine Kd.C_alloc ?_ _) | (with_reducible refine Kd.C_drewN ?_ _) | (with_reducible refine Kd.C_drew ?_))); (case aB => exact (mvW HB.out)); (case aF => exact (fun _ _ => trivial)); (case aO => exact ((Kd.R_nil _ _ _ _ (fun _ => True)))); (case aS => exact (below_size (mvW HB.out))); (case aL => have := LMc2.out; omega); intro v235 w3 ho hb hg hat; rw [← Ny234.out] at ho; replace HB := Aside0.mk (hb); have HO236 := Aside0.mk (ho); clear ho hb hg hat))); (go_ret); (exact ⟨_, by first | rfl | (simp [errW_none, errW_some] <;> rfl) | (simp [*, errW_none, errW_some] <;> rfl), by (with_reducible repeat (first | apply Kd.R_alloc | apply Kd.R_drewN | apply Kd.R_drew)); exact HO236.out, by repeat (first | (with_reducible first | exact HB.out | apply below_alloc | apply pw_below_drewN | apply below_drew1) | exact HB.out)⟩)
  · (rw [if_neg c2] at H); (exact absurd H (by simp))

/-! ### lockkeeperref10_fits: function 27 -/
def lockkeeperref10_fits.f (a0_0 : ByteArray) (a0_1 : ByteArray) : Option (Bool) := if (a0_0.size : Int) ≤ 513 then (some (decide ((a0_1.size : Int) ≤ 2048))) else (some false)
set_option maxHeartbeats 8000000 in
set_option maxRecDepth 100000 in
theorem lockkeeperref10_fits.calls (a0_0 : ByteArray) (a0_1 : ByteArray) (r : Bool) (w : World) (h : lockkeeperref10_fits.f a0_0 a0_1 = some r) :
    Calls Try.prog 27 #[.agg #[.string a0_0, .string a0_1]] w fun e w' => e = .returned (.bool r) ∧ Below w.heap.size w w' := by
  (have hu42 := Try.underlying42); (have HB := Aside0.mk (Below.refl w.heap.size w)); (have H : (if (a0_0.size : Int) ≤ 513 then (some (decide ((a0_1.size : Int) ≤ 2048))) else (some false)) = some r := h); (clear h); (by_cases c2 : (a0_0.size : Int) ≤ 513)
  · (rw [if_pos c2] at H); (have c2b0 : decide ((a0_0.size : Int) ≤ 513) = true := decide_eq_true c2); (have c2b1 : decide (a0_0.size ≤ 513) = true := decide_eq_true (by omega)); (clear c2); (obtain rfl := Option.some.inj H); (go_enter Try.func27, Try.ntmps27); (go_wp2_with (first | ((with_reducible refine gate_dst (N := 1) rfl ?_); (try (refine gate_guard (by rfl) ?_; dsimp only)); refine box_event ?hg (N := 1) ?hd (cs := #[.string a0_0, .string a0_1]) (t := 42) ?hr ?_; (case hd => rfl); (case hg => rfl); (case hr => first | (go_simp; done) | (go_simp; rfl)); intro gb237 hg w3 hbox hb; have BK237 := Aside0.mk (hbox); have GW237 := Aside0.mk ((by rw [hg]; exact (below_size (mvW HB.out)) : w.heap.size ≤ gb237)); have GE237 := Aside0.mk ((by rw [hg]; exact (below_size (mvW HB.out)) : w.heap.size ≤ gb237)); replace HB := Aside0.mk (below_step (mvW HB.out) hb); clear hb hbox hg; obtain ⟨Z4_0, Z4_1⟩ := bc2 BK237.out; obtain ⟨Y4_0, Y4_1⟩ := bf2 BK237.out))); (go_ret); (exact ⟨by first | rfl | (simp [errW_none, errW_some] <;> rfl) | (simp [*, errW_none, errW_some] <;> rfl), by repeat (first | (with_reducible first | exact HB.out | apply below_alloc | apply pw_below_drewN | apply below_drew1 | refine below_set ?_ GE237.out) | exact HB.out)⟩)
  · (rw [if_neg c2] at H); (have c2b0 : decide ((a0_0.size : Int) ≤ 513) = false := decide_eq_false c2); (have c2b1 : decide (a0_0.size ≤ 513) = false := decide_eq_false (by omega)); (clear c2); (obtain rfl := Option.some.inj H); (go_enter Try.func27, Try.ntmps27); (go_wp2_with (first | ((with_reducible refine gate_dst (N := 1) rfl ?_); (try (refine gate_guard (by rfl) ?_; dsimp only)); refine box_event ?hg (N := 1) ?hd (cs := #[.string a0_0, .string a0_1]) (t := 42) ?hr ?_; (case hd => rfl); (case hg => rfl); (case hr => first | (go_simp; done) | (go_simp; rfl)); intro gb237 hg w5 hbox hb; have BK237 := Aside0.mk (hbox); have GW237 := Aside0.mk ((by rw [hg]; exact (below_size (mvW HB.out)) : w.heap.size ≤ gb237)); have GE237 := Aside0.mk ((by rw [hg]; exact (below_size (mvW HB.out)) : w.heap.size ≤ gb237)); replace HB := Aside0.mk (below_step (mvW HB.out) hb); clear hb hbox hg; obtain ⟨Z6_0, Z6_1⟩ := bc2 BK237.out; obtain ⟨Y6_0, Y6_1⟩ := bf2 BK237.out))); (go_ret); (exact ⟨by first | rfl | (simp [errW_none, errW_some] <;> rfl) | (simp [*, errW_none, errW_some] <;> rfl), by repeat (first | (with_reducible first | exact HB.out | apply below_alloc | apply pw_below_drewN | apply below_drew1 | refine below_set ?_ GE237.out) | exact HB.out)⟩)

/-! ### lockkeeperref10_Right: function 10 -/
def lockkeeperref10_Right.l0 : Nat → List (S42) → Int → Option (Bool)
  | 0, _, _ => none
  | k + 1, x0, x3 => if x3 < (x0.length : Int) then (if 0 ≤ x3 then ((lockkeeperref10_fits.f ((rd_T42 x0 x3).f0) ((rd_T42 x0 x3).f1)).bind fun t239 => (if t239 = true then (if x3 > 0 then (if 0 ≤ (wrap64 (x3 - 1)) then (if (wrap64 (x3 - 1)) < (x0.length : Int) then (if ((Op.bytesLess (((rd_T42 x0 (wrap64 (x3 - 1))).f0).toList) (((rd_T42 x0 x3).f0).toList)) = true) then (lockkeeperref10_Right.l0 k x0 (wrap64 (x3 + 1))) else (some false)) else (none)) else (none)) else (lockkeeperref10_Right.l0 k x0 (wrap64 (x3 + 1)))) else (some false))) else (none)) else (some true)
def lockkeeperref10_Right.f (k : Nat) (l0 : List (S42)) : Option (Bool) := lockkeeperref10_Right.l0 k l0 0
theorem lockkeeperref10_Right.mono_l : ∀ k, (∀ y0 y1, LeO (lockkeeperref10_Right.l0 k y0 y1) (lockkeeperref10_Right.l0 (k + 1) y0 y1))
  | 0 => fun _ _ r h => by simp [lockkeeperref10_Right.l0] at h
  | k + 1 => by
    have ih0 := lockkeeperref10_Right.mono_l k
    · intro y0 y1
      unfold lockkeeperref10_Right.l0
      repeat' first
      | (with_reducible exact ih0 _ _)
      | (with_reducible exact LeO.refl _)
      | (with_reducible exact LeO.none _)
      | (with_reducible refine LeO.ite ?_ ?_)
      | (with_reducible refine LeO.bind ?_ (fun _ => ?_))
      | exact ih0 _ _
      | exact LeO.none _
      | refine LeO.ite ?_ ?_
      | refine LeO.bind ?_ (fun _ => ?_)
theorem lockkeeperref10_Right.mono : ∀ a0 k, LeO (lockkeeperref10_Right.f k a0) (lockkeeperref10_Right.f (k + 1) a0) := by
  intro a0 k
  have ih0 := lockkeeperref10_Right.mono_l k
  unfold lockkeeperref10_Right.f
  repeat' first
      | (with_reducible exact ih0 _ _)
      | (with_reducible exact LeO.refl _)
      | (with_reducible exact LeO.none _)
      | (with_reducible refine LeO.ite ?_ ?_)
      | (with_reducible refine LeO.bind ?_ (fun _ => ?_))
      | exact ih0 _ _
      | exact LeO.none _
      | refine LeO.ite ?_ ?_
      | refine LeO.bind ?_ (fun _ => ?_)
def lockkeeperref10_Right.T4 : Bool × List (List Nat × List Nat) := (true, [([], []), ([], []), ([0, 1], [0, 1]), ([2], [2]), ([3], [3]), ([4], [4]), ([5, 4], [5]), ([6], [6]), ([7, 6], [6, 7]), ([8, 6, 6], [6, 8]), ([9], [9]), ([9], [9]), ([10, 11, 9], [9, 10, 11]), ([12, 9], [9, 12]), ([13, 9], [9, 13]), ([9], [9]), ([9], [9]), ([16, 9], [9, 16]), ([15, 17, 9], [9, 15, 17]), ([18, 9], [9, 18]), ([19, 9], [9, 19]), ([14, 20, 9], [9, 14, 20]), ([9, 21, 6], [6, 9, 21]), ([6, 22], [6, 22])])
def lockkeeperref10_Right.B4 : List Nat := [0, 0, 3, 7, 15, 31, 63, 127, 255, 511, 1023, 1023, 4095, 8191, 16383, 1023, 1023, 66559, 230399, 492543, 1016831, 2097151, 4194303, 8388607]
theorem lockkeeperref10_Right.tab4 : rtab .any (opsOf Try.f10 4) = lockkeeperref10_Right.T4 := by kernel_rfl
theorem lockkeeperref10_Right.bits4 : waitsOk lockkeeperref10_Right.T4.2 lockkeeperref10_Right.B4 = true := by kernel_rfl
set_option maxHeartbeats 8000000 in
set_option maxRecDepth 100000 in
theorem lockkeeperref10_Right.calls (k : Nat) (A0 : Option Addr) (c0 : Nat) (l0 : List (S42)) (r : Bool) (w : World) (hr0 : Kd.C k42 w A0 l0.length l0) (hc0 : l0.length ≤ c0) (h : lockkeeperref10_Right.f k l0 = some r) :
    Calls Try.prog 10 #[.slice A0 l0.length c0] w fun e w' => e = .returned (.bool r) ∧ Below w.heap.size w w' := by
  (have hu42 := Try.underlying42); (have HR0 := Aside0.mk hr0); (have HC0 := Aside0.mk hc0); (clear hr0 hc0); (have HB := Aside0.mk (Below.refl w.heap.size w)); (have H : (lockkeeperref10_Right.l0 k l0 0) = some r := h); (clear h); (have H' := Aside0.mk H); (clear H); (go_enter Try.func10, Try.ntmps10); (go_wp2); (go_loopg [3] k (fun kq v3 w' => ∃ (x3_1 : Int), v3 = .int .i64 x3_1 ∧ Aside0 (lockkeeperref10_Right.l0 kq l0 x3_1 = some r) ∧ Aside0 (kq ≤ k) ∧ Aside0 (Below w.heap.size w w')))
  case atStart => exact ⟨(0), (by first | rfl | (simp; done) | (simp [*]; done)), H', ⟨Nat.le_refl _⟩, ⟨mvW HB.out⟩⟩
  case round =>
    (clear H'); (try clear c1); (obtain ⟨x3_1, rfl, HA, HK1, HB⟩ := hrel)
    cases gk with
    | zero => exact absurd HA.out (by simp [lockkeeperref10_Right.l0])
    | succ k1 =>
      (have H := HA.out); (clear HA); (simp only [lockkeeperref10_Right.l0] at H); (by_cases c2 : x3_1 < (l0.length : Int))
      · (rw [if_pos c2] at H); (have c2b0 : decide (x3_1 < (l0.length : Int)) = true := decide_eq_true c2); (clear c2); (by_cases c3 : 0 ≤ x3_1)
        · (rw [if_pos c3] at H); (have c3b0 : decide (0 ≤ x3_1) = true := decide_eq_true c3); (clear c3); (replace H := Option.bind_eq_some_iff.mp H); (obtain ⟨t239, A40, H⟩ := H); (replace H : (if t239 = true then (if x3_1 > 0 then (if 0 ≤ (wrap64 (x3_1 - 1)) then (if (wrap64 (x3_1 - 1)) < (l0.length : Int) then (if ((Op.bytesLess (((rd_T42 l0 (wrap64 (x3_1 - 1))).f0).toList) (((rd_T42 l0 x3_1).f0).toList)) = true) then (lockkeeperref10_Right.l0 k1 l0 (wrap64 (x3_1 + 1))) else (some false)) else (none)) else (none)) else (lockkeeperref10_Right.l0 k1 l0 (wrap64 (x3_1 + 1)))) else (some false)) = some r := H); (have A4 := Aside0.mk A40); (clear A40); (by_cases c5 : t239 = true)
          · (subst c5); (have H1 : (if x3_1 > 0 then (if 0 ≤ (wrap64 (x3_1 - 1)) then (if (wrap64 (x3_1 - 1)) < (l0.length : Int) then (if ((Op.bytesLess (((rd_T42 l0 (wrap64 (x3_1 - 1))).f0).toList) (((rd_T42 l0 x3_1).f0).toList)) = true) then (lockkeeperref10_Right.l0 k1 l0 (wrap64 (x3_1 + 1))) else (some false)) else (none)) else (none)) else (lockkeeperref10_Right.l0 k1 l0 (wrap64 (x3_1 + 1)))) = some r := by rw [if_pos rfl] at H; exact H); (clear H); (have H := H1); (clear H1); (by_cases c6 : x3_1 > 0)
            · (rw [if_pos c6] at H); (have c6b0 : decide (0 < x3_1) = true := decide_eq_true c6); (clear c6); (obtain ⟨ji7, hji7⟩ : ∃ j_ : Int, (wrap64 (x3_1 - 1)) = j_ := ⟨_, rfl⟩); (replace H : (if 0 ≤ (ji7) then (if (ji7) < (l0.length : Int) then (if ((Op.bytesLess (((rd_T42 l0 (ji7)).f0).toList) (((rd_T42 l0 x3_1).f0).toList)) = true) then (lockkeeperref10_Right.l0 k1 l0 (wrap64 (x3_1 + 1))) else (some false)) else (none)) else (none)) = some r := by first | (rw [hji7] at H; exact H) | (simp only [hji7] at H ⊢; exact H)); ((try rw [hji7] at A4)); (have hji7w : (IntKind.i64.wrap (x3_1 - 1)) = ji7 := (i64_w _).trans hji7); (by_cases c8 : 0 ≤ (ji7))
              · (rw [if_pos c8] at H); (have c8b0 : decide (0 ≤ (ji7)) = true := decide_eq_true c8); (clear c8); (by_cases c9 : (ji7) < (l0.length : Int))
                · (rw [if_pos c9] at H); (have c9b0 : decide ((ji7) < (l0.length : Int)) = true := decide_eq_true c9); (clear c9); (by_cases c10 : ((Op.bytesLess (((rd_T42 l0 (ji7)).f0).toList) (((rd_T42 l0 x3_1).f0).toList)) = true))
                  · (rw [if_pos c10] at H); (have c10b0 : (Op.bytesLess (((rd_T42 l0 (ji7)).f0).toList) (((rd_T42 l0 x3_1).f0).toList)) = true := c10); (clear c10); (have H' := Aside0.mk H); (clear H); (try go_wp2); (replace HB := Aside0.mk (below_drew1 HB.out)); (have p238 : 0 ≤ (x3_1 : Int) := of_decide_eq_true (by first | (with_reducible assumption) | assumption)); (have q238 : x3_1 < (l0.length : Int) := of_decide_eq_true (by first | (with_reducible assumption) | assumption)); (obtain ⟨ad238, e238, hx238_0, hx238_1⟩ := at_T42 HR0.out x3_1 p238 q238); (have hw238_1 := hx238_1); (have hw238_0 := hx238_0); (cases e238); (replace hx238_0 := (HB.out.cell (World.block_lt_of_cell? w _ hx238_0)).trans hx238_0); (replace hx238_1 := (HB.out.cell (World.block_lt_of_cell? w _ hx238_1)).trans hx238_1); (replace p238 := eq_true p238); (replace q238 := eq_true q238); (have p240 : 0 ≤ (x3_1 : Int) := of_decide_eq_true (by first | (with_reducible assumption) | assumption)); (have q240 : x3_1 < (l0.length : Int) := of_decide_eq_true (by first | (with_reducible assumption) | assumption)); (obtain ⟨ad240, e240, hx240_0, hx240_1⟩ := at_T42 HR0.out x3_1 p240 q240); (have hw240_1 := hx240_1); (have hw240_0 := hx240_0); (obtain rfl : ad238 = ad240 := (by injection e240)); (replace hx240_0 := (HB.out.cell (World.block_lt_of_cell? w _ hx240_0)).trans hx240_0); (replace hx240_1 := (HB.out.cell (World.block_lt_of_cell? w _ hx240_1)).trans hx240_1); (replace p240 := eq_true p240); (replace q240 := eq_true q240); (have p241 : 0 ≤ ((ji7) : Int) := of_decide_eq_true (by first | (with_reducible assumption) | assumption)); (have q241 : (ji7) < (l0.length : Int) := of_decide_eq_true (by first | (with_reducible assumption) | assumption)); (obtain ⟨ad241, e241, hx241_0, hx241_1⟩ := at_T42 HR0.out (ji7) p241 q241); (have hw241_1 := hx241_1); (have hw241_0 := hx241_0); (obtain rfl : ad238 = ad241 := (by injection e241)); (replace hx241_0 := (HB.out.cell (World.block_lt_of_cell? w _ hx241_0)).trans hx241_0); (replace hx241_1 := (HB.out.cell (World.block_lt_of_cell? w _ hx241_1)).trans hx241_1); (replace p241 := eq_true p241); (replace q241 := eq_true q241); (refine start_ (n := 24) (S := fun w' => w'.cell? (ad238.add ((x3_1).toNat * 2)) = some (.string ((rd_T42 l0 x3_1).f0)) ∧ w'.cell? ⟨(ad238.add ((x3_1).toNat * 2)).block, (ad238.add ((x3_1).toNat * 2)).off + 1, none⟩ = some (.string ((rd_T42 l0 x3_1).f1)) ∧ w'.cell? (ad238.add ((x3_1).toNat * 2)) = some (.string ((rd_T42 l0 x3_1).f0)) ∧ w'.cell? ⟨(ad238.add ((x3_1).toNat * 2)).block, (ad238.add ((x3_1).toNat * 2)).off + 1, none⟩ = some (.string ((rd_T42 l0 x3_1).f1)) ∧ w'.cell? (ad238.add (((ji7)).toNat * 2)) = some (.string ((rd_T42 l0 (ji7)).f0)) ∧ w'.cell? ⟨(ad238.add (((ji7)).toNat * 2)).block, (ad238.add (((ji7)).toNat * 2)).off + 1, none⟩ = some (.string ((rd_T42 l0 (ji7)).f1))) (ds := []) #[false, false, false, false, false, false, false, false, false, false, false, false, false, false, false, false, false, false, false, false, false, false, false, false] (by kernel_rfl) rfl rfl ⟨((HB.out.cell (World.block_lt_of_cell? w _ hw238_0)).trans hw238_0), ((HB.out.cell (World.block_lt_of_cell? w _ hw238_1)).trans hw238_1), ((HB.out.cell (World.block_lt_of_cell? w _ hw240_0)).trans hw240_0), ((HB.out.cell (World.block_lt_of_cell? w _ hw240_1)).trans hw240_1), ((HB.out.cell (World.block_lt_of_cell? w _ hw241_0)).trans hw241_0), ((HB.out.cell (World.block_lt_of_cell? w _ hw241_1)).trans hw241_1)⟩ (fun hHeld => ?_); refine with_tabW lockkeeperref10_Right.tab4 lockkeeperref10_Right.bits4 (fun HT_ HW_ => ?_)); (generalize wr.drew = w11 at HB hx238_0 hx238_1 hx240_0 hx240_1 hx241_0 hx241_1 hHeld ⊢); (refine pure_ (i := 0) (N := some 10) (v := ?_) (a' := ?_) (bv 1 23) rfl rfl (any_of HT_.out (by kernel_rfl)) (fun _ _ _ h => h) (Or.inl ⟨by rfl, ?_⟩) ?_ ?_); (rotate_left)
                    · (intro w'); (go_simp); (with_reducible rfl)
                    rotate_left
                    · (simp only [sA]); (rfl)
                    (refine pure_ (i := 1) (N := some 11) (v := ?_) (a' := ?_) (bv 2 22) rfl rfl (any_of HT_.out (by kernel_rfl)) (fun _ _ _ h => h) (Or.inl ⟨by rfl, ?_⟩) ?_ ?_); (rotate_left)
                    · (intro w'); (go_simp); (with_reducible rfl)
                    rotate_left
                    · (simp only [sA]); (rfl)
                    (refine pure_ (i := 2) (N := some 12) (v := ?_) (a' := ?_) (bv 3 21) rfl rfl (any_of HT_.out (by kernel_rfl)) (fun _ _ _ h => h) (Or.inl ⟨by rfl, ?_⟩) ?_ ?_); (rotate_left)
                    · (intro w'); (go_simp); (with_reducible rfl)
                    rotate_left
                    · (simp only [sA]); (rfl)
                    (refine take_ (i := 3) (N := some 13) (v := ?_) (a' := ?_) (bv 4 20) rfl rfl (take_ofW HT_.out HW_.out (by kernel_rfl)) (fun _ _ _ h => h) (Or.inl ⟨by rfl, ?_⟩) hHeld ?_ ?_); (rotate_left)
                    · (rintro w' ⟨s0, s1, s2, s3, s4, s5⟩); (go_simp); (with_reducible rfl)
                    rotate_left
                    · (simp only [sA]); (rfl)
                    (refine one_ (i := 4) (N := some 14) (bv 5 19) rfl rfl (one_of HT_.out (by kernel_rfl)) (by decide) (fun K hK => ?_)); (refine goes_ Try.func27 (by kernel_rfl) rfl #[.agg #[.string ((rd_T42 l0 x3_1).f0), .string ((rd_T42 l0 x3_1).f1)]] (by rfl) rfl rfl (by (try simp only [List.map_toArray, List.map_cons, List.map_nil]); first | done | rfl | (simp only [List.length_drop, List.length_take]; rfl) | (simp only [*]; rfl)) ?_); (with_reducible refine (lockkeeperref10_fits.calls ((rd_T42 l0 x3_1).f0) ((rd_T42 l0 x3_1).f1) true _ A4.out).mono ?_); (rintro e w12 ⟨rfl, hb⟩); (refine ⟨_, rfl, ?_⟩); (replace HB := Aside0.mk (below_step (mvW HB.out) hb)); (clear hb); (refine hK.out _ _ ⟨((HB.out.cell (World.block_lt_of_cell? w _ hw238_0)).trans hw238_0), ((HB.out.cell (World.block_lt_of_cell? w _ hw238_1)).trans hw238_1), ((HB.out.cell (World.block_lt_of_cell? w _ hw240_0)).trans hw240_0), ((HB.out.cell (World.block_lt_of_cell? w _ hw240_1)).trans hw240_1), ((HB.out.cell (World.block_lt_of_cell? w _ hw241_0)).trans hw241_0), ((HB.out.cell (World.block_lt_of_cell? w _ hw241_1)).trans hw241_1)⟩ (fun hHeld => ?_)); (clear hK K); (refine norm_ (a' := ?_) ?_ ?_); (rotate_left)
                    · (show Act.put _ (some 14) _ = _); (simp only [sA]); (rfl)
                    (refine pure_ (i := 5) (N := some 15) (v := ?_) (a' := ?_) (bv 6 18) rfl rfl (any_of HT_.out (by kernel_rfl)) (fun _ _ _ h => h) (Or.inl ⟨by rfl, ?_⟩) ?_ ?_); (rotate_left)
                    · (intro w'); (go_simp); (with_reducible rfl)
                    rotate_left
                    · (simp only [sA]); (rfl)
                    (refine pure_ (i := 6) (N := some 16) (v := ?_) (a' := ?_) (bv 7 17) rfl rfl (any_of HT_.out (by kernel_rfl)) (fun _ _ _ h => h) (Or.inl ⟨by rfl, ?_⟩) ?_ ?_); (rotate_left)
                    · (intro w'); (go_simp); (with_reducible rfl)
                    rotate_left
                    · (simp only [sA]); (rfl)
                    (refine pure_ (i := 7) (N := some 17) (v := ?_) (a' := ?_) (bv 8 16) rfl rfl (any_of HT_.out (by kernel_rfl)) (fun _ _ _ h => h) (Or.inl ⟨by rfl, ?_⟩) ?_ ?_); (rotate_left)
                    · (intro w'); (go_simp); (with_reducible rfl)
                    rotate_left
                    · (simp only [sA]); (rfl)
                    (refine pure_ (i := 8) (N := some 18) (v := ?_) (a' := ?_) (bv 9 15) rfl rfl (any_of HT_.out (by kernel_rfl)) (fun _ _ _ h => h) (Or.inl ⟨by rfl, ?_⟩) ?_ ?_); (rotate_left)
                    · (intro w'); (go_simp); (with_reducible rfl)
                    rotate_left
                    · (simp only [sA]); (rfl)
                    (refine pure_ (i := 9) (N := some 19) (v := ?_) (a' := ?_) (bv 10 14) rfl rfl (any_of HT_.out (by kernel_rfl)) (fun _ _ _ h => h) (Or.inl ⟨by rfl, ?_⟩) ?_ ?_); (rotate_left)
                    · (intro w'); (go_simp); (with_reducible rfl)
                    rotate_left
                    · (simp only [sA]); (rfl)
                    (refine pure_ (i := 10) (N := some 20) (v := ?_) (a' := ?_) (bv 11 13) rfl rfl (any_of HT_.out (by kernel_rfl)) (fun _ _ _ h => h) (Or.inl ⟨by rfl, ?_⟩) ?_ ?_); (rotate_left)
                    · (intro w'); (go_simp); (with_reducible rfl)
                    rotate_left
                    · (simp only [sA]); (rfl)
                    (refine pure_ (i := 11) (N := some 21) (v := ?_) (a' := ?_) (bv 12 12) rfl rfl (any_of HT_.out (by kernel_rfl)) (fun _ _ _ h => h) (Or.inl ⟨by rfl, ?_⟩) ?_ ?_); (rotate_left)
                    · (intro w'); (go_simp); (with_reducible rfl)
                    rotate_left
                    · (simp only [sA]); (rfl)
                    (refine pure_ (i := 12) (N := some 22) (v := ?_) (a' := ?_) (bv 13 11) rfl rfl (any_of HT_.out (by kernel_rfl)) (fun _ _ _ h => h) (Or.inl ⟨by rfl, ?_⟩) ?_ ?_); (rotate_left)
                    · (intro w'); (go_simp); (with_reducible rfl)
                    rotate_left
                    · (simp only [sA]); (rfl)
                    (refine pure_ (i := 13) (N := some 23) (v := ?_) (a' := ?_) (bv 14 10) rfl rfl (any_of HT_.out (by kernel_rfl)) (fun _ _ _ h => h) (Or.inl ⟨by rfl, ?_⟩) ?_ ?_); (rotate_left)
                    · (intro w'); (go_simp); (with_reducible rfl)
                    rotate_left
                    · (simp only [sA]); (rfl)
                    (refine pure_ (i := 15) (N := some 25) (v := ?_) (a' := ?_) #[true, true, true, true, true, true, true, true, true, true, true, true, true, true, false, true, false, false, false, false, false, false, false, false] rfl rfl (any_of HT_.out (by kernel_rfl)) (fun _ _ _ h => h) (Or.inl ⟨by rfl, ?_⟩) ?_ ?_); (rotate_left)
                    · (intro w'); (go_simp); (with_reducible rfl)
                    rotate_left
                    · (simp only [sA]); (rfl)
                    (refine pure_ (i := 16) (N := some 26) (v := ?_) (a' := ?_) #[true, true, true, true, true, true, true, true, true, true, true, true, true, true, false, true, true, false, false, false, false, false, false, false] rfl rfl (any_of HT_.out (by kernel_rfl)) (fun _ _ _ h => h) (Or.inl ⟨by rfl, ?_⟩) ?_ ?_); (rotate_left)
                    · (intro w'); (go_simp); (with_reducible rfl)
                    rotate_left
                    · (simp only [sA]); (rfl)
                    (refine pure_ (i := 17) (N := some 27) (v := ?_) (a' := ?_) #[true, true, true, true, true, true, true, true, true, true, true, true, true, true, false, true, true, true, false, false, false, false, false, false] rfl rfl (any_of HT_.out (by kernel_rfl)) (fun _ _ _ h => h) (Or.inl ⟨by rfl, ?_⟩) ?_ ?_); (rotate_left)
                    · (intro w'); (go_simp); (with_reducible rfl)
                    rotate_left
                    · (simp only [sA]); (rfl)
                    (refine pure_ (i := 18) (N := some 28) (v := ?_) (a' := ?_) #[true, true, true, true, true, true, true, true, true, true, true, true, true, true, false, true, true, true, true, false, false, false, false, false] rfl rfl (any_of HT_.out (by kernel_rfl)) (fun _ _ _ h => h) (Or.inl ⟨by rfl, ?_⟩) ?_ ?_); (rotate_left)
                    · (intro w'); (go_simp); (with_reducible rfl)
                    rotate_left
                    · (simp only [sA]); (rfl)
                    (refine pure_ (i := 19) (N := some 29) (v := ?_) (a' := ?_) #[true, true, true, true, true, true, true, true, true, true, true, true, true, true, false, true, true, true, true, true, false, false, false, false] rfl rfl (any_of HT_.out (by kernel_rfl)) (fun _ _ _ h => h) (Or.inl ⟨by rfl, ?_⟩) ?_ ?_); (rotate_left)
                    · (intro w'); (go_simp); (with_reducible rfl)
                    rotate_left
                    · (simp only [sA]); (rfl)
                    (refine take_ (i := 14) (N := some 24) (v := ?_) (a' := ?_) (bv 20 4) rfl rfl (take_ofW HT_.out HW_.out (by kernel_rfl)) (fun _ _ _ h => h) (Or.inl ⟨by rfl, ?_⟩) hHeld ?_ ?_); (rotate_left)
                    · (rintro w' ⟨s0, s1, s2, s3, s4, s5⟩); (go_simp); (with_reducible rfl)
                    rotate_left
                    · (simp only [sA]); (rfl)
                    (refine take_ (i := 20) (N := some 30) (v := ?_) (a' := ?_) (bv 21 3) rfl rfl (take_ofW HT_.out HW_.out (by kernel_rfl)) (fun _ _ _ h => h) (Or.inl ⟨by rfl, ?_⟩) hHeld ?_ ?_); (rotate_left)
                    · (rintro w' ⟨s0, s1, s2, s3, s4, s5⟩); (go_simp); (with_reducible rfl)
                    rotate_left
                    · (simp only [sA]); (rfl)
                    (refine pure_ (i := 21) (N := some 31) (v := ?_) (a' := ?_) (bv 22 2) rfl rfl (any_of HT_.out (by kernel_rfl)) (fun _ _ _ h => h) (Or.inl ⟨by rfl, ?_⟩) ?_ ?_); (rotate_left)
                    · (intro w'); (go_simp); (with_reducible rfl)
                    rotate_left
                    · (simp only [sA]); (rfl)
                    (refine pure_ (i := 22) (N := some 32) (v := ?_) (a' := ?_) (bv 23 1) rfl rfl (any_of HT_.out (by kernel_rfl)) (fun _ _ _ h => h) (Or.inl ⟨by rfl, ?_⟩) ?_ ?_); (rotate_left)
                    · (intro w'); (go_simp); (with_reducible rfl)
                    rotate_left
                    · (simp only [sA]); (rfl)
                    (refine pure_ (i := 23) (N := some 33) (v := ?_) (a' := ?_) (bv 24 0) rfl rfl (any_of HT_.out (by kernel_rfl)) (fun _ _ _ h => h) (Or.inl ⟨by rfl, ?_⟩) ?_ ?_); (rotate_left)
                    · (intro w'); (go_simp); (with_reducible rfl)
                    rotate_left
                    · (simp only [sA]); (rfl)
                    (refine done_ (done_of HT_.out (by kernel_rfl)) ?_); (try go_wp2); (go_roundg k1)
                    case measure => have := HK1.out; omega
                    case rel => exact ⟨(wrap64 (x3_1 + 1)), (by first | rfl | (simp; done) | (simp [*]; done)), H', ⟨by have := HK1.out; omega⟩, ⟨mvW HB.out⟩⟩
                  · (rw [if_neg c10] at H); (have c10b0 : (Op.bytesLess (((rd_T42 l0 (ji7)).f0).toList) (((rd_T42 l0 x3_1).f0).toList)) = false := by simpa using c10); (clear c10); (obtain rfl := Option.some.inj H); (try go_wp2); (replace HB := Aside0.mk (below_drew1 HB.out)); (have p238 : 0 ≤ (x3_1 : Int) := of_decide_eq_true (by first | (with_reducible assumption) | assumption)); (have q238 : x3_1 < (l0.length : Int) := of_decide_eq_true (by first | (with_reducible assumption) | assumption)); (obtain ⟨ad238, e238, hx238_0, hx238_1⟩ := at_T42 HR0.out x3_1 p238 q238); (have hw238_1 := hx238_1); (have hw238_0 := hx238_0); (cases e238); (replace hx238_0 := (HB.out.cell (World.block_lt_of_cell? w _ hx238_0)).trans hx238_0); (replace hx238_1 := (HB.out.cell (World.block_lt_of_cell? w _ hx238_1)).trans hx238_1); (replace p238 := eq_true p238); (replace q238 := eq_true q238); (have p240 : 0 ≤ (x3_1 : Int) := of_decide_eq_true (by first | (with_reducible assumption) | assumption)); (have q240 : x3_1 < (l0.length : Int) := of_decide_eq_true (by first | (with_reducible assumption) | assumption)); (obtain ⟨ad240, e240, hx240_0, hx240_1⟩ := at_T42 HR0.out x3_1 p240 q240); (have hw240_1 := hx240_1); (have hw240_0 := hx240_0); (obtain rfl : ad238 = ad240 := (by injection e240)); (replace hx240_0 := (HB.out.cell (World.block_lt_of_cell? w _ hx240_0)).trans hx240_0); (replace hx240_1 := (HB.out.cell (World.block_lt_of_cell? w _ hx240_1)).trans hx240_1); (replace p240 := eq_true p240); (replace q240 := eq_true q240); (have p241 : 0 ≤ ((ji7) : Int) := of_decide_eq_true (by first | (with_reducible assumption) | assumption)); (have q241 : (ji7) < (l0.length : Int) := of_decide_eq_true (by first | (with_reducible assumption) | assumption)); (obtain ⟨ad241, e241, hx241_0, hx241_1⟩ := at_T42 HR0.out (ji7) p241 q241); (have hw241_1 := hx241_1); (have hw241_0 := hx241_0); (obtain rfl : ad238 = ad241 := (by injection e241)); (replace hx241_0 := (HB.out.cell (World.block_lt_of_cell? w _ hx241_0)).trans hx241_0); (replace hx241_1 := (HB.out.cell (World.block_lt_of_cell? w _ hx241_1)).trans hx241_1); (replace p241 := eq_true p241); (replace q241 := eq_true q241); (refine start_ (n := 24) (S := fun w' => w'.cell? (ad238.add ((x3_1).toNat * 2)) = some (.string ((rd_T42 l0 x3_1).f0)) ∧ w'.cell? ⟨(ad238.add ((x3_1).toNat * 2)).block, (ad238.add ((x3_1).toNat * 2)).off + 1, none⟩ = some (.string ((rd_T42 l0 x3_1).f1)) ∧ w'.cell? (ad238.add ((x3_1).toNat * 2)) = some (.string ((rd_T42 l0 x3_1).f0)) ∧ w'.cell? ⟨(ad238.add ((x3_1).toNat * 2)).block, (ad238.add ((x3_1).toNat * 2)).off + 1, none⟩ = some (.string ((rd_T42 l0 x3_1).f1)) ∧ w'.cell? (ad238.add (((ji7)).toNat * 2)) = some (.string ((rd_T42 l0 (ji7)).f0)) ∧ w'.cell? ⟨(ad238.add (((ji7)).toNat * 2)).block, (ad238.add (((ji7)).toNat * 2)).off + 1, none⟩ = some (.string ((rd_T42 l0 (ji7)).f1))) (ds := []) #[false, false, false, false, false, false, false, false, false, false, false, false, false, false, false, false, false, false, false, false, false, false, false, false] (by kernel_rfl) rfl rfl ⟨((HB.out.cell (World.block_lt_of_cell? w _ hw238_0)).trans hw238_0), ((HB.out.cell (World.block_lt_of_cell? w _ hw238_1)).trans hw238_1), ((HB.out.cell (World.block_lt_of_cell? w _ hw240_0)).trans hw240_0), ((HB.out.cell (World.block_lt_of_cell? w _ hw240_1)).trans hw240_1), ((HB.out.cell (World.block_lt_of_cell? w _ hw241_0)).trans hw241_0), ((HB.out.cell (World.block_lt_of_cell? w _ hw241_1)).trans hw241_1)⟩ (fun hHeld => ?_); refine with_tabW lockkeeperref10_Right.tab4 lockkeeperref10_Right.bits4 (fun HT_ HW_ => ?_)); (generalize wr.drew = w13 at HB hx238_0 hx238_1 hx240_0 hx240_1 hx241_0 hx241_1 hHeld ⊢); (refine pure_ (i := 0) (N := some 10) (v := ?_) (a' := ?_) (bv 1 23) rfl rfl (any_of HT_.out (by kernel_rfl)) (fun _ _ _ h => h) (Or.inl ⟨by rfl, ?_⟩) ?_ ?_); (rotate_left)
                    · (intro w'); (go_simp); (with_reducible rfl)
                    rotate_left
                    · (simp only [sA]); (rfl)
                    (refine pure_ (i := 1) (N := some 11) (v := ?_) (a' := ?_) (bv 2 22) rfl rfl (any_of HT_.out (by kernel_rfl)) (fun _ _ _ h => h) (Or.inl ⟨by rfl, ?_⟩) ?_ ?_); (rotate_left)
                    · (intro w'); (go_simp); (with_reducible rfl)
                    rotate_left
                    · (simp only [sA]); (rfl)
                    (refine pure_ (i := 2) (N := some 12) (v := ?_) (a' := ?_) (bv 3 21) rfl rfl (any_of HT_.out (by kernel_rfl)) (fun _ _ _ h => h) (Or.inl ⟨by rfl, ?_⟩) ?_ ?_); (rotate_left)
                    · (intro w'); (go_simp); (with_reducible rfl)
                    rotate_left
                    · (simp only [sA]); (rfl)
                    (refine take_ (i := 3) (N := some 13) (v := ?_) (a' := ?_) (bv 4 20) rfl rfl (take_ofW HT_.out HW_.out (by kernel_rfl)) (fun _ _ _ h => h) (Or.inl ⟨by rfl, ?_⟩) hHeld ?_ ?_); (rotate_left)
                    · (rintro w' ⟨s0, s1, s2, s3, s4, s5⟩); (go_simp); (with_reducible rfl)
                    rotate_left
                    · (simp only [sA]); (rfl)
                    (refine one_ (i := 4) (N := some 14) (bv 5 19) rfl rfl (one_of HT_.out (by kernel_rfl)) (by decide) (fun K hK => ?_)); (refine goes_ Try.func27 (by kernel_rfl) rfl #[.agg #[.string ((rd_T42 l0 x3_1).f0), .string ((rd_T42 l0 x3_1).f1)]] (by rfl) rfl rfl (by (try simp only [List.map_toArray, List.map_cons, List.map_nil]); first | done | rfl | (simp only [List.length_drop, List.length_take]; rfl) | (simp only [*]; rfl)) ?_); (with_reducible refine (lockkeeperref10_fits.calls ((rd_T42 l0 x3_1).f0) ((rd_T42 l0 x3_1).f1) true _ A4.out).mono ?_); (rintro e w14 ⟨rfl, hb⟩); (refine ⟨_, rfl, ?_⟩); (replace HB := Aside0.mk (below_step (mvW HB.out) hb)); (clear hb); (refine hK.out _ _ ⟨((HB.out.cell (World.block_lt_of_cell? w _ hw238_0)).trans hw238_0), ((HB.out.cell (World.block_lt_of_cell? w _ hw238_1)).trans hw238_1), ((HB.out.cell (World.block_lt_of_cell? w _ hw240_0)).trans hw240_0), ((HB.out.cell (World.block_lt_of_cell? w _ hw240_1)).trans hw240_1), ((HB.out.cell (World.block_lt_of_cell? w _ hw241_0)).trans hw241_0), ((HB.out.cell (World.block_lt_of_cell? w _ hw241_1)).trans hw241_1)⟩ (fun hHeld => ?_)); (clear hK K); (refine norm_ (a' := ?_) ?_ ?_); (rotate_left)
                    · (show Act.put _ (some 14) _ = _); (simp only [sA]); (rfl)
                    (refine pure_ (i := 5) (N := some 15) (v := ?_) (a' := ?_) (bv 6 18) rfl rfl (any_of HT_.out (by kernel_rfl)) (fun _ _ _ h => h) (Or.inl ⟨by rfl, ?_⟩) ?_ ?_); (rotate_left)
                    · (intro w'); (go_simp); (with_reducible rfl)
                    rotate_left
                    · (simp only [sA]); (rfl)
                    (refine pure_ (i := 6) (N := some 16) (v := ?_) (a' := ?_) (bv 7 17) rfl rfl (any_of HT_.out (by kernel_rfl)) (fun _ _ _ h => h) (Or.inl ⟨by rfl, ?_⟩) ?_ ?_); (rotate_left)
                    · (intro w'); (go_simp); (with_reducible rfl)
                    rotate_left
                    · (simp only [sA]); (rfl)
                    (refine pure_ (i := 7) (N := some 17) (v := ?_) (a' := ?_) (bv 8 16) rfl rfl (any_of HT_.out (by kernel_rfl)) (fun _ _ _ h => h) (Or.inl ⟨by rfl, ?_⟩) ?_ ?_); (rotate_left)
                    · (intro w'); (go_simp); (with_reducible rfl)
                    rotate_left
                    · (simp only [sA]); (rfl)
                    (refine pure_ (i := 8) (N := some 18) (v := ?_) (a' := ?_) (bv 9 15) rfl rfl (any_of HT_.out (by kernel_rfl)) (fun _ _ _ h => h) (Or.inl ⟨by rfl, ?_⟩) ?_ ?_); (rotate_left)
                    · (intro w'); (go_simp); (with_reducible rfl)
                    rotate_left
                    · (simp only [sA]); (rfl)
                    (refine pure_ (i := 9) (N := some 19) (v := ?_) (a' := ?_) (bv 10 14) rfl rfl (any_of HT_.out (by kernel_rfl)) (fun _ _ _ h => h) (Or.inl ⟨by rfl, ?_⟩) ?_ ?_); (rotate_left)
                    · (intro w'); (go_simp); (with_reducible rfl)
                    rotate_left
                    · (simp only [sA]); (rfl)
                    (refine pure_ (i := 10) (N := some 20) (v := ?_) (a' := ?_) (bv 11 13) rfl rfl (any_of HT_.out (by kernel_rfl)) (fun _ _ _ h => h) (Or.inl ⟨by rfl, ?_⟩) ?_ ?_); (rotate_left)
                    · (intro w'); (go_simp); (with_reducible rfl)
                    rotate_left
                    · (simp only [sA]); (rfl)
                    (refine pure_ (i := 11) (N := some 21) (v := ?_) (a' := ?_) (bv 12 12) rfl rfl (any_of HT_.out (by kernel_rfl)) (fun _ _ _ h => h) (Or.inl ⟨by rfl, ?_⟩) ?_ ?_); (rotate_left)
                    · (intro w'); (go_simp); (with_reducible rfl)
                    rotate_left
                    · (simp only [sA]); (rfl)
                    (refine pure_ (i := 12) (N := some 22) (v := ?_) (a' := ?_) (bv 13 11) rfl rfl (any_of HT_.out (by kernel_rfl)) (fun _ _ _ h => h) (Or.inl ⟨by rfl, ?_⟩) ?_ ?_); (rotate_left)
                    · (intro w'); (go_simp); (with_reducible rfl)
                    rotate_left
                    · (simp only [sA]); (rfl)
                    (refine pure_ (i := 13) (N := some 23) (v := ?_) (a' := ?_) (bv 14 10) rfl rfl (any_of HT_.out (by kernel_rfl)) (fun _ _ _ h => h) (Or.inl ⟨by rfl, ?_⟩) ?_ ?_); (rotate_left)
                    · (intro w'); (go_simp); (with_reducible rfl)
                    rotate_left
                    · (simp only [sA]); (rfl)
                    (refine pure_ (i := 15) (N := some 25) (v := ?_) (a' := ?_) #[true, true, true, true, true, true, true, true, true, true, true, true, true, true, false, true, false, false, false, false, false, false, false, false] rfl rfl (any_of HT_.out (by kernel_rfl)) (fun _ _ _ h => h) (Or.inl ⟨by rfl, ?_⟩) ?_ ?_); (rotate_left)
                    · (intro w'); (go_simp); (with_reducible rfl)
                    rotate_left
                    · (simp only [sA]); (rfl)
                    (refine pure_ (i := 16) (N := some 26) (v := ?_) (a' := ?_) #[true, true, true, true, true, true, true, true, true, true, true, true, true, true, false, true, true, false, false, false, false, false, false, false] rfl rfl (any_of HT_.out (by kernel_rfl)) (fun _ _ _ h => h) (Or.inl ⟨by rfl, ?_⟩) ?_ ?_); (rotate_left)
                    · (intro w'); (go_simp); (with_reducible rfl)
                    rotate_left
                    · (simp only [sA]); (rfl)
                    (refine pure_ (i := 17) (N := some 27) (v := ?_) (a' := ?_) #[true, true, true, true, true, true, true, true, true, true, true, true, true, true, false, true, true, true, false, false, false, false, false, false] rfl rfl (any_of HT_.out (by kernel_rfl)) (fun _ _ _ h => h) (Or.inl ⟨by rfl, ?_⟩) ?_ ?_); (rotate_left)
                    · (intro w'); (go_simp); (with_reducible rfl)
                    rotate_left
                    · (simp only [sA]); (rfl)
                    (refine pure_ (i := 18) (N := some 28) (v := ?_) (a' := ?_) #[true, true, true, true, true, true, true, true, true, true, true, true, true, true, false, true, true, true, true, false, false, false, false, false] rfl rfl (any_of HT_.out (by kernel_rfl)) (fun _ _ _ h => h) (Or.inl ⟨by rfl, ?_⟩) ?_ ?_); (rotate_left)
                    · (intro w'); (go_simp); (with_reducible rfl)
                    rotate_left
                    · (simp only [sA]); (rfl)
                    (refine pure_ (i := 19) (N := some 29) (v := ?_) (a' := ?_) #[true, true, true, true, true, true, true, true, true, true, true, true, true, true, false, true, true, true, true, true, false, false, false, false] rfl rfl (any_of HT_.out (by kernel_rfl)) (fun _ _ _ h => h) (Or.inl ⟨by rfl, ?_⟩) ?_ ?_); (rotate_left)
                    · (intro w'); (go_simp); (with_reducible rfl)
                    rotate_left
                    · (simp only [sA]); (rfl)
                    (refine take_ (i := 14) (N := some 24) (v := ?_) (a' := ?_) (bv 20 4) rfl rfl (take_ofW HT_.out HW_.out (by kernel_rfl)) (fun _ _ _ h => h) (Or.inl ⟨by rfl, ?_⟩) hHeld ?_ ?_); (rotate_left)
                    · (rintro w' ⟨s0, s1, s2, s3, s4, s5⟩); (go_simp); (with_reducible rfl)
                    rotate_left
                    · (simp only [sA]); (rfl)
                    (refine take_ (i := 20) (N := some 30) (v := ?_) (a' := ?_) (bv 21 3) rfl rfl (take_ofW HT_.out HW_.out (by kernel_rfl)) (fun _ _ _ h => h) (Or.inl ⟨by rfl, ?_⟩) hHeld ?_ ?_); (rotate_left)
                    · (rintro w' ⟨s0, s1, s2, s3, s4, s5⟩); (go_simp); (with_reducible rfl)
                    rotate_left
                    · (simp only [sA]); (rfl)
                    (refine pure_ (i := 21) (N := some 31) (v := ?_) (a' := ?_) (bv 22 2) rfl rfl (any_of HT_.out (by kernel_rfl)) (fun _ _ _ h => h) (Or.inl ⟨by rfl, ?_⟩) ?_ ?_); (rotate_left)
                    · (intro w'); (go_simp); (with_reducible rfl)
                    rotate_left
                    · (simp only [sA]); (rfl)
                    (refine pure_ (i := 22) (N := some 32) (v := ?_) (a' := ?_) (bv 23 1) rfl rfl (any_of HT_.out (by kernel_rfl)) (fun _ _ _ h => h) (Or.inl ⟨by rfl, ?_⟩) ?_ ?_); (rotate_left)
                    · (intro w'); (go_simp); (with_reducible rfl)
                    rotate_left
                    · (simp only [sA]); (rfl)
                    (refine pure_ (i := 23) (N := some 33) (v := ?_) (a' := ?_) (bv 24 0) rfl rfl (any_of HT_.out (by kernel_rfl)) (fun _ _ _ h => h) (Or.inl ⟨by rfl, ?_⟩) ?_ ?_); (rotate_left)
                    · (intro w'); (go_simp); (with_reducible rfl)
                    rotate_left
                    · (simp only [sA]); (rfl)
                    (refine done_ (done_of HT_.out (by kernel_rfl)) ?_); (try go_wp2); (go_ret); (exact ⟨by first | rfl | (simp [errW_none, errW_some] <;> rfl) | (simp only [← hji7]; first | rfl | (simp [errW_none, errW_some] <;> rfl)) | (simp [*, errW_none, errW_some] <;> rfl), by repeat (first | (with_reducible first | exact HB.out | apply below_alloc | apply pw_below_drewN | apply below_drew1) | exact HB.out)⟩)
                · (rw [if_neg c9] at H); (exact absurd H (by simp))
              · (rw [if_neg c8] at H); (exact absurd H (by simp))
            · (rw [if_neg c6] at H); (have c6b0 : decide (0 < x3_1) = false := decide_eq_false c6); (clear c6); (have H' := Aside0.mk H); (clear H); (try go_wp2); (replace HB := Aside0.mk (below_drew1 HB.out)); (have p238 : 0 ≤ (x3_1 : Int) := of_decide_eq_true (by first | (with_reducible assumption) | assumption)); (have q238 : x3_1 < (l0.length : Int) := of_decide_eq_true (by first | (with_reducible assumption) | assumption)); (obtain ⟨ad238, e238, hx238_0, hx238_1⟩ := at_T42 HR0.out x3_1 p238 q238); (have hw238_1 := hx238_1); (have hw238_0 := hx238_0); (cases e238); (replace hx238_0 := (HB.out.cell (World.block_lt_of_cell? w _ hx238_0)).trans hx238_0); (replace hx238_1 := (HB.out.cell (World.block_lt_of_cell? w _ hx238_1)).trans hx238_1); (replace p238 := eq_true p238); (replace q238 := eq_true q238); (refine start_ (n := 24) (S := fun w' => w'.cell? (ad238.add ((x3_1).toNat * 2)) = some (.string ((rd_T42 l0 x3_1).f0)) ∧ w'.cell? ⟨(ad238.add ((x3_1).toNat * 2)).block, (ad238.add ((x3_1).toNat * 2)).off + 1, none⟩ = some (.string ((rd_T42 l0 x3_1).f1))) (ds := []) #[false, false, false, false, false, false, false, false, false, false, false, false, false, false, false, false, false, false, false, false, false, false, false, false] (by kernel_rfl) rfl rfl ⟨((HB.out.cell (World.block_lt_of_cell? w _ hw238_0)).trans hw238_0), ((HB.out.cell (World.block_lt_of_cell? w _ hw238_1)).trans hw238_1)⟩ (fun hHeld => ?_); refine with_tabW lockkeeperref10_Right.tab4 lockkeeperref10_Right.bits4 (fun HT_ HW_ => ?_)); (generalize wr.drew = w15 at HB hx238_0 hx238_1 hHeld ⊢); (refine pure_ (i := 0) (N := some 10) (v := ?_) (a' := ?_) (bv 1 23) rfl rfl (any_of HT_.out (by kernel_rfl)) (fun _ _ _ h => h) (Or.inl ⟨by rfl, ?_⟩) ?_ ?_); (rotate_left)
              · (intro w'); (go_simp); (with_reducible rfl)
              rotate_left
              · (simp only [sA]); (rfl)
              (refine pure_ (i := 1) (N := some 11) (v := ?_) (a' := ?_) (bv 2 22) rfl rfl (any_of HT_.out (by kernel_rfl)) (fun _ _ _ h => h) (Or.inl ⟨by rfl, ?_⟩) ?_ ?_); (rotate_left)
              · (intro w'); (go_simp); (with_reducible rfl)
              rotate_left
              · (simp only [sA]); (rfl)
              (refine pure_ (i := 2) (N := some 12) (v := ?_) (a' := ?_) (bv 3 21) rfl rfl (any_of HT_.out (by kernel_rfl)) (fun _ _ _ h => h) (Or.inl ⟨by rfl, ?_⟩) ?_ ?_); (rotate_left)
              · (intro w'); (go_simp); (with_reducible rfl)
              rotate_left
              · (simp only [sA]); (rfl)
              (refine take_ (i := 3) (N := some 13) (v := ?_) (a' := ?_) (bv 4 20) rfl rfl (take_ofW HT_.out HW_.out (by kernel_rfl)) (fun _ _ _ h => h) (Or.inl ⟨by rfl, ?_⟩) hHeld ?_ ?_); (rotate_left)
              · (rintro w' ⟨s0, s1⟩); (go_simp); (with_reducible rfl)
              rotate_left
              · (simp only [sA]); (rfl)
              (refine one_ (i := 4) (N := some 14) (bv 5 19) rfl rfl (one_of HT_.out (by kernel_rfl)) (by decide) (fun K hK => ?_)); (refine goes_ Try.func27 (by kernel_rfl) rfl #[.agg #[.string ((rd_T42 l0 x3_1).f0), .string ((rd_T42 l0 x3_1).f1)]] (by rfl) rfl rfl (by (try simp only [List.map_toArray, List.map_cons, List.map_nil]); first | done | rfl | (simp only [List.length_drop, List.length_take]; rfl) | (simp only [*]; rfl)) ?_); (with_reducible refine (lockkeeperref10_fits.calls ((rd_T42 l0 x3_1).f0) ((rd_T42 l0 x3_1).f1) true _ A4.out).mono ?_); (rintro e w16 ⟨rfl, hb⟩); (refine ⟨_, rfl, ?_⟩); (replace HB := Aside0.mk (below_step (mvW HB.out) hb)); (clear hb); (refine hK.out _ _ ⟨((HB.out.cell (World.block_lt_of_cell? w _ hw238_0)).trans hw238_0), ((HB.out.cell (World.block_lt_of_cell? w _ hw238_1)).trans hw238_1)⟩ (fun hHeld => ?_)); (clear hK K); (refine norm_ (a' := ?_) ?_ ?_); (rotate_left)
              · (show Act.put _ (some 14) _ = _); (simp only [sA]); (rfl)
              (refine pure_ (i := 5) (N := some 15) (v := ?_) (a' := ?_) (bv 6 18) rfl rfl (any_of HT_.out (by kernel_rfl)) (fun _ _ _ h => h) (Or.inl ⟨by rfl, ?_⟩) ?_ ?_); (rotate_left)
              · (intro w'); (go_simp); (with_reducible rfl)
              rotate_left
              · (simp only [sA]); (rfl)
              (refine pure_ (i := 6) (N := some 16) (v := ?_) (a' := ?_) (bv 7 17) rfl rfl (any_of HT_.out (by kernel_rfl)) (fun _ _ _ h => h) (Or.inl ⟨by rfl, ?_⟩) ?_ ?_); (rotate_left)
              · (intro w'); (go_simp); (with_reducible rfl)
              rotate_left
              · (simp only [sA]); (rfl)
              (refine pure_ (i := 7) (N := some 17) (v := ?_) (a' := ?_) (bv 8 16) rfl rfl (any_of HT_.out (by kernel_rfl)) (fun _ _ _ h => h) (Or.inl ⟨by rfl, ?_⟩) ?_ ?_); (rotate_left)
              · (intro w'); (go_simp); (with_reducible rfl)
              rotate_left
              · (simp only [sA]); (rfl)
              (refine pure_ (i := 8) (N := some 18) (v := ?_) (a' := ?_) (bv 9 15) rfl rfl (any_of HT_.out (by kernel_rfl)) (fun _ _ _ h => h) (Or.inl ⟨by rfl, ?_⟩) ?_ ?_); (rotate_left)
              · (intro w'); (go_simp); (with_reducible rfl)
              rotate_left
              · (simp only [sA]); (rfl)
              (refine pure_ (i := 9) (N := some 19) (v := ?_) (a' := ?_) (bv 10 14) rfl rfl (any_of HT_.out (by kernel_rfl)) (fun _ _ _ h => h) (Or.inl ⟨by rfl, ?_⟩) ?_ ?_); (rotate_left)
              · (intro w'); (go_simp); (with_reducible rfl)
              rotate_left
              · (simp only [sA]); (rfl)
              (refine pure_ (i := 10) (N := some 20) (v := undef) (a' := ?_) (bv 11 13) rfl rfl (any_of HT_.out (by kernel_rfl)) (fun _ _ _ h => h) (Or.inr ⟨by rfl, rfl⟩) ?_ ?_); (rotate_left)
              · (simp only [sA]); (rfl)
              (refine pure_ (i := 11) (N := some 21) (v := undef) (a' := ?_) (bv 12 12) rfl rfl (any_of HT_.out (by kernel_rfl)) (fun _ _ _ h => h) (Or.inr ⟨by rfl, rfl⟩) ?_ ?_); (rotate_left)
              · (simp only [sA]); (rfl)
              (refine pure_ (i := 12) (N := some 22) (v := undef) (a' := ?_) (bv 13 11) rfl rfl (any_of HT_.out (by kernel_rfl)) (fun _ _ _ h => h) (Or.inr ⟨by rfl, rfl⟩) ?_ ?_); (rotate_left)
              · (simp only [sA]); (rfl)
              (refine pure_ (i := 13) (N := some 23) (v := undef) (a' := ?_) (bv 14 10) rfl rfl (any_of HT_.out (by kernel_rfl)) (fun _ _ _ h => h) (Or.inr ⟨by rfl, rfl⟩) ?_ ?_); (rotate_left)
              · (simp only [sA]); (rfl)
              (refine pure_ (i := 14) (N := some 24) (v := undef) (a' := ?_) (bv 15 9) rfl rfl (any_of HT_.out (by kernel_rfl)) (fun _ _ _ h => h) (Or.inr ⟨by rfl, rfl⟩) ?_ ?_); (rotate_left)
              · (simp only [sA]); (rfl)
              (refine pure_ (i := 15) (N := some 25) (v := undef) (a' := ?_) (bv 16 8) rfl rfl (any_of HT_.out (by kernel_rfl)) (fun _ _ _ h => h) (Or.inr ⟨by rfl, rfl⟩) ?_ ?_); (rotate_left)
              · (simp only [sA]); (rfl)
              (refine pure_ (i := 16) (N := some 26) (v := undef) (a' := ?_) (bv 17 7) rfl rfl (any_of HT_.out (by kernel_rfl)) (fun _ _ _ h => h) (Or.inr ⟨by rfl, rfl⟩) ?_ ?_); (rotate_left)
              · (simp only [sA]); (rfl)
              (refine pure_ (i := 17) (N := some 27) (v := undef) (a' := ?_) (bv 18 6) rfl rfl (any_of HT_.out (by kernel_rfl)) (fun _ _ _ h => h) (Or.inr ⟨by rfl, rfl⟩) ?_ ?_); (rotate_left)
              · (simp only [sA]); (rfl)
              (refine pure_ (i := 18) (N := some 28) (v := undef) (a' := ?_) (bv 19 5) rfl rfl (any_of HT_.out (by kernel_rfl)) (fun _ _ _ h => h) (Or.inr ⟨by rfl, rfl⟩) ?_ ?_); (rotate_left)
              · (simp only [sA]); (rfl)
              (refine pure_ (i := 19) (N := some 29) (v := undef) (a' := ?_) (bv 20 4) rfl rfl (any_of HT_.out (by kernel_rfl)) (fun _ _ _ h => h) (Or.inr ⟨by rfl, rfl⟩) ?_ ?_); (rotate_left)
              · (simp only [sA]); (rfl)
              (refine pure_ (i := 20) (N := some 30) (v := undef) (a' := ?_) (bv 21 3) rfl rfl (any_of HT_.out (by kernel_rfl)) (fun _ _ _ h => h) (Or.inr ⟨by rfl, rfl⟩) ?_ ?_); (rotate_left)
              · (simp only [sA]); (rfl)
              (refine pure_ (i := 21) (N := some 31) (v := undef) (a' := ?_) (bv 22 2) rfl rfl (any_of HT_.out (by kernel_rfl)) (fun _ _ _ h => h) (Or.inr ⟨by rfl, rfl⟩) ?_ ?_); (rotate_left)
              · (simp only [sA]); (rfl)
              (refine pure_ (i := 22) (N := some 32) (v := ?_) (a' := ?_) (bv 23 1) rfl rfl (any_of HT_.out (by kernel_rfl)) (fun _ _ _ h => h) (Or.inl ⟨by rfl, ?_⟩) ?_ ?_); (rotate_left)
              · (intro w'); (go_simp); (with_reducible rfl)
              rotate_left
              · (simp only [sA]); (rfl)
              (refine pure_ (i := 23) (N := some 33) (v := ?_) (a' := ?_) (bv 24 0) rfl rfl (any_of HT_.out (by kernel_rfl)) (fun _ _ _ h => h) (Or.inl ⟨by rfl, ?_⟩) ?_ ?_); (rotate_left)
              · (intro w'); (go_simp); (with_reducible rfl)
              rotate_left
              · (simp only [sA]); (rfl)
              (refine done_ (done_of HT_.out (by kernel_rfl)) ?_); (try go_wp2); (go_roundg k1)
              case measure => have := HK1.out; omega
              case rel => exact ⟨(wrap64 (x3_1 + 1)), (by first | rfl | (simp; done) | (simp [*]; done)), H', ⟨by have := HK1.out; omega⟩, ⟨mvW HB.out⟩⟩
          · (replace c5 := Bool.eq_false_iff.mpr c5); (subst c5); (have H1 : (some false) = some r := by rw [if_neg (show ¬ (false = true) by decide)] at H; exact H); (clear H); (have H := H1); (clear H1); (obtain rfl := Option.some.inj H); (try go_wp2); (replace HB := Aside0.mk (below_drew1 HB.out)); (have p238 : 0 ≤ (x3_1 : Int) := of_decide_eq_true (by first | (with_reducible assumption) | assumption)); (have q238 : x3_1 < (l0.length : Int) := of_decide_eq_true (by first | (with_reducible assumption) | assumption)); (obtain ⟨ad238, e238, hx238_0, hx238_1⟩ := at_T42 HR0.out x3_1 p238 q238); (have hw238_1 := hx238_1); (have hw238_0 := hx238_0); (cases e238); (replace hx238_0 := (HB.out.cell (World.block_lt_of_cell? w _ hx238_0)).trans hx238_0); (replace hx238_1 := (HB.out.cell (World.block_lt_of_cell? w _ hx238_1)).trans hx238_1); (replace p238 := eq_true p238); (replace q238 := eq_true q238); (refine start_ (n := 24) (S := fun w' => w'.cell? (ad238.add ((x3_1).toNat * 2)) = some (.string ((rd_T42 l0 x3_1).f0)) ∧ w'.cell? ⟨(ad238.add ((x3_1).toNat * 2)).block, (ad238.add ((x3_1).toNat * 2)).off + 1, none⟩ = some (.string ((rd_T42 l0 x3_1).f1))) (ds := []) #[false, false, false, false, false, false, false, false, false, false, false, false, false, false, false, false, false, false, false, false, false, false, false, false] (by kernel_rfl) rfl rfl ⟨((HB.out.cell (World.block_lt_of_cell? w _ hw238_0)).trans hw238_0), ((HB.out.cell (World.block_lt_of_cell? w _ hw238_1)).trans hw238_1)⟩ (fun hHeld => ?_); refine with_tabW lockkeeperref10_Right.tab4 lockkeeperref10_Right.bits4 (fun HT_ HW_ => ?_)); (generalize wr.drew = w17 at HB hx238_0 hx238_1 hHeld ⊢); (refine pure_ (i := 0) (N := some 10) (v := ?_) (a' := ?_) (bv 1 23) rfl rfl (any_of HT_.out (by kernel_rfl)) (fun _ _ _ h => h) (Or.inl ⟨by rfl, ?_⟩) ?_ ?_); (rotate_left)
            · (intro w'); (go_simp); (with_reducible rfl)
            rotate_left
            · (simp only [sA]); (rfl)
            (refine pure_ (i := 1) (N := some 11) (v := ?_) (a' := ?_) (bv 2 22) rfl rfl (any_of HT_.out (by kernel_rfl)) (fun _ _ _ h => h) (Or.inl ⟨by rfl, ?_⟩) ?_ ?_); (rotate_left)
            · (intro w'); (go_simp); (with_reducible rfl)
            rotate_left
            · (simp only [sA]); (rfl)
            (refine pure_ (i := 2) (N := some 12) (v := ?_) (a' := ?_) (bv 3 21) rfl rfl (any_of HT_.out (by kernel_rfl)) (fun _ _ _ h => h) (Or.inl ⟨by rfl, ?_⟩) ?_ ?_); (rotate_left)
            · (intro w'); (go_simp); (with_reducible rfl)
            rotate_left
            · (simp only [sA]); (rfl)
            (refine take_ (i := 3) (N := some 13) (v := ?_) (a' := ?_) (bv 4 20) rfl rfl (take_ofW HT_.out HW_.out (by kernel_rfl)) (fun _ _ _ h => h) (Or.inl ⟨by rfl, ?_⟩) hHeld ?_ ?_); (rotate_left)
            · (rintro w' ⟨s0, s1⟩); (go_simp); (with_reducible rfl)
            rotate_left
            · (simp only [sA]); (rfl)
            (refine one_ (i := 4) (N := some 14) (bv 5 19) rfl rfl (one_of HT_.out (by kernel_rfl)) (by decide) (fun K hK => ?_)); (refine goes_ Try.func27 (by kernel_rfl) rfl #[.agg #[.string ((rd_T42 l0 x3_1).f0), .string ((rd_T42 l0 x3_1).f1)]] (by rfl) rfl rfl (by (try simp only [List.map_toArray, List.map_cons, List.map_nil]); first | done | rfl | (simp only [List.length_drop, List.length_take]; rfl) | (simp only [*]; rfl)) ?_); (with_reducible refine (lockkeeperref10_fits.calls ((rd_T42 l0 x3_1).f0) ((rd_T42 l0 x3_1).f1) false _ A4.out).mono ?_); (rintro e w18 ⟨rfl, hb⟩); (refine ⟨_, rfl, ?_⟩); (replace HB := Aside0.mk (below_step (mvW HB.out) hb)); (clear hb); (refine hK.out _ _ ⟨((HB.out.cell (World.block_lt_of_cell? w _ hw238_0)).trans hw238_0), ((HB.out.cell (World.block_lt_of_cell? w _ hw238_1)).trans hw238_1)⟩ (fun hHeld => ?_)); (clear hK K); (refine norm_ (a' := ?_) ?_ ?_); (rotate_left)
            · (show Act.put _ (some 14) _ = _); (simp only [sA]); (rfl)
            (refine pure_ (i := 5) (N := some 15) (v := ?_) (a' := ?_) (bv 6 18) rfl rfl (any_of HT_.out (by kernel_rfl)) (fun _ _ _ h => h) (Or.inl ⟨by rfl, ?_⟩) ?_ ?_); (rotate_left)
            · (intro w'); (go_simp); (with_reducible rfl)
            rotate_left
            · (simp only [sA]); (rfl)
            (refine pure_ (i := 6) (N := some 16) (v := ?_) (a' := ?_) (bv 7 17) rfl rfl (any_of HT_.out (by kernel_rfl)) (fun _ _ _ h => h) (Or.inl ⟨by rfl, ?_⟩) ?_ ?_); (rotate_left)
            · (intro w'); (go_simp); (with_reducible rfl)
            rotate_left
            · (simp only [sA]); (rfl)
            (refine pure_ (i := 7) (N := some 17) (v := undef) (a' := ?_) (bv 8 16) rfl rfl (any_of HT_.out (by kernel_rfl)) (fun _ _ _ h => h) (Or.inr ⟨by rfl, rfl⟩) ?_ ?_); (rotate_left)
            · (simp only [sA]); (rfl)
            (refine pure_ (i := 8) (N := some 18) (v := undef) (a' := ?_) (bv 9 15) rfl rfl (any_of HT_.out (by kernel_rfl)) (fun _ _ _ h => h) (Or.inr ⟨by rfl, rfl⟩) ?_ ?_); (rotate_left)
            · (simp only [sA]); (rfl)
            (refine pure_ (i := 9) (N := some 19) (v := undef) (a' := ?_) (bv 10 14) rfl rfl (any_of HT_.out (by kernel_rfl)) (fun _ _ _ h => h) (Or.inr ⟨by rfl, rfl⟩) ?_ ?_); (rotate_left)
            · (simp only [sA]); (rfl)
            (refine pure_ (i := 10) (N := some 20) (v := undef) (a' := ?_) (bv 11 13) rfl rfl (any_of HT_.out (by kernel_rfl)) (fun _ _ _ h => h) (Or.inr ⟨by rfl, rfl⟩) ?_ ?_); (rotate_left)
            · (simp only [sA]); (rfl)
            (refine pure_ (i := 11) (N := some 21) (v := undef) (a' := ?_) (bv 12 12) rfl rfl (any_of HT_.out (by kernel_rfl)) (fun _ _ _ h => h) (Or.inr ⟨by rfl, rfl⟩) ?_ ?_); (rotate_left)
            · (simp only [sA]); (rfl)
            (refine pure_ (i := 12) (N := some 22) (v := undef) (a' := ?_) (bv 13 11) rfl rfl (any_of HT_.out (by kernel_rfl)) (fun _ _ _ h => h) (Or.inr ⟨by rfl, rfl⟩) ?_ ?_); (rotate_left)
            · (simp only [sA]); (rfl)
            (refine pure_ (i := 13) (N := some 23) (v := undef) (a' := ?_) (bv 14 10) rfl rfl (any_of HT_.out (by kernel_rfl)) (fun _ _ _ h => h) (Or.inr ⟨by rfl, rfl⟩) ?_ ?_); (rotate_left)
            · (simp only [sA]); (rfl)
            (refine pure_ (i := 14) (N := some 24) (v := undef) (a' := ?_) (bv 15 9) rfl rfl (any_of HT_.out (by kernel_rfl)) (fun _ _ _ h => h) (Or.inr ⟨by rfl, rfl⟩) ?_ ?_); (rotate_left)
            · (simp only [sA]); (rfl)
            (refine pure_ (i := 15) (N := some 25) (v := undef) (a' := ?_) (bv 16 8) rfl rfl (any_of HT_.out (by kernel_rfl)) (fun _ _ _ h => h) (Or.inr ⟨by rfl, rfl⟩) ?_ ?_); (rotate_left)
            · (simp only [sA]); (rfl)
            (refine pure_ (i := 16) (N := some 26) (v := undef) (a' := ?_) (bv 17 7) rfl rfl (any_of HT_.out (by kernel_rfl)) (fun _ _ _ h => h) (Or.inr ⟨by rfl, rfl⟩) ?_ ?_); (rotate_left)
            · (simp only [sA]); (rfl)
            (refine pure_ (i := 17) (N := some 27) (v := undef) (a' := ?_) (bv 18 6) rfl rfl (any_of HT_.out (by kernel_rfl)) (fun _ _ _ h => h) (Or.inr ⟨by rfl, rfl⟩) ?_ ?_); (rotate_left)
            · (simp only [sA]); (rfl)
            (refine pure_ (i := 18) (N := some 28) (v := undef) (a' := ?_) (bv 19 5) rfl rfl (any_of HT_.out (by kernel_rfl)) (fun _ _ _ h => h) (Or.inr ⟨by rfl, rfl⟩) ?_ ?_); (rotate_left)
            · (simp only [sA]); (rfl)
            (refine pure_ (i := 19) (N := some 29) (v := undef) (a' := ?_) (bv 20 4) rfl rfl (any_of HT_.out (by kernel_rfl)) (fun _ _ _ h => h) (Or.inr ⟨by rfl, rfl⟩) ?_ ?_); (rotate_left)
            · (simp only [sA]); (rfl)
            (refine pure_ (i := 20) (N := some 30) (v := undef) (a' := ?_) (bv 21 3) rfl rfl (any_of HT_.out (by kernel_rfl)) (fun _ _ _ h => h) (Or.inr ⟨by rfl, rfl⟩) ?_ ?_); (rotate_left)
            · (simp only [sA]); (rfl)
            (refine pure_ (i := 21) (N := some 31) (v := undef) (a' := ?_) (bv 22 2) rfl rfl (any_of HT_.out (by kernel_rfl)) (fun _ _ _ h => h) (Or.inr ⟨by rfl, rfl⟩) ?_ ?_); (rotate_left)
            · (simp only [sA]); (rfl)
            (refine pure_ (i := 22) (N := some 32) (v := undef) (a' := ?_) (bv 23 1) rfl rfl (any_of HT_.out (by kernel_rfl)) (fun _ _ _ h => h) (Or.inr ⟨by rfl, rfl⟩) ?_ ?_); (rotate_left)
            · (simp only [sA]); (rfl)
            (refine pure_ (i := 23) (N := some 33) (v := ?_) (a' := ?_) (bv 24 0) rfl rfl (any_of HT_.out (by kernel_rfl)) (fun _ _ _ h => h) (Or.inl ⟨by rfl, ?_⟩) ?_ ?_); (rotate_left)
            · (intro w'); (go_simp); (with_reducible rfl)
            rotate_left
            · (simp only [sA]); (rfl)
            (refine done_ (done_of HT_.out (by kernel_rfl)) ?_); (try go_wp2); (go_ret); (exact ⟨by first | rfl | (simp [errW_none, errW_some] <;> rfl) | (simp [*, errW_none, errW_some] <;> rfl), by repeat (first | (with_reducible first | exact HB.out | apply below_alloc | apply pw_below_drewN | apply below_drew1) | exact HB.out)⟩)
        · (rw [if_neg c3] at H); (exact absurd H (by simp))
      · (rw [if_neg c2] at H); (have c2b0 : decide (x3_1 < (l0.length : Int)) = false := decide_eq_false c2); (clear c2); (obtain rfl := Option.some.inj H); (go_wp2); (go_ret); (exact ⟨by first | rfl | (simp [errW_none, errW_some] <;> rfl) | (simp [*, errW_none, errW_some] <;> rfl), by repeat (first | (with_reducible first | exact HB.out | apply below_alloc | apply pw_below_drewN | apply below_drew1) | exact HB.out)⟩)

/-! ### lockkeeperref10_Put: function 45 -/
mutual
def lockkeeperref10_Put.j0 : Nat → List (S42) → Bool → ByteArray → ByteArray → Option ((List (S42)) × Int)
  | 0, _, _, _, _ => none
  | k + 1, x0, x16, x243000, x243001 => if x16 = true then (some (([] : List (S42)), 100)) else (lockkeeperref10_Put.l0 k x0 ([] : List (S42)) 0 x243000 x243001)
def lockkeeperref10_Put.l0 : Nat → List (S42) → List (S42) → Int → ByteArray → ByteArray → Option ((List (S42)) × Int)
  | 0, _, _, _, _, _ => none
  | k + 1, x0, x6, x7, x243000, x243001 => if x7 < (x0.length : Int) then (if 0 ≤ x7 then (if (Op.bytesLess (((rd_T42 x0 x7).f0).toList) x243000.toList) = true then (if x6.length < 4398046511104 then (lockkeeperref10_Put.l0 k x0 (x6 ++ [(⟨(rd_T42 x0 x7).f0, (rd_T42 x0 x7).f1⟩ : S42)]) (wrap64 (x7 + 1)) x243000 x243001) else (none)) else (lockkeeperref10_Put.l0 k x0 x6 (wrap64 (x7 + 1)) x243000 x243001)) else (none)) else (if x6.length < 4398046511104 then (lockkeeperref10_Put.l1 k x0 (x6 ++ [(⟨x243000, x243001⟩ : S42)]) 0 x243000 x243001) else (none))
def lockkeeperref10_Put.l1 : Nat → List (S42) → List (S42) → Int → ByteArray → ByteArray → Option ((List (S42)) × Int)
  | 0, _, _, _, _, _ => none
  | k + 1, x0, x6, x8, x243000, x243001 => if x8 < (x0.length : Int) then (if 0 ≤ x8 then (if (Op.bytesLess x243000.toList (((rd_T42 x0 x8).f0).toList)) = true then (if x6.length < 4398046511104 then (lockkeeperref10_Put.l1 k x0 (x6 ++ [(⟨(rd_T42 x0 x8).f0, (rd_T42 x0 x8).f1⟩ : S42)]) (wrap64 (x8 + 1)) x243000 x243001) else (none)) else (lockkeeperref10_Put.l1 k x0 x6 (wrap64 (x8 + 1)) x243000 x243001)) else (none)) else (some (x6, 0))
end
def lockkeeperref10_Put.f (k : Nat) (l0 : List (S42)) (a1_0 : ByteArray) (a1_1 : ByteArray) : Option ((List (S42)) × Int) := (lockkeeperref10_Right.f k l0).bind fun t243 => (if t243 = true then ((lockkeeperref10_fits.f a1_0 a1_1).bind fun t244 => (lockkeeperref10_Put.j0 k l0 (!t244) a1_0 a1_1)) else (lockkeeperref10_Put.j0 k l0 true a1_0 a1_1))
theorem lockkeeperref10_Put.mono_l : ∀ k, (∀ y0 y1 y2 y3, LeO (lockkeeperref10_Put.j0 k y0 y1 y2 y3) (lockkeeperref10_Put.j0 (k + 1) y0 y1 y2 y3)) ∧ (∀ y0 y1 y2 y3 y4, LeO (lockkeeperref10_Put.l0 k y0 y1 y2 y3 y4) (lockkeeperref10_Put.l0 (k + 1) y0 y1 y2 y3 y4)) ∧ (∀ y0 y1 y2 y3 y4, LeO (lockkeeperref10_Put.l1 k y0 y1 y2 y3 y4) (lockkeeperref10_Put.l1 (k + 1) y0 y1 y2 y3 y4))
  | 0 => ⟨fun _ _ _ _ r h => by simp [lockkeeperref10_Put.j0] at h, fun _ _ _ _ _ r h => by simp [lockkeeperref10_Put.l0] at h, fun _ _ _ _ _ r h => by simp [lockkeeperref10_Put.l1] at h⟩
  | k + 1 => by
    obtain ⟨ih0, ih1, ih2⟩ := lockkeeperref10_Put.mono_l k
    refine ⟨?_, ?_, ?_⟩
    · intro y0 y1 y2 y3
      unfold lockkeeperref10_Put.j0
      repeat' first
      | (with_reducible exact ih0 _ _ _ _)
      | (with_reducible exact ih1 _ _ _ _ _)
      | (with_reducible exact ih2 _ _ _ _ _)
      | (with_reducible exact lockkeeperref10_Right.mono _ _)
      | (with_reducible exact LeO.refl _)
      | (with_reducible exact LeO.none _)
      | (with_reducible refine LeO.ite ?_ ?_)
      | (with_reducible refine LeO.bind ?_ (fun _ => ?_))
      | exact ih0 _ _ _ _
      | exact ih1 _ _ _ _ _
      | exact ih2 _ _ _ _ _
      | exact lockkeeperref10_Right.mono _ _
      | exact LeO.none _
      | refine LeO.ite ?_ ?_
      | refine LeO.bind ?_ (fun _ => ?_)
    · intro y0 y1 y2 y3 y4
      unfold lockkeeperref10_Put.l0
      repeat' first
      | (with_reducible exact ih0 _ _ _ _)
      | (with_reducible exact ih1 _ _ _ _ _)
      | (with_reducible exact ih2 _ _ _ _ _)
      | (with_reducible exact lockkeeperref10_Right.mono _ _)
      | (with_reducible exact LeO.refl _)
      | (with_reducible exact LeO.none _)
      | (with_reducible refine LeO.ite ?_ ?_)
      | (with_reducible refine LeO.bind ?_ (fun _ => ?_))
      | exact ih0 _ _ _ _
      | exact ih1 _ _ _ _ _
      | exact ih2 _ _ _ _ _
      | exact lockkeeperref10_Right.mono _ _
      | exact LeO.none _
      | refine LeO.ite ?_ ?_
      | refine LeO.bind ?_ (fun _ => ?_)
    · intro y0 y1 y2 y3 y4
      unfold lockkeeperref10_Put.l1
      repeat' first
      | (with_reducible exact ih0 _ _ _ _)
      | (with_reducible exact ih1 _ _ _ _ _)
      | (with_reducible exact ih2 _ _ _ _ _)
      | (with_reducible exact lockkeeperref10_Right.mono _ _)
      | (with_reducible exact LeO.refl _)
      | (with_reducible exact LeO.none _)
      | (with_reducible refine LeO.ite ?_ ?_)
      | (with_reducible refine LeO.bind ?_ (fun _ => ?_))
      | exact ih0 _ _ _ _
      | exact ih1 _ _ _ _ _
      | exact ih2 _ _ _ _ _
      | exact lockkeeperref10_Right.mono _ _
      | exact LeO.none _
      | refine LeO.ite ?_ ?_
      | refine LeO.bind ?_ (fun _ => ?_)
theorem lockkeeperref10_Put.mono : ∀ a0 a1 a2 k, LeO (lockkeeperref10_Put.f k a0 a1 a2) (lockkeeperref10_Put.f (k + 1) a0 a1 a2) := by
  intro a0 a1 a2 k
  obtain ⟨ih0, ih1, ih2⟩ := lockkeeperref10_Put.mono_l k
  unfold lockkeeperref10_Put.f
  repeat' first
      | (with_reducible exact ih0 _ _ _ _)
      | (with_reducible exact ih1 _ _ _ _ _)
      | (with_reducible exact ih2 _ _ _ _ _)
      | (with_reducible exact lockkeeperref10_Right.mono _ _)
      | (with_reducible exact LeO.refl _)
      | (with_reducible exact LeO.none _)
      | (with_reducible refine LeO.ite ?_ ?_)
      | (with_reducible refine LeO.bind ?_ (fun _ => ?_))
      | exact ih0 _ _ _ _
      | exact ih1 _ _ _ _ _
      | exact ih2 _ _ _ _ _
      | exact lockkeeperref10_Right.mono _ _
      | exact LeO.none _
      | refine LeO.ite ?_ ?_
      | refine LeO.bind ?_ (fun _ => ?_)
set_option maxHeartbeats 8000000 in
set_option maxRecDepth 100000 in
theorem lockkeeperref10_Put.calls (k : Nat) (A0 : Option Addr) (c0 : Nat) (l0 : List (S42)) (a1_0 : ByteArray) (a1_1 : ByteArray) (r1 : List (S42)) (r2 : Int) (w : World) (hr0 : Kd.C k42 w A0 l0.length l0) (hc0 : l0.length ≤ c0) (h : lockkeeperref10_Put.f k l0 a1_0 a1_1 = some (r1, r2)) :
    Calls Try.prog 45 #[.slice A0 l0.length c0, .agg #[.string a1_0, .string a1_1]] w fun e w' => ∃ v0_ : Value, e = .returned (.tuple #[v0_, .int .i64 r2]) ∧ Kd.R k42 42 w' w.heap.size (fun _ => True) v0_ r1 ∧ Below w.heap.size w w' := by
  (have hu42 := Try.underlying42); (have HR0 := Aside0.mk hr0); (have HC0 := Aside0.mk hc0); (clear hr0 hc0); (have HB := Aside0.mk (Below.refl w.heap.size w)); (have H : ((lockkeeperref10_Right.f k l0).bind fun t243 => (if t243 = true then ((lockkeeperref10_fits.f a1_0 a1_1).bind fun t244 => (lockkeeperref10_Put.j0 k l0 (!t244) a1_0 a1_1)) else (lockkeeperref10_Put.j0 k l0 true a1_0 a1_1))) = some (r1, r2) := h); (clear h); (have HC3 := Aside0.mk H); (clear H); (go_enter Try.func45, Try.ntmps45); (go_upto_region 1 with (first | ((with_reducible refine gate_dst (N := 3) rfl ?_); refine box_event ?hg (N := 3) ?hd (cs := #[.string a1_0, .string a1_1]) (t := 42) ?hr ?_; (case hd => rfl); (case hg => rfl); (case hr => first | (go_simp; done) | (go_simp; rfl)); intro gb242 hg w4 hbox hb; have BK242 := Aside0.mk (hbox); have GW242 := Aside0.mk ((by rw [hg]; exact (below_size (mvW HB.out)) : w.heap.size ≤ gb242)); have GE242 := Aside0.mk ((by rw [hg]; exact (below_size (mvW HB.out)) : w.heap.size ≤ gb242)); replace HB := Aside0.mk (below_step (mvW HB.out) hb); clear hb hbox hg))); (repeat (go_quiet (first | ((with_reducible refine gate_dst (N := 3) rfl ?_); refine box_event ?hg (N := 3) ?hd (cs := #[.string a1_0, .string a1_1]) (t := 42) ?hr ?_; (case hd => rfl); (case hg => rfl); (case hr => first | (go_simp; done) | (go_simp; rfl)); intro gb242 hg w4 hbox hb; have BK242 := Aside0.mk (hbox); have GW242 := Aside0.mk ((by rw [hg]; exact (below_size (mvW HB.out)) : w.heap.size ≤ gb242)); have GE242 := Aside0.mk ((by rw [hg]; exact (below_size (mvW HB.out)) : w.heap.size ≤ gb242)); replace HB := Aside0.mk (below_step (mvW HB.out) hb); clear hb hbox hg)); go_upto_region 1 with (first | ((with_reducible refine gate_dst (N := 3) rfl ?_); refine box_event ?hg (N := 3) ?hd (cs := #[.string a1_0, .string a1_1]) (t := 42) ?hr ?_; (case hd => rfl); (case hg => rfl); (case hr => first | (go_simp; done) | (go_simp; rfl)); intro gb242 hg w4 hbox hb; have BK242 := Aside0.mk (hbox); have GW242 := Aside0.mk ((by rw [hg]; exact (below_size (mvW HB.out)) : w.heap.size ≤ gb242)); have GE242 := Aside0.mk ((by rw [hg]; exact (below_size (mvW HB.out)) : w.heap.size ≤ gb242)); replace HB := Aside0.mk (below_step (mvW HB.out) hb); clear hb hbox hg)))); ((try simp only [Act.put, List.setIfInBounds_toArray, List.set_cons_zero, List.set_cons_succ])); (go_cut [16] (fun v16 wc => ∃ (kq : Nat) (x16_2 : Bool), v16 = .bool x16_2 ∧ Aside0 (lockkeeperref10_Put.j0 kq l0 x16_2 a1_0 a1_1 = some (r1, r2)) ∧ Aside0 (kq ≤ k) ∧ Aside0 (wc.heap[gb242]? = some (.cells #[.string a1_0, .string a1_1] 42 (0, 0))) ∧ Aside0 (Below w.heap.size w wc)))
  case first =>
    (have H := HC3.out); (clear HC3); (replace H := Option.bind_eq_some_iff.mp H); (obtain ⟨t243, A50, H⟩ := H); (replace H : (if t243 = true then ((lockkeeperref10_fits.f a1_0 a1_1).bind fun t244 => (lockkeeperref10_Put.j0 k l0 (!t244) a1_0 a1_1)) else (lockkeeperref10_Put.j0 k l0 true a1_0 a1_1)) = some (r1, r2) := H); (have A5 := Aside0.mk A50); (clear A50); (by_cases c6 : t243 = true)
    · (subst c6); (have H1 : ((lockkeeperref10_fits.f a1_0 a1_1).bind fun t244 => (lockkeeperref10_Put.j0 k l0 (!t244) a1_0 a1_1)) = some (r1, r2) := by rw [if_pos rfl] at H; exact H); (clear H); (have H := H1); (clear H1); (replace H := Option.bind_eq_some_iff.mp H); (obtain ⟨t244, A70, H⟩ := H); (replace H : (lockkeeperref10_Put.j0 k l0 (!t244) a1_0 a1_1) = some (r1, r2) := H); (have A7 := Aside0.mk A70); (clear A70); (have H' := Aside0.mk H); (clear H); (go_wp2_with (first | (go_at_call 10; (with_reducible refine (lockkeeperref10_Right.calls k _ _ l0 true _ ?side1 ?side2 A5.out).mono ?_); (case side1 => repeat (first | exact (Kd.C_below HR0.out HB.out) | (with_reducible refine Kd.C_alloc ?_ _) | (with_reducible refine Kd.C_drewN ?_ _) | (with_reducible refine Kd.C_drew ?_))); (case side2 => exact HC0.out); rintro e w8 ⟨rfl, hb⟩; replace BK242 := Aside0.mk (blk_below (mvB BK242.out) hb); replace HB := Aside0.mk (below_step (mvW HB.out) hb); clear hb; obtain ⟨Z9_0, Z9_1⟩ := bc2 BK242.out; obtain ⟨Y9_0, Y9_1⟩ := bf2 BK242.out) | (go_at_call 27; (with_reducible refine (lockkeeperref10_fits.calls a1_0 a1_1 t244 _ A7.out).mono ?_); rintro e w10 ⟨rfl, hb⟩; replace BK242 := Aside0.mk (blk_below (mvB BK242.out) hb); replace HB := Aside0.mk (below_step (mvW HB.out) hb); (try clear hb); (try clear hb2); (try clear hk); (try clear hi)))); (repeat (go_quiet (first | (go_at_call 10; (with_reducible refine (lockkeeperref10_Right.calls k _ _ l0 true _ ?side1 ?side2 A5.out).mono ?_); (case side1 => repeat (first | exact (Kd.C_below HR0.out HB.out) | (with_reducible refine Kd.C_alloc ?_ _) | (with_reducible refine Kd.C_drewN ?_ _) | (with_reducible refine Kd.C_drew ?_))); (case side2 => exact HC0.out); rintro e w8 ⟨rfl, hb⟩; replace BK242 := Aside0.mk (blk_below (mvB BK242.out) hb); replace HB := Aside0.mk (below_step (mvW HB.out) hb); clear hb; obtain ⟨Z9_0, Z9_1⟩ := bc2 BK242.out; obtain ⟨Y9_0, Y9_1⟩ := bf2 BK242.out) | (go_at_call 27; (with_reducible refine (lockkeeperref10_fits.calls a1_0 a1_1 t244 _ A7.out).mono ?_); rintro e w10 ⟨rfl, hb⟩; replace BK242 := Aside0.mk (blk_below (mvB BK242.out) hb); replace HB := Aside0.mk (below_step (mvW HB.out) hb); (try clear hb); (try clear hb2); (try clear hk); (try clear hi))); try go_wp2_with (first | (go_at_call 10; (with_reducible refine (lockkeeperref10_Right.calls k _ _ l0 true _ ?side1 ?side2 A5.out).mono ?_); (case side1 => repeat (first | exact (Kd.C_below HR0.out HB.out) | (with_reducible refine Kd.C_alloc ?_ _) | (with_reducible refine Kd.C_drewN ?_ _) | (with_reducible refine Kd.C_drew ?_))); (case side2 => exact HC0.out); rintro e w8 ⟨rfl, hb⟩; replace BK242 := Aside0.mk (blk_below (mvB BK242.out) hb); replace HB := Aside0.mk (below_step (mvW HB.out) hb); clear hb; obtain ⟨Z9_0, Z9_1⟩ := bc2 BK242.out; obtain ⟨Y9_0, Y9_1⟩ := bf2 BK242.out) | (go_at_call 27; (with_reducible refine (lockkeeperref10_fits.calls a1_0 a1_1 t244 _ A7.out).mono ?_); rintro e w10 ⟨rfl, hb⟩; replace BK242 := Aside0.mk (blk_below (mvB BK242.out) hb); replace HB := Aside0.mk (below_step (mvW HB.out) hb); (try clear hb); (try clear hb2); (try clear hk); (try clear hi))))); (go_meet)
      case rel => exact ⟨_, (!t244), (by first | rfl | (simp; done) | (simp [*]; done)), H', ⟨by first | omega | exact Nat.le_refl _⟩, ⟨mvB BK242.out⟩, ⟨mvW HB.out⟩⟩
    · (replace c6 := Bool.eq_false_iff.mpr c6); (subst c6); (have H1 : (lockkeeperref10_Put.j0 k l0 true a1_0 a1_1) = some (r1, r2) := by rw [if_neg (show ¬ (false = true) by decide)] at H; exact H); (clear H); (have H := H1); (clear H1); (have H' := Aside0.mk H); (clear H); (go_wp2_with (first | (go_at_call 10; (with_reducible refine (lockkeeperref10_Right.calls k _ _ l0 false _ ?side1 ?side2 A5.out).mono ?_); (case side1 => repeat (first | exact (Kd.C_below HR0.out HB.out) | (with_reducible refine Kd.C_alloc ?_ _) | (with_reducible refine Kd.C_drewN ?_ _) | (with_reducible refine Kd.C_drew ?_))); (case side2 => exact HC0.out); rintro e w11 ⟨rfl, hb⟩; replace BK242 := Aside0.mk (blk_below (mvB BK242.out) hb); replace HB := Aside0.mk (below_step (mvW HB.out) hb); (try clear hb); (try clear hb2); (try clear hk); (try clear hi)))); (repeat (go_quiet (first | (go_at_call 10; (with_reducible refine (lockkeeperref10_Right.calls k _ _ l0 false _ ?side1 ?side2 A5.out).mono ?_); (case side1 => repeat (first | exact (Kd.C_below HR0.out HB.out) | (with_reducible refine Kd.C_alloc ?_ _) | (with_reducible refine Kd.C_drewN ?_ _) | (with_reducible refine Kd.C_drew ?_))); (case side2 => exact HC0.out); rintro e w11 ⟨rfl, hb⟩; replace BK242 := Aside0.mk (blk_below (mvB BK242.out) hb); replace HB := Aside0.mk (below_step (mvW HB.out) hb); (try clear hb); (try clear hb2); (try clear hk); (try clear hi))); try go_wp2_with (first | (go_at_call 10; (with_reducible refine (lockkeeperref10_Right.calls k _ _ l0 false _ ?side1 ?side2 A5.out).mono ?_); (case side1 => repeat (first | exact (Kd.C_below HR0.out HB.out) | (with_reducible refine Kd.C_alloc ?_ _) | (with_reducible refine Kd.C_drewN ?_ _) | (with_reducible refine Kd.C_drew ?_))); (case side2 => exact HC0.out); rintro e w11 ⟨rfl, hb⟩; replace BK242 := Aside0.mk (blk_below (mvB BK242.out) hb); replace HB := Aside0.mk (below_step (mvW HB.out) hb); (try clear hb); (try clear hb2); (try clear hk); (try clear hi))))); (go_meet)
      case rel => exact ⟨_, (true), (by first | rfl | (simp; done) | (simp [*]; done)), H', ⟨by first | omega | exact Nat.le_refl _⟩, ⟨mvB BK242.out⟩, ⟨mvW HB.out⟩⟩
  case rest =>
    (clear HC3); (try clear p2); (try clear c4); (try clear c6); (try clear Z9_0 Z9_1); (try clear Y9_0 Y9_1); (obtain ⟨kq, x16_2, rfl, HA, HJ2, BK242, HB⟩ := hcut)
    cases kq with
    | zero => exact absurd HA.out (by simp [lockkeeperref10_Put.j0])
    | succ kj2 =>
      (have H := HA.out); (clear HA); (simp only [lockkeeperref10_Put.j0] at H); (by_cases c12 : x16_2 = true)
      · (subst c12); (have H1 : (some (([] : List (S42)), 100)) = some (r1, r2) := by rw [if_pos rfl] at H; exact H); (clear H); (have H := H1); (clear H1); (simp only [Option.some.injEq, Prod.mk.injEq] at H); (obtain ⟨rfl, rfl⟩ := H); (go_wp2); (repeat (go_quiet (fail); try go_wp2)); (go_ret2); (exact ⟨_, by first | rfl | (simp [errW_none, errW_some] <;> rfl) | (simp [*, errW_none, errW_some] <;> rfl), by first | exact Kd.R_nil _ _ _ _ _ | exact Kd.N_nil _ _ _ _ _ | exact Kd.V_nil _ _ _ _ _ | exact Kd.Q_nil _ _ _ _ _ | exact Kd.S_nil _ _ _ _ _, by repeat (first | (with_reducible first | exact HB.out | apply below_alloc | apply pw_below_drewN | apply below_drew1 | refine below_set ?_ GE242.out) | exact HB.out)⟩)
      · (replace c12 := Bool.eq_false_iff.mpr c12); (subst c12); (have H1 : (lockkeeperref10_Put.l0 kj2 l0 ([] : List (S42)) 0 a1_0 a1_1) = some (r1, r2) := by rw [if_neg (show ¬ (false = true) by decide)] at H; exact H); (clear H); (have H := H1); (clear H1); (have H' := Aside0.mk H); (clear H); (go_wp2); (repeat (go_quiet (fail); try go_wp2)); (go_loopg [6, 7] kj2 (fun kq v6 v7 w' => ∃ (x6_2 : List (S42)) (x7_2 : Int), v7 = .int .i64 x7_2 ∧ Aside0 (lockkeeperref10_Put.l0 kq l0 x6_2 x7_2 a1_0 a1_1 = some (r1, r2)) ∧ Aside0 (kq ≤ kj2) ∧ Aside0 (Kd.R k42 42 w' w.heap.size (fun k_ => k_ ≠ gb242) v6 x6_2) ∧ Aside0 (w'.heap[gb242]? = some (.cells #[.string a1_0, .string a1_1] 42 (0, 0))) ∧ Aside0 (Below w.heap.size w w')))
        case atStart => exact ⟨(([] : List (S42))), (0), (by first | rfl | (simp; done) | (simp [*]; done)), H', ⟨Nat.le_refl _⟩, ⟨by first | exact Kd.R_nil _ _ _ _ _ | exact Kd.N_nil _ _ _ _ _ | exact Kd.V_nil _ _ _ _ _ | exact Kd.Q_nil _ _ _ _ _ | exact Kd.S_nil _ _ _ _ _⟩, ⟨mvB BK242.out⟩, ⟨mvW HB.out⟩⟩
        case round =>
          (clear H'); (try clear c1); (try clear p2); (try clear c4); (try clear c6); (try clear c12); (try clear Z9_0 Z9_1); (try clear Y9_0 Y9_1); (try clear p2); (obtain ⟨x6_2, x7_2, rfl, HA, HK2, HO_6, BK242, HB⟩ := hrel)
          cases gk with
          | zero => exact absurd HA.out (by simp [lockkeeperref10_Put.l0])
          | succ k2 =>
            (have H := HA.out); (clear HA); (simp only [lockkeeperref10_Put.l0] at H); (by_cases c13 : x7_2 < (l0.length : Int))
            · (rw [if_pos c13] at H); (have c13b0 : decide (x7_2 < (l0.length : Int)) = true := decide_eq_true c13); (clear c13); (by_cases c14 : 0 ≤ x7_2)
              · (rw [if_pos c14] at H); (have c14b0 : decide (0 ≤ x7_2) = true := decide_eq_true c14); (clear c14); (by_cases c15 : (Op.bytesLess (((rd_T42 l0 x7_2).f0).toList) a1_0.toList) = true)
                · (rw [if_pos c15] at H); (have c15b0 : (Op.bytesLess (((rd_T42 l0 x7_2).f0).toList) a1_0.toList) = true := c15); (clear c15); (by_cases c16 : x6_2.length < 4398046511104)
                  · (rw [if_pos c16] at H); (have LMc16 := Aside0.mk c16); (clear c16); (obtain ⟨y247, hy247⟩ : ∃ y_ : List (S42), y_ = (x6_2 ++ [(⟨(rd_T42 l0 x7_2).f0, (rd_T42 l0 x7_2).f1⟩ : S42)]) := ⟨_, rfl⟩); (replace H : (lockkeeperref10_Put.l0 k2 l0 y247 (wrap64 (x7_2 + 1)) a1_0 a1_1) = some (r1, r2) := by first | (rw [hy247]; with_reducible exact H) | (have H2_ := (Option.bind_some _ _).symm.trans H; rw [hy247]; with_reducible exact H2_) | (have H2_ := (Option.bind_some _ _).symm.trans H; with_reducible exact H2_) | with_reducible exact H | (rw [hy247]; exact H) | exact H); (have Ny247 := Aside0.mk hy247); (clear hy247); (have H' := Aside0.mk H); (clear H); (have p245 : 0 ≤ (x7_2 : Int) := of_decide_eq_true (by first | (with_reducible assumption) | assumption)); (have q245 : x7_2 < (l0.length : Int) := of_decide_eq_true (by first | (with_reducible assumption) | assumption)); (obtain ⟨ad245, e245, hx245_0, hx245_1⟩ := at_T42 HR0.out x7_2 p245 q245); (cases e245); (replace hx245_0 := (HB.out.cell (World.block_lt_of_cell? w _ hx245_0)).trans hx245_0); (replace hx245_1 := (HB.out.cell (World.block_lt_of_cell? w _ hx245_1)).trans hx245_1); (replace p245 := eq_true p245); (replace q245 := eq_true q245); (obtain ⟨Z17_0, Z17_1⟩ := bc2 BK242.out); (obtain ⟨Y17_0, Y17_1⟩ := bf2 BK242.out); (have p246 : 0 ≤ (x7_2 : Int) := of_decide_eq_true (by first | (with_reducible assumption) | assumption)); (have q246 : x7_2 < (l0.length : Int) := of_decide_eq_true (by first | (with_reducible assumption) | assumption)); (obtain ⟨ad246, e246, hx246_0, hx246_1⟩ := at_T42 HR0.out x7_2 p246 q246); (obtain rfl : ad245 = ad246 := (by injection e246)); (replace hx246_0 := (HB.out.cell (World.block_lt_of_cell? w _ hx246_0)).trans hx246_0); (replace hx246_1 := (HB.out.cell (World.block_lt_of_cell? w _ hx246_1)).trans hx246_1); (replace p246 := eq_true p246); (replace q246 := eq_true q246); (go_wp2_with (first | ((with_reducible refine gate_builtin (b := .append) (xs := #[.tmp 31, .tmp 36]) rfl ?_); at_builtin; refine Kd.R_append k42 (w0 := w) w.heap.size rfl (.tmp 31) (.tmp 36) 22 42 (.agg #[(.string ⟨#[]⟩), (.string ⟨#[]⟩)]) 32 rfl Try.underlying22 info42 rfl (by decide) (by omega) u6 x6_2 (⟨(rd_T42 l0 x7_2).f0, (rd_T42 l0 x7_2).f1⟩ : S42) [.string ((rd_T42 l0 x7_2).f0), .string ((rd_T42 l0 x7_2).f1)] (fun k_ => k_ ≠ gb242) (fun _ => False) rfl rfl ?aP (fun _ hk => hk.elim) ?aF ?aO ?aB ?aS ?aL ?_; (case aP => exact k42_mkM _ _ _ (⟨(rd_T42 l0 x7_2).f0, (rd_T42 l0 x7_2).f1⟩ : S42)); (case aB => exact (mvW HB.out)); (case aF => exact (fun k_ hk => Kd.freshB (g := gb242) (o := .cells #[.string a1_0, .string a1_1] 42 (0, 0)) (mvB BK242.out) k_ hk)); (case aO => exact (mvR HO_6.out)); (case aS => exact (below_size (mvW HB.out))); (case aL => have := LMc16.out; omega); intro v248 w18 ho hb hg hat; rw [← Ny247.out] at ho; replace BK242 := Aside0.mk (blk_grown (mvB BK242.out) hg (Kd.R_away HO_6.out (fun _ hk => hk))); replace HB := Aside0.mk (hb); have HO249 := Aside0.mk (ho); clear HO_6; clear ho hb hg hat))); (repeat (go_quiet (first | ((with_reducible refine gate_builtin (b := .append) (xs := #[.tmp 31, .tmp 36]) rfl ?_); at_builtin; refine Kd.R_append k42 (w0 := w) w.heap.size rfl (.tmp 31) (.tmp 36) 22 42 (.agg #[(.string ⟨#[]⟩), (.string ⟨#[]⟩)]) 32 rfl Try.underlying22 info42 rfl (by decide) (by omega) u6 x6_2 (⟨(rd_T42 l0 x7_2).f0, (rd_T42 l0 x7_2).f1⟩ : S42) [.string ((rd_T42 l0 x7_2).f0), .string ((rd_T42 l0 x7_2).f1)] (fun k_ => k_ ≠ gb242) (fun _ => False) rfl rfl ?aP (fun _ hk => hk.elim) ?aF ?aO ?aB ?aS ?aL ?_; (case aP => exact k42_mkM _ _ _ (⟨(rd_T42 l0 x7_2).f0, (rd_T42 l0 x7_2).f1⟩ : S42)); (case aB => exact (mvW HB.out)); (case aF => exact (fun k_ hk => Kd.freshB (g := gb242) (o := .cells #[.string a1_0, .string a1_1] 42 (0, 0)) (mvB BK242.out) k_ hk)); (case aO => exact (mvR HO_6.out)); (case aS => exact (below_size (mvW HB.out))); (case aL => have := LMc16.out; omega); intro v248 w18 ho hb hg hat; rw [← Ny247.out] at ho; replace BK242 := Aside0.mk (blk_grown (mvB BK242.out) hg (Kd.R_away HO_6.out (fun _ hk => hk))); replace HB := Aside0.mk (hb); have HO249 := Aside0.mk (ho); clear HO_6; clear ho hb hg hat)); try go_wp2_with (first | ((with_reducible refine gate_builtin (b := .append) (xs := #[.tmp 31, .tmp 36]) rfl ?_); at_builtin; refine Kd.R_append k42 (w0 := w) w.heap.size rfl (.tmp 31) (.tmp 36) 22 42 (.agg #[(.string ⟨#[]⟩), (.string ⟨#[]⟩)]) 32 rfl Try.underlying22 info42 rfl (by decide) (by omega) u6 x6_2 (⟨(rd_T42 l0 x7_2).f0, (rd_T42 l0 x7_2).f1⟩ : S42) [.string ((rd_T42 l0 x7_2).f0), .string ((rd_T42 l0 x7_2).f1)] (fun k_ => k_ ≠ gb242) (fun _ => False) rfl rfl ?aP (fun _ hk => hk.elim) ?aF ?aO ?aB ?aS ?aL ?_; (case aP => exact k42_mkM _ _ _ (⟨(rd_T42 l0 x7_2).f0, (rd_T42 l0 x7_2).f1⟩ : S42)); (case aB => exact (mvW HB.out)); (case aF => exact (fun k_ hk => Kd.freshB (g := gb242) (o := .cells #[.string a1_0, .string a1_1] 42 (0, 0)) (mvB BK242.out) k_ hk)); (case aO => exact (mvR HO_6.out)); (case aS => exact (below_size (mvW HB.out))); (case aL => have := LMc16.out; omega); intro v248 w18 ho hb hg hat; rw [← Ny247.out] at ho; replace BK242 := Aside0.mk (blk_grown (mvB BK242.out) hg (Kd.R_away HO_6.out (fun _ hk => hk))); replace HB := Aside0.mk (hb); have HO249 := Aside0.mk (ho); clear HO_6; clear ho hb hg hat)))); (go_roundg k2)
                    case measure => have := HJ2.out; have := HK2.out; omega
                    case rel => exact ⟨(y247), (wrap64 (x7_2 + 1)), (by first | rfl | (simp; done) | (simp [*]; done)), H', ⟨by have := HJ2.out; have := HK2.out; omega⟩, ⟨mvR HO249.out⟩, ⟨mvB BK242.out⟩, ⟨mvW HB.out⟩⟩
                  · (rw [if_neg c16] at H); (exact absurd H (by simp))
                · (rw [if_neg c15] at H); (have c15b0 : (Op.bytesLess (((rd_T42 l0 x7_2).f0).toList) a1_0.toList) = false := by simpa using c15); (clear c15); (have H' := Aside0.mk H); (clear H); (have p245 : 0 ≤ (x7_2 : Int) := of_decide_eq_true (by first | (with_reducible assumption) | assumption)); (have q245 : x7_2 < (l0.length : Int) := of_decide_eq_true (by first | (with_reducible assumption) | assumption)); (obtain ⟨ad245, e245, hx245_0, hx245_1⟩ := at_T42 HR0.out x7_2 p245 q245); (cases e245); (replace hx245_0 := (HB.out.cell (World.block_lt_of_cell? w _ hx245_0)).trans hx245_0); (replace hx245_1 := (HB.out.cell (World.block_lt_of_cell? w _ hx245_1)).trans hx245_1); (replace p245 := eq_true p245); (replace q245 := eq_true q245); (obtain ⟨Z19_0, Z19_1⟩ := bc2 BK242.out); (obtain ⟨Y19_0, Y19_1⟩ := bf2 BK242.out); (go_wp2); (repeat (go_quiet (fail); try go_wp2)); (go_roundg k2)
                  case measure => have := HJ2.out; have := HK2.out; omega
                  case rel => exact ⟨(x6_2), (wrap64 (x7_2 + 1)), (by first | rfl | (simp; done) | (simp [*]; done)), H', ⟨by have := HJ2.out; have := HK2.out; omega⟩, ⟨mvR HO_6.out⟩, ⟨mvB BK242.out⟩, ⟨mvW HB.out⟩⟩
              · (rw [if_neg c14] at H); (exact absurd H (by simp))
            · (rw [if_neg c13] at H); (have c13b0 : decide (x7_2 < (l0.length : Int)) = false := decide_eq_false c13); (clear c13); (by_cases c20 : x6_2.length < 4398046511104)
              · (rw [if_pos c20] at H); (have LMc20 := Aside0.mk c20); (clear c20); (obtain ⟨y250, hy250⟩ : ∃ y_ : List (S42), y_ = (x6_2 ++ [(⟨a1_0, a1_1⟩ : S42)]) := ⟨_, rfl⟩); (replace H : (lockkeeperref10_Put.l1 k2 l0 y250 0 a1_0 a1_1) = some (r1, r2) := by first | (rw [hy250]; with_reducible exact H) | (have H2_ := (Option.bind_some _ _).symm.trans H; rw [hy250]; with_reducible exact H2_) | (have H2_ := (Option.bind_some _ _).symm.trans H; with_reducible exact H2_) | with_reducible exact H | (rw [hy250]; exact H) | exact H); (have Ny250 := Aside0.mk hy250); (clear hy250); (have H' := Aside0.mk H); (clear H); (obtain ⟨Z21_0, Z21_1⟩ := bc2 BK242.out); (obtain ⟨Y21_0, Y21_1⟩ := bf2 BK242.out); (go_wp2_with (first | ((with_reducible refine gate_builtin (b := .append) (xs := #[.tmp 38, .tmp 40]) rfl ?_); at_builtin; refine Kd.R_append k42 (w0 := w) w.heap.size rfl (.tmp 38) (.tmp 40) 22 42 (.agg #[(.string ⟨#[]⟩), (.string ⟨#[]⟩)]) 32 rfl Try.underlying22 info42 rfl (by decide) (by omega) u6 x6_2 (⟨a1_0, a1_1⟩ : S42) [.string a1_0, .string a1_1] (fun k_ => k_ ≠ gb242) (fun _ => False) rfl rfl ?aP (fun _ hk => hk.elim) ?aF ?aO ?aB ?aS ?aL ?_; (case aP => exact k42_mkM _ _ _ (⟨a1_0, a1_1⟩ : S42)); (case aB => exact (mvW HB.out)); (case aF => exact (fun k_ hk => Kd.freshB (g := gb242) (o := .cells #[.string a1_0, .string a1_1] 42 (0, 0)) (mvB BK242.out) k_ hk)); (case aO => exact (mvR HO_6.out)); (case aS => exact (below_size (mvW HB.out))); (case aL => have := LMc20.out; omega); intro v251 w22 ho hb hg hat; rw [← Ny250.out] at ho; replace BK242 := Aside0.mk (blk_grown (mvB BK242.out) hg (Kd.R_away HO_6.out (fun _ hk => hk))); replace HB := Aside0.mk (hb); have HO252 := Aside0.mk (ho); clear HO_6; clear ho hb hg hat))); (repeat (go_quiet (first | ((with_reducible refine gate_builtin (b := .append) (xs := #[.tmp 38, .tmp 40]) rfl ?_); at_builtin; refine Kd.R_append k42 (w0 := w) w.heap.size rfl (.tmp 38) (.tmp 40) 22 42 (.agg #[(.string ⟨#[]⟩), (.string ⟨#[]⟩)]) 32 rfl Try.underlying22 info42 rfl (by decide) (by omega) u6 x6_2 (⟨a1_0, a1_1⟩ : S42) [.string a1_0, .string a1_1] (fun k_ => k_ ≠ gb242) (fun _ => False) rfl rfl ?aP (fun _ hk => hk.elim) ?aF ?aO ?aB ?aS ?aL ?_; (case aP => exact k42_mkM _ _ _ (⟨a1_0, a1_1⟩ : S42)); (case aB => exact (mvW HB.out)); (case aF => exact (fun k_ hk => Kd.freshB (g := gb242) (o := .cells #[.string a1_0, .string a1_1] 42 (0, 0)) (mvB BK242.out) k_ hk)); (case aO => exact (mvR HO_6.out)); (case aS => exact (below_size (mvW HB.out))); (case aL => have := LMc20.out; omega); intro v251 w22 ho hb hg hat; rw [← Ny250.out] at ho; replace BK242 := Aside0.mk (blk_grown (mvB BK242.out) hg (Kd.R_away HO_6.out (fun _ hk => hk))); replace HB := Aside0.mk (hb); have HO252 := Aside0.mk (ho); clear HO_6; clear ho hb hg hat)); try go_wp2_with (first | ((with_reducible refine gate_builtin (b := .append) (xs := #[.tmp 38, .tmp 40]) rfl ?_); at_builtin; refine Kd.R_append k42 (w0 := w) w.heap.size rfl (.tmp 38) (.tmp 40) 22 42 (.agg #[(.string ⟨#[]⟩), (.string ⟨#[]⟩)]) 32 rfl Try.underlying22 info42 rfl (by decide) (by omega) u6 x6_2 (⟨a1_0, a1_1⟩ : S42) [.string a1_0, .string a1_1] (fun k_ => k_ ≠ gb242) (fun _ => False) rfl rfl ?aP (fun _ hk => hk.elim) ?aF ?aO ?aB ?aS ?aL ?_; (case aP => exact k42_mkM _ _ _ (⟨a1_0, a1_1⟩ : S42)); (case aB => exact (mvW HB.out)); (case aF => exact (fun k_ hk => Kd.freshB (g := gb242) (o := .cells #[.string a1_0, .string a1_1] 42 (0, 0)) (mvB BK242.out) k_ hk)); (case aO => exact (mvR HO_6.out)); (case aS => exact (below_size (mvW HB.out))); (case aL => have := LMc20.out; omega); intro v251 w22 ho hb hg hat; rw [← Ny250.out] at ho; replace BK242 := Aside0.mk (blk_grown (mvB BK242.out) hg (Kd.R_away HO_6.out (fun _ hk => hk))); replace HB := Aside0.mk (hb); have HO252 := Aside0.mk (ho); clear HO_6; clear ho hb hg hat)))); (go_loopg [6, 8] k2 (fun kq v6 v8 w' => ∃ (x6_3 : List (S42)) (x8_3 : Int), v8 = .int .i64 x8_3 ∧ Aside0 (lockkeeperref10_Put.l1 kq l0 x6_3 x8_3 a1_0 a1_1 = some (r1, r2)) ∧ Aside0 (kq ≤ k2) ∧ Aside0 (Kd.R k42 42 w' w.heap.size (fun k_ => k_ ≠ gb242) v6 x6_3) ∧ Aside0 (w'.heap[gb242]? = some (.cells #[.string a1_0, .string a1_1] 42 (0, 0))) ∧ Aside0 (Below w.heap.size w w')))
                case atStart => exact ⟨(y250), (0), (by first | rfl | (simp; done) | (simp [*]; done)), H', ⟨Nat.le_refl _⟩, ⟨mvR HO252.out⟩, ⟨mvB BK242.out⟩, ⟨mvW HB.out⟩⟩
                case round =>
                  (clear H'); (try clear c1); (try clear c2); (try clear p2); (try clear q2); (try clear hx2); (try clear c4); (try clear c6); (try clear p6); (try clear c12); (try clear c13); (try clear c13b0); (try clear c14); (try clear c14b0); (try clear c15); (try clear c15b0); (try clear c16); (try clear c20); (try clear Z17_0 Z17_1); (try clear Z19_0 Z19_1); (try clear Z21_0 Z21_1); (try clear Z9_0 Z9_1); (try clear Y17_0 Y17_1); (try clear Y19_0 Y19_1); (try clear Y21_0 Y21_1); (try clear Y9_0 Y9_1); (try clear hx245_0); (try clear hx245_1); (try clear hx246_0); (try clear hx246_1); (try clear p2); (try clear p245); (try clear p246); (try clear q245); (try clear q246); (obtain ⟨x6_3, x8_3, rfl, HA, HK3, HO_6, BK242, HB⟩ := hrel)
                  cases gk with
                  | zero => exact absurd HA.out (by simp [lockkeeperref10_Put.l1])
                  | succ k3 =>
                    (have H := HA.out); (clear HA); (simp only [lockkeeperref10_Put.l1] at H); (by_cases c23 : x8_3 < (l0.length : Int))
                    · (rw [if_pos c23] at H); (have c23b0 : decide (x8_3 < (l0.length : Int)) = true := decide_eq_true c23); (clear c23); (by_cases c24 : 0 ≤ x8_3)
                      · (rw [if_pos c24] at H); (have c24b0 : decide (0 ≤ x8_3) = true := decide_eq_true c24); (clear c24); (by_cases c25 : (Op.bytesLess a1_0.toList (((rd_T42 l0 x8_3).f0).toList)) = true)
                        · (rw [if_pos c25] at H); (have c25b0 : (Op.bytesLess a1_0.toList (((rd_T42 l0 x8_3).f0).toList)) = true := c25); (clear c25); (by_cases c26 : x6_3.length < 4398046511104)
                          · (rw [if_pos c26] at H); (have LMc26 := Aside0.mk c26); (clear c26); (obtain ⟨y255, hy255⟩ : ∃ y_ : List (S42), y_ = (x6_3 ++ [(⟨(rd_T42 l0 x8_3).f0, (rd_T42 l0 x8_3).f1⟩ : S42)]) := ⟨_, rfl⟩); (replace H : (lockkeeperref10_Put.l1 k3 l0 y255 (wrap64 (x8_3 + 1)) a1_0 a1_1) = some (r1, r2) := by first | (rw [hy255]; with_reducible exact H) | (have H2_ := (Option.bind_some _ _).symm.trans H; rw [hy255]; with_reducible exact H2_) | (have H2_ := (Option.bind_some _ _).symm.trans H; with_reducible exact H2_) | with_reducible exact H | (rw [hy255]; exact H) | exact H); (have Ny255 := Aside0.mk hy255); (clear hy255); (have H' := Aside0.mk H); (clear H); (have p253 : 0 ≤ (x8_3 : Int) := of_decide_eq_true (by first | (with_reducible assumption) | assumption)); (have q253 : x8_3 < (l0.length : Int) := of_decide_eq_true (by first | (with_reducible assumption) | assumption)); (obtain ⟨ad253, e253, hx253_0, hx253_1⟩ := at_T42 HR0.out x8_3 p253 q253); (cases e253); (replace hx253_0 := (HB.out.cell (World.block_lt_of_cell? w _ hx253_0)).trans hx253_0); (replace hx253_1 := (HB.out.cell (World.block_lt_of_cell? w _ hx253_1)).trans hx253_1); (replace p253 := eq_true p253); (replace q253 := eq_true q253); (obtain ⟨Z27_0, Z27_1⟩ := bc2 BK242.out); (obtain ⟨Y27_0, Y27_1⟩ := bf2 BK242.out); (have p254 : 0 ≤ (x8_3 : Int) := of_decide_eq_true (by first | (with_reducible assumption) | assumption)); (have q254 : x8_3 < (l0.length : Int) := of_decide_eq_true (by first | (with_reducible assumption) | assumption)); (obtain ⟨ad254, e254, hx254_0, hx254_1⟩ := at_T42 HR0.out x8_3 p254 q254); (obtain rfl : ad253 = ad254 := (by injection e254)); (replace hx254_0 := (HB.out.cell (World.block_lt_of_cell? w _ hx254_0)).trans hx254_0); (replace hx254_1 := (HB.out.cell (World.block_lt_of_cell? w _ hx254_1)).trans hx254_1); (replace p254 := eq_true p254); (replace q254 := eq_true q254); (go_wp2_with (first | ((with_reducible refine gate_builtin (b := .append) (xs := #[.tmp 56, .tmp 61]) rfl ?_); at_builtin; refine Kd.R_append k42 (w0 := w) w.heap.size rfl (.tmp 56) (.tmp 61) 22 42 (.agg #[(.string ⟨#[]⟩), (.string ⟨#[]⟩)]) 32 rfl Try.underlying22 info42 rfl (by decide) (by omega) u6 x6_3 (⟨(rd_T42 l0 x8_3).f0, (rd_T42 l0 x8_3).f1⟩ : S42) [.string ((rd_T42 l0 x8_3).f0), .string ((rd_T42 l0 x8_3).f1)] (fun k_ => k_ ≠ gb242) (fun _ => False) rfl rfl ?aP (fun _ hk => hk.elim) ?aF ?aO ?aB ?aS ?aL ?_; (case aP => exact k42_mkM _ _ _ (⟨(rd_T42 l0 x8_3).f0, (rd_T42 l0 x8_3).f1⟩ : S42)); (case aB => exact (mvW HB.out)); (case aF => exact (fun k_ hk => Kd.freshB (g := gb242) (o := .cells #[.string a1_0, .string a1_1] 42 (0, 0)) (mvB BK242.out) k_ hk)); (case aO => exact (mvR HO_6.out)); (case aS => exact (below_size (mvW HB.out))); (case aL => have := LMc26.out; omega); intro v256 w28 ho hb hg hat; rw [← Ny255.out] at ho; replace BK242 := Aside0.mk (blk_grown (mvB BK242.out) hg (Kd.R_away HO_6.out (fun _ hk => hk))); replace HB := Aside0.mk (hb); have HO257 := Aside0.mk (ho); clear HO_6; clear ho hb hg hat))); (repeat (go_quiet (first | ((with_reducible refine gate_builtin (b := .append) (xs := #[.tmp 56, .tmp 61]) rfl ?_); at_builtin; refine Kd.R_append k42 (w0 := w) w.heap.size rfl (.tmp 56) (.tmp 61) 22 42 (.agg #[(.string ⟨#[]⟩), (.string ⟨#[]⟩)]) 32 rfl Try.underlying22 info42 rfl (by decide) (by omega) u6 x6_3 (⟨(rd_T42 l0 x8_3).f0, (rd_T42 l0 x8_3).f1⟩ : S42) [.string ((rd_T42 l0 x8_3).f0), .string ((rd_T42 l0 x8_3).f1)] (fun k_ => k_ ≠ gb242) (fun _ => False) rfl rfl ?aP (fun _ hk => hk.elim) ?aF ?aO ?aB ?aS ?aL ?_; (case aP => exact k42_mkM _ _ _ (⟨(rd_T42 l0 x8_3).f0, (rd_T42 l0 x8_3).f1⟩ : S42)); (case aB => exact (mvW HB.out)); (case aF => exact (fun k_ hk => Kd.freshB (g := gb242) (o := .cells #[.string a1_0, .string a1_1] 42 (0, 0)) (mvB BK242.out) k_ hk)); (case aO => exact (mvR HO_6.out)); (case aS => exact (below_size (mvW HB.out))); (case aL => have := LMc26.out; omega); intro v256 w28 ho hb hg hat; rw [← Ny255.out] at ho; replace BK242 := Aside0.mk (blk_grown (mvB BK242.out) hg (Kd.R_away HO_6.out (fun _ hk => hk))); replace HB := Aside0.mk (hb); have HO257 := Aside0.mk (ho); clear HO_6; clear ho hb hg hat)); try go_wp2_with (first | ((with_reducible refine gate_builtin (b := .append) (xs := #[.tmp 56, .tmp 61]) rfl ?_); at_builtin; refine Kd.R_append k42 (w0 := w) w.heap.size rfl (.tmp 56) (.tmp 61) 22 42 (.agg #[(.string ⟨#[]⟩), (.string ⟨#[]⟩)]) 32 rfl Try.underlying22 info42 rfl (by decide) (by omega) u6 x6_3 (⟨(rd_T42 l0 x8_3).f0, (rd_T42 l0 x8_3).f1⟩ : S42) [.string ((rd_T42 l0 x8_3).f0), .string ((rd_T42 l0 x8_3).f1)] (fun k_ => k_ ≠ gb242) (fun _ => False) rfl rfl ?aP (fun _ hk => hk.elim) ?aF ?aO ?aB ?aS ?aL ?_; (case aP => exact k42_mkM _ _ _ (⟨(rd_T42 l0 x8_3).f0, (rd_T42 l0 x8_3).f1⟩ : S42)); (case aB => exact (mvW HB.out)); (case aF => exact (fun k_ hk => Kd.freshB (g := gb242) (o := .cells #[.string a1_0, .string a1_1] 42 (0, 0)) (mvB BK242.out) k_ hk)); (case aO => exact (mvR HO_6.out)); (case aS => exact (below_size (mvW HB.out))); (case aL => have := LMc26.out; omega); intro v256 w28 ho hb hg hat; rw [← Ny255.out] at ho; replace BK242 := Aside0.mk (blk_grown (mvB BK242.out) hg (Kd.R_away HO_6.out (fun _ hk => hk))); replace HB := Aside0.mk (hb); have HO257 := Aside0.mk (ho); clear HO_6; clear ho hb hg hat)))); (go_roundg k3)
                            case measure => have := HJ2.out; have := HK2.out; have := HK3.out; omega
                            case rel => exact ⟨(y255), (wrap64 (x8_3 + 1)), (by first | rfl | (simp; done) | (simp [*]; done)), H', ⟨by have := HJ2.out; have := HK2.out; have := HK3.out; omega⟩, ⟨mvR HO257.out⟩, ⟨mvB BK242.out⟩, ⟨mvW HB.out⟩⟩
                          · (rw [if_neg c26] at H); (exact absurd H (by simp))
                        · (rw [if_neg c25] at H); (have c25b0 : (Op.bytesLess a1_0.toList (((rd_T42 l0 x8_3).f0).toList)) = false := by simpa using c25); (clear c25); (have H' := Aside0.mk H); (clear H); (have p253 : 0 ≤ (x8_3 : Int) := of_decide_eq_true (by first | (with_reducible assumption) | assumption)); (have q253 : x8_3 < (l0.length : Int) := of_decide_eq_true (by first | (with_reducible assumption) | assumption)); (obtain ⟨ad253, e253, hx253_0, hx253_1⟩ := at_T42 HR0.out x8_3 p253 q253); (cases e253); (replace hx253_0 := (HB.out.cell (World.block_lt_of_cell? w _ hx253_0)).trans hx253_0); (replace hx253_1 := (HB.out.cell (World.block_lt_of_cell? w _ hx253_1)).trans hx253_1); (replace p253 := eq_true p253); (replace q253 := eq_true q253); (obtain ⟨Z29_0, Z29_1⟩ := bc2 BK242.out); (obtain ⟨Y29_0, Y29_1⟩ := bf2 BK242.out); (go_wp2); (repeat (go_quiet (fail); try go_wp2)); (go_roundg k3)
                          case measure => have := HJ2.out; have := HK2.out; have := HK3.out; omega
                          case rel => exact ⟨(x6_3), (wrap64 (x8_3 + 1)), (by first | rfl | (simp; done) | (simp [*]; done)), H', ⟨by have := HJ2.out; have := HK2.out; have := HK3.out; omega⟩, ⟨mvR HO_6.out⟩, ⟨mvB BK242.out⟩, ⟨mvW HB.out⟩⟩
                      · (rw [if_neg c24] at H); (exact absurd H (by simp))
                    · (rw [if_neg c23] at H); (have c23b0 : decide (x8_3 < (l0.length : Int)) = false := decide_eq_false c23); (clear c23); (simp only [Option.some.injEq, Prod.mk.injEq] at H); (obtain ⟨rfl, rfl⟩ := H); (go_wp2); (repeat (go_quiet (fail); try go_wp2)); (go_ret2); (exact ⟨_, by first | rfl | (simp [errW_none, errW_some] <;> rfl) | (simp [*, errW_none, errW_some] <;> rfl), by (with_reducible repeat (first | apply Kd.R_alloc | apply Kd.R_drewN | apply Kd.R_drew)); exact Kd.R_mono HO_6.out (fun _ hk => trivial), by repeat (first | (with_reducible first | exact HB.out | apply below_alloc | apply pw_below_drewN | apply below_drew1 | refine below_set ?_ GE242.out) | exact HB.out)⟩)
              · (rw [if_neg c20] at H); (exact absurd H (by simp))

end Go.Proofs.Ytoggblomknemoaa.D
