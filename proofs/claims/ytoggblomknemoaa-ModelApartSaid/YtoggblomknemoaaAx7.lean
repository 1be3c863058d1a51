-- PRINTED by print.py (a twelfth state) out of the translation. Not trusted: Lean checks it.
import Derived.Test.YtoggblomknemoaaMv
import Derived.Test.YtoggblomknemoaaAx0
import Derived.Test.YtoggblomknemoaaAx1
import Derived.Test.YtoggblomknemoaaAx2
import Derived.Test.YtoggblomknemoaaAx5
import Derived.Test.YtoggblomknemoaaAx6
namespace Go.Proofs.Ytoggblomknemoaa.A
open Go.RowKit Go.Proofs.YtoggblomknemoaaW Go.Proofs.YtoggblomknemoaaW.PrintWords Go.Proofs.YtoggblomknemoaaW.PrintLast Go.Proofs.YtoggblomknemoaaW.PrintMore
attribute [local go_sem] GpMore.bytes_le max2_int min2_int max_two min_two max_three min_three max_four min_four   -- for this text's walks alone
set_option linter.unusedVariables false
set_option linter.unusedSimpArgs false

attribute [local go_sem high] eqA42
/-! ### api_Cell_61: function 61 -/
def api_Cell_61.l0 : Nat → List (S42) → List (S42) → Int → Int → Option (Bool)
  | 0, _, _, _, _ => none
  | k + 1, x0, x1, x12, x13 => if x13 < x12 then (if 0 ≤ x13 then (if x13 < (x0.length : Int) then (if x13 < (x1.length : Int) then (if (!((((rd_T42 x0 x13).f0).toList) == (((rd_T42 x1 x13).f0).toList)) || (!((((rd_T42 x0 x13).f1).toList) == (((rd_T42 x1 x13).f1).toList)))) = true then (some false) else (api_Cell_61.l0 k x0 x1 x12 (wrap64 (x13 + 1)))) else (none)) else (none)) else (none)) else (some true)
def api_Cell_61.f (k : Nat) (l0 : List (S42)) (l1 : List (S42)) : Option (Bool) := if (l0.length : Int) = (l1.length : Int) then (api_Cell_61.l0 k l0 l1 (l0.length : Int) 0) else (some false)
theorem api_Cell_61.mono_l : ∀ k, (∀ y0 y1 y2 y3, LeO (api_Cell_61.l0 k y0 y1 y2 y3) (api_Cell_61.l0 (k + 1) y0 y1 y2 y3))
  | 0 => fun _ _ _ _ r h => by simp [api_Cell_61.l0] at h
  | k + 1 => by
    have ih0 := api_Cell_61.mono_l k
    · intro y0 y1 y2 y3
      unfold api_Cell_61.l0
      repeat' first
      | (with_reducible exact ih0 _ _ _ _)
      | (with_reducible exact LeO.refl _)
      | (with_reducible exact LeO.none _)
      | (with_reducible refine LeO.ite ?_ ?_)
      | (with_reducible refine LeO.bind ?_ (fun _ => ?_))
      | exact ih0 _ _ _ _
      | exact LeO.none _
      | refine LeO.ite ?_ ?_
      | refine LeO.bind ?_ (fun _ => ?_)
theorem api_Cell_61.mono : ∀ a0 a1 k, LeO (api_Cell_61.f k a0 a1) (api_Cell_61.f (k + 1) a0 a1) := by
  intro a0 a1 k
  have ih0 := api_Cell_61.mono_l k
  unfold api_Cell_61.f
  repeat' first
      | (with_reducible exact ih0 _ _ _ _)
      | (with_reducible exact LeO.refl _)
      | (with_reducible exact LeO.none _)
      | (with_reducible refine LeO.ite ?_ ?_)
      | (with_reducible refine LeO.bind ?_ (fun _ => ?_))
      | exact ih0 _ _ _ _
      | exact LeO.none _
      | refine LeO.ite ?_ ?_
      | refine LeO.bind ?_ (fun _ => ?_)
set_option maxHeartbeats 8000000 in
set_option maxRecDepth 100000 in
theorem api_Cell_61.calls (k : Nat) (A0 : Option Addr) (c0 : Nat) (l0 : List (S42)) (A1 : Option Addr) (c1 : Nat) (l1 : List (S42)) (r : Bool) (w : World) (hr0 : Kd.C k42 w A0 l0.length l0) (hc0 : l0.length ≤ c0) (hr1 : Kd.C k42 w A1 l1.length l1) (hc1 : l1.length ≤ c1) (h : api_Cell_61.f k l0 l1 = some r) :
    Calls Try.prog 61 #[.slice A0 l0.length c0, .slice A1 l1.length c1] w fun e w' => e = .returned (.bool r) ∧ Drawn0 w w' := by
  (have hu42 := Try.underlying42); (have HR0 := Aside0.mk hr0); (have HC0 := Aside0.mk hc0); (clear hr0 hc0); (have HR1 := Aside0.mk hr1); (have HC1 := Aside0.mk hc1); (clear hr1 hc1); (have H : (if (l0.length : Int) = (l1.length : Int) then (api_Cell_61.l0 k l0 l1 (l0.length : Int) 0) else (some false)) = some r := h); (clear h); (by_cases c3 : (l0.length : Int) = (l1.length : Int))
  · (rw [if_pos c3] at H); (have c3b0 : ((l0.length : Int) == (l1.length : Int)) = true := beq_iff_eq.mpr c3); (have c3b1 : ((l0.length : Int) != (l1.length : Int)) = false := bne_eq_false_iff_eq.mpr c3); (have c3b2 : (l0.length == l1.length) = true := by first | simpa using c3 | (simp at c3 ⊢; omega)); (clear c3); (have H' := Aside0.mk H); (clear H); (go_enter Try.func61, Try.ntmps61); (go_wp2); (repeat (go_quiet (fail); try go_wp2)); (go_loopg [13] k (fun kq v13 w' => ∃ (x13_1 : Int), v13 = .int .i64 x13_1 ∧ Aside0 (api_Cell_61.l0 kq l0 l1 (l0.length : Int) x13_1 = some r) ∧ Aside0 (kq ≤ k) ∧ Drawn0 w w'))
    case atStart => exact ⟨(0), (by first | rfl | (simp; done) | (simp [*]; done)), H', ⟨Nat.le_refl _⟩, by repeat (first | exact Drawn0.refl _ | apply Drawn0.step)⟩
    case round =>
      (clear H'); (try clear c1); (try clear p2); (try clear c3); (try clear c3b0); (try clear c3b1); (try clear c3b2); (obtain ⟨x13_1, rfl, HA, HK1, ⟨m1, rfl⟩⟩ := hrel)
      cases gk with
      | zero => exact absurd HA.out (by simp [api_Cell_61.l0])
      | succ k1 =>
        (have H := HA.out); (clear HA); (simp only [api_Cell_61.l0] at H); (by_cases c4 : x13_1 < (l0.length : Int))
        · (rw [if_pos c4] at H); (have c4b0 : decide (x13_1 < (l0.length : Int)) = true := decide_eq_true c4); (clear c4); (by_cases c5 : 0 ≤ x13_1)
          · (rw [if_pos c5] at H); (have c5b0 : decide (0 ≤ x13_1) = true := decide_eq_true c5); (clear c5); (by_cases c6 : x13_1 < (l0.length : Int))
            · (rw [if_pos c6] at H); (have c6b0 : decide (x13_1 < (l0.length : Int)) = true := decide_eq_true c6); (clear c6); (by_cases c7 : x13_1 < (l1.length : Int))
              · (rw [if_pos c7] at H); (have c7b0 : decide (x13_1 < (l1.length : Int)) = true := decide_eq_true c7); (clear c7); (by_cases c8 : (!((((rd_T42 l0 x13_1).f0).toList) == (((rd_T42 l1 x13_1).f0).toList)) || (!((((rd_T42 l0 x13_1).f1).toList) == (((rd_T42 l1 x13_1).f1).toList)))) = true)
                · (rw [if_pos c8] at H); (have c8b0 : (!((((rd_T42 l0 x13_1).f0).toList) == (((rd_T42 l1 x13_1).f0).toList)) || (!((((rd_T42 l0 x13_1).f1).toList) == (((rd_T42 l1 x13_1).f1).toList)))) = true := c8); (clear c8); (obtain rfl := Option.some.inj H); (have p239 : 0 ≤ (x13_1 : Int) := of_decide_eq_true (by first | (with_reducible assumption) | assumption)); (have q239 : x13_1 < (l0.length : Int) := of_decide_eq_true (by first | (with_reducible assumption) | assumption)); (obtain ⟨ad239, e239, hx239_0, hx239_1⟩ := at_T42 HR0.out x13_1 p239 q239); (cases e239); (replace p239 := eq_true p239); (replace q239 := eq_true q239); (have p240 : 0 ≤ (x13_1 : Int) := of_decide_eq_true (by first | (with_reducible assumption) | assumption)); (have q240 : x13_1 < (l1.length : Int) := of_decide_eq_true (by first | (with_reducible assumption) | assumption)); (obtain ⟨ad240, e240, hx240_0, hx240_1⟩ := at_T42 HR1.out x13_1 p240 q240); (cases e240); (replace p240 := eq_true p240); (replace q240 := eq_true q240); (go_wp2); (repeat (go_quiet (fail); try go_wp2)); (go_ret); (exact ⟨by first | rfl | (simp; done) | (simp [*]; done), by repeat (first | exact Drawn0.refl _ | apply Drawn0.step)⟩)
                · (rw [if_neg c8] at H); (have c8b0 : (!((((rd_T42 l0 x13_1).f0).toList) == (((rd_T42 l1 x13_1).f0).toList)) || (!((((rd_T42 l0 x13_1).f1).toList) == (((rd_T42 l1 x13_1).f1).toList)))) = false := by simpa using c8); (clear c8); (have H' := Aside0.mk H); (clear H); (have p239 : 0 ≤ (x13_1 : Int) := of_decide_eq_true (by first | (with_reducible assumption) | assumption)); (have q239 : x13_1 < (l0.length : Int) := of_decide_eq_true (by first | (with_reducible assumption) | assumption)); (obtain ⟨ad239, e239, hx239_0, hx239_1⟩ := at_T42 HR0.out x13_1 p239 q239); (cases e239); (replace p239 := eq_true p239); (replace q239 := eq_true q239); (have p240 : 0 ≤ (x13_1 : Int) := of_decide_eq_true (by first | (with_reducible assumption) | assumption)); (have q240 : x13_1 < (l1.length : Int) := of_decide_eq_true (by first | (with_reducible assumption) | assumption)); (obtain ⟨ad240, e240, hx240_0, hx240_1⟩ := at_T42 HR1.out x13_1 p240 q240); (cases e240); (replace p240 := eq_true p240); (replace q240 := eq_true q240); (go_wp2); (repeat (go_quiet (fail); try go_wp2)); (go_roundg k1)
                  case measure => have := HK1.out; omega
                  case rel => exact ⟨(wrap64 (x13_1 + 1)), (by first | rfl | (simp; done) | (simp [*]; done)), H', ⟨by have := HK1.out; omega⟩, by repeat (first | exact Drawn0.refl _ | apply Drawn0.step)⟩
              · (rw [if_neg c7] at H); (exact absurd H (by simp))
            · (rw [if_neg c6] at H); (exact absurd H (by simp))
          · (rw [if_neg c5] at H); (exact absurd H (by simp))
        · (rw [if_neg c4] at H); (have c4b0 : decide (x13_1 < (l0.length : Int)) = false := decide_eq_false c4); (clear c4); (obtain rfl := Option.some.inj H); (go_wp2); (repeat (go_quiet (fail); try go_wp2)); (go_ret); (exact ⟨by first | rfl | (simp; done) | (simp [*]; done), by repeat (first | exact Drawn0.refl _ | apply Drawn0.step)⟩)
  · (rw [if_neg c3] at H); (have c3b0 : ((l0.length : Int) == (l1.length : Int)) = false := beq_eq_false_iff_ne.mpr c3); (have c3b1 : ((l0.length : Int) != (l1.length : Int)) = true := bne_iff_ne.mpr c3); (have c3b2 : (l0.length == l1.length) = false := by first | simpa using c3 | (simp at c3 ⊢; omega)); (obtain rfl := Option.some.inj H); (go_enter Try.func61, Try.ntmps61); (go_wp2); (repeat (go_quiet (fail); try go_wp2)); (go_ret); (exact ⟨by first | rfl | (simp; done) | (simp [*]; done), by repeat (first | exact Drawn0.refl _ | apply Drawn0.step)⟩)

/-! ### cells_Same: function 49 -/
def cells_Same.f (k : Nat) (l0 : List (S42)) (l1 : List (S42)) : Option (Bool) := (api_Cell_61.f k l0 l1).bind fun t241 => (some t241)
theorem cells_Same.mono : ∀ a0 a1 k, LeO (cells_Same.f k a0 a1) (cells_Same.f (k + 1) a0 a1) := by
  intro a0 a1 k
  unfold cells_Same.f
  repeat' first
      | (with_reducible exact api_Cell_61.mono _ _ _)
      | (with_reducible exact LeO.refl _)
      | (with_reducible exact LeO.none _)
      | (with_reducible refine LeO.ite ?_ ?_)
      | (with_reducible refine LeO.bind ?_ (fun _ => ?_))
      | exact api_Cell_61.mono _ _ _
      | exact LeO.none _
      | refine LeO.ite ?_ ?_
      | refine LeO.bind ?_ (fun _ => ?_)
set_option maxHeartbeats 8000000 in
set_option maxRecDepth 100000 in
theorem cells_Same.calls (k : Nat) (A0 : Option Addr) (c0 : Nat) (l0 : List (S42)) (A1 : Option Addr) (c1 : Nat) (l1 : List (S42)) (r : Bool) (w : World) (hr0 : Kd.C k42 w A0 l0.length l0) (hc0 : l0.length ≤ c0) (hr1 : Kd.C k42 w A1 l1.length l1) (hc1 : l1.length ≤ c1) (h : cells_Same.f k l0 l1 = some r) :
    Calls Try.prog 49 #[.slice A0 l0.length c0, .slice A1 l1.length c1] w fun e w' => e = .returned (.bool r) ∧ Drawn0 w w' := by
  (have HR0 := Aside0.mk hr0); (have HC0 := Aside0.mk hc0); (clear hr0 hc0); (have HR1 := Aside0.mk hr1); (have HC1 := Aside0.mk hc1); (clear hr1 hc1); (have H : ((api_Cell_61.f k l0 l1).bind fun t241 => (some t241)) = some r := h); (clear h); (replace H := Option.bind_eq_some_iff.mp H); (obtain ⟨t241, A30, H⟩ := H); (replace H : (some t241) = some r := H); (have A3 := Aside0.mk A30); (clear A30); (obtain rfl := Option.some.inj H); (go_enter Try.func49, Try.ntmps49); (go_wp2_with (first | ((with_reducible refine gate_callee (f := 61) rfl ?_); refine goesL_ (some 7) rfl rfl Try.func61 (by kernel_rfl) rfl #[.slice A0 l0.length c0, .slice A1 l1.length c1] rfl (by (try simp only [List.map_toArray, List.map_cons, List.map_nil]); first | done | rfl | (simp only [List.length_drop, List.length_take]; rfl) | (simp only [*]; rfl)) ?_; (with_reducible refine (api_Cell_61.calls k _ _ l0 _ _ l1 t241 _ ?side1 ?side2 ?side3 ?side4 A3.out).mono ?_); (case side1 => repeat (first | exact HR0.out | (with_reducible refine Kd.C_alloc ?_ _) | (with_reducible refine Kd.C_drewN ?_ _) | (with_reducible refine Kd.C_drew ?_))); (case side2 => exact HC0.out); (case side3 => repeat (first | exact HR1.out | (with_reducible refine Kd.C_alloc ?_ _) | (with_reducible refine Kd.C_drewN ?_ _) | (with_reducible refine Kd.C_drew ?_))); (case side4 => exact HC1.out); rintro e w' ⟨rfl, ⟨nd, rfl⟩⟩; refine ⟨_, rfl, ?_⟩))); (go_ret); (exact ⟨by first | rfl | (simp; done) | (simp [*]; done), by repeat (first | exact Drawn0.refl _ | apply Drawn0.step)⟩)

/-! ### model_Same: function 20 -/
def model_Same.f (k : Nat) (a0_0 : Int) (a0_1 : Int) (a0_2 : Int) (a0_3 : Int) (a0_4 : Bool) (a0_5 : ByteArray) (l0_6 : List (S42)) (a1_0 : Int) (a1_1 : Int) (a1_2 : Int) (a1_3 : Int) (a1_4 : Bool) (a1_5 : ByteArray) (l1_6 : List (S42)) : Option (Bool) := if a0_1 = a1_1 then (if a0_2 = a1_2 then (if (a0_4 == a1_4) = true then (if a0_5.toList = a1_5.toList then ((cells_Same.f k l0_6 l1_6).bind fun t244 => (some t244)) else (some false)) else (some false)) else (some false)) else (some false)
theorem model_Same.mono : ∀ a0 a1 a2 a3 a4 a5 a6 a7 a8 a9 a10 a11 a12 a13 k, LeO (model_Same.f k a0 a1 a2 a3 a4 a5 a6 a7 a8 a9 a10 a11 a12 a13) (model_Same.f (k + 1) a0 a1 a2 a3 a4 a5 a6 a7 a8 a9 a10 a11 a12 a13) := by
  intro a0 a1 a2 a3 a4 a5 a6 a7 a8 a9 a10 a11 a12 a13 k
  unfold model_Same.f
  repeat' first
      | (with_reducible exact cells_Same.mono _ _ _)
      | (with_reducible exact LeO.refl _)
      | (with_reducible exact LeO.none _)
      | (with_reducible refine LeO.ite ?_ ?_)
      | (with_reducible refine LeO.bind ?_ (fun _ => ?_))
      | exact cells_Same.mono _ _ _
      | exact LeO.none _
      | refine LeO.ite ?_ ?_
      | refine LeO.bind ?_ (fun _ => ?_)
set_option maxHeartbeats 8000000 in
set_option maxRecDepth 100000 in
theorem model_Same.calls (k : Nat) (a0_0 : Int) (a0_1 : Int) (a0_2 : Int) (a0_3 : Int) (a0_4 : Bool) (a0_5 : ByteArray) (A0_6 : Option Addr) (c0_6 : Nat) (l0_6 : List (S42)) (a1_0 : Int) (a1_1 : Int) (a1_2 : Int) (a1_3 : Int) (a1_4 : Bool) (a1_5 : ByteArray) (A1_6 : Option Addr) (c1_6 : Nat) (l1_6 : List (S42)) (r : Bool) (w : World) (hr0_6 : Kd.C k42 w A0_6 l0_6.length l0_6) (hc0_6 : l0_6.length ≤ c0_6) (hr1_6 : Kd.C k42 w A1_6 l1_6.length l1_6) (hc1_6 : l1_6.length ≤ c1_6) (h : model_Same.f k a0_0 a0_1 a0_2 a0_3 a0_4 a0_5 l0_6 a1_0 a1_1 a1_2 a1_3 a1_4 a1_5 l1_6 = some r) :
    Calls Try.prog 20 #[.agg #[.int .i64 a0_0, .int .u8 a0_1, .int .i64 a0_2, .int .u64 a0_3, .bool a0_4, .string a0_5, .slice A0_6 l0_6.length c0_6], .agg #[.int .i64 a1_0, .int .u8 a1_1, .int .i64 a1_2, .int .u64 a1_3, .bool a1_4, .string a1_5, .slice A1_6 l1_6.length c1_6]] w fun e w' => e = .returned (.bool r) ∧ Below w.heap.size w w' := by
  (have hu33 := Try.underlying33); (have HR0_6 := Aside0.mk hr0_6); (have HC0_6 := Aside0.mk hc0_6); (clear hr0_6 hc0_6); (have HR1_6 := Aside0.mk hr1_6); (have HC1_6 := Aside0.mk hc1_6); (clear hr1_6 hc1_6); (have HB := Aside0.mk (Below.refl w.heap.size w)); (have H : (if a0_1 = a1_1 then (if a0_2 = a1_2 then (if (a0_4 == a1_4) = true then (if a0_5.toList = a1_5.toList then ((cells_Same.f k l0_6 l1_6).bind fun t244 => (some t244)) else (some false)) else (some false)) else (some false)) else (some false)) = some r := h); (clear h); (by_cases c3 : a0_1 = a1_1)
  · (rw [if_pos c3] at H); (have c3b0 : (a0_1 == a1_1) = true := beq_iff_eq.mpr c3); (have c3b1 : (a0_1 != a1_1) = false := bne_eq_false_iff_eq.mpr c3); (clear c3); (by_cases c4 : a0_2 = a1_2)
    · (rw [if_pos c4] at H); (have c4b0 : (a0_2 == a1_2) = true := beq_iff_eq.mpr c4); (have c4b1 : (a0_2 != a1_2) = false := bne_eq_false_iff_eq.mpr c4); (clear c4); (by_cases c5 : (a0_4 == a1_4) = true)
      · (rw [if_pos c5] at H); (have c5b0 : (a0_4 == a1_4) = true := c5); ((try (have c5b1 : decide (a0_4 = a1_4) = true := by simpa using c5))); ((try (have c5b2 : (a0_4 == a1_4) = true := by simpa using c5))); (clear c5); (by_cases c6 : a0_5.toList = a1_5.toList)
        · (rw [if_pos c6] at H); (have c6b0 : (a0_5.toList == a1_5.toList) = true := beq_iff_eq.mpr c6); (have c6b1 : (a0_5.toList != a1_5.toList) = false := bne_eq_false_iff_eq.mpr c6); (clear c6); (replace H := Option.bind_eq_some_iff.mp H); (obtain ⟨t244, A70, H⟩ := H); (replace H : (some t244) = some r := H); (have A7 := Aside0.mk A70); (clear A70); (obtain rfl := Option.some.inj H); (go_enter Try.func20, Try.ntmps20); (go_wp2_with (first | ((with_reducible refine gate_dst (N := 2) rfl ?_); refine box_event ?hg (N := 2) ?hd (cs := #[.int .i64 a0_0, .int .u8 a0_1, .int .i64 a0_2, .int .u64 a0_3, .bool a0_4, .string a0_5, .slice A0_6 l0_6.length c0_6]) (t := 33) ?hr ?_; (case hd => rfl); (case hg => rfl); (case hr => first | (go_simp; done) | (go_simp; rfl)); intro gb242 hg w8 hbox hb; have BK242 := Aside0.mk (hbox); have GW242 := Aside0.mk ((by rw [hg]; exact (below_size (mvW HB.out)) : w.heap.size ≤ gb242)); have GE242 := Aside0.mk ((by rw [hg]; exact (below_size (mvW HB.out)) : w.heap.size ≤ gb242)); replace HB := Aside0.mk (below_step (mvW HB.out) hb); clear hb hbox hg) | ((with_reducible refine gate_dst (N := 3) rfl ?_); refine box_event ?hg (N := 3) ?hd (cs := #[.int .i64 a1_0, .int .u8 a1_1, .int .i64 a1_2, .int .u64 a1_3, .bool a1_4, .string a1_5, .slice A1_6 l1_6.length c1_6]) (t := 33) ?hr ?_; (case hd => rfl); (case hg => rfl); (case hr => first | (go_simp; done) | (go_simp; rfl)); intro gb243 hg w9 hbox hb; have BK243 := Aside0.mk (hbox); have GW243 := Aside0.mk ((by rw [hg]; exact (below_size (mvW HB.out)) : w.heap.size ≤ gb243)); have GE243 := Aside0.mk ((by rw [hg]; exact (below_size (mvW HB.out)) : w.heap.size ≤ gb243)); replace HB := Aside0.mk (below_step (mvW HB.out) hb); have NB242_243 := Aside0.mk ((by rw [hg]; exact Nat.ne_of_lt (blk_lt (mvB BK242.out)) : gb242 ≠ gb243)); have NB243_242 := Aside0.mk ((by rw [hg]; exact Nat.ne_of_gt (blk_lt (mvB BK242.out)) : gb243 ≠ gb242)); replace BK242 := Aside0.mk (blk_below (mvB BK242.out) hb); clear hb hbox hg; have hnb10 := NB242_243.out; have hnc10 := NB243_242.out; obtain ⟨Z11_0, Z11_1, Z11_2, Z11_3, Z11_4, Z11_5, Z11_6⟩ := bc7 BK242.out; obtain ⟨Y11_0, Y11_1, Y11_2, Y11_3, Y11_4, Y11_5, Y11_6⟩ := bf7 BK242.out; obtain ⟨Z12_0, Z12_1, Z12_2, Z12_3, Z12_4, Z12_5, Z12_6⟩ := bc7 BK243.out; obtain ⟨Y12_0, Y12_1, Y12_2, Y12_3, Y12_4, Y12_5, Y12_6⟩ := bf7 BK243.out) | (go_at_call 49; (with_reducible refine (cells_Same.calls k _ _ l0_6 _ _ l1_6 t244 _ ?side1 ?side2 ?side3 ?side4 A7.out).mono ?_); (case side1 => repeat (first | exact (Kd.C_below HR0_6.out HB.out) | (with_reducible refine Kd.C_alloc ?_ _) | (with_reducible refine Kd.C_drewN ?_ _) | (with_reducible refine Kd.C_drew ?_))); (case side2 => exact HC0_6.out); (case side3 => repeat (first | exact (Kd.C_below HR1_6.out HB.out) | (with_reducible refine Kd.C_alloc ?_ _) | (with_reducible refine Kd.C_drewN ?_ _) | (with_reducible refine Kd.C_drew ?_))); (case side4 => exact HC1_6.out); rintro e w' ⟨rfl, ⟨nd, rfl⟩⟩))); (go_ret); (exact ⟨by first | rfl | (simp [errW_none, errW_some] <;> rfl) | (simp [*, errW_none, errW_some] <;> rfl), by repeat (first | (with_reducible first | exact HB.out | apply below_alloc | apply pw_below_drewN | apply below_drew1 | refine below_set ?_ GE242.out | refine below_set ?_ GE243.out) | exact HB.out)⟩)
        · (rw [if_neg c6] at H); (have c6b0 : (a0_5.toList == a1_5.toList) = false := beq_eq_false_iff_ne.mpr c6); (have c6b1 : (a0_5.toList != a1_5.toList) = true := bne_iff_ne.mpr c6); (obtain rfl := Option.some.inj H); (go_enter Try.func20, Try.ntmps20); (go_wp2_with (first | ((with_reducible refine gate_dst (N := 2) rfl ?_); refine box_event ?hg (N := 2) ?hd (cs := #[.int .i64 a0_0, .int .u8 a0_1, .int .i64 a0_2, .int .u64 a0_3, .bool a0_4, .string a0_5, .slice A0_6 l0_6.length c0_6]) (t := 33) ?hr ?_; (case hd => rfl); (case hg => rfl); (case hr => first | (go_simp; done) | (go_simp; rfl)); intro gb242 hg w13 hbox hb; have BK242 := Aside0.mk (hbox); have GW242 := Aside0.mk ((by rw [hg]; exact (below_size (mvW HB.out)) : w.heap.size ≤ gb242)); have GE242 := Aside0.mk ((by rw [hg]; exact (below_size (mvW HB.out)) : w.heap.size ≤ gb242)); replace HB := Aside0.mk (below_step (mvW HB.out) hb); clear hb hbox hg) | ((with_reducible refine gate_dst (N := 3) rfl ?_); refine box_event ?hg (N := 3) ?hd (cs := #[.int .i64 a1_0, .int .u8 a1_1, .int .i64 a1_2, .int .u64 a1_3, .bool a1_4, .string a1_5, .slice A1_6 l1_6.length c1_6]) (t := 33) ?hr ?_; (case hd => rfl); (case hg => rfl); (case hr => first | (go_simp; done) | (go_simp; rfl)); intro gb243 hg w14 hbox hb; have BK243 := Aside0.mk (hbox); have GW243 := Aside0.mk ((by rw [hg]; exact (below_size (mvW HB.out)) : w.heap.size ≤ gb243)); have GE243 := Aside0.mk ((by rw [hg]; exact (below_size (mvW HB.out)) : w.heap.size ≤ gb243)); replace HB := Aside0.mk (below_step (mvW HB.out) hb); have NB242_243 := Aside0.mk ((by rw [hg]; exact Nat.ne_of_lt (blk_lt (mvB BK242.out)) : gb242 ≠ gb243)); have NB243_242 := Aside0.mk ((by rw [hg]; exact Nat.ne_of_gt (blk_lt (mvB BK242.out)) : gb243 ≠ gb242)); replace BK242 := Aside0.mk (blk_below (mvB BK242.out) hb); clear hb hbox hg; have hnb15 := NB242_243.out; have hnc15 := NB243_242.out; obtain ⟨Z16_0, Z16_1, Z16_2, Z16_3, Z16_4, Z16_5, Z16_6⟩ := bc7 BK242.out; obtain ⟨Y16_0, Y16_1, Y16_2, Y16_3, Y16_4, Y16_5, Y16_6⟩ := bf7 BK242.out; obtain ⟨Z17_0, Z17_1, Z17_2, Z17_3, Z17_4, Z17_5, Z17_6⟩ := bc7 BK243.out; obtain ⟨Y17_0, Y17_1, Y17_2, Y17_3, Y17_4, Y17_5, Y17_6⟩ := bf7 BK243.out))); (go_ret); (exact ⟨by first | rfl | (simp [errW_none, errW_some] <;> rfl) | (simp [*, errW_none, errW_some] <;> rfl), by repeat (first | (with_reducible first | exact HB.out | apply below_alloc | apply pw_below_drewN | apply below_drew1 | refine below_set ?_ GE242.out | refine below_set ?_ GE243.out) | exact HB.out)⟩)
      · (rw [if_neg c5] at H); (have c5b0 : (a0_4 == a1_4) = false := by simpa using c5); ((try (have c5b1 : decide (a0_4 = a1_4) = false := by simpa using c5))); ((try (have c5b2 : (a0_4 == a1_4) = false := by simpa using c5))); ((try (have c5b3 : ¬ (a0_4 = a1_4) := by simpa using c5))); (clear c5); (obtain rfl := Option.some.inj H); (go_enter Try.func20, Try.ntmps20); (go_wp2_with (first | ((with_reducible refine gate_dst (N := 2) rfl ?_); refine box_event ?hg (N := 2) ?hd (cs := #[.int .i64 a0_0, .int .u8 a0_1, .int .i64 a0_2, .int .u64 a0_3, .bool a0_4, .string a0_5, .slice A0_6 l0_6.length c0_6]) (t := 33) ?hr ?_; (case hd => rfl); (case hg => rfl); (case hr => first | (go_simp; done) | (go_simp; rfl)); intro gb242 hg w18 hbox hb; have BK242 := Aside0.mk (hbox); have GW242 := Aside0.mk ((by rw [hg]; exact (below_size (mvW HB.out)) : w.heap.size ≤ gb242)); have GE242 := Aside0.mk ((by rw [hg]; exact (below_size (mvW HB.out)) : w.heap.size ≤ gb242)); replace HB := Aside0.mk (below_step (mvW HB.out) hb); clear hb hbox hg) | ((with_reducible refine gate_dst (N := 3) rfl ?_); refine box_event ?hg (N := 3) ?hd (cs := #[.int .i64 a1_0, .int .u8 a1_1, .int .i64 a1_2, .int .u64 a1_3, .bool a1_4, .string a1_5, .slice A1_6 l1_6.length c1_6]) (t := 33) ?hr ?_; (case hd => rfl); (case hg => rfl); (case hr => first | (go_simp; done) | (go_simp; rfl)); intro gb243 hg w19 hbox hb; have BK243 := Aside0.mk (hbox); have GW243 := Aside0.mk ((by rw [hg]; exact (below_size (mvW HB.out)) : w.heap.size ≤ gb243)); have GE243 := Aside0.mk ((by rw [hg]; exact (below_size (mvW HB.out)) : w.heap.size ≤ gb243)); replace HB := Aside0.mk (below_step (mvW HB.out) hb); have NB242_243 := Aside0.mk ((by rw [hg]; exact Nat.ne_of_lt (blk_lt (mvB BK242.out)) : gb242 ≠ gb243)); have NB243_242 := Aside0.mk ((by rw [hg]; exact Nat.ne_of_gt (blk_lt (mvB BK242.out)) : gb243 ≠ gb242)); replace BK242 := Aside0.mk (blk_below (mvB BK242.out) hb); clear hb hbox hg; have hnb20 := NB242_243.out; have hnc20 := NB243_242.out; obtain ⟨Z21_0, Z21_1, Z21_2, Z21_3, Z21_4, Z21_5, Z21_6⟩ := bc7 BK242.out; obtain ⟨Y21_0, Y21_1, Y21_2, Y21_3, Y21_4, Y21_5, Y21_6⟩ := bf7 BK242.out; obtain ⟨Z22_0, Z22_1, Z22_2, Z22_3, Z22_4, Z22_5, Z22_6⟩ := bc7 BK243.out; obtain ⟨Y22_0, Y22_1, Y22_2, Y22_3, Y22_4, Y22_5, Y22_6⟩ := bf7 BK243.out))); (go_ret); (exact ⟨by first | rfl | (simp [errW_none, errW_some] <;> rfl) | (simp [*, errW_none, errW_some] <;> rfl), by repeat (first | (with_reducible first | exact HB.out | apply below_alloc | apply pw_below_drewN | apply below_drew1 | refine below_set ?_ GE242.out | refine below_set ?_ GE243.out) | exact HB.out)⟩)
    · (rw [if_neg c4] at H); (have c4b0 : (a0_2 == a1_2) = false := beq_eq_false_iff_ne.mpr c4); (have c4b1 : (a0_2 != a1_2) = true := bne_iff_ne.mpr c4); (obtain rfl := Option.some.inj H); (go_enter Try.func20, Try.ntmps20); (go_wp2_with (first | ((with_reducible refine gate_dst (N := 2) rfl ?_); refine box_event ?hg (N := 2) ?hd (cs := #[.int .i64 a0_0, .int .u8 a0_1, .int .i64 a0_2, .int .u64 a0_3, .bool a0_4, .string a0_5, .slice A0_6 l0_6.length c0_6]) (t := 33) ?hr ?_; (case hd => rfl); (case hg => rfl); (case hr => first | (go_simp; done) | (go_simp; rfl)); intro gb242 hg w23 hbox hb; have BK242 := Aside0.mk (hbox); have GW242 := Aside0.mk ((by rw [hg]; exact (below_size (mvW HB.out)) : w.heap.size ≤ gb242)); have GE242 := Aside0.mk ((by rw [hg]; exact (below_size (mvW HB.out)) : w.heap.size ≤ gb242)); replace HB := Aside0.mk (below_step (mvW HB.out) hb); clear hb hbox hg) | ((with_reducible refine gate_dst (N := 3) rfl ?_); refine box_event ?hg (N := 3) ?hd (cs := #[.int .i64 a1_0, .int .u8 a1_1, .int .i64 a1_2, .int .u64 a1_3, .bool a1_4, .string a1_5, .slice A1_6 l1_6.length c1_6]) (t := 33) ?hr ?_; (case hd => rfl); (case hg => rfl); (case hr => first | (go_simp; done) | (go_simp; rfl)); intro gb243 hg w24 hbox hb; have BK243 := Aside0.mk (hbox); have GW243 := Aside0.mk ((by rw [hg]; exact (below_size (mvW HB.out)) : w.heap.size ≤ gb243)); have GE243 := Aside0.mk ((by rw [hg]; exact (below_size (mvW HB.out)) : w.heap.size ≤ gb243)); replace HB := Aside0.mk (below_step (mvW HB.out) hb); have NB242_243 := Aside0.mk ((by rw [hg]; exact Nat.ne_of_lt (blk_lt (mvB BK242.out)) : gb242 ≠ gb243)); have NB243_242 := Aside0.mk ((by rw [hg]; exact Nat.ne_of_gt (blk_lt (mvB BK242.out)) : gb243 ≠ gb242)); replace BK242 := Aside0.mk (blk_below (mvB BK242.out) hb); clear hb hbox hg; have hnb25 := NB242_243.out; have hnc25 := NB243_242.out; obtain ⟨Z26_0, Z26_1, Z26_2, Z26_3, Z26_4, Z26_5, Z26_6⟩ := bc7 BK242.out; obtain ⟨Y26_0, Y26_1, Y26_2, Y26_3, Y26_4, Y26_5, Y26_6⟩ := bf7 BK242.out; obtain ⟨Z27_0, Z27_1, Z27_2, Z27_3, Z27_4, Z27_5, Z27_6⟩ := bc7 BK243.out; obtain ⟨Y27_0, Y27_1, Y27_2, Y27_3, Y27_4, Y27_5, Y27_6⟩ := bf7 BK243.out))); (go_ret); (exact ⟨by first | rfl | (simp [errW_none, errW_some] <;> rfl) | (simp [*, errW_none, errW_some] <;> rfl), by repeat (first | (with_reducible first | exact HB.out | apply below_alloc | apply pw_below_drewN | apply below_drew1 | refine below_set ?_ GE242.out | refine below_set ?_ GE243.out) | exact HB.out)⟩)
  · (rw [if_neg c3] at H); (have c3b0 : (a0_1 == a1_1) = false := beq_eq_false_iff_ne.mpr c3); (have c3b1 : (a0_1 != a1_1) = true := bne_iff_ne.mpr c3); (obtain rfl := Option.some.inj H); (go_enter Try.func20, Try.ntmps20); (go_wp2_with (first | ((with_reducible refine gate_dst (N := 2) rfl ?_); refine box_event ?hg (N := 2) ?hd (cs := #[.int .i64 a0_0, .int .u8 a0_1, .int .i64 a0_2, .int .u64 a0_3, .bool a0_4, .string a0_5, .slice A0_6 l0_6.length c0_6]) (t := 33) ?hr ?_; (case hd => rfl); (case hg => rfl); (case hr => first | (go_simp; done) | (go_simp; rfl)); intro gb242 hg w28 hbox hb; have BK242 := Aside0.mk (hbox); have GW242 := Aside0.mk ((by rw [hg]; exact (below_size (mvW HB.out)) : w.heap.size ≤ gb242)); have GE242 := Aside0.mk ((by rw [hg]; exact (below_size (mvW HB.out)) : w.heap.size ≤ gb242)); replace HB := Aside0.mk (below_step (mvW HB.out) hb); clear hb hbox hg) | ((with_reducible refine gate_dst (N := 3) rfl ?_); refine box_event ?hg (N := 3) ?hd (cs := #[.int .i64 a1_0, .int .u8 a1_1, .int .i64 a1_2, .int .u64 a1_3, .bool a1_4, .string a1_5, .slice A1_6 l1_6.length c1_6]) (t := 33) ?hr ?_; (case hd => rfl); (case hg => rfl); (case hr => first | (go_simp; done) | (go_simp; rfl)); intro gb243 hg w29 hbox hb; have BK243 := Aside0.mk (hbox); have GW243 := Aside0.mk ((by rw [hg]; exact (below_size (mvW HB.out)) : w.heap.size ≤ gb243)); have GE243 := Aside0.mk ((by rw [hg]; exact (below_size (mvW HB.out)) : w.heap.size ≤ gb243)); replace HB := Aside0.mk (below_step (mvW HB.out) hb); have NB242_243 := Aside0.mk ((by rw [hg]; exact Nat.ne_of_lt (blk_lt (mvB BK242.out)) : gb242 ≠ gb243)); have NB243_242 := Aside0.mk ((by rw [hg]; exact Nat.ne_of_gt (blk_lt (mvB BK242.out)) : gb243 ≠ gb242)); replace BK242 := Aside0.mk (blk_below (mvB BK242.out) hb); clear hb hbox hg; have hnb30 := NB242_243.out; have hnc30 := NB243_242.out; obtain ⟨Z31_0, Z31_1, Z31_2, Z31_3, Z31_4, Z31_5, Z31_6⟩ := bc7 BK242.out; obtain ⟨Y31_0, Y31_1, Y31_2, Y31_3, Y31_4, Y31_5, Y31_6⟩ := bf7 BK242.out; obtain ⟨Z32_0, Z32_1, Z32_2, Z32_3, Z32_4, Z32_5, Z32_6⟩ := bc7 BK243.out; obtain ⟨Y32_0, Y32_1, Y32_2, Y32_3, Y32_4, Y32_5, Y32_6⟩ := bf7 BK243.out))); (go_ret); (exact ⟨by first | rfl | (simp [errW_none, errW_some] <;> rfl) | (simp [*, errW_none, errW_some] <;> rfl), by repeat (first | (with_reducible first | exact HB.out | apply below_alloc | apply pw_below_drewN | apply below_drew1 | refine below_set ?_ GE242.out | refine below_set ?_ GE243.out) | exact HB.out)⟩)

def ok42 (x : S42) : Prop := (x.f0.size ≤ 140737488351232) ∧ (x.f1.size ≤ 140737488351232)
theorem opn42 {H : Type} {enc : TypeId × Value → H} : Open.Opn enc Try.prog 42 k42 ok42 := Open.opn_struct (fun p => ⟨p.1, p.2⟩) (fun _ => rfl) Try.underlying42 (by kernel_rfl) (Open.opnFs_cons (off := 0) (off' := 1) (tot := 2) rfl (by kernel_rfl) (Open.opn_string Try.underlying9) (Open.opnFs_one (off := 1) (tot := 2) rfl (by kernel_rfl) (Open.opn_string Try.underlying9)))

def ok24 (x : S24) : Prop := (x.f0.size ≤ 140737488351232) ∧ ((x.f1.size ≤ 140737488351232) ∧ (True))
theorem opn24 {H : Type} {enc : TypeId × Value → H} : Open.Opn enc Try.prog 24 k24 ok24 := Open.opn_struct (fun p => ⟨p.1, p.2.1, p.2.2⟩) (fun _ => rfl) Try.underlying24 (by kernel_rfl) (Open.opnFs_cons (off := 0) (off' := 1) (tot := 3) rfl (by kernel_rfl) (Open.opn_string Try.underlying9) (Open.opnFs_cons (off := 1) (off' := 2) (tot := 3) rfl (by kernel_rfl) (Open.opn_string Try.underlying9) (Open.opnFs_one (off := 2) (tot := 3) rfl (by kernel_rfl) (Open.opn_bool Try.underlying4))))

def ok26 (x : S26) : Prop := ((Lit.int .u8 x.f0).wf = true) ∧ ((x.f1.size ≤ 140737488351232) ∧ ((x.f2.size ≤ 140737488351232) ∧ ((ok24 x.f3) ∧ ((Lit.int .i64 x.f4).wf = true))))
theorem opn26 {H : Type} {enc : TypeId × Value → H} : Open.Opn enc Try.prog 26 k26 ok26 := Open.opn_struct (fun p => ⟨p.1, p.2.1, p.2.2.1, p.2.2.2.1, p.2.2.2.2⟩) (fun _ => rfl) Try.underlying26 (by kernel_rfl) (Open.opnFs_cons (off := 0) (off' := 1) (tot := 7) rfl (by kernel_rfl) (Open.opn_int Try.underlying5) (Open.opnFs_cons (off := 1) (off' := 2) (tot := 7) rfl (by kernel_rfl) (Open.opn_string Try.underlying9) (Open.opnFs_cons (off := 2) (off' := 3) (tot := 7) rfl (by kernel_rfl) (Open.opn_string Try.underlying9) (Open.opnFs_cons (off := 3) (off' := 6) (tot := 7) rfl (by kernel_rfl) opn24 (Open.opnFs_one (off := 6) (tot := 7) rfl (by kernel_rfl) (Open.opn_int Try.underlying3))))))

/-! ### lockkeeperlaw30_ModelApart: function 5 -/
def lockkeeperlaw30_ModelApart.j0 : Nat → List (S42) → Bool → Int → ByteArray → ByteArray → ByteArray → ByteArray → Bool → Int → Int → ByteArray → ByteArray → ByteArray → ByteArray → Bool → Int → Option (Bool)
  | 0, _, _, _, _, _, _, _, _, _, _, _, _, _, _, _, _ => none
  | k + 1, x0, x52, x246000, x246001, x246002, x246003, x246004, x246005, x246006, x247000, x247001, x247002, x247003, x247004, x247005, x247006 => if x52 = true then ((lockkeeperlaw30_head.f k).bind fun t251 => (some t251)) else ((model_Do.f k x0 x246000 x246001 x246002 x246003 x246004 x246005 x246006).bind fun bt252 => ((model_Do.f k bt252.1 x247000 x247001 x247002 x247003 x247004 x247005 x247006).bind fun bt265 => ((model_Do.f k x0 x247000 x247001 x247002 x247003 x247004 x247005 x247006).bind fun bt278 => ((model_Do.f k bt278.1 x246000 x246001 x246002 x246003 x246004 x246005 x246006).bind fun bt291 => ((model_Same.f k bt252.2.1 bt252.2.2.1 bt252.2.2.2.1 bt252.2.2.2.2.1 bt252.2.2.2.2.2.1 bt252.2.2.2.2.2.2.1 bt252.2.2.2.2.2.2.2 bt291.2.1 bt291.2.2.1 bt291.2.2.2.1 bt291.2.2.2.2.1 bt291.2.2.2.2.2.1 bt291.2.2.2.2.2.2.1 bt291.2.2.2.2.2.2.2).bind fun t304 => (if t304 = true then ((model_Same.f k bt265.2.1 bt265.2.2.1 bt265.2.2.2.1 bt265.2.2.2.2.1 bt265.2.2.2.2.2.1 bt265.2.2.2.2.2.2.1 bt265.2.2.2.2.2.2.2 bt278.2.1 bt278.2.2.1 bt278.2.2.2.1 bt278.2.2.2.2.1 bt278.2.2.2.2.2.1 bt278.2.2.2.2.2.2.1 bt278.2.2.2.2.2.2.2).bind fun t305 => (if t305 = true then ((model_Diff.f k bt265.1 bt291.1).bind fun t306 => (if (t306.length : Int) = 0 then (if (bt265.1.length : Int) = (bt291.1.length : Int) then ((model_Do.f k x0 2 x246001 (⟨#[]⟩ : ByteArray) (⟨#[]⟩ : ByteArray) (⟨#[]⟩ : ByteArray) false 0).bind fun bt309 => ((model_Do.f k x0 6 (⟨#[]⟩ : ByteArray) (⟨#[]⟩ : ByteArray) (⟨#[]⟩ : ByteArray) (⟨#[]⟩ : ByteArray) false 5).bind fun bt322 => ((model_Diff.f k bt309.1 x0).bind fun t335 => (if (t335.length : Int) = 0 then (if (bt309.1.length : Int) = (x0.length : Int) then ((model_Diff.f k bt322.1 x0).bind fun t338 => (if (t338.length : Int) = 0 then (if (bt322.1.length : Int) = (x0.length : Int) then ((lockkeeperlaw30_head.f k).bind fun t341 => (some t341)) else (none)) else (none))) else (none)) else (none))))) else (none)) else (none))) else (none))) else (none)))))))
def lockkeeperlaw30_ModelApart.f (k : Nat) (l0 : List (S42)) (a1_0 : Int) (a1_1 : ByteArray) (a1_2 : ByteArray) (a1_3 : ByteArray) (a1_4 : ByteArray) (a1_5 : Bool) (a1_6 : Int) (a2_0 : Int) (a2_1 : ByteArray) (a2_2 : ByteArray) (a2_3 : ByteArray) (a2_4 : ByteArray) (a2_5 : Bool) (a2_6 : Int) : Option (Bool) := (lockkeeperlaw30_great.f k l0).bind fun t247 => (if t247 = true then (lockkeeperlaw30_ModelApart.j0 k l0 true a1_0 a1_1 a1_2 a1_3 a1_4 a1_5 a1_6 a2_0 a2_1 a2_2 a2_3 a2_4 a2_5 a2_6) else ((lockkeeperref10_Right.f k l0).bind fun t248 => (if t248 = true then ((lockkeeperref30_Small.f a1_0 a1_1 a1_2 a1_3 a1_4 a1_5 a1_6).bind fun t249 => (if t249 = true then ((lockkeeperref30_Small.f a2_0 a2_1 a2_2 a2_3 a2_4 a2_5 a2_6).bind fun t250 => (if t250 = true then (if a1_0 = 6 then (lockkeeperlaw30_ModelApart.j0 k l0 true a1_0 a1_1 a1_2 a1_3 a1_4 a1_5 a1_6 a2_0 a2_1 a2_2 a2_3 a2_4 a2_5 a2_6) else (if a2_0 = 6 then (lockkeeperlaw30_ModelApart.j0 k l0 true a1_0 a1_1 a1_2 a1_3 a1_4 a1_5 a1_6 a2_0 a2_1 a2_2 a2_3 a2_4 a2_5 a2_6) else (lockkeeperlaw30_ModelApart.j0 k l0 (a1_1.toList == a2_1.toList) a1_0 a1_1 a1_2 a1_3 a1_4 a1_5 a1_6 a2_0 a2_1 a2_2 a2_3 a2_4 a2_5 a2_6))) else (lockkeeperlaw30_ModelApart.j0 k l0 true a1_0 a1_1 a1_2 a1_3 a1_4 a1_5 a1_6 a2_0 a2_1 a2_2 a2_3 a2_4 a2_5 a2_6))) else (lockkeeperlaw30_ModelApart.j0 k l0 true a1_0 a1_1 a1_2 a1_3 a1_4 a1_5 a1_6 a2_0 a2_1 a2_2 a2_3 a2_4 a2_5 a2_6))) else (lockkeeperlaw30_ModelApart.j0 k l0 true a1_0 a1_1 a1_2 a1_3 a1_4 a1_5 a1_6 a2_0 a2_1 a2_2 a2_3 a2_4 a2_5 a2_6))))
theorem lockkeeperlaw30_ModelApart.mono_l : ∀ k, (∀ y0 y1 y2 y3 y4 y5 y6 y7 y8 y9 y10 y11 y12 y13 y14 y15, LeO (lockkeeperlaw30_ModelApart.j0 k y0 y1 y2 y3 y4 y5 y6 y7 y8 y9 y10 y11 y12 y13 y14 y15) (lockkeeperlaw30_ModelApart.j0 (k + 1) y0 y1 y2 y3 y4 y5 y6 y7 y8 y9 y10 y11 y12 y13 y14 y15))
  | 0 => fun _ _ _ _ _ _ _ _ _ _ _ _ _ _ _ _ r h => by simp [lockkeeperlaw30_ModelApart.j0] at h
  | k + 1 => by
    have ih0 := lockkeeperlaw30_ModelApart.mono_l k
    · intro y0 y1 y2 y3 y4 y5 y6 y7 y8 y9 y10 y11 y12 y13 y14 y15
      unfold lockkeeperlaw30_ModelApart.j0
      repeat' first
      | (with_reducible exact ih0 _ _ _ _ _ _ _ _ _ _ _ _ _ _ _ _)
      | (with_reducible exact lockkeeperlaw30_great.mono _ _)
      | (with_reducible exact lockkeeperlaw30_head.mono _)
      | (with_reducible exact lockkeeperref10_Right.mono _ _)
      | (with_reducible exact model_Diff.mono _ _ _)
      | (with_reducible exact model_Do.mono _ _ _ _ _ _ _ _ _)
      | (with_reducible exact model_Same.mono _ _ _ _ _ _ _ _ _ _ _ _ _ _ _)
      | (with_reducible exact LeO.refl _)
      | (with_reducible exact LeO.none _)
      | (with_reducible refine LeO.ite ?_ ?_)
      | (with_reducible refine LeO.bind ?_ (fun _ => ?_))
      | exact ih0 _ _ _ _ _ _ _ _ _ _ _ _ _ _ _ _
      | exact lockkeeperlaw30_great.mono _ _
      | exact lockkeeperlaw30_head.mono _
      | exact lockkeeperref10_Right.mono _ _
      | exact model_Diff.mono _ _ _
      | exact model_Do.mono _ _ _ _ _ _ _ _ _
      | exact model_Same.mono _ _ _ _ _ _ _ _ _ _ _ _ _ _ _
      | exact LeO.none _
      | refine LeO.ite ?_ ?_
      | refine LeO.bind ?_ (fun _ => ?_)
theorem lockkeeperlaw30_ModelApart.mono : ∀ a0 a1 a2 a3 a4 a5 a6 a7 a8 a9 a10 a11 a12 a13 a14 k, LeO (lockkeeperlaw30_ModelApart.f k a0 a1 a2 a3 a4 a5 a6 a7 a8 a9 a10 a11 a12 a13 a14) (lockkeeperlaw30_ModelApart.f (k + 1) a0 a1 a2 a3 a4 a5 a6 a7 a8 a9 a10 a11 a12 a13 a14) := by
  intro a0 a1 a2 a3 a4 a5 a6 a7 a8 a9 a10 a11 a12 a13 a14 k
  have ih0 := lockkeeperlaw30_ModelApart.mono_l k
  unfold lockkeeperlaw30_ModelApart.f
  repeat' first
      | (with_reducible exact ih0 _ _ _ _ _ _ _ _ _ _ _ _ _ _ _ _)
      | (with_reducible exact lockkeeperlaw30_great.mono _ _)
      | (with_reducible exact lockkeeperlaw30_head.mono _)
      | (with_reducible exact lockkeeperref10_Right.mono _ _)
      | (with_reducible exact model_Diff.mono _ _ _)
      | (with_reducible exact model_Do.mono _ _ _ _ _ _ _ _ _)
      | (with_reducible exact model_Same.mono _ _ _ _ _ _ _ _ _ _ _ _ _ _ _)
      | (with_reducible exact LeO.refl _)
      | (with_reducible exact LeO.none _)
      | (with_reducible refine LeO.ite ?_ ?_)
      | (with_reducible refine LeO.bind ?_ (fun _ => ?_))
      | exact ih0 _ _ _ _ _ _ _ _ _ _ _ _ _ _ _ _
      | exact lockkeeperlaw30_great.mono _ _
      | exact lockkeeperlaw30_head.mono _
      | exact lockkeeperref10_Right.mono _ _
      | exact model_Diff.mono _ _ _
      | exact model_Do.mono _ _ _ _ _ _ _ _ _
      | exact model_Same.mono _ _ _ _ _ _ _ _ _ _ _ _ _ _ _
      | exact LeO.none _
      | refine LeO.ite ?_ ?_
      | refine LeO.bind ?_ (fun _ => ?_)

end Go.Proofs.Ytoggblomknemoaa.A
