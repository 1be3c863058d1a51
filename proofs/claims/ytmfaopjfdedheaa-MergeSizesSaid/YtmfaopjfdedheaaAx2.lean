-- PRINTED by print.py (a twelfth state) out of the translation. Not trusted: Lean checks it.
import Derived.Test.YtmfaopjfdedheaaMv
import Derived.Test.YtmfaopjfdedheaaAx0
namespace Go.Proofs.Ytmfaopjfdedheaa.A
open Go.RowKit Go.Proofs.YtmfaopjfdedheaaW Go.Proofs.YtmfaopjfdedheaaW.PrintWords Go.Proofs.YtmfaopjfdedheaaW.PrintLast Go.Proofs.YtmfaopjfdedheaaW.PrintMore
attribute [local go_sem] max2_int min2_int max_two min_two max_three min_three max_four min_four   -- for this text's walks alone
set_option linter.unusedVariables false
set_option linter.unusedSimpArgs false

/-! ### lockkeeperref11_Small: function 4 -/
def lockkeeperref11_Small.l0 : Nat → Int → Int → Int → Int → Int → ByteArray → ByteArray → Bool → Int → Int → List Int → List (S42) → Option (Bool)
  | 0, _, _, _, _, _, _, _, _, _, _, _, _ => none
  | k + 1, x3, x4, x102000, x102001, x102002, x102003, x102004, x102005, x102006, x102007, x102008, x102009 => if x4 < (x102009.length : Int) then (if x4 < 60 then (if 0 ≤ x4 then (lockkeeperref11_Small.l0 k (wrap64 ((wrap64 (x3 + (((rd_T42 x102009 x4).f0).size : Int))) + (((rd_T42 x102009 x4).f1).size : Int))) (wrap64 (x4 + 1)) x102000 x102001 x102002 x102003 x102004 x102005 x102006 x102007 x102008 x102009) else (none)) else (if (x102009.length : Int) ≤ 60 then (if (x102008.length : Int) ≤ 1100 then (some (decide (x3 ≤ 30000))) else (some false)) else (some false))) else (if (x102009.length : Int) ≤ 60 then (if (x102008.length : Int) ≤ 1100 then (some (decide (x3 ≤ 30000))) else (some false)) else (some false))
def lockkeeperref11_Small.f (k : Nat) (a0_0 : Int) (a0_1 : Int) (a0_2 : Int) (a0_3 : ByteArray) (a0_4 : ByteArray) (a0_5 : Bool) (a0_6 : Int) (a0_7 : Int) (l0_8 : List Int) (l0_9 : List (S42)) : Option (Bool) := lockkeeperref11_Small.l0 k (wrap64 ((a0_3.size : Int) + (a0_4.size : Int))) 0 a0_0 a0_1 a0_2 a0_3 a0_4 a0_5 a0_6 a0_7 l0_8 l0_9
theorem lockkeeperref11_Small.mono_l : ∀ k, (∀ y0 y1 y2 y3 y4 y5 y6 y7 y8 y9 y10 y11, LeO (lockkeeperref11_Small.l0 k y0 y1 y2 y3 y4 y5 y6 y7 y8 y9 y10 y11) (lockkeeperref11_Small.l0 (k + 1) y0 y1 y2 y3 y4 y5 y6 y7 y8 y9 y10 y11))
  | 0 => fun _ _ _ _ _ _ _ _ _ _ _ _ r h => by simp [lockkeeperref11_Small.l0] at h
  | k + 1 => by
    have ih0 := lockkeeperref11_Small.mono_l k
    · intro y0 y1 y2 y3 y4 y5 y6 y7 y8 y9 y10 y11
      unfold lockkeeperref11_Small.l0
      repeat' first
      | (with_reducible exact ih0 _ _ _ _ _ _ _ _ _ _ _ _)
      | (with_reducible exact LeO.refl _)
      | (with_reducible exact LeO.none _)
      | (with_reducible refine LeO.ite ?_ ?_)
      | (with_reducible refine LeO.bind ?_ (fun _ => ?_))
      | exact ih0 _ _ _ _ _ _ _ _ _ _ _ _
      | exact LeO.none _
      | refine LeO.ite ?_ ?_
      | refine LeO.bind ?_ (fun _ => ?_)
theorem lockkeeperref11_Small.mono : ∀ a0 a1 a2 a3 a4 a5 a6 a7 a8 a9 k, LeO (lockkeeperref11_Small.f k a0 a1 a2 a3 a4 a5 a6 a7 a8 a9) (lockkeeperref11_Small.f (k + 1) a0 a1 a2 a3 a4 a5 a6 a7 a8 a9) := by
  intro a0 a1 a2 a3 a4 a5 a6 a7 a8 a9 k
  have ih0 := lockkeeperref11_Small.mono_l k
  unfold lockkeeperref11_Small.f
  repeat' first
      | (with_reducible exact ih0 _ _ _ _ _ _ _ _ _ _ _ _)
      | (with_reducible exact LeO.refl _)
      | (with_reducible exact LeO.none _)
      | (with_reducible refine LeO.ite ?_ ?_)
      | (with_reducible refine LeO.bind ?_ (fun _ => ?_))
      | exact ih0 _ _ _ _ _ _ _ _ _ _ _ _
      | exact LeO.none _
      | refine LeO.ite ?_ ?_
      | refine LeO.bind ?_ (fun _ => ?_)
set_option maxHeartbeats 8000000 in
set_option maxRecDepth 100000 in
theorem lockkeeperref11_Small.calls (k : Nat) (a0_0 : Int) (a0_1 : Int) (a0_2 : Int) (a0_3 : ByteArray) (a0_4 : ByteArray) (a0_5 : Bool) (a0_6 : Int) (a0_7 : Int) (A0_8 : Option Addr) (c0_8 : Nat) (l0_8 : List Int) (A0_9 : Option Addr) (c0_9 : Nat) (l0_9 : List (S42)) (r : Bool) (w : World) (hr0_8 : Kd.C (Kd.int .u64) w A0_8 l0_8.length l0_8) (hc0_8 : l0_8.length ≤ c0_8) (hr0_9 : Kd.C k42 w A0_9 l0_9.length l0_9) (hc0_9 : l0_9.length ≤ c0_9) (h : lockkeeperref11_Small.f k a0_0 a0_1 a0_2 a0_3 a0_4 a0_5 a0_6 a0_7 l0_8 l0_9 = some r) :
    Calls Try.prog 4 #[.agg #[.int .u64 a0_0, .int .u64 a0_1, .int .u8 a0_2, .string a0_3, .string a0_4, .bool a0_5, .int .u64 a0_6, .int .u64 a0_7, .slice A0_8 l0_8.length c0_8, .slice A0_9 l0_9.length c0_9]] w fun e w' => e = .returned (.bool r) ∧ Below w.heap.size w w' := by
  (have hu28 := Try.underlying28); (have HR0_8 := Aside0.mk hr0_8); (have HC0_8 := Aside0.mk hc0_8); (clear hr0_8 hc0_8); (have HR0_9 := Aside0.mk hr0_9); (have HC0_9 := Aside0.mk hc0_9); (clear hr0_9 hc0_9); (have HB := Aside0.mk (Below.refl w.heap.size w)); (have H : (lockkeeperref11_Small.l0 k (wrap64 ((a0_3.size : Int) + (a0_4.size : Int))) 0 a0_0 a0_1 a0_2 a0_3 a0_4 a0_5 a0_6 a0_7 l0_8 l0_9) = some r := h); (clear h); (have H' := Aside0.mk H); (clear H); (go_enter Try.func4, Try.ntmps4); (go_wp2_with (first | ((with_reducible refine gate_dst (N := 1) rfl ?_); (try (refine gate_guard (by rfl) ?_; dsimp only)); refine box_event ?hg (N := 1) ?hd (cs := #[.int .u64 a0_0, .int .u64 a0_1, .int .u8 a0_2, .string a0_3, .string a0_4, .bool a0_5, .int .u64 a0_6, .int .u64 a0_7, .slice A0_8 l0_8.length c0_8, .slice A0_9 l0_9.length c0_9]) (t := 28) ?hr ?_; (case hd => rfl); (case hg => rfl); (case hr => first | (go_simp; done) | (go_simp; rfl)); intro gb101 hg w2 hbox hb; have BK101 := Aside0.mk (hbox); have GW101 := Aside0.mk ((by rw [hg]; exact (below_size (mvW HB.out)) : w.heap.size ≤ gb101)); have GE101 := Aside0.mk ((by rw [hg]; exact (below_size (mvW HB.out)) : w.heap.size ≤ gb101)); replace HB := Aside0.mk (below_step (mvW HB.out) hb); clear hb hbox hg; obtain ⟨Z3_0, Z3_1, Z3_2, Z3_3, Z3_4, Z3_5, Z3_6, Z3_7, Z3_8, Z3_9⟩ := bc10 BK101.out; obtain ⟨Y3_0, Y3_1, Y3_2, Y3_3, Y3_4, Y3_5, Y3_6, Y3_7, Y3_8, Y3_9⟩ := bf10 BK101.out))); (repeat (go_quiet (first | ((with_reducible refine gate_dst (N := 1) rfl ?_); (try (refine gate_guard (by rfl) ?_; dsimp only)); refine box_event ?hg (N := 1) ?hd (cs := #[.int .u64 a0_0, .int .u64 a0_1, .int .u8 a0_2, .string a0_3, .string a0_4, .bool a0_5, .int .u64 a0_6, .int .u64 a0_7, .slice A0_8 l0_8.length c0_8, .slice A0_9 l0_9.length c0_9]) (t := 28) ?hr ?_; (case hd => rfl); (case hg => rfl); (case hr => first | (go_simp; done) | (go_simp; rfl)); intro gb101 hg w2 hbox hb; have BK101 := Aside0.mk (hbox); have GW101 := Aside0.mk ((by rw [hg]; exact (below_size (mvW HB.out)) : w.heap.size ≤ gb101)); have GE101 := Aside0.mk ((by rw [hg]; exact (below_size (mvW HB.out)) : w.heap.size ≤ gb101)); replace HB := Aside0.mk (below_step (mvW HB.out) hb); clear hb hbox hg; obtain ⟨Z3_0, Z3_1, Z3_2, Z3_3, Z3_4, Z3_5, Z3_6, Z3_7, Z3_8, Z3_9⟩ := bc10 BK101.out; obtain ⟨Y3_0, Y3_1, Y3_2, Y3_3, Y3_4, Y3_5, Y3_6, Y3_7, Y3_8, Y3_9⟩ := bf10 BK101.out)); try go_wp2_with (first | ((with_reducible refine gate_dst (N := 1) rfl ?_); (try (refine gate_guard (by rfl) ?_; dsimp only)); refine box_event ?hg (N := 1) ?hd (cs := #[.int .u64 a0_0, .int .u64 a0_1, .int .u8 a0_2, .string a0_3, .string a0_4, .bool a0_5, .int .u64 a0_6, .int .u64 a0_7, .slice A0_8 l0_8.length c0_8, .slice A0_9 l0_9.length c0_9]) (t := 28) ?hr ?_; (case hd => rfl); (case hg => rfl); (case hr => first | (go_simp; done) | (go_simp; rfl)); intro gb101 hg w2 hbox hb; have BK101 := Aside0.mk (hbox); have GW101 := Aside0.mk ((by rw [hg]; exact (below_size (mvW HB.out)) : w.heap.size ≤ gb101)); have GE101 := Aside0.mk ((by rw [hg]; exact (below_size (mvW HB.out)) : w.heap.size ≤ gb101)); replace HB := Aside0.mk (below_step (mvW HB.out) hb); clear hb hbox hg; obtain ⟨Z3_0, Z3_1, Z3_2, Z3_3, Z3_4, Z3_5, Z3_6, Z3_7, Z3_8, Z3_9⟩ := bc10 BK101.out; obtain ⟨Y3_0, Y3_1, Y3_2, Y3_3, Y3_4, Y3_5, Y3_6, Y3_7, Y3_8, Y3_9⟩ := bf10 BK101.out)))); (go_loopg [3, 4] k (fun kq v3 v4 w' => ∃ (x3_1 : Int) (x4_1 : Int), v3 = .int .i64 x3_1 ∧ v4 = .int .i64 x4_1 ∧ Aside0 (lockkeeperref11_Small.l0 kq x3_1 x4_1 a0_0 a0_1 a0_2 a0_3 a0_4 a0_5 a0_6 a0_7 l0_8 l0_9 = some r) ∧ Aside0 (kq ≤ k) ∧ Aside0 (w'.heap[gb101]? = some (.cells #[.int .u64 a0_0, .int .u64 a0_1, .int .u8 a0_2, .string a0_3, .string a0_4, .bool a0_5, .int .u64 a0_6, .int .u64 a0_7, (.slice A0_8 l0_8.length c0_8), (.slice A0_9 l0_9.length c0_9)] 28 (0, 0))) ∧ Aside0 (Below w.heap.size w w')))
  case atStart => exact ⟨(wrap64 ((a0_3.size : Int) + (a0_4.size : Int))), (0), (by first | rfl | (simp; done) | (simp [*]; done)), (by first | rfl | (simp; done) | (simp [*]; done)), H', ⟨Nat.le_refl _⟩, ⟨mvB BK101.out⟩, ⟨mvW HB.out⟩⟩
  case round =>
    (clear H'); (try clear p2); (try clear Z3_0 Z3_1 Z3_2 Z3_3 Z3_4 Z3_5 Z3_6 Z3_7 Z3_8 Z3_9); (try clear Y3_0 Y3_1 Y3_2 Y3_3 Y3_4 Y3_5 Y3_6 Y3_7 Y3_8 Y3_9); (obtain ⟨x3_1, x4_1, rfl, rfl, HA, HK1, BK101, HB⟩ := hrel)
    cases gk with
    | zero => exact absurd HA.out (by simp [lockkeeperref11_Small.l0])
    | succ k1 =>
      (have H := HA.out); (clear HA); (simp only [lockkeeperref11_Small.l0] at H); (by_cases c4 : x4_1 < (l0_9.length : Int))
      · (rw [if_pos c4] at H); (have c4b0 : decide (x4_1 < (l0_9.length : Int)) = true := decide_eq_true c4); (clear c4); (by_cases c5 : x4_1 < 60)
        · (rw [if_pos c5] at H); (have c5b0 : decide (x4_1 < 60) = true := decide_eq_true c5); (clear c5); (by_cases c6 : 0 ≤ x4_1)
          · (rw [if_pos c6] at H); (have c6b0 : decide (0 ≤ x4_1) = true := decide_eq_true c6); (clear c6); (have H' := Aside0.mk H); (clear H); (obtain ⟨Z7_0, Z7_1, Z7_2, Z7_3, Z7_4, Z7_5, Z7_6, Z7_7, Z7_8, Z7_9⟩ := bc10 BK101.out); (obtain ⟨Y7_0, Y7_1, Y7_2, Y7_3, Y7_4, Y7_5, Y7_6, Y7_7, Y7_8, Y7_9⟩ := bf10 BK101.out); (have p102 : 0 ≤ (x4_1 : Int) := of_decide_eq_true (by first | (with_reducible assumption) | assumption)); (have q102 : x4_1 < (l0_9.length : Int) := of_decide_eq_true (by first | (with_reducible assumption) | assumption)); (obtain ⟨ad102, e102, hx102_0, hx102_1⟩ := at_T42 HR0_9.out x4_1 p102 q102); (cases e102); (replace hx102_0 := (HB.out.cell (World.block_lt_of_cell? w _ hx102_0)).trans hx102_0); (replace hx102_1 := (HB.out.cell (World.block_lt_of_cell? w _ hx102_1)).trans hx102_1); (replace p102 := eq_true p102); (replace q102 := eq_true q102); (have p103 : 0 ≤ (x4_1 : Int) := of_decide_eq_true (by first | (with_reducible assumption) | assumption)); (have q103 : x4_1 < (l0_9.length : Int) := of_decide_eq_true (by first | (with_reducible assumption) | assumption)); (obtain ⟨ad103, e103, hx103_0, hx103_1⟩ := at_T42 HR0_9.out x4_1 p103 q103); (obtain rfl : ad102 = ad103 := (by injection e103)); (replace hx103_0 := (HB.out.cell (World.block_lt_of_cell? w _ hx103_0)).trans hx103_0); (replace hx103_1 := (HB.out.cell (World.block_lt_of_cell? w _ hx103_1)).trans hx103_1); (replace p103 := eq_true p103); (replace q103 := eq_true q103); (go_wp2); (repeat (go_quiet (fail); try go_wp2)); (go_roundg k1)
            case measure => have := HK1.out; omega
            case rel => exact ⟨(wrap64 ((wrap64 (x3_1 + (((rd_T42 l0_9 x4_1).f0).size : Int))) + (((rd_T42 l0_9 x4_1).f1).size : Int))), (wrap64 (x4_1 + 1)), (by first | rfl | (simp; done) | (simp [*]; done)), (by first | rfl | (simp; done) | (simp [*]; done)), H', ⟨by have := HK1.out; omega⟩, ⟨mvB BK101.out⟩, ⟨mvW HB.out⟩⟩
          · (rw [if_neg c6] at H); (exact absurd H (by simp))
        · (rw [if_neg c5] at H); (have c5b0 : decide (x4_1 < 60) = false := decide_eq_false c5); (clear c5); (by_cases c8 : (l0_9.length : Int) ≤ 60)
          · (rw [if_pos c8] at H); (have c8b0 : decide ((l0_9.length : Int) ≤ 60) = true := decide_eq_true c8); (have c8b1 : decide (l0_9.length ≤ 60) = true := decide_eq_true (by omega)); (clear c8); (by_cases c9 : (l0_8.length : Int) ≤ 1100)
            · (rw [if_pos c9] at H); (have c9b0 : decide ((l0_8.length : Int) ≤ 1100) = true := decide_eq_true c9); (have c9b1 : decide (l0_8.length ≤ 1100) = true := decide_eq_true (by omega)); (clear c9); (obtain rfl := Option.some.inj H); (obtain ⟨Z10_0, Z10_1, Z10_2, Z10_3, Z10_4, Z10_5, Z10_6, Z10_7, Z10_8, Z10_9⟩ := bc10 BK101.out); (obtain ⟨Y10_0, Y10_1, Y10_2, Y10_3, Y10_4, Y10_5, Y10_6, Y10_7, Y10_8, Y10_9⟩ := bf10 BK101.out); (go_wp2); (repeat (go_quiet (fail); try go_wp2)); (go_ret); (exact ⟨by first | rfl | (simp [errW_none, errW_some] <;> rfl) | (simp [*, errW_none, errW_some] <;> rfl), by repeat (first | (with_reducible first | exact HB.out | apply below_alloc | apply pw_below_drewN | apply below_drew1 | refine below_set ?_ GE101.out) | exact HB.out)⟩)
            · (rw [if_neg c9] at H); (have c9b0 : decide ((l0_8.length : Int) ≤ 1100) = false := decide_eq_false c9); (have c9b1 : decide (l0_8.length ≤ 1100) = false := decide_eq_false (by omega)); (clear c9); (obtain rfl := Option.some.inj H); (obtain ⟨Z11_0, Z11_1, Z11_2, Z11_3, Z11_4, Z11_5, Z11_6, Z11_7, Z11_8, Z11_9⟩ := bc10 BK101.out); (obtain ⟨Y11_0, Y11_1, Y11_2, Y11_3, Y11_4, Y11_5, Y11_6, Y11_7, Y11_8, Y11_9⟩ := bf10 BK101.out); (go_wp2); (repeat (go_quiet (fail); try go_wp2)); (go_ret); (exact ⟨by first | rfl | (simp [errW_none, errW_some] <;> rfl) | (simp [*, errW_none, errW_some] <;> rfl), by repeat (first | (with_reducible first | exact HB.out | apply below_alloc | apply pw_below_drewN | apply below_drew1 | refine below_set ?_ GE101.out) | exact HB.out)⟩)
          · (rw [if_neg c8] at H); (have c8b0 : decide ((l0_9.length : Int) ≤ 60) = false := decide_eq_false c8); (have c8b1 : decide (l0_9.length ≤ 60) = false := decide_eq_false (by omega)); (clear c8); (obtain rfl := Option.some.inj H); (obtain ⟨Z12_0, Z12_1, Z12_2, Z12_3, Z12_4, Z12_5, Z12_6, Z12_7, Z12_8, Z12_9⟩ := bc10 BK101.out); (obtain ⟨Y12_0, Y12_1, Y12_2, Y12_3, Y12_4, Y12_5, Y12_6, Y12_7, Y12_8, Y12_9⟩ := bf10 BK101.out); (go_wp2); (repeat (go_quiet (fail); try go_wp2)); (go_ret); (exact ⟨by first | rfl | (simp [errW_none, errW_some] <;> rfl) | (simp [*, errW_none, errW_some] <;> rfl), by repeat (first | (with_reducible first | exact HB.out | apply below_alloc | apply pw_below_drewN | apply below_drew1 | refine below_set ?_ GE101.out) | exact HB.out)⟩)
      · (rw [if_neg c4] at H); (have c4b0 : decide (x4_1 < (l0_9.length : Int)) = false := decide_eq_false c4); (clear c4); (by_cases c13 : (l0_9.length : Int) ≤ 60)
        · (rw [if_pos c13] at H); (have c13b0 : decide ((l0_9.length : Int) ≤ 60) = true := decide_eq_true c13); (have c13b1 : decide (l0_9.length ≤ 60) = true := decide_eq_true (by omega)); (clear c13); (by_cases c14 : (l0_8.length : Int) ≤ 1100)
          · (rw [if_pos c14] at H); (have c14b0 : decide ((l0_8.length : Int) ≤ 1100) = true := decide_eq_true c14); (have c14b1 : decide (l0_8.length ≤ 1100) = true := decide_eq_true (by omega)); (clear c14); (obtain rfl := Option.some.inj H); (obtain ⟨Z15_0, Z15_1, Z15_2, Z15_3, Z15_4, Z15_5, Z15_6, Z15_7, Z15_8, Z15_9⟩ := bc10 BK101.out); (obtain ⟨Y15_0, Y15_1, Y15_2, Y15_3, Y15_4, Y15_5, Y15_6, Y15_7, Y15_8, Y15_9⟩ := bf10 BK101.out); (go_wp2); (repeat (go_quiet (fail); try go_wp2)); (go_ret); (exact ⟨by first | rfl | (simp [errW_none, errW_some] <;> rfl) | (simp [*, errW_none, errW_some] <;> rfl), by repeat (first | (with_reducible first | exact HB.out | apply below_alloc | apply pw_below_drewN | apply below_drew1 | refine below_set ?_ GE101.out) | exact HB.out)⟩)
          · (rw [if_neg c14] at H); (have c14b0 : decide ((l0_8.length : Int) ≤ 1100) = false := decide_eq_false c14); (have c14b1 : decide (l0_8.length ≤ 1100) = false := decide_eq_false (by omega)); (clear c14); (obtain rfl := Option.some.inj H); (obtain ⟨Z16_0, Z16_1, Z16_2, Z16_3, Z16_4, Z16_5, Z16_6, Z16_7, Z16_8, Z16_9⟩ := bc10 BK101.out); (obtain ⟨Y16_0, Y16_1, Y16_2, Y16_3, Y16_4, Y16_5, Y16_6, Y16_7, Y16_8, Y16_9⟩ := bf10 BK101.out); (go_wp2); (repeat (go_quiet (fail); try go_wp2)); (go_ret); (exact ⟨by first | rfl | (simp [errW_none, errW_some] <;> rfl) | (simp [*, errW_none, errW_some] <;> rfl), by repeat (first | (with_reducible first | exact HB.out | apply below_alloc | apply pw_below_drewN | apply below_drew1 | refine below_set ?_ GE101.out) | exact HB.out)⟩)
        · (rw [if_neg c13] at H); (have c13b0 : decide ((l0_9.length : Int) ≤ 60) = false := decide_eq_false c13); (have c13b1 : decide (l0_9.length ≤ 60) = false := decide_eq_false (by omega)); (clear c13); (obtain rfl := Option.some.inj H); (obtain ⟨Z17_0, Z17_1, Z17_2, Z17_3, Z17_4, Z17_5, Z17_6, Z17_7, Z17_8, Z17_9⟩ := bc10 BK101.out); (obtain ⟨Y17_0, Y17_1, Y17_2, Y17_3, Y17_4, Y17_5, Y17_6, Y17_7, Y17_8, Y17_9⟩ := bf10 BK101.out); (go_wp2); (repeat (go_quiet (fail); try go_wp2)); (go_ret); (exact ⟨by first | rfl | (simp [errW_none, errW_some] <;> rfl) | (simp [*, errW_none, errW_some] <;> rfl), by repeat (first | (with_reducible first | exact HB.out | apply below_alloc | apply pw_below_drewN | apply below_drew1 | refine below_set ?_ GE101.out) | exact HB.out)⟩)

/-! ### api_Errno: function 13 -/
def api_Errno.l0 : Nat → Int → List Int → Int → Int → Option (Bool)
  | 0, _, _, _, _ => none
  | k + 1, x0, x7, x8, x9 => if x9 < x8 then (if 0 ≤ x9 then (if x9 < (x7.length : Int) then (if (rd x7 x9) = x0 then (api_Errno.l0 k x0 x7 x8 (wrap64 (x9 + 1))) else (some false)) else (none)) else (none)) else (some true)
def api_Errno.f (k : Nat) (a0 : Int) (l1 : List Int) : Option (Bool) := api_Errno.l0 k a0 l1 (l1.length : Int) 0
theorem api_Errno.mono_l : ∀ k, (∀ y0 y1 y2 y3, LeO (api_Errno.l0 k y0 y1 y2 y3) (api_Errno.l0 (k + 1) y0 y1 y2 y3))
  | 0 => fun _ _ _ _ r h => by simp [api_Errno.l0] at h
  | k + 1 => by
    have ih0 := api_Errno.mono_l k
    · intro y0 y1 y2 y3
      unfold api_Errno.l0
      repeat' first
      | (with_reducible exact ih0 _ _ _ _)
      | (with_reducible exact LeO.refl _)
      | (with_reducible exact LeO.none _)
      | (with_reducible refine LeO.ite ?_ ?_)
      | (with_reducible refine LeO.bind ?_ (fun _ => ?_))
      | exact ih0 _ _ _ _
      | exact LeO.none _
      | refine LeO.ite ?_ ?_
      | refine LeO.bind ?_ (fun _ => ?_)
theorem api_Errno.mono : ∀ a0 a1 k, LeO (api_Errno.f k a0 a1) (api_Errno.f (k + 1) a0 a1) := by
  intro a0 a1 k
  have ih0 := api_Errno.mono_l k
  unfold api_Errno.f
  repeat' first
      | (with_reducible exact ih0 _ _ _ _)
      | (with_reducible exact LeO.refl _)
      | (with_reducible exact LeO.none _)
      | (with_reducible refine LeO.ite ?_ ?_)
      | (with_reducible refine LeO.bind ?_ (fun _ => ?_))
      | exact ih0 _ _ _ _
      | exact LeO.none _
      | refine LeO.ite ?_ ?_
      | refine LeO.bind ?_ (fun _ => ?_)
set_option maxHeartbeats 8000000 in
set_option maxRecDepth 100000 in
theorem api_Errno.calls (k : Nat) (a0 : Int) (A1 : Option Addr) (c1 : Nat) (l1 : List Int) (r : Bool) (w : World) (hr1 : Kd.C (Kd.int .i64) w A1 l1.length l1) (hc1 : l1.length ≤ c1) (h : api_Errno.f k a0 l1 = some r) :
    Calls Try.prog 13 #[.int .i64 a0, .slice A1 l1.length c1] w fun e w' => e = .returned (.bool r) ∧ Drawn0 w w' := by
  (have HR1 := Aside0.mk hr1); (have HC1 := Aside0.mk hc1); (clear hr1 hc1); (have H : (api_Errno.l0 k a0 l1 (l1.length : Int) 0) = some r := h); (clear h); (have H' := Aside0.mk H); (clear H); (go_enter Try.func13, Try.ntmps13); (go_wp2); (go_loopg [9] k (fun kq v9 w' => ∃ (x9_1 : Int), v9 = .int .i64 x9_1 ∧ Aside0 (api_Errno.l0 kq a0 l1 (l1.length : Int) x9_1 = some r) ∧ Aside0 (kq ≤ k) ∧ Drawn0 w w'))
  case atStart => exact ⟨(0), (by first | rfl | (simp; done) | (simp [*]; done)), H', ⟨Nat.le_refl _⟩, by repeat (first | exact Drawn0.refl _ | apply Drawn0.step)⟩
  case round =>
    (clear H'); (try clear c1); (try clear p2); (obtain ⟨x9_1, rfl, HA, HK1, ⟨m1, rfl⟩⟩ := hrel)
    cases gk with
    | zero => exact absurd HA.out (by simp [api_Errno.l0])
    | succ k1 =>
      (have H := HA.out); (clear HA); (simp only [api_Errno.l0] at H); (by_cases c3 : x9_1 < (l1.length : Int))
      · (rw [if_pos c3] at H); (have c3b0 : decide (x9_1 < (l1.length : Int)) = true := decide_eq_true c3); (clear c3); (by_cases c4 : 0 ≤ x9_1)
        · (rw [if_pos c4] at H); (have c4b0 : decide (0 ≤ x9_1) = true := decide_eq_true c4); (clear c4); (by_cases c5 : x9_1 < (l1.length : Int))
          · (rw [if_pos c5] at H); (have c5b0 : decide (x9_1 < (l1.length : Int)) = true := decide_eq_true c5); (clear c5); (by_cases c6 : (rd l1 x9_1) = a0)
            · (rw [if_pos c6] at H); (have c6b0 : ((rd l1 x9_1) == a0) = true := beq_iff_eq.mpr c6); (have c6b1 : ((rd l1 x9_1) != a0) = false := bne_eq_false_iff_eq.mpr c6); (clear c6); (have H' := Aside0.mk H); (clear H); (have p104 : 0 ≤ (x9_1 : Int) := of_decide_eq_true (by first | (with_reducible assumption) | assumption)); (have q104 : x9_1 < (l1.length : Int) := of_decide_eq_true (by first | (with_reducible assumption) | assumption)); (obtain ⟨ad104, e104, hx104_0⟩ := Kd.at_int HR1.out x9_1 p104 q104); (cases e104); (replace p104 := eq_true p104); (replace q104 := eq_true q104); (go_wp2); (go_roundg k1)
              case measure => have := HK1.out; omega
              case rel => exact ⟨(wrap64 (x9_1 + 1)), (by first | rfl | (simp; done) | (simp [*]; done)), H', ⟨by have := HK1.out; omega⟩, by repeat (first | exact Drawn0.refl _ | apply Drawn0.step)⟩
            · (rw [if_neg c6] at H); (have c6b0 : ((rd l1 x9_1) == a0) = false := beq_eq_false_iff_ne.mpr c6); (have c6b1 : ((rd l1 x9_1) != a0) = true := bne_iff_ne.mpr c6); (obtain rfl := Option.some.inj H); (have p104 : 0 ≤ (x9_1 : Int) := of_decide_eq_true (by first | (with_reducible assumption) | assumption)); (have q104 : x9_1 < (l1.length : Int) := of_decide_eq_true (by first | (with_reducible assumption) | assumption)); (obtain ⟨ad104, e104, hx104_0⟩ := Kd.at_int HR1.out x9_1 p104 q104); (cases e104); (replace p104 := eq_true p104); (replace q104 := eq_true q104); (go_wp2); (go_ret); (exact ⟨by first | rfl | (simp; done) | (simp [*]; done), by repeat (first | exact Drawn0.refl _ | apply Drawn0.step)⟩)
          · (rw [if_neg c5] at H); (exact absurd H (by simp))
        · (rw [if_neg c4] at H); (exact absurd H (by simp))
      · (rw [if_neg c3] at H); (have c3b0 : decide (x9_1 < (l1.length : Int)) = false := decide_eq_false c3); (clear c3); (obtain rfl := Option.some.inj H); (go_wp2); (go_ret); (exact ⟨by first | rfl | (simp; done) | (simp [*]; done), by repeat (first | exact Drawn0.refl _ | apply Drawn0.step)⟩)

/-! ### span_Right: function 28 -/
mutual
def span_Right.j0 : Nat → Bool → ByteArray → ByteArray → Bool → Option (Bool)
  | 0, _, _, _, _ => none
  | k + 1, x3, x106000, x106001, x106002 => if x3 = true then (some false) else (if x106002 = true then (span_Right.j1 k (!(Op.bytesLess x106000.toList x106001.toList)) x106000 x106001 x106002) else (span_Right.j1 k false x106000 x106001 x106002))
def span_Right.j1 : Nat → Bool → ByteArray → ByteArray → Bool → Option (Bool)
  | 0, _, _, _, _ => none
  | k + 1, x14, x106000, x106001, x106002 => if x14 = true then (some false) else (if x106002 = true then (some true) else (if x106001.toList = ([] : List UInt8) then (some true) else (some false)))
end
def span_Right.f (k : Nat) (a0_0 : ByteArray) (a0_1 : ByteArray) (a0_2 : Bool) : Option (Bool) := if (a0_0.size : Int) > 513 then (span_Right.j0 k true a0_0 a0_1 a0_2) else (span_Right.j0 k (decide ((a0_1.size : Int) > 513)) a0_0 a0_1 a0_2)
theorem span_Right.mono_l : ∀ k, (∀ y0 y1 y2 y3, LeO (span_Right.j0 k y0 y1 y2 y3) (span_Right.j0 (k + 1) y0 y1 y2 y3)) ∧ (∀ y0 y1 y2 y3, LeO (span_Right.j1 k y0 y1 y2 y3) (span_Right.j1 (k + 1) y0 y1 y2 y3))
  | 0 => ⟨fun _ _ _ _ r h => by simp [span_Right.j0] at h, fun _ _ _ _ r h => by simp [span_Right.j1] at h⟩
  | k + 1 => by
    obtain ⟨ih0, ih1⟩ := span_Right.mono_l k
    refine ⟨?_, ?_⟩
    · intro y0 y1 y2 y3
      unfold span_Right.j0
      repeat' first
      | (with_reducible exact ih0 _ _ _ _)
      | (with_reducible exact ih1 _ _ _ _)
      | (with_reducible exact LeO.refl _)
      | (with_reducible exact LeO.none _)
      | (with_reducible refine LeO.ite ?_ ?_)
      | (with_reducible refine LeO.bind ?_ (fun _ => ?_))
      | exact ih0 _ _ _ _
      | exact ih1 _ _ _ _
      | exact LeO.none _
      | refine LeO.ite ?_ ?_
      | refine LeO.bind ?_ (fun _ => ?_)
    · intro y0 y1 y2 y3
      unfold span_Right.j1
      repeat' first
      | (with_reducible exact ih0 _ _ _ _)
      | (with_reducible exact ih1 _ _ _ _)
      | (with_reducible exact LeO.refl _)
      | (with_reducible exact LeO.none _)
      | (with_reducible refine LeO.ite ?_ ?_)
      | (with_reducible refine LeO.bind ?_ (fun _ => ?_))
      | exact ih0 _ _ _ _
      | exact ih1 _ _ _ _
      | exact LeO.none _
      | refine LeO.ite ?_ ?_
      | refine LeO.bind ?_ (fun _ => ?_)
theorem span_Right.mono : ∀ a0 a1 a2 k, LeO (span_Right.f k a0 a1 a2) (span_Right.f (k + 1) a0 a1 a2) := by
  intro a0 a1 a2 k
  obtain ⟨ih0, ih1⟩ := span_Right.mono_l k
  unfold span_Right.f
  repeat' first
      | (with_reducible exact ih0 _ _ _ _)
      | (with_reducible exact ih1 _ _ _ _)
      | (with_reducible exact LeO.refl _)
      | (with_reducible exact LeO.none _)
      | (with_reducible refine LeO.ite ?_ ?_)
      | (with_reducible refine LeO.bind ?_ (fun _ => ?_))
      | exact ih0 _ _ _ _
      | exact ih1 _ _ _ _
      | exact LeO.none _
      | refine LeO.ite ?_ ?_
      | refine LeO.bind ?_ (fun _ => ?_)
set_option maxHeartbeats 8000000 in
set_option maxRecDepth 100000 in
theorem span_Right.calls (k : Nat) (a0_0 : ByteArray) (a0_1 : ByteArray) (a0_2 : Bool) (r : Bool) (w : World) (h : span_Right.f k a0_0 a0_1 a0_2 = some r) :
    Calls Try.prog 28 #[.agg #[.string a0_0, .string a0_1, .bool a0_2]] w fun e w' => e = .returned (.bool r) ∧ Below w.heap.size w w' := by
  (have hu66 := Try.underlying66); (have HB := Aside0.mk (Below.refl w.heap.size w)); (have H : (if (a0_0.size : Int) > 513 then (span_Right.j0 k true a0_0 a0_1 a0_2) else (span_Right.j0 k (decide ((a0_1.size : Int) > 513)) a0_0 a0_1 a0_2)) = some r := h); (clear h); (have HC2 := Aside0.mk H); (clear H); (go_enter Try.func28, Try.ntmps28); (go_upto_region 1 with (first | ((with_reducible refine gate_dst (N := 1) rfl ?_); (try (refine gate_guard (by rfl) ?_; dsimp only)); refine box_event ?hg (N := 1) ?hd (cs := #[.string a0_0, .string a0_1, .bool a0_2]) (t := 66) ?hr ?_; (case hd => rfl); (case hg => rfl); (case hr => first | (go_simp; done) | (go_simp; rfl)); intro gb105 hg w3 hbox hb; have BK105 := Aside0.mk (hbox); have GW105 := Aside0.mk ((by rw [hg]; exact (below_size (mvW HB.out)) : w.heap.size ≤ gb105)); have GE105 := Aside0.mk ((by rw [hg]; exact (below_size (mvW HB.out)) : w.heap.size ≤ gb105)); replace HB := Aside0.mk (below_step (mvW HB.out) hb); clear hb hbox hg))); ((try simp only [Act.put, List.setIfInBounds_toArray, List.set_cons_zero, List.set_cons_succ])); (go_cut [3] (fun v3 wc => ∃ (kq : Nat) (x3_1 : Bool), v3 = .bool x3_1 ∧ Aside0 (span_Right.j0 kq x3_1 a0_0 a0_1 a0_2 = some r) ∧ Aside0 (kq ≤ k) ∧ Aside0 (wc.heap[gb105]? = some (.cells #[.string a0_0, .string a0_1, .bool a0_2] 66 (0, 0))) ∧ Aside0 (Below w.heap.size w wc)))
  case first =>
    (have H := HC2.out); (clear HC2); (by_cases c4 : (a0_0.size : Int) > 513)
    · (rw [if_pos c4] at H); (have c4b0 : decide (513 < (a0_0.size : Int)) = true := decide_eq_true c4); (have c4b1 : decide (513 < a0_0.size) = true := decide_eq_true (by omega)); (clear c4); ((first | rw [c4b0] | (simp only [i64_w, i32_w]; rw [c4b0]) | skip)); (have H' := Aside0.mk H); (clear H); (obtain ⟨Z5_0, Z5_1, Z5_2⟩ := bc3 BK105.out); (obtain ⟨Y5_0, Y5_1, Y5_2⟩ := bf3 BK105.out); (go_wp2); (go_meet)
      case rel => exact ⟨_, (true), (by first | rfl | (simp; done) | (simp [*]; done)), H', ⟨by first | omega | exact Nat.le_refl _⟩, ⟨mvB BK105.out⟩, ⟨mvW HB.out⟩⟩
    · (rw [if_neg c4] at H); (have c4b0 : decide (513 < (a0_0.size : Int)) = false := decide_eq_false c4); (have c4b1 : decide (513 < a0_0.size) = false := decide_eq_false (by omega)); (clear c4); ((first | rw [c4b0] | (simp only [i64_w, i32_w]; rw [c4b0]) | skip)); (have H' := Aside0.mk H); (clear H); (obtain ⟨Z6_0, Z6_1, Z6_2⟩ := bc3 BK105.out); (obtain ⟨Y6_0, Y6_1, Y6_2⟩ := bf3 BK105.out); (go_wp2); (go_meet)
      case rel => exact ⟨_, (decide ((a0_1.size : Int) > 513)), (by first | rfl | (simp; done) | (simp [*]; done)), H', ⟨by first | omega | exact Nat.le_refl _⟩, ⟨mvB BK105.out⟩, ⟨mvW HB.out⟩⟩
  case rest =>
    (clear HC2); (try clear c2); (try clear p2); (try clear c4); (try clear c4b0); (try clear c4b1); (try clear Z5_0 Z5_1 Z5_2); (try clear Z6_0 Z6_1 Z6_2); (try clear Y5_0 Y5_1 Y5_2); (try clear Y6_0 Y6_1 Y6_2); (obtain ⟨kq, x3_1, rfl, HA, HJ1, BK105, HB⟩ := hcut)
    cases kq with
    | zero => exact absurd HA.out (by simp [span_Right.j0])
    | succ kj1 =>
      (have H := HA.out); (clear HA); (simp only [span_Right.j0] at H); (by_cases c7 : x3_1 = true)
      · (subst c7); (have H1 : (some false) = some r := by rw [if_pos rfl] at H; exact H); (clear H); (have H := H1); (clear H1); (obtain rfl := Option.some.inj H); (go_wp2); (go_ret); (exact ⟨by first | rfl | (simp [errW_none, errW_some] <;> rfl) | (simp [*, errW_none, errW_some] <;> rfl), by repeat (first | (with_reducible first | exact HB.out | apply below_alloc | apply pw_below_drewN | apply below_drew1 | refine below_set ?_ GE105.out) | exact HB.out)⟩)
      · (replace c7 := Bool.eq_false_iff.mpr c7); (subst c7); (have H1 : (if a0_2 = true then (span_Right.j1 kj1 (!(Op.bytesLess a0_0.toList a0_1.toList)) a0_0 a0_1 a0_2) else (span_Right.j1 kj1 false a0_0 a0_1 a0_2)) = some r := by rw [if_neg (show ¬ (false = true) by decide)] at H; exact H); (clear H); (have H := H1); (clear H1); (have HC8 := Aside0.mk H); (clear H); (go_upto_region 2 with (fail)); (go_cut [14] (fun v14 wc => ∃ (kq : Nat) (x14_7 : Bool), v14 = .bool x14_7 ∧ Aside0 (span_Right.j1 kq x14_7 a0_0 a0_1 a0_2 = some r) ∧ Aside0 (kq ≤ kj1) ∧ Aside0 (wc.heap[gb105]? = some (.cells #[.string a0_0, .string a0_1, .bool a0_2] 66 (0, 0))) ∧ Aside0 (Below w.heap.size w wc)))
        case first =>
          (have H := HC8.out); (clear HC8); (by_cases c9 : a0_2 = true)
          · (subst c9); (have H1 : (span_Right.j1 kj1 (!(Op.bytesLess a0_0.toList a0_1.toList)) a0_0 a0_1 true) = some r := by rw [if_pos rfl] at H; exact H); (clear H); (have H := H1); (clear H1); (have H' := Aside0.mk H); (clear H); (obtain ⟨Z10_0, Z10_1, Z10_2⟩ := bc3 BK105.out); (obtain ⟨Y10_0, Y10_1, Y10_2⟩ := bf3 BK105.out); (go_wp2); (go_meet)
            case rel => exact ⟨_, (!(Op.bytesLess a0_0.toList a0_1.toList)), (by first | rfl | (simp; done) | (simp [*]; done)), H', ⟨by have := HJ1.out; first | omega | exact Nat.le_refl _⟩, ⟨mvB BK105.out⟩, ⟨mvW HB.out⟩⟩
          · (replace c9 := Bool.eq_false_iff.mpr c9); (subst c9); (have H1 : (span_Right.j1 kj1 false a0_0 a0_1 false) = some r := by rw [if_neg (show ¬ (false = true) by decide)] at H; exact H); (clear H); (have H := H1); (clear H1); (have H' := Aside0.mk H); (clear H); (obtain ⟨Z11_0, Z11_1, Z11_2⟩ := bc3 BK105.out); (obtain ⟨Y11_0, Y11_1, Y11_2⟩ := bf3 BK105.out); (go_wp2); (go_meet)
            case rel => exact ⟨_, (false), (by first | rfl | (simp; done) | (simp [*]; done)), H', ⟨by have := HJ1.out; first | omega | exact Nat.le_refl _⟩, ⟨mvB BK105.out⟩, ⟨mvW HB.out⟩⟩
        case rest =>
          (clear HC8); (try clear c2); (try clear p2); (try clear c4); (try clear c4b0); (try clear c4b1); (try clear c7); (try clear c9); (try clear Z10_0 Z10_1 Z10_2); (try clear Z11_0 Z11_1 Z11_2); (try clear Z5_0 Z5_1 Z5_2); (try clear Z6_0 Z6_1 Z6_2); (try clear Y10_0 Y10_1 Y10_2); (try clear Y11_0 Y11_1 Y11_2); (try clear Y5_0 Y5_1 Y5_2); (try clear Y6_0 Y6_1 Y6_2); (try clear p2); (obtain ⟨kq, x14_7, rfl, HA, HJ7, BK105, HB⟩ := hcut)
          cases kq with
          | zero => exact absurd HA.out (by simp [span_Right.j1])
          | succ kj7 =>
            (have H := HA.out); (clear HA); (simp only [span_Right.j1] at H); (by_cases c12 : x14_7 = true)
            · (subst c12); (have H1 : (some false) = some r := by rw [if_pos rfl] at H; exact H); (clear H); (have H := H1); (clear H1); (obtain rfl := Option.some.inj H); (go_wp2); (go_ret); (exact ⟨by first | rfl | (simp [errW_none, errW_some] <;> rfl) | (simp [*, errW_none, errW_some] <;> rfl), by repeat (first | (with_reducible first | exact HB.out | apply below_alloc | apply pw_below_drewN | apply below_drew1 | refine below_set ?_ GE105.out) | exact HB.out)⟩)
            · (replace c12 := Bool.eq_false_iff.mpr c12); (subst c12); (have H1 : (if a0_2 = true then (some true) else (if a0_1.toList = ([] : List UInt8) then (some true) else (some false))) = some r := by rw [if_neg (show ¬ (false = true) by decide)] at H; exact H); (clear H); (have H := H1); (clear H1); (by_cases c13 : a0_2 = true)
              · (subst c13); (have H1 : (some true) = some r := by rw [if_pos rfl] at H; exact H); (clear H); (have H := H1); (clear H1); (obtain rfl := Option.some.inj H); (obtain ⟨Z14_0, Z14_1, Z14_2⟩ := bc3 BK105.out); (obtain ⟨Y14_0, Y14_1, Y14_2⟩ := bf3 BK105.out); (go_wp2); (go_ret); (exact ⟨by first | rfl | (simp [errW_none, errW_some] <;> rfl) | (simp [*, errW_none, errW_some] <;> rfl), by repeat (first | (with_reducible first | exact HB.out | apply below_alloc | apply pw_below_drewN | apply below_drew1 | refine below_set ?_ GE105.out) | exact HB.out)⟩)
              · (replace c13 := Bool.eq_false_iff.mpr c13); (subst c13); (have H1 : (if a0_1.toList = ([] : List UInt8) then (some true) else (some false)) = some r := by rw [if_neg (show ¬ (false = true) by decide)] at H; exact H); (clear H); (have H := H1); (clear H1); (by_cases c15 : a0_1.toList = ([] : List UInt8))
                · (rw [if_pos c15] at H); (have c15b0 : (a0_1.toList == ([] : List UInt8)) = true := beq_iff_eq.mpr c15); (have c15b1 : (a0_1.toList != ([] : List UInt8)) = false := bne_eq_false_iff_eq.mpr c15); (clear c15); (obtain rfl := Option.some.inj H); (obtain ⟨Z16_0, Z16_1, Z16_2⟩ := bc3 BK105.out); (obtain ⟨Y16_0, Y16_1, Y16_2⟩ := bf3 BK105.out); (go_wp2); (go_ret); (exact ⟨by first | rfl | (simp [errW_none, errW_some] <;> rfl) | (simp [*, errW_none, errW_some] <;> rfl), by repeat (first | (with_reducible first | exact HB.out | apply below_alloc | apply pw_below_drewN | apply below_drew1 | refine below_set ?_ GE105.out) | exact HB.out)⟩)
                · (rw [if_neg c15] at H); (have c15b0 : (a0_1.toList == ([] : List UInt8)) = false := beq_eq_false_iff_ne.mpr c15); (have c15b1 : (a0_1.toList != ([] : List UInt8)) = true := bne_iff_ne.mpr c15); (obtain rfl := Option.some.inj H); (obtain ⟨Z17_0, Z17_1, Z17_2⟩ := bc3 BK105.out); (obtain ⟨Y17_0, Y17_1, Y17_2⟩ := bf3 BK105.out); (go_wp2); (go_ret); (exact ⟨by first | rfl | (simp [errW_none, errW_some] <;> rfl) | (simp [*, errW_none, errW_some] <;> rfl), by repeat (first | (with_reducible first | exact HB.out | apply below_alloc | apply pw_below_drewN | apply below_drew1 | refine below_set ?_ GE105.out) | exact HB.out)⟩)

/-! ### page_Range: function 29 -/
def page_Range.f (a0_0 : Int) (a0_1 : Int) (a0_2 : Int) (a0_3 : ByteArray) (a0_4 : ByteArray) (a0_5 : Bool) (a0_6 : Int) (a0_7 : Int) (l0_8 : List Int) (l0_9 : List (S42)) : Option (ByteArray × ByteArray × Bool) := some (a0_3, a0_4, a0_5)
set_option maxHeartbeats 8000000 in
set_option maxRecDepth 100000 in
theorem page_Range.calls (a0_0 : Int) (a0_1 : Int) (a0_2 : Int) (a0_3 : ByteArray) (a0_4 : ByteArray) (a0_5 : Bool) (a0_6 : Int) (a0_7 : Int) (A0_8 : Option Addr) (c0_8 : Nat) (l0_8 : List Int) (A0_9 : Option Addr) (c0_9 : Nat) (l0_9 : List (S42)) (r1 : ByteArray) (r2 : ByteArray) (r3 : Bool) (w : World) (hr0_8 : Kd.C (Kd.int .u64) w A0_8 l0_8.length l0_8) (hc0_8 : l0_8.length ≤ c0_8) (hr0_9 : Kd.C k42 w A0_9 l0_9.length l0_9) (hc0_9 : l0_9.length ≤ c0_9) (h : page_Range.f a0_0 a0_1 a0_2 a0_3 a0_4 a0_5 a0_6 a0_7 l0_8 l0_9 = some (r1, r2, r3)) :
    Calls Try.prog 29 #[.agg #[.int .u64 a0_0, .int .u64 a0_1, .int .u8 a0_2, .string a0_3, .string a0_4, .bool a0_5, .int .u64 a0_6, .int .u64 a0_7, .slice A0_8 l0_8.length c0_8, .slice A0_9 l0_9.length c0_9]] w fun e w' => e = .returned (.agg #[.string r1, .string r2, .bool r3]) ∧ Below w.heap.size w w' := by
  (have hu28 := Try.underlying28); (have hu66 := Try.underlying66); (have HR0_8 := Aside0.mk hr0_8); (have HC0_8 := Aside0.mk hc0_8); (clear hr0_8 hc0_8); (have HR0_9 := Aside0.mk hr0_9); (have HC0_9 := Aside0.mk hc0_9); (clear hr0_9 hc0_9); (have HB := Aside0.mk (Below.refl w.heap.size w)); (have H : (some (a0_3, a0_4, a0_5)) = some (r1, r2, r3) := h); (clear h); (simp only [Option.some.injEq, Prod.mk.injEq] at H); (obtain ⟨rfl, rfl, rfl⟩ := H); (go_enter Try.func29, Try.ntmps29); (go_wp2_with (first | ((with_reducible refine gate_dst (N := 1) rfl ?_); refine box_event ?hg (N := 1) ?hd (cs := #[.int .u64 a0_0, .int .u64 a0_1, .int .u8 a0_2, .string a0_3, .string a0_4, .bool a0_5, .int .u64 a0_6, .int .u64 a0_7, .slice A0_8 l0_8.length c0_8, .slice A0_9 l0_9.length c0_9]) (t := 28) ?hr ?_; (case hd => rfl); (case hg => rfl); (case hr => first | (go_simp; done) | (go_simp; rfl)); intro gb106 hg w2 hbox hb; have BK106 := Aside0.mk (hbox); have GW106 := Aside0.mk ((by rw [hg]; exact (below_size (mvW HB.out)) : w.heap.size ≤ gb106)); have GE106 := Aside0.mk ((by rw [hg]; exact (below_size (mvW HB.out)) : w.heap.size ≤ gb106)); replace HB := Aside0.mk (below_step (mvW HB.out) hb); clear hb hbox hg) | ((with_reducible refine gate_dst (N := 2) rfl ?_); refine box_event ?hg (N := 2) ?hd (cs := #[.string (⟨#[]⟩ : ByteArray), .string (⟨#[]⟩ : ByteArray), .bool false]) (t := 66) ?hr ?_; (case hd => rfl); (case hg => rfl); (case hr => first | (go_simp; done) | (go_simp; rfl)); intro gb107 hg w3 hbox hb; have BK107 := Aside0.mk (hbox); have GW107 := Aside0.mk ((by rw [hg]; exact (below_size (mvW HB.out)) : w.heap.size ≤ gb107)); have GE107 := Aside0.mk ((by rw [hg]; exact (below_size (mvW HB.out)) : w.heap.size ≤ gb107)); replace HB := Aside0.mk (below_step (mvW HB.out) hb); have NB106_107 := Aside0.mk ((by rw [hg]; exact Nat.ne_of_lt (blk_lt (mvB BK106.out)) : gb106 ≠ gb107)); have NB107_106 := Aside0.mk ((by rw [hg]; exact Nat.ne_of_gt (blk_lt (mvB BK106.out)) : gb107 ≠ gb106)); replace BK106 := Aside0.mk (blk_below (mvB BK106.out) hb); clear hb hbox hg; have hnb4 := NB106_107.out; have hnc4 := NB107_106.out; obtain ⟨Z5_0, Z5_1, Z5_2, Z5_3, Z5_4, Z5_5, Z5_6, Z5_7, Z5_8, Z5_9⟩ := bc10 BK106.out; obtain ⟨Y5_0, Y5_1, Y5_2, Y5_3, Y5_4, Y5_5, Y5_6, Y5_7, Y5_8, Y5_9⟩ := bf10 BK106.out; obtain ⟨Z6_0, Z6_1, Z6_2⟩ := bc3 BK107.out; obtain ⟨Y6_0, Y6_1, Y6_2⟩ := bf3 BK107.out))); (refine bodyPost_ret (results_cell_row rfl _ _ gb107 66 #[.string a0_3, .string a0_4, .bool a0_5] (0, 0) _ rfl (by (with_reducible repeat (first | refine blk_drewN ?_ _ | refine blk_drew ?_ | refine blk_alloc ?_ _)); refine blk_put (cs := #[.string a0_3, .string a0_4, .bool false]) ?_ 2 _ rfl; (with_reducible repeat (first | refine blk_drewN ?_ _ | refine blk_drew ?_ | refine blk_alloc ?_ _)); refine blk_put (cs := #[.string a0_3, .string (⟨#[]⟩ : ByteArray), .bool false]) ?_ 1 _ rfl; (with_reducible repeat (first | refine blk_drewN ?_ _ | refine blk_drew ?_ | refine blk_alloc ?_ _)); refine blk_put (cs := #[.string (⟨#[]⟩ : ByteArray), .string (⟨#[]⟩ : ByteArray), .bool false]) ?_ 0 _ rfl; (with_reducible repeat (first | refine blk_drewN ?_ _ | refine blk_drew ?_ | refine blk_alloc ?_ _)); exact BK107.out) Try.underlying66 rfl (by kernel_rfl)) rfl ?_); (exact ⟨by first | rfl | (simp [errW_none, errW_some] <;> rfl) | (simp [*, errW_none, errW_some] <;> rfl), by repeat (first | (with_reducible first | exact HB.out | apply below_alloc | apply pw_below_drewN | apply below_drew1 | refine below_set ?_ GE106.out | refine below_set ?_ GE107.out) | exact HB.out)⟩)

/-! ### lsns_Right: function 31 -/
def lsns_Right.l0 : Nat → Int → List Int → Int → Int → Int → List Int → Option (Bool)
  | 0, _, _, _, _, _, _ => none
  | k + 1, x3, x9, x10, x11, x109000, x109001 => if x11 < x10 then (if 0 ≤ x11 then (if x11 < (x9.length : Int) then (if (rd x9 x11) ≤ x3 then (some false) else (lsns_Right.l0 k (rd x9 x11) x9 x10 (wrap64 (x11 + 1)) x109000 x109001)) else (none)) else (none)) else (some (decide ((x109001.length : Int) ≤ 1000)))
def lsns_Right.f (k : Nat) (a0_0 : Int) (l0_1 : List Int) : Option (Bool) := lsns_Right.l0 k a0_0 l0_1 (l0_1.length : Int) 0 a0_0 l0_1
theorem lsns_Right.mono_l : ∀ k, (∀ y0 y1 y2 y3 y4 y5, LeO (lsns_Right.l0 k y0 y1 y2 y3 y4 y5) (lsns_Right.l0 (k + 1) y0 y1 y2 y3 y4 y5))
  | 0 => fun _ _ _ _ _ _ r h => by simp [lsns_Right.l0] at h
  | k + 1 => by
    have ih0 := lsns_Right.mono_l k
    · intro y0 y1 y2 y3 y4 y5
      unfold lsns_Right.l0
      repeat' first
      | (with_reducible exact ih0 _ _ _ _ _ _)
      | (with_reducible exact LeO.refl _)
      | (with_reducible exact LeO.none _)
      | (with_reducible refine LeO.ite ?_ ?_)
      | (with_reducible refine LeO.bind ?_ (fun _ => ?_))
      | exact ih0 _ _ _ _ _ _
      | exact LeO.none _
      | refine LeO.ite ?_ ?_
      | refine LeO.bind ?_ (fun _ => ?_)
theorem lsns_Right.mono : ∀ a0 a1 k, LeO (lsns_Right.f k a0 a1) (lsns_Right.f (k + 1) a0 a1) := by
  intro a0 a1 k
  have ih0 := lsns_Right.mono_l k
  unfold lsns_Right.f
  repeat' first
      | (with_reducible exact ih0 _ _ _ _ _ _)
      | (with_reducible exact LeO.refl _)
      | (with_reducible exact LeO.none _)
      | (with_reducible refine LeO.ite ?_ ?_)
      | (with_reducible refine LeO.bind ?_ (fun _ => ?_))
      | exact ih0 _ _ _ _ _ _
      | exact LeO.none _
      | refine LeO.ite ?_ ?_
      | refine LeO.bind ?_ (fun _ => ?_)
set_option maxHeartbeats 8000000 in
set_option maxRecDepth 100000 in
theorem lsns_Right.calls (k : Nat) (a0_0 : Int) (A0_1 : Option Addr) (c0_1 : Nat) (l0_1 : List Int) (r : Bool) (w : World) (hr0_1 : Kd.C (Kd.int .u64) w A0_1 l0_1.length l0_1) (hc0_1 : l0_1.length ≤ c0_1) (h : lsns_Right.f k a0_0 l0_1 = some r) :
    Calls Try.prog 31 #[.agg #[.int .u64 a0_0, .slice A0_1 l0_1.length c0_1]] w fun e w' => e = .returned (.bool r) ∧ Below w.heap.size w w' := by
  (have hu25 := Try.underlying25); (have HR0_1 := Aside0.mk hr0_1); (have HC0_1 := Aside0.mk hc0_1); (clear hr0_1 hc0_1); (have HB := Aside0.mk (Below.refl w.heap.size w)); (have H : (lsns_Right.l0 k a0_0 l0_1 (l0_1.length : Int) 0 a0_0 l0_1) = some r := h); (clear h); (have H' := Aside0.mk H); (clear H); (go_enter Try.func31, Try.ntmps31); (go_wp2_with (first | ((with_reducible refine gate_dst (N := 1) rfl ?_); refine box_event ?hg (N := 1) ?hd (cs := #[.int .u64 a0_0, .slice A0_1 l0_1.length c0_1]) (t := 25) ?hr ?_; (case hd => rfl); (case hg => rfl); (case hr => first | (go_simp; done) | (go_simp; rfl)); intro gb108 hg w2 hbox hb; have BK108 := Aside0.mk (hbox); have GW108 := Aside0.mk ((by rw [hg]; exact (below_size (mvW HB.out)) : w.heap.size ≤ gb108)); have GE108 := Aside0.mk ((by rw [hg]; exact (below_size (mvW HB.out)) : w.heap.size ≤ gb108)); replace HB := Aside0.mk (below_step (mvW HB.out) hb); clear hb hbox hg; obtain ⟨Z3_0, Z3_1⟩ := bc2 BK108.out; obtain ⟨Y3_0, Y3_1⟩ := bf2 BK108.out))); (go_loopg [3, 11] k (fun kq v3 v11 w' => ∃ (x3_1 : Int) (x11_1 : Int), v3 = .int .u64 x3_1 ∧ v11 = .int .i64 x11_1 ∧ Aside0 (lsns_Right.l0 kq x3_1 l0_1 (l0_1.length : Int) x11_1 a0_0 l0_1 = some r) ∧ Aside0 (kq ≤ k) ∧ Aside0 (w'.heap[gb108]? = some (.cells #[.int .u64 a0_0, (.slice A0_1 l0_1.length c0_1)] 25 (0, 0))) ∧ Aside0 (Below w.heap.size w w')))
  case atStart => exact ⟨(a0_0), (0), (by first | rfl | (simp; done) | (simp [*]; done)), (by first | rfl | (simp; done) | (simp [*]; done)), H', ⟨Nat.le_refl _⟩, ⟨mvB BK108.out⟩, ⟨mvW HB.out⟩⟩
  case round =>
    (clear H'); (try clear p2); (try clear c3); (try clear Z3_0 Z3_1); (try clear Y3_0 Y3_1); (obtain ⟨x3_1, x11_1, rfl, rfl, HA, HK1, BK108, HB⟩ := hrel)
    cases gk with
    | zero => exact absurd HA.out (by simp [lsns_Right.l0])
    | succ k1 =>
      (have H := HA.out); (clear HA); (simp only [lsns_Right.l0] at H); (by_cases c4 : x11_1 < (l0_1.length : Int))
      · (rw [if_pos c4] at H); (have c4b0 : decide (x11_1 < (l0_1.length : Int)) = true := decide_eq_true c4); (clear c4); (by_cases c5 : 0 ≤ x11_1)
        · (rw [if_pos c5] at H); (have c5b0 : decide (0 ≤ x11_1) = true := decide_eq_true c5); (clear c5); (by_cases c6 : x11_1 < (l0_1.length : Int))
          · (rw [if_pos c6] at H); (have c6b0 : decide (x11_1 < (l0_1.length : Int)) = true := decide_eq_true c6); (clear c6); (by_cases c7 : (rd l0_1 x11_1) ≤ x3_1)
            · (rw [if_pos c7] at H); (have c7b0 : decide ((rd l0_1 x11_1) ≤ x3_1) = true := decide_eq_true c7); (clear c7); (obtain rfl := Option.some.inj H); (have p109 : 0 ≤ (x11_1 : Int) := of_decide_eq_true (by first | (with_reducible assumption) | assumption)); (have q109 : x11_1 < (l0_1.length : Int) := of_decide_eq_true (by first | (with_reducible assumption) | assumption)); (obtain ⟨ad109, e109, hx109_0⟩ := Kd.at_int HR0_1.out x11_1 p109 q109); (cases e109); (replace hx109_0 := (HB.out.cell (World.block_lt_of_cell? w _ hx109_0)).trans hx109_0); (replace p109 := eq_true p109); (replace q109 := eq_true q109); (go_wp2); (go_ret); (exact ⟨by first | rfl | (simp [errW_none, errW_some] <;> rfl) | (simp [*, errW_none, errW_some] <;> rfl), by repeat (first | (with_reducible first | exact HB.out | apply below_alloc | apply pw_below_drewN | apply below_drew1 | refine below_set ?_ GE108.out) | exact HB.out)⟩)
            · (rw [if_neg c7] at H); (have c7b0 : decide ((rd l0_1 x11_1) ≤ x3_1) = false := decide_eq_false c7); (clear c7); (have H' := Aside0.mk H); (clear H); (have p109 : 0 ≤ (x11_1 : Int) := of_decide_eq_true (by first | (with_reducible assumption) | assumption)); (have q109 : x11_1 < (l0_1.length : Int) := of_decide_eq_true (by first | (with_reducible assumption) | assumption)); (obtain ⟨ad109, e109, hx109_0⟩ := Kd.at_int HR0_1.out x11_1 p109 q109); (cases e109); (replace hx109_0 := (HB.out.cell (World.block_lt_of_cell? w _ hx109_0)).trans hx109_0); (replace p109 := eq_true p109); (replace q109 := eq_true q109); (go_wp2); (go_roundg k1)
              case measure => have := HK1.out; omega
              case rel => exact ⟨(rd l0_1 x11_1), (wrap64 (x11_1 + 1)), (by first | rfl | (simp; done) | (simp [*]; done)), (by first | rfl | (simp; done) | (simp [*]; done)), H', ⟨by have := HK1.out; omega⟩, ⟨mvB BK108.out⟩, ⟨mvW HB.out⟩⟩
          · (rw [if_neg c6] at H); (exact absurd H (by simp))
        · (rw [if_neg c5] at H); (exact absurd H (by simp))
      · (rw [if_neg c4] at H); (have c4b0 : decide (x11_1 < (l0_1.length : Int)) = false := decide_eq_false c4); (clear c4); (obtain rfl := Option.some.inj H); (obtain ⟨Z8_0, Z8_1⟩ := bc2 BK108.out); (obtain ⟨Y8_0, Y8_1⟩ := bf2 BK108.out); (go_wp2); (go_ret); (exact ⟨by first | rfl | (simp [errW_none, errW_some] <;> rfl) | (simp [*, errW_none, errW_some] <;> rfl), by repeat (first | (with_reducible first | exact HB.out | apply below_alloc | apply pw_below_drewN | apply below_drew1 | refine below_set ?_ GE108.out) | exact HB.out)⟩)

/-! ### lsns_Most: function 32 -/
def lsns_Most.f (k : Nat) (a0_0 : Int) (l0_1 : List Int) : Option (Int) := (lsns_Right.f k a0_0 l0_1).bind fun t111 => (if t111 = true then (if (l0_1.length : Int) > 0 then (if 0 ≤ (wrap64 ((l0_1.length : Int) - 1)) then (if (wrap64 ((l0_1.length : Int) - 1)) < (l0_1.length : Int) then (some (rd l0_1 (wrap64 ((l0_1.length : Int) - 1)))) else (none)) else (none)) else (some a0_0)) else (some 0))
theorem lsns_Most.mono : ∀ a0 a1 k, LeO (lsns_Most.f k a0 a1) (lsns_Most.f (k + 1) a0 a1) := by
  intro a0 a1 k
  unfold lsns_Most.f
  repeat' first
      | (with_reducible exact lsns_Right.mono _ _ _)
      | (with_reducible exact LeO.refl _)
      | (with_reducible exact LeO.none _)
      | (with_reducible refine LeO.ite ?_ ?_)
      | (with_reducible refine LeO.bind ?_ (fun _ => ?_))
      | exact lsns_Right.mono _ _ _
      | exact LeO.none _
      | refine LeO.ite ?_ ?_
      | refine LeO.bind ?_ (fun _ => ?_)
set_option maxHeartbeats 8000000 in
set_option maxRecDepth 100000 in
theorem lsns_Most.calls (k : Nat) (a0_0 : Int) (A0_1 : Option Addr) (c0_1 : Nat) (l0_1 : List Int) (r : Int) (w : World) (hr0_1 : Kd.C (Kd.int .u64) w A0_1 l0_1.length l0_1) (hc0_1 : l0_1.length ≤ c0_1) (h : lsns_Most.f k a0_0 l0_1 = some r) :
    Calls Try.prog 32 #[.agg #[.int .u64 a0_0, .slice A0_1 l0_1.length c0_1]] w fun e w' => e = .returned (.int .u64 r) ∧ Below w.heap.size w w' := by
  (have hu25 := Try.underlying25); (have HR0_1 := Aside0.mk hr0_1); (have HC0_1 := Aside0.mk hc0_1); (clear hr0_1 hc0_1); (have HB := Aside0.mk (Below.refl w.heap.size w)); (have H : ((lsns_Right.f k a0_0 l0_1).bind fun t111 => (if t111 = true then (if (l0_1.length : Int) > 0 then (if 0 ≤ (wrap64 ((l0_1.length : Int) - 1)) then (if (wrap64 ((l0_1.length : Int) - 1)) < (l0_1.length : Int) then (some (rd l0_1 (wrap64 ((l0_1.length : Int) - 1)))) else (none)) else (none)) else (some a0_0)) else (some 0))) = some r := h); (clear h); (replace H := Option.bind_eq_some_iff.mp H); (obtain ⟨t111, A20, H⟩ := H); (replace H : (if t111 = true then (if (l0_1.length : Int) > 0 then (if 0 ≤ (wrap64 ((l0_1.length : Int) - 1)) then (if (wrap64 ((l0_1.length : Int) - 1)) < (l0_1.length : Int) then (some (rd l0_1 (wrap64 ((l0_1.length : Int) - 1)))) else (none)) else (none)) else (some a0_0)) else (some 0)) = some r := H); (have A2 := Aside0.mk A20); (clear A20); (by_cases c3 : t111 = true)
  · (subst c3); (have H1 : (if (l0_1.length : Int) > 0 then (if 0 ≤ (wrap64 ((l0_1.length : Int) - 1)) then (if (wrap64 ((l0_1.length : Int) - 1)) < (l0_1.length : Int) then (some (rd l0_1 (wrap64 ((l0_1.length : Int) - 1)))) else (none)) else (none)) else (some a0_0)) = some r := by rw [if_pos rfl] at H; exact H); (clear H); (have H := H1); (clear H1); (by_cases c4 : (l0_1.length : Int) > 0)
    · (rw [if_pos c4] at H); (have c4b0 : decide (0 < (l0_1.length : Int)) = true := decide_eq_true c4); (have c4b1 : decide (0 < l0_1.length) = true := decide_eq_true (by omega)); (clear c4); (obtain ⟨ji5, hji5⟩ : ∃ j_ : Int, (wrap64 ((l0_1.length : Int) - 1)) = j_ := ⟨_, rfl⟩); (replace H : (if 0 ≤ (ji5) then (if (ji5) < (l0_1.length : Int) then (some (rd l0_1 (ji5))) else (none)) else (none)) = some r := by first | (rw [hji5] at H; exact H) | (simp only [hji5] at H ⊢; exact H)); ((try rw [hji5] at A2)); (have hji5w : (IntKind.i64.wrap ((l0_1.length : Int) - 1)) = ji5 := (i64_w _).trans hji5); (by_cases c6 : 0 ≤ (ji5))
      · (rw [if_pos c6] at H); (have c6b0 : decide (0 ≤ (ji5)) = true := decide_eq_true c6); (clear c6); (by_cases c7 : (ji5) < (l0_1.length : Int))
        · (rw [if_pos c7] at H); (have c7b0 : decide ((ji5) < (l0_1.length : Int)) = true := decide_eq_true c7); (clear c7); (obtain rfl := Option.some.inj H); (go_enter Try.func32, Try.ntmps32); (go_wp2_with (first | ((with_reducible refine gate_dst (N := 1) rfl ?_); refine box_event ?hg (N := 1) ?hd (cs := #[.int .u64 a0_0, .slice A0_1 l0_1.length c0_1]) (t := 25) ?hr ?_; (case hd => rfl); (case hg => rfl); (case hr => first | (go_simp; done) | (go_simp; rfl)); intro gb110 hg w8 hbox hb; have BK110 := Aside0.mk (hbox); have GW110 := Aside0.mk ((by rw [hg]; exact (below_size (mvW HB.out)) : w.heap.size ≤ gb110)); have GE110 := Aside0.mk ((by rw [hg]; exact (below_size (mvW HB.out)) : w.heap.size ≤ gb110)); replace HB := Aside0.mk (below_step (mvW HB.out) hb); clear hb hbox hg; obtain ⟨Z9_0, Z9_1⟩ := bc2 BK110.out; obtain ⟨Y9_0, Y9_1⟩ := bf2 BK110.out) | ((with_reducible refine gate_callee (f := 31) rfl ?_); refine goesL_ (some 5) rfl rfl Try.func31 (by kernel_rfl) rfl #[.agg #[.int .u64 a0_0, .slice A0_1 l0_1.length c0_1]] rfl (by (try simp only [List.map_toArray, List.map_cons, List.map_nil]); first | done | rfl | (simp only [List.length_drop, List.length_take]; rfl) | (simp only [*]; rfl)) ?_; (with_reducible refine (lsns_Right.calls k a0_0 _ _ l0_1 true _ ?side1 ?side2 A2.out).mono ?_); (case side1 => repeat (first | exact (Kd.C_below HR0_1.out HB.out) | (with_reducible refine Kd.C_alloc ?_ _) | (with_reducible refine Kd.C_drewN ?_ _) | (with_reducible refine Kd.C_drew ?_))); (case side2 => exact HC0_1.out); rintro e w10 ⟨rfl, hb⟩; refine ⟨_, rfl, ?_⟩; replace BK110 := Aside0.mk (blk_below (mvB BK110.out) hb); replace HB := Aside0.mk (below_step (mvW HB.out) hb); clear hb; obtain ⟨Z11_0, Z11_1⟩ := bc2 BK110.out; obtain ⟨Y11_0, Y11_1⟩ := bf2 BK110.out; have p112 : 0 ≤ ((ji5) : Int) := of_decide_eq_true (by first | (with_reducible assumption) | assumption); have q112 : (ji5) < (l0_1.length : Int) := of_decide_eq_true (by first | (with_reducible assumption) | assumption); obtain ⟨ad112, e112, hx112_0⟩ := Kd.at_int HR0_1.out (ji5) p112 q112; cases e112; replace hx112_0 := (HB.out.cell (World.block_lt_of_cell? w _ hx112_0)).trans hx112_0; replace p112 := eq_true p112; replace q112 := eq_true q112))); (go_ret); (exact ⟨by first | rfl | (simp [errW_none, errW_some] <;> rfl) | (simp only [← hji5]; first | rfl | (simp [errW_none, errW_some] <;> rfl)) | (simp [*, errW_none, errW_some] <;> rfl), by repeat (first | (with_reducible first | exact HB.out | apply below_alloc | apply pw_below_drewN | apply below_drew1 | refine below_set ?_ GE110.out) | exact HB.out)⟩)
        · (rw [if_neg c7] at H); (exact absurd H (by simp))
      · (rw [if_neg c6] at H); (exact absurd H (by simp))
    · (rw [if_neg c4] at H); (have c4b0 : decide (0 < (l0_1.length : Int)) = false := decide_eq_false c4); (have c4b1 : decide (0 < l0_1.length) = false := decide_eq_false (by omega)); (clear c4); (obtain rfl := Option.some.inj H); (go_enter Try.func32, Try.ntmps32); (go_wp2_with (first | ((with_reducible refine gate_dst (N := 1) rfl ?_); refine box_event ?hg (N := 1) ?hd (cs := #[.int .u64 a0_0, .slice A0_1 l0_1.length c0_1]) (t := 25) ?hr ?_; (case hd => rfl); (case hg => rfl); (case hr => first | (go_simp; done) | (go_simp; rfl)); intro gb110 hg w12 hbox hb; have BK110 := Aside0.mk (hbox); have GW110 := Aside0.mk ((by rw [hg]; exact (below_size (mvW HB.out)) : w.heap.size ≤ gb110)); have GE110 := Aside0.mk ((by rw [hg]; exact (below_size (mvW HB.out)) : w.heap.size ≤ gb110)); replace HB := Aside0.mk (below_step (mvW HB.out) hb); clear hb hbox hg; obtain ⟨Z13_0, Z13_1⟩ := bc2 BK110.out; obtain ⟨Y13_0, Y13_1⟩ := bf2 BK110.out) | ((with_reducible refine gate_callee (f := 31) rfl ?_); refine goesL_ (some 5) rfl rfl Try.func31 (by kernel_rfl) rfl #[.agg #[.int .u64 a0_0, .slice A0_1 l0_1.length c0_1]] rfl (by (try simp only [List.map_toArray, List.map_cons, List.map_nil]); first | done | rfl | (simp only [List.length_drop, List.length_take]; rfl) | (simp only [*]; rfl)) ?_; (with_reducible refine (lsns_Right.calls k a0_0 _ _ l0_1 true _ ?side1 ?side2 A2.out).mono ?_); (case side1 => repeat (first | exact (Kd.C_below HR0_1.out HB.out) | (with_reducible refine Kd.C_alloc ?_ _) | (with_reducible refine Kd.C_drewN ?_ _) | (with_reducible refine Kd.C_drew ?_))); (case side2 => exact HC0_1.out); rintro e w14 ⟨rfl, hb⟩; refine ⟨_, rfl, ?_⟩; replace BK110 := Aside0.mk (blk_below (mvB BK110.out) hb); replace HB := Aside0.mk (below_step (mvW HB.out) hb); clear hb; obtain ⟨Z15_0, Z15_1⟩ := bc2 BK110.out; obtain ⟨Y15_0, Y15_1⟩ := bf2 BK110.out))); (go_ret); (exact ⟨by first | rfl | (simp [errW_none, errW_some] <;> rfl) | (simp [*, errW_none, errW_some] <;> rfl), by repeat (first | (with_reducible first | exact HB.out | apply below_alloc | apply pw_below_drewN | apply below_drew1 | refine below_set ?_ GE110.out) | exact HB.out)⟩)
  · (replace c3 := Bool.eq_false_iff.mpr c3); (subst c3); (have H1 : (some 0) = some r := by rw [if_neg (show ¬ (false = true) by decide)] at H; exact H); (clear H); (have H := H1); (clear H1); (obtain rfl := Option.some.inj H); (go_enter Try.func32, Try.ntmps32); (go_wp2_with (first | ((with_reducible refine gate_dst (N := 1) rfl ?_); refine box_event ?hg (N := 1) ?hd (cs := #[.int .u64 a0_0, .slice A0_1 l0_1.length c0_1]) (t := 25) ?hr ?_; (case hd => rfl); (case hg => rfl); (case hr => first | (go_simp; done) | (go_simp; rfl)); intro gb110 hg w16 hbox hb; have BK110 := Aside0.mk (hbox); have GW110 := Aside0.mk ((by rw [hg]; exact (below_size (mvW HB.out)) : w.heap.size ≤ gb110)); have GE110 := Aside0.mk ((by rw [hg]; exact (below_size (mvW HB.out)) : w.heap.size ≤ gb110)); replace HB := Aside0.mk (below_step (mvW HB.out) hb); clear hb hbox hg; obtain ⟨Z17_0, Z17_1⟩ := bc2 BK110.out; obtain ⟨Y17_0, Y17_1⟩ := bf2 BK110.out) | ((with_reducible refine gate_callee (f := 31) rfl ?_); refine goesL_ (some 5) rfl rfl Try.func31 (by kernel_rfl) rfl #[.agg #[.int .u64 a0_0, .slice A0_1 l0_1.length c0_1]] rfl (by (try simp only [List.map_toArray, List.map_cons, List.map_nil]); first | done | rfl | (simp only [List.length_drop, List.length_take]; rfl) | (simp only [*]; rfl)) ?_; (with_reducible refine (lsns_Right.calls k a0_0 _ _ l0_1 false _ ?side1 ?side2 A2.out).mono ?_); (case side1 => repeat (first | exact (Kd.C_below HR0_1.out HB.out) | (with_reducible refine Kd.C_alloc ?_ _) | (with_reducible refine Kd.C_drewN ?_ _) | (with_reducible refine Kd.C_drew ?_))); (case side2 => exact HC0_1.out); rintro e w18 ⟨rfl, hb⟩; refine ⟨_, rfl, ?_⟩; replace BK110 := Aside0.mk (blk_below (mvB BK110.out) hb); replace HB := Aside0.mk (below_step (mvW HB.out) hb); (try clear hb); (try clear hb2); (try clear hk); (try clear hi)))); (go_ret); (exact ⟨by first | rfl | (simp [errW_none, errW_some] <;> rfl) | (simp [*, errW_none, errW_some] <;> rfl), by repeat (first | (with_reducible first | exact HB.out | apply below_alloc | apply pw_below_drewN | apply below_drew1 | refine below_set ?_ GE110.out) | exact HB.out)⟩)

/-! ### cells_cell_right: function 54 -/
def cells_cell_right.f (a0_0 : ByteArray) (a0_1 : ByteArray) : Option (Bool) := if (a0_0.size : Int) ≤ 513 then (some (decide ((a0_1.size : Int) ≤ 2048))) else (some false)
set_option maxHeartbeats 8000000 in
set_option maxRecDepth 100000 in
theorem cells_cell_right.calls (a0_0 : ByteArray) (a0_1 : ByteArray) (r : Bool) (w : World) (h : cells_cell_right.f a0_0 a0_1 = some r) :
    Calls Try.prog 54 #[.agg #[.string a0_0, .string a0_1]] w fun e w' => e = .returned (.bool r) ∧ Below w.heap.size w w' := by
  (have hu74 := Try.underlying74); (have HB := Aside0.mk (Below.refl w.heap.size w)); (have H : (if (a0_0.size : Int) ≤ 513 then (some (decide ((a0_1.size : Int) ≤ 2048))) else (some false)) = some r := h); (clear h); (by_cases c2 : (a0_0.size : Int) ≤ 513)
  · (rw [if_pos c2] at H); (have c2b0 : decide ((a0_0.size : Int) ≤ 513) = true := decide_eq_true c2); (have c2b1 : decide (a0_0.size ≤ 513) = true := decide_eq_true (by omega)); (clear c2); (obtain rfl := Option.some.inj H); (go_enter Try.func54, Try.ntmps54); (go_wp2_with (first | ((with_reducible refine gate_dst (N := 1) rfl ?_); (try (refine gate_guard (by rfl) ?_; dsimp only)); refine box_event ?hg (N := 1) ?hd (cs := #[.string a0_0, .string a0_1]) (t := 74) ?hr ?_; (case hd => rfl); (case hg => rfl); (case hr => first | (go_simp; done) | (go_simp; rfl)); intro gb113 hg w3 hbox hb; have BK113 := Aside0.mk (hbox); have GW113 := Aside0.mk ((by rw [hg]; exact (below_size (mvW HB.out)) : w.heap.size ≤ gb113)); have GE113 := Aside0.mk ((by rw [hg]; exact (below_size (mvW HB.out)) : w.heap.size ≤ gb113)); replace HB := Aside0.mk (below_step (mvW HB.out) hb); clear hb hbox hg; obtain ⟨Z4_0, Z4_1⟩ := bc2 BK113.out; obtain ⟨Y4_0, Y4_1⟩ := bf2 BK113.out))); (go_ret); (exact ⟨by first | rfl | (simp [errW_none, errW_some] <;> rfl) | (simp [*, errW_none, errW_some] <;> rfl), by repeat (first | (with_reducible first | exact HB.out | apply below_alloc | apply pw_below_drewN | apply below_drew1 | refine below_set ?_ GE113.out) | exact HB.out)⟩)
  · (rw [if_neg c2] at H); (have c2b0 : decide ((a0_0.size : Int) ≤ 513) = false := decide_eq_false c2); (have c2b1 : decide (a0_0.size ≤ 513) = false := decide_eq_false (by omega)); (clear c2); (obtain rfl := Option.some.inj H); (go_enter Try.func54, Try.ntmps54); (go_wp2_with (first | ((with_reducible refine gate_dst (N := 1) rfl ?_); (try (refine gate_guard (by rfl) ?_; dsimp only)); refine box_event ?hg (N := 1) ?hd (cs := #[.string a0_0, .string a0_1]) (t := 74) ?hr ?_; (case hd => rfl); (case hg => rfl); (case hr => first | (go_simp; done) | (go_simp; rfl)); intro gb113 hg w5 hbox hb; have BK113 := Aside0.mk (hbox); have GW113 := Aside0.mk ((by rw [hg]; exact (below_size (mvW HB.out)) : w.heap.size ≤ gb113)); have GE113 := Aside0.mk ((by rw [hg]; exact (below_size (mvW HB.out)) : w.heap.size ≤ gb113)); replace HB := Aside0.mk (below_step (mvW HB.out) hb); clear hb hbox hg; obtain ⟨Z6_0, Z6_1⟩ := bc2 BK113.out; obtain ⟨Y6_0, Y6_1⟩ := bf2 BK113.out))); (go_ret); (exact ⟨by first | rfl | (simp [errW_none, errW_some] <;> rfl) | (simp [*, errW_none, errW_some] <;> rfl), by repeat (first | (with_reducible first | exact HB.out | apply below_alloc | apply pw_below_drewN | apply below_drew1 | refine below_set ?_ GE113.out) | exact HB.out)⟩)

end Go.Proofs.Ytmfaopjfdedheaa.A
