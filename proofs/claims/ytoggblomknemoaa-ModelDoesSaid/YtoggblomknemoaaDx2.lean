-- PRINTED by print.py (a twelfth state) out of the translation. Not trusted: Lean checks it.
import Derived.Test.YtoggblomknemoaaMv
import Derived.Test.YtoggblomknemoaaDx0
namespace Go.Proofs.Ytoggblomknemoaa.D
open Go.RowKit Go.Proofs.YtoggblomknemoaaW Go.Proofs.YtoggblomknemoaaW.PrintWords Go.Proofs.YtoggblomknemoaaW.PrintLast Go.Proofs.YtoggblomknemoaaW.PrintMore
attribute [local go_sem] GpMore.bytes_le max2_int min2_int max_two min_two max_three min_three max_four min_four   -- for this text's walks alone
set_option linter.unusedVariables false
set_option linter.unusedSimpArgs false

/-! ### lockkeeperlaw30_great: function 8 -/
def lockkeeperlaw30_great.l0 : Nat → List (S42) → Int → Int → Option (Bool)
  | 0, _, _, _ => none
  | k + 1, x0, x3, x4 => if x4 < (x0.length : Int) then (if x4 < 40 then (if 0 ≤ x4 then (lockkeeperlaw30_great.l0 k x0 (wrap64 ((wrap64 (x3 + (((rd_T42 x0 x4).f0).size : Int))) + (((rd_T42 x0 x4).f1).size : Int))) (wrap64 (x4 + 1))) else (none)) else (if (x0.length : Int) > 40 then (some true) else (some (decide (x3 > 20000))))) else (if (x0.length : Int) > 40 then (some true) else (some (decide (x3 > 20000))))
def lockkeeperlaw30_great.f (k : Nat) (l0 : List (S42)) : Option (Bool) := lockkeeperlaw30_great.l0 k l0 0 0
theorem lockkeeperlaw30_great.mono_l : ∀ k, (∀ y0 y1 y2, LeO (lockkeeperlaw30_great.l0 k y0 y1 y2) (lockkeeperlaw30_great.l0 (k + 1) y0 y1 y2))
  | 0 => fun _ _ _ r h => by simp [lockkeeperlaw30_great.l0] at h
  | k + 1 => by
    have ih0 := lockkeeperlaw30_great.mono_l k
    · intro y0 y1 y2
      unfold lockkeeperlaw30_great.l0
      repeat' first
      | (with_reducible exact ih0 _ _ _)
      | (with_reducible exact LeO.refl _)
      | (with_reducible exact LeO.none _)
      | (with_reducible refine LeO.ite ?_ ?_)
      | (with_reducible refine LeO.bind ?_ (fun _ => ?_))
      | exact ih0 _ _ _
      | exact LeO.none _
      | refine LeO.ite ?_ ?_
      | refine LeO.bind ?_ (fun _ => ?_)
theorem lockkeeperlaw30_great.mono : ∀ a0 k, LeO (lockkeeperlaw30_great.f k a0) (lockkeeperlaw30_great.f (k + 1) a0) := by
  intro a0 k
  have ih0 := lockkeeperlaw30_great.mono_l k
  unfold lockkeeperlaw30_great.f
  repeat' first
      | (with_reducible exact ih0 _ _ _)
      | (with_reducible exact LeO.refl _)
      | (with_reducible exact LeO.none _)
      | (with_reducible refine LeO.ite ?_ ?_)
      | (with_reducible refine LeO.bind ?_ (fun _ => ?_))
      | exact ih0 _ _ _
      | exact LeO.none _
      | refine LeO.ite ?_ ?_
      | refine LeO.bind ?_ (fun _ => ?_)
set_option maxHeartbeats 8000000 in
set_option maxRecDepth 100000 in
theorem lockkeeperlaw30_great.calls (k : Nat) (A0 : Option Addr) (c0 : Nat) (l0 : List (S42)) (r : Bool) (w : World) (hr0 : Kd.C k42 w A0 l0.length l0) (hc0 : l0.length ≤ c0) (h : lockkeeperlaw30_great.f k l0 = some r) :
    Calls Try.prog 8 #[.slice A0 l0.length c0] w fun e w' => e = .returned (.bool r) ∧ Drawn0 w w' := by
  (have HR0 := Aside0.mk hr0); (have HC0 := Aside0.mk hc0); (clear hr0 hc0); (have H : (lockkeeperlaw30_great.l0 k l0 0 0) = some r := h); (clear h); (have H' := Aside0.mk H); (clear H); (go_enter Try.func8, Try.ntmps8); (go_wp2); (repeat (go_quiet (fail); try go_wp2)); (go_loopg [3, 4] k (fun kq v3 v4 w' => ∃ (x3_1 : Int) (x4_1 : Int), v3 = .int .i64 x3_1 ∧ v4 = .int .i64 x4_1 ∧ Aside0 (lockkeeperlaw30_great.l0 kq l0 x3_1 x4_1 = some r) ∧ Aside0 (kq ≤ k) ∧ Drawn0 w w'))
  case atStart => exact ⟨(0), (0), (by first | rfl | (simp; done) | (simp [*]; done)), (by first | rfl | (simp; done) | (simp [*]; done)), H', ⟨Nat.le_refl _⟩, by repeat (first | exact Drawn0.refl _ | apply Drawn0.step)⟩
  case round =>
    (clear H'); (obtain ⟨x3_1, x4_1, rfl, rfl, HA, HK1, ⟨m1, rfl⟩⟩ := hrel)
    cases gk with
    | zero => exact absurd HA.out (by simp [lockkeeperlaw30_great.l0])
    | succ k1 =>
      (have H := HA.out); (clear HA); (simp only [lockkeeperlaw30_great.l0] at H); (by_cases c2 : x4_1 < (l0.length : Int))
      · (rw [if_pos c2] at H); (have c2b0 : decide (x4_1 < (l0.length : Int)) = true := decide_eq_true c2); (clear c2); (by_cases c3 : x4_1 < 40)
        · (rw [if_pos c3] at H); (have c3b0 : decide (x4_1 < 40) = true := decide_eq_true c3); (clear c3); (by_cases c4 : 0 ≤ x4_1)
          · (rw [if_pos c4] at H); (have c4b0 : decide (0 ≤ x4_1) = true := decide_eq_true c4); (clear c4); (have H' := Aside0.mk H); (clear H); (have p101 : 0 ≤ (x4_1 : Int) := of_decide_eq_true (by first | (with_reducible assumption) | assumption)); (have q101 : x4_1 < (l0.length : Int) := of_decide_eq_true (by first | (with_reducible assumption) | assumption)); (obtain ⟨ad101, e101, hx101_0, hx101_1⟩ := at_T42 HR0.out x4_1 p101 q101); (cases e101); (replace p101 := eq_true p101); (replace q101 := eq_true q101); (have p102 : 0 ≤ (x4_1 : Int) := of_decide_eq_true (by first | (with_reducible assumption) | assumption)); (have q102 : x4_1 < (l0.length : Int) := of_decide_eq_true (by first | (with_reducible assumption) | assumption)); (obtain ⟨ad102, e102, hx102_0, hx102_1⟩ := at_T42 HR0.out x4_1 p102 q102); (obtain rfl : ad101 = ad102 := (by injection e102)); (replace p102 := eq_true p102); (replace q102 := eq_true q102); (go_wp2); (repeat (go_quiet (fail); try go_wp2)); (go_roundg k1)
            case measure => have := HK1.out; omega
            case rel => exact ⟨(wrap64 ((wrap64 (x3_1 + (((rd_T42 l0 x4_1).f0).size : Int))) + (((rd_T42 l0 x4_1).f1).size : Int))), (wrap64 (x4_1 + 1)), (by first | rfl | (simp; done) | (simp [*]; done)), (by first | rfl | (simp; done) | (simp [*]; done)), H', ⟨by have := HK1.out; omega⟩, by repeat (first | exact Drawn0.refl _ | apply Drawn0.step)⟩
          · (rw [if_neg c4] at H); (exact absurd H (by simp))
        · (rw [if_neg c3] at H); (have c3b0 : decide (x4_1 < 40) = false := decide_eq_false c3); (clear c3); (by_cases c5 : (l0.length : Int) > 40)
          · (rw [if_pos c5] at H); (have c5b0 : decide (40 < (l0.length : Int)) = true := decide_eq_true c5); (have c5b1 : decide (40 < l0.length) = true := decide_eq_true (by omega)); (clear c5); (obtain rfl := Option.some.inj H); (go_wp2); (repeat (go_quiet (fail); try go_wp2)); (go_ret); (exact ⟨by first | rfl | (simp; done) | (simp [*]; done), by repeat (first | exact Drawn0.refl _ | apply Drawn0.step)⟩)
          · (rw [if_neg c5] at H); (have c5b0 : decide (40 < (l0.length : Int)) = false := decide_eq_false c5); (have c5b1 : decide (40 < l0.length) = false := decide_eq_false (by omega)); (clear c5); (obtain rfl := Option.some.inj H); (go_wp2); (repeat (go_quiet (fail); try go_wp2)); (go_ret); (exact ⟨by first | rfl | (simp; done) | (simp [*]; done), by repeat (first | exact Drawn0.refl _ | apply Drawn0.step)⟩)
      · (rw [if_neg c2] at H); (have c2b0 : decide (x4_1 < (l0.length : Int)) = false := decide_eq_false c2); (clear c2); (by_cases c6 : (l0.length : Int) > 40)
        · (rw [if_pos c6] at H); (have c6b0 : decide (40 < (l0.length : Int)) = true := decide_eq_true c6); (have c6b1 : decide (40 < l0.length) = true := decide_eq_true (by omega)); (clear c6); (obtain rfl := Option.some.inj H); (go_wp2); (repeat (go_quiet (fail); try go_wp2)); (go_ret); (exact ⟨by first | rfl | (simp; done) | (simp [*]; done), by repeat (first | exact Drawn0.refl _ | apply Drawn0.step)⟩)
        · (rw [if_neg c6] at H); (have c6b0 : decide (40 < (l0.length : Int)) = false := decide_eq_false c6); (have c6b1 : decide (40 < l0.length) = false := decide_eq_false (by omega)); (clear c6); (obtain rfl := Option.some.inj H); (go_wp2); (repeat (go_quiet (fail); try go_wp2)); (go_ret); (exact ⟨by first | rfl | (simp; done) | (simp [*]; done), by repeat (first | exact Drawn0.refl _ | apply Drawn0.step)⟩)

/-! ### lockkeeperref30_Small: function 9 -/
def lockkeeperref30_Small.f (a0_0 : Int) (a0_1 : ByteArray) (a0_2 : ByteArray) (a0_3 : ByteArray) (a0_4 : ByteArray) (a0_5 : Bool) (a0_6 : Int) : Option (Bool) := some (decide ((wrap64 ((wrap64 ((wrap64 ((a0_1.size : Int) + (a0_2.size : Int))) + (a0_3.size : Int))) + (a0_4.size : Int))) ≤ 5000))
set_option maxHeartbeats 8000000 in
set_option maxRecDepth 100000 in
theorem lockkeeperref30_Small.calls (a0_0 : Int) (a0_1 : ByteArray) (a0_2 : ByteArray) (a0_3 : ByteArray) (a0_4 : ByteArray) (a0_5 : Bool) (a0_6 : Int) (r : Bool) (w : World) (h : lockkeeperref30_Small.f a0_0 a0_1 a0_2 a0_3 a0_4 a0_5 a0_6 = some r) :
    Calls Try.prog 9 #[.agg #[.int .u8 a0_0, .string a0_1, .string a0_2, .string a0_3, .string a0_4, .bool a0_5, .int .i64 a0_6]] w fun e w' => e = .returned (.bool r) ∧ Below w.heap.size w w' := by
  (have hu26 := Try.underlying26); (have HB := Aside0.mk (Below.refl w.heap.size w)); (have H : (some (decide ((wrap64 ((wrap64 ((wrap64 ((a0_1.size : Int) + (a0_2.size : Int))) + (a0_3.size : Int))) + (a0_4.size : Int))) ≤ 5000))) = some r := h); (clear h); (obtain rfl := Option.some.inj H); (go_enter Try.func9, Try.ntmps9); (go_wp2_with (first | ((with_reducible refine gate_dst (N := 1) rfl ?_); refine box_event ?hg (N := 1) ?hd (cs := #[.int .u8 a0_0, .string a0_1, .string a0_2, .string a0_3, .string a0_4, .bool a0_5, .int .i64 a0_6]) (t := 26) ?hr ?_; (case hd => rfl); (case hg => rfl); (case hr => first | (go_simp; done) | (go_simp; rfl)); intro gb103 hg w2 hbox hb; have BK103 := Aside0.mk (hbox); have GW103 := Aside0.mk ((by rw [hg]; exact (below_size (mvW HB.out)) : w.heap.size ≤ gb103)); have GE103 := Aside0.mk ((by rw [hg]; exact (below_size (mvW HB.out)) : w.heap.size ≤ gb103)); replace HB := Aside0.mk (below_step (mvW HB.out) hb); clear hb hbox hg; obtain ⟨Z3_0, Z3_1, Z3_2, Z3_3, Z3_4, Z3_5, Z3_6⟩ := bc7 BK103.out; obtain ⟨Y3_0, Y3_1, Y3_2, Y3_3, Y3_4, Y3_5, Y3_6⟩ := bf7 BK103.out))); (go_ret); (exact ⟨by first | rfl | (simp [errW_none, errW_some] <;> rfl) | (simp [*, errW_none, errW_some] <;> rfl), by repeat (first | (with_reducible first | exact HB.out | apply below_alloc | apply pw_below_drewN | apply below_drew1 | refine below_set ?_ GE103.out) | exact HB.out)⟩)

/-! ### cells_cell_right: function 52 -/
def cells_cell_right.f (a0_0 : ByteArray) (a0_1 : ByteArray) : Option (Bool) := if (a0_0.size : Int) ≤ 513 then (some (decide ((a0_1.size : Int) ≤ 2048))) else (some false)
set_option maxHeartbeats 8000000 in
set_option maxRecDepth 100000 in
theorem cells_cell_right.calls (a0_0 : ByteArray) (a0_1 : ByteArray) (r : Bool) (w : World) (h : cells_cell_right.f a0_0 a0_1 = some r) :
    Calls Try.prog 52 #[.agg #[.string a0_0, .string a0_1]] w fun e w' => e = .returned (.bool r) ∧ Below w.heap.size w w' := by
  (have hu80 := Try.underlying80); (have HB := Aside0.mk (Below.refl w.heap.size w)); (have H : (if (a0_0.size : Int) ≤ 513 then (some (decide ((a0_1.size : Int) ≤ 2048))) else (some false)) = some r := h); (clear h); (by_cases c2 : (a0_0.size : Int) ≤ 513)
  · (rw [if_pos c2] at H); (have c2b0 : decide ((a0_0.size : Int) ≤ 513) = true := decide_eq_true c2); (have c2b1 : decide (a0_0.size ≤ 513) = true := decide_eq_true (by omega)); (clear c2); (obtain rfl := Option.some.inj H); (go_enter Try.func52, Try.ntmps52); (go_wp2_with (first | ((with_reducible refine gate_dst (N := 1) rfl ?_); (try (refine gate_guard (by rfl) ?_; dsimp only)); refine box_event ?hg (N := 1) ?hd (cs := #[.string a0_0, .string a0_1]) (t := 80) ?hr ?_; (case hd => rfl); (case hg => rfl); (case hr => first | (go_simp; done) | (go_simp; rfl)); intro gb104 hg w3 hbox hb; have BK104 := Aside0.mk (hbox); have GW104 := Aside0.mk ((by rw [hg]; exact (below_size (mvW HB.out)) : w.heap.size ≤ gb104)); have GE104 := Aside0.mk ((by rw [hg]; exact (below_size (mvW HB.out)) : w.heap.size ≤ gb104)); replace HB := Aside0.mk (below_step (mvW HB.out) hb); clear hb hbox hg; obtain ⟨Z4_0, Z4_1⟩ := bc2 BK104.out; obtain ⟨Y4_0, Y4_1⟩ := bf2 BK104.out))); (go_ret); (exact ⟨by first | rfl | (simp [errW_none, errW_some] <;> rfl) | (simp [*, errW_none, errW_some] <;> rfl), by repeat (first | (with_reducible first | exact HB.out | apply below_alloc | apply pw_below_drewN | apply below_drew1 | refine below_set ?_ GE104.out) | exact HB.out)⟩)
  · (rw [if_neg c2] at H); (have c2b0 : decide ((a0_0.size : Int) ≤ 513) = false := decide_eq_false c2); (have c2b1 : decide (a0_0.size ≤ 513) = false := decide_eq_false (by omega)); (clear c2); (obtain rfl := Option.some.inj H); (go_enter Try.func52, Try.ntmps52); (go_wp2_with (first | ((with_reducible refine gate_dst (N := 1) rfl ?_); (try (refine gate_guard (by rfl) ?_; dsimp only)); refine box_event ?hg (N := 1) ?hd (cs := #[.string a0_0, .string a0_1]) (t := 80) ?hr ?_; (case hd => rfl); (case hg => rfl); (case hr => first | (go_simp; done) | (go_simp; rfl)); intro gb104 hg w5 hbox hb; have BK104 := Aside0.mk (hbox); have GW104 := Aside0.mk ((by rw [hg]; exact (below_size (mvW HB.out)) : w.heap.size ≤ gb104)); have GE104 := Aside0.mk ((by rw [hg]; exact (below_size (mvW HB.out)) : w.heap.size ≤ gb104)); replace HB := Aside0.mk (below_step (mvW HB.out) hb); clear hb hbox hg; obtain ⟨Z6_0, Z6_1⟩ := bc2 BK104.out; obtain ⟨Y6_0, Y6_1⟩ := bf2 BK104.out))); (go_ret); (exact ⟨by first | rfl | (simp [errW_none, errW_some] <;> rfl) | (simp [*, errW_none, errW_some] <;> rfl), by repeat (first | (with_reducible first | exact HB.out | apply below_alloc | apply pw_below_drewN | apply below_drew1 | refine below_set ?_ GE104.out) | exact HB.out)⟩)

/-! ### cells_Right: function 28 -/
def cells_Right.l0 : Nat → List (S42) → List (S42) → Int → Int → Option (Bool)
  | 0, _, _, _, _ => none
  | k + 1, x0, x5, x6, x7 => if x7 < x6 then (if 0 ≤ x7 then (if x7 < (x5.length : Int) then ((cells_cell_right.f ((rd_T42 x5 x7).f0) ((rd_T42 x5 x7).f1)).bind fun t107 => (if t107 = true then (if x7 > 0 then (if 0 ≤ (wrap64 (x7 - 1)) then (if (wrap64 (x7 - 1)) < (x0.length : Int) then (if ((Op.bytesLess (((rd_T42 x0 (wrap64 (x7 - 1))).f0).toList) (((rd_T42 x5 x7).f0).toList)) = true) then (cells_Right.l0 k x0 x5 x6 (wrap64 (x7 + 1))) else (some false)) else (none)) else (none)) else (cells_Right.l0 k x0 x5 x6 (wrap64 (x7 + 1)))) else (some false))) else (none)) else (none)) else (some true)
def cells_Right.f (k : Nat) (l0 : List (S42)) : Option (Bool) := cells_Right.l0 k l0 l0 (l0.length : Int) 0
theorem cells_Right.mono_l : ∀ k, (∀ y0 y1 y2 y3, LeO (cells_Right.l0 k y0 y1 y2 y3) (cells_Right.l0 (k + 1) y0 y1 y2 y3))
  | 0 => fun _ _ _ _ r h => by simp [cells_Right.l0] at h
  | k + 1 => by
    have ih0 := cells_Right.mono_l k
    · intro y0 y1 y2 y3
      unfold cells_Right.l0
      repeat' first
      | (with_reducible exact ih0 _ _ _ _)
      | (with_reducible exact LeO.refl _)
      | (with_reducible exact LeO.none _)
      | (with_reducible refine LeO.ite ?_ ?_)
      | (with_reducible refine LeO.bind ?_ (fun _ => ?_))
      | exact ih0 _ _ _ _
      | exact LeO.none _
      | refine LeO.ite ?_ ?_
      | refine LeO.bind ?_ (fun _ => ?_)
theorem cells_Right.mono : ∀ a0 k, LeO (cells_Right.f k a0) (cells_Right.f (k + 1) a0) := by
  intro a0 k
  have ih0 := cells_Right.mono_l k
  unfold cells_Right.f
  repeat' first
      | (with_reducible exact ih0 _ _ _ _)
      | (with_reducible exact LeO.refl _)
      | (with_reducible exact LeO.none _)
      | (with_reducible refine LeO.ite ?_ ?_)
      | (with_reducible refine LeO.bind ?_ (fun _ => ?_))
      | exact ih0 _ _ _ _
      | exact LeO.none _
      | refine LeO.ite ?_ ?_
      | refine LeO.bind ?_ (fun _ => ?_)
def cells_Right.T4 : Bool × List (List Nat × List Nat) := (true, [([], []), ([0], [0]), ([1], [1]), ([2, 1], [2]), ([3], [3]), ([4, 3], [3, 4]), ([5, 3, 3], [3, 5]), ([6], [6]), ([6], [6]), ([8, 6], [6, 8]), ([7, 9, 6], [6, 7, 9]), ([10, 6], [6, 10]), ([11, 6], [6, 11]), ([6], [6]), ([13, 6], [6, 13]), ([12, 14, 6], [6, 12, 14]), ([6, 15, 3], [3, 6, 15]), ([3, 16], [3, 16])])
def cells_Right.B4 : List Nat := [0, 1, 3, 7, 15, 31, 63, 127, 127, 383, 1023, 2047, 4095, 127, 8319, 32767, 65535, 131071]
theorem cells_Right.tab4 : rtab .any (opsOf Try.f28 4) = cells_Right.T4 := by kernel_rfl
theorem cells_Right.bits4 : waitsOk cells_Right.T4.2 cells_Right.B4 = true := by kernel_rfl
set_option maxHeartbeats 8000000 in
set_option maxRecDepth 100000 in
theorem cells_Right.calls (k : Nat) (A0 : Option Addr) (c0 : Nat) (l0 : List (S42)) (r : Bool) (w : World) (hr0 : Kd.C k42 w A0 l0.length l0) (hc0 : l0.length ≤ c0) (h : cells_Right.f k l0 = some r) :
    Calls Try.prog 28 #[.slice A0 l0.length c0] w fun e w' => e = .returned (.bool r) ∧ Below w.heap.size w w' := by
  (have hu42 := Try.underlying42); (have HR0 := Aside0.mk hr0); (have HC0 := Aside0.mk hc0); (clear hr0 hc0); (have HB := Aside0.mk (Below.refl w.heap.size w)); (have H : (cells_Right.l0 k l0 l0 (l0.length : Int) 0) = some r := h); (clear h); (have H' := Aside0.mk H); (clear H); (go_enter Try.func28, Try.ntmps28); (go_wp2); (go_loopg [7] k (fun kq v7 w' => ∃ (x7_1 : Int), v7 = .int .i64 x7_1 ∧ Aside0 (cells_Right.l0 kq l0 l0 (l0.length : Int) x7_1 = some r) ∧ Aside0 (kq ≤ k) ∧ Aside0 (Below w.heap.size w w')))
  case atStart => exact ⟨(0), (by first | rfl | (simp; done) | (simp [*]; done)), H', ⟨Nat.le_refl _⟩, ⟨mvW HB.out⟩⟩
  case round =>
    (clear H'); (obtain ⟨x7_1, rfl, HA, HK1, HB⟩ := hrel)
    cases gk with
    | zero => exact absurd HA.out (by simp [cells_Right.l0])
    | succ k1 =>
      (have H := HA.out); (clear HA); (simp only [cells_Right.l0] at H); (by_cases c2 : x7_1 < (l0.length : Int))
      · (rw [if_pos c2] at H); (have c2b0 : decide (x7_1 < (l0.length : Int)) = true := decide_eq_true c2); (clear c2); (by_cases c3 : 0 ≤ x7_1)
        · (rw [if_pos c3] at H); (have c3b0 : decide (0 ≤ x7_1) = true := decide_eq_true c3); (clear c3); (by_cases c4 : x7_1 < (l0.length : Int))
          · (rw [if_pos c4] at H); (have c4b0 : decide (x7_1 < (l0.length : Int)) = true := decide_eq_true c4); (clear c4); (replace H := Option.bind_eq_some_iff.mp H); (obtain ⟨t107, A50, H⟩ := H); (replace H : (if t107 = true then (if x7_1 > 0 then (if 0 ≤ (wrap64 (x7_1 - 1)) then (if (wrap64 (x7_1 - 1)) < (l0.length : Int) then (if ((Op.bytesLess (((rd_T42 l0 (wrap64 (x7_1 - 1))).f0).toList) (((rd_T42 l0 x7_1).f0).toList)) = true) then (cells_Right.l0 k1 l0 l0 (l0.length : Int) (wrap64 (x7_1 + 1))) else (some false)) else (none)) else (none)) else (cells_Right.l0 k1 l0 l0 (l0.length : Int) (wrap64 (x7_1 + 1)))) else (some false)) = some r := H); (have A5 := Aside0.mk A50); (clear A50); (by_cases c6 : t107 = true)
            · (subst c6); (have H1 : (if x7_1 > 0 then (if 0 ≤ (wrap64 (x7_1 - 1)) then (if (wrap64 (x7_1 - 1)) < (l0.length : Int) then (if ((Op.bytesLess (((rd_T42 l0 (wrap64 (x7_1 - 1))).f0).toList) (((rd_T42 l0 x7_1).f0).toList)) = true) then (cells_Right.l0 k1 l0 l0 (l0.length : Int) (wrap64 (x7_1 + 1))) else (some false)) else (none)) else (none)) else (cells_Right.l0 k1 l0 l0 (l0.length : Int) (wrap64 (x7_1 + 1)))) = some r := by rw [if_pos rfl] at H; exact H); (clear H); (have H := H1); (clear H1); (by_cases c7 : x7_1 > 0)
              · (rw [if_pos c7] at H); (have c7b0 : decide (0 < x7_1) = true := decide_eq_true c7); (clear c7); (obtain ⟨ji8, hji8⟩ : ∃ j_ : Int, (wrap64 (x7_1 - 1)) = j_ := ⟨_, rfl⟩); (replace H : (if 0 ≤ (ji8) then (if (ji8) < (l0.length : Int) then (if ((Op.bytesLess (((rd_T42 l0 (ji8)).f0).toList) (((rd_T42 l0 x7_1).f0).toList)) = true) then (cells_Right.l0 k1 l0 l0 (l0.length : Int) (wrap64 (x7_1 + 1))) else (some false)) else (none)) else (none)) = some r := by first | (rw [hji8] at H; exact H) | (simp only [hji8] at H ⊢; exact H)); ((try rw [hji8] at A5)); (have hji8w : (IntKind.i64.wrap (x7_1 - 1)) = ji8 := (i64_w _).trans hji8); (by_cases c9 : 0 ≤ (ji8))
                · (rw [if_pos c9] at H); (have c9b0 : decide (0 ≤ (ji8)) = true := decide_eq_true c9); (clear c9); (by_cases c10 : (ji8) < (l0.length : Int))
                  · (rw [if_pos c10] at H); (have c10b0 : decide ((ji8) < (l0.length : Int)) = true := decide_eq_true c10); (clear c10); (by_cases c11 : ((Op.bytesLess (((rd_T42 l0 (ji8)).f0).toList) (((rd_T42 l0 x7_1).f0).toList)) = true))
                    · (rw [if_pos c11] at H); (have c11b0 : (Op.bytesLess (((rd_T42 l0 (ji8)).f0).toList) (((rd_T42 l0 x7_1).f0).toList)) = true := c11); (clear c11); (have H' := Aside0.mk H); (clear H); (have p105 : 0 ≤ (x7_1 : Int) := of_decide_eq_true (by first | (with_reducible assumption) | assumption)); (have q105 : x7_1 < (l0.length : Int) := of_decide_eq_true (by first | (with_reducible assumption) | assumption)); (obtain ⟨ad105, e105, hx105_0, hx105_1⟩ := at_T42 HR0.out x7_1 p105 q105); (cases e105); (replace hx105_0 := (HB.out.cell (World.block_lt_of_cell? w _ hx105_0)).trans hx105_0); (replace hx105_1 := (HB.out.cell (World.block_lt_of_cell? w _ hx105_1)).trans hx105_1); (replace p105 := eq_true p105); (replace q105 := eq_true q105); (try go_wp2_with (first | ((with_reducible refine gate_dst (N := 4) rfl ?_); refine box_event ?hg (N := 4) ?hd (cs := #[.string (⟨#[]⟩ : ByteArray), .string (⟨#[]⟩ : ByteArray)]) (t := 42) ?hr ?_; (case hd => rfl); (case hg => rfl); (case hr => first | (go_simp; done) | (go_simp; rfl)); intro gb106 hg w12 hbox hb; have BK106 := Aside0.mk (hbox); have GW106 := Aside0.mk ((by rw [hg]; exact (below_size (mvW HB.out)) : w.heap.size ≤ gb106)); have GE106 := Aside0.mk ((by rw [hg]; exact (below_size (mvW HB.out)) : w.heap.size ≤ gb106)); replace HB := Aside0.mk (below_step (mvW HB.out) hb); clear hb hbox hg; obtain ⟨Z13_0, Z13_1⟩ := bc2 BK106.out; obtain ⟨Y13_0, Y13_1⟩ := bf2 BK106.out))); (have n0_ : Aside0 (((w12.setCell ⟨gb106, 0, none⟩ (.string ((rd_T42 l0 x7_1).f0))).setCell ⟨gb106, 1, none⟩ (.string ((rd_T42 l0 x7_1).f1))).heap[gb106]? = some (.cells #[.string ((rd_T42 l0 x7_1).f0), .string ((rd_T42 l0 x7_1).f1)] 42 (0, 0))) := ⟨by (with_reducible repeat (first | refine blk_drewN ?_ _ | refine blk_drew ?_ | refine blk_alloc ?_ _)); refine blk_put (cs := #[.string ((rd_T42 l0 x7_1).f0), .string (⟨#[]⟩ : ByteArray)]) ?_ 1 _ rfl; (with_reducible repeat (first | refine blk_drewN ?_ _ | refine blk_drew ?_ | refine blk_alloc ?_ _)); refine blk_put (cs := #[.string (⟨#[]⟩ : ByteArray), .string (⟨#[]⟩ : ByteArray)]) ?_ 0 _ rfl; (with_reducible repeat (first | refine blk_drewN ?_ _ | refine blk_drew ?_ | refine blk_alloc ?_ _)); exact BK106.out⟩); (have n1_ : Aside0 (Below w.heap.size w ((w12.setCell ⟨gb106, 0, none⟩ (.string ((rd_T42 l0 x7_1).f0))).setCell ⟨gb106, 1, none⟩ (.string ((rd_T42 l0 x7_1).f1)))) := ⟨mvW HB.out⟩); ((try clear BK106)); ((try clear HB)); (generalize ((w12.setCell ⟨gb106, 0, none⟩ (.string ((rd_T42 l0 x7_1).f0))).setCell ⟨gb106, 1, none⟩ (.string ((rd_T42 l0 x7_1).f1))) = w14 at n0_ n1_ ⊢); (have BK106 := n0_); (have HB := n1_); (clear n0_ n1_); (replace BK106 := Aside0.mk (blk_drew BK106.out)); (replace HB := Aside0.mk (below_drew1 HB.out)); (have p108 : 0 ≤ ((ji8) : Int) := of_decide_eq_true (by first | (with_reducible assumption) | assumption)); (have q108 : (ji8) < (l0.length : Int) := of_decide_eq_true (by first | (with_reducible assumption) | assumption)); (obtain ⟨ad108, e108, hx108_0, hx108_1⟩ := at_T42 HR0.out (ji8) p108 q108); (have hw108_1 := hx108_1); (have hw108_0 := hx108_0); (obtain rfl : ad105 = ad108 := (by injection e108)); (replace hx108_0 := (HB.out.cell (World.block_lt_of_cell? w _ hx108_0)).trans hx108_0); (replace hx108_1 := (HB.out.cell (World.block_lt_of_cell? w _ hx108_1)).trans hx108_1); (replace p108 := eq_true p108); (replace q108 := eq_true q108); (refine start_ (n := 18) (S := fun w' => w'.cell? ⟨gb106, 0, none⟩ = some (.string ((rd_T42 l0 x7_1).f0)) ∧ w'.cell? ⟨gb106, 1, none⟩ = some (.string ((rd_T42 l0 x7_1).f1)) ∧ w'.cell? (ad105.add (((ji8)).toNat * 2)) = some (.string ((rd_T42 l0 (ji8)).f0)) ∧ w'.cell? ⟨(ad105.add (((ji8)).toNat * 2)).block, (ad105.add (((ji8)).toNat * 2)).off + 1, none⟩ = some (.string ((rd_T42 l0 (ji8)).f1))) (ds := []) #[false, false, false, false, false, false, false, false, false, false, false, false, false, false, false, false, false, false] (by kernel_rfl) rfl rfl ⟨(blk_cell BK106.out 0).trans rfl, (blk_cell BK106.out 1).trans rfl, ((HB.out.cell (World.block_lt_of_cell? w _ hw108_0)).trans hw108_0), ((HB.out.cell (World.block_lt_of_cell? w _ hw108_1)).trans hw108_1)⟩ (fun hHeld => ?_); refine with_tabW cells_Right.tab4 cells_Right.bits4 (fun HT_ HW_ => ?_)); (generalize w14.drew = w15 at BK106 HB hx108_0 hx108_1 hHeld ⊢); (refine take_ (i := 0) (N := some 12) (v := ?_) (a' := ?_) (bv 1 17) rfl rfl (take_ofW HT_.out HW_.out (by kernel_rfl)) (fun _ _ _ h => h) (Or.inl ⟨by rfl, ?_⟩) hHeld ?_ ?_); (rotate_left)
                      · (rintro w' ⟨s0, s1, s2, s3⟩); (go_simp); (with_reducible rfl)
                      rotate_left
                      · (simp only [sA]); (rfl)
                      (refine one_ (i := 1) (N := some 13) (bv 2 16) rfl rfl (one_of HT_.out (by kernel_rfl)) (by decide) (fun K hK => ?_)); (refine goes_ Try.func52 (by kernel_rfl) rfl #[.agg #[.string ((rd_T42 l0 x7_1).f0), .string ((rd_T42 l0 x7_1).f1)]] (by rfl) rfl rfl (by (try simp only [List.map_toArray, List.map_cons, List.map_nil]); first | done | rfl | (simp only [List.length_drop, List.length_take]; rfl) | (simp only [*]; rfl)) ?_); (with_reducible refine (cells_cell_right.calls ((rd_T42 l0 x7_1).f0) ((rd_T42 l0 x7_1).f1) true _ A5.out).mono ?_); (rintro e w16 ⟨rfl, hb⟩); (refine ⟨_, rfl, ?_⟩); (replace BK106 := Aside0.mk (blk_below (mvB BK106.out) hb)); (replace HB := Aside0.mk (below_step (mvW HB.out) hb)); (clear hb); (refine hK.out _ _ ⟨(blk_cell BK106.out 0).trans rfl, (blk_cell BK106.out 1).trans rfl, ((HB.out.cell (World.block_lt_of_cell? w _ hw108_0)).trans hw108_0), ((HB.out.cell (World.block_lt_of_cell? w _ hw108_1)).trans hw108_1)⟩ (fun hHeld => ?_)); (clear hK K); (refine norm_ (a' := ?_) ?_ ?_); (rotate_left)
                      · (show Act.put _ (some 13) _ = _); (simp only [sA]); (rfl)
                      (refine pure_ (i := 2) (N := some 14) (v := ?_) (a' := ?_) (bv 3 15) rfl rfl (any_of HT_.out (by kernel_rfl)) (fun _ _ _ h => h) (Or.inl ⟨by rfl, ?_⟩) ?_ ?_); (rotate_left)
                      · (intro w'); (go_simp); (with_reducible rfl)
                      rotate_left
                      · (simp only [sA]); (rfl)
                      (refine pure_ (i := 3) (N := some 15) (v := ?_) (a' := ?_) (bv 4 14) rfl rfl (any_of HT_.out (by kernel_rfl)) (fun _ _ _ h => h) (Or.inl ⟨by rfl, ?_⟩) ?_ ?_); (rotate_left)
                      · (intro w'); (go_simp); (with_reducible rfl)
                      rotate_left
                      · (simp only [sA]); (rfl)
                      (refine pure_ (i := 4) (N := some 16) (v := ?_) (a' := ?_) (bv 5 13) rfl rfl (any_of HT_.out (by kernel_rfl)) (fun _ _ _ h => h) (Or.inl ⟨by rfl, ?_⟩) ?_ ?_); (rotate_left)
                      · (intro w'); (go_simp); (with_reducible rfl)
                      rotate_left
                      · (simp only [sA]); (rfl)
                      (refine pure_ (i := 5) (N := some 17) (v := ?_) (a' := ?_) (bv 6 12) rfl rfl (any_of HT_.out (by kernel_rfl)) (fun _ _ _ h => h) (Or.inl ⟨by rfl, ?_⟩) ?_ ?_); (rotate_left)
                      · (intro w'); (go_simp); (with_reducible rfl)
                      rotate_left
                      · (simp only [sA]); (rfl)
                      (refine pure_ (i := 6) (N := some 18) (v := ?_) (a' := ?_) (bv 7 11) rfl rfl (any_of HT_.out (by kernel_rfl)) (fun _ _ _ h => h) (Or.inl ⟨by rfl, ?_⟩) ?_ ?_); (rotate_left)
                      · (intro w'); (go_simp); (with_reducible rfl)
                      rotate_left
                      · (simp only [sA]); (rfl)
                      (refine pure_ (i := 7) (N := some 19) (v := ?_) (a' := ?_) (bv 8 10) rfl rfl (any_of HT_.out (by kernel_rfl)) (fun _ _ _ h => h) (Or.inl ⟨by rfl, ?_⟩) ?_ ?_); (rotate_left)
                      · (intro w'); (go_simp); (with_reducible rfl)
                      rotate_left
                      · (simp only [sA]); (rfl)
                      (refine pure_ (i := 8) (N := some 20) (v := ?_) (a' := ?_) (bv 9 9) rfl rfl (any_of HT_.out (by kernel_rfl)) (fun _ _ _ h => h) (Or.inl ⟨by rfl, ?_⟩) ?_ ?_); (rotate_left)
                      · (intro w'); (go_simp); (with_reducible rfl)
                      rotate_left
                      · (simp only [sA]); (rfl)
                      (refine pure_ (i := 9) (N := some 21) (v := ?_) (a' := ?_) (bv 10 8) rfl rfl (any_of HT_.out (by kernel_rfl)) (fun _ _ _ h => h) (Or.inl ⟨by rfl, ?_⟩) ?_ ?_); (rotate_left)
                      · (intro w'); (go_simp); (with_reducible rfl)
                      rotate_left
                      · (simp only [sA]); (rfl)
                      (refine pure_ (i := 10) (N := some 22) (v := ?_) (a' := ?_) (bv 11 7) rfl rfl (any_of HT_.out (by kernel_rfl)) (fun _ _ _ h => h) (Or.inl ⟨by rfl, ?_⟩) ?_ ?_); (rotate_left)
                      · (intro w'); (go_simp); (with_reducible rfl)
                      rotate_left
                      · (simp only [sA]); (rfl)
                      (refine pure_ (i := 11) (N := some 23) (v := ?_) (a' := ?_) (bv 12 6) rfl rfl (any_of HT_.out (by kernel_rfl)) (fun _ _ _ h => h) (Or.inl ⟨by rfl, ?_⟩) ?_ ?_); (rotate_left)
                      · (intro w'); (go_simp); (with_reducible rfl)
                      rotate_left
                      · (simp only [sA]); (rfl)
                      (refine pure_ (i := 13) (N := some 25) (v := ?_) (a' := ?_) #[true, true, true, true, true, true, true, true, true, true, true, true, false, true, false, false, false, false] rfl rfl (any_of HT_.out (by kernel_rfl)) (fun _ _ _ h => h) (Or.inl ⟨by rfl, ?_⟩) ?_ ?_); (rotate_left)
                      · (intro w'); (go_simp); (with_reducible rfl)
                      rotate_left
                      · (simp only [sA]); (rfl)
                      (refine take_ (i := 12) (N := some 24) (v := ?_) (a' := ?_) (bv 14 4) rfl rfl (take_ofW HT_.out HW_.out (by kernel_rfl)) (fun _ _ _ h => h) (Or.inl ⟨by rfl, ?_⟩) hHeld ?_ ?_); (rotate_left)
                      · (rintro w' ⟨s0, s1, s2, s3⟩); (go_simp); (with_reducible rfl)
                      rotate_left
                      · (simp only [sA]); (rfl)
                      (refine take_ (i := 14) (N := some 26) (v := ?_) (a' := ?_) (bv 15 3) rfl rfl (take_ofW HT_.out HW_.out (by kernel_rfl)) (fun _ _ _ h => h) (Or.inl ⟨by rfl, ?_⟩) hHeld ?_ ?_); (rotate_left)
                      · (rintro w' ⟨s0, s1, s2, s3⟩); (go_simp); (with_reducible rfl)
                      rotate_left
                      · (simp only [sA]); (rfl)
                      (refine pure_ (i := 15) (N := some 27) (v := ?_) (a' := ?_) (bv 16 2) rfl rfl (any_of HT_.out (by kernel_rfl)) (fun _ _ _ h => h) (Or.inl ⟨by rfl, ?_⟩) ?_ ?_); (rotate_left)
                      · (intro w'); (go_simp); (with_reducible rfl)
                      rotate_left
                      · (simp only [sA]); (rfl)
                      (refine pure_ (i := 16) (N := some 28) (v := ?_) (a' := ?_) (bv 17 1) rfl rfl (any_of HT_.out (by kernel_rfl)) (fun _ _ _ h => h) (Or.inl ⟨by rfl, ?_⟩) ?_ ?_); (rotate_left)
                      · (intro w'); (go_simp); (with_reducible rfl)
                      rotate_left
                      · (simp only [sA]); (rfl)
                      (refine pure_ (i := 17) (N := some 29) (v := ?_) (a' := ?_) (bv 18 0) rfl rfl (any_of HT_.out (by kernel_rfl)) (fun _ _ _ h => h) (Or.inl ⟨by rfl, ?_⟩) ?_ ?_); (rotate_left)
                      · (intro w'); (go_simp); (with_reducible rfl)
                      rotate_left
                      · (simp only [sA]); (rfl)
                      (refine done_ (done_of HT_.out (by kernel_rfl)) ?_); (try go_wp2); (go_roundg k1)
                      case measure => have := HK1.out; omega
                      case rel => exact ⟨(wrap64 (x7_1 + 1)), (by first | rfl | (simp; done) | (simp [*]; done)), H', ⟨by have := HK1.out; omega⟩, ⟨mvW HB.out⟩⟩
                    · (rw [if_neg c11] at H); (have c11b0 : (Op.bytesLess (((rd_T42 l0 (ji8)).f0).toList) (((rd_T42 l0 x7_1).f0).toList)) = false := by simpa using c11); (clear c11); (obtain rfl := Option.some.inj H); (have p105 : 0 ≤ (x7_1 : Int) := of_decide_eq_true (by first | (with_reducible assumption) | assumption)); (have q105 : x7_1 < (l0.length : Int) := of_decide_eq_true (by first | (with_reducible assumption) | assumption)); (obtain ⟨ad105, e105, hx105_0, hx105_1⟩ := at_T42 HR0.out x7_1 p105 q105); (cases e105); (replace hx105_0 := (HB.out.cell (World.block_lt_of_cell? w _ hx105_0)).trans hx105_0); (replace hx105_1 := (HB.out.cell (World.block_lt_of_cell? w _ hx105_1)).trans hx105_1); (replace p105 := eq_true p105); (replace q105 := eq_true q105); (try go_wp2_with (first | ((with_reducible refine gate_dst (N := 4) rfl ?_); refine box_event ?hg (N := 4) ?hd (cs := #[.string (⟨#[]⟩ : ByteArray), .string (⟨#[]⟩ : ByteArray)]) (t := 42) ?hr ?_; (case hd => rfl); (case hg => rfl); (case hr => first | (go_simp; done) | (go_simp; rfl)); intro gb106 hg w17 hbox hb; have BK106 := Aside0.mk (hbox); have GW106 := Aside0.mk ((by rw [hg]; exact (below_size (mvW HB.out)) : w.heap.size ≤ gb106)); have GE106 := Aside0.mk ((by rw [hg]; exact (below_size (mvW HB.out)) : w.heap.size ≤ gb106)); replace HB := Aside0.mk (below_step (mvW HB.out) hb); clear hb hbox hg; obtain ⟨Z18_0, Z18_1⟩ := bc2 BK106.out; obtain ⟨Y18_0, Y18_1⟩ := bf2 BK106.out))); (have n0_ : Aside0 (((w17.setCell ⟨gb106, 0, none⟩ (.string ((rd_T42 l0 x7_1).f0))).setCell ⟨gb106, 1, none⟩ (.string ((rd_T42 l0 x7_1).f1))).heap[gb106]? = some (.cells #[.string ((rd_T42 l0 x7_1).f0), .string ((rd_T42 l0 x7_1).f1)] 42 (0, 0))) := ⟨by (with_reducible repeat (first | refine blk_drewN ?_ _ | refine blk_drew ?_ | refine blk_alloc ?_ _)); refine blk_put (cs := #[.string ((rd_T42 l0 x7_1).f0), .string (⟨#[]⟩ : ByteArray)]) ?_ 1 _ rfl; (with_reducible repeat (first | refine blk_drewN ?_ _ | refine blk_drew ?_ | refine blk_alloc ?_ _)); refine blk_put (cs := #[.string (⟨#[]⟩ : ByteArray), .string (⟨#[]⟩ : ByteArray)]) ?_ 0 _ rfl; (with_reducible repeat (first | refine blk_drewN ?_ _ | refine blk_drew ?_ | refine blk_alloc ?_ _)); exact BK106.out⟩); (have n1_ : Aside0 (Below w.heap.size w ((w17.setCell ⟨gb106, 0, none⟩ (.string ((rd_T42 l0 x7_1).f0))).setCell ⟨gb106, 1, none⟩ (.string ((rd_T42 l0 x7_1).f1)))) := ⟨mvW HB.out⟩); ((try clear BK106)); ((try clear HB)); (generalize ((w17.setCell ⟨gb106, 0, none⟩ (.string ((rd_T42 l0 x7_1).f0))).setCell ⟨gb106, 1, none⟩ (.string ((rd_T42 l0 x7_1).f1))) = w19 at n0_ n1_ ⊢); (have BK106 := n0_); (have HB := n1_); (clear n0_ n1_); (replace BK106 := Aside0.mk (blk_drew BK106.out)); (replace HB := Aside0.mk (below_drew1 HB.out)); (have p108 : 0 ≤ ((ji8) : Int) := of_decide_eq_true (by first | (with_reducible assumption) | assumption)); (have q108 : (ji8) < (l0.length : Int) := of_decide_eq_true (by first | (with_reducible assumption) | assumption)); (obtain ⟨ad108, e108, hx108_0, hx108_1⟩ := at_T42 HR0.out (ji8) p108 q108); (have hw108_1 := hx108_1); (have hw108_0 := hx108_0); (obtain rfl : ad105 = ad108 := (by injection e108)); (replace hx108_0 := (HB.out.cell (World.block_lt_of_cell? w _ hx108_0)).trans hx108_0); (replace hx108_1 := (HB.out.cell (World.block_lt_of_cell? w _ hx108_1)).trans hx108_1); (replace p108 := eq_true p108); (replace q108 := eq_true q108); (refine start_ (n := 18) (S := fun w' => w'.cell? ⟨gb106, 0, none⟩ = some (.string ((rd_T42 l0 x7_1).f0)) ∧ w'.cell? ⟨gb106, 1, none⟩ = some (.string ((rd_T42 l0 x7_1).f1)) ∧ w'.cell? (ad105.add (((ji8)).toNat * 2)) = some (.string ((rd_T42 l0 (ji8)).f0)) ∧ w'.cell? ⟨(ad105.add (((ji8)).toNat * 2)).block, (ad105.add (((ji8)).toNat * 2)).off + 1, none⟩ = some (.string ((rd_T42 l0 (ji8)).f1))) (ds := []) #[false, false, false, false, false, false, false, false, false, false, false, false, false, false, false, false, false, false] (by kernel_rfl) rfl rfl ⟨(blk_cell BK106.out 0).trans rfl, (blk_cell BK106.out 1).trans rfl, ((HB.out.cell (World.block_lt_of_cell? w _ hw108_0)).trans hw108_0), ((HB.out.cell (World.block_lt_of_cell? w _ hw108_1)).trans hw108_1)⟩ (fun hHeld => ?_); refine with_tabW cells_Right.tab4 cells_Right.bits4 (fun HT_ HW_ => ?_)); (generalize w19.drew = w20 at BK106 HB hx108_0 hx108_1 hHeld ⊢); (refine take_ (i := 0) (N := some 12) (v := ?_) (a' := ?_) (bv 1 17) rfl rfl (take_ofW HT_.out HW_.out (by kernel_rfl)) (fun _ _ _ h => h) (Or.inl ⟨by rfl, ?_⟩) hHeld ?_ ?_); (rotate_left)
                      · (rintro w' ⟨s0, s1, s2, s3⟩); (go_simp); (with_reducible rfl)
                      rotate_left
                      · (simp only [sA]); (rfl)
                      (refine one_ (i := 1) (N := some 13) (bv 2 16) rfl rfl (one_of HT_.out (by kernel_rfl)) (by decide) (fun K hK => ?_)); (refine goes_ Try.func52 (by kernel_rfl) rfl #[.agg #[.string ((rd_T42 l0 x7_1).f0), .string ((rd_T42 l0 x7_1).f1)]] (by rfl) rfl rfl (by (try simp only [List.map_toArray, List.map_cons, List.map_nil]); first | done | rfl | (simp only [List.length_drop, List.length_take]; rfl) | (simp only [*]; rfl)) ?_); (with_reducible refine (cells_cell_right.calls ((rd_T42 l0 x7_1).f0) ((rd_T42 l0 x7_1).f1) true _ A5.out).mono ?_); (rintro e w21 ⟨rfl, hb⟩); (refine ⟨_, rfl, ?_⟩); (replace BK106 := Aside0.mk (blk_below (mvB BK106.out) hb)); (replace HB := Aside0.mk (below_step (mvW HB.out) hb)); (clear hb); (refine hK.out _ _ ⟨(blk_cell BK106.out 0).trans rfl, (blk_cell BK106.out 1).trans rfl, ((HB.out.cell (World.block_lt_of_cell? w _ hw108_0)).trans hw108_0), ((HB.out.cell (World.block_lt_of_cell? w _ hw108_1)).trans hw108_1)⟩ (fun hHeld => ?_)); (clear hK K); (refine norm_ (a' := ?_) ?_ ?_); (rotate_left)
                      · (show Act.put _ (some 13) _ = _); (simp only [sA]); (rfl)
                      (refine pure_ (i := 2) (N := some 14) (v := ?_) (a' := ?_) (bv 3 15) rfl rfl (any_of HT_.out (by kernel_rfl)) (fun _ _ _ h => h) (Or.inl ⟨by rfl, ?_⟩) ?_ ?_); (rotate_left)
                      · (intro w'); (go_simp); (with_reducible rfl)
                      rotate_left
                      · (simp only [sA]); (rfl)
                      (refine pure_ (i := 3) (N := some 15) (v := ?_) (a' := ?_) (bv 4 14) rfl rfl (any_of HT_.out (by kernel_rfl)) (fun _ _ _ h => h) (Or.inl ⟨by rfl, ?_⟩) ?_ ?_); (rotate_left)
                      · (intro w'); (go_simp); (with_reducible rfl)
                      rotate_left
                      · (simp only [sA]); (rfl)
                      (refine pure_ (i := 4) (N := some 16) (v := ?_) (a' := ?_) (bv 5 13) rfl rfl (any_of HT_.out (by kernel_rfl)) (fun _ _ _ h => h) (Or.inl ⟨by rfl, ?_⟩) ?_ ?_); (rotate_left)
                      · (intro w'); (go_simp); (with_reducible rfl)
                      rotate_left
                      · (simp only [sA]); (rfl)
                      (refine pure_ (i := 5) (N := some 17) (v := ?_) (a' := ?_) (bv 6 12) rfl rfl (any_of HT_.out (by kernel_rfl)) (fun _ _ _ h => h) (Or.inl ⟨by rfl, ?_⟩) ?_ ?_); (rotate_left)
                      · (intro w'); (go_simp); (with_reducible rfl)
                      rotate_left
                      · (simp only [sA]); (rfl)
                      (refine pure_ (i := 6) (N := some 18) (v := ?_) (a' := ?_) (bv 7 11) rfl rfl (any_of HT_.out (by kernel_rfl)) (fun _ _ _ h => h) (Or.inl ⟨by rfl, ?_⟩) ?_ ?_); (rotate_left)
                      · (intro w'); (go_simp); (with_reducible rfl)
                      rotate_left
                      · (simp only [sA]); (rfl)
                      (refine pure_ (i := 7) (N := some 19) (v := ?_) (a' := ?_) (bv 8 10) rfl rfl (any_of HT_.out (by kernel_rfl)) (fun _ _ _ h => h) (Or.inl ⟨by rfl, ?_⟩) ?_ ?_); (rotate_left)
                      · (intro w'); (go_simp); (with_reducible rfl)
                      rotate_left
                      · (simp only [sA]); (rfl)
                      (refine pure_ (i := 8) (N := some 20) (v := ?_) (a' := ?_) (bv 9 9) rfl rfl (any_of HT_.out (by kernel_rfl)) (fun _ _ _ h => h) (Or.inl ⟨by rfl, ?_⟩) ?_ ?_); (rotate_left)
                      · (intro w'); (go_simp); (with_reducible rfl)
                      rotate_left
                      · (simp only [sA]); (rfl)
                      (refine pure_ (i := 9) (N := some 21) (v := ?_) (a' := ?_) (bv 10 8) rfl rfl (any_of HT_.out (by kernel_rfl)) (fun _ _ _ h => h) (Or.inl ⟨by rfl, ?_⟩) ?_ ?_); (rotate_left)
                      · (intro w'); (go_simp); (with_reducible rfl)
                      rotate_left
                      · (simp only [sA]); (rfl)
                      (refine pure_ (i := 10) (N := some 22) (v := ?_) (a' := ?_) (bv 11 7) rfl rfl (any_of HT_.out (by kernel_rfl)) (fun _ _ _ h => h) (Or.inl ⟨by rfl, ?_⟩) ?_ ?_); (rotate_left)
                      · (intro w'); (go_simp); (with_reducible rfl)
                      rotate_left
                      · (simp only [sA]); (rfl)
                      (refine pure_ (i := 11) (N := some 23) (v := ?_) (a' := ?_) (bv 12 6) rfl rfl (any_of HT_.out (by kernel_rfl)) (fun _ _ _ h => h) (Or.inl ⟨by rfl, ?_⟩) ?_ ?_); (rotate_left)
                      · (intro w'); (go_simp); (with_reducible rfl)
                      rotate_left
                      · (simp only [sA]); (rfl)
                      (refine pure_ (i := 13) (N := some 25) (v := ?_) (a' := ?_) #[true, true, true, true, true, true, true, true, true, true, true, true, false, true, false, false, false, false] rfl rfl (any_of HT_.out (by kernel_rfl)) (fun _ _ _ h => h) (Or.inl ⟨by rfl, ?_⟩) ?_ ?_); (rotate_left)
                      · (intro w'); (go_simp); (with_reducible rfl)
                      rotate_left
                      · (simp only [sA]); (rfl)
                      (refine take_ (i := 12) (N := some 24) (v := ?_) (a' := ?_) (bv 14 4) rfl rfl (take_ofW HT_.out HW_.out (by kernel_rfl)) (fun _ _ _ h => h) (Or.inl ⟨by rfl, ?_⟩) hHeld ?_ ?_); (rotate_left)
                      · (rintro w' ⟨s0, s1, s2, s3⟩); (go_simp); (with_reducible rfl)
                      rotate_left
                      · (simp only [sA]); (rfl)
                      (refine take_ (i := 14) (N := some 26) (v := ?_) (a' := ?_) (bv 15 3) rfl rfl (take_ofW HT_.out HW_.out (by kernel_rfl)) (fun _ _ _ h => h) (Or.inl ⟨by rfl, ?_⟩) hHeld ?_ ?_); (rotate_left)
                      · (rintro w' ⟨s0, s1, s2, s3⟩); (go_simp); (with_reducible rfl)
                      rotate_left
                      · (simp only [sA]); (rfl)
                      (refine pure_ (i := 15) (N := some 27) (v := ?_) (a' := ?_) (bv 16 2) rfl rfl (any_of HT_.out (by kernel_rfl)) (fun _ _ _ h => h) (Or.inl ⟨by rfl, ?_⟩) ?_ ?_); (rotate_left)
                      · (intro w'); (go_simp); (with_reducible rfl)
                      rotate_left
                      · (simp only [sA]); (rfl)
                      (refine pure_ (i := 16) (N := some 28) (v := ?_) (a' := ?_) (bv 17 1) rfl rfl (any_of HT_.out (by kernel_rfl)) (fun _ _ _ h => h) (Or.inl ⟨by rfl, ?_⟩) ?_ ?_); (rotate_left)
                      · (intro w'); (go_simp); (with_reducible rfl)
                      rotate_left
                      · (simp only [sA]); (rfl)
                      (refine pure_ (i := 17) (N := some 29) (v := ?_) (a' := ?_) (bv 18 0) rfl rfl (any_of HT_.out (by kernel_rfl)) (fun _ _ _ h => h) (Or.inl ⟨by rfl, ?_⟩) ?_ ?_); (rotate_left)
                      · (intro w'); (go_simp); (with_reducible rfl)
                      rotate_left
                      · (simp only [sA]); (rfl)
                      (refine done_ (done_of HT_.out (by kernel_rfl)) ?_); (try go_wp2); (go_ret); (exact ⟨by first | rfl | (simp [errW_none, errW_some] <;> rfl) | (simp only [← hji8]; first | rfl | (simp [errW_none, errW_some] <;> rfl)) | (simp [*, errW_none, errW_some] <;> rfl), by repeat (first | (with_reducible first | exact HB.out | apply below_alloc | apply pw_below_drewN | apply below_drew1 | refine below_set ?_ GE106.out) | exact HB.out)⟩)
                  · (rw [if_neg c10] at H); (exact absurd H (by simp))
                · (rw [if_neg c9] at H); (exact absurd H (by simp))
              · (rw [if_neg c7] at H); (have c7b0 : decide (0 < x7_1) = false := decide_eq_false c7); (clear c7); (have H' := Aside0.mk H); (clear H); (have p105 : 0 ≤ (x7_1 : Int) := of_decide_eq_true (by first | (with_reducible assumption) | assumption)); (have q105 : x7_1 < (l0.length : Int) := of_decide_eq_true (by first | (with_reducible assumption) | assumption)); (obtain ⟨ad105, e105, hx105_0, hx105_1⟩ := at_T42 HR0.out x7_1 p105 q105); (cases e105); (replace hx105_0 := (HB.out.cell (World.block_lt_of_cell? w _ hx105_0)).trans hx105_0); (replace hx105_1 := (HB.out.cell (World.block_lt_of_cell? w _ hx105_1)).trans hx105_1); (replace p105 := eq_true p105); (replace q105 := eq_true q105); (try go_wp2_with (first | ((with_reducible refine gate_dst (N := 4) rfl ?_); refine box_event ?hg (N := 4) ?hd (cs := #[.string (⟨#[]⟩ : ByteArray), .string (⟨#[]⟩ : ByteArray)]) (t := 42) ?hr ?_; (case hd => rfl); (case hg => rfl); (case hr => first | (go_simp; done) | (go_simp; rfl)); intro gb106 hg w22 hbox hb; have BK106 := Aside0.mk (hbox); have GW106 := Aside0.mk ((by rw [hg]; exact (below_size (mvW HB.out)) : w.heap.size ≤ gb106)); have GE106 := Aside0.mk ((by rw [hg]; exact (below_size (mvW HB.out)) : w.heap.size ≤ gb106)); replace HB := Aside0.mk (below_step (mvW HB.out) hb); clear hb hbox hg; obtain ⟨Z23_0, Z23_1⟩ := bc2 BK106.out; obtain ⟨Y23_0, Y23_1⟩ := bf2 BK106.out))); (have n0_ : Aside0 (((w22.setCell ⟨gb106, 0, none⟩ (.string ((rd_T42 l0 x7_1).f0))).setCell ⟨gb106, 1, none⟩ (.string ((rd_T42 l0 x7_1).f1))).heap[gb106]? = some (.cells #[.string ((rd_T42 l0 x7_1).f0), .string ((rd_T42 l0 x7_1).f1)] 42 (0, 0))) := ⟨by (with_reducible repeat (first | refine blk_drewN ?_ _ | refine blk_drew ?_ | refine blk_alloc ?_ _)); refine blk_put (cs := #[.string ((rd_T42 l0 x7_1).f0), .string (⟨#[]⟩ : ByteArray)]) ?_ 1 _ rfl; (with_reducible repeat (first | refine blk_drewN ?_ _ | refine blk_drew ?_ | refine blk_alloc ?_ _)); refine blk_put (cs := #[.string (⟨#[]⟩ : ByteArray), .string (⟨#[]⟩ : ByteArray)]) ?_ 0 _ rfl; (with_reducible repeat (first | refine blk_drewN ?_ _ | refine blk_drew ?_ | refine blk_alloc ?_ _)); exact BK106.out⟩); (have n1_ : Aside0 (Below w.heap.size w ((w22.setCell ⟨gb106, 0, none⟩ (.string ((rd_T42 l0 x7_1).f0))).setCell ⟨gb106, 1, none⟩ (.string ((rd_T42 l0 x7_1).f1)))) := ⟨mvW HB.out⟩); ((try clear BK106)); ((try clear HB)); (generalize ((w22.setCell ⟨gb106, 0, none⟩ (.string ((rd_T42 l0 x7_1).f0))).setCell ⟨gb106, 1, none⟩ (.string ((rd_T42 l0 x7_1).f1))) = w24 at n0_ n1_ ⊢); (have BK106 := n0_); (have HB := n1_); (clear n0_ n1_); (replace BK106 := Aside0.mk (blk_drew BK106.out)); (replace HB := Aside0.mk (below_drew1 HB.out)); (refine start_ (n := 18) (S := fun w' => w'.cell? ⟨gb106, 0, none⟩ = some (.string ((rd_T42 l0 x7_1).f0)) ∧ w'.cell? ⟨gb106, 1, none⟩ = some (.string ((rd_T42 l0 x7_1).f1))) (ds := []) #[false, false, false, false, false, false, false, false, false, false, false, false, false, false, false, false, false, false] (by kernel_rfl) rfl rfl (bc2 BK106.out) (fun hHeld => ?_); refine with_tabW cells_Right.tab4 cells_Right.bits4 (fun HT_ HW_ => ?_)); (generalize w24.drew = w25 at BK106 HB hHeld ⊢); (refine take_ (i := 0) (N := some 12) (v := ?_) (a' := ?_) (bv 1 17) rfl rfl (take_ofW HT_.out HW_.out (by kernel_rfl)) (fun _ _ _ h => h) (Or.inl ⟨by rfl, ?_⟩) hHeld ?_ ?_); (rotate_left)
                · (rintro w' ⟨s0, s1⟩); (go_simp); (with_reducible rfl)
                rotate_left
                · (simp only [sA]); (rfl)
                (refine one_ (i := 1) (N := some 13) (bv 2 16) rfl rfl (one_of HT_.out (by kernel_rfl)) (by decide) (fun K hK => ?_)); (refine goes_ Try.func52 (by kernel_rfl) rfl #[.agg #[.string ((rd_T42 l0 x7_1).f0), .string ((rd_T42 l0 x7_1).f1)]] (by rfl) rfl rfl (by (try simp only [List.map_toArray, List.map_cons, List.map_nil]); first | done | rfl | (simp only [List.length_drop, List.length_take]; rfl) | (simp only [*]; rfl)) ?_); (with_reducible refine (cells_cell_right.calls ((rd_T42 l0 x7_1).f0) ((rd_T42 l0 x7_1).f1) true _ A5.out).mono ?_); (rintro e w26 ⟨rfl, hb⟩); (refine ⟨_, rfl, ?_⟩); (replace BK106 := Aside0.mk (blk_below (mvB BK106.out) hb)); (replace HB := Aside0.mk (below_step (mvW HB.out) hb)); (clear hb); (refine hK.out _ _ (bc2 BK106.out) (fun hHeld => ?_)); (clear hK K); (refine norm_ (a' := ?_) ?_ ?_); (rotate_left)
                · (show Act.put _ (some 13) _ = _); (simp only [sA]); (rfl)
                (refine pure_ (i := 2) (N := some 14) (v := ?_) (a' := ?_) (bv 3 15) rfl rfl (any_of HT_.out (by kernel_rfl)) (fun _ _ _ h => h) (Or.inl ⟨by rfl, ?_⟩) ?_ ?_); (rotate_left)
                · (intro w'); (go_simp); (with_reducible rfl)
                rotate_left
                · (simp only [sA]); (rfl)
                (refine pure_ (i := 3) (N := some 15) (v := ?_) (a' := ?_) (bv 4 14) rfl rfl (any_of HT_.out (by kernel_rfl)) (fun _ _ _ h => h) (Or.inl ⟨by rfl, ?_⟩) ?_ ?_); (rotate_left)
                · (intro w'); (go_simp); (with_reducible rfl)
                rotate_left
                · (simp only [sA]); (rfl)
                (refine pure_ (i := 4) (N := some 16) (v := ?_) (a' := ?_) (bv 5 13) rfl rfl (any_of HT_.out (by kernel_rfl)) (fun _ _ _ h => h) (Or.inl ⟨by rfl, ?_⟩) ?_ ?_); (rotate_left)
                · (intro w'); (go_simp); (with_reducible rfl)
                rotate_left
                · (simp only [sA]); (rfl)
                (refine pure_ (i := 5) (N := some 17) (v := ?_) (a' := ?_) (bv 6 12) rfl rfl (any_of HT_.out (by kernel_rfl)) (fun _ _ _ h => h) (Or.inl ⟨by rfl, ?_⟩) ?_ ?_); (rotate_left)
                · (intro w'); (go_simp); (with_reducible rfl)
                rotate_left
                · (simp only [sA]); (rfl)
                (refine pure_ (i := 6) (N := some 18) (v := ?_) (a' := ?_) (bv 7 11) rfl rfl (any_of HT_.out (by kernel_rfl)) (fun _ _ _ h => h) (Or.inl ⟨by rfl, ?_⟩) ?_ ?_); (rotate_left)
                · (intro w'); (go_simp); (with_reducible rfl)
                rotate_left
                · (simp only [sA]); (rfl)
                (refine pure_ (i := 7) (N := some 19) (v := undef) (a' := ?_) (bv 8 10) rfl rfl (any_of HT_.out (by kernel_rfl)) (fun _ _ _ h => h) (Or.inr ⟨by rfl, rfl⟩) ?_ ?_); (rotate_left)
                · (simp only [sA]); (rfl)
                (refine pure_ (i := 8) (N := some 20) (v := undef) (a' := ?_) (bv 9 9) rfl rfl (any_of HT_.out (by kernel_rfl)) (fun _ _ _ h => h) (Or.inr ⟨by rfl, rfl⟩) ?_ ?_); (rotate_left)
                · (simp only [sA]); (rfl)
                (refine pure_ (i := 9) (N := some 21) (v := undef) (a' := ?_) (bv 10 8) rfl rfl (any_of HT_.out (by kernel_rfl)) (fun _ _ _ h => h) (Or.inr ⟨by rfl, rfl⟩) ?_ ?_); (rotate_left)
                · (simp only [sA]); (rfl)
                (refine pure_ (i := 10) (N := some 22) (v := undef) (a' := ?_) (bv 11 7) rfl rfl (any_of HT_.out (by kernel_rfl)) (fun _ _ _ h => h) (Or.inr ⟨by rfl, rfl⟩) ?_ ?_); (rotate_left)
                · (simp only [sA]); (rfl)
                (refine pure_ (i := 11) (N := some 23) (v := undef) (a' := ?_) (bv 12 6) rfl rfl (any_of HT_.out (by kernel_rfl)) (fun _ _ _ h => h) (Or.inr ⟨by rfl, rfl⟩) ?_ ?_); (rotate_left)
                · (simp only [sA]); (rfl)
                (refine pure_ (i := 12) (N := some 24) (v := undef) (a' := ?_) (bv 13 5) rfl rfl (any_of HT_.out (by kernel_rfl)) (fun _ _ _ h => h) (Or.inr ⟨by rfl, rfl⟩) ?_ ?_); (rotate_left)
                · (simp only [sA]); (rfl)
                (refine pure_ (i := 13) (N := some 25) (v := undef) (a' := ?_) (bv 14 4) rfl rfl (any_of HT_.out (by kernel_rfl)) (fun _ _ _ h => h) (Or.inr ⟨by rfl, rfl⟩) ?_ ?_); (rotate_left)
                · (simp only [sA]); (rfl)
                (refine pure_ (i := 14) (N := some 26) (v := undef) (a' := ?_) (bv 15 3) rfl rfl (any_of HT_.out (by kernel_rfl)) (fun _ _ _ h => h) (Or.inr ⟨by rfl, rfl⟩) ?_ ?_); (rotate_left)
                · (simp only [sA]); (rfl)
                (refine pure_ (i := 15) (N := some 27) (v := undef) (a' := ?_) (bv 16 2) rfl rfl (any_of HT_.out (by kernel_rfl)) (fun _ _ _ h => h) (Or.inr ⟨by rfl, rfl⟩) ?_ ?_); (rotate_left)
                · (simp only [sA]); (rfl)
                (refine pure_ (i := 16) (N := some 28) (v := ?_) (a' := ?_) (bv 17 1) rfl rfl (any_of HT_.out (by kernel_rfl)) (fun _ _ _ h => h) (Or.inl ⟨by rfl, ?_⟩) ?_ ?_); (rotate_left)
                · (intro w'); (go_simp); (with_reducible rfl)
                rotate_left
                · (simp only [sA]); (rfl)
                (refine pure_ (i := 17) (N := some 29) (v := ?_) (a' := ?_) (bv 18 0) rfl rfl (any_of HT_.out (by kernel_rfl)) (fun _ _ _ h => h) (Or.inl ⟨by rfl, ?_⟩) ?_ ?_); (rotate_left)
                · (intro w'); (go_simp); (with_reducible rfl)
                rotate_left
                · (simp only [sA]); (rfl)
                (refine done_ (done_of HT_.out (by kernel_rfl)) ?_); (try go_wp2); (go_roundg k1)
                case measure => have := HK1.out; omega
                case rel => exact ⟨(wrap64 (x7_1 + 1)), (by first | rfl | (simp; done) | (simp [*]; done)), H', ⟨by have := HK1.out; omega⟩, ⟨mvW HB.out⟩⟩
            · (replace c6 := Bool.eq_false_iff.mpr c6); (subst c6); (have H1 : (some false) = some r := by rw [if_neg (show ¬ (false = true) by decide)] at H; exact H); (clear H); (have H := H1); (clear H1); (obtain rfl := Option.some.inj H); (have p105 : 0 ≤ (x7_1 : Int) := of_decide_eq_true (by first | (with_reducible assumption) | assumption)); (have q105 : x7_1 < (l0.length : Int) := of_decide_eq_true (by first | (with_reducible assumption) | assumption)); (obtain ⟨ad105, e105, hx105_0, hx105_1⟩ := at_T42 HR0.out x7_1 p105 q105); (cases e105); (replace hx105_0 := (HB.out.cell (World.block_lt_of_cell? w _ hx105_0)).trans hx105_0); (replace hx105_1 := (HB.out.cell (World.block_lt_of_cell? w _ hx105_1)).trans hx105_1); (replace p105 := eq_true p105); (replace q105 := eq_true q105); (try go_wp2_with (first | ((with_reducible refine gate_dst (N := 4) rfl ?_); refine box_event ?hg (N := 4) ?hd (cs := #[.string (⟨#[]⟩ : ByteArray), .string (⟨#[]⟩ : ByteArray)]) (t := 42) ?hr ?_; (case hd => rfl); (case hg => rfl); (case hr => first | (go_simp; done) | (go_simp; rfl)); intro gb106 hg w27 hbox hb; have BK106 := Aside0.mk (hbox); have GW106 := Aside0.mk ((by rw [hg]; exact (below_size (mvW HB.out)) : w.heap.size ≤ gb106)); have GE106 := Aside0.mk ((by rw [hg]; exact (below_size (mvW HB.out)) : w.heap.size ≤ gb106)); replace HB := Aside0.mk (below_step (mvW HB.out) hb); clear hb hbox hg; obtain ⟨Z28_0, Z28_1⟩ := bc2 BK106.out; obtain ⟨Y28_0, Y28_1⟩ := bf2 BK106.out))); (have n0_ : Aside0 (((w27.setCell ⟨gb106, 0, none⟩ (.string ((rd_T42 l0 x7_1).f0))).setCell ⟨gb106, 1, none⟩ (.string ((rd_T42 l0 x7_1).f1))).heap[gb106]? = some (.cells #[.string ((rd_T42 l0 x7_1).f0), .string ((rd_T42 l0 x7_1).f1)] 42 (0, 0))) := ⟨by (with_reducible repeat (first | refine blk_drewN ?_ _ | refine blk_drew ?_ | refine blk_alloc ?_ _)); refine blk_put (cs := #[.string ((rd_T42 l0 x7_1).f0), .string (⟨#[]⟩ : ByteArray)]) ?_ 1 _ rfl; (with_reducible repeat (first | refine blk_drewN ?_ _ | refine blk_drew ?_ | refine blk_alloc ?_ _)); refine blk_put (cs := #[.string (⟨#[]⟩ : ByteArray), .string (⟨#[]⟩ : ByteArray)]) ?_ 0 _ rfl; (with_reducible repeat (first | refine blk_drewN ?_ _ | refine blk_drew ?_ | refine blk_alloc ?_ _)); exact BK106.out⟩); (have n1_ : Aside0 (Below w.heap.size w ((w27.setCell ⟨gb106, 0, none⟩ (.string ((rd_T42 l0 x7_1).f0))).setCell ⟨gb106, 1, none⟩ (.string ((rd_T42 l0 x7_1).f1)))) := ⟨mvW HB.out⟩); ((try clear BK106)); ((try clear HB)); (generalize ((w27.setCell ⟨gb106, 0, none⟩ (.string ((rd_T42 l0 x7_1).f0))).setCell ⟨gb106, 1, none⟩ (.string ((rd_T42 l0 x7_1).f1))) = w29 at n0_ n1_ ⊢); (have BK106 := n0_); (have HB := n1_); (clear n0_ n1_); (replace BK106 := Aside0.mk (blk_drew BK106.out)); (replace HB := Aside0.mk (below_drew1 HB.out)); (refine start_ (n := 18) (S := fun w' => w'.cell? ⟨gb106, 0, none⟩ = some (.string ((rd_T42 l0 x7_1).f0)) ∧ w'.cell? ⟨gb106, 1, none⟩ = some (.string ((rd_T42 l0 x7_1).f1))) (ds := []) #[false, false, false, false, false, false, false, false, false, false, false, false, false, false, false, false, false, false] (by kernel_rfl) rfl rfl (bc2 BK106.out) (fun hHeld => ?_); refine with_tabW cells_Right.tab4 cells_Right.bits4 (fun HT_ HW_ => ?_)); (generalize w29.drew = w30 at BK106 HB hHeld ⊢); (refine take_ (i := 0) (N := some 12) (v := ?_) (a' := ?_) (bv 1 17) rfl rfl (take_ofW HT_.out HW_.out (by kernel_rfl)) (fun _ _ _ h => h) (Or.inl ⟨by rfl, ?_⟩) hHeld ?_ ?_); (rotate_left)
              · (rintro w' ⟨s0, s1⟩); (go_simp); (with_reducible rfl)
              rotate_left
              · (simp only [sA]); (rfl)
              (refine one_ (i := 1) (N := some 13) (bv 2 16) rfl rfl (one_of HT_.out (by kernel_rfl)) (by decide) (fun K hK => ?_)); (refine goes_ Try.func52 (by kernel_rfl) rfl #[.agg #[.string ((rd_T42 l0 x7_1).f0), .string ((rd_T42 l0 x7_1).f1)]] (by rfl) rfl rfl (by (try simp only [List.map_toArray, List.map_cons, List.map_nil]); first | done | rfl | (simp only [List.length_drop, List.length_take]; rfl) | (simp only [*]; rfl)) ?_); (with_reducible refine (cells_cell_right.calls ((rd_T42 l0 x7_1).f0) ((rd_T42 l0 x7_1).f1) false _ A5.out).mono ?_); (rintro e w31 ⟨rfl, hb⟩); (refine ⟨_, rfl, ?_⟩); (replace BK106 := Aside0.mk (blk_below (mvB BK106.out) hb)); (replace HB := Aside0.mk (below_step (mvW HB.out) hb)); (clear hb); (refine hK.out _ _ (bc2 BK106.out) (fun hHeld => ?_)); (clear hK K); (refine norm_ (a' := ?_) ?_ ?_); (rotate_left)
              · (show Act.put _ (some 13) _ = _); (simp only [sA]); (rfl)
              (refine pure_ (i := 2) (N := some 14) (v := ?_) (a' := ?_) (bv 3 15) rfl rfl (any_of HT_.out (by kernel_rfl)) (fun _ _ _ h => h) (Or.inl ⟨by rfl, ?_⟩) ?_ ?_); (rotate_left)
              · (intro w'); (go_simp); (with_reducible rfl)
              rotate_left
              · (simp only [sA]); (rfl)
              (refine pure_ (i := 3) (N := some 15) (v := ?_) (a' := ?_) (bv 4 14) rfl rfl (any_of HT_.out (by kernel_rfl)) (fun _ _ _ h => h) (Or.inl ⟨by rfl, ?_⟩) ?_ ?_); (rotate_left)
              · (intro w'); (go_simp); (with_reducible rfl)
              rotate_left
              · (simp only [sA]); (rfl)
              (refine pure_ (i := 4) (N := some 16) (v := undef) (a' := ?_) (bv 5 13) rfl rfl (any_of HT_.out (by kernel_rfl)) (fun _ _ _ h => h) (Or.inr ⟨by rfl, rfl⟩) ?_ ?_); (rotate_left)
              · (simp only [sA]); (rfl)
              (refine pure_ (i := 5) (N := some 17) (v := undef) (a' := ?_) (bv 6 12) rfl rfl (any_of HT_.out (by kernel_rfl)) (fun _ _ _ h => h) (Or.inr ⟨by rfl, rfl⟩) ?_ ?_); (rotate_left)
              · (simp only [sA]); (rfl)
              (refine pure_ (i := 6) (N := some 18) (v := undef) (a' := ?_) (bv 7 11) rfl rfl (any_of HT_.out (by kernel_rfl)) (fun _ _ _ h => h) (Or.inr ⟨by rfl, rfl⟩) ?_ ?_); (rotate_left)
              · (simp only [sA]); (rfl)
              (refine pure_ (i := 7) (N := some 19) (v := undef) (a' := ?_) (bv 8 10) rfl rfl (any_of HT_.out (by kernel_rfl)) (fun _ _ _ h => h) (Or.inr ⟨by rfl, rfl⟩) ?_ ?_); (rotate_left)
              · (simp only [sA]); (rfl)
              (refine pure_ (i := 8) (N := some 20) (v := undef) (a' := ?_) (bv 9 9) rfl rfl (any_of HT_.out (by kernel_rfl)) (fun _ _ _ h => h) (Or.inr ⟨by rfl, rfl⟩) ?_ ?_); (rotate_left)
              · (simp only [sA]); (rfl)
              (refine pure_ (i := 9) (N := some 21) (v := undef) (a' := ?_) (bv 10 8) rfl rfl (any_of HT_.out (by kernel_rfl)) (fun _ _ _ h => h) (Or.inr ⟨by rfl, rfl⟩) ?_ ?_); (rotate_left)
              · (simp only [sA]); (rfl)
              (refine pure_ (i := 10) (N := some 22) (v := undef) (a' := ?_) (bv 11 7) rfl rfl (any_of HT_.out (by kernel_rfl)) (fun _ _ _ h => h) (Or.inr ⟨by rfl, rfl⟩) ?_ ?_); (rotate_left)
              · (simp only [sA]); (rfl)
              (refine pure_ (i := 11) (N := some 23) (v := undef) (a' := ?_) (bv 12 6) rfl rfl (any_of HT_.out (by kernel_rfl)) (fun _ _ _ h => h) (Or.inr ⟨by rfl, rfl⟩) ?_ ?_); (rotate_left)
              · (simp only [sA]); (rfl)
              (refine pure_ (i := 12) (N := some 24) (v := undef) (a' := ?_) (bv 13 5) rfl rfl (any_of HT_.out (by kernel_rfl)) (fun _ _ _ h => h) (Or.inr ⟨by rfl, rfl⟩) ?_ ?_); (rotate_left)
              · (simp only [sA]); (rfl)
              (refine pure_ (i := 13) (N := some 25) (v := undef) (a' := ?_) (bv 14 4) rfl rfl (any_of HT_.out (by kernel_rfl)) (fun _ _ _ h => h) (Or.inr ⟨by rfl, rfl⟩) ?_ ?_); (rotate_left)
              · (simp only [sA]); (rfl)
              (refine pure_ (i := 14) (N := some 26) (v := undef) (a' := ?_) (bv 15 3) rfl rfl (any_of HT_.out (by kernel_rfl)) (fun _ _ _ h => h) (Or.inr ⟨by rfl, rfl⟩) ?_ ?_); (rotate_left)
              · (simp only [sA]); (rfl)
              (refine pure_ (i := 15) (N := some 27) (v := undef) (a' := ?_) (bv 16 2) rfl rfl (any_of HT_.out (by kernel_rfl)) (fun _ _ _ h => h) (Or.inr ⟨by rfl, rfl⟩) ?_ ?_); (rotate_left)
              · (simp only [sA]); (rfl)
              (refine pure_ (i := 16) (N := some 28) (v := undef) (a' := ?_) (bv 17 1) rfl rfl (any_of HT_.out (by kernel_rfl)) (fun _ _ _ h => h) (Or.inr ⟨by rfl, rfl⟩) ?_ ?_); (rotate_left)
              · (simp only [sA]); (rfl)
              (refine pure_ (i := 17) (N := some 29) (v := ?_) (a' := ?_) (bv 18 0) rfl rfl (any_of HT_.out (by kernel_rfl)) (fun _ _ _ h => h) (Or.inl ⟨by rfl, ?_⟩) ?_ ?_); (rotate_left)
              · (intro w'); (go_simp); (with_reducible rfl)
              rotate_left
              · (simp only [sA]); (rfl)
              (refine done_ (done_of HT_.out (by kernel_rfl)) ?_); (try go_wp2); (go_ret); (exact ⟨by first | rfl | (simp [errW_none, errW_some] <;> rfl) | (simp [*, errW_none, errW_some] <;> rfl), by repeat (first | (with_reducible first | exact HB.out | apply below_alloc | apply pw_below_drewN | apply below_drew1 | refine below_set ?_ GE106.out) | exact HB.out)⟩)
          · (rw [if_neg c4] at H); (exact absurd H (by simp))
        · (rw [if_neg c3] at H); (exact absurd H (by simp))
      · (rw [if_neg c2] at H); (have c2b0 : decide (x7_1 < (l0.length : Int)) = false := decide_eq_false c2); (clear c2); (obtain rfl := Option.some.inj H); (go_wp2); (go_ret); (exact ⟨by first | rfl | (simp [errW_none, errW_some] <;> rfl) | (simp [*, errW_none, errW_some] <;> rfl), by repeat (first | (with_reducible first | exact HB.out | apply below_alloc | apply pw_below_drewN | apply below_drew1) | exact HB.out)⟩)

/-! ### model_key: function 30 -/
def model_key.f (a0_0 : Int) (a0_1 : ByteArray) (a0_2 : ByteArray) (a0_3 : ByteArray) (a0_4 : ByteArray) (a0_5 : Bool) (a0_6 : Int) : Option (Bool × Bool) := if a0_0 ≥ 2 then (if a0_1.toList = ([] : List UInt8) then (some (decide (a0_0 ≤ 5), false)) else (if (a0_1.size : Int) ≤ 512 then (some (decide (a0_0 ≤ 5), decide ((a0_2.size : Int) ≤ 2048))) else (some (decide (a0_0 ≤ 5), false)))) else (if a0_1.toList = ([] : List UInt8) then (some (false, false)) else (if (a0_1.size : Int) ≤ 512 then (some (false, decide ((a0_2.size : Int) ≤ 2048))) else (some (false, false))))
set_option maxHeartbeats 8000000 in
set_option maxRecDepth 100000 in
theorem model_key.calls (a0_0 : Int) (a0_1 : ByteArray) (a0_2 : ByteArray) (a0_3 : ByteArray) (a0_4 : ByteArray) (a0_5 : Bool) (a0_6 : Int) (r1 : Bool) (r2 : Bool) (w : World) (h : model_key.f a0_0 a0_1 a0_2 a0_3 a0_4 a0_5 a0_6 = some (r1, r2)) :
    Calls Try.prog 30 #[.agg #[.int .u8 a0_0, .string a0_1, .string a0_2, .string a0_3, .string a0_4, .bool a0_5, .int .i64 a0_6]] w fun e w' => e = .returned (.tuple #[.bool r1, .bool r2]) ∧ Below w.heap.size w w' := by
  (have hu26 := Try.underlying26); (have HB := Aside0.mk (Below.refl w.heap.size w)); (have H : (if a0_0 ≥ 2 then (if a0_1.toList = ([] : List UInt8) then (some (decide (a0_0 ≤ 5), false)) else (if (a0_1.size : Int) ≤ 512 then (some (decide (a0_0 ≤ 5), decide ((a0_2.size : Int) ≤ 2048))) else (some (decide (a0_0 ≤ 5), false)))) else (if a0_1.toList = ([] : List UInt8) then (some (false, false)) else (if (a0_1.size : Int) ≤ 512 then (some (false, decide ((a0_2.size : Int) ≤ 2048))) else (some (false, false))))) = some (r1, r2) := h); (clear h); (by_cases c2 : a0_0 ≥ 2)
  · (rw [if_pos c2] at H); (have c2b0 : decide (2 ≤ a0_0) = true := decide_eq_true c2); (clear c2); (by_cases c3 : a0_1.toList = ([] : List UInt8))
    · (rw [if_pos c3] at H); (have c3b0 : (a0_1.toList == ([] : List UInt8)) = true := beq_iff_eq.mpr c3); (have c3b1 : (a0_1.toList != ([] : List UInt8)) = false := bne_eq_false_iff_eq.mpr c3); (clear c3); (simp only [Option.some.injEq, Prod.mk.injEq] at H); (obtain ⟨rfl, rfl⟩ := H); (go_enter Try.func30, Try.ntmps30); (go_wp2_with (first | ((with_reducible refine gate_dst (N := 1) rfl ?_); (try (refine gate_guard (by rfl) ?_; dsimp only)); refine box_event ?hg (N := 1) ?hd (cs := #[.int .u8 a0_0, .string a0_1, .string a0_2, .string a0_3, .string a0_4, .bool a0_5, .int .i64 a0_6]) (t := 26) ?hr ?_; (case hd => rfl); (case hg => rfl); (case hr => first | (go_simp; done) | (go_simp; rfl)); intro gb109 hg w4 hbox hb; have BK109 := Aside0.mk (hbox); have GW109 := Aside0.mk ((by rw [hg]; exact (below_size (mvW HB.out)) : w.heap.size ≤ gb109)); have GE109 := Aside0.mk ((by rw [hg]; exact (below_size (mvW HB.out)) : w.heap.size ≤ gb109)); replace HB := Aside0.mk (below_step (mvW HB.out) hb); clear hb hbox hg; obtain ⟨Z5_0, Z5_1, Z5_2, Z5_3, Z5_4, Z5_5, Z5_6⟩ := bc7 BK109.out; obtain ⟨Y5_0, Y5_1, Y5_2, Y5_3, Y5_4, Y5_5, Y5_6⟩ := bf7 BK109.out))); (repeat (go_quiet (first | ((with_reducible refine gate_dst (N := 1) rfl ?_); (try (refine gate_guard (by rfl) ?_; dsimp only)); refine box_event ?hg (N := 1) ?hd (cs := #[.int .u8 a0_0, .string a0_1, .string a0_2, .string a0_3, .string a0_4, .bool a0_5, .int .i64 a0_6]) (t := 26) ?hr ?_; (case hd => rfl); (case hg => rfl); (case hr => first | (go_simp; done) | (go_simp; rfl)); intro gb109 hg w4 hbox hb; have BK109 := Aside0.mk (hbox); have GW109 := Aside0.mk ((by rw [hg]; exact (below_size (mvW HB.out)) : w.heap.size ≤ gb109)); have GE109 := Aside0.mk ((by rw [hg]; exact (below_size (mvW HB.out)) : w.heap.size ≤ gb109)); replace HB := Aside0.mk (below_step (mvW HB.out) hb); clear hb hbox hg; obtain ⟨Z5_0, Z5_1, Z5_2, Z5_3, Z5_4, Z5_5, Z5_6⟩ := bc7 BK109.out; obtain ⟨Y5_0, Y5_1, Y5_2, Y5_3, Y5_4, Y5_5, Y5_6⟩ := bf7 BK109.out)); try go_wp2_with (first | ((with_reducible refine gate_dst (N := 1) rfl ?_); (try (refine gate_guard (by rfl) ?_; dsimp only)); refine box_event ?hg (N := 1) ?hd (cs := #[.int .u8 a0_0, .string a0_1, .string a0_2, .string a0_3, .string a0_4, .bool a0_5, .int .i64 a0_6]) (t := 26) ?hr ?_; (case hd => rfl); (case hg => rfl); (case hr => first | (go_simp; done) | (go_simp; rfl)); intro gb109 hg w4 hbox hb; have BK109 := Aside0.mk (hbox); have GW109 := Aside0.mk ((by rw [hg]; exact (below_size (mvW HB.out)) : w.heap.size ≤ gb109)); have GE109 := Aside0.mk ((by rw [hg]; exact (below_size (mvW HB.out)) : w.heap.size ≤ gb109)); replace HB := Aside0.mk (below_step (mvW HB.out) hb); clear hb hbox hg; obtain ⟨Z5_0, Z5_1, Z5_2, Z5_3, Z5_4, Z5_5, Z5_6⟩ := bc7 BK109.out; obtain ⟨Y5_0, Y5_1, Y5_2, Y5_3, Y5_4, Y5_5, Y5_6⟩ := bf7 BK109.out)))); (go_ret2); (exact ⟨by first | rfl | (simp [errW_none, errW_some] <;> rfl) | (simp [*, errW_none, errW_some] <;> rfl), by repeat (first | (with_reducible first | exact HB.out | apply below_alloc | apply pw_below_drewN | apply below_drew1 | refine below_set ?_ GE109.out) | exact HB.out)⟩)
    · (rw [if_neg c3] at H); (have c3b0 : (a0_1.toList == ([] : List UInt8)) = false := beq_eq_false_iff_ne.mpr c3); (have c3b1 : (a0_1.toList != ([] : List UInt8)) = true := bne_iff_ne.mpr c3); (by_cases c6 : (a0_1.size : Int) ≤ 512)
      · (rw [if_pos c6] at H); (have c6b0 : decide ((a0_1.size : Int) ≤ 512) = true := decide_eq_true c6); (have c6b1 : decide (a0_1.size ≤ 512) = true := decide_eq_true (by omega)); (clear c6); (simp only [Option.some.injEq, Prod.mk.injEq] at H); (obtain ⟨rfl, rfl⟩ := H); (go_enter Try.func30, Try.ntmps30); (go_wp2_with (first | ((with_reducible refine gate_dst (N := 1) rfl ?_); (try (refine gate_guard (by rfl) ?_; dsimp only)); refine box_event ?hg (N := 1) ?hd (cs := #[.int .u8 a0_0, .string a0_1, .string a0_2, .string a0_3, .string a0_4, .bool a0_5, .int .i64 a0_6]) (t := 26) ?hr ?_; (case hd => rfl); (case hg => rfl); (case hr => first | (go_simp; done) | (go_simp; rfl)); intro gb109 hg w7 hbox hb; have BK109 := Aside0.mk (hbox); have GW109 := Aside0.mk ((by rw [hg]; exact (below_size (mvW HB.out)) : w.heap.size ≤ gb109)); have GE109 := Aside0.mk ((by rw [hg]; exact (below_size (mvW HB.out)) : w.heap.size ≤ gb109)); replace HB := Aside0.mk (below_step (mvW HB.out) hb); clear hb hbox hg; obtain ⟨Z8_0, Z8_1, Z8_2, Z8_3, Z8_4, Z8_5, Z8_6⟩ := bc7 BK109.out; obtain ⟨Y8_0, Y8_1, Y8_2, Y8_3, Y8_4, Y8_5, Y8_6⟩ := bf7 BK109.out))); (repeat (go_quiet (first | ((with_reducible refine gate_dst (N := 1) rfl ?_); (try (refine gate_guard (by rfl) ?_; dsimp only)); refine box_event ?hg (N := 1) ?hd (cs := #[.int .u8 a0_0, .string a0_1, .string a0_2, .string a0_3, .string a0_4, .bool a0_5, .int .i64 a0_6]) (t := 26) ?hr ?_; (case hd => rfl); (case hg => rfl); (case hr => first | (go_simp; done) | (go_simp; rfl)); intro gb109 hg w7 hbox hb; have BK109 := Aside0.mk (hbox); have GW109 := Aside0.mk ((by rw [hg]; exact (below_size (mvW HB.out)) : w.heap.size ≤ gb109)); have GE109 := Aside0.mk ((by rw [hg]; exact (below_size (mvW HB.out)) : w.heap.size ≤ gb109)); replace HB := Aside0.mk (below_step (mvW HB.out) hb); clear hb hbox hg; obtain ⟨Z8_0, Z8_1, Z8_2, Z8_3, Z8_4, Z8_5, Z8_6⟩ := bc7 BK109.out; obtain ⟨Y8_0, Y8_1, Y8_2, Y8_3, Y8_4, Y8_5, Y8_6⟩ := bf7 BK109.out)); try go_wp2_with (first | ((with_reducible refine gate_dst (N := 1) rfl ?_); (try (refine gate_guard (by rfl) ?_; dsimp only)); refine box_event ?hg (N := 1) ?hd (cs := #[.int .u8 a0_0, .string a0_1, .string a0_2, .string a0_3, .string a0_4, .bool a0_5, .int .i64 a0_6]) (t := 26) ?hr ?_; (case hd => rfl); (case hg => rfl); (case hr => first | (go_simp; done) | (go_simp; rfl)); intro gb109 hg w7 hbox hb; have BK109 := Aside0.mk (hbox); have GW109 := Aside0.mk ((by rw [hg]; exact (below_size (mvW HB.out)) : w.heap.size ≤ gb109)); have GE109 := Aside0.mk ((by rw [hg]; exact (below_size (mvW HB.out)) : w.heap.size ≤ gb109)); replace HB := Aside0.mk (below_step (mvW HB.out) hb); clear hb hbox hg; obtain ⟨Z8_0, Z8_1, Z8_2, Z8_3, Z8_4, Z8_5, Z8_6⟩ := bc7 BK109.out; obtain ⟨Y8_0, Y8_1, Y8_2, Y8_3, Y8_4, Y8_5, Y8_6⟩ := bf7 BK109.out)))); (go_ret2); (exact ⟨by first | rfl | (simp [errW_none, errW_some] <;> rfl) | (simp [*, errW_none, errW_some] <;> rfl), by repeat (first | (with_reducible first | exact HB.out | apply below_alloc | apply pw_below_drewN | apply below_drew1 | refine below_set ?_ GE109.out) | exact HB.out)⟩)
      · (rw [if_neg c6] at H); (have c6b0 : decide ((a0_1.size : Int) ≤ 512) = false := decide_eq_false c6); (have c6b1 : decide (a0_1.size ≤ 512) = false := decide_eq_false (by omega)); (clear c6); (simp only [Option.some.injEq, Prod.mk.injEq] at H); (obtain ⟨rfl, rfl⟩ := H); (go_enter Try.func30, Try.ntmps30); (go_wp2_with (first | ((with_reducible refine gate_dst (N := 1) rfl ?_); (try (refine gate_guard (by rfl) ?_; dsimp only)); refine box_event ?hg (N := 1) ?hd (cs := #[.int .u8 a0_0, .string a0_1, .string a0_2, .string a0_3, .string a0_4, .bool a0_5, .int .i64 a0_6]) (t := 26) ?hr ?_; (case hd => rfl); (case hg => rfl); (case hr => first | (go_simp; done) | (go_simp; rfl)); intro gb109 hg w9 hbox hb; have BK109 := Aside0.mk (hbox); have GW109 := Aside0.mk ((by rw [hg]; exact (below_size (mvW HB.out)) : w.heap.size ≤ gb109)); have GE109 := Aside0.mk ((by rw [hg]; exact (below_size (mvW HB.out)) : w.heap.size ≤ gb109)); replace HB := Aside0.mk (below_step (mvW HB.out) hb); clear hb hbox hg; obtain ⟨Z10_0, Z10_1, Z10_2, Z10_3, Z10_4, Z10_5, Z10_6⟩ := bc7 BK109.out; obtain ⟨Y10_0, Y10_1, Y10_2, Y10_3, Y10_4, Y10_5, Y10_6⟩ := bf7 BK109.out))); (repeat (go_quiet (first | ((with_reducible refine gate_dst (N := 1) rfl ?_); (try (refine gate_guard (by rfl) ?_; dsimp only)); refine box_event ?hg (N := 1) ?hd (cs := #[.int .u8 a0_0, .string a0_1, .string a0_2, .string a0_3, .string a0_4, .bool a0_5, .int .i64 a0_6]) (t := 26) ?hr ?_; (case hd => rfl); (case hg => rfl); (case hr => first | (go_simp; done) | (go_simp; rfl)); intro gb109 hg w9 hbox hb; have BK109 := Aside0.mk (hbox); have GW109 := Aside0.mk ((by rw [hg]; exact (below_size (mvW HB.out)) : w.heap.size ≤ gb109)); have GE109 := Aside0.mk ((by rw [hg]; exact (below_size (mvW HB.out)) : w.heap.size ≤ gb109)); replace HB := Aside0.mk (below_step (mvW HB.out) hb); clear hb hbox hg; obtain ⟨Z10_0, Z10_1, Z10_2, Z10_3, Z10_4, Z10_5, Z10_6⟩ := bc7 BK109.out; obtain ⟨Y10_0, Y10_1, Y10_2, Y10_3, Y10_4, Y10_5, Y10_6⟩ := bf7 BK109.out)); try go_wp2_with (first | ((with_reducible refine gate_dst (N := 1) rfl ?_); (try (refine gate_guard (by rfl) ?_; dsimp only)); refine box_event ?hg (N := 1) ?hd (cs := #[.int .u8 a0_0, .string a0_1, .string a0_2, .string a0_3, .string a0_4, .bool a0_5, .int .i64 a0_6]) (t := 26) ?hr ?_; (case hd => rfl); (case hg => rfl); (case hr => first | (go_simp; done) | (go_simp; rfl)); intro gb109 hg w9 hbox hb; have BK109 := Aside0.mk (hbox); have GW109 := Aside0.mk ((by rw [hg]; exact (below_size (mvW HB.out)) : w.heap.size ≤ gb109)); have GE109 := Aside0.mk ((by rw [hg]; exact (below_size (mvW HB.out)) : w.heap.size ≤ gb109)); replace HB := Aside0.mk (below_step (mvW HB.out) hb); clear hb hbox hg; obtain ⟨Z10_0, Z10_1, Z10_2, Z10_3, Z10_4, Z10_5, Z10_6⟩ := bc7 BK109.out; obtain ⟨Y10_0, Y10_1, Y10_2, Y10_3, Y10_4, Y10_5, Y10_6⟩ := bf7 BK109.out)))); (go_ret2); (exact ⟨by first | rfl | (simp [errW_none, errW_some] <;> rfl) | (simp [*, errW_none, errW_some] <;> rfl), by repeat (first | (with_reducible first | exact HB.out | apply below_alloc | apply pw_below_drewN | apply below_drew1 | refine below_set ?_ GE109.out) | exact HB.out)⟩)
  · (rw [if_neg c2] at H); (have c2b0 : decide (2 ≤ a0_0) = false := decide_eq_false c2); (clear c2); (by_cases c11 : a0_1.toList = ([] : List UInt8))
    · (rw [if_pos c11] at H); (have c11b0 : (a0_1.toList == ([] : List UInt8)) = true := beq_iff_eq.mpr c11); (have c11b1 : (a0_1.toList != ([] : List UInt8)) = false := bne_eq_false_iff_eq.mpr c11); (clear c11); (simp only [Option.some.injEq, Prod.mk.injEq] at H); (obtain ⟨rfl, rfl⟩ := H); (go_enter Try.func30, Try.ntmps30); (go_wp2_with (first | ((with_reducible refine gate_dst (N := 1) rfl ?_); (try (refine gate_guard (by rfl) ?_; dsimp only)); refine box_event ?hg (N := 1) ?hd (cs := #[.int .u8 a0_0, .string a0_1, .string a0_2, .string a0_3, .string a0_4, .bool a0_5, .int .i64 a0_6]) (t := 26) ?hr ?_; (case hd => rfl); (case hg => rfl); (case hr => first | (go_simp; done) | (go_simp; rfl)); intro gb109 hg w12 hbox hb; have BK109 := Aside0.mk (hbox); have GW109 := Aside0.mk ((by rw [hg]; exact (below_size (mvW HB.out)) : w.heap.size ≤ gb109)); have GE109 := Aside0.mk ((by rw [hg]; exact (below_size (mvW HB.out)) : w.heap.size ≤ gb109)); replace HB := Aside0.mk (below_step (mvW HB.out) hb); clear hb hbox hg; obtain ⟨Z13_0, Z13_1, Z13_2, Z13_3, Z13_4, Z13_5, Z13_6⟩ := bc7 BK109.out; obtain ⟨Y13_0, Y13_1, Y13_2, Y13_3, Y13_4, Y13_5, Y13_6⟩ := bf7 BK109.out))); (repeat (go_quiet (first | ((with_reducible refine gate_dst (N := 1) rfl ?_); (try (refine gate_guard (by rfl) ?_; dsimp only)); refine box_event ?hg (N := 1) ?hd (cs := #[.int .u8 a0_0, .string a0_1, .string a0_2, .string a0_3, .string a0_4, .bool a0_5, .int .i64 a0_6]) (t := 26) ?hr ?_; (case hd => rfl); (case hg => rfl); (case hr => first | (go_simp; done) | (go_simp; rfl)); intro gb109 hg w12 hbox hb; have BK109 := Aside0.mk (hbox); have GW109 := Aside0.mk ((by rw [hg]; exact (below_size (mvW HB.out)) : w.heap.size ≤ gb109)); have GE109 := Aside0.mk ((by rw [hg]; exact (below_size (mvW HB.out)) : w.heap.size ≤ gb109)); replace HB := Aside0.mk (below_step (mvW HB.out) hb); clear hb hbox hg; obtain ⟨Z13_0, Z13_1, Z13_2, Z13_3, Z13_4, Z13_5, Z13_6⟩ := bc7 BK109.out; obtain ⟨Y13_0, Y13_1, Y13_2, Y13_3, Y13_4, Y13_5, Y13_6⟩ := bf7 BK109.out)); try go_wp2_with (first | ((with_reducible refine gate_dst (N := 1) rfl ?_); (try (refine gate_guard (by rfl) ?_; dsimp only)); refine box_event ?hg (N := 1) ?hd (cs := #[.int .u8 a0_0, .string a0_1, .string a0_2, .string a0_3, .string a0_4, .bool a0_5, .int .i64 a0_6]) (t := 26) ?hr ?_; (case hd => rfl); (case hg => rfl); (case hr => first | (go_simp; done) | (go_simp; rfl)); intro gb109 hg w12 hbox hb; have BK109 := Aside0.mk (hbox); have GW109 := Aside0.mk ((by rw [hg]; exact (below_size (mvW HB.out)) : w.heap.size ≤ gb109)); have GE109 := Aside0.mk ((by rw [hg]; exact (below_size (mvW HB.out)) : w.heap.size ≤ gb109)); replace HB := Aside0.mk (below_step (mvW HB.out) hb); clear hb hbox hg; obtain ⟨Z13_0, Z13_1, Z13_2, Z13_3, Z13_4, Z13_5, Z13_6⟩ := bc7 BK109.out; obtain ⟨Y13_0, Y13_1, Y13_2, Y13_3, Y13_4, Y13_5, Y13_6⟩ := bf7 BK109.out)))); (go_ret2); (exact ⟨by first | rfl | (simp [errW_none, errW_some] <;> rfl) | (simp [*, errW_none, errW_some] <;> rfl), by repeat (first | (with_reducible first | exact HB.out | apply below_alloc | apply pw_below_drewN | apply below_drew1 | refine below_set ?_ GE109.out) | exact HB.out)⟩)
    · (rw [if_neg c11] at H); (have c11b0 : (a0_1.toList == ([] : List UInt8)) = false := beq_eq_false_iff_ne.mpr c11); (have c11b1 : (a0_1.toList != ([] : List UInt8)) = true := bne_iff_ne.mpr c11); (by_cases c14 : (a0_1.size : Int) ≤ 512)
      · (rw [if_pos c14] at H); (have c14b0 : decide ((a0_1.size : Int) ≤ 512) = true := decide_eq_true c14); (have c14b1 : decide (a0_1.size ≤ 512) = true := decide_eq_true (by omega)); (clear c14); (simp only [Option.some.injEq, Prod.mk.injEq] at H); (obtain ⟨rfl, rfl⟩ := H); (go_enter Try.func30, Try.ntmps30); (go_wp2_with (first | ((with_reducible refine gate_dst (N := 1) rfl ?_); (try (refine gate_guard (by rfl) ?_; dsimp only)); refine box_event ?hg (N := 1) ?hd (cs := #[.int .u8 a0_0, .string a0_1, .string a0_2, .string a0_3, .string a0_4, .bool a0_5, .int .i64 a0_6]) (t := 26) ?hr ?_; (case hd => rfl); (case hg => rfl); (case hr => first | (go_simp; done) | (go_simp; rfl)); intro gb109 hg w15 hbox hb; have BK109 := Aside0.mk (hbox); have GW109 := Aside0.mk ((by rw [hg]; exact (below_size (mvW HB.out)) : w.heap.size ≤ gb109)); have GE109 := Aside0.mk ((by rw [hg]; exact (below_size (mvW HB.out)) : w.heap.size ≤ gb109)); replace HB := Aside0.mk (below_step (mvW HB.out) hb); clear hb hbox hg; obtain ⟨Z16_0, Z16_1, Z16_2, Z16_3, Z16_4, Z16_5, Z16_6⟩ := bc7 BK109.out; obtain ⟨Y16_0, Y16_1, Y16_2, Y16_3, Y16_4, Y16_5, Y16_6⟩ := bf7 BK109.out))); (repeat (go_quiet (first | ((with_reducible refine gate_dst (N := 1) rfl ?_); (try (refine gate_guard (by rfl) ?_; dsimp only)); refine box_event ?hg (N := 1) ?hd (cs := #[.int .u8 a0_0, .string a0_1, .string a0_2, .string a0_3, .string a0_4, .bool a0_5, .int .i64 a0_6]) (t := 26) ?hr ?_; (case hd => rfl); (case hg => rfl); (case hr => first | (go_simp; done) | (go_simp; rfl)); intro gb109 hg w15 hbox hb; have BK109 := Aside0.mk (hbox); have GW109 := Aside0.mk ((by rw [hg]; exact (below_size (mvW HB.out)) : w.heap.size ≤ gb109)); have GE109 := Aside0.mk ((by rw [hg]; exact (below_size (mvW HB.out)) : w.heap.size ≤ gb109)); replace HB := Aside0.mk (below_step (mvW HB.out) hb); clear hb hbox hg; obtain ⟨Z16_0, Z16_1, Z16_2, Z16_3, Z16_4, Z16_5, Z16_6⟩ := bc7 BK109.out; obtain ⟨Y16_0, Y16_1, Y16_2, Y16_3, Y16_4, Y16_5, Y16_6⟩ := bf7 BK109.out)); try go_wp2_with (first | ((with_reducible refine gate_dst (N := 1) rfl ?_); (try (refine gate_guard (by rfl) ?_; dsimp only)); refine box_event ?hg (N := 1) ?hd (cs := #[.int .u8 a0_0, .string a0_1, .string a0_2, .string a0_3, .string a0_4, .bool a0_5, .int .i64 a0_6]) (t := 26) ?hr ?_; (case hd => rfl); (case hg => rfl); (case hr => first | (go_simp; done) | (go_simp; rfl)); intro gb109 hg w15 hbox hb; have BK109 := Aside0.mk (hbox); have GW109 := Aside0.mk ((by rw [hg]; exact (below_size (mvW HB.out)) : w.heap.size ≤ gb109)); have GE109 := Aside0.mk ((by rw [hg]; exact (below_size (mvW HB.out)) : w.heap.size ≤ gb109)); replace HB := Aside0.mk (below_step (mvW HB.out) hb); clear hb hbox hg; obtain ⟨Z16_0, Z16_1, Z16_2, Z16_3, Z16_4, Z16_5, Z16_6⟩ := bc7 BK109.out; obtain ⟨Y16_0, Y16_1, Y16_2, Y16_3, Y16_4, Y16_5, Y16_6⟩ := bf7 BK109.out)))); (go_ret2); (exact ⟨by first | rfl | (simp [errW_none, errW_some] <;> rfl) | (simp [*, errW_none, errW_some] <;> rfl), by repeat (first | (with_reducible first | exact HB.out | apply below_alloc | apply pw_below_drewN | apply below_drew1 | refine below_set ?_ GE109.out) | exact HB.out)⟩)
      · (rw [if_neg c14] at H); (have c14b0 : decide ((a0_1.size : Int) ≤ 512) = false := decide_eq_false c14); (have c14b1 : decide (a0_1.size ≤ 512) = false := decide_eq_false (by omega)); (clear c14); (simp only [Option.some.injEq, Prod.mk.injEq] at H); (obtain ⟨rfl, rfl⟩ := H); (go_enter Try.func30, Try.ntmps30); (go_wp2_with (first | ((with_reducible refine gate_dst (N := 1) rfl ?_); (try (refine gate_guard (by rfl) ?_; dsimp only)); refine box_event ?hg (N := 1) ?hd (cs := #[.int .u8 a0_0, .string a0_1, .string a0_2, .string a0_3, .string a0_4, .bool a0_5, .int .i64 a0_6]) (t := 26) ?hr ?_; (case hd => rfl); (case hg => rfl); (case hr => first | (go_simp; done) | (go_simp; rfl)); intro gb109 hg w17 hbox hb; have BK109 := Aside0.mk (hbox); have GW109 := Aside0.mk ((by rw [hg]; exact (below_size (mvW HB.out)) : w.heap.size ≤ gb109)); have GE109 := Aside0.mk ((by rw [hg]; exact (below_size (mvW HB.out)) : w.heap.size ≤ gb109)); replace HB := Aside0.mk (below_step (mvW HB.out) hb); clear hb hbox hg; obtain ⟨Z18_0, Z18_1, Z18_2, Z18_3, Z18_4, Z18_5, Z18_6⟩ := bc7 BK109.out; obtain ⟨Y18_0, Y18_1, Y18_2, Y18_3, Y18_4, Y18_5, Y18_6⟩ := bf7 BK109.out))); (repeat (go_quiet (first | ((with_reducible refine gate_dst (N := 1) rfl ?_); (try (refine gate_guard (by rfl) ?_; dsimp only)); refine box_event ?hg (N := 1) ?hd (cs := #[.int .u8 a0_0, .string a0_1, .string a0_2, .string a0_3, .string a0_4, .bool a0_5, .int .i64 a0_6]) (t := 26) ?hr ?_; (case hd => rfl); (case hg => rfl); (case hr => first | (go_simp; done) | (go_simp; rfl)); intro gb109 hg w17 hbox hb; have BK109 := Aside0.mk (hbox); have GW109 := Aside0.mk ((by rw [hg]; exact (below_size (mvW HB.out)) : w.heap.size ≤ gb109)); have GE109 := Aside0.mk ((by rw [hg]; exact (below_size (mvW HB.out)) : w.heap.size ≤ gb109)); replace HB := Aside0.mk (below_step (mvW HB.out) hb); clear hb hbox hg; obtain ⟨Z18_0, Z18_1, Z18_2, Z18_3, Z18_4, Z18_5, Z18_6⟩ := bc7 BK109.out; obtain ⟨Y18_0, Y18_1, Y18_2, Y18_3, Y18_4, Y18_5, Y18_6⟩ := bf7 BK109.out)); try go_wp2_with (first | ((with_reducible refine gate_dst (N := 1) rfl ?_); (try (refine gate_guard (by rfl) ?_; dsimp only)); refine box_event ?hg (N := 1) ?hd (cs := #[.int .u8 a0_0, .string a0_1, .string a0_2, .string a0_3, .string a0_4, .bool a0_5, .int .i64 a0_6]) (t := 26) ?hr ?_; (case hd => rfl); (case hg => rfl); (case hr => first | (go_simp; done) | (go_simp; rfl)); intro gb109 hg w17 hbox hb; have BK109 := Aside0.mk (hbox); have GW109 := Aside0.mk ((by rw [hg]; exact (below_size (mvW HB.out)) : w.heap.size ≤ gb109)); have GE109 := Aside0.mk ((by rw [hg]; exact (below_size (mvW HB.out)) : w.heap.size ≤ gb109)); replace HB := Aside0.mk (below_step (mvW HB.out) hb); clear hb hbox hg; obtain ⟨Z18_0, Z18_1, Z18_2, Z18_3, Z18_4, Z18_5, Z18_6⟩ := bc7 BK109.out; obtain ⟨Y18_0, Y18_1, Y18_2, Y18_3, Y18_4, Y18_5, Y18_6⟩ := bf7 BK109.out)))); (go_ret2); (exact ⟨by first | rfl | (simp [errW_none, errW_some] <;> rfl) | (simp [*, errW_none, errW_some] <;> rfl), by repeat (first | (with_reducible first | exact HB.out | apply below_alloc | apply pw_below_drewN | apply below_drew1 | refine below_set ?_ GE109.out) | exact HB.out)⟩)

/-! ### sort_Search: function 63 -/
/-- Go's binary search from i to j. -/
def bsearch (p : Nat → Bool) (i j : Nat) : Nat :=
  if h : i < j then (if p ((i + j) / 2) then bsearch p i ((i + j) / 2) else bsearch p ((i + j) / 2 + 1) j) else i
termination_by j - i
decreasing_by all_goals omega
theorem bsearch_done (p : Nat → Bool) (i : Nat) : bsearch p i i = i := by unfold bsearch; rw [dif_neg (by omega)]
theorem bsearch_yes {p : Nat → Bool} {i j : Nat} (h : i < j) (hp : p ((i + j) / 2) = true) : bsearch p i j = bsearch p i ((i + j) / 2) := by rw [bsearch, dif_pos h, if_pos hp]
theorem bsearch_no {p : Nat → Bool} {i j : Nat} (h : i < j) (hp : p ((i + j) / 2) = false) : bsearch p i j = bsearch p ((i + j) / 2 + 1) j := by rw [bsearch, dif_pos h, if_neg (by rw [hp]; simp)]
set_option maxHeartbeats 4000000 in
set_option maxRecDepth 100000 in
theorem search_calls (g : Nat) (cb : Array Value) (n : Nat) (p : Nat → Bool) (w : World) (eg : ∀ args w, (callFunc g args).run Try.prog w = .ok (.enter g args) w) (hsz : n < 4611686018427387904)
    (hf : ∀ (W : World) (i : Nat), Below w.heap.size w W → i < n → Calls Try.prog g (#[.int .i64 i] ++ cb) W fun e w' => e = .returned (.bool (p i)) ∧ Below W.heap.size W w') :
    Calls Try.prog 63 #[.int .i64 n, .func (.func g) #[] cb] w fun e w' => e = .returned (.int .i64 (bsearch p 0 n : Nat)) ∧ Below w.heap.size w w' := by
  have HF : Aside0 _ := ⟨hf⟩
  clear hf
  obtain ⟨r, hr⟩ : ∃ r, r = bsearch p 0 n := ⟨_, rfl⟩
  rw [← hr]
  have HR : Aside0 (bsearch p 0 n = r) := ⟨hr.symm⟩
  clear hr
  go_enter Try.func63, Try.ntmps63
  go_wp2
  go_loopg [5, 6] n (fun kx s5 s6 wr => ∃ (lo hi : Nat), s5 = .int .i64 lo ∧ s6 = .int .i64 hi ∧ lo ≤ hi ∧ hi ≤ n ∧ hi - lo ≤ kx ∧ Aside0 (Below w.heap.size w wr) ∧ Aside0 (bsearch p lo hi = r))
  case atStart => exact ⟨0, n, rfl, rfl, Nat.zero_le _, Nat.le_refl _, by omega, ⟨Below.refl _ _⟩, HR⟩
  case round =>
    obtain ⟨lo, hi, rfl, rfl, hlh, hin, hg, HB, I⟩ := hrel
    by_cases hlt : lo < hi
    · have hc := HF.out wr ((lo + hi) / 2) HB.out (by omega)
      rw [show (((lo + hi) / 2 : Nat) : Int) = ((lo : Int) + (hi : Int)) / 2 by omega] at hc
      cases hp : p ((lo + hi) / 2) <;> rw [hp] at hc
      · have HP : Aside0 (p ((lo + hi) / 2) = false) := ⟨hp⟩
        clear hp
        go_wp2_with (go_at_fn g; refine hc.mono ?_; rintro e w1 ⟨rfl, hb1⟩)
        go_roundg (hi - ((lo + hi) / 2 + 1))
        case measure => omega
        case rel => exact ⟨(lo + hi) / 2 + 1, hi, by rw [show ((lo : Int) + (hi : Int)) / 2 + 1 = (((lo + hi) / 2 + 1 : Nat) : Int) by omega], rfl, by omega, hin, Nat.le_refl _, ⟨below_step HB.out hb1⟩, ⟨(bsearch_no hlt HP.out).symm.trans I.out⟩⟩
      · have HP : Aside0 (p ((lo + hi) / 2) = true) := ⟨hp⟩
        clear hp
        go_wp2_with (go_at_fn g; refine hc.mono ?_; rintro e w1 ⟨rfl, hb1⟩)
        go_roundg ((lo + hi) / 2 - lo)
        case measure => omega
        case rel => exact ⟨lo, (lo + hi) / 2, rfl, by rw [show ((lo : Int) + (hi : Int)) / 2 = (((lo + hi) / 2 : Nat) : Int) by omega], by omega, by omega, Nat.le_refl _, ⟨below_step HB.out hb1⟩, ⟨(bsearch_yes hlt HP.out).symm.trans I.out⟩⟩
    · obtain rfl : hi = lo := by omega
      have e := I.out
      rw [bsearch_done] at e
      subst e
      go_wp2
      go_ret
      exact ⟨rfl, HB.out⟩
theorem bsearch_le0 (p : Nat → Bool) : ∀ (d i j : Nat), j - i = d → i ≤ j → i ≤ bsearch p i j ∧ bsearch p i j ≤ j := by
  intro d
  induction d using Nat.strongRecOn with
  | _ d ih =>
    intro i j hd hij
    by_cases h : i < j
    · cases hp : p ((i + j) / 2)
      · rw [bsearch_no h hp]
        have := ih (j - ((i + j) / 2 + 1)) (by omega) ((i + j) / 2 + 1) j rfl (by omega)
        omega
      · rw [bsearch_yes h hp]
        have := ih ((i + j) / 2 - i) (by omega) i ((i + j) / 2) rfl (by omega)
        omega
    · obtain rfl : i = j := by omega
      rw [bsearch_done]
      omega

/-! ### cells_At: function 53 -/
/-- Is a text greater than another one? -/
def cells_At_gt (a b : ByteArray) : Bool := Op.bytesLess b.toList a.toList
def cells_At.f (k : Nat) (l0 : List S42) (a1 : ByteArray) : Option (Int) := (cells_Right.f k l0).bind fun t => if t = true then (if l0.length < 4611686018427387904 then some (((bsearch (fun i => cells_At_gt (rd_T42 l0 i).f0 a1) 0 l0.length : Nat) : Int) - 1) else none) else some (-1)
theorem cells_At.mono : ∀ a0 a1 k, LeO (cells_At.f k a0 a1) (cells_At.f (k + 1) a0 a1) := by
  intro a0 a1 k
  exact LeO.bind (cells_Right.mono _ _) (fun _ => LeO.refl _)
set_option maxHeartbeats 4000000 in
theorem cells_At_clo_calls (ba bx : Nat) (A0 : Option Addr) (c : Nat) (l : List S42) (x : ByteArray) (i : Nat) (W : World) (hi : i < l.length) (hr : Kd.C k42 W A0 l.length l)
    (ha : W.cell? ⟨ba, 0, none⟩ = some (.slice A0 l.length c)) (hx : W.cell? ⟨bx, 0, none⟩ = some (.string x)) :
    Calls Try.prog 76 (#[.int .i64 i] ++ #[.pointer (some ⟨ba, 0, none⟩), .pointer (some ⟨bx, 0, none⟩)]) W fun e w' => e = .returned (.bool (cells_At_gt (rd_T42 l i).f0 x)) ∧ Below W.heap.size W w' := by
  obtain ⟨ad, rfl, hc, _⟩ := at_T42 hr i (by omega) (by omega)
  rw [Int.toNat_natCast] at hc
  generalize rd_T42 l i = y at hc ⊢
  have hiz : (i : Int) < (l.length : Int) := by omega
  have hu := Try.underlying42
  clear hr
  go_enter Try.func76, Try.ntmps76
  go_wp2
  go_region
  all_goals go_wp2
  all_goals go_ret
  all_goals exact ⟨by first | rfl | simp, below_drew1 (Below.refl _ _)⟩
set_option maxHeartbeats 4000000 in
theorem cells_At_above (A0 : Option Addr) (n c0 : Nat) (x : ByteArray) (w : World) : Calls Try.prog 62 #[.slice A0 n c0, .string x] w fun e w' =>
    e = .returned (.func (.func 76) #[] #[.pointer (some ⟨w.heap.size, 0, none⟩), .pointer (some ⟨w.heap.size + 1, 0, none⟩)]) ∧ w' = (w.alloc (.cells #[.slice A0 n c0] 89)).alloc (.cells #[.string x] 9) := by
  have hmf : ∀ (fn : Fn) (first cap : Array Value) (w : World), (Instr.makeFunc fn first cap).run Try.prog w = .ok (.func fn first cap) w := fun _ _ _ _ => rfl
  go_enter Try.func62, Try.ntmps62
  go_wp2
  go_ret
  exact ⟨rfl, rfl⟩
set_option maxHeartbeats 4000000 in
set_option maxRecDepth 100000 in
theorem cells_At.calls (k : Nat) (A0 : Option Addr) (c0 : Nat) (l0 : List S42) (a1 : ByteArray) (r : Int) (w : World) (hr0 : Kd.C k42 w A0 l0.length l0) (hc0 : l0.length ≤ c0) (h : cells_At.f k l0 a1 = some r) :
    Calls Try.prog 53 #[.slice A0 l0.length c0, .string a1] w fun e w' => e = .returned (.int .i64 r) ∧ Below w.heap.size w w' := by
  obtain ⟨t, ht, h⟩ := Option.bind_eq_some_iff.1 h
  have hR := cells_Right.calls k A0 c0 l0 t w hr0 hc0 ht
  cases t
  · rw [if_neg (by simp)] at h
    obtain rfl := Option.some.inj h
    go_enter Try.func53, Try.ntmps53
    go_wp2_with (go_at_call 28; refine hR.mono ?_; rintro e w1 ⟨rfl, hb⟩; have HB := Aside0.mk hb; clear hb)
    go_ret
    exact ⟨rfl, HB.out⟩
  · rw [if_pos rfl] at h
    have hlen : l0.length < 4611686018427387904 := by
      by_cases hl : l0.length < 4611686018427387904
      · exact hl
      · rw [if_neg hl] at h; cases h
    rw [if_pos hlen] at h
    obtain rfl := Option.some.inj h
    clear h
    have eg : ∀ args w, (callFunc 76 args).run Try.prog w = .ok (.enter 76 args) w := enters_of Try.func76 (by kernel_rfl) rfl
    have hS : ∀ w1, Below w.heap.size w w1 → Calls Try.prog 63 #[.int .i64 l0.length, .func (.func 76) #[] #[.pointer (some ⟨w1.heap.size, 0, none⟩), .pointer (some ⟨w1.heap.size + 1, 0, none⟩)]] ((w1.alloc (.cells #[.slice A0 l0.length c0] 89)).alloc (.cells #[.string a1] 9))
        fun e w' => e = .returned (.int .i64 (bsearch (fun i => cells_At_gt (rd_T42 l0 i).f0 a1) 0 l0.length : Nat)) ∧ Below w.heap.size w w' := by
      intro w1 hb1
      obtain ⟨W0, hW0⟩ : ∃ W0, W0 = (w1.alloc (.cells #[.slice A0 l0.length c0] 89)).alloc (.cells #[.string a1] 9) := ⟨_, rfl⟩
      have hB0 : Below w.heap.size w W0 := by rw [hW0]; exact below_alloc (below_alloc hb1 _) _
      have ca : W0.cell? ⟨w1.heap.size, 0, none⟩ = some (.slice A0 l0.length c0) := by
        rw [hW0]; exact (blk_cell (blk_alloc (blk_new w1 _) _) 0).trans rfl
      have cx : W0.cell? ⟨w1.heap.size + 1, 0, none⟩ = some (.string a1) := by
        have hb := blk_new (w1.alloc (.cells #[.slice A0 l0.length c0] 89)) (.cells #[.string a1] 9)
        rw [World.size_alloc] at hb
        rw [hW0]
        exact (blk_cell hb 0).trans rfl
      rw [← hW0]
      refine (search_calls 76 #[.pointer (some ⟨w1.heap.size, 0, none⟩), .pointer (some ⟨w1.heap.size + 1, 0, none⟩)] l0.length (fun i => cells_At_gt (rd_T42 l0 i).f0 a1) W0 eg hlen
        (fun W i hB hi => cells_At_clo_calls w1.heap.size (w1.heap.size + 1) A0 c0 l0 a1 i W hi (Kd.C_below (Kd.C_below hr0 hB0) hB) (pw_cell_below hB ca) (pw_cell_below hB cx))).mono ?_
      rintro e w' ⟨rfl, hb⟩
      exact ⟨rfl, below_step hB0 hb⟩
    have hle := (bsearch_le0 (fun i => cells_At_gt (rd_T42 l0 i).f0 a1) l0.length 0 l0.length rfl (Nat.zero_le _)).2
    have HS := Aside0.mk hS
    generalize bsearch (fun i => cells_At_gt (rd_T42 l0 i).f0 a1) 0 l0.length = r at HS hle ⊢
    have hw : wrap64 ((r : Int) - 1) = (r : Int) - 1 := by unfold wrap64; omega
    clear hS hr0 hle hlen
    go_enter Try.func53, Try.ntmps53
    go_wp2_with (go_at_call 28; refine hR.mono ?_; rintro e w1 ⟨rfl, hb⟩; have HB := Aside0.mk hb; clear hb)
    refine (cells_At_above A0 l0.length c0 a1 w1).mono ?_
    rintro e w2 ⟨rfl, rfl⟩
    go_wp2_with (go_at_call 63; refine (HS.out w1 HB.out).mono ?_; rintro e w3 ⟨rfl, hb⟩; have HB2 := Aside0.mk hb; clear hb)
    go_ret
    exact ⟨by show Ending.returned (.int .i64 (wrap64 ((r : Int) - 1))) = _; rw [hw], HB2.out⟩

end Go.Proofs.Ytoggblomknemoaa.D
