-- PRINTED by print.py (a twelfth state) out of the translation. Not trusted: Lean checks it.
import Derived.Test.YtoggblomknemoaaMv
import Derived.Test.YtoggblomknemoaaSx0
namespace Go.Proofs.Ytoggblomknemoaa.S
open Go.RowKit Go.Proofs.YtoggblomknemoaaW Go.Proofs.YtoggblomknemoaaW.PrintWords Go.Proofs.YtoggblomknemoaaW.PrintLast Go.Proofs.YtoggblomknemoaaW.PrintMore
attribute [local go_sem] GpMore.bytes_le max2_int min2_int max_two min_two max_three min_three max_four min_four   -- for this text's walks alone
set_option linter.unusedVariables false
set_option linter.unusedSimpArgs false

/-! ### lockkeeperlaw30_great: function 8 -/
def lockkeeperlaw30_great.l0 : Nat → List (S42) → Int → Int → Option (Bool)
  | 0, _, _, _ => none
  | k + 1, x0, x3, x4 => if x4 < (x0.length : Int) then (if x4 < 40 then (if 0 ≤ x4 then (lockkeeperlaw30_great.l0 k x0 (wrap64 ((wrap64 (x3 + (((rd_T42 x0 x4).f0).size : Int))) + (((rd_T42 x0 x4).f1).size : Int))) (wrap64 (x4 + 1))) else (none)) else (if (x0.length : Int) > 40 then (some true) else (some (decide (x3 > 20000))))) else (if (x0.length : Int) > 40 then (some true) else (some (decide (x3 > 20000))))
def lockkeeperlaw30_great.f (k : Nat) (l0 : List (S42)) : Option (Bool) := lockkeeperlaw30_great.l0 k l0 0 0
set_option maxHeartbeats 8000000 in
set_option maxRecDepth 100000 in
theorem lockkeeperlaw30_great.calls (k : Nat) (A0 : Option Addr) (c0 : Nat) (l0 : List (S42)) (r : Bool) (w : World) (hr0 : Kd.C k42 w A0 l0.length l0) (hc0 : l0.length ≤ c0) (h : lockkeeperlaw30_great.f k l0 = some r) :
    Calls Try.prog 8 #[.slice A0 l0.length c0] w fun e w' => e = .returned (.bool r) ∧ Drawn0 w w' := by
  (have HR0 := Aside0.mk hr0); (have HC0 := Aside0.mk hc0); (clear hr0 hc0); (have H : (lockkeeperlaw30_great.l0 k l0 0 0) = some r := h); (clear h); (have H' := Aside0.mk H); (clear H); (go_enter Try.func8, Try.ntmps8); (go_wp2); (repeat (go_quiet (fail); try go_wp2)); (go_loopg [3, 4] k (fun kq v3 v4 w' => ∃ (x3_1 : Int) (x4_1 : Int), v3 = .int .i64 x3_1 ∧ v4 = .int .i64 x4_1 ∧ Aside0 (lockkeeperlaw30_great.l0 kq l0 x3_1 x4_1 = some r) ∧ Aside0 (kq ≤ k) ∧ Drawn0 w w'))
  case atStart => exact ⟨(0), (0), (by first | rfl | (simp; done) | (simp [*]; done)), (by first | rfl | (simp; done) | (simp [*]; done)), H', ⟨Nat.le_refl _⟩, by repeat (first | exact Drawn0.refl _ | apply Drawn0.step)⟩
  case round =>
    (clear H'); (obtain ⟨x3_1, x4_1, rfl, rfl, HA, HK1, ⟨m1, rfl⟩⟩ := hrel)
    cases gk with
    | zero => exact absurd HA.out (by simp [lockkeeperlaw30_great.l0])
    | succ k1 =>
      (have H := HA.out); (clear HA); (simp only [lockkeeperlaw30_great.l0] at H); (by_cases c2 : x4_1 < (l0.length : Int))
      · (rw [if_pos c2] at H); (have c2b0 : decide (x4_1 < (l0.length : Int)) = true := decide_eq_true c2); (clear c2); (by_cases c3 : x4_1 < 40)
        · (rw [if_pos c3] at H); (have c3b0 : decide (x4_1 < 40) = true := decide_eq_true c3); (clear c3); (by_cases c4 : 0 ≤ x4_1)
          · (rw [if_pos c4] at H); (have c4b0 : decide (0 ≤ x4_1) = true := decide_eq_true c4); (clear c4); (have H' := Aside0.mk H); (clear H); (have p101 : 0 ≤ (x4_1 : Int) := of_decide_eq_true (by first | (with_reducible assumption) | assumption)); (have q101 : x4_1 < (l0.length : Int) := of_decide_eq_true (by first | (with_reducible assumption) | assumption)); (obtain ⟨ad101, e101, hx101_0, hx101_1⟩ := at_T42 HR0.out x4_1 p101 q101); (cases e101); (replace p101 := eq_true p101); (replace q101 := eq_true q101); (have p102 : 0 ≤ (x4_1 : Int) := of_decide_eq_true (by first | (with_reducible assumption) | assumption)); (have q102 : x4_1 < (l0.length : Int) := of_decide_eq_true (by first | (with_reducible assumption) | assumption)); (obtain ⟨ad102, e102, hx102_0, hx102_1⟩ := at_T42 HR0.out x4_1 p102 q102); (obtain rfl : ad101 = ad102 := (by injection e102)); (replace p102 := eq_true p102); (replace q102 := eq_true q102); (go_wp2); (repeat (go_quiet (fail); try go_wp2)); (go_roundg k1)
            case measure => have := HK1.out; omega
            case rel => exact ⟨(wrap64 ((wrap64 (x3_1 + (((rd_T42 l0 x4_1).f0).size : Int))) + (((rd_T42 l0 x4_1).f1).size : Int))), (wrap64 (x4_1 + 1)), (by first | rfl | (simp; done) | (simp [*]; done)), (by first | rfl | (simp; done) | (simp [*]; done)), H', ⟨by have := HK1.out; omega⟩, by repeat (first | exact Drawn0.refl _ | apply Drawn0.step)⟩
          · (rw [if_neg c4] at H); (exact absurd H (by simp))
        · (rw [if_neg c3] at H); (have c3b0 : decide (x4_1 < 40) = false := decide_eq_false c3); (clear c3); (by_cases c5 : (l0.length : Int) > 40)
          · (rw [if_pos c5] at H); (have c5b0 : decide (40 < (l0.length : Int)) = true := decide_eq_true c5); (have c5b1 : decide (40 < l0.length) = true := decide_eq_true (by omega)); (clear c5); (obtain rfl := Option.some.inj H); (go_wp2); (repeat (go_quiet (fail); try go_wp2)); (go_ret); (exact ⟨by first | rfl | (simp; done) | (simp [*]; done), by repeat (first | exact Drawn0.refl _ | apply Drawn0.step)⟩)
          · (rw [if_neg c5] at H); (have c5b0 : decide (40 < (l0.length : Int)) = false := decide_eq_false c5); (have c5b1 : decide (40 < l0.length) = false := decide_eq_false (by omega)); (clear c5); (obtain rfl := Option.some.inj H); (go_wp2); (repeat (go_quiet (fail); try go_wp2)); (go_ret); (exact ⟨by first | rfl | (simp; done) | (simp [*]; done), by repeat (first | exact Drawn0.refl _ | apply Drawn0.step)⟩)
      · (rw [if_neg c2] at H); (have c2b0 : decide (x4_1 < (l0.length : Int)) = false := decide_eq_false c2); (clear c2); (by_cases c6 : (l0.length : Int) > 40)
        · (rw [if_pos c6] at H); (have c6b0 : decide (40 < (l0.length : Int)) = true := decide_eq_true c6); (have c6b1 : decide (40 < l0.length) = true := decide_eq_true (by omega)); (clear c6); (obtain rfl := Option.some.inj H); (go_wp2); (repeat (go_quiet (fail); try go_wp2)); (go_ret); (exact ⟨by first | rfl | (simp; done) | (simp [*]; done), by repeat (first | exact Drawn0.refl _ | apply Drawn0.step)⟩)
        · (rw [if_neg c6] at H); (have c6b0 : decide (40 < (l0.length : Int)) = false := decide_eq_false c6); (have c6b1 : decide (40 < l0.length) = false := decide_eq_false (by omega)); (clear c6); (obtain rfl := Option.some.inj H); (go_wp2); (repeat (go_quiet (fail); try go_wp2)); (go_ret); (exact ⟨by first | rfl | (simp; done) | (simp [*]; done), by repeat (first | exact Drawn0.refl _ | apply Drawn0.step)⟩)

/-! ### lockkeeperref10_fits: function 27 -/
def lockkeeperref10_fits.f (a0_0 : ByteArray) (a0_1 : ByteArray) : Option (Bool) := if (a0_0.size : Int) ≤ 513 then (some (decide ((a0_1.size : Int) ≤ 2048))) else (some false)
set_option maxHeartbeats 8000000 in
set_option maxRecDepth 100000 in
theorem lockkeeperref10_fits.calls (a0_0 : ByteArray) (a0_1 : ByteArray) (r : Bool) (w : World) (h : lockkeeperref10_fits.f a0_0 a0_1 = some r) :
    Calls Try.prog 27 #[.agg #[.string a0_0, .string a0_1]] w fun e w' => e = .returned (.bool r) ∧ Below w.heap.size w w' := by
  (have hu42 := Try.underlying42); (have HB := Aside0.mk (Below.refl w.heap.size w)); (have H : (if (a0_0.size : Int) ≤ 513 then (some (decide ((a0_1.size : Int) ≤ 2048))) else (some false)) = some r := h); (clear h); (by_cases c2 : (a0_0.size : Int) ≤ 513)
  · (rw [if_pos c2] at H); (have c2b0 : decide ((a0_0.size : Int) ≤ 513) = true := decide_eq_true c2); (have c2b1 : decide (a0_0.size ≤ 513) = true := decide_eq_true (by omega)); (clear c2); (obtain rfl := Option.some.inj H); (go_enter Try.func27, Try.ntmps27); (go_wp2_with (first | ((with_reducible refine gate_dst (N := 1) rfl ?_); (try (refine gate_guard (by rfl) ?_; dsimp only)); refine box_event ?hg (N := 1) ?hd (cs := #[.string a0_0, .string a0_1]) (t := 42) ?hr ?_; (case hd => rfl); (case hg => rfl); (case hr => first | (go_simp; done) | (go_simp; rfl)); intro gb103 hg w3 hbox hb; have BK103 := Aside0.mk (hbox); have GW103 := Aside0.mk ((by rw [hg]; exact (below_size (mvW HB.out)) : w.heap.size ≤ gb103)); have GE103 := Aside0.mk ((by rw [hg]; exact (below_size (mvW HB.out)) : w.heap.size ≤ gb103)); replace HB := Aside0.mk (below_step (mvW HB.out) hb); clear hb hbox hg; obtain ⟨Z4_0, Z4_1⟩ := bc2 BK103.out; obtain ⟨Y4_0, Y4_1⟩ := bf2 BK103.out))); (go_ret); (exact ⟨by first | rfl | (simp [errW_none, errW_some] <;> rfl) | (simp [*, errW_none, errW_some] <;> rfl), by repeat (first | (with_reducible first | exact HB.out | apply below_alloc | apply pw_below_drewN | apply below_drew1 | refine below_set ?_ GE103.out) | exact HB.out)⟩)
  · (rw [if_neg c2] at H); (have c2b0 : decide ((a0_0.size : Int) ≤ 513) = false := decide_eq_false c2); (have c2b1 : decide (a0_0.size ≤ 513) = false := decide_eq_false (by omega)); (clear c2); (obtain rfl := Option.some.inj H); (go_enter Try.func27, Try.ntmps27); (go_wp2_with (first | ((with_reducible refine gate_dst (N := 1) rfl ?_); (try (refine gate_guard (by rfl) ?_; dsimp only)); refine box_event ?hg (N := 1) ?hd (cs := #[.string a0_0, .string a0_1]) (t := 42) ?hr ?_; (case hd => rfl); (case hg => rfl); (case hr => first | (go_simp; done) | (go_simp; rfl)); intro gb103 hg w5 hbox hb; have BK103 := Aside0.mk (hbox); have GW103 := Aside0.mk ((by rw [hg]; exact (below_size (mvW HB.out)) : w.heap.size ≤ gb103)); have GE103 := Aside0.mk ((by rw [hg]; exact (below_size (mvW HB.out)) : w.heap.size ≤ gb103)); replace HB := Aside0.mk (below_step (mvW HB.out) hb); clear hb hbox hg; obtain ⟨Z6_0, Z6_1⟩ := bc2 BK103.out; obtain ⟨Y6_0, Y6_1⟩ := bf2 BK103.out))); (go_ret); (exact ⟨by first | rfl | (simp [errW_none, errW_some] <;> rfl) | (simp [*, errW_none, errW_some] <;> rfl), by repeat (first | (with_reducible first | exact HB.out | apply below_alloc | apply pw_below_drewN | apply below_drew1 | refine below_set ?_ GE103.out) | exact HB.out)⟩)

/-! ### lockkeeperref10_Right: function 10 -/
def lockkeeperref10_Right.l0 : Nat → List (S42) → Int → Option (Bool)
  | 0, _, _ => none
  | k + 1, x0, x3 => if x3 < (x0.length : Int) then (if 0 ≤ x3 then ((lockkeeperref10_fits.f ((rd_T42 x0 x3).f0) ((rd_T42 x0 x3).f1)).bind fun t105 => (if t105 = true then (if x3 > 0 then (if 0 ≤ (wrap64 (x3 - 1)) then (if (wrap64 (x3 - 1)) < (x0.length : Int) then (if ((Op.bytesLess (((rd_T42 x0 (wrap64 (x3 - 1))).f0).toList) (((rd_T42 x0 x3).f0).toList)) = true) then (lockkeeperref10_Right.l0 k x0 (wrap64 (x3 + 1))) else (some false)) else (none)) else (none)) else (lockkeeperref10_Right.l0 k x0 (wrap64 (x3 + 1)))) else (some false))) else (none)) else (some true)
def lockkeeperref10_Right.f (k : Nat) (l0 : List (S42)) : Option (Bool) := lockkeeperref10_Right.l0 k l0 0
def lockkeeperref10_Right.T4 : Bool × List (List Nat × List Nat) := (true, [([], []), ([], []), ([0, 1], [0, 1]), ([2], [2]), ([3], [3]), ([4], [4]), ([5, 4], [5]), ([6], [6]), ([7, 6], [6, 7]), ([8, 6, 6], [6, 8]), ([9], [9]), ([9], [9]), ([10, 11, 9], [9, 10, 11]), ([12, 9], [9, 12]), ([13, 9], [9, 13]), ([9], [9]), ([9], [9]), ([16, 9], [9, 16]), ([15, 17, 9], [9, 15, 17]), ([18, 9], [9, 18]), ([19, 9], [9, 19]), ([14, 20, 9], [9, 14, 20]), ([9, 21, 6], [6, 9, 21]), ([6, 22], [6, 22])])
def lockkeeperref10_Right.B4 : List Nat := [0, 0, 3, 7, 15, 31, 63, 127, 255, 511, 1023, 1023, 4095, 8191, 16383, 1023, 1023, 66559, 230399, 492543, 1016831, 2097151, 4194303, 8388607]
theorem lockkeeperref10_Right.tab4 : rtab .any (opsOf Try.f10 4) = lockkeeperref10_Right.T4 := by kernel_rfl
theorem lockkeeperref10_Right.bits4 : waitsOk lockkeeperref10_Right.T4.2 lockkeeperref10_Right.B4 = true := by kernel_rfl
set_option maxHeartbeats 8000000 in
set_option maxRecDepth 100000 in
theorem lockkeeperref10_Right.calls (k : Nat) (A0 : Option Addr) (c0 : Nat) (l0 : List (S42)) (r : Bool) (w : World) (hr0 : Kd.C k42 w A0 l0.length l0) (hc0 : l0.length ≤ c0) (h : lockkeeperref10_Right.f k l0 = some r) :
    Calls Try.prog 10 #[.slice A0 l0.length c0] w fun e w' => e = .returned (.bool r) ∧ Below w.heap.size w w' := by
  (have hu42 := Try.underlying42); (have HR0 := Aside0.mk hr0); (have HC0 := Aside0.mk hc0); (clear hr0 hc0); (have HB := Aside0.mk (Below.refl w.heap.size w)); (have H : (lockkeeperref10_Right.l0 k l0 0) = some r := h); (clear h); (have H' := Aside0.mk H); (clear H); (go_enter Try.func10, Try.ntmps10); (go_wp2); (go_loopg [3] k (fun kq v3 w' => ∃ (x3_1 : Int), v3 = .int .i64 x3_1 ∧ Aside0 (lockkeeperref10_Right.l0 kq l0 x3_1 = some r) ∧ Aside0 (kq ≤ k) ∧ Aside0 (Below w.heap.size w w')))
  case atStart => exact ⟨(0), (by first | rfl | (simp; done) | (simp [*]; done)), H', ⟨Nat.le_refl _⟩, ⟨mvW HB.out⟩⟩
  case round =>
    (clear H'); (try clear c1); (obtain ⟨x3_1, rfl, HA, HK1, HB⟩ := hrel)
    cases gk with
    | zero => exact absurd HA.out (by simp [lockkeeperref10_Right.l0])
    | succ k1 =>
      (have H := HA.out); (clear HA); (simp only [lockkeeperref10_Right.l0] at H); (by_cases c2 : x3_1 < (l0.length : Int))
      · (rw [if_pos c2] at H); (have c2b0 : decide (x3_1 < (l0.length : Int)) = true := decide_eq_true c2); (clear c2); (by_cases c3 : 0 ≤ x3_1)
        · (rw [if_pos c3] at H); (have c3b0 : decide (0 ≤ x3_1) = true := decide_eq_true c3); (clear c3); (replace H := Option.bind_eq_some_iff.mp H); (obtain ⟨t105, A40, H⟩ := H); (replace H : (if t105 = true then (if x3_1 > 0 then (if 0 ≤ (wrap64 (x3_1 - 1)) then (if (wrap64 (x3_1 - 1)) < (l0.length : Int) then (if ((Op.bytesLess (((rd_T42 l0 (wrap64 (x3_1 - 1))).f0).toList) (((rd_T42 l0 x3_1).f0).toList)) = true) then (lockkeeperref10_Right.l0 k1 l0 (wrap64 (x3_1 + 1))) else (some false)) else (none)) else (none)) else (lockkeeperref10_Right.l0 k1 l0 (wrap64 (x3_1 + 1)))) else (some false)) = some r := H); (have A4 := Aside0.mk A40); (clear A40); (by_cases c5 : t105 = true)
          · (subst c5); (have H1 : (if x3_1 > 0 then (if 0 ≤ (wrap64 (x3_1 - 1)) then (if (wrap64 (x3_1 - 1)) < (l0.length : Int) then (if ((Op.bytesLess (((rd_T42 l0 (wrap64 (x3_1 - 1))).f0).toList) (((rd_T42 l0 x3_1).f0).toList)) = true) then (lockkeeperref10_Right.l0 k1 l0 (wrap64 (x3_1 + 1))) else (some false)) else (none)) else (none)) else (lockkeeperref10_Right.l0 k1 l0 (wrap64 (x3_1 + 1)))) = some r := by rw [if_pos rfl] at H; exact H); (clear H); (have H := H1); (clear H1); (by_cases c6 : x3_1 > 0)
            · (rw [if_pos c6] at H); (have c6b0 : decide (0 < x3_1) = true := decide_eq_true c6); (clear c6); (obtain ⟨ji7, hji7⟩ : ∃ j_ : Int, (wrap64 (x3_1 - 1)) = j_ := ⟨_, rfl⟩); (replace H : (if 0 ≤ (ji7) then (if (ji7) < (l0.length : Int) then (if ((Op.bytesLess (((rd_T42 l0 (ji7)).f0).toList) (((rd_T42 l0 x3_1).f0).toList)) = true) then (lockkeeperref10_Right.l0 k1 l0 (wrap64 (x3_1 + 1))) else (some false)) else (none)) else (none)) = some r := by first | (rw [hji7] at H; exact H) | (simp only [hji7] at H ⊢; exact H)); ((try rw [hji7] at A4)); (have hji7w : (IntKind.i64.wrap (x3_1 - 1)) = ji7 := (i64_w _).trans hji7); (by_cases c8 : 0 ≤ (ji7))
              · (rw [if_pos c8] at H); (have c8b0 : decide (0 ≤ (ji7)) = true := decide_eq_true c8); (clear c8); (by_cases c9 : (ji7) < (l0.length : Int))
                · (rw [if_pos c9] at H); (have c9b0 : decide ((ji7) < (l0.length : Int)) = true := decide_eq_true c9); (clear c9); (by_cases c10 : ((Op.bytesLess (((rd_T42 l0 (ji7)).f0).toList) (((rd_T42 l0 x3_1).f0).toList)) = true))
                  · (rw [if_pos c10] at H); (have c10b0 : (Op.bytesLess (((rd_T42 l0 (ji7)).f0).toList) (((rd_T42 l0 x3_1).f0).toList)) = true := c10); (clear c10); (have H' := Aside0.mk H); (clear H); (try go_wp2); (replace HB := Aside0.mk (below_drew1 HB.out)); (have p104 : 0 ≤ (x3_1 : Int) := of_decide_eq_true (by first | (with_reducible assumption) | assumption)); (have q104 : x3_1 < (l0.length : Int) := of_decide_eq_true (by first | (with_reducible assumption) | assumption)); (obtain ⟨ad104, e104, hx104_0, hx104_1⟩ := at_T42 HR0.out x3_1 p104 q104); (have hw104_1 := hx104_1); (have hw104_0 := hx104_0); (cases e104); (replace hx104_0 := (HB.out.cell (World.block_lt_of_cell? w _ hx104_0)).trans hx104_0); (replace hx104_1 := (HB.out.cell (World.block_lt_of_cell? w _ hx104_1)).trans hx104_1); (replace p104 := eq_true p104); (replace q104 := eq_true q104); (have p106 : 0 ≤ (x3_1 : Int) := of_decide_eq_true (by first | (with_reducible assumption) | assumption)); (have q106 : x3_1 < (l0.length : Int) := of_decide_eq_true (by first | (with_reducible assumption) | assumption)); (obtain ⟨ad106, e106, hx106_0, hx106_1⟩ := at_T42 HR0.out x3_1 p106 q106); (have hw106_1 := hx106_1); (have hw106_0 := hx106_0); (obtain rfl : ad104 = ad106 := (by injection e106)); (replace hx106_0 := (HB.out.cell (World.block_lt_of_cell? w _ hx106_0)).trans hx106_0); (replace hx106_1 := (HB.out.cell (World.block_lt_of_cell? w _ hx106_1)).trans hx106_1); (replace p106 := eq_true p106); (replace q106 := eq_true q106); (have p107 : 0 ≤ ((ji7) : Int) := of_decide_eq_true (by first | (with_reducible assumption) | assumption)); (have q107 : (ji7) < (l0.length : Int) := of_decide_eq_true (by first | (with_reducible assumption) | assumption)); (obtain ⟨ad107, e107, hx107_0, hx107_1⟩ := at_T42 HR0.out (ji7) p107 q107); (have hw107_1 := hx107_1); (have hw107_0 := hx107_0); (obtain rfl : ad104 = ad107 := (by injection e107)); (replace hx107_0 := (HB.out.cell (World.block_lt_of_cell? w _ hx107_0)).trans hx107_0); (replace hx107_1 := (HB.out.cell (World.block_lt_of_cell? w _ hx107_1)).trans hx107_1); (replace p107 := eq_true p107); (replace q107 := eq_true q107); (refine start_ (n := 24) (S := fun w' => w'.cell? (ad104.add ((x3_1).toNat * 2)) = some (.string ((rd_T42 l0 x3_1).f0)) ∧ w'.cell? ⟨(ad104.add ((x3_1).toNat * 2)).block, (ad104.add ((x3_1).toNat * 2)).off + 1, none⟩ = some (.string ((rd_T42 l0 x3_1).f1)) ∧ w'.cell? (ad104.add ((x3_1).toNat * 2)) = some (.string ((rd_T42 l0 x3_1).f0)) ∧ w'.cell? ⟨(ad104.add ((x3_1).toNat * 2)).block, (ad104.add ((x3_1).toNat * 2)).off + 1, none⟩ = some (.string ((rd_T42 l0 x3_1).f1)) ∧ w'.cell? (ad104.add (((ji7)).toNat * 2)) = some (.string ((rd_T42 l0 (ji7)).f0)) ∧ w'.cell? ⟨(ad104.add (((ji7)).toNat * 2)).block, (ad104.add (((ji7)).toNat * 2)).off + 1, none⟩ = some (.string ((rd_T42 l0 (ji7)).f1))) (ds := []) #[false, false, false, false, false, false, false, false, false, false, false, false, false, false, false, false, false, false, false, false, false, false, false, false] (by kernel_rfl) rfl rfl ⟨((HB.out.cell (World.block_lt_of_cell? w _ hw104_0)).trans hw104_0), ((HB.out.cell (World.block_lt_of_cell? w _ hw104_1)).trans hw104_1), ((HB.out.cell (World.block_lt_of_cell? w _ hw106_0)).trans hw106_0), ((HB.out.cell (World.block_lt_of_cell? w _ hw106_1)).trans hw106_1), ((HB.out.cell (World.block_lt_of_cell? w _ hw107_0)).trans hw107_0), ((HB.out.cell (World.block_lt_of_cell? w _ hw107_1)).trans hw107_1)⟩ (fun hHeld => ?_); refine with_tabW lockkeeperref10_Right.tab4 lockkeeperref10_Right.bits4 (fun HT_ HW_ => ?_)); (generalize wr.drew = w11 at HB hx104_0 hx104_1 hx106_0 hx106_1 hx107_0 hx107_1 hHeld ⊢); (refine pure_ (i := 0) (N := some 10) (v := ?_) (a' := ?_) (bv 1 23) rfl rfl (any_of HT_.out (by kernel_rfl)) (fun _ _ _ h => h) (Or.inl ⟨by rfl, ?_⟩) ?_ ?_); (rotate_left)
                    · (intro w'); (go_simp); (with_reducible rfl)
                    rotate_left
                    · (simp only [sA]); (rfl)
                    (refine pure_ (i := 1) (N := some 11) (v := ?_) (a' := ?_) (bv 2 22) rfl rfl (any_of HT_.out (by kernel_rfl)) (fun _ _ _ h => h) (Or.inl ⟨by rfl, ?_⟩) ?_ ?_); (rotate_left)
                    · (intro w'); (go_simp); (with_reducible rfl)
                    rotate_left
                    · (simp only [sA]); (rfl)
                    (refine pure_ (i := 2) (N := some 12) (v := ?_) (a' := ?_) (bv 3 21) rfl rfl (any_of HT_.out (by kernel_rfl)) (fun _ _ _ h => h) (Or.inl ⟨by rfl, ?_⟩) ?_ ?_); (rotate_left)
                    · (intro w'); (go_simp); (with_reducible rfl)
                    rotate_left
                    · (simp only [sA]); (rfl)
                    (refine take_ (i := 3) (N := some 13) (v := ?_) (a' := ?_) (bv 4 20) rfl rfl (take_ofW HT_.out HW_.out (by kernel_rfl)) (fun _ _ _ h => h) (Or.inl ⟨by rfl, ?_⟩) hHeld ?_ ?_); (rotate_left)
                    · (rintro w' ⟨s0, s1, s2, s3, s4, s5⟩); (go_simp); (with_reducible rfl)
                    rotate_left
                    · (simp only [sA]); (rfl)
                    (refine one_ (i := 4) (N := some 14) (bv 5 19) rfl rfl (one_of HT_.out (by kernel_rfl)) (by decide) (fun K hK => ?_)); (refine goes_ Try.func27 (by kernel_rfl) rfl #[.agg #[.string ((rd_T42 l0 x3_1).f0), .string ((rd_T42 l0 x3_1).f1)]] (by rfl) rfl rfl (by (try simp only [List.map_toArray, List.map_cons, List.map_nil]); first | done | rfl | (simp only [List.length_drop, List.length_take]; rfl) | (simp only [*]; rfl)) ?_); (with_reducible refine (lockkeeperref10_fits.calls ((rd_T42 l0 x3_1).f0) ((rd_T42 l0 x3_1).f1) true _ A4.out).mono ?_); (rintro e w12 ⟨rfl, hb⟩); (refine ⟨_, rfl, ?_⟩); (replace HB := Aside0.mk (below_step (mvW HB.out) hb)); (clear hb); (refine hK.out _ _ ⟨((HB.out.cell (World.block_lt_of_cell? w _ hw104_0)).trans hw104_0), ((HB.out.cell (World.block_lt_of_cell? w _ hw104_1)).trans hw104_1), ((HB.out.cell (World.block_lt_of_cell? w _ hw106_0)).trans hw106_0), ((HB.out.cell (World.block_lt_of_cell? w _ hw106_1)).trans hw106_1), ((HB.out.cell (World.block_lt_of_cell? w _ hw107_0)).trans hw107_0), ((HB.out.cell (World.block_lt_of_cell? w _ hw107_1)).trans hw107_1)⟩ (fun hHeld => ?_)); (clear hK K); (refine norm_ (a' := ?_) ?_ ?_); (rotate_left)
                    · (show Act.put _ (some 14) _ = _); (simp only [sA]); (rfl)
                    (refine pure_ (i := 5) (N := some 15) (v := ?_) (a' := ?_) (bv 6 18) rfl rfl (any_of HT_.out (by kernel_rfl)) (fun _ _ _ h => h) (Or.inl ⟨by rfl, ?_⟩) ?_ ?_); (rotate_left)
                    · (intro w'); (go_simp); (with_reducible rfl)
                    rotate_left
                    · (simp only [sA]); (rfl)
                    (refine pure_ (i := 6) (N := some 16) (v := ?_) (a' := ?_) (bv 7 17) rfl rfl (any_of HT_.out (by kernel_rfl)) (fun _ _ _ h => h) (Or.inl ⟨by rfl, ?_⟩) ?_ ?_); (rotate_left)
                    · (intro w'); (go_simp); (with_reducible rfl)
                    rotate_left
                    · (simp only [sA]); (rfl)
                    (refine pure_ (i := 7) (N := some 17) (v := ?_) (a' := ?_) (bv 8 16) rfl rfl (any_of HT_.out (by kernel_rfl)) (fun _ _ _ h => h) (Or.inl ⟨by rfl, ?_⟩) ?_ ?_); (rotate_left)
                    · (intro w'); (go_simp); (with_reducible rfl)
                    rotate_left
                    · (simp only [sA]); (rfl)
                    (refine pure_ (i := 8) (N := some 18) (v := ?_) (a' := ?_) (bv 9 15) rfl rfl (any_of HT_.out (by kernel_rfl)) (fun _ _ _ h => h) (Or.inl ⟨by rfl, ?_⟩) ?_ ?_); (rotate_left)
                    · (intro w'); (go_simp); (with_reducible rfl)
                    rotate_left
                    · (simp only [sA]); (rfl)
                    (refine pure_ (i := 9) (N := some 19) (v := ?_) (a' := ?_) (bv 10 14) rfl rfl (any_of HT_.out (by kernel_rfl)) (fun _ _ _ h => h) (Or.inl ⟨by rfl, ?_⟩) ?_ ?_); (rotate_left)
                    · (intro w'); (go_simp); (with_reducible rfl)
                    rotate_left
                    · (simp only [sA]); (rfl)
                    (refine pure_ (i := 10) (N := some 20) (v := ?_) (a' := ?_) (bv 11 13) rfl rfl (any_of HT_.out (by kernel_rfl)) (fun _ _ _ h => h) (Or.inl ⟨by rfl, ?_⟩) ?_ ?_); (rotate_left)
                    · (intro w'); (go_simp); (with_reducible rfl)
                    rotate_left
                    · (simp only [sA]); (rfl)
                    (refine pure_ (i := 11) (N := some 21) (v := ?_) (a' := ?_) (bv 12 12) rfl rfl (any_of HT_.out (by kernel_rfl)) (fun _ _ _ h => h) (Or.inl ⟨by rfl, ?_⟩) ?_ ?_); (rotate_left)
                    · (intro w'); (go_simp); (with_reducible rfl)
                    rotate_left
                    · (simp only [sA]); (rfl)
                    (refine pure_ (i := 12) (N := some 22) (v := ?_) (a' := ?_) (bv 13 11) rfl rfl (any_of HT_.out (by kernel_rfl)) (fun _ _ _ h => h) (Or.inl ⟨by rfl, ?_⟩) ?_ ?_); (rotate_left)
                    · (intro w'); (go_simp); (with_reducible rfl)
                    rotate_left
                    · (simp only [sA]); (rfl)
                    (refine pure_ (i := 13) (N := some 23) (v := ?_) (a' := ?_) (bv 14 10) rfl rfl (any_of HT_.out (by kernel_rfl)) (fun _ _ _ h => h) (Or.inl ⟨by rfl, ?_⟩) ?_ ?_); (rotate_left)
                    · (intro w'); (go_simp); (with_reducible rfl)
                    rotate_left
                    · (simp only [sA]); (rfl)
                    (refine pure_ (i := 15) (N := some 25) (v := ?_) (a' := ?_) #[true, true, true, true, true, true, true, true, true, true, true, true, true, true, false, true, false, false, false, false, false, false, false, false] rfl rfl (any_of HT_.out (by kernel_rfl)) (fun _ _ _ h => h) (Or.inl ⟨by rfl, ?_⟩) ?_ ?_); (rotate_left)
                    · (intro w'); (go_simp); (with_reducible rfl)
                    rotate_left
                    · (simp only [sA]); (rfl)
                    (refine pure_ (i := 16) (N := some 26) (v := ?_) (a' := ?_) #[true, true, true, true, true, true, true, true, true, true, true, true, true, true, false, true, true, false, false, false, false, false, false, false] rfl rfl (any_of HT_.out (by kernel_rfl)) (fun _ _ _ h => h) (Or.inl ⟨by rfl, ?_⟩) ?_ ?_); (rotate_left)
                    · (intro w'); (go_simp); (with_reducible rfl)
                    rotate_left
                    · (simp only [sA]); (rfl)
                    (refine pure_ (i := 17) (N := some 27) (v := ?_) (a' := ?_) #[true, true, true, true, true, true, true, true, true, true, true, true, true, true, false, true, true, true, false, false, false, false, false, false] rfl rfl (any_of HT_.out (by kernel_rfl)) (fun _ _ _ h => h) (Or.inl ⟨by rfl, ?_⟩) ?_ ?_); (rotate_left)
                    · (intro w'); (go_simp); (with_reducible rfl)
                    rotate_left
                    · (simp only [sA]); (rfl)
                    (refine pure_ (i := 18) (N := some 28) (v := ?_) (a' := ?_) #[true, true, true, true, true, true, true, true, true, true, true, true, true, true, false, true, true, true, true, false, false, false, false, false] rfl rfl (any_of HT_.out (by kernel_rfl)) (fun _ _ _ h => h) (Or.inl ⟨by rfl, ?_⟩) ?_ ?_); (rotate_left)
                    · (intro w'); (go_simp); (with_reducible rfl)
                    rotate_left
                    · (simp only [sA]); (rfl)
                    (refine pure_ (i := 19) (N := some 29) (v := ?_) (a' := ?_) #[true, true, true, true, true, true, true, true, true, true, true, true, true, true, false, true, true, true, true, true, false, false, false, false] rfl rfl (any_of HT_.out (by kernel_rfl)) (fun _ _ _ h => h) (Or.inl ⟨by rfl, ?_⟩) ?_ ?_); (rotate_left)
                    · (intro w'); (go_simp); (with_reducible rfl)
                    rotate_left
                    · (simp only [sA]); (rfl)
                    (refine take_ (i := 14) (N := some 24) (v := ?_) (a' := ?_) (bv 20 4) rfl rfl (take_ofW HT_.out HW_.out (by kernel_rfl)) (fun _ _ _ h => h) (Or.inl ⟨by rfl, ?_⟩) hHeld ?_ ?_); (rotate_left)
                    · (rintro w' ⟨s0, s1, s2, s3, s4, s5⟩); (go_simp); (with_reducible rfl)
                    rotate_left
                    · (simp only [sA]); (rfl)
                    (refine take_ (i := 20) (N := some 30) (v := ?_) (a' := ?_) (bv 21 3) rfl rfl (take_ofW HT_.out HW_.out (by kernel_rfl)) (fun _ _ _ h => h) (Or.inl ⟨by rfl, ?_⟩) hHeld ?_ ?_); (rotate_left)
                    · (rintro w' ⟨s0, s1, s2, s3, s4, s5⟩); (go_simp); (with_reducible rfl)
                    rotate_left
                    · (simp only [sA]); (rfl)
                    (refine pure_ (i := 21) (N := some 31) (v := ?_) (a' := ?_) (bv 22 2) rfl rfl (any_of HT_.out (by kernel_rfl)) (fun _ _ _ h => h) (Or.inl ⟨by rfl, ?_⟩) ?_ ?_); (rotate_left)
                    · (intro w'); (go_simp); (with_reducible rfl)
                    rotate_left
                    · (simp only [sA]); (rfl)
                    (refine pure_ (i := 22) (N := some 32) (v := ?_) (a' := ?_) (bv 23 1) rfl rfl (any_of HT_.out (by kernel_rfl)) (fun _ _ _ h => h) (Or.inl ⟨by rfl, ?_⟩) ?_ ?_); (rotate_left)
                    · (intro w'); (go_simp); (with_reducible rfl)
                    rotate_left
                    · (simp only [sA]); (rfl)
                    (refine pure_ (i := 23) (N := some 33) (v := ?_) (a' := ?_) (bv 24 0) rfl rfl (any_of HT_.out (by kernel_rfl)) (fun _ _ _ h => h) (Or.inl ⟨by rfl, ?_⟩) ?_ ?_); (rotate_left)
                    · (intro w'); (go_simp); (with_reducible rfl)
                    rotate_left
                    · (simp only [sA]); (rfl)
                    (refine done_ (done_of HT_.out (by kernel_rfl)) ?_); (try go_wp2); (go_roundg k1)
                    case measure => have := HK1.out; omega
                    case rel => exact ⟨(wrap64 (x3_1 + 1)), (by first | rfl | (simp; done) | (simp [*]; done)), H', ⟨by have := HK1.out; omega⟩, ⟨mvW HB.out⟩⟩
                  · (rw [if_neg c10] at H); (have c10b0 : (Op.bytesLess (((rd_T42 l0 (ji7)).f0).toList) (((rd_T42 l0 x3_1).f0).toList)) = false := by simpa using c10); (clear c10); (obtain rfl := Option.some.inj H); (try go_wp2); (replace HB := Aside0.mk (below_drew1 HB.out)); (have p104 : 0 ≤ (x3_1 : Int) := of_decide_eq_true (by first | (with_reducible assumption) | assumption)); (have q104 : x3_1 < (l0.length : Int) := of_decide_eq_true (by first | (with_reducible assumption) | assumption)); (obtain ⟨ad104, e104, hx104_0, hx104_1⟩ := at_T42 HR0.out x3_1 p104 q104); (have hw104_1 := hx104_1); (have hw104_0 := hx104_0); (cases e104); (replace hx104_0 := (HB.out.cell (World.block_lt_of_cell? w _ hx104_0)).trans hx104_0); (replace hx104_1 := (HB.out.cell (World.block_lt_of_cell? w _ hx104_1)).trans hx104_1); (replace p104 := eq_true p104); (replace q104 := eq_true q104); (have p106 : 0 ≤ (x3_1 : Int) := of_decide_eq_true (by first | (with_reducible assumption) | assumption)); (have q106 : x3_1 < (l0.length : Int) := of_decide_eq_true (by first | (with_reducible assumption) | assumption)); (obtain ⟨ad106, e106, hx106_0, hx106_1⟩ := at_T42 HR0.out x3_1 p106 q106); (have hw106_1 := hx106_1); (have hw106_0 := hx106_0); (obtain rfl : ad104 = ad106 := (by injection e106)); (replace hx106_0 := (HB.out.cell (World.block_lt_of_cell? w _ hx106_0)).trans hx106_0); (replace hx106_1 := (HB.out.cell (World.block_lt_of_cell? w _ hx106_1)).trans hx106_1); (replace p106 := eq_true p106); (replace q106 := eq_true q106); (have p107 : 0 ≤ ((ji7) : Int) := of_decide_eq_true (by first | (with_reducible assumption) | assumption)); (have q107 : (ji7) < (l0.length : Int) := of_decide_eq_true (by first | (with_reducible assumption) | assumption)); (obtain ⟨ad107, e107, hx107_0, hx107_1⟩ := at_T42 HR0.out (ji7) p107 q107); (have hw107_1 := hx107_1); (have hw107_0 := hx107_0); (obtain rfl : ad104 = ad107 := (by injection e107)); (replace hx107_0 := (HB.out.cell (World.block_lt_of_cell? w _ hx107_0)).trans hx107_0); (replace hx107_1 := (HB.out.cell (World.block_lt_of_cell? w _ hx107_1)).trans hx107_1); (replace p107 := eq_true p107); (replace q107 := eq_true q107); (refine start_ (n := 24) (S := fun w' => w'.cell? (ad104.add ((x3_1).toNat * 2)) = some (.string ((rd_T42 l0 x3_1).f0)) ∧ w'.cell? ⟨(ad104.add ((x3_1).toNat * 2)).block, (ad104.add ((x3_1).toNat * 2)).off + 1, none⟩ = some (.string ((rd_T42 l0 x3_1).f1)) ∧ w'.cell? (ad104.add ((x3_1).toNat * 2)) = some (.string ((rd_T42 l0 x3_1).f0)) ∧ w'.cell? ⟨(ad104.add ((x3_1).toNat * 2)).block, (ad104.add ((x3_1).toNat * 2)).off + 1, none⟩ = some (.string ((rd_T42 l0 x3_1).f1)) ∧ w'.cell? (ad104.add (((ji7)).toNat * 2)) = some (.string ((rd_T42 l0 (ji7)).f0)) ∧ w'.cell? ⟨(ad104.add (((ji7)).toNat * 2)).block, (ad104.add (((ji7)).toNat * 2)).off + 1, none⟩ = some (.string ((rd_T42 l0 (ji7)).f1))) (ds := []) #[false, false, false, false, false, false, false, false, false, false, false, false, false, false, false, false, false, false, false, false, false, false, false, false] (by kernel_rfl) rfl rfl ⟨((HB.out.cell (World.block_lt_of_cell? w _ hw104_0)).trans hw104_0), ((HB.out.cell (World.block_lt_of_cell? w _ hw104_1)).trans hw104_1), ((HB.out.cell (World.block_lt_of_cell? w _ hw106_0)).trans hw106_0), ((HB.out.cell (World.block_lt_of_cell? w _ hw106_1)).trans hw106_1), ((HB.out.cell (World.block_lt_of_cell? w _ hw107_0)).trans hw107_0), ((HB.out.cell (World.block_lt_of_cell? w _ hw107_1)).trans hw107_1)⟩ (fun hHeld => ?_); refine with_tabW lockkeeperref10_Right.tab4 lockkeeperref10_Right.bits4 (fun HT_ HW_ => ?_)); (generalize wr.drew = w13 at HB hx104_0 hx104_1 hx106_0 hx106_1 hx107_0 hx107_1 hHeld ⊢); (refine pure_ (i := 0) (N := some 10) (v := ?_) (a' := ?_) (bv 1 23) rfl rfl (any_of HT_.out (by kernel_rfl)) (fun _ _ _ h => h) (Or.inl ⟨by rfl, ?_⟩) ?_ ?_); (rotate_left)
                    · (intro w'); (go_simp); (with_reducible rfl)
                    rotate_left
                    · (simp only [sA]); (rfl)
                    (refine pure_ (i := 1) (N := some 11) (v := ?_) (a' := ?_) (bv 2 22) rfl rfl (any_of HT_.out (by kernel_rfl)) (fun _ _ _ h => h) (Or.inl ⟨by rfl, ?_⟩) ?_ ?_); (rotate_left)
                    · (intro w'); (go_simp); (with_reducible rfl)
                    rotate_left
                    · (simp only [sA]); (rfl)
                    (refine pure_ (i := 2) (N := some 12) (v := ?_) (a' := ?_) (bv 3 21) rfl rfl (any_of HT_.out (by kernel_rfl)) (fun _ _ _ h => h) (Or.inl ⟨by rfl, ?_⟩) ?_ ?_); (rotate_left)
                    · (intro w'); (go_simp); (with_reducible rfl)
                    rotate_left
                    · (simp only [sA]); (rfl)
                    (refine take_ (i := 3) (N := some 13) (v := ?_) (a' := ?_) (bv 4 20) rfl rfl (take_ofW HT_.out HW_.out (by kernel_rfl)) (fun _ _ _ h => h) (Or.inl ⟨by rfl, ?_⟩) hHeld ?_ ?_); (rotate_left)
                    · (rintro w' ⟨s0, s1, s2, s3, s4, s5⟩); (go_simp); (with_reducible rfl)
                    rotate_left
                    · (simp only [sA]); (rfl)
                    (refine one_ (i := 4) (N := some 14) (bv 5 19) rfl rfl (one_of HT_.out (by kernel_rfl)) (by decide) (fun K hK => ?_)); (refine goes_ Try.func27 (by kernel_rfl) rfl #[.agg #[.string ((rd_T42 l0 x3_1).f0), .string ((rd_T42 l0 x3_1).f1)]] (by rfl) rfl rfl (by (try simp only [List.map_toArray, List.map_cons, List.map_nil]); first | done | rfl | (simp only [List.length_drop, List.length_take]; rfl) | (simp only [*]; rfl)) ?_); (with_reducible refine (lockkeeperref10_fits.calls ((rd_T42 l0 x3_1).f0) ((rd_T42 l0 x3_1).f1) true _ A4.out).mono ?_); (rintro e w14 ⟨rfl, hb⟩); (refine ⟨_, rfl, ?_⟩); (replace HB := Aside0.mk (below_step (mvW HB.out) hb)); (clear hb); (refine hK.out _ _ ⟨((HB.out.cell (World.block_lt_of_cell? w _ hw104_0)).trans hw104_0), ((HB.out.cell (World.block_lt_of_cell? w _ hw104_1)).trans hw104_1), ((HB.out.cell (World.block_lt_of_cell? w _ hw106_0)).trans hw106_0), ((HB.out.cell (World.block_lt_of_cell? w _ hw106_1)).trans hw106_1), ((HB.out.cell (World.block_lt_of_cell? w _ hw107_0)).trans hw107_0), ((HB.out.cell (World.block_lt_of_cell? w _ hw107_1)).trans hw107_1)⟩ (fun hHeld => ?_)); (clear hK K); (refine norm_ (a' := ?_) ?_ ?_); (rotate_left)
                    · (show Act.put _ (some 14) _ = _); (simp only [sA]); (rfl)
                    (refine pure_ (i := 5) (N := some 15) (v := ?_) (a' := ?_) (bv 6 18) rfl rfl (any_of HT_.out (by kernel_rfl)) (fun _ _ _ h => h) (Or.inl ⟨by rfl, ?_⟩) ?_ ?_); (rotate_left)
                    · (intro w'); (go_simp); (with_reducible rfl)
                    rotate_left
                    · (simp only [sA]); (rfl)
                    (refine pure_ (i := 6) (N := some 16) (v := ?_) (a' := ?_) (bv 7 17) rfl rfl (any_of HT_.out (by kernel_rfl)) (fun _ _ _ h => h) (Or.inl ⟨by rfl, ?_⟩) ?_ ?_); (rotate_left)
                    · (intro w'); (go_simp); (with_reducible rfl)
                    rotate_left
                    · (simp only [sA]); (rfl)
                    (refine pure_ (i := 7) (N := some 17) (v := ?_) (a' := ?_) (bv 8 16) rfl rfl (any_of HT_.out (by kernel_rfl)) (fun _ _ _ h => h) (Or.inl ⟨by rfl, ?_⟩) ?_ ?_); (rotate_left)
                    · (intro w'); (go_simp); (with_reducible rfl)
                    rotate_left
                    · (simp only [sA]); (rfl)
                    (refine pure_ (i := 8) (N := some 18) (v := ?_) (a' := ?_) (bv 9 15) rfl rfl (any_of HT_.out (by kernel_rfl)) (fun _ _ _ h => h) (Or.inl ⟨by rfl, ?_⟩) ?_ ?_); (rotate_left)
                    · (intro w'); (go_simp); (with_reducible rfl)
                    rotate_left
                    · (simp only [sA]); (rfl)
                    (refine pure_ (i := 9) (N := some 19) (v := ?_) (a' := ?_) (bv 10 14) rfl rfl (any_of HT_.out (by kernel_rfl)) (fun _ _ _ h => h) (Or.inl ⟨by rfl, ?_⟩) ?_ ?_); (rotate_left)
                    · (intro w'); (go_simp); (with_reducible rfl)
                    rotate_left
                    · (simp only [sA]); (rfl)
                    (refine pure_ (i := 10) (N := some 20) (v := ?_) (a' := ?_) (bv 11 13) rfl rfl (any_of HT_.out (by kernel_rfl)) (fun _ _ _ h => h) (Or.inl ⟨by rfl, ?_⟩) ?_ ?_); (rotate_left)
                    · (intro w'); (go_simp); (with_reducible rfl)
                    rotate_left
                    · (simp only [sA]); (rfl)
                    (refine pure_ (i := 11) (N := some 21) (v := ?_) (a' := ?_) (bv 12 12) rfl rfl (any_of HT_.out (by kernel_rfl)) (fun _ _ _ h => h) (Or.inl ⟨by rfl, ?_⟩) ?_ ?_); (rotate_left)
                    · (intro w'); (go_simp); (with_reducible rfl)
                    rotate_left
                    · (simp only [sA]); (rfl)
                    (refine pure_ (i := 12) (N := some 22) (v := ?_) (a' := ?_) (bv 13 11) rfl rfl (any_of HT_.out (by kernel_rfl)) (fun _ _ _ h => h) (Or.inl ⟨by rfl, ?_⟩) ?_ ?_); (rotate_left)
                    · (intro w'); (go_simp); (with_reducible rfl)
                    rotate_left
                    · (simp only [sA]); (rfl)
                    (refine pure_ (i := 13) (N := some 23) (v := ?_) (a' := ?_) (bv 14 10) rfl rfl (any_of HT_.out (by kernel_rfl)) (fun _ _ _ h => h) (Or.inl ⟨by rfl, ?_⟩) ?_ ?_); (rotate_left)
                    · (intro w'); (go_simp); (with_reducible rfl)
                    rotate_left
                    · (simp only [sA]); (rfl)
                    (refine pure_ (i := 15) (N := some 25) (v := ?_) (a' := ?_) #[true, true, true, true, true, true, true, true, true, true, true, true, true, true, false, true, false, false, false, false, false, false, false, false] rfl rfl (any_of HT_.out (by kernel_rfl)) (fun _ _ _ h => h) (Or.inl ⟨by rfl, ?_⟩) ?_ ?_); (rotate_left)
                    · (intro w'); (go_simp); (with_reducible rfl)
                    rotate_left
                    · (simp only [sA]); (rfl)
                    (refine pure_ (i := 16) (N := some 26) (v := ?_) (a' := ?_) #[true, true, true, true, true, true, true, true, true, true, true, true, true, true, false, true, true, false, false, false, false, false, false, false] rfl rfl (any_of HT_.out (by kernel_rfl)) (fun _ _ _ h => h) (Or.inl ⟨by rfl, ?_⟩) ?_ ?_); (rotate_left)
                    · (intro w'); (go_simp); (with_reducible rfl)
                    rotate_left
                    · (simp only [sA]); (rfl)
                    (refine pure_ (i := 17) (N := some 27) (v := ?_) (a' := ?_) #[true, true, true, true, true, true, true, true, true, true, true, true, true, true, false, true, true, true, false, false, false, false, false, false] rfl rfl (any_of HT_.out (by kernel_rfl)) (fun _ _ _ h => h) (Or.inl ⟨by rfl, ?_⟩) ?_ ?_); (rotate_left)
                    · (intro w'); (go_simp); (with_reducible rfl)
                    rotate_left
                    · (simp only [sA]); (rfl)
                    (refine pure_ (i := 18) (N := some 28) (v := ?_) (a' := ?_) #[true, true, true, true, true, true, true, true, true, true, true, true, true, true, false, true, true, true, true, false, false, false, false, false] rfl rfl (any_of HT_.out (by kernel_rfl)) (fun _ _ _ h => h) (Or.inl ⟨by rfl, ?_⟩) ?_ ?_); (rotate_left)
                    · (intro w'); (go_simp); (with_reducible rfl)
                    rotate_left
                    · (simp only [sA]); (rfl)
                    (refine pure_ (i := 19) (N := some 29) (v := ?_) (a' := ?_) #[true, true, true, true, true, true, true, true, true, true, true, true, true, true, false, true, true, true, true, true, false, false, false, false] rfl rfl (any_of HT_.out (by kernel_rfl)) (fun _ _ _ h => h) (Or.inl ⟨by rfl, ?_⟩) ?_ ?_); (rotate_left)
                    · (intro w'); (go_simp); (with_reducible rfl)
                    rotate_left
                    · (simp only [sA]); (rfl)
                    (refine take_ (i := 14) (N := some 24) (v := ?_) (a' := ?_) (bv 20 4) rfl rfl (take_ofW HT_.out HW_.out (by kernel_rfl)) (fun _ _ _ h => h) (Or.inl ⟨by rfl, ?_⟩) hHeld ?_ ?_); (rotate_left)
                    · (rintro w' ⟨s0, s1, s2, s3, s4, s5⟩); (go_simp); (with_reducible rfl)
                    rotate_left
                    · (simp only [sA]); (rfl)
                    (refine take_ (i := 20) (N := some 30) (v := ?_) (a' := ?_) (bv 21 3) rfl rfl (take_ofW HT_.out HW_.out (by kernel_rfl)) (fun _ _ _ h => h) (Or.inl ⟨by rfl, ?_⟩) hHeld ?_ ?_); (rotate_left)
                    · (rintro w' ⟨s0, s1, s2, s3, s4, s5⟩); (go_simp); (with_reducible rfl)
                    rotate_left
                    · (simp only [sA]); (rfl)
                    (refine pure_ (i := 21) (N := some 31) (v := ?_) (a' := ?_) (bv 22 2) rfl rfl (any_of HT_.out (by kernel_rfl)) (fun _ _ _ h => h) (Or.inl ⟨by rfl, ?_⟩) ?_ ?_); (rotate_left)
                    · (intro w'); (go_simp); (with_reducible rfl)
                    rotate_left
                    · (simp only [sA]); (rfl)
                    (refine pure_ (i := 22) (N := some 32) (v := ?_) (a' := ?_) (bv 23 1) rfl rfl (any_of HT_.out (by kernel_rfl)) (fun _ _ _ h => h) (Or.inl ⟨by rfl, ?_⟩) ?_ ?_); (rotate_left)
                    · (intro w'); (go_simp); (with_reducible rfl)
                    rotate_left
                    · (simp only [sA]); (rfl)
                    (refine pure_ (i := 23) (N := some 33) (v := ?_) (a' := ?_) (bv 24 0) rfl rfl (any_of HT_.out (by kernel_rfl)) (fun _ _ _ h => h) (Or.inl ⟨by rfl, ?_⟩) ?_ ?_); (rotate_left)
                    · (intro w'); (go_simp); (with_reducible rfl)
                    rotate_left
                    · (simp only [sA]); (rfl)
                    (refine done_ (done_of HT_.out (by kernel_rfl)) ?_); (try go_wp2); (go_ret); (exact ⟨by first | rfl | (simp [errW_none, errW_some] <;> rfl) | (simp only [← hji7]; first | rfl | (simp [errW_none, errW_some] <;> rfl)) | (simp [*, errW_none, errW_some] <;> rfl), by repeat (first | (with_reducible first | exact HB.out | apply below_alloc | apply pw_below_drewN | apply below_drew1) | exact HB.out)⟩)
                · (rw [if_neg c9] at H); (exact absurd H (by simp))
              · (rw [if_neg c8] at H); (exact absurd H (by simp))
            · (rw [if_neg c6] at H); (have c6b0 : decide (0 < x3_1) = false := decide_eq_false c6); (clear c6); (have H' := Aside0.mk H); (clear H); (try go_wp2); (replace HB := Aside0.mk (below_drew1 HB.out)); (have p104 : 0 ≤ (x3_1 : Int) := of_decide_eq_true (by first | (with_reducible assumption) | assumption)); (have q104 : x3_1 < (l0.length : Int) := of_decide_eq_true (by first | (with_reducible assumption) | assumption)); (obtain ⟨ad104, e104, hx104_0, hx104_1⟩ := at_T42 HR0.out x3_1 p104 q104); (have hw104_1 := hx104_1); (have hw104_0 := hx104_0); (cases e104); (replace hx104_0 := (HB.out.cell (World.block_lt_of_cell? w _ hx104_0)).trans hx104_0); (replace hx104_1 := (HB.out.cell (World.block_lt_of_cell? w _ hx104_1)).trans hx104_1); (replace p104 := eq_true p104); (replace q104 := eq_true q104); (refine start_ (n := 24) (S := fun w' => w'.cell? (ad104.add ((x3_1).toNat * 2)) = some (.string ((rd_T42 l0 x3_1).f0)) ∧ w'.cell? ⟨(ad104.add ((x3_1).toNat * 2)).block, (ad104.add ((x3_1).toNat * 2)).off + 1, none⟩ = some (.string ((rd_T42 l0 x3_1).f1))) (ds := []) #[false, false, false, false, false, false, false, false, false, false, false, false, false, false, false, false, false, false, false, false, false, false, false, false] (by kernel_rfl) rfl rfl ⟨((HB.out.cell (World.block_lt_of_cell? w _ hw104_0)).trans hw104_0), ((HB.out.cell (World.block_lt_of_cell? w _ hw104_1)).trans hw104_1)⟩ (fun hHeld => ?_); refine with_tabW lockkeeperref10_Right.tab4 lockkeeperref10_Right.bits4 (fun HT_ HW_ => ?_)); (generalize wr.drew = w15 at HB hx104_0 hx104_1 hHeld ⊢); (refine pure_ (i := 0) (N := some 10) (v := ?_) (a' := ?_) (bv 1 23) rfl rfl (any_of HT_.out (by kernel_rfl)) (fun _ _ _ h => h) (Or.inl ⟨by rfl, ?_⟩) ?_ ?_); (rotate_left)
              · (intro w'); (go_simp); (with_reducible rfl)
              rotate_left
              · (simp only [sA]); (rfl)
              (refine pure_ (i := 1) (N := some 11) (v := ?_) (a' := ?_) (bv 2 22) rfl rfl (any_of HT_.out (by kernel_rfl)) (fun _ _ _ h => h) (Or.inl ⟨by rfl, ?_⟩) ?_ ?_); (rotate_left)
              · (intro w'); (go_simp); (with_reducible rfl)
              rotate_left
              · (simp only [sA]); (rfl)
              (refine pure_ (i := 2) (N := some 12) (v := ?_) (a' := ?_) (bv 3 21) rfl rfl (any_of HT_.out (by kernel_rfl)) (fun _ _ _ h => h) (Or.inl ⟨by rfl, ?_⟩) ?_ ?_); (rotate_left)
              · (intro w'); (go_simp); (with_reducible rfl)
              rotate_left
              · (simp only [sA]); (rfl)
              (refine take_ (i := 3) (N := some 13) (v := ?_) (a' := ?_) (bv 4 20) rfl rfl (take_ofW HT_.out HW_.out (by kernel_rfl)) (fun _ _ _ h => h) (Or.inl ⟨by rfl, ?_⟩) hHeld ?_ ?_); (rotate_left)
              · (rintro w' ⟨s0, s1⟩); (go_simp); (with_reducible rfl)
              rotate_left
              · (simp only [sA]); (rfl)
              (refine one_ (i := 4) (N := some 14) (bv 5 19) rfl rfl (one_of HT_.out (by kernel_rfl)) (by decide) (fun K hK => ?_)); (refine goes_ Try.func27 (by kernel_rfl) rfl #[.agg #[.string ((rd_T42 l0 x3_1).f0), .string ((rd_T42 l0 x3_1).f1)]] (by rfl) rfl rfl (by (try simp only [List.map_toArray, List.map_cons, List.map_nil]); first | done | rfl | (simp only [List.length_drop, List.length_take]; rfl) | (simp only [*]; rfl)) ?_); (with_reducible refine (lockkeeperref10_fits.calls ((rd_T42 l0 x3_1).f0) ((rd_T42 l0 x3_1).f1) true _ A4.out).mono ?_); (rintro e w16 ⟨rfl, hb⟩); (refine ⟨_, rfl, ?_⟩); (replace HB := Aside0.mk (below_step (mvW HB.out) hb)); (clear hb); (refine hK.out _ _ ⟨((HB.out.cell (World.block_lt_of_cell? w _ hw104_0)).trans hw104_0), ((HB.out.cell (World.block_lt_of_cell? w _ hw104_1)).trans hw104_1)⟩ (fun hHeld => ?_)); (clear hK K); (refine norm_ (a' := ?_) ?_ ?_); (rotate_left)
              · (show Act.put _ (some 14) _ = _); (simp only [sA]); (rfl)
              (refine pure_ (i := 5) (N := some 15) (v := ?_) (a' := ?_) (bv 6 18) rfl rfl (any_of HT_.out (by kernel_rfl)) (fun _ _ _ h => h) (Or.inl ⟨by rfl, ?_⟩) ?_ ?_); (rotate_left)
              · (intro w'); (go_simp); (with_reducible rfl)
              rotate_left
              · (simp only [sA]); (rfl)
              (refine pure_ (i := 6) (N := some 16) (v := ?_) (a' := ?_) (bv 7 17) rfl rfl (any_of HT_.out (by kernel_rfl)) (fun _ _ _ h => h) (Or.inl ⟨by rfl, ?_⟩) ?_ ?_); (rotate_left)
              · (intro w'); (go_simp); (with_reducible rfl)
              rotate_left
              · (simp only [sA]); (rfl)
              (refine pure_ (i := 7) (N := some 17) (v := ?_) (a' := ?_) (bv 8 16) rfl rfl (any_of HT_.out (by kernel_rfl)) (fun _ _ _ h => h) (Or.inl ⟨by rfl, ?_⟩) ?_ ?_); (rotate_left)
              · (intro w'); (go_simp); (with_reducible rfl)
              rotate_left
              · (simp only [sA]); (rfl)
              (refine pure_ (i := 8) (N := some 18) (v := ?_) (a' := ?_) (bv 9 15) rfl rfl (any_of HT_.out (by kernel_rfl)) (fun _ _ _ h => h) (Or.inl ⟨by rfl, ?_⟩) ?_ ?_); (rotate_left)
              · (intro w'); (go_simp); (with_reducible rfl)
              rotate_left
              · (simp only [sA]); (rfl)
              (refine pure_ (i := 9) (N := some 19) (v := ?_) (a' := ?_) (bv 10 14) rfl rfl (any_of HT_.out (by kernel_rfl)) (fun _ _ _ h => h) (Or.inl ⟨by rfl, ?_⟩) ?_ ?_); (rotate_left)
              · (intro w'); (go_simp); (with_reducible rfl)
              rotate_left
              · (simp only [sA]); (rfl)
              (refine pure_ (i := 10) (N := some 20) (v := undef) (a' := ?_) (bv 11 13) rfl rfl (any_of HT_.out (by kernel_rfl)) (fun _ _ _ h => h) (Or.inr ⟨by rfl, rfl⟩) ?_ ?_); (rotate_left)
              · (simp only [sA]); (rfl)
              (refine pure_ (i := 11) (N := some 21) (v := undef) (a' := ?_) (bv 12 12) rfl rfl (any_of HT_.out (by kernel_rfl)) (fun _ _ _ h => h) (Or.inr ⟨by rfl, rfl⟩) ?_ ?_); (rotate_left)
              · (simp only [sA]); (rfl)
              (refine pure_ (i := 12) (N := some 22) (v := undef) (a' := ?_) (bv 13 11) rfl rfl (any_of HT_.out (by kernel_rfl)) (fun _ _ _ h => h) (Or.inr ⟨by rfl, rfl⟩) ?_ ?_); (rotate_left)
              · (simp only [sA]); (rfl)
              (refine pure_ (i := 13) (N := some 23) (v := undef) (a' := ?_) (bv 14 10) rfl rfl (any_of HT_.out (by kernel_rfl)) (fun _ _ _ h => h) (Or.inr ⟨by rfl, rfl⟩) ?_ ?_); (rotate_left)
              · (simp only [sA]); (rfl)
              (refine pure_ (i := 14) (N := some 24) (v := undef) (a' := ?_) (bv 15 9) rfl rfl (any_of HT_.out (by kernel_rfl)) (fun _ _ _ h => h) (Or.inr ⟨by rfl, rfl⟩) ?_ ?_); (rotate_left)
              · (simp only [sA]); (rfl)
              (refine pure_ (i := 15) (N := some 25) (v := undef) (a' := ?_) (bv 16 8) rfl rfl (any_of HT_.out (by kernel_rfl)) (fun _ _ _ h => h) (Or.inr ⟨by rfl, rfl⟩) ?_ ?_); (rotate_left)
              · (simp only [sA]); (rfl)
              (refine pure_ (i := 16) (N := some 26) (v := undef) (a' := ?_) (bv 17 7) rfl rfl (any_of HT_.out (by kernel_rfl)) (fun _ _ _ h => h) (Or.inr ⟨by rfl, rfl⟩) ?_ ?_); (rotate_left)
              · (simp only [sA]); (rfl)
              (refine pure_ (i := 17) (N := some 27) (v := undef) (a' := ?_) (bv 18 6) rfl rfl (any_of HT_.out (by kernel_rfl)) (fun _ _ _ h => h) (Or.inr ⟨by rfl, rfl⟩) ?_ ?_); (rotate_left)
              · (simp only [sA]); (rfl)
              (refine pure_ (i := 18) (N := some 28) (v := undef) (a' := ?_) (bv 19 5) rfl rfl (any_of HT_.out (by kernel_rfl)) (fun _ _ _ h => h) (Or.inr ⟨by rfl, rfl⟩) ?_ ?_); (rotate_left)
              · (simp only [sA]); (rfl)
              (refine pure_ (i := 19) (N := some 29) (v := undef) (a' := ?_) (bv 20 4) rfl rfl (any_of HT_.out (by kernel_rfl)) (fun _ _ _ h => h) (Or.inr ⟨by rfl, rfl⟩) ?_ ?_); (rotate_left)
              · (simp only [sA]); (rfl)
              (refine pure_ (i := 20) (N := some 30) (v := undef) (a' := ?_) (bv 21 3) rfl rfl (any_of HT_.out (by kernel_rfl)) (fun _ _ _ h => h) (Or.inr ⟨by rfl, rfl⟩) ?_ ?_); (rotate_left)
              · (simp only [sA]); (rfl)
              (refine pure_ (i := 21) (N := some 31) (v := undef) (a' := ?_) (bv 22 2) rfl rfl (any_of HT_.out (by kernel_rfl)) (fun _ _ _ h => h) (Or.inr ⟨by rfl, rfl⟩) ?_ ?_); (rotate_left)
              · (simp only [sA]); (rfl)
              (refine pure_ (i := 22) (N := some 32) (v := ?_) (a' := ?_) (bv 23 1) rfl rfl (any_of HT_.out (by kernel_rfl)) (fun _ _ _ h => h) (Or.inl ⟨by rfl, ?_⟩) ?_ ?_); (rotate_left)
              · (intro w'); (go_simp); (with_reducible rfl)
              rotate_left
              · (simp only [sA]); (rfl)
              (refine pure_ (i := 23) (N := some 33) (v := ?_) (a' := ?_) (bv 24 0) rfl rfl (any_of HT_.out (by kernel_rfl)) (fun _ _ _ h => h) (Or.inl ⟨by rfl, ?_⟩) ?_ ?_); (rotate_left)
              · (intro w'); (go_simp); (with_reducible rfl)
              rotate_left
              · (simp only [sA]); (rfl)
              (refine done_ (done_of HT_.out (by kernel_rfl)) ?_); (try go_wp2); (go_roundg k1)
              case measure => have := HK1.out; omega
              case rel => exact ⟨(wrap64 (x3_1 + 1)), (by first | rfl | (simp; done) | (simp [*]; done)), H', ⟨by have := HK1.out; omega⟩, ⟨mvW HB.out⟩⟩
          · (replace c5 := Bool.eq_false_iff.mpr c5); (subst c5); (have H1 : (some false) = some r := by rw [if_neg (show ¬ (false = true) by decide)] at H; exact H); (clear H); (have H := H1); (clear H1); (obtain rfl := Option.some.inj H); (try go_wp2); (replace HB := Aside0.mk (below_drew1 HB.out)); (have p104 : 0 ≤ (x3_1 : Int) := of_decide_eq_true (by first | (with_reducible assumption) | assumption)); (have q104 : x3_1 < (l0.length : Int) := of_decide_eq_true (by first | (with_reducible assumption) | assumption)); (obtain ⟨ad104, e104, hx104_0, hx104_1⟩ := at_T42 HR0.out x3_1 p104 q104); (have hw104_1 := hx104_1); (have hw104_0 := hx104_0); (cases e104); (replace hx104_0 := (HB.out.cell (World.block_lt_of_cell? w _ hx104_0)).trans hx104_0); (replace hx104_1 := (HB.out.cell (World.block_lt_of_cell? w _ hx104_1)).trans hx104_1); (replace p104 := eq_true p104); (replace q104 := eq_true q104); (refine start_ (n := 24) (S := fun w' => w'.cell? (ad104.add ((x3_1).toNat * 2)) = some (.string ((rd_T42 l0 x3_1).f0)) ∧ w'.cell? ⟨(ad104.add ((x3_1).toNat * 2)).block, (ad104.add ((x3_1).toNat * 2)).off + 1, none⟩ = some (.string ((rd_T42 l0 x3_1).f1))) (ds := []) #[false, false, false, false, false, false, false, false, false, false, false, false, false, false, false, false, false, false, false, false, false, false, false, false] (by kernel_rfl) rfl rfl ⟨((HB.out.cell (World.block_lt_of_cell? w _ hw104_0)).trans hw104_0), ((HB.out.cell (World.block_lt_of_cell? w _ hw104_1)).trans hw104_1)⟩ (fun hHeld => ?_); refine with_tabW lockkeeperref10_Right.tab4 lockkeeperref10_Right.bits4 (fun HT_ HW_ => ?_)); (generalize wr.drew = w17 at HB hx104_0 hx104_1 hHeld ⊢); (refine pure_ (i := 0) (N := some 10) (v := ?_) (a' := ?_) (bv 1 23) rfl rfl (any_of HT_.out (by kernel_rfl)) (fun _ _ _ h => h) (Or.inl ⟨by rfl, ?_⟩) ?_ ?_); (rotate_left)
            · (intro w'); (go_simp); (with_reducible rfl)
            rotate_left
            · (simp only [sA]); (rfl)
            (refine pure_ (i := 1) (N := some 11) (v := ?_) (a' := ?_) (bv 2 22) rfl rfl (any_of HT_.out (by kernel_rfl)) (fun _ _ _ h => h) (Or.inl ⟨by rfl, ?_⟩) ?_ ?_); (rotate_left)
            · (intro w'); (go_simp); (with_reducible rfl)
            rotate_left
            · (simp only [sA]); (rfl)
            (refine pure_ (i := 2) (N := some 12) (v := ?_) (a' := ?_) (bv 3 21) rfl rfl (any_of HT_.out (by kernel_rfl)) (fun _ _ _ h => h) (Or.inl ⟨by rfl, ?_⟩) ?_ ?_); (rotate_left)
            · (intro w'); (go_simp); (with_reducible rfl)
            rotate_left
            · (simp only [sA]); (rfl)
            (refine take_ (i := 3) (N := some 13) (v := ?_) (a' := ?_) (bv 4 20) rfl rfl (take_ofW HT_.out HW_.out (by kernel_rfl)) (fun _ _ _ h => h) (Or.inl ⟨by rfl, ?_⟩) hHeld ?_ ?_); (rotate_left)
            · (rintro w' ⟨s0, s1⟩); (go_simp); (with_reducible rfl)
            rotate_left
            · (simp only [sA]); (rfl)
            (refine one_ (i := 4) (N := some 14) (bv 5 19) rfl rfl (one_of HT_.out (by kernel_rfl)) (by decide) (fun K hK => ?_)); (refine goes_ Try.func27 (by kernel_rfl) rfl #[.agg #[.string ((rd_T42 l0 x3_1).f0), .string ((rd_T42 l0 x3_1).f1)]] (by rfl) rfl rfl (by (try simp only [List.map_toArray, List.map_cons, List.map_nil]); first | done | rfl | (simp only [List.length_drop, List.length_take]; rfl) | (simp only [*]; rfl)) ?_); (with_reducible refine (lockkeeperref10_fits.calls ((rd_T42 l0 x3_1).f0) ((rd_T42 l0 x3_1).f1) false _ A4.out).mono ?_); (rintro e w18 ⟨rfl, hb⟩); (refine ⟨_, rfl, ?_⟩); (replace HB := Aside0.mk (below_step (mvW HB.out) hb)); (clear hb); (refine hK.out _ _ ⟨((HB.out.cell (World.block_lt_of_cell? w _ hw104_0)).trans hw104_0), ((HB.out.cell (World.block_lt_of_cell? w _ hw104_1)).trans hw104_1)⟩ (fun hHeld => ?_)); (clear hK K); (refine norm_ (a' := ?_) ?_ ?_); (rotate_left)
            · (show Act.put _ (some 14) _ = _); (simp only [sA]); (rfl)
            (refine pure_ (i := 5) (N := some 15) (v := ?_) (a' := ?_) (bv 6 18) rfl rfl (any_of HT_.out (by kernel_rfl)) (fun _ _ _ h => h) (Or.inl ⟨by rfl, ?_⟩) ?_ ?_); (rotate_left)
            · (intro w'); (go_simp); (with_reducible rfl)
            rotate_left
            · (simp only [sA]); (rfl)
            (refine pure_ (i := 6) (N := some 16) (v := ?_) (a' := ?_) (bv 7 17) rfl rfl (any_of HT_.out (by kernel_rfl)) (fun _ _ _ h => h) (Or.inl ⟨by rfl, ?_⟩) ?_ ?_); (rotate_left)
            · (intro w'); (go_simp); (with_reducible rfl)
            rotate_left
            · (simp only [sA]); (rfl)
            (refine pure_ (i := 7) (N := some 17) (v := undef) (a' := ?_) (bv 8 16) rfl rfl (any_of HT_.out (by kernel_rfl)) (fun _ _ _ h => h) (Or.inr ⟨by rfl, rfl⟩) ?_ ?_); (rotate_left)
            · (simp only [sA]); (rfl)
            (refine pure_ (i := 8) (N := some 18) (v := undef) (a' := ?_) (bv 9 15) rfl rfl (any_of HT_.out (by kernel_rfl)) (fun _ _ _ h => h) (Or.inr ⟨by rfl, rfl⟩) ?_ ?_); (rotate_left)
            · (simp only [sA]); (rfl)
            (refine pure_ (i := 9) (N := some 19) (v := undef) (a' := ?_) (bv 10 14) rfl rfl (any_of HT_.out (by kernel_rfl)) (fun _ _ _ h => h) (Or.inr ⟨by rfl, rfl⟩) ?_ ?_); (rotate_left)
            · (simp only [sA]); (rfl)
            (refine pure_ (i := 10) (N := some 20) (v := undef) (a' := ?_) (bv 11 13) rfl rfl (any_of HT_.out (by kernel_rfl)) (fun _ _ _ h => h) (Or.inr ⟨by rfl, rfl⟩) ?_ ?_); (rotate_left)
            · (simp only [sA]); (rfl)
            (refine pure_ (i := 11) (N := some 21) (v := undef) (a' := ?_) (bv 12 12) rfl rfl (any_of HT_.out (by kernel_rfl)) (fun _ _ _ h => h) (Or.inr ⟨by rfl, rfl⟩) ?_ ?_); (rotate_left)
            · (simp only [sA]); (rfl)
            (refine pure_ (i := 12) (N := some 22) (v := undef) (a' := ?_) (bv 13 11) rfl rfl (any_of HT_.out (by kernel_rfl)) (fun _ _ _ h => h) (Or.inr ⟨by rfl, rfl⟩) ?_ ?_); (rotate_left)
            · (simp only [sA]); (rfl)
            (refine pure_ (i := 13) (N := some 23) (v := undef) (a' := ?_) (bv 14 10) rfl rfl (any_of HT_.out (by kernel_rfl)) (fun _ _ _ h => h) (Or.inr ⟨by rfl, rfl⟩) ?_ ?_); (rotate_left)
            · (simp only [sA]); (rfl)
            (refine pure_ (i := 14) (N := some 24) (v := undef) (a' := ?_) (bv 15 9) rfl rfl (any_of HT_.out (by kernel_rfl)) (fun _ _ _ h => h) (Or.inr ⟨by rfl, rfl⟩) ?_ ?_); (rotate_left)
            · (simp only [sA]); (rfl)
            (refine pure_ (i := 15) (N := some 25) (v := undef) (a' := ?_) (bv 16 8) rfl rfl (any_of HT_.out (by kernel_rfl)) (fun _ _ _ h => h) (Or.inr ⟨by rfl, rfl⟩) ?_ ?_); (rotate_left)
            · (simp only [sA]); (rfl)
            (refine pure_ (i := 16) (N := some 26) (v := undef) (a' := ?_) (bv 17 7) rfl rfl (any_of HT_.out (by kernel_rfl)) (fun _ _ _ h => h) (Or.inr ⟨by rfl, rfl⟩) ?_ ?_); (rotate_left)
            · (simp only [sA]); (rfl)
            (refine pure_ (i := 17) (N := some 27) (v := undef) (a' := ?_) (bv 18 6) rfl rfl (any_of HT_.out (by kernel_rfl)) (fun _ _ _ h => h) (Or.inr ⟨by rfl, rfl⟩) ?_ ?_); (rotate_left)
            · (simp only [sA]); (rfl)
            (refine pure_ (i := 18) (N := some 28) (v := undef) (a' := ?_) (bv 19 5) rfl rfl (any_of HT_.out (by kernel_rfl)) (fun _ _ _ h => h) (Or.inr ⟨by rfl, rfl⟩) ?_ ?_); (rotate_left)
            · (simp only [sA]); (rfl)
            (refine pure_ (i := 19) (N := some 29) (v := undef) (a' := ?_) (bv 20 4) rfl rfl (any_of HT_.out (by kernel_rfl)) (fun _ _ _ h => h) (Or.inr ⟨by rfl, rfl⟩) ?_ ?_); (rotate_left)
            · (simp only [sA]); (rfl)
            (refine pure_ (i := 20) (N := some 30) (v := undef) (a' := ?_) (bv 21 3) rfl rfl (any_of HT_.out (by kernel_rfl)) (fun _ _ _ h => h) (Or.inr ⟨by rfl, rfl⟩) ?_ ?_); (rotate_left)
            · (simp only [sA]); (rfl)
            (refine pure_ (i := 21) (N := some 31) (v := undef) (a' := ?_) (bv 22 2) rfl rfl (any_of HT_.out (by kernel_rfl)) (fun _ _ _ h => h) (Or.inr ⟨by rfl, rfl⟩) ?_ ?_); (rotate_left)
            · (simp only [sA]); (rfl)
            (refine pure_ (i := 22) (N := some 32) (v := undef) (a' := ?_) (bv 23 1) rfl rfl (any_of HT_.out (by kernel_rfl)) (fun _ _ _ h => h) (Or.inr ⟨by rfl, rfl⟩) ?_ ?_); (rotate_left)
            · (simp only [sA]); (rfl)
            (refine pure_ (i := 23) (N := some 33) (v := ?_) (a' := ?_) (bv 24 0) rfl rfl (any_of HT_.out (by kernel_rfl)) (fun _ _ _ h => h) (Or.inl ⟨by rfl, ?_⟩) ?_ ?_); (rotate_left)
            · (intro w'); (go_simp); (with_reducible rfl)
            rotate_left
            · (simp only [sA]); (rfl)
            (refine done_ (done_of HT_.out (by kernel_rfl)) ?_); (try go_wp2); (go_ret); (exact ⟨by first | rfl | (simp [errW_none, errW_some] <;> rfl) | (simp [*, errW_none, errW_some] <;> rfl), by repeat (first | (with_reducible first | exact HB.out | apply below_alloc | apply pw_below_drewN | apply below_drew1) | exact HB.out)⟩)
        · (rw [if_neg c3] at H); (exact absurd H (by simp))
      · (rw [if_neg c2] at H); (have c2b0 : decide (x3_1 < (l0.length : Int)) = false := decide_eq_false c2); (clear c2); (obtain rfl := Option.some.inj H); (go_wp2); (go_ret); (exact ⟨by first | rfl | (simp [errW_none, errW_some] <;> rfl) | (simp [*, errW_none, errW_some] <;> rfl), by repeat (first | (with_reducible first | exact HB.out | apply below_alloc | apply pw_below_drewN | apply below_drew1) | exact HB.out)⟩)

/-! ### cells_cell_right: function 52 -/
def cells_cell_right.f (a0_0 : ByteArray) (a0_1 : ByteArray) : Option (Bool) := if (a0_0.size : Int) ≤ 513 then (some (decide ((a0_1.size : Int) ≤ 2048))) else (some false)
set_option maxHeartbeats 8000000 in
set_option maxRecDepth 100000 in
theorem cells_cell_right.calls (a0_0 : ByteArray) (a0_1 : ByteArray) (r : Bool) (w : World) (h : cells_cell_right.f a0_0 a0_1 = some r) :
    Calls Try.prog 52 #[.agg #[.string a0_0, .string a0_1]] w fun e w' => e = .returned (.bool r) ∧ Below w.heap.size w w' := by
  (have hu80 := Try.underlying80); (have HB := Aside0.mk (Below.refl w.heap.size w)); (have H : (if (a0_0.size : Int) ≤ 513 then (some (decide ((a0_1.size : Int) ≤ 2048))) else (some false)) = some r := h); (clear h); (by_cases c2 : (a0_0.size : Int) ≤ 513)
  · (rw [if_pos c2] at H); (have c2b0 : decide ((a0_0.size : Int) ≤ 513) = true := decide_eq_true c2); (have c2b1 : decide (a0_0.size ≤ 513) = true := decide_eq_true (by omega)); (clear c2); (obtain rfl := Option.some.inj H); (go_enter Try.func52, Try.ntmps52); (go_wp2_with (first | ((with_reducible refine gate_dst (N := 1) rfl ?_); (try (refine gate_guard (by rfl) ?_; dsimp only)); refine box_event ?hg (N := 1) ?hd (cs := #[.string a0_0, .string a0_1]) (t := 80) ?hr ?_; (case hd => rfl); (case hg => rfl); (case hr => first | (go_simp; done) | (go_simp; rfl)); intro gb108 hg w3 hbox hb; have BK108 := Aside0.mk (hbox); have GW108 := Aside0.mk ((by rw [hg]; exact (below_size (mvW HB.out)) : w.heap.size ≤ gb108)); have GE108 := Aside0.mk ((by rw [hg]; exact (below_size (mvW HB.out)) : w.heap.size ≤ gb108)); replace HB := Aside0.mk (below_step (mvW HB.out) hb); clear hb hbox hg; obtain ⟨Z4_0, Z4_1⟩ := bc2 BK108.out; obtain ⟨Y4_0, Y4_1⟩ := bf2 BK108.out))); (go_ret); (exact ⟨by first | rfl | (simp [errW_none, errW_some] <;> rfl) | (simp [*, errW_none, errW_some] <;> rfl), by repeat (first | (with_reducible first | exact HB.out | apply below_alloc | apply pw_below_drewN | apply below_drew1 | refine below_set ?_ GE108.out) | exact HB.out)⟩)
  · (rw [if_neg c2] at H); (have c2b0 : decide ((a0_0.size : Int) ≤ 513) = false := decide_eq_false c2); (have c2b1 : decide (a0_0.size ≤ 513) = false := decide_eq_false (by omega)); (clear c2); (obtain rfl := Option.some.inj H); (go_enter Try.func52, Try.ntmps52); (go_wp2_with (first | ((with_reducible refine gate_dst (N := 1) rfl ?_); (try (refine gate_guard (by rfl) ?_; dsimp only)); refine box_event ?hg (N := 1) ?hd (cs := #[.string a0_0, .string a0_1]) (t := 80) ?hr ?_; (case hd => rfl); (case hg => rfl); (case hr => first | (go_simp; done) | (go_simp; rfl)); intro gb108 hg w5 hbox hb; have BK108 := Aside0.mk (hbox); have GW108 := Aside0.mk ((by rw [hg]; exact (below_size (mvW HB.out)) : w.heap.size ≤ gb108)); have GE108 := Aside0.mk ((by rw [hg]; exact (below_size (mvW HB.out)) : w.heap.size ≤ gb108)); replace HB := Aside0.mk (below_step (mvW HB.out) hb); clear hb hbox hg; obtain ⟨Z6_0, Z6_1⟩ := bc2 BK108.out; obtain ⟨Y6_0, Y6_1⟩ := bf2 BK108.out))); (go_ret); (exact ⟨by first | rfl | (simp [errW_none, errW_some] <;> rfl) | (simp [*, errW_none, errW_some] <;> rfl), by repeat (first | (with_reducible first | exact HB.out | apply below_alloc | apply pw_below_drewN | apply below_drew1 | refine below_set ?_ GE108.out) | exact HB.out)⟩)

end Go.Proofs.Ytoggblomknemoaa.S
