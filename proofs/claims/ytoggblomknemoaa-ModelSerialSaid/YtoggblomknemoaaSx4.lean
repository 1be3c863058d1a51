-- PRINTED by print.py (a twelfth state) out of the translation. Not trusted: Lean checks it.
import Derived.Test.YtoggblomknemoaaMv
import Derived.Test.YtoggblomknemoaaSx0
import Derived.Test.YtoggblomknemoaaSx2
import Derived.Test.YtoggblomknemoaaSx3
namespace Go.Proofs.Ytoggblomknemoaa.S
open Go.RowKit Go.Proofs.YtoggblomknemoaaW Go.Proofs.YtoggblomknemoaaW.PrintWords Go.Proofs.YtoggblomknemoaaW.PrintLast Go.Proofs.YtoggblomknemoaaW.PrintMore
attribute [local go_sem] GpMore.bytes_le max2_int min2_int max_two min_two max_three min_three max_four min_four   -- for this text's walks alone
set_option linter.unusedVariables false
set_option linter.unusedSimpArgs false

/-! ### cells_Put: function 35 -/
def cells_Put.j0 : Nat → List (S42) → Bool → ByteArray → ByteArray → Option ((List (S42)) × Int)
  | 0, _, _, _, _ => none
  | k + 1, x0, x15, x118000, x118001 => if x15 = true then (some (([] : List (S42)), 100)) else ((cells_At.f k x0 x118000).bind fun t120 => (if t120 ≥ 0 then (if 0 ≤ t120 then (if t120 < (x0.length : Int) then (if ((rd_T42 x0 t120).f0).toList = x118000.toList then ((api_Cell_50.f x0).bind fun t122 => (if t120 < (t122.length : Int) then (some ((t122.set (t120 : Int).toNat (⟨x118000, x118001⟩ : S42)), 0)) else (none))) else (if 0 ≤ (wrap64 (t120 + 1)) then (if (wrap64 (t120 + 1)) ≤ (x0.length : Int) then ((some (x0.take ((wrap64 (t120 + 1)) : Int).toNat : List (S42))).bind fun y126 => (if y126.length < 4398046511104 then ((some (y126 ++ [(⟨x118000, x118001⟩ : S42)] : List (S42))).bind fun y130 => ((some (x0.drop ((wrap64 (t120 + 1)) : Int).toNat : List (S42))).bind fun y133 => (if y130.length + y133.length < 4398046511104 then (some ((y130 ++ y133), 0)) else (none)))) else (none))) else (none)) else (none))) else (none)) else (none)) else (if 0 ≤ (wrap64 (t120 + 1)) then (if (wrap64 (t120 + 1)) ≤ (x0.length : Int) then ((some (x0.take ((wrap64 (t120 + 1)) : Int).toNat : List (S42))).bind fun y140 => (if y140.length < 4398046511104 then ((some (y140 ++ [(⟨x118000, x118001⟩ : S42)] : List (S42))).bind fun y144 => ((some (x0.drop ((wrap64 (t120 + 1)) : Int).toNat : List (S42))).bind fun y147 => (if y144.length + y147.length < 4398046511104 then (some ((y144 ++ y147), 0)) else (none)))) else (none))) else (none)) else (none))))
def cells_Put.f (k : Nat) (l0 : List (S42)) (a1_0 : ByteArray) (a1_1 : ByteArray) : Option ((List (S42)) × Int) := (cells_Right.f k l0).bind fun t118 => (if t118 = true then ((cells_cell_right.f a1_0 a1_1).bind fun t119 => (cells_Put.j0 k l0 (!t119) a1_0 a1_1)) else (cells_Put.j0 k l0 true a1_0 a1_1))
theorem cells_Put.mono_l : ∀ k, (∀ y0 y1 y2 y3, LeO (cells_Put.j0 k y0 y1 y2 y3) (cells_Put.j0 (k + 1) y0 y1 y2 y3))
  | 0 => fun _ _ _ _ r h => by simp [cells_Put.j0] at h
  | k + 1 => by
    have ih0 := cells_Put.mono_l k
    · intro y0 y1 y2 y3
      unfold cells_Put.j0
      repeat' first
      | (with_reducible exact ih0 _ _ _ _)
      | (with_reducible exact cells_At.mono _ _ _)
      | (with_reducible exact cells_Right.mono _ _)
      | (with_reducible exact LeO.refl _)
      | (with_reducible exact LeO.none _)
      | (with_reducible refine LeO.ite ?_ ?_)
      | (with_reducible refine LeO.bind ?_ (fun _ => ?_))
      | exact ih0 _ _ _ _
      | exact cells_At.mono _ _ _
      | exact cells_Right.mono _ _
      | exact LeO.none _
      | refine LeO.ite ?_ ?_
      | refine LeO.bind ?_ (fun _ => ?_)
theorem cells_Put.mono : ∀ a0 a1 a2 k, LeO (cells_Put.f k a0 a1 a2) (cells_Put.f (k + 1) a0 a1 a2) := by
  intro a0 a1 a2 k
  have ih0 := cells_Put.mono_l k
  unfold cells_Put.f
  repeat' first
      | (with_reducible exact ih0 _ _ _ _)
      | (with_reducible exact cells_At.mono _ _ _)
      | (with_reducible exact cells_Right.mono _ _)
      | (with_reducible exact LeO.refl _)
      | (with_reducible exact LeO.none _)
      | (with_reducible refine LeO.ite ?_ ?_)
      | (with_reducible refine LeO.bind ?_ (fun _ => ?_))
      | exact ih0 _ _ _ _
      | exact cells_At.mono _ _ _
      | exact cells_Right.mono _ _
      | exact LeO.none _
      | refine LeO.ite ?_ ?_
      | refine LeO.bind ?_ (fun _ => ?_)
def cells_Put.T4 : Bool × List (List Nat × List Nat) := (true, [([], []), ([0], [0]), ([1], [1]), ([2], [2]), ([2], [2]), ([3, 4, 2], [2, 3, 4]), ([5, 2], [2, 5]), ([6, 2], [2, 6]), ([2], [2]), ([8, 2], [2, 8]), ([7, 9, 2], [2, 7, 9]), ([2, 10], [2, 10])])
def cells_Put.B4 : List Nat := [0, 1, 3, 7, 7, 31, 63, 127, 7, 263, 1023, 2047]
theorem cells_Put.tab4 : rtab .any (opsOf Try.f35 4) = cells_Put.T4 := by kernel_rfl
theorem cells_Put.bits4 : waitsOk cells_Put.T4.2 cells_Put.B4 = true := by kernel_rfl
def cells_Put.T8 : Bool × List (List Nat × List Nat) := (true, [([], []), ([], []), ([1], [1]), ([], []), ([3], [3]), ([0, 2, 4], [0, 2, 4]), ([], []), ([6], [6]), ([5, 7], [5, 7]), ([], []), ([], []), ([10], [10]), ([9, 11], [9, 11]), ([8, 12, 8], [8, 12]), ([13, 13, 0, 1, 2, 3, 4, 5, 6, 7, 8, 9, 10, 11, 12, 13], [13]), ([14, 0, 1, 2, 3, 4, 5, 6, 7, 8, 9, 10, 11, 12, 13, 14], [])])
def cells_Put.B8 : List Nat := [0, 0, 2, 0, 8, 31, 0, 64, 255, 0, 0, 1024, 3584, 8191, 16383, 32767]
theorem cells_Put.tab8 : rtab .any (opsOf Try.f35 8) = cells_Put.T8 := by kernel_rfl
theorem cells_Put.bits8 : waitsOk cells_Put.T8.2 cells_Put.B8 = true := by kernel_rfl
set_option maxHeartbeats 8000000 in
set_option maxRecDepth 100000 in
theorem cells_Put.calls (k : Nat) (A0 : Option Addr) (c0 : Nat) (l0 : List (S42)) (a1_0 : ByteArray) (a1_1 : ByteArray) (r1 : List (S42)) (r2 : Int) (w : World) (hr0 : Kd.C k42 w A0 l0.length l0) (hc0 : l0.length ≤ c0) (h : cells_Put.f k l0 a1_0 a1_1 = some (r1, r2)) :
    Calls Try.prog 35 #[.slice A0 l0.length c0, .agg #[.string a1_0, .string a1_1]] w fun e w' => ∃ v0_ : Value, e = .returned (.tuple #[v0_, .int .i64 r2]) ∧ Kd.R k42 42 w' w.heap.size (fun _ => True) v0_ r1 ∧ Below w.heap.size w w' := by
  (have hu42 := Try.underlying42); (have HR0 := Aside0.mk hr0); (have HC0 := Aside0.mk hc0); (clear hr0 hc0); (have HB := Aside0.mk (Below.refl w.heap.size w)); (have H : ((cells_Right.f k l0).bind fun t118 => (if t118 = true then ((cells_cell_right.f a1_0 a1_1).bind fun t119 => (cells_Put.j0 k l0 (!t119) a1_0 a1_1)) else (cells_Put.j0 k l0 true a1_0 a1_1))) = some (r1, r2) := h); (clear h); (have HC3 := Aside0.mk H); (clear H); (go_enter Try.func35, Try.ntmps35); (go_upto_region 1 with (first | ((with_reducible refine gate_dst (N := 3) rfl ?_); refine box_event ?hg (N := 3) ?hd (cs := #[.string a1_0, .string a1_1]) (t := 42) ?hr ?_; (case hd => rfl); (case hg => rfl); (case hr => first | (go_simp; done) | (go_simp; rfl)); intro gb117 hg w4 hbox hb; have BK117 := Aside0.mk (hbox); have GW117 := Aside0.mk ((by rw [hg]; exact (below_size (mvW HB.out)) : w.heap.size ≤ gb117)); have GE117 := Aside0.mk ((by rw [hg]; exact (below_size (mvW HB.out)) : w.heap.size ≤ gb117)); replace HB := Aside0.mk (below_step (mvW HB.out) hb); clear hb hbox hg))); ((try simp only [Act.put, List.setIfInBounds_toArray, List.set_cons_zero, List.set_cons_succ])); (go_cut [15] (fun v15 wc => ∃ (kq : Nat) (x15_2 : Bool), v15 = .bool x15_2 ∧ Aside0 (cells_Put.j0 kq l0 x15_2 a1_0 a1_1 = some (r1, r2)) ∧ Aside0 (kq ≤ k) ∧ Aside0 (wc.heap[gb117]? = some (.cells #[.string a1_0, .string a1_1] 42 (0, 0))) ∧ Aside0 (Below w.heap.size w wc)))
  case first =>
    (have H := HC3.out); (clear HC3); (replace H := Option.bind_eq_some_iff.mp H); (obtain ⟨t118, A50, H⟩ := H); (replace H : (if t118 = true then ((cells_cell_right.f a1_0 a1_1).bind fun t119 => (cells_Put.j0 k l0 (!t119) a1_0 a1_1)) else (cells_Put.j0 k l0 true a1_0 a1_1)) = some (r1, r2) := H); (have A5 := Aside0.mk A50); (clear A50); (by_cases c6 : t118 = true)
    · (subst c6); (have H1 : ((cells_cell_right.f a1_0 a1_1).bind fun t119 => (cells_Put.j0 k l0 (!t119) a1_0 a1_1)) = some (r1, r2) := by rw [if_pos rfl] at H; exact H); (clear H); (have H := H1); (clear H1); (replace H := Option.bind_eq_some_iff.mp H); (obtain ⟨t119, A70, H⟩ := H); (replace H : (cells_Put.j0 k l0 (!t119) a1_0 a1_1) = some (r1, r2) := H); (have A7 := Aside0.mk A70); (clear A70); (have H' := Aside0.mk H); (clear H); (go_wp2_with (first | ((with_reducible refine gate_callee (f := 28) rfl ?_); refine goesL_ (some 9) rfl rfl Try.func28 (by kernel_rfl) rfl #[.slice A0 l0.length c0] rfl (by (try simp only [List.map_toArray, List.map_cons, List.map_nil]); first | done | rfl | (simp only [List.length_drop, List.length_take]; rfl) | (simp only [*]; rfl)) ?_; (with_reducible refine (cells_Right.calls k _ _ l0 true _ ?side1 ?side2 A5.out).mono ?_); (case side1 => repeat (first | exact (Kd.C_below HR0.out HB.out) | (with_reducible refine Kd.C_alloc ?_ _) | (with_reducible refine Kd.C_drewN ?_ _) | (with_reducible refine Kd.C_drew ?_))); (case side2 => exact HC0.out); rintro e w8 ⟨rfl, hb⟩; refine ⟨_, rfl, ?_⟩; replace BK117 := Aside0.mk (blk_below (mvB BK117.out) hb); replace HB := Aside0.mk (below_step (mvW HB.out) hb); clear hb; obtain ⟨Z9_0, Z9_1⟩ := bc2 BK117.out; obtain ⟨Y9_0, Y9_1⟩ := bf2 BK117.out) | (go_at_call 52; (with_reducible refine (cells_cell_right.calls a1_0 a1_1 t119 _ A7.out).mono ?_); rintro e w10 ⟨rfl, hb⟩; replace BK117 := Aside0.mk (blk_below (mvB BK117.out) hb); replace HB := Aside0.mk (below_step (mvW HB.out) hb); (try clear hb); (try clear hb2); (try clear hk); (try clear hi)))); (go_meet)
      case rel => exact ⟨_, (!t119), (by first | rfl | (simp; done) | (simp [*]; done)), H', ⟨by first | omega | exact Nat.le_refl _⟩, ⟨mvB BK117.out⟩, ⟨mvW HB.out⟩⟩
    · (replace c6 := Bool.eq_false_iff.mpr c6); (subst c6); (have H1 : (cells_Put.j0 k l0 true a1_0 a1_1) = some (r1, r2) := by rw [if_neg (show ¬ (false = true) by decide)] at H; exact H); (clear H); (have H := H1); (clear H1); (have H' := Aside0.mk H); (clear H); (go_wp2_with (first | ((with_reducible refine gate_callee (f := 28) rfl ?_); refine goesL_ (some 9) rfl rfl Try.func28 (by kernel_rfl) rfl #[.slice A0 l0.length c0] rfl (by (try simp only [List.map_toArray, List.map_cons, List.map_nil]); first | done | rfl | (simp only [List.length_drop, List.length_take]; rfl) | (simp only [*]; rfl)) ?_; (with_reducible refine (cells_Right.calls k _ _ l0 false _ ?side1 ?side2 A5.out).mono ?_); (case side1 => repeat (first | exact (Kd.C_below HR0.out HB.out) | (with_reducible refine Kd.C_alloc ?_ _) | (with_reducible refine Kd.C_drewN ?_ _) | (with_reducible refine Kd.C_drew ?_))); (case side2 => exact HC0.out); rintro e w11 ⟨rfl, hb⟩; refine ⟨_, rfl, ?_⟩; replace BK117 := Aside0.mk (blk_below (mvB BK117.out) hb); replace HB := Aside0.mk (below_step (mvW HB.out) hb); (try clear hb); (try clear hb2); (try clear hk); (try clear hi)))); (go_meet)
      case rel => exact ⟨_, (true), (by first | rfl | (simp; done) | (simp [*]; done)), H', ⟨by first | omega | exact Nat.le_refl _⟩, ⟨mvB BK117.out⟩, ⟨mvW HB.out⟩⟩
  case rest =>
    (clear HC3); (try clear c2); (try clear p2); (try clear c3); (try clear c6); (try clear Z9_0 Z9_1); (try clear Y9_0 Y9_1); (obtain ⟨kq, x15_2, rfl, HA, HJ2, BK117, HB⟩ := hcut)
    cases kq with
    | zero => exact absurd HA.out (by simp [cells_Put.j0])
    | succ kj2 =>
      (have H := HA.out); (clear HA); (simp only [cells_Put.j0] at H); (by_cases c12 : x15_2 = true)
      · (subst c12); (have H1 : (some (([] : List (S42)), 100)) = some (r1, r2) := by rw [if_pos rfl] at H; exact H); (clear H); (have H := H1); (clear H1); (simp only [Option.some.injEq, Prod.mk.injEq] at H); (obtain ⟨rfl, rfl⟩ := H); (go_wp2); (go_ret2); (exact ⟨_, by first | rfl | (simp [errW_none, errW_some] <;> rfl) | (simp [*, errW_none, errW_some] <;> rfl), by first | exact Kd.R_nil _ _ _ _ _ | exact Kd.N_nil _ _ _ _ _ | exact Kd.V_nil _ _ _ _ _ | exact Kd.Q_nil _ _ _ _ _ | exact Kd.S_nil _ _ _ _ _, by repeat (first | (with_reducible first | exact HB.out | apply below_alloc | apply pw_below_drewN | apply below_drew1 | refine below_set ?_ GE117.out) | exact HB.out)⟩)
      · (replace c12 := Bool.eq_false_iff.mpr c12); (subst c12); (have H1 : ((cells_At.f kj2 l0 a1_0).bind fun t120 => (if t120 ≥ 0 then (if 0 ≤ t120 then (if t120 < (l0.length : Int) then (if ((rd_T42 l0 t120).f0).toList = a1_0.toList then ((api_Cell_50.f l0).bind fun t122 => (if t120 < (t122.length : Int) then (some ((t122.set (t120 : Int).toNat (⟨a1_0, a1_1⟩ : S42)), 0)) else (none))) else (if 0 ≤ (wrap64 (t120 + 1)) then (if (wrap64 (t120 + 1)) ≤ (l0.length : Int) then ((some (l0.take ((wrap64 (t120 + 1)) : Int).toNat : List (S42))).bind fun y126 => (if y126.length < 4398046511104 then ((some (y126 ++ [(⟨a1_0, a1_1⟩ : S42)] : List (S42))).bind fun y130 => ((some (l0.drop ((wrap64 (t120 + 1)) : Int).toNat : List (S42))).bind fun y133 => (if y130.length + y133.length < 4398046511104 then (some ((y130 ++ y133), 0)) else (none)))) else (none))) else (none)) else (none))) else (none)) else (none)) else (if 0 ≤ (wrap64 (t120 + 1)) then (if (wrap64 (t120 + 1)) ≤ (l0.length : Int) then ((some (l0.take ((wrap64 (t120 + 1)) : Int).toNat : List (S42))).bind fun y140 => (if y140.length < 4398046511104 then ((some (y140 ++ [(⟨a1_0, a1_1⟩ : S42)] : List (S42))).bind fun y144 => ((some (l0.drop ((wrap64 (t120 + 1)) : Int).toNat : List (S42))).bind fun y147 => (if y144.length + y147.length < 4398046511104 then (some ((y144 ++ y147), 0)) else (none)))) else (none))) else (none)) else (none)))) = some (r1, r2) := by rw [if_neg (show ¬ (false = true) by decide)] at H; exact H); (clear H); (have H := H1); (clear H1); (replace H := Option.bind_eq_some_iff.mp H); (obtain ⟨t120, A130, H⟩ := H); (replace H : (if t120 ≥ 0 then (if 0 ≤ t120 then (if t120 < (l0.length : Int) then (if ((rd_T42 l0 t120).f0).toList = a1_0.toList then ((api_Cell_50.f l0).bind fun t122 => (if t120 < (t122.length : Int) then (some ((t122.set (t120 : Int).toNat (⟨a1_0, a1_1⟩ : S42)), 0)) else (none))) else (if 0 ≤ (wrap64 (t120 + 1)) then (if (wrap64 (t120 + 1)) ≤ (l0.length : Int) then ((some (l0.take ((wrap64 (t120 + 1)) : Int).toNat : List (S42))).bind fun y126 => (if y126.length < 4398046511104 then ((some (y126 ++ [(⟨a1_0, a1_1⟩ : S42)] : List (S42))).bind fun y130 => ((some (l0.drop ((wrap64 (t120 + 1)) : Int).toNat : List (S42))).bind fun y133 => (if y130.length + y133.length < 4398046511104 then (some ((y130 ++ y133), 0)) else (none)))) else (none))) else (none)) else (none))) else (none)) else (none)) else (if 0 ≤ (wrap64 (t120 + 1)) then (if (wrap64 (t120 + 1)) ≤ (l0.length : Int) then ((some (l0.take ((wrap64 (t120 + 1)) : Int).toNat : List (S42))).bind fun y140 => (if y140.length < 4398046511104 then ((some (y140 ++ [(⟨a1_0, a1_1⟩ : S42)] : List (S42))).bind fun y144 => ((some (l0.drop ((wrap64 (t120 + 1)) : Int).toNat : List (S42))).bind fun y147 => (if y144.length + y147.length < 4398046511104 then (some ((y144 ++ y147), 0)) else (none)))) else (none))) else (none)) else (none))) = some (r1, r2) := H); (have A13 := Aside0.mk A130); (clear A130); (by_cases c14 : t120 ≥ 0)
        · (rw [if_pos c14] at H); (have c14b0 : decide (0 ≤ t120) = true := decide_eq_true c14); (clear c14); (by_cases c15 : 0 ≤ t120)
          · (rw [if_pos c15] at H); (have c15b0 : decide (0 ≤ t120) = true := decide_eq_true c15); (clear c15); (by_cases c16 : t120 < (l0.length : Int))
            · (rw [if_pos c16] at H); (have c16b0 : decide (t120 < (l0.length : Int)) = true := decide_eq_true c16); (clear c16); (by_cases c17 : ((rd_T42 l0 t120).f0).toList = a1_0.toList)
              · (rw [if_pos c17] at H); (have c17b0 : (((rd_T42 l0 t120).f0).toList == a1_0.toList) = true := beq_iff_eq.mpr c17); (have c17b1 : (((rd_T42 l0 t120).f0).toList != a1_0.toList) = false := bne_eq_false_iff_eq.mpr c17); (clear c17); (replace H := Option.bind_eq_some_iff.mp H); (obtain ⟨t122, A180, H⟩ := H); (replace H : (if t120 < (t122.length : Int) then (some ((t122.set (t120 : Int).toNat (⟨a1_0, a1_1⟩ : S42)), 0)) else (none)) = some (r1, r2) := H); (have A18 := Aside0.mk A180); (clear A180); (by_cases c19 : t120 < (t122.length : Int))
                · (rw [if_pos c19] at H); (have c19b0 : decide (t120 < (t122.length : Int)) = true := decide_eq_true c19); (clear c19); (obtain ⟨y125, hy125⟩ : ∃ y_ : List (S42), y_ = (t122.set (t120 : Int).toNat (⟨a1_0, a1_1⟩ : S42)) := ⟨_, rfl⟩); (replace H : (some (y125, 0)) = some (r1, r2) := by first | (rw [hy125]; with_reducible exact H) | (have H2_ := (Option.bind_some _ _).symm.trans H; rw [hy125]; with_reducible exact H2_) | (have H2_ := (Option.bind_some _ _).symm.trans H; with_reducible exact H2_) | with_reducible exact H | (rw [hy125]; exact H) | exact H); (have Ny125 := Aside0.mk hy125); (clear hy125); (simp only [Option.some.injEq, Prod.mk.injEq] at H); (obtain ⟨rfl, rfl⟩ := H); (obtain ⟨Z21_0, Z21_1⟩ := bc2 BK117.out); (obtain ⟨Y21_0, Y21_1⟩ := bf2 BK117.out); (try go_wp2_with (first | ((with_reducible refine gate_callee (f := 53) rfl ?_); refine goesL_ (some 19) rfl rfl Try.func53 (by kernel_rfl) rfl #[.slice A0 l0.length c0, .string a1_0] rfl (by (try simp only [List.map_toArray, List.map_cons, List.map_nil]); first | done | rfl | (simp only [List.length_drop, List.length_take]; rfl) | (simp only [*]; rfl)) ?_; (with_reducible refine (cells_At.calls kj2 _ _ l0 a1_0 t120 _ ?side1 ?side2 A13.out).mono ?_); (case side1 => repeat (first | exact (Kd.C_below HR0.out HB.out) | (with_reducible refine Kd.C_alloc ?_ _) | (with_reducible refine Kd.C_drewN ?_ _) | (with_reducible refine Kd.C_drew ?_))); (case side2 => exact HC0.out); rintro e w22 ⟨rfl, hb⟩; refine ⟨_, rfl, ?_⟩; replace BK117 := Aside0.mk (blk_below (mvB BK117.out) hb); replace HB := Aside0.mk (below_step (mvW HB.out) hb); (try clear hb); (try clear hb2); (try clear hk); (try clear hi)))); (replace BK117 := Aside0.mk (blk_drew BK117.out)); (replace HB := Aside0.mk (below_drew1 HB.out)); (have p121 : 0 ≤ (t120 : Int) := of_decide_eq_true (by first | (with_reducible assumption) | assumption)); (have q121 : t120 < (l0.length : Int) := of_decide_eq_true (by first | (with_reducible assumption) | assumption)); (obtain ⟨ad121, e121, hx121_0, hx121_1⟩ := at_T42 HR0.out t120 p121 q121); (have hw121_1 := hx121_1); (have hw121_0 := hx121_0); (cases e121); (replace hx121_0 := (HB.out.cell (World.block_lt_of_cell? w _ hx121_0)).trans hx121_0); (replace hx121_1 := (HB.out.cell (World.block_lt_of_cell? w _ hx121_1)).trans hx121_1); (replace p121 := eq_true p121); (replace q121 := eq_true q121); (refine start_ (n := 12) (S := fun w' => w'.cell? ⟨gb117, 0, none⟩ = some (.string a1_0) ∧ w'.cell? ⟨gb117, 1, none⟩ = some (.string a1_1) ∧ w'.cell? (ad121.add ((t120).toNat * 2)) = some (.string ((rd_T42 l0 t120).f0)) ∧ w'.cell? ⟨(ad121.add ((t120).toNat * 2)).block, (ad121.add ((t120).toNat * 2)).off + 1, none⟩ = some (.string ((rd_T42 l0 t120).f1))) (ds := []) #[false, false, false, false, false, false, false, false, false, false, false, false] (by kernel_rfl) rfl rfl ⟨(blk_cell BK117.out 0).trans rfl, (blk_cell BK117.out 1).trans rfl, ((HB.out.cell (World.block_lt_of_cell? w _ hw121_0)).trans hw121_0), ((HB.out.cell (World.block_lt_of_cell? w _ hw121_1)).trans hw121_1)⟩ (fun hHeld => ?_); refine with_tabW cells_Put.tab4 cells_Put.bits4 (fun HT_ HW_ => ?_)); (generalize w22.drew = w23 at BK117 HB hx121_0 hx121_1 hHeld ⊢); (refine pure_ (i := 0) (N := some 20) (v := ?_) (a' := ?_) (bv 1 11) rfl rfl (any_of HT_.out (by kernel_rfl)) (fun _ _ _ h => h) (Or.inl ⟨by rfl, ?_⟩) ?_ ?_); (rotate_left)
                  · (intro w'); (go_simp); (with_reducible rfl)
                  rotate_left
                  · (simp only [sA]); (rfl)
                  (refine pure_ (i := 1) (N := some 21) (v := ?_) (a' := ?_) (bv 2 10) rfl rfl (any_of HT_.out (by kernel_rfl)) (fun _ _ _ h => h) (Or.inl ⟨by rfl, ?_⟩) ?_ ?_); (rotate_left)
                  · (intro w'); (go_simp); (with_reducible rfl)
                  rotate_left
                  · (simp only [sA]); (rfl)
                  (refine pure_ (i := 2) (N := some 22) (v := ?_) (a' := ?_) (bv 3 9) rfl rfl (any_of HT_.out (by kernel_rfl)) (fun _ _ _ h => h) (Or.inl ⟨by rfl, ?_⟩) ?_ ?_); (rotate_left)
                  · (intro w'); (go_simp); (with_reducible rfl)
                  rotate_left
                  · (simp only [sA]); (rfl)
                  (refine pure_ (i := 3) (N := some 23) (v := ?_) (a' := ?_) (bv 4 8) rfl rfl (any_of HT_.out (by kernel_rfl)) (fun _ _ _ h => h) (Or.inl ⟨by rfl, ?_⟩) ?_ ?_); (rotate_left)
                  · (intro w'); (go_simp); (with_reducible rfl)
                  rotate_left
                  · (simp only [sA]); (rfl)
                  (refine pure_ (i := 4) (N := some 24) (v := ?_) (a' := ?_) (bv 5 7) rfl rfl (any_of HT_.out (by kernel_rfl)) (fun _ _ _ h => h) (Or.inl ⟨by rfl, ?_⟩) ?_ ?_); (rotate_left)
                  · (intro w'); (go_simp); (with_reducible rfl)
                  rotate_left
                  · (simp only [sA]); (rfl)
                  (refine pure_ (i := 5) (N := some 25) (v := ?_) (a' := ?_) (bv 6 6) rfl rfl (any_of HT_.out (by kernel_rfl)) (fun _ _ _ h => h) (Or.inl ⟨by rfl, ?_⟩) ?_ ?_); (rotate_left)
                  · (intro w'); (go_simp); (with_reducible rfl)
                  rotate_left
                  · (simp only [sA]); (rfl)
                  (refine pure_ (i := 6) (N := some 26) (v := ?_) (a' := ?_) (bv 7 5) rfl rfl (any_of HT_.out (by kernel_rfl)) (fun _ _ _ h => h) (Or.inl ⟨by rfl, ?_⟩) ?_ ?_); (rotate_left)
                  · (intro w'); (go_simp); (with_reducible rfl)
                  rotate_left
                  · (simp only [sA]); (rfl)
                  (refine pure_ (i := 8) (N := some 28) (v := ?_) (a' := ?_) #[true, true, true, true, true, true, true, false, true, false, false, false] rfl rfl (any_of HT_.out (by kernel_rfl)) (fun _ _ _ h => h) (Or.inl ⟨by rfl, ?_⟩) ?_ ?_); (rotate_left)
                  · (intro w'); (go_simp); (with_reducible rfl)
                  rotate_left
                  · (simp only [sA]); (rfl)
                  (refine take_ (i := 7) (N := some 27) (v := ?_) (a' := ?_) (bv 9 3) rfl rfl (take_ofW HT_.out HW_.out (by kernel_rfl)) (fun _ _ _ h => h) (Or.inl ⟨by rfl, ?_⟩) hHeld ?_ ?_); (rotate_left)
                  · (rintro w' ⟨s0, s1, s2, s3⟩); (go_simp); (with_reducible rfl)
                  rotate_left
                  · (simp only [sA]); (rfl)
                  (refine take_ (i := 9) (N := some 29) (v := ?_) (a' := ?_) (bv 10 2) rfl rfl (take_ofW HT_.out HW_.out (by kernel_rfl)) (fun _ _ _ h => h) (Or.inl ⟨by rfl, ?_⟩) hHeld ?_ ?_); (rotate_left)
                  · (rintro w' ⟨s0, s1, s2, s3⟩); (go_simp); (with_reducible rfl)
                  rotate_left
                  · (simp only [sA]); (rfl)
                  (refine pure_ (i := 10) (N := some 30) (v := ?_) (a' := ?_) (bv 11 1) rfl rfl (any_of HT_.out (by kernel_rfl)) (fun _ _ _ h => h) (Or.inl ⟨by rfl, ?_⟩) ?_ ?_); (rotate_left)
                  · (intro w'); (go_simp); (with_reducible rfl)
                  rotate_left
                  · (simp only [sA]); (rfl)
                  (refine pure_ (i := 11) (N := some 31) (v := ?_) (a' := ?_) (bv 12 0) rfl rfl (any_of HT_.out (by kernel_rfl)) (fun _ _ _ h => h) (Or.inl ⟨by rfl, ?_⟩) ?_ ?_); (rotate_left)
                  · (intro w'); (go_simp); (with_reducible rfl)
                  rotate_left
                  · (simp only [sA]); (rfl)
                  (refine done_ (done_of HT_.out (by kernel_rfl)) ?_); (try go_wp2_with (first | ((with_reducible refine gate_callee (f := 50) rfl ?_); refine goesL_ (some 33) rfl rfl Try.func50 (by kernel_rfl) rfl #[.slice (some ad121) l0.length c0] rfl (by (try simp only [List.map_toArray, List.map_cons, List.map_nil]); first | done | rfl | (simp only [List.length_drop, List.length_take]; rfl) | (simp only [*]; rfl)) ?_; (with_reducible refine (api_Cell_50.calls _ _ l0 t122 _ ?side1 ?side2 A18.out).mono ?_); (case side1 => repeat (first | exact (Kd.C_below HR0.out HB.out) | (with_reducible refine Kd.C_alloc ?_ _) | (with_reducible refine Kd.C_drewN ?_ _) | (with_reducible refine Kd.C_drew ?_))); (case side2 => exact HC0.out); rintro e w24 ⟨v123, rfl, ho0, hb⟩; refine ⟨_, rfl, ?_⟩; have HO124 := Aside0.mk (Kd.R_lower (Kd.R_newB ho0 (g := gb117) (o := .cells #[.string a1_0, .string a1_1] 42 (0, 0)) (mvB BK117.out)) (below_size (mvW HB.out))); replace BK117 := Aside0.mk (blk_below (mvB BK117.out) hb); replace HB := Aside0.mk (below_step (mvW HB.out) hb); clear hb ho0; obtain ⟨Z25_0, Z25_1⟩ := bc2 BK117.out; obtain ⟨Y25_0, Y25_1⟩ := bf2 BK117.out; have p20 : 0 ≤ (t120 : Int) := of_decide_eq_true (by first | (with_reducible assumption) | assumption); have q20 : (t120 : Int) < ((t122.length : Int) : Int) := of_decide_eq_true (by first | (with_reducible assumption) | assumption); obtain ⟨go20, co20, eo20, gb20, gl20, cl20, HG20⟩ := Kd.R_form HO124.out (by omega); (first | cases eo20 | (injection eo20 with ea_ en_ ec_; (first | subst ea_ | (injection ea_ with ea_; subst ea_)); subst ec_; clear en_)); have GB20 := Aside0.mk gb20; have GG20 := Aside0.mk HG20; clear gb20 gl20 HG20; obtain ⟨ce20, hcl20, hM20, hcc20, hfr20⟩ := Kd.R_elem HO124.out z42 (t120 : Int) p20 q20; obtain rfl := k42_openM hM20; have hx20_0 : w24.cell? ⟨go20, (t120 : Int).toNat * 2, none⟩ = some (.string ((rd_T42 t122 t120).f0)) := hcc20 0 _ rfl; have hx20_1 : w24.cell? ⟨go20, (t120 : Int).toNat * 2 + 1, none⟩ = some (.string ((rd_T42 t122 t120).f1)) := hcc20 1 _ rfl; have hf20_0 : w24.frozen? ⟨go20, (t120 : Int).toNat * 2, none⟩ = false := hfr20 0; have hf20_1 : w24.frozen? ⟨go20, (t120 : Int).toNat * 2 + 1, none⟩ = false := hfr20 1; clear hcl20 hcc20 hfr20 hM20; replace p20 := eq_true p20; replace q20 := eq_true q20; have n_ := Aside0.mk (Kd.R_mono (ok' := (fun k_ => k_ ≠ gb117)) HO124.out (fun k_ hk => hk.2)); clear HO124; have HO124 := n_; clear n_; have HX26 := Aside0.mk (show Kd.R k42 42 w24 w.heap.size (fun k_ => k_ ≠ gb117) (.slice (some ⟨go20, 0, none⟩) t122.length co20) t122 from (mvR HO124.out)); obtain ⟨ce26, hcl26, hM26, hcc26, hfr26⟩ := Kd.R_elem HX26.out z42 (t120 : Int) (of_decide_eq_true (by first | (with_reducible assumption) | assumption)) (by have h_ : (t120 : Int) < ((t122.length : Int) : Int) := of_decide_eq_true (by first | (with_reducible assumption) | assumption); first | exact h_ | (have e_ := (Kd.R_reads' HO124.out).1; omega) | simpa using h_); obtain rfl := k42_openM hM26; have HP26 := Kd.R_seg HX26.out (t120 : Int) (of_decide_eq_true (by first | (with_reducible assumption) | assumption)) (by have h_ : (t120 : Int) < ((t122.length : Int) : Int) := of_decide_eq_true (by first | (with_reducible assumption) | assumption); first | exact h_ | (have e_ := (Kd.R_reads' HO124.out).1; omega) | simpa using h_) (seg := [.string a1_0, .string a1_1]) (j := 0) hcl26 hcc26 (show 2 ≤ 2 from by decide) (x' := (⟨a1_0, a1_1⟩ : S42)) (k42_mkM _ _ _ (⟨a1_0, a1_1⟩ : S42) ) (fun _ hk => hk); have hx26_0 := hcc26 0 _ rfl; (try simp only [show (k42).sz = 2 from rfl, Nat.mul_one, Nat.add_zero] at hx26_0); have hf26_0 := hfr26 0; (try simp only [show (k42).sz = 2 from rfl, Nat.mul_one, Nat.add_zero] at hf26_0); have hx26_1 := hcc26 1 _ rfl; (try simp only [show (k42).sz = 2 from rfl, Nat.mul_one, Nat.add_zero] at hx26_1); have hf26_1 := hfr26 1; (try simp only [show (k42).sz = 2 from rfl, Nat.mul_one, Nat.add_zero] at hf26_1); clear hcl26 hcc26 hfr26 hM26) | ((with_reducible refine gate_store (t := 42) (p := 37) rfl ?_); refine store_event (t := 42) (p := 37) (v := ?vo_w27) (w1 := ((w24.setCell ⟨go20, (t120 : Int).toNat * 2, none⟩ (.string a1_0)).setCell ⟨go20, (t120 : Int).toNat * 2 + 1, none⟩ (.string a1_1))) ?hg ?ho ?hn ?hr ?_; (case ho => rfl); (case hg => rfl); (case hn => rfl); (case hr => first | (go_simp; done) | (go_simp; rfl)); intro w27 hw; have hg : w24.grownBy w27 (some go20) := (by rw [hw]; exact HP26.2); have hp_ : Kd.R k42 42 w27 w.heap.size (fun k_ => k_ ≠ gb117) (.slice (some ⟨go20, 0, none⟩) t122.length co20) y125 := (by rw [hw, Ny125.out]; exact HP26.1); clear HP26; replace BK117 := Aside0.mk (blk_grown (mvB BK117.out) hg (Kd.R_away HO124.out (fun _ hk => hk))); replace HO124 := Aside0.mk (hp_); replace HB := Aside0.mk ((by rw [hw]; exact below_set (below_set (HB.out) GB20.out) GB20.out : Below w.heap.size w w27)); clear hg hw hp_))); (go_ret2); (exact ⟨_, by first | rfl | (simp [errW_none, errW_some] <;> rfl) | (simp [*, errW_none, errW_some] <;> rfl), by (with_reducible repeat (first | apply Kd.R_alloc | apply Kd.R_drewN | apply Kd.R_drew)); exact Kd.R_mono HO124.out (fun _ hk => trivial), by repeat (first | (with_reducible first | exact HB.out | apply below_alloc | apply pw_below_drewN | apply below_drew1 | refine below_set ?_ GE117.out) | exact HB.out)⟩)
                · (rw [if_neg c19] at H); (exact absurd H (by simp))
              · (rw [if_neg c17] at H); (have c17b0 : (((rd_T42 l0 t120).f0).toList == a1_0.toList) = false := beq_eq_false_iff_ne.mpr c17); (have c17b1 : (((rd_T42 l0 t120).f0).toList != a1_0.toList) = true := bne_iff_ne.mpr c17); (obtain ⟨ji28, hji28⟩ : ∃ j_ : Int, (wrap64 (t120 + 1)) = j_ := ⟨_, rfl⟩); (replace H : (if 0 ≤ (ji28) then (if (ji28) ≤ (l0.length : Int) then ((some (l0.take ((ji28) : Int).toNat : List (S42))).bind fun y126 => (if y126.length < 4398046511104 then ((some (y126 ++ [(⟨a1_0, a1_1⟩ : S42)] : List (S42))).bind fun y130 => ((some (l0.drop ((ji28) : Int).toNat : List (S42))).bind fun y133 => (if y130.length + y133.length < 4398046511104 then (some ((y130 ++ y133), 0)) else (none)))) else (none))) else (none)) else (none)) = some (r1, r2) := by first | (rw [hji28] at H; exact H) | (simp only [hji28] at H ⊢; exact H)); ((try rw [hji28] at A13)); (have hji28w : (IntKind.i64.wrap (t120 + 1)) = ji28 := (i64_w _).trans hji28); (by_cases c29 : 0 ≤ (ji28))
                · (rw [if_pos c29] at H); (have c29b0 := eq_true c29); (have c29b1 : decide (0 ≤ (ji28)) = true := decide_eq_true c29); (clear c29); (by_cases c30 : (ji28) ≤ (l0.length : Int))
                  · (rw [if_pos c30] at H); (have c30b0 := eq_true c30); (have c30b1 : decide ((ji28) ≤ (l0.length : Int)) = true := decide_eq_true c30); (clear c30); (obtain ⟨y126, hy126⟩ : ∃ y_ : List (S42), y_ = (l0.take ((ji28) : Int).toNat) := ⟨_, rfl⟩); (replace H : (if y126.length < 4398046511104 then ((some (y126 ++ [(⟨a1_0, a1_1⟩ : S42)] : List (S42))).bind fun y130 => ((some (l0.drop ((ji28) : Int).toNat : List (S42))).bind fun y133 => (if y130.length + y133.length < 4398046511104 then (some ((y130 ++ y133), 0)) else (none)))) else (none)) = some (r1, r2) := by first | (rw [hy126]; with_reducible exact H) | (have H2_ := (Option.bind_some _ _).symm.trans H; rw [hy126]; with_reducible exact H2_) | (have H2_ := (Option.bind_some _ _).symm.trans H; with_reducible exact H2_) | with_reducible exact H | (rw [hy126]; exact H) | exact H); (have Ny126 := Aside0.mk hy126); (clear hy126); (by_cases c31 : y126.length < 4398046511104)
                    · (rw [if_pos c31] at H); (have LMc31 := Aside0.mk c31); (clear c31); (obtain ⟨y130, hy130⟩ : ∃ y_ : List (S42), y_ = (y126 ++ [(⟨a1_0, a1_1⟩ : S42)]) := ⟨_, rfl⟩); (replace H : ((some (l0.drop ((ji28) : Int).toNat : List (S42))).bind fun y133 => (if y130.length + y133.length < 4398046511104 then (some ((y130 ++ y133), 0)) else (none))) = some (r1, r2) := by first | (rw [hy130]; with_reducible exact H) | (have H2_ := (Option.bind_some _ _).symm.trans H; rw [hy130]; with_reducible exact H2_) | (have H2_ := (Option.bind_some _ _).symm.trans H; with_reducible exact H2_) | with_reducible exact H | (rw [hy130]; exact H) | exact H); (have Ny130 := Aside0.mk hy130); (clear hy130); (have c32b0 := eq_true (of_decide_eq_true (by first | (with_reducible assumption) | assumption) : 0 ≤ (ji28))); (have c33b0 := eq_true (of_decide_eq_true (by first | (with_reducible assumption) | assumption) : (ji28) ≤ (l0.length : Int))); (obtain ⟨y133, hy133⟩ : ∃ y_ : List (S42), y_ = (l0.drop ((ji28) : Int).toNat) := ⟨_, rfl⟩); (replace H : (if y130.length + y133.length < 4398046511104 then (some ((y130 ++ y133), 0)) else (none)) = some (r1, r2) := by first | (rw [hy133]; with_reducible exact H) | (have H2_ := (Option.bind_some _ _).symm.trans H; rw [hy133]; with_reducible exact H2_) | (have H2_ := (Option.bind_some _ _).symm.trans H; with_reducible exact H2_) | with_reducible exact H | (rw [hy133]; exact H) | exact H); (have Ny133 := Aside0.mk hy133); (clear hy133); (by_cases c34 : y130.length + y133.length < 4398046511104)
                      · (rw [if_pos c34] at H); (have LMc34 := Aside0.mk c34); (clear c34); (obtain ⟨y137, hy137⟩ : ∃ y_ : List (S42), y_ = (y130 ++ y133) := ⟨_, rfl⟩); (replace H : (some (y137, 0)) = some (r1, r2) := by first | (rw [hy137]; with_reducible exact H) | (have H2_ := (Option.bind_some _ _).symm.trans H; rw [hy137]; with_reducible exact H2_) | (have H2_ := (Option.bind_some _ _).symm.trans H; with_reducible exact H2_) | with_reducible exact H | (rw [hy137]; exact H) | exact H); (have Ny137 := Aside0.mk hy137); (clear hy137); (simp only [Option.some.injEq, Prod.mk.injEq] at H); (obtain ⟨rfl, rfl⟩ := H); (obtain ⟨Z35_0, Z35_1⟩ := bc2 BK117.out); (obtain ⟨Y35_0, Y35_1⟩ := bf2 BK117.out); (try go_wp2_with (first | ((with_reducible refine gate_callee (f := 53) rfl ?_); refine goesL_ (some 19) rfl rfl Try.func53 (by kernel_rfl) rfl #[.slice A0 l0.length c0, .string a1_0] rfl (by (try simp only [List.map_toArray, List.map_cons, List.map_nil]); first | done | rfl | (simp only [List.length_drop, List.length_take]; rfl) | (simp only [*]; rfl)) ?_; (with_reducible refine (cells_At.calls kj2 _ _ l0 a1_0 t120 _ ?side1 ?side2 A13.out).mono ?_); (case side1 => repeat (first | exact (Kd.C_below HR0.out HB.out) | (with_reducible refine Kd.C_alloc ?_ _) | (with_reducible refine Kd.C_drewN ?_ _) | (with_reducible refine Kd.C_drew ?_))); (case side2 => exact HC0.out); rintro e w36 ⟨rfl, hb⟩; refine ⟨_, rfl, ?_⟩; replace BK117 := Aside0.mk (blk_below (mvB BK117.out) hb); replace HB := Aside0.mk (below_step (mvW HB.out) hb); (try clear hb); (try clear hb2); (try clear hk); (try clear hi)))); (replace BK117 := Aside0.mk (blk_drew BK117.out)); (replace HB := Aside0.mk (below_drew1 HB.out)); (have p121 : 0 ≤ (t120 : Int) := of_decide_eq_true (by first | (with_reducible assumption) | assumption)); (have q121 : t120 < (l0.length : Int) := of_decide_eq_true (by first | (with_reducible assumption) | assumption)); (obtain ⟨ad121, e121, hx121_0, hx121_1⟩ := at_T42 HR0.out t120 p121 q121); (have hw121_1 := hx121_1); (have hw121_0 := hx121_0); (cases e121); (replace hx121_0 := (HB.out.cell (World.block_lt_of_cell? w _ hx121_0)).trans hx121_0); (replace hx121_1 := (HB.out.cell (World.block_lt_of_cell? w _ hx121_1)).trans hx121_1); (replace p121 := eq_true p121); (replace q121 := eq_true q121); (refine start_ (n := 12) (S := fun w' => w'.cell? ⟨gb117, 0, none⟩ = some (.string a1_0) ∧ w'.cell? ⟨gb117, 1, none⟩ = some (.string a1_1) ∧ w'.cell? (ad121.add ((t120).toNat * 2)) = some (.string ((rd_T42 l0 t120).f0)) ∧ w'.cell? ⟨(ad121.add ((t120).toNat * 2)).block, (ad121.add ((t120).toNat * 2)).off + 1, none⟩ = some (.string ((rd_T42 l0 t120).f1))) (ds := []) #[false, false, false, false, false, false, false, false, false, false, false, false] (by kernel_rfl) rfl rfl ⟨(blk_cell BK117.out 0).trans rfl, (blk_cell BK117.out 1).trans rfl, ((HB.out.cell (World.block_lt_of_cell? w _ hw121_0)).trans hw121_0), ((HB.out.cell (World.block_lt_of_cell? w _ hw121_1)).trans hw121_1)⟩ (fun hHeld => ?_); refine with_tabW cells_Put.tab4 cells_Put.bits4 (fun HT_ HW_ => ?_)); (generalize w36.drew = w37 at BK117 HB hx121_0 hx121_1 hHeld ⊢); (refine pure_ (i := 0) (N := some 20) (v := ?_) (a' := ?_) (bv 1 11) rfl rfl (any_of HT_.out (by kernel_rfl)) (fun _ _ _ h => h) (Or.inl ⟨by rfl, ?_⟩) ?_ ?_); (rotate_left)
                        · (intro w'); (go_simp); (with_reducible rfl)
                        rotate_left
                        · (simp only [sA]); (rfl)
                        (refine pure_ (i := 1) (N := some 21) (v := ?_) (a' := ?_) (bv 2 10) rfl rfl (any_of HT_.out (by kernel_rfl)) (fun _ _ _ h => h) (Or.inl ⟨by rfl, ?_⟩) ?_ ?_); (rotate_left)
                        · (intro w'); (go_simp); (with_reducible rfl)
                        rotate_left
                        · (simp only [sA]); (rfl)
                        (refine pure_ (i := 2) (N := some 22) (v := ?_) (a' := ?_) (bv 3 9) rfl rfl (any_of HT_.out (by kernel_rfl)) (fun _ _ _ h => h) (Or.inl ⟨by rfl, ?_⟩) ?_ ?_); (rotate_left)
                        · (intro w'); (go_simp); (with_reducible rfl)
                        rotate_left
                        · (simp only [sA]); (rfl)
                        (refine pure_ (i := 3) (N := some 23) (v := ?_) (a' := ?_) (bv 4 8) rfl rfl (any_of HT_.out (by kernel_rfl)) (fun _ _ _ h => h) (Or.inl ⟨by rfl, ?_⟩) ?_ ?_); (rotate_left)
                        · (intro w'); (go_simp); (with_reducible rfl)
                        rotate_left
                        · (simp only [sA]); (rfl)
                        (refine pure_ (i := 4) (N := some 24) (v := ?_) (a' := ?_) (bv 5 7) rfl rfl (any_of HT_.out (by kernel_rfl)) (fun _ _ _ h => h) (Or.inl ⟨by rfl, ?_⟩) ?_ ?_); (rotate_left)
                        · (intro w'); (go_simp); (with_reducible rfl)
                        rotate_left
                        · (simp only [sA]); (rfl)
                        (refine pure_ (i := 5) (N := some 25) (v := ?_) (a' := ?_) (bv 6 6) rfl rfl (any_of HT_.out (by kernel_rfl)) (fun _ _ _ h => h) (Or.inl ⟨by rfl, ?_⟩) ?_ ?_); (rotate_left)
                        · (intro w'); (go_simp); (with_reducible rfl)
                        rotate_left
                        · (simp only [sA]); (rfl)
                        (refine pure_ (i := 6) (N := some 26) (v := ?_) (a' := ?_) (bv 7 5) rfl rfl (any_of HT_.out (by kernel_rfl)) (fun _ _ _ h => h) (Or.inl ⟨by rfl, ?_⟩) ?_ ?_); (rotate_left)
                        · (intro w'); (go_simp); (with_reducible rfl)
                        rotate_left
                        · (simp only [sA]); (rfl)
                        (refine pure_ (i := 8) (N := some 28) (v := ?_) (a' := ?_) #[true, true, true, true, true, true, true, false, true, false, false, false] rfl rfl (any_of HT_.out (by kernel_rfl)) (fun _ _ _ h => h) (Or.inl ⟨by rfl, ?_⟩) ?_ ?_); (rotate_left)
                        · (intro w'); (go_simp); (with_reducible rfl)
                        rotate_left
                        · (simp only [sA]); (rfl)
                        (refine take_ (i := 7) (N := some 27) (v := ?_) (a' := ?_) (bv 9 3) rfl rfl (take_ofW HT_.out HW_.out (by kernel_rfl)) (fun _ _ _ h => h) (Or.inl ⟨by rfl, ?_⟩) hHeld ?_ ?_); (rotate_left)
                        · (rintro w' ⟨s0, s1, s2, s3⟩); (go_simp); (with_reducible rfl)
                        rotate_left
                        · (simp only [sA]); (rfl)
                        (refine take_ (i := 9) (N := some 29) (v := ?_) (a' := ?_) (bv 10 2) rfl rfl (take_ofW HT_.out HW_.out (by kernel_rfl)) (fun _ _ _ h => h) (Or.inl ⟨by rfl, ?_⟩) hHeld ?_ ?_); (rotate_left)
                        · (rintro w' ⟨s0, s1, s2, s3⟩); (go_simp); (with_reducible rfl)
                        rotate_left
                        · (simp only [sA]); (rfl)
                        (refine pure_ (i := 10) (N := some 30) (v := ?_) (a' := ?_) (bv 11 1) rfl rfl (any_of HT_.out (by kernel_rfl)) (fun _ _ _ h => h) (Or.inl ⟨by rfl, ?_⟩) ?_ ?_); (rotate_left)
                        · (intro w'); (go_simp); (with_reducible rfl)
                        rotate_left
                        · (simp only [sA]); (rfl)
                        (refine pure_ (i := 11) (N := some 31) (v := ?_) (a' := ?_) (bv 12 0) rfl rfl (any_of HT_.out (by kernel_rfl)) (fun _ _ _ h => h) (Or.inl ⟨by rfl, ?_⟩) ?_ ?_); (rotate_left)
                        · (intro w'); (go_simp); (with_reducible rfl)
                        rotate_left
                        · (simp only [sA]); (rfl)
                        (refine done_ (done_of HT_.out (by kernel_rfl)) ?_); (try go_wp2); (replace BK117 := Aside0.mk (blk_drew BK117.out)); (replace HB := Aside0.mk (below_drew1 HB.out)); (have q39 : ((ji28) : Int) ≤ ((l0.length : Int) : Int) := of_decide_eq_true (by first | (with_reducible assumption) | assumption)); (obtain ⟨i039, hi039, _, hsz39, _⟩ := info_parts info42); (have hroom39 : l0.length ≤ c0 := HC0.out); (have hC39 : Kd.C k42 _ (some ad121) l0.length l0 := HR0.out); (have hcut39 := GpMore.cut_to3 (P := Try.prog) 22 42 .i64 .i64 Try.underlying22 hi039 (some ad121) l0.length c0 (ji28) (of_decide_eq_true (by first | (with_reducible assumption) | assumption)) q39 hroom39); (have hr39 := Kd.C_take (m := ((ji28) : Int).toNat) hC39 (by omega)); (have hy39 : y126.length = ((ji28) : Int).toNat := (by rw [Ny126.out, List.length_take]; omega)); (rw [← Ny126.out] at hr39); (rw [← hy39] at hcut39); (have HR129 := Aside0.mk hr39); (have HC129 := Aside0.mk (show y126.length ≤ y126.length from by omega)); (clear hr39 hC39 hroom39 hi039 hsz39); (have KY39 := Aside0.mk hy39); (clear hy39); (replace q39 := eq_true q39); (have q40 : ((ji28) : Int) ≤ ((l0.length : Int) : Int) := of_decide_eq_true (by first | (with_reducible assumption) | assumption)); (obtain ⟨i040, hi040, _, hsz40, _⟩ := info_parts info42); (have hroom40 : l0.length ≤ c0 := HC0.out); (have hC40 : Kd.C k42 _ (some ad121) l0.length l0 := HR0.out); (have q040 : (0 : Int) ≤ ((ji28) : Int) := of_decide_eq_true (by first | (with_reducible assumption) | assumption)); (have hcut40 := cut_from (P := Try.prog) 22 42 .i64 Try.underlying22 hi040 2 hsz40 (some ad121) l0.length c0 (ji28) q040 q40); (have hr40 := Kd.C_drop (m := ((ji28) : Int).toNat) (c := c0) hC40 (by omega) hroom40); (obtain ⟨A40, hA40⟩ : ∃ A1, A1 = (if c0 = ((ji28) : Int).toNat then (some ad121) else ((some ad121) : Option Addr).map (·.add (((ji28) : Int).toNat * 2))) := ⟨_, rfl⟩); (obtain ⟨c40, hc40⟩ : ∃ c1, c1 = c0 - ((ji28) : Int).toNat := ⟨_, rfl⟩); (have hy40 : y133.length = l0.length - ((ji28) : Int).toNat := (by rw [Ny133.out, List.length_drop] <;> omega)); (rw [show (l0).drop ((ji28) : Int).toNat = y133 from Ny133.out.symm] at hr40); (replace hr40 : Kd.C k42 _ A40 y133.length y133 := (by rw [hA40]; exact hr40)); (rw [← hy40, ← hA40, ← hc40] at hcut40); (have HR136 := Aside0.mk hr40); (have HC136 := Aside0.mk (show y133.length ≤ c40 from by rw [hy40, hc40]; exact Nat.sub_le_sub_right hroom40 _)); (clear hr40 hC40 hroom40 hi040 hsz40 hc40); (have KY40 := Aside0.mk hy40); (have KA40 := Aside0.mk hA40); (clear hy40 hA40); (replace q40 := eq_true q40); (refine start_ (n := 16) (S := fun w' => w'.cell? ⟨gb117, 0, none⟩ = some (.string a1_0) ∧ w'.cell? ⟨gb117, 1, none⟩ = some (.string a1_1)) (ds := []) #[false, false, false, false, false, false, false, false, false, false, false, false, false, false, false, false] (by kernel_rfl) rfl rfl (bc2 BK117.out) (fun hHeld => ?_); refine with_tabW cells_Put.tab8 cells_Put.bits8 (fun HT_ HW_ => ?_)); (generalize w37.drew = w38 at BK117 HB HR129 HR136 hHeld ⊢); (refine pure_ (i := 0) (N := some 39) (v := ?_) (a' := ?_) (bv 1 15) rfl rfl (any_of HT_.out (by kernel_rfl)) (fun _ _ _ h => h) (Or.inl ⟨by rfl, ?_⟩) ?_ ?_); (rotate_left)
                        · (intro w'); (go_simp); (with_reducible rfl)
                        rotate_left
                        · (simp only [sA]); (rfl)
                        (refine pure_ (i := 1) (N := some 40) (v := ?_) (a' := ?_) (bv 2 14) rfl rfl (any_of HT_.out (by kernel_rfl)) (fun _ _ _ h => h) (Or.inl ⟨by rfl, ?_⟩) ?_ ?_); (rotate_left)
                        · (intro w'); (go_simp); (with_reducible rfl)
                        rotate_left
                        · (simp only [sA]); (rfl)
                        (refine pure_ (i := 2) (N := some 41) (v := ?_) (a' := ?_) (bv 3 13) rfl rfl (any_of HT_.out (by kernel_rfl)) (fun _ _ _ h => h) (Or.inl ⟨by rfl, ?_⟩) ?_ ?_); (rotate_left)
                        · (intro w'); (go_simp); (with_reducible rfl)
                        rotate_left
                        · (simp only [sA]); (rfl)
                        (refine pure_ (i := 3) (N := some 42) (v := ?_) (a' := ?_) (bv 4 12) rfl rfl (any_of HT_.out (by kernel_rfl)) (fun _ _ _ h => h) (Or.inl ⟨by rfl, ?_⟩) ?_ ?_); (rotate_left)
                        · (intro w'); (go_simp); (with_reducible rfl)
                        rotate_left
                        · (simp only [sA]); (rfl)
                        (refine pure_ (i := 4) (N := some 43) (v := ?_) (a' := ?_) (bv 5 11) rfl rfl (any_of HT_.out (by kernel_rfl)) (fun _ _ _ h => h) (Or.inl ⟨by rfl, ?_⟩) ?_ ?_); (rotate_left)
                        · (intro w'); (go_simp); (with_reducible rfl)
                        rotate_left
                        · (simp only [sA]); (rfl)
                        (refine pure_ (i := 5) (N := some 44) (v := ?_) (a' := ?_) (bv 6 10) rfl rfl (any_of HT_.out (by kernel_rfl)) (fun _ _ _ h => h) (Or.inl ⟨by rfl, ?_⟩) ?_ ?_); (rotate_left)
                        · (intro w'); (go_simp); (with_reducible rfl)
                        rotate_left
                        · (simp only [sA]); (rfl)
                        (refine pure_ (i := 9) (N := some 48) (v := ?_) (a' := ?_) #[true, true, true, true, true, true, false, false, false, true, false, false, false, false, false, false] rfl rfl (any_of HT_.out (by kernel_rfl)) (fun _ _ _ h => h) (Or.inl ⟨by rfl, ?_⟩) ?_ ?_); (rotate_left)
                        · (intro w'); (go_simp); (with_reducible rfl)
                        rotate_left
                        · (simp only [sA]); (rfl)
                        (refine pure_ (i := 10) (N := some 49) (v := ?_) (a' := ?_) #[true, true, true, true, true, true, false, false, false, true, true, false, false, false, false, false] rfl rfl (any_of HT_.out (by kernel_rfl)) (fun _ _ _ h => h) (Or.inl ⟨by rfl, ?_⟩) ?_ ?_); (rotate_left)
                        · (intro w'); (go_simp); (with_reducible rfl)
                        rotate_left
                        · (simp only [sA]); (rfl)
                        (refine pure_ (i := 11) (N := some 50) (v := ?_) (a' := ?_) #[true, true, true, true, true, true, false, false, false, true, true, true, false, false, false, false] rfl rfl (any_of HT_.out (by kernel_rfl)) (fun _ _ _ h => h) (Or.inl ⟨by rfl, ?_⟩) ?_ ?_); (rotate_left)
                        · (intro w'); (go_simp); (with_reducible rfl)
                        rotate_left
                        · (simp only [sA]); (rfl)
                        (refine pure_ (i := 12) (N := some 51) (v := ?_) (a' := ?_) #[true, true, true, true, true, true, false, false, false, true, true, true, true, false, false, false] rfl rfl (any_of HT_.out (by kernel_rfl)) (fun _ _ _ h => h) (Or.inl ⟨by rfl, ?_⟩) ?_ ?_); (rotate_left)
                        · (intro w'); (go_simp); (with_reducible rfl)
                        rotate_left
                        · (simp only [sA]); (rfl)
                        (refine take_ (i := 6) (N := some 45) (v := ?_) (a' := ?_) #[true, true, true, true, true, true, true, false, false, true, true, true, true, false, false, false] rfl rfl (take_ofW HT_.out HW_.out (by kernel_rfl)) (fun _ _ _ h => h) (Or.inl ⟨by rfl, ?_⟩) hHeld ?_ ?_); (rotate_left)
                        · (rintro w' ⟨s0, s1⟩); (go_simp); (with_reducible rfl)
                        rotate_left
                        · (simp only [sA]); (rfl)
                        (refine one_ (i := 7) (N := some 46) #[true, true, true, true, true, true, true, true, false, true, true, true, true, false, false, false] rfl rfl (one_of HT_.out (by kernel_rfl)) (by decide) (fun K hK => ?_)); (refine value_ (w1 := ?_) (v := ?_) (by rfl) rfl ?_ ?_); (rotate_left 2)
                        · (go_simp); (constructor)
                          · rfl
                          · rfl
                        (refine hK.out _ _ ⟨(blk_cell (blk_alloc BK117.out _) 0).trans rfl, (blk_cell (blk_alloc BK117.out _) 1).trans rfl⟩ (fun hHeld => ?_)); (clear hK K); (refine norm_ (a' := ?_) ?_ ?_); (rotate_left)
                        · (show Act.put _ (some 46) _ = _); (simp only [sA]); (rfl)
                        (refine one_ (i := 8) (N := some 47) (bv 13 3) rfl rfl (one_of HT_.out (by kernel_rfl)) (by decide) (fun K hK => ?_)); (refine GpMore.R_append_full_step k42 (w0 := w) w.heap.size (by rfl) (.tmp 44) (.tmp 46) 22 42 (.agg #[(.string ⟨#[]⟩), (.string ⟨#[]⟩)]) 32 rfl Try.underlying22 info42 rfl (by decide) (by omega) (.slice (some ad121) y126.length y126.length) y126 (⟨a1_0, a1_1⟩ : S42) [.string a1_0, .string a1_1] (fun k_ => k_ ≠ gb117) (fun _ => False) rfl rfl ?aP (fun _ hk => hk) ?aF (fun _ _ h => h) ?aO ?aB ?aS ?aL ?_); ((case aP => exact k42_mkM _ _ _ (⟨a1_0, a1_1⟩ : S42))); ((case aB => exact (mvW HB.out))); ((case aF => exact (fun k_ hk => Kd.freshB (g := gb117) (o := .cells #[.string a1_0, .string a1_1] 42 (0, 0)) (mvB BK117.out) k_ hk))); ((case aO => refine ⟨_, rfl, ?_⟩; repeat (first | exact (Kd.C_below HR129.out HB.out) | (with_reducible refine Kd.C_alloc ?_ _) | (with_reducible refine Kd.C_drewN ?_ _) | (with_reducible refine Kd.C_drew ?_)))); ((case aS => exact (below_size (mvW HB.out)))); ((case aL => have := LMc31.out; omega)); (intro v131 w41 ho hb hg hat); (rw [← Ny130.out] at ho); (replace BK117 := Aside0.mk (blk_grown (mvB BK117.out) hg (by simp [Value.ownBlock]))); (replace HB := Aside0.mk (hb)); (have HO132 := Aside0.mk (ho)); (clear ho hb hg hat); (refine hK.out _ _ (bc2 BK117.out) (fun hHeld => ?_)); (clear hK K); (refine norm_ (a' := ?_) ?_ ?_); (rotate_left)
                        · (show Act.put _ (some 47) _ = _); (simp only [sA]); (rfl)
                        (refine one_ (i := 13) (N := some 52) (bv 14 2) rfl rfl (one_of HT_.out (by kernel_rfl)) (by decide) (fun K hK => ?_)); (refine Kd.R_append_rows_step k42 (w0 := w) w.heap.size (by rfl) (.tmp 47) (.tmp 51) 22 42 (.agg #[(.string ⟨#[]⟩), (.string ⟨#[]⟩)]) 32 rfl Try.underlying22 info42 rfl (by decide) (by omega) v131 y130 y133 _ _ _ (fun k_ => k_ ≠ gb117) (fun _ => False) rfl rfl ?aO ?aR (fun _ _ h => h) (fun _ h => h.elim) ?aF ?aB ?aS ?aL ?_); ((case aR => repeat (first | exact (Kd.C_below HR136.out HB.out) | (with_reducible refine Kd.C_alloc ?_ _) | (with_reducible refine Kd.C_drewN ?_ _) | (with_reducible refine Kd.C_drew ?_)))); ((case aB => exact (mvW HB.out))); ((case aF => exact (fun k_ hk => Kd.freshB (g := gb117) (o := .cells #[.string a1_0, .string a1_1] 42 (0, 0)) (mvB BK117.out) k_ hk))); ((case aO => exact (mvR HO132.out))); ((case aS => exact (below_size (mvW HB.out)))); ((case aL => have := LMc34.out; omega)); (intro v138 w42 ho hb hg hat); (rw [← Ny137.out] at ho); (replace BK117 := Aside0.mk (blk_grown (mvB BK117.out) hg (Kd.R_away HO132.out (fun _ hk => hk)))); (replace HB := Aside0.mk (hb)); (have HO139 := Aside0.mk (ho)); (clear HO132); (clear ho hb hg hat); (refine hK.out _ _ (bc2 BK117.out) (fun hHeld => ?_)); (clear hK K); (refine norm_ (a' := ?_) ?_ ?_); (rotate_left)
                        · (show Act.put _ (some 52) _ = _); (simp only [sA]); (rfl)
                        (refine pure_ (i := 14) (N := some 4) (v := ?_) (a' := ?_) (bv 15 1) rfl rfl (any_of HT_.out (by kernel_rfl)) (fun _ _ _ h => h) (Or.inl ⟨by rfl, ?_⟩) ?_ ?_); (rotate_left)
                        · (intro w'); (go_simp); (with_reducible rfl)
                        rotate_left
                        · (simp only [sA]); (rfl)
                        (refine pure_ (i := 15) (N := some 5) (v := ?_) (a' := ?_) (bv 16 0) rfl rfl (any_of HT_.out (by kernel_rfl)) (fun _ _ _ h => h) (Or.inl ⟨by rfl, ?_⟩) ?_ ?_); (rotate_left)
                        · (intro w'); (go_simp); (with_reducible rfl)
                        rotate_left
                        · (simp only [sA]); (rfl)
                        (refine done_ (done_of HT_.out (by kernel_rfl)) ?_); (try go_wp2); (go_ret2); (exact ⟨_, by first | rfl | (simp [errW_none, errW_some] <;> rfl) | (simp only [← hji28]; first | rfl | (simp [errW_none, errW_some] <;> rfl)) | (simp [*, errW_none, errW_some] <;> rfl), by (with_reducible repeat (first | apply Kd.R_alloc | apply Kd.R_drewN | apply Kd.R_drew)); exact Kd.R_mono HO139.out (fun _ hk => trivial), by repeat (first | (with_reducible first | exact HB.out | apply below_alloc | apply pw_below_drewN | apply below_drew1 | refine below_set ?_ GE117.out) | exact HB.out)⟩)
                      · (rw [if_neg c34] at H); (exact absurd H (by simp))
                    · (rw [if_neg c31] at H); (exact absurd H (by simp))
                  · (rw [if_neg c30] at H); (exact absurd H (by simp))
                · (rw [if_neg c29] at H); (exact absurd H (by simp))
            · (rw [if_neg c16] at H); (exact absurd H (by simp))
          · (rw [if_neg c15] at H); (exact absurd H (by simp))
        · (rw [if_neg c14] at H); (have c14b0 : decide (0 ≤ t120) = false := decide_eq_false c14); (clear c14); (obtain ⟨ji43, hji43⟩ : ∃ j_ : Int, (wrap64 (t120 + 1)) = j_ := ⟨_, rfl⟩); (replace H : (if 0 ≤ (ji43) then (if (ji43) ≤ (l0.length : Int) then ((some (l0.take ((ji43) : Int).toNat : List (S42))).bind fun y140 => (if y140.length < 4398046511104 then ((some (y140 ++ [(⟨a1_0, a1_1⟩ : S42)] : List (S42))).bind fun y144 => ((some (l0.drop ((ji43) : Int).toNat : List (S42))).bind fun y147 => (if y144.length + y147.length < 4398046511104 then (some ((y144 ++ y147), 0)) else (none)))) else (none))) else (none)) else (none)) = some (r1, r2) := by first | (rw [hji43] at H; exact H) | (simp only [hji43] at H ⊢; exact H)); ((try rw [hji43] at A13)); (have hji43w : (IntKind.i64.wrap (t120 + 1)) = ji43 := (i64_w _).trans hji43); (by_cases c44 : 0 ≤ (ji43))
          · (rw [if_pos c44] at H); (have c44b0 := eq_true c44); (have c44b1 : decide (0 ≤ (ji43)) = true := decide_eq_true c44); (clear c44); (by_cases c45 : (ji43) ≤ (l0.length : Int))
            · (rw [if_pos c45] at H); (have c45b0 := eq_true c45); (have c45b1 : decide ((ji43) ≤ (l0.length : Int)) = true := decide_eq_true c45); (clear c45); (obtain ⟨y140, hy140⟩ : ∃ y_ : List (S42), y_ = (l0.take ((ji43) : Int).toNat) := ⟨_, rfl⟩); (replace H : (if y140.length < 4398046511104 then ((some (y140 ++ [(⟨a1_0, a1_1⟩ : S42)] : List (S42))).bind fun y144 => ((some (l0.drop ((ji43) : Int).toNat : List (S42))).bind fun y147 => (if y144.length + y147.length < 4398046511104 then (some ((y144 ++ y147), 0)) else (none)))) else (none)) = some (r1, r2) := by first | (rw [hy140]; with_reducible exact H) | (have H2_ := (Option.bind_some _ _).symm.trans H; rw [hy140]; with_reducible exact H2_) | (have H2_ := (Option.bind_some _ _).symm.trans H; with_reducible exact H2_) | with_reducible exact H | (rw [hy140]; exact H) | exact H); (have Ny140 := Aside0.mk hy140); (clear hy140); (by_cases c46 : y140.length < 4398046511104)
              · (rw [if_pos c46] at H); (have LMc46 := Aside0.mk c46); (clear c46); (obtain ⟨y144, hy144⟩ : ∃ y_ : List (S42), y_ = (y140 ++ [(⟨a1_0, a1_1⟩ : S42)]) := ⟨_, rfl⟩); (replace H : ((some (l0.drop ((ji43) : Int).toNat : List (S42))).bind fun y147 => (if y144.length + y147.length < 4398046511104 then (some ((y144 ++ y147), 0)) else (none))) = some (r1, r2) := by first | (rw [hy144]; with_reducible exact H) | (have H2_ := (Option.bind_some _ _).symm.trans H; rw [hy144]; with_reducible exact H2_) | (have H2_ := (Option.bind_some _ _).symm.trans H; with_reducible exact H2_) | with_reducible exact H | (rw [hy144]; exact H) | exact H); (have Ny144 := Aside0.mk hy144); (clear hy144); (have c47b0 := eq_true (of_decide_eq_true (by first | (with_reducible assumption) | assumption) : 0 ≤ (ji43))); (have c48b0 := eq_true (of_decide_eq_true (by first | (with_reducible assumption) | assumption) : (ji43) ≤ (l0.length : Int))); (obtain ⟨y147, hy147⟩ : ∃ y_ : List (S42), y_ = (l0.drop ((ji43) : Int).toNat) := ⟨_, rfl⟩); (replace H : (if y144.length + y147.length < 4398046511104 then (some ((y144 ++ y147), 0)) else (none)) = some (r1, r2) := by first | (rw [hy147]; with_reducible exact H) | (have H2_ := (Option.bind_some _ _).symm.trans H; rw [hy147]; with_reducible exact H2_) | (have H2_ := (Option.bind_some _ _).symm.trans H; with_reducible exact H2_) | with_reducible exact H | (rw [hy147]; exact H) | exact H); (have Ny147 := Aside0.mk hy147); (clear hy147); (by_cases c49 : y144.length + y147.length < 4398046511104)
                · (rw [if_pos c49] at H); (have LMc49 := Aside0.mk c49); (clear c49); (obtain ⟨y151, hy151⟩ : ∃ y_ : List (S42), y_ = (y144 ++ y147) := ⟨_, rfl⟩); (replace H : (some (y151, 0)) = some (r1, r2) := by first | (rw [hy151]; with_reducible exact H) | (have H2_ := (Option.bind_some _ _).symm.trans H; rw [hy151]; with_reducible exact H2_) | (have H2_ := (Option.bind_some _ _).symm.trans H; with_reducible exact H2_) | with_reducible exact H | (rw [hy151]; exact H) | exact H); (have Ny151 := Aside0.mk hy151); (clear hy151); (simp only [Option.some.injEq, Prod.mk.injEq] at H); (obtain ⟨rfl, rfl⟩ := H); (obtain ⟨Z50_0, Z50_1⟩ := bc2 BK117.out); (obtain ⟨Y50_0, Y50_1⟩ := bf2 BK117.out); (try go_wp2_with (first | ((with_reducible refine gate_callee (f := 53) rfl ?_); refine goesL_ (some 19) rfl rfl Try.func53 (by kernel_rfl) rfl #[.slice A0 l0.length c0, .string a1_0] rfl (by (try simp only [List.map_toArray, List.map_cons, List.map_nil]); first | done | rfl | (simp only [List.length_drop, List.length_take]; rfl) | (simp only [*]; rfl)) ?_; (with_reducible refine (cells_At.calls kj2 _ _ l0 a1_0 t120 _ ?side1 ?side2 A13.out).mono ?_); (case side1 => repeat (first | exact (Kd.C_below HR0.out HB.out) | (with_reducible refine Kd.C_alloc ?_ _) | (with_reducible refine Kd.C_drewN ?_ _) | (with_reducible refine Kd.C_drew ?_))); (case side2 => exact HC0.out); rintro e w51 ⟨rfl, hb⟩; refine ⟨_, rfl, ?_⟩; replace BK117 := Aside0.mk (blk_below (mvB BK117.out) hb); replace HB := Aside0.mk (below_step (mvW HB.out) hb); (try clear hb); (try clear hb2); (try clear hk); (try clear hi)))); (replace BK117 := Aside0.mk (blk_drew BK117.out)); (replace HB := Aside0.mk (below_drew1 HB.out)); (refine start_ (n := 12) (S := fun w' => True) (ds := []) #[false, false, false, false, false, false, false, false, false, false, false, false] (by kernel_rfl) rfl rfl trivial (fun hHeld => ?_); refine with_tabW cells_Put.tab4 cells_Put.bits4 (fun HT_ HW_ => ?_)); (generalize w51.drew = w52 at BK117 HB hHeld ⊢); (refine pure_ (i := 0) (N := some 20) (v := ?_) (a' := ?_) (bv 1 11) rfl rfl (any_of HT_.out (by kernel_rfl)) (fun _ _ _ h => h) (Or.inl ⟨by rfl, ?_⟩) ?_ ?_); (rotate_left)
                  · (intro w'); (go_simp); (with_reducible rfl)
                  rotate_left
                  · (simp only [sA]); (rfl)
                  (refine pure_ (i := 1) (N := some 21) (v := ?_) (a' := ?_) (bv 2 10) rfl rfl (any_of HT_.out (by kernel_rfl)) (fun _ _ _ h => h) (Or.inl ⟨by rfl, ?_⟩) ?_ ?_); (rotate_left)
                  · (intro w'); (go_simp); (with_reducible rfl)
                  rotate_left
                  · (simp only [sA]); (rfl)
                  (refine pure_ (i := 2) (N := some 22) (v := ?_) (a' := ?_) (bv 3 9) rfl rfl (any_of HT_.out (by kernel_rfl)) (fun _ _ _ h => h) (Or.inl ⟨by rfl, ?_⟩) ?_ ?_); (rotate_left)
                  · (intro w'); (go_simp); (with_reducible rfl)
                  rotate_left
                  · (simp only [sA]); (rfl)
                  (refine pure_ (i := 3) (N := some 23) (v := undef) (a' := ?_) (bv 4 8) rfl rfl (any_of HT_.out (by kernel_rfl)) (fun _ _ _ h => h) (Or.inr ⟨by rfl, rfl⟩) ?_ ?_); (rotate_left)
                  · (simp only [sA]); (rfl)
                  (refine pure_ (i := 4) (N := some 24) (v := undef) (a' := ?_) (bv 5 7) rfl rfl (any_of HT_.out (by kernel_rfl)) (fun _ _ _ h => h) (Or.inr ⟨by rfl, rfl⟩) ?_ ?_); (rotate_left)
                  · (simp only [sA]); (rfl)
                  (refine pure_ (i := 5) (N := some 25) (v := undef) (a' := ?_) (bv 6 6) rfl rfl (any_of HT_.out (by kernel_rfl)) (fun _ _ _ h => h) (Or.inr ⟨by rfl, rfl⟩) ?_ ?_); (rotate_left)
                  · (simp only [sA]); (rfl)
                  (refine pure_ (i := 6) (N := some 26) (v := undef) (a' := ?_) (bv 7 5) rfl rfl (any_of HT_.out (by kernel_rfl)) (fun _ _ _ h => h) (Or.inr ⟨by rfl, rfl⟩) ?_ ?_); (rotate_left)
                  · (simp only [sA]); (rfl)
                  (refine pure_ (i := 7) (N := some 27) (v := undef) (a' := ?_) (bv 8 4) rfl rfl (any_of HT_.out (by kernel_rfl)) (fun _ _ _ h => h) (Or.inr ⟨by rfl, rfl⟩) ?_ ?_); (rotate_left)
                  · (simp only [sA]); (rfl)
                  (refine pure_ (i := 8) (N := some 28) (v := undef) (a' := ?_) (bv 9 3) rfl rfl (any_of HT_.out (by kernel_rfl)) (fun _ _ _ h => h) (Or.inr ⟨by rfl, rfl⟩) ?_ ?_); (rotate_left)
                  · (simp only [sA]); (rfl)
                  (refine pure_ (i := 9) (N := some 29) (v := undef) (a' := ?_) (bv 10 2) rfl rfl (any_of HT_.out (by kernel_rfl)) (fun _ _ _ h => h) (Or.inr ⟨by rfl, rfl⟩) ?_ ?_); (rotate_left)
                  · (simp only [sA]); (rfl)
                  (refine pure_ (i := 10) (N := some 30) (v := undef) (a' := ?_) (bv 11 1) rfl rfl (any_of HT_.out (by kernel_rfl)) (fun _ _ _ h => h) (Or.inr ⟨by rfl, rfl⟩) ?_ ?_); (rotate_left)
                  · (simp only [sA]); (rfl)
                  (refine pure_ (i := 11) (N := some 31) (v := ?_) (a' := ?_) (bv 12 0) rfl rfl (any_of HT_.out (by kernel_rfl)) (fun _ _ _ h => h) (Or.inl ⟨by rfl, ?_⟩) ?_ ?_); (rotate_left)
                  · (intro w'); (go_simp); (with_reducible rfl)
                  rotate_left
                  · (simp only [sA]); (rfl)
                  (refine done_ (done_of HT_.out (by kernel_rfl)) ?_); (try go_wp2); (replace BK117 := Aside0.mk (blk_drew BK117.out)); (replace HB := Aside0.mk (below_drew1 HB.out)); (have q54 : ((ji43) : Int) ≤ ((l0.length : Int) : Int) := of_decide_eq_true (by first | (with_reducible assumption) | assumption)); (obtain ⟨i054, hi054, _, hsz54, _⟩ := info_parts info42); (have hroom54 : l0.length ≤ c0 := HC0.out); (have hC54 : Kd.C k42 _ A0 l0.length l0 := HR0.out); (have hcut54 := GpMore.cut_to3 (P := Try.prog) 22 42 .i64 .i64 Try.underlying22 hi054 A0 l0.length c0 (ji43) (of_decide_eq_true (by first | (with_reducible assumption) | assumption)) q54 hroom54); (have hr54 := Kd.C_take (m := ((ji43) : Int).toNat) hC54 (by omega)); (have hy54 : y140.length = ((ji43) : Int).toNat := (by rw [Ny140.out, List.length_take]; omega)); (rw [← Ny140.out] at hr54); (rw [← hy54] at hcut54); (have HR143 := Aside0.mk hr54); (have HC143 := Aside0.mk (show y140.length ≤ y140.length from by omega)); (clear hr54 hC54 hroom54 hi054 hsz54); (have KY54 := Aside0.mk hy54); (clear hy54); (replace q54 := eq_true q54); (have q55 : ((ji43) : Int) ≤ ((l0.length : Int) : Int) := of_decide_eq_true (by first | (with_reducible assumption) | assumption)); (obtain ⟨i055, hi055, _, hsz55, _⟩ := info_parts info42); (have hroom55 : l0.length ≤ c0 := HC0.out); (have hC55 : Kd.C k42 _ A0 l0.length l0 := HR0.out); (have q055 : (0 : Int) ≤ ((ji43) : Int) := of_decide_eq_true (by first | (with_reducible assumption) | assumption)); (have hcut55 := cut_from (P := Try.prog) 22 42 .i64 Try.underlying22 hi055 2 hsz55 A0 l0.length c0 (ji43) q055 q55); (have hr55 := Kd.C_drop (m := ((ji43) : Int).toNat) (c := c0) hC55 (by omega) hroom55); (obtain ⟨A55, hA55⟩ : ∃ A1, A1 = (if c0 = ((ji43) : Int).toNat then A0 else (A0 : Option Addr).map (·.add (((ji43) : Int).toNat * 2))) := ⟨_, rfl⟩); (obtain ⟨c55, hc55⟩ : ∃ c1, c1 = c0 - ((ji43) : Int).toNat := ⟨_, rfl⟩); (have hy55 : y147.length = l0.length - ((ji43) : Int).toNat := (by rw [Ny147.out, List.length_drop] <;> omega)); (rw [show (l0).drop ((ji43) : Int).toNat = y147 from Ny147.out.symm] at hr55); (replace hr55 : Kd.C k42 _ A55 y147.length y147 := (by rw [hA55]; exact hr55)); (rw [← hy55, ← hA55, ← hc55] at hcut55); (have HR150 := Aside0.mk hr55); (have HC150 := Aside0.mk (show y147.length ≤ c55 from by rw [hy55, hc55]; exact Nat.sub_le_sub_right hroom55 _)); (clear hr55 hC55 hroom55 hi055 hsz55 hc55); (have KY55 := Aside0.mk hy55); (have KA55 := Aside0.mk hA55); (clear hy55 hA55); (replace q55 := eq_true q55); (refine start_ (n := 16) (S := fun w' => w'.cell? ⟨gb117, 0, none⟩ = some (.string a1_0) ∧ w'.cell? ⟨gb117, 1, none⟩ = some (.string a1_1)) (ds := []) #[false, false, false, false, false, false, false, false, false, false, false, false, false, false, false, false] (by kernel_rfl) rfl rfl (bc2 BK117.out) (fun hHeld => ?_); refine with_tabW cells_Put.tab8 cells_Put.bits8 (fun HT_ HW_ => ?_)); (generalize w52.drew = w53 at BK117 HB HR143 HR150 hHeld ⊢); (refine pure_ (i := 0) (N := some 39) (v := ?_) (a' := ?_) (bv 1 15) rfl rfl (any_of HT_.out (by kernel_rfl)) (fun _ _ _ h => h) (Or.inl ⟨by rfl, ?_⟩) ?_ ?_); (rotate_left)
                  · (intro w'); (go_simp); (with_reducible rfl)
                  rotate_left
                  · (simp only [sA]); (rfl)
                  (refine pure_ (i := 1) (N := some 40) (v := ?_) (a' := ?_) (bv 2 14) rfl rfl (any_of HT_.out (by kernel_rfl)) (fun _ _ _ h => h) (Or.inl ⟨by rfl, ?_⟩) ?_ ?_); (rotate_left)
                  · (intro w'); (go_simp); (with_reducible rfl)
                  rotate_left
                  · (simp only [sA]); (rfl)
                  (refine pure_ (i := 2) (N := some 41) (v := ?_) (a' := ?_) (bv 3 13) rfl rfl (any_of HT_.out (by kernel_rfl)) (fun _ _ _ h => h) (Or.inl ⟨by rfl, ?_⟩) ?_ ?_); (rotate_left)
                  · (intro w'); (go_simp); (with_reducible rfl)
                  rotate_left
                  · (simp only [sA]); (rfl)
                  (refine pure_ (i := 3) (N := some 42) (v := ?_) (a' := ?_) (bv 4 12) rfl rfl (any_of HT_.out (by kernel_rfl)) (fun _ _ _ h => h) (Or.inl ⟨by rfl, ?_⟩) ?_ ?_); (rotate_left)
                  · (intro w'); (go_simp); (with_reducible rfl)
                  rotate_left
                  · (simp only [sA]); (rfl)
                  (refine pure_ (i := 4) (N := some 43) (v := ?_) (a' := ?_) (bv 5 11) rfl rfl (any_of HT_.out (by kernel_rfl)) (fun _ _ _ h => h) (Or.inl ⟨by rfl, ?_⟩) ?_ ?_); (rotate_left)
                  · (intro w'); (go_simp); (with_reducible rfl)
                  rotate_left
                  · (simp only [sA]); (rfl)
                  (refine pure_ (i := 5) (N := some 44) (v := ?_) (a' := ?_) (bv 6 10) rfl rfl (any_of HT_.out (by kernel_rfl)) (fun _ _ _ h => h) (Or.inl ⟨by rfl, ?_⟩) ?_ ?_); (rotate_left)
                  · (intro w'); (go_simp); (with_reducible rfl)
                  rotate_left
                  · (simp only [sA]); (rfl)
                  (refine pure_ (i := 9) (N := some 48) (v := ?_) (a' := ?_) #[true, true, true, true, true, true, false, false, false, true, false, false, false, false, false, false] rfl rfl (any_of HT_.out (by kernel_rfl)) (fun _ _ _ h => h) (Or.inl ⟨by rfl, ?_⟩) ?_ ?_); (rotate_left)
                  · (intro w'); (go_simp); (with_reducible rfl)
                  rotate_left
                  · (simp only [sA]); (rfl)
                  (refine pure_ (i := 10) (N := some 49) (v := ?_) (a' := ?_) #[true, true, true, true, true, true, false, false, false, true, true, false, false, false, false, false] rfl rfl (any_of HT_.out (by kernel_rfl)) (fun _ _ _ h => h) (Or.inl ⟨by rfl, ?_⟩) ?_ ?_); (rotate_left)
                  · (intro w'); (go_simp); (with_reducible rfl)
                  rotate_left
                  · (simp only [sA]); (rfl)
                  (refine pure_ (i := 11) (N := some 50) (v := ?_) (a' := ?_) #[true, true, true, true, true, true, false, false, false, true, true, true, false, false, false, false] rfl rfl (any_of HT_.out (by kernel_rfl)) (fun _ _ _ h => h) (Or.inl ⟨by rfl, ?_⟩) ?_ ?_); (rotate_left)
                  · (intro w'); (go_simp); (with_reducible rfl)
                  rotate_left
                  · (simp only [sA]); (rfl)
                  (refine pure_ (i := 12) (N := some 51) (v := ?_) (a' := ?_) #[true, true, true, true, true, true, false, false, false, true, true, true, true, false, false, false] rfl rfl (any_of HT_.out (by kernel_rfl)) (fun _ _ _ h => h) (Or.inl ⟨by rfl, ?_⟩) ?_ ?_); (rotate_left)
                  · (intro w'); (go_simp); (with_reducible rfl)
                  rotate_left
                  · (simp only [sA]); (rfl)
                  (refine take_ (i := 6) (N := some 45) (v := ?_) (a' := ?_) #[true, true, true, true, true, true, true, false, false, true, true, true, true, false, false, false] rfl rfl (take_ofW HT_.out HW_.out (by kernel_rfl)) (fun _ _ _ h => h) (Or.inl ⟨by rfl, ?_⟩) hHeld ?_ ?_); (rotate_left)
                  · (rintro w' ⟨s0, s1⟩); (go_simp); (with_reducible rfl)
                  rotate_left
                  · (simp only [sA]); (rfl)
                  (refine one_ (i := 7) (N := some 46) #[true, true, true, true, true, true, true, true, false, true, true, true, true, false, false, false] rfl rfl (one_of HT_.out (by kernel_rfl)) (by decide) (fun K hK => ?_)); (refine value_ (w1 := ?_) (v := ?_) (by rfl) rfl ?_ ?_); (rotate_left 2)
                  · (go_simp); (constructor)
                    · rfl
                    · rfl
                  (refine hK.out _ _ ⟨(blk_cell (blk_alloc BK117.out _) 0).trans rfl, (blk_cell (blk_alloc BK117.out _) 1).trans rfl⟩ (fun hHeld => ?_)); (clear hK K); (refine norm_ (a' := ?_) ?_ ?_); (rotate_left)
                  · (show Act.put _ (some 46) _ = _); (simp only [sA]); (rfl)
                  (refine one_ (i := 8) (N := some 47) (bv 13 3) rfl rfl (one_of HT_.out (by kernel_rfl)) (by decide) (fun K hK => ?_)); (refine GpMore.R_append_full_step k42 (w0 := w) w.heap.size (by rfl) (.tmp 44) (.tmp 46) 22 42 (.agg #[(.string ⟨#[]⟩), (.string ⟨#[]⟩)]) 32 rfl Try.underlying22 info42 rfl (by decide) (by omega) (.slice A0 y140.length y140.length) y140 (⟨a1_0, a1_1⟩ : S42) [.string a1_0, .string a1_1] (fun k_ => k_ ≠ gb117) (fun _ => False) rfl rfl ?aP (fun _ hk => hk) ?aF (fun _ _ h => h) ?aO ?aB ?aS ?aL ?_); ((case aP => exact k42_mkM _ _ _ (⟨a1_0, a1_1⟩ : S42))); ((case aB => exact (mvW HB.out))); ((case aF => exact (fun k_ hk => Kd.freshB (g := gb117) (o := .cells #[.string a1_0, .string a1_1] 42 (0, 0)) (mvB BK117.out) k_ hk))); ((case aO => refine ⟨_, rfl, ?_⟩; repeat (first | exact (Kd.C_below HR143.out HB.out) | (with_reducible refine Kd.C_alloc ?_ _) | (with_reducible refine Kd.C_drewN ?_ _) | (with_reducible refine Kd.C_drew ?_)))); ((case aS => exact (below_size (mvW HB.out)))); ((case aL => have := LMc46.out; omega)); (intro v145 w56 ho hb hg hat); (rw [← Ny144.out] at ho); (replace BK117 := Aside0.mk (blk_grown (mvB BK117.out) hg (by simp [Value.ownBlock]))); (replace HB := Aside0.mk (hb)); (have HO146 := Aside0.mk (ho)); (clear ho hb hg hat); (refine hK.out _ _ (bc2 BK117.out) (fun hHeld => ?_)); (clear hK K); (refine norm_ (a' := ?_) ?_ ?_); (rotate_left)
                  · (show Act.put _ (some 47) _ = _); (simp only [sA]); (rfl)
                  (refine one_ (i := 13) (N := some 52) (bv 14 2) rfl rfl (one_of HT_.out (by kernel_rfl)) (by decide) (fun K hK => ?_)); (refine Kd.R_append_rows_step k42 (w0 := w) w.heap.size (by rfl) (.tmp 47) (.tmp 51) 22 42 (.agg #[(.string ⟨#[]⟩), (.string ⟨#[]⟩)]) 32 rfl Try.underlying22 info42 rfl (by decide) (by omega) v145 y144 y147 _ _ _ (fun k_ => k_ ≠ gb117) (fun _ => False) rfl rfl ?aO ?aR (fun _ _ h => h) (fun _ h => h.elim) ?aF ?aB ?aS ?aL ?_); ((case aR => repeat (first | exact (Kd.C_below HR150.out HB.out) | (with_reducible refine Kd.C_alloc ?_ _) | (with_reducible refine Kd.C_drewN ?_ _) | (with_reducible refine Kd.C_drew ?_)))); ((case aB => exact (mvW HB.out))); ((case aF => exact (fun k_ hk => Kd.freshB (g := gb117) (o := .cells #[.string a1_0, .string a1_1] 42 (0, 0)) (mvB BK117.out) k_ hk))); ((case aO => exact (mvR HO146.out))); ((case aS => exact (below_size (mvW HB.out)))); ((case aL => have := LMc49.out; omega)); (intro v152 w57 ho hb hg hat); (rw [← Ny151.out] at ho); (replace BK117 := Aside0.mk (blk_grown (mvB BK117.out) hg (Kd.R_away HO146.out (fun _ hk => hk)))); (replace HB := Aside0.mk (hb)); (have HO153 := Aside0.mk (ho)); (clear HO146); (clear ho hb hg hat); (refine hK.out _ _ (bc2 BK117.out) (fun hHeld => ?_)); (clear hK K); (refine norm_ (a' := ?_) ?_ ?_); (rotate_left)
                  · (show Act.put _ (some 52) _ = _); (simp only [sA]); (rfl)
                  (refine pure_ (i := 14) (N := some 4) (v := ?_) (a' := ?_) (bv 15 1) rfl rfl (any_of HT_.out (by kernel_rfl)) (fun _ _ _ h => h) (Or.inl ⟨by rfl, ?_⟩) ?_ ?_); (rotate_left)
                  · (intro w'); (go_simp); (with_reducible rfl)
                  rotate_left
                  · (simp only [sA]); (rfl)
                  (refine pure_ (i := 15) (N := some 5) (v := ?_) (a' := ?_) (bv 16 0) rfl rfl (any_of HT_.out (by kernel_rfl)) (fun _ _ _ h => h) (Or.inl ⟨by rfl, ?_⟩) ?_ ?_); (rotate_left)
                  · (intro w'); (go_simp); (with_reducible rfl)
                  rotate_left
                  · (simp only [sA]); (rfl)
                  (refine done_ (done_of HT_.out (by kernel_rfl)) ?_); (try go_wp2); (go_ret2); (exact ⟨_, by first | rfl | (simp [errW_none, errW_some] <;> rfl) | (simp only [← hji43]; first | rfl | (simp [errW_none, errW_some] <;> rfl)) | (simp [*, errW_none, errW_some] <;> rfl), by (with_reducible repeat (first | apply Kd.R_alloc | apply Kd.R_drewN | apply Kd.R_drew)); exact Kd.R_mono HO153.out (fun _ hk => trivial), by repeat (first | (with_reducible first | exact HB.out | apply below_alloc | apply pw_below_drewN | apply below_drew1 | refine below_set ?_ GE117.out) | exact HB.out)⟩)
                · (rw [if_neg c49] at H); (exact absurd H (by simp))
              · (rw [if_neg c46] at H); (exact absurd H (by simp))
            · (rw [if_neg c45] at H); (exact absurd H (by simp))
          · (rw [if_neg c44] at H); (exact absurd H (by simp))

/-! ### cells_Delete: function 38 -/
theorem cells_slice {w : World} {base : Nat} {ok : Nat → Prop} {v : Value} {xs : List S42} (h : Kd.R k42 42 w base ok v xs) : ∃ A c, v = .slice A xs.length c := by
  obtain ⟨_, _, ⟨_, ho⟩, _⟩ := h
  rcases ho with ⟨rfl, h0⟩ | ⟨g, cap, cur, rfl, _⟩
  · exact ⟨none, 0, by rw [h0]⟩
  · exact ⟨_, _, rfl⟩
theorem cells_base {w : World} {base base' : Nat} {ok : Nat → Prop} {v : Value} {xs : List S42} (h : Kd.R k42 42 w base ok v xs) (hb : base' ≤ base) : Kd.R k42 42 w base' ok v xs := by
  obtain ⟨h0, inner, ⟨hl, ho⟩, hr⟩ := h
  refine ⟨h0, inner, ⟨hl, ?_⟩, hr.imp_ (fun p c hp => by rw [k42_openM hp]; exact k42_mkM _ _ _ _)⟩
  rcases ho with h | ⟨g, cap, cur, h1, h2, h3⟩
  · exact .inl h
  · exact .inr ⟨g, cap, cur, h1, Nat.le_trans hb h2, h3⟩
theorem cells_Delete_filter_next (l : List S42) (p : S42 → Bool) (j : Nat) (h : j < l.length) : (l.take (j + 1)).filter p = (l.take j).filter p ++ (if p (rd_T42 l (j : Int)) = true then [rd_T42 l (j : Int)] else []) := by
  have e : rd_T42 l (j : Int) = l[j] := by unfold rd_T42; simp [h]
  rw [e, List.take_add_one, List.filter_append, List.getElem?_eq_getElem h]
  cases hp : p l[j] <;> simp [hp]
set_option maxHeartbeats 4000000 in
set_option maxRecDepth 100000 in
theorem cells_Delete_kept_calls (g : Nat) (cb : Array Value) (A0 : Option Addr) (c0 : Nat) (l0 : List S42) (p : S42 → Bool) (w : World) (eg : ∀ args w, (callFunc g args).run Try.prog w = .ok (.enter g args) w) (hsz : l0.length < 4398046511104) (hr0 : Kd.C k42 w A0 l0.length l0)
    (hf : ∀ (W : World) (x : S42), Below w.heap.size w W → Calls Try.prog g (#[.agg #[.string x.f0, .string x.f1]] ++ cb) W fun e w' => e = .returned (.bool (p x)) ∧ Below W.heap.size W w') :
    Calls Try.prog 54 #[.slice A0 l0.length c0, .func (.func g) #[] cb] w fun e w' => ∃ v0_ : Value, e = .returned v0_ ∧ Kd.R k42 42 w' w.heap.size (fun _ => True) v0_ (l0.filter p) ∧ Below w.heap.size w w' := by
  have HF : Aside0 _ := ⟨hf⟩
  have HR := Aside0.mk hr0
  have HL := Aside0.mk hsz
  have hu63 := Try.underlying42
  clear hf hr0 hsz
  go_enter Try.func54, Try.ntmps54
  go_wp2
  go_loopg [5, 10] l0.length (fun kx s5 s10 wr => ∃ (j : Nat), s10 = .int .i64 j ∧ j ≤ l0.length ∧ l0.length - j ≤ kx ∧ Aside0 (Below w.heap.size w wr) ∧ Aside0 (Kd.R k42 42 wr w.heap.size (fun _ => True) s5 ((l0.take j).filter p)))
  case atStart => exact ⟨0, rfl, Nat.zero_le _, Nat.le_refl _, ⟨Below.refl _ _⟩, ⟨Kd.R_nil _ _ _ _ _⟩⟩
  case round =>
    obtain ⟨j, rfl, hj, hg, HB, HO⟩ := hrel
    by_cases hlt : j < l0.length
    · have hlt' : (j : Int) < (l0.length : Int) := by omega
      obtain ⟨ad, e, hx, hy⟩ := at_T42 (Kd.C_below HR.out HB.out) (j : Int) (by omega) hlt'
      cases e
      rw [Int.toNat_natCast] at hx hy
      have hn := Aside0.mk (cells_Delete_filter_next l0 p j hlt)
      have hj1 : wrap64 ((j : Int) + 1) = ((j + 1 : Nat) : Int) := by have := HL.out; unfold wrap64; omega
      have hlen : ((l0.take j).filter p).length ≤ l0.length := Nat.le_trans (List.length_filter_le _ _) (by rw [List.length_take]; omega)
      have HN := Aside0.mk hlen
      clear hlen
      revert hx hy hn
      generalize rd_T42 l0 (j : Int) = x
      intro hx hy hn
      have HX := Aside0.mk hx
      go_wp2
      refine (HF.out _ x (below_alloc HB.out _)).mono ?_
      rintro e w1 ⟨rfl, hb1⟩
      have BK := Aside0.mk (blk_below (blk_new wr (.cells #[.string x.f0, .string x.f1] 42)) hb1)
      have HB1 := Aside0.mk (below_step (below_alloc HB.out _) hb1)
      have HO1 := Aside0.mk (Kd.R_below (Kd.R_alloc HO.out _) hb1)
      have z0 := (blk_cell BK.out 0).trans rfl
      have z1 := (blk_cell BK.out 1).trans rfl
      clear hb1 hx hy
      cases hp : p x
      · have hn' : (l0.take (j + 1)).filter p = (l0.take j).filter p := by rw [hn.out, hp]; simp
        have HM := Aside0.mk hn'
        clear hn hn' hp
        go_wp2
        go_roundg (l0.length - (j + 1))
        case measure => omega
        case rel => exact ⟨j + 1, by rw [hj1], by omega, Nat.le_refl _, HB1, ⟨HM.out ▸ HO1.out⟩⟩
      · have hn' : (l0.take (j + 1)).filter p = (l0.take j).filter p ++ [x] := by rw [hn.out, hp]; simp
        have HM := Aside0.mk hn'
        clear hn hn' hp
        go_wp2_with ((with_reducible refine gate_builtin (b := .append) (xs := #[.tmp 17, .tmp 19]) rfl ?_); at_builtin; refine Kd.R_append k42 (w0 := w) w.heap.size rfl (.tmp 17) (.tmp 19) 22 42 (.agg #[(.string ⟨#[]⟩), (.string ⟨#[]⟩)]) 32 rfl Try.underlying22 info42 rfl (by decide) (by omega) u5 ((l0.take j).filter p) x [.string x.f0, .string x.f1] (fun _ => True) (fun _ => False) rfl rfl ?aP (fun _ hk => hk.elim) ?aF ?aO ?aB ?aS ?aL ?_; (case aP => exact k42_mkM _ _ _ x); (case aB => exact HB1.out); (case aF => exact fun _ _ => trivial); (case aO => exact HO1.out); (case aS => exact below_size HB1.out); (case aL => have := HL.out; have := HN.out; omega); intro v2 w2 ho2 hb2 hg2 hat2; clear hg2 hat2; have HO2 := Aside0.mk ho2; have HB2 := Aside0.mk hb2; clear ho2 hb2)
        go_roundg (l0.length - (j + 1))
        case measure => omega
        case rel => exact ⟨j + 1, by rw [hj1], by omega, Nat.le_refl _, ⟨HB2.out⟩, ⟨HM.out ▸ HO2.out⟩⟩
    · obtain rfl : j = l0.length := by omega
      have hO := HO.out
      rw [List.take_length] at hO
      have HO1 := Aside0.mk hO
      clear hO HO
      go_wp2
      go_ret
      exact ⟨_, rfl, HO1.out, HB.out⟩
def cells_Delete.f (k : Nat) (l0 : List S42) (a1 : ByteArray) : Option (List S42 × Int) := (cells_Right.f k l0).bind fun t => if t = true then (if l0.length < 4398046511104 then some (l0.filter (fun y => !(y.f0.toList == a1.toList)), 0) else none) else some ([], 100)
theorem cells_Delete.mono : ∀ a0 a1 k, LeO (cells_Delete.f k a0 a1) (cells_Delete.f (k + 1) a0 a1) := by
  intro a0 a1 k
  exact LeO.bind (cells_Right.mono _ _) (fun _ => LeO.refl _)
theorem cells_Delete_clo_calls (bx : Nat) (x : ByteArray) (y : S42) (W : World) (hx : W.cell? ⟨bx, 0, none⟩ = some (.string x)) :
    Calls Try.prog 55 (#[.agg #[.string y.f0, .string y.f1]] ++ #[.pointer (some ⟨bx, 0, none⟩)]) W fun e w' => e = .returned (.bool (!(y.f0.toList == x.toList))) ∧ Below W.heap.size W w' := by
  have hu63 := Try.underlying42
  have hlt : bx < W.heap.size := World.block_lt_of_cell? W _ hx
  go_enter Try.func55, Try.ntmps55
  go_wp2
  go_ret
  exact ⟨rfl, below_alloc (Below.refl _ _) _⟩
set_option maxHeartbeats 4000000 in
set_option maxRecDepth 100000 in
theorem cells_Delete.calls (k : Nat) (A0 : Option Addr) (c0 : Nat) (l0 : List (S42)) (a1 : ByteArray) (r1 : List (S42)) (r2 : Int) (w : World) (hr0 : Kd.C k42 w A0 l0.length l0) (hc0 : l0.length ≤ c0) (h : cells_Delete.f k l0 a1 = some (r1, r2)) :
    Calls Try.prog 38 #[.slice A0 l0.length c0, .string a1] w fun e w' => ∃ v0_ : Value, e = .returned (.tuple #[v0_, .int .i64 r2]) ∧ Kd.R k42 42 w' w.heap.size (fun _ => True) v0_ r1 ∧ Below w.heap.size w w' := by
  obtain ⟨t, ht, h⟩ := Option.bind_eq_some_iff.1 h
  have hB0 : Below w.heap.size w (w.alloc (.cells #[.string a1] 9)) := below_alloc (Below.refl _ _) _
  have hR := cells_Right.calls k A0 c0 l0 t _ (Kd.C_below hr0 hB0) hc0 ht
  have HB0 := Aside0.mk hB0
  clear hB0
  cases t
  · rw [if_neg (by simp)] at h
    simp only [Option.some.injEq, Prod.mk.injEq] at h
    obtain ⟨rfl, rfl⟩ := h
    go_enter Try.func38, Try.ntmps38
    go_wp2_with (go_at_call 28; refine hR.mono ?_; rintro e w1 ⟨rfl, hb⟩; have HB := Aside0.mk (below_step HB0.out hb); clear hb)
    go_ret2
    exact ⟨_, rfl, Kd.R_nil _ _ _ _ _, HB.out⟩
  · rw [if_pos rfl] at h
    have hlen : l0.length < 4398046511104 := by
      by_cases hl : l0.length < 4398046511104
      · exact hl
      · rw [if_neg hl] at h; cases h
    rw [if_pos hlen] at h
    simp only [Option.some.injEq, Prod.mk.injEq] at h
    obtain ⟨rfl, rfl⟩ := h
    have eg : ∀ args w, (callFunc 55 args).run Try.prog w = .ok (.enter 55 args) w := enters_of Try.func55 (by kernel_rfl) rfl
    have cx : (w.alloc (.cells #[.string a1] 9)).cell? ⟨w.heap.size, 0, none⟩ = some (.string a1) := (blk_cell (blk_new w _) 0).trans rfl
    have hK := fun (w1 : World) (hb : Below (w.alloc (.cells #[.string a1] 9)).heap.size (w.alloc (.cells #[.string a1] 9)) w1) => cells_Delete_kept_calls 55 #[.pointer (some ⟨w.heap.size, 0, none⟩)] A0 c0 l0 (fun y => !(y.f0.toList == a1.toList)) w1 eg hlen (Kd.C_below (Kd.C_below hr0 HB0.out) hb)
      (fun W y hB => cells_Delete_clo_calls w.heap.size a1 y W (pw_cell_below hB (pw_cell_below hb cx)))
    have HK := Aside0.mk hK
    clear hK cx hr0
    go_enter Try.func38, Try.ntmps38
    go_wp2_with (first | (go_at_call 28; refine hR.mono ?_; rintro e w1 ⟨rfl, hb⟩; have HBX := Aside0.mk hb; have HB := Aside0.mk (below_step HB0.out hb); clear hb) | (go_at_call 54; refine (HK.out w1 HBX.out).mono ?_; rintro e w2 ⟨v, rfl, ho, hb⟩; have HO := Aside0.mk ho; have HB2 := Aside0.mk (below_step HB.out hb); have HZ := Aside0.mk HB.out.size; clear ho hb))
    go_ret2
    refine ⟨_, rfl, ?_, HB2.out⟩
    exact cells_base HO.out HZ.out

/-! ### span_Right: function 40 -/
mutual
def span_Right.j0 : Nat → Bool → ByteArray → ByteArray → Bool → Option (Bool)
  | 0, _, _, _, _ => none
  | k + 1, x3, x155000, x155001, x155002 => if x3 = true then (some false) else (if x155002 = true then (span_Right.j1 k (!(Op.bytesLess x155000.toList x155001.toList)) x155000 x155001 x155002) else (span_Right.j1 k false x155000 x155001 x155002))
def span_Right.j1 : Nat → Bool → ByteArray → ByteArray → Bool → Option (Bool)
  | 0, _, _, _, _ => none
  | k + 1, x14, x155000, x155001, x155002 => if x14 = true then (some false) else (if x155002 = true then (some true) else (if x155001.toList = ([] : List UInt8) then (some true) else (some false)))
end
def span_Right.f (k : Nat) (a0_0 : ByteArray) (a0_1 : ByteArray) (a0_2 : Bool) : Option (Bool) := if (a0_0.size : Int) > 513 then (span_Right.j0 k true a0_0 a0_1 a0_2) else (span_Right.j0 k (decide ((a0_1.size : Int) > 513)) a0_0 a0_1 a0_2)
theorem span_Right.mono_l : ∀ k, (∀ y0 y1 y2 y3, LeO (span_Right.j0 k y0 y1 y2 y3) (span_Right.j0 (k + 1) y0 y1 y2 y3)) ∧ (∀ y0 y1 y2 y3, LeO (span_Right.j1 k y0 y1 y2 y3) (span_Right.j1 (k + 1) y0 y1 y2 y3))
  | 0 => ⟨fun _ _ _ _ r h => by simp [span_Right.j0] at h, fun _ _ _ _ r h => by simp [span_Right.j1] at h⟩
  | k + 1 => by
    obtain ⟨ih0, ih1⟩ := span_Right.mono_l k
    refine ⟨?_, ?_⟩
    · intro y0 y1 y2 y3
      unfold span_Right.j0
      repeat' first
      | (with_reducible exact ih0 _ _ _ _)
      | (with_reducible exact ih1 _ _ _ _)
      | (with_reducible exact LeO.refl _)
      | (with_reducible exact LeO.none _)
      | (with_reducible refine LeO.ite ?_ ?_)
      | (with_reducible refine LeO.bind ?_ (fun _ => ?_))
      | exact ih0 _ _ _ _
      | exact ih1 _ _ _ _
      | exact LeO.none _
      | refine LeO.ite ?_ ?_
      | refine LeO.bind ?_ (fun _ => ?_)
    · intro y0 y1 y2 y3
      unfold span_Right.j1
      repeat' first
      | (with_reducible exact ih0 _ _ _ _)
      | (with_reducible exact ih1 _ _ _ _)
      | (with_reducible exact LeO.refl _)
      | (with_reducible exact LeO.none _)
      | (with_reducible refine LeO.ite ?_ ?_)
      | (with_reducible refine LeO.bind ?_ (fun _ => ?_))
      | exact ih0 _ _ _ _
      | exact ih1 _ _ _ _
      | exact LeO.none _
      | refine LeO.ite ?_ ?_
      | refine LeO.bind ?_ (fun _ => ?_)
theorem span_Right.mono : ∀ a0 a1 a2 k, LeO (span_Right.f k a0 a1 a2) (span_Right.f (k + 1) a0 a1 a2) := by
  intro a0 a1 a2 k
  obtain ⟨ih0, ih1⟩ := span_Right.mono_l k
  unfold span_Right.f
  repeat' first
      | (with_reducible exact ih0 _ _ _ _)
      | (with_reducible exact ih1 _ _ _ _)
      | (with_reducible exact LeO.refl _)
      | (with_reducible exact LeO.none _)
      | (with_reducible refine LeO.ite ?_ ?_)
      | (with_reducible refine LeO.bind ?_ (fun _ => ?_))
      | exact ih0 _ _ _ _
      | exact ih1 _ _ _ _
      | exact LeO.none _
      | refine LeO.ite ?_ ?_
      | refine LeO.bind ?_ (fun _ => ?_)
set_option maxHeartbeats 8000000 in
set_option maxRecDepth 100000 in
theorem span_Right.calls (k : Nat) (a0_0 : ByteArray) (a0_1 : ByteArray) (a0_2 : Bool) (r : Bool) (w : World) (h : span_Right.f k a0_0 a0_1 a0_2 = some r) :
    Calls Try.prog 40 #[.agg #[.string a0_0, .string a0_1, .bool a0_2]] w fun e w' => e = .returned (.bool r) ∧ Below w.heap.size w w' := by
  (have hu24 := Try.underlying24); (have HB := Aside0.mk (Below.refl w.heap.size w)); (have H : (if (a0_0.size : Int) > 513 then (span_Right.j0 k true a0_0 a0_1 a0_2) else (span_Right.j0 k (decide ((a0_1.size : Int) > 513)) a0_0 a0_1 a0_2)) = some r := h); (clear h); (have HC2 := Aside0.mk H); (clear H); (go_enter Try.func40, Try.ntmps40); (go_upto_region 1 with (first | ((with_reducible refine gate_dst (N := 1) rfl ?_); (try (refine gate_guard (by rfl) ?_; dsimp only)); refine box_event ?hg (N := 1) ?hd (cs := #[.string a0_0, .string a0_1, .bool a0_2]) (t := 24) ?hr ?_; (case hd => rfl); (case hg => rfl); (case hr => first | (go_simp; done) | (go_simp; rfl)); intro gb154 hg w3 hbox hb; have BK154 := Aside0.mk (hbox); have GW154 := Aside0.mk ((by rw [hg]; exact (below_size (mvW HB.out)) : w.heap.size ≤ gb154)); have GE154 := Aside0.mk ((by rw [hg]; exact (below_size (mvW HB.out)) : w.heap.size ≤ gb154)); replace HB := Aside0.mk (below_step (mvW HB.out) hb); clear hb hbox hg))); ((try simp only [Act.put, List.setIfInBounds_toArray, List.set_cons_zero, List.set_cons_succ])); (go_cut [3] (fun v3 wc => ∃ (kq : Nat) (x3_1 : Bool), v3 = .bool x3_1 ∧ Aside0 (span_Right.j0 kq x3_1 a0_0 a0_1 a0_2 = some r) ∧ Aside0 (kq ≤ k) ∧ Aside0 (wc.heap[gb154]? = some (.cells #[.string a0_0, .string a0_1, .bool a0_2] 24 (0, 0))) ∧ Aside0 (Below w.heap.size w wc)))
  case first =>
    (have H := HC2.out); (clear HC2); (by_cases c4 : (a0_0.size : Int) > 513)
    · (rw [if_pos c4] at H); (have c4b0 : decide (513 < (a0_0.size : Int)) = true := decide_eq_true c4); (have c4b1 : decide (513 < a0_0.size) = true := decide_eq_true (by omega)); (clear c4); ((first | rw [c4b0] | (simp only [i64_w, i32_w]; rw [c4b0]) | skip)); (have H' := Aside0.mk H); (clear H); (obtain ⟨Z5_0, Z5_1, Z5_2⟩ := bc3 BK154.out); (obtain ⟨Y5_0, Y5_1, Y5_2⟩ := bf3 BK154.out); (go_wp2); (go_meet)
      case rel => exact ⟨_, (true), (by first | rfl | (simp; done) | (simp [*]; done)), H', ⟨by first | omega | exact Nat.le_refl _⟩, ⟨mvB BK154.out⟩, ⟨mvW HB.out⟩⟩
    · (rw [if_neg c4] at H); (have c4b0 : decide (513 < (a0_0.size : Int)) = false := decide_eq_false c4); (have c4b1 : decide (513 < a0_0.size) = false := decide_eq_false (by omega)); (clear c4); ((first | rw [c4b0] | (simp only [i64_w, i32_w]; rw [c4b0]) | skip)); (have H' := Aside0.mk H); (clear H); (obtain ⟨Z6_0, Z6_1, Z6_2⟩ := bc3 BK154.out); (obtain ⟨Y6_0, Y6_1, Y6_2⟩ := bf3 BK154.out); (go_wp2); (go_meet)
      case rel => exact ⟨_, (decide ((a0_1.size : Int) > 513)), (by first | rfl | (simp; done) | (simp [*]; done)), H', ⟨by first | omega | exact Nat.le_refl _⟩, ⟨mvB BK154.out⟩, ⟨mvW HB.out⟩⟩
  case rest =>
    (clear HC2); (try clear p2); (try clear c4); (try clear c4b0); (try clear c4b1); (try clear Z5_0 Z5_1 Z5_2); (try clear Z6_0 Z6_1 Z6_2); (try clear Y5_0 Y5_1 Y5_2); (try clear Y6_0 Y6_1 Y6_2); (obtain ⟨kq, x3_1, rfl, HA, HJ1, BK154, HB⟩ := hcut)
    cases kq with
    | zero => exact absurd HA.out (by simp [span_Right.j0])
    | succ kj1 =>
      (have H := HA.out); (clear HA); (simp only [span_Right.j0] at H); (by_cases c7 : x3_1 = true)
      · (subst c7); (have H1 : (some false) = some r := by rw [if_pos rfl] at H; exact H); (clear H); (have H := H1); (clear H1); (obtain rfl := Option.some.inj H); (go_wp2); (go_ret); (exact ⟨by first | rfl | (simp [errW_none, errW_some] <;> rfl) | (simp [*, errW_none, errW_some] <;> rfl), by repeat (first | (with_reducible first | exact HB.out | apply below_alloc | apply pw_below_drewN | apply below_drew1 | refine below_set ?_ GE154.out) | exact HB.out)⟩)
      · (replace c7 := Bool.eq_false_iff.mpr c7); (subst c7); (have H1 : (if a0_2 = true then (span_Right.j1 kj1 (!(Op.bytesLess a0_0.toList a0_1.toList)) a0_0 a0_1 a0_2) else (span_Right.j1 kj1 false a0_0 a0_1 a0_2)) = some r := by rw [if_neg (show ¬ (false = true) by decide)] at H; exact H); (clear H); (have H := H1); (clear H1); (have HC8 := Aside0.mk H); (clear H); (go_upto_region 2 with (fail)); (go_cut [14] (fun v14 wc => ∃ (kq : Nat) (x14_7 : Bool), v14 = .bool x14_7 ∧ Aside0 (span_Right.j1 kq x14_7 a0_0 a0_1 a0_2 = some r) ∧ Aside0 (kq ≤ kj1) ∧ Aside0 (wc.heap[gb154]? = some (.cells #[.string a0_0, .string a0_1, .bool a0_2] 24 (0, 0))) ∧ Aside0 (Below w.heap.size w wc)))
        case first =>
          (have H := HC8.out); (clear HC8); (by_cases c9 : a0_2 = true)
          · (subst c9); (have H1 : (span_Right.j1 kj1 (!(Op.bytesLess a0_0.toList a0_1.toList)) a0_0 a0_1 true) = some r := by rw [if_pos rfl] at H; exact H); (clear H); (have H := H1); (clear H1); (have H' := Aside0.mk H); (clear H); (obtain ⟨Z10_0, Z10_1, Z10_2⟩ := bc3 BK154.out); (obtain ⟨Y10_0, Y10_1, Y10_2⟩ := bf3 BK154.out); (go_wp2); (go_meet)
            case rel => exact ⟨_, (!(Op.bytesLess a0_0.toList a0_1.toList)), (by first | rfl | (simp; done) | (simp [*]; done)), H', ⟨by have := HJ1.out; first | omega | exact Nat.le_refl _⟩, ⟨mvB BK154.out⟩, ⟨mvW HB.out⟩⟩
          · (replace c9 := Bool.eq_false_iff.mpr c9); (subst c9); (have H1 : (span_Right.j1 kj1 false a0_0 a0_1 false) = some r := by rw [if_neg (show ¬ (false = true) by decide)] at H; exact H); (clear H); (have H := H1); (clear H1); (have H' := Aside0.mk H); (clear H); (obtain ⟨Z11_0, Z11_1, Z11_2⟩ := bc3 BK154.out); (obtain ⟨Y11_0, Y11_1, Y11_2⟩ := bf3 BK154.out); (go_wp2); (go_meet)
            case rel => exact ⟨_, (false), (by first | rfl | (simp; done) | (simp [*]; done)), H', ⟨by have := HJ1.out; first | omega | exact Nat.le_refl _⟩, ⟨mvB BK154.out⟩, ⟨mvW HB.out⟩⟩
        case rest =>
          (clear HC8); (try clear p2); (try clear c4); (try clear c4b0); (try clear c4b1); (try clear c7); (try clear c9); (try clear Z10_0 Z10_1 Z10_2); (try clear Z11_0 Z11_1 Z11_2); (try clear Z5_0 Z5_1 Z5_2); (try clear Z6_0 Z6_1 Z6_2); (try clear Y10_0 Y10_1 Y10_2); (try clear Y11_0 Y11_1 Y11_2); (try clear Y5_0 Y5_1 Y5_2); (try clear Y6_0 Y6_1 Y6_2); (try clear p2); (obtain ⟨kq, x14_7, rfl, HA, HJ7, BK154, HB⟩ := hcut)
          cases kq with
          | zero => exact absurd HA.out (by simp [span_Right.j1])
          | succ kj7 =>
            (have H := HA.out); (clear HA); (simp only [span_Right.j1] at H); (by_cases c12 : x14_7 = true)
            · (subst c12); (have H1 : (some false) = some r := by rw [if_pos rfl] at H; exact H); (clear H); (have H := H1); (clear H1); (obtain rfl := Option.some.inj H); (go_wp2); (go_ret); (exact ⟨by first | rfl | (simp [errW_none, errW_some] <;> rfl) | (simp [*, errW_none, errW_some] <;> rfl), by repeat (first | (with_reducible first | exact HB.out | apply below_alloc | apply pw_below_drewN | apply below_drew1 | refine below_set ?_ GE154.out) | exact HB.out)⟩)
            · (replace c12 := Bool.eq_false_iff.mpr c12); (subst c12); (have H1 : (if a0_2 = true then (some true) else (if a0_1.toList = ([] : List UInt8) then (some true) else (some false))) = some r := by rw [if_neg (show ¬ (false = true) by decide)] at H; exact H); (clear H); (have H := H1); (clear H1); (by_cases c13 : a0_2 = true)
              · (subst c13); (have H1 : (some true) = some r := by rw [if_pos rfl] at H; exact H); (clear H); (have H := H1); (clear H1); (obtain rfl := Option.some.inj H); (obtain ⟨Z14_0, Z14_1, Z14_2⟩ := bc3 BK154.out); (obtain ⟨Y14_0, Y14_1, Y14_2⟩ := bf3 BK154.out); (go_wp2); (go_ret); (exact ⟨by first | rfl | (simp [errW_none, errW_some] <;> rfl) | (simp [*, errW_none, errW_some] <;> rfl), by repeat (first | (with_reducible first | exact HB.out | apply below_alloc | apply pw_below_drewN | apply below_drew1 | refine below_set ?_ GE154.out) | exact HB.out)⟩)
              · (replace c13 := Bool.eq_false_iff.mpr c13); (subst c13); (have H1 : (if a0_1.toList = ([] : List UInt8) then (some true) else (some false)) = some r := by rw [if_neg (show ¬ (false = true) by decide)] at H; exact H); (clear H); (have H := H1); (clear H1); (by_cases c15 : a0_1.toList = ([] : List UInt8))
                · (rw [if_pos c15] at H); (have c15b0 : (a0_1.toList == ([] : List UInt8)) = true := beq_iff_eq.mpr c15); (have c15b1 : (a0_1.toList != ([] : List UInt8)) = false := bne_eq_false_iff_eq.mpr c15); (clear c15); (obtain rfl := Option.some.inj H); (obtain ⟨Z16_0, Z16_1, Z16_2⟩ := bc3 BK154.out); (obtain ⟨Y16_0, Y16_1, Y16_2⟩ := bf3 BK154.out); (go_wp2); (go_ret); (exact ⟨by first | rfl | (simp [errW_none, errW_some] <;> rfl) | (simp [*, errW_none, errW_some] <;> rfl), by repeat (first | (with_reducible first | exact HB.out | apply below_alloc | apply pw_below_drewN | apply below_drew1 | refine below_set ?_ GE154.out) | exact HB.out)⟩)
                · (rw [if_neg c15] at H); (have c15b0 : (a0_1.toList == ([] : List UInt8)) = false := beq_eq_false_iff_ne.mpr c15); (have c15b1 : (a0_1.toList != ([] : List UInt8)) = true := bne_iff_ne.mpr c15); (obtain rfl := Option.some.inj H); (obtain ⟨Z17_0, Z17_1, Z17_2⟩ := bc3 BK154.out); (obtain ⟨Y17_0, Y17_1, Y17_2⟩ := bf3 BK154.out); (go_wp2); (go_ret); (exact ⟨by first | rfl | (simp [errW_none, errW_some] <;> rfl) | (simp [*, errW_none, errW_some] <;> rfl), by repeat (first | (with_reducible first | exact HB.out | apply below_alloc | apply pw_below_drewN | apply below_drew1 | refine below_set ?_ GE154.out) | exact HB.out)⟩)

/-! ### span_bounds_over: function 77 -/
def span_bounds_over.f (a0_0 : ByteArray) (a0_1 : ByteArray) (a0_2 : Bool) (a1 : ByteArray) : Option (Bool) := if a0_2 = true then (some (!(Op.bytesLess a1.toList a0_1.toList))) else (some false)
set_option maxHeartbeats 8000000 in
set_option maxRecDepth 100000 in
theorem span_bounds_over.calls (a0_0 : ByteArray) (a0_1 : ByteArray) (a0_2 : Bool) (a1 : ByteArray) (r : Bool) (w : World) (h : span_bounds_over.f a0_0 a0_1 a0_2 a1 = some r) :
    Calls Try.prog 77 #[.agg #[.string a0_0, .string a0_1, .bool a0_2], .string a1] w fun e w' => e = .returned (.bool r) ∧ Below w.heap.size w w' := by
  (have hu92 := Try.underlying92); (have HB := Aside0.mk (Below.refl w.heap.size w)); (have H : (if a0_2 = true then (some (!(Op.bytesLess a1.toList a0_1.toList))) else (some false)) = some r := h); (clear h); (by_cases c3 : a0_2 = true)
  · (subst c3); (have H1 : (some (!(Op.bytesLess a1.toList a0_1.toList))) = some r := by rw [if_pos rfl] at H; exact H); (clear H); (have H := H1); (clear H1); (obtain rfl := Option.some.inj H); (go_enter Try.func77, Try.ntmps77); (go_wp2_with (first | ((with_reducible refine gate_dst (N := 2) rfl ?_); refine box_event ?hg (N := 2) ?hd (cs := #[.string a0_0, .string a0_1, .bool true]) (t := 92) ?hr ?_; (case hd => rfl); (case hg => rfl); (case hr => first | (go_simp; done) | (go_simp; rfl)); intro gb155 hg w4 hbox hb; have BK155 := Aside0.mk (hbox); have GW155 := Aside0.mk ((by rw [hg]; exact (below_size (mvW HB.out)) : w.heap.size ≤ gb155)); have GE155 := Aside0.mk ((by rw [hg]; exact (below_size (mvW HB.out)) : w.heap.size ≤ gb155)); replace HB := Aside0.mk (below_step (mvW HB.out) hb); clear hb hbox hg; obtain ⟨Z5_0, Z5_1, Z5_2⟩ := bc3 BK155.out; obtain ⟨Y5_0, Y5_1, Y5_2⟩ := bf3 BK155.out))); (go_ret); (exact ⟨by first | rfl | (simp [errW_none, errW_some] <;> rfl) | (simp [*, errW_none, errW_some] <;> rfl), by repeat (first | (with_reducible first | exact HB.out | apply below_alloc | apply pw_below_drewN | apply below_drew1 | refine below_set ?_ GE155.out) | exact HB.out)⟩)
  · (replace c3 := Bool.eq_false_iff.mpr c3); (subst c3); (have H1 : (some false) = some r := by rw [if_neg (show ¬ (false = true) by decide)] at H; exact H); (clear H); (have H := H1); (clear H1); (obtain rfl := Option.some.inj H); (go_enter Try.func77, Try.ntmps77); (go_wp2_with (first | ((with_reducible refine gate_dst (N := 2) rfl ?_); refine box_event ?hg (N := 2) ?hd (cs := #[.string a0_0, .string a0_1, .bool false]) (t := 92) ?hr ?_; (case hd => rfl); (case hg => rfl); (case hr => first | (go_simp; done) | (go_simp; rfl)); intro gb155 hg w6 hbox hb; have BK155 := Aside0.mk (hbox); have GW155 := Aside0.mk ((by rw [hg]; exact (below_size (mvW HB.out)) : w.heap.size ≤ gb155)); have GE155 := Aside0.mk ((by rw [hg]; exact (below_size (mvW HB.out)) : w.heap.size ≤ gb155)); replace HB := Aside0.mk (below_step (mvW HB.out) hb); clear hb hbox hg; obtain ⟨Z7_0, Z7_1, Z7_2⟩ := bc3 BK155.out; obtain ⟨Y7_0, Y7_1, Y7_2⟩ := bf3 BK155.out))); (go_ret); (exact ⟨by first | rfl | (simp [errW_none, errW_some] <;> rfl) | (simp [*, errW_none, errW_some] <;> rfl), by repeat (first | (with_reducible first | exact HB.out | apply below_alloc | apply pw_below_drewN | apply below_drew1 | refine below_set ?_ GE155.out) | exact HB.out)⟩)

/-! ### span_bounds_has: function 64 -/
def span_bounds_has.f (a0_0 : ByteArray) (a0_1 : ByteArray) (a0_2 : Bool) (a1 : ByteArray) : Option (Bool) := if ((Op.bytesLess a1.toList a0_0.toList) = true) then (some false) else ((span_bounds_over.f a0_0 a0_1 a0_2 a1).bind fun t157 => (some (!t157)))
set_option maxHeartbeats 8000000 in
set_option maxRecDepth 100000 in
theorem span_bounds_has.calls (a0_0 : ByteArray) (a0_1 : ByteArray) (a0_2 : Bool) (a1 : ByteArray) (r : Bool) (w : World) (h : span_bounds_has.f a0_0 a0_1 a0_2 a1 = some r) :
    Calls Try.prog 64 #[.agg #[.string a0_0, .string a0_1, .bool a0_2], .string a1] w fun e w' => e = .returned (.bool r) ∧ Below w.heap.size w w' := by
  (have hu92 := Try.underlying92); (have HB := Aside0.mk (Below.refl w.heap.size w)); (have H : (if ((Op.bytesLess a1.toList a0_0.toList) = true) then (some false) else ((span_bounds_over.f a0_0 a0_1 a0_2 a1).bind fun t157 => (some (!t157)))) = some r := h); (clear h); (by_cases c3 : ((Op.bytesLess a1.toList a0_0.toList) = true))
  · (rw [if_pos c3] at H); (have c3b0 : (Op.bytesLess a1.toList a0_0.toList) = true := c3); (clear c3); (obtain rfl := Option.some.inj H); (go_enter Try.func64, Try.ntmps64); (go_wp2_with (first | ((with_reducible refine gate_dst (N := 2) rfl ?_); refine box_event ?hg (N := 2) ?hd (cs := #[.string a0_0, .string a0_1, .bool a0_2]) (t := 92) ?hr ?_; (case hd => rfl); (case hg => rfl); (case hr => first | (go_simp; done) | (go_simp; rfl)); intro gb156 hg w4 hbox hb; have BK156 := Aside0.mk (hbox); have GW156 := Aside0.mk ((by rw [hg]; exact (below_size (mvW HB.out)) : w.heap.size ≤ gb156)); have GE156 := Aside0.mk ((by rw [hg]; exact (below_size (mvW HB.out)) : w.heap.size ≤ gb156)); replace HB := Aside0.mk (below_step (mvW HB.out) hb); clear hb hbox hg; obtain ⟨Z5_0, Z5_1, Z5_2⟩ := bc3 BK156.out; obtain ⟨Y5_0, Y5_1, Y5_2⟩ := bf3 BK156.out))); (go_ret); (exact ⟨by first | rfl | (simp [errW_none, errW_some] <;> rfl) | (simp [*, errW_none, errW_some] <;> rfl), by repeat (first | (with_reducible first | exact HB.out | apply below_alloc | apply pw_below_drewN | apply below_drew1 | refine below_set ?_ GE156.out) | exact HB.out)⟩)
  · (rw [if_neg c3] at H); (have c3b0 : (Op.bytesLess a1.toList a0_0.toList) = false := by simpa using c3); (clear c3); (replace H := Option.bind_eq_some_iff.mp H); (obtain ⟨t157, A60, H⟩ := H); (replace H : (some (!t157)) = some r := H); (have A6 := Aside0.mk A60); (clear A60); (obtain rfl := Option.some.inj H); (go_enter Try.func64, Try.ntmps64); (go_wp2_with (first | ((with_reducible refine gate_dst (N := 2) rfl ?_); refine box_event ?hg (N := 2) ?hd (cs := #[.string a0_0, .string a0_1, .bool a0_2]) (t := 92) ?hr ?_; (case hd => rfl); (case hg => rfl); (case hr => first | (go_simp; done) | (go_simp; rfl)); intro gb156 hg w7 hbox hb; have BK156 := Aside0.mk (hbox); have GW156 := Aside0.mk ((by rw [hg]; exact (below_size (mvW HB.out)) : w.heap.size ≤ gb156)); have GE156 := Aside0.mk ((by rw [hg]; exact (below_size (mvW HB.out)) : w.heap.size ≤ gb156)); replace HB := Aside0.mk (below_step (mvW HB.out) hb); clear hb hbox hg; obtain ⟨Z8_0, Z8_1, Z8_2⟩ := bc3 BK156.out; obtain ⟨Y8_0, Y8_1, Y8_2⟩ := bf3 BK156.out) | (go_at_call 77; (with_reducible refine (span_bounds_over.calls a0_0 a0_1 a0_2 a1 t157 _ A6.out).mono ?_); rintro e w9 ⟨rfl, hb⟩; replace BK156 := Aside0.mk (blk_below (mvB BK156.out) hb); replace HB := Aside0.mk (below_step (mvW HB.out) hb); (try clear hb); (try clear hb2); (try clear hk); (try clear hi)))); (go_ret); (exact ⟨by first | rfl | (simp [errW_none, errW_some] <;> rfl) | (simp [*, errW_none, errW_some] <;> rfl), by repeat (first | (with_reducible first | exact HB.out | apply below_alloc | apply pw_below_drewN | apply below_drew1 | refine below_set ?_ GE156.out) | exact HB.out)⟩)

/-! ### span_Has: function 57 -/
def span_Has.f (k : Nat) (a0_0 : ByteArray) (a0_1 : ByteArray) (a0_2 : Bool) (a1 : ByteArray) : Option (Bool) := (span_Right.f k a0_0 a0_1 a0_2).bind fun t159 => (if t159 = true then ((span_bounds_has.f a0_0 a0_1 a0_2 a1).bind fun t160 => (some t160)) else (some false))
set_option maxHeartbeats 8000000 in
set_option maxRecDepth 100000 in
theorem span_Has.calls (k : Nat) (a0_0 : ByteArray) (a0_1 : ByteArray) (a0_2 : Bool) (a1 : ByteArray) (r : Bool) (w : World) (h : span_Has.f k a0_0 a0_1 a0_2 a1 = some r) :
    Calls Try.prog 57 #[.agg #[.string a0_0, .string a0_1, .bool a0_2], .string a1] w fun e w' => e = .returned (.bool r) ∧ Below w.heap.size w w' := by
  (have hu24 := Try.underlying24); (have HB := Aside0.mk (Below.refl w.heap.size w)); (have H : ((span_Right.f k a0_0 a0_1 a0_2).bind fun t159 => (if t159 = true then ((span_bounds_has.f a0_0 a0_1 a0_2 a1).bind fun t160 => (some t160)) else (some false))) = some r := h); (clear h); (replace H := Option.bind_eq_some_iff.mp H); (obtain ⟨t159, A30, H⟩ := H); (replace H : (if t159 = true then ((span_bounds_has.f a0_0 a0_1 a0_2 a1).bind fun t160 => (some t160)) else (some false)) = some r := H); (have A3 := Aside0.mk A30); (clear A30); (by_cases c4 : t159 = true)
  · (subst c4); (have H1 : ((span_bounds_has.f a0_0 a0_1 a0_2 a1).bind fun t160 => (some t160)) = some r := by rw [if_pos rfl] at H; exact H); (clear H); (have H := H1); (clear H1); (replace H := Option.bind_eq_some_iff.mp H); (obtain ⟨t160, A50, H⟩ := H); (replace H : (some t160) = some r := H); (have A5 := Aside0.mk A50); (clear A50); (obtain rfl := Option.some.inj H); (go_enter Try.func57, Try.ntmps57); (go_wp2_with (first | ((with_reducible refine gate_dst (N := 2) rfl ?_); refine box_event ?hg (N := 2) ?hd (cs := #[.string a0_0, .string a0_1, .bool a0_2]) (t := 24) ?hr ?_; (case hd => rfl); (case hg => rfl); (case hr => first | (go_simp; done) | (go_simp; rfl)); intro gb158 hg w6 hbox hb; have BK158 := Aside0.mk (hbox); have GW158 := Aside0.mk ((by rw [hg]; exact (below_size (mvW HB.out)) : w.heap.size ≤ gb158)); have GE158 := Aside0.mk ((by rw [hg]; exact (below_size (mvW HB.out)) : w.heap.size ≤ gb158)); replace HB := Aside0.mk (below_step (mvW HB.out) hb); clear hb hbox hg; obtain ⟨Z7_0, Z7_1, Z7_2⟩ := bc3 BK158.out; obtain ⟨Y7_0, Y7_1, Y7_2⟩ := bf3 BK158.out) | ((with_reducible refine gate_callee (f := 40) rfl ?_); refine goesL_ (some 6) rfl rfl Try.func40 (by kernel_rfl) rfl #[.agg #[.string a0_0, .string a0_1, .bool a0_2]] rfl (by (try simp only [List.map_toArray, List.map_cons, List.map_nil]); first | done | rfl | (simp only [List.length_drop, List.length_take]; rfl) | (simp only [*]; rfl)) ?_; (with_reducible refine (span_Right.calls k a0_0 a0_1 a0_2 true _ A3.out).mono ?_); rintro e w8 ⟨rfl, hb⟩; refine ⟨_, rfl, ?_⟩; replace BK158 := Aside0.mk (blk_below (mvB BK158.out) hb); replace HB := Aside0.mk (below_step (mvW HB.out) hb); clear hb; obtain ⟨Z9_0, Z9_1, Z9_2⟩ := bc3 BK158.out; obtain ⟨Y9_0, Y9_1, Y9_2⟩ := bf3 BK158.out) | (go_at_call 64; (with_reducible refine (span_bounds_has.calls a0_0 a0_1 a0_2 a1 t160 _ A5.out).mono ?_); rintro e w10 ⟨rfl, hb⟩; replace BK158 := Aside0.mk (blk_below (mvB BK158.out) hb); replace HB := Aside0.mk (below_step (mvW HB.out) hb); (try clear hb); (try clear hb2); (try clear hk); (try clear hi)))); (go_ret); (exact ⟨by first | rfl | (simp [errW_none, errW_some] <;> rfl) | (simp [*, errW_none, errW_some] <;> rfl), by repeat (first | (with_reducible first | exact HB.out | apply below_alloc | apply pw_below_drewN | apply below_drew1 | refine below_set ?_ GE158.out) | exact HB.out)⟩)
  · (replace c4 := Bool.eq_false_iff.mpr c4); (subst c4); (have H1 : (some false) = some r := by rw [if_neg (show ¬ (false = true) by decide)] at H; exact H); (clear H); (have H := H1); (clear H1); (obtain rfl := Option.some.inj H); (go_enter Try.func57, Try.ntmps57); (go_wp2_with (first | ((with_reducible refine gate_dst (N := 2) rfl ?_); refine box_event ?hg (N := 2) ?hd (cs := #[.string a0_0, .string a0_1, .bool a0_2]) (t := 24) ?hr ?_; (case hd => rfl); (case hg => rfl); (case hr => first | (go_simp; done) | (go_simp; rfl)); intro gb158 hg w11 hbox hb; have BK158 := Aside0.mk (hbox); have GW158 := Aside0.mk ((by rw [hg]; exact (below_size (mvW HB.out)) : w.heap.size ≤ gb158)); have GE158 := Aside0.mk ((by rw [hg]; exact (below_size (mvW HB.out)) : w.heap.size ≤ gb158)); replace HB := Aside0.mk (below_step (mvW HB.out) hb); clear hb hbox hg; obtain ⟨Z12_0, Z12_1, Z12_2⟩ := bc3 BK158.out; obtain ⟨Y12_0, Y12_1, Y12_2⟩ := bf3 BK158.out) | ((with_reducible refine gate_callee (f := 40) rfl ?_); refine goesL_ (some 6) rfl rfl Try.func40 (by kernel_rfl) rfl #[.agg #[.string a0_0, .string a0_1, .bool a0_2]] rfl (by (try simp only [List.map_toArray, List.map_cons, List.map_nil]); first | done | rfl | (simp only [List.length_drop, List.length_take]; rfl) | (simp only [*]; rfl)) ?_; (with_reducible refine (span_Right.calls k a0_0 a0_1 a0_2 false _ A3.out).mono ?_); rintro e w13 ⟨rfl, hb⟩; refine ⟨_, rfl, ?_⟩; replace BK158 := Aside0.mk (blk_below (mvB BK158.out) hb); replace HB := Aside0.mk (below_step (mvW HB.out) hb); (try clear hb); (try clear hb2); (try clear hk); (try clear hi)))); (go_ret); (exact ⟨by first | rfl | (simp [errW_none, errW_some] <;> rfl) | (simp [*, errW_none, errW_some] <;> rfl), by repeat (first | (with_reducible first | exact HB.out | apply below_alloc | apply pw_below_drewN | apply below_drew1 | refine below_set ?_ GE158.out) | exact HB.out)⟩)

/-! ### cells_Part: function 41 -/
/-- Does a range (its bounds being right) have a key? -/
def inside (a b : ByteArray) (e : Bool) (key : ByteArray) : Bool := !Op.bytesLess key.toList a.toList && !(e && !Op.bytesLess key.toList b.toList)
theorem has_inside (k : Nat) (a b : ByteArray) (e : Bool) (key : ByteArray) (t : Bool) (h : span_Right.f k a b e = some t) : span_Has.f k a b e key = some (t && inside a b e key) := by
  unfold span_Has.f span_bounds_has.f span_bounds_over.f inside
  rw [h]
  cases t
  · rfl
  · cases h1 : Op.bytesLess key.toList a.toList <;> cases e <;> simp [h1]
def cells_Part.f (k : Nat) (l0 : List S42) (a1_0 : ByteArray) (a1_1 : ByteArray) (a1_2 : Bool) : Option (List S42) := (cells_Right.f k l0).bind fun t => if t = true then ((span_Right.f k a1_0 a1_1 a1_2).bind fun s => if l0.length < 4398046511104 then some (l0.filter (fun y => s && inside a1_0 a1_1 a1_2 y.f0)) else none) else some []
theorem cells_Part.mono : ∀ a0 a1 a2 a3 k, LeO (cells_Part.f k a0 a1 a2 a3) (cells_Part.f (k + 1) a0 a1 a2 a3) := by
  intro a0 a1 a2 a3 k
  refine LeO.bind (cells_Right.mono _ _) (fun t => ?_)
  cases t
  · exact LeO.refl _
  · exact LeO.bind (span_Right.mono _ _ _ _) (fun _ => LeO.refl _)
set_option maxHeartbeats 4000000 in
theorem cells_Part_clo_calls (k bx : Nat) (a b : ByteArray) (e : Bool) (t : Bool) (y : S42) (W : World) (ht : span_Right.f k a b e = some t) (h0 : W.cell? ⟨bx, 0, none⟩ = some (.string a)) (h1 : W.cell? ⟨bx, 1, none⟩ = some (.string b)) (h2 : W.cell? ⟨bx, 2, none⟩ = some (.bool e)) :
    Calls Try.prog 56 (#[.agg #[.string y.f0, .string y.f1]] ++ #[.pointer (some ⟨bx, 0, none⟩)]) W fun e_ w' => e_ = .returned (.bool (t && inside a b e y.f0)) ∧ Below W.heap.size W w' := by
  have hu := Try.underlying42
  have hu2 := Try.underlying24
  have hlt : bx < W.heap.size := World.block_lt_of_cell? W _ h0
  have hC := span_Has.calls k a b e y.f0 _ (W.alloc (.cells #[.string y.f0, .string y.f1] 42)) (has_inside k a b e y.f0 t ht)
  have HB := Aside0.mk (below_alloc (Below.refl W.heap.size W) (.cells #[.string y.f0, .string y.f1] 42))
  generalize (t && inside a b e y.f0) = q at hC ⊢
  go_enter Try.func56, Try.ntmps56
  go_wp2_with (go_at_call 57; refine hC.mono ?_; rintro e_ w1 ⟨rfl, hb⟩; have HB1 := Aside0.mk (below_step HB.out hb); clear hb)
  go_ret
  exact ⟨rfl, HB1.out⟩
set_option maxHeartbeats 4000000 in
set_option maxRecDepth 100000 in
theorem cells_Part.calls (k : Nat) (A0 : Option Addr) (c0 : Nat) (l0 : List (S42)) (a1_0 : ByteArray) (a1_1 : ByteArray) (a1_2 : Bool) (r : List (S42)) (w : World) (hr0 : Kd.C k42 w A0 l0.length l0) (hc0 : l0.length ≤ c0) (h : cells_Part.f k l0 a1_0 a1_1 a1_2 = some r) :
    Calls Try.prog 41 #[.slice A0 l0.length c0, .agg #[.string a1_0, .string a1_1, .bool a1_2]] w fun e w' => ∃ v0_ : Value, e = .returned (v0_) ∧ Kd.R k42 42 w' w.heap.size (fun _ => True) v0_ r ∧ Below w.heap.size w w' := by
  obtain ⟨t, ht, h⟩ := Option.bind_eq_some_iff.1 h
  have hu2 := Try.underlying24
  have hB0 : Below w.heap.size w (w.alloc (.cells #[.string a1_0, .string a1_1, .bool a1_2] 24)) := below_alloc (Below.refl _ _) _
  have hR := cells_Right.calls k A0 c0 l0 t _ (Kd.C_below hr0 hB0) hc0 ht
  have HB0 := Aside0.mk hB0
  clear hB0
  cases t
  · rw [if_neg (by simp)] at h
    obtain rfl := Option.some.inj h
    go_enter Try.func41, Try.ntmps41
    go_wp2_with (go_at_call 28; refine hR.mono ?_; rintro e w1 ⟨rfl, hb⟩; have HB := Aside0.mk (below_step HB0.out hb); clear hb)
    go_ret
    exact ⟨_, rfl, Kd.R_nil _ _ _ _ _, HB.out⟩
  · rw [if_pos rfl] at h
    obtain ⟨s, hs, h⟩ := Option.bind_eq_some_iff.1 h
    have hlen : l0.length < 4398046511104 := by
      by_cases hl : l0.length < 4398046511104
      · exact hl
      · rw [if_neg hl] at h; cases h
    rw [if_pos hlen] at h
    obtain rfl := Option.some.inj h
    have eg : ∀ args w, (callFunc 56 args).run Try.prog w = .ok (.enter 56 args) w := enters_of Try.func56 (by kernel_rfl) rfl
    have c0_ : (w.alloc (.cells #[.string a1_0, .string a1_1, .bool a1_2] 24)).cell? ⟨w.heap.size, 0, none⟩ = some (.string a1_0) := (blk_cell (blk_new w _) 0).trans rfl
    have c1_ : (w.alloc (.cells #[.string a1_0, .string a1_1, .bool a1_2] 24)).cell? ⟨w.heap.size, 1, none⟩ = some (.string a1_1) := (blk_cell (blk_new w _) 1).trans rfl
    have c2_ : (w.alloc (.cells #[.string a1_0, .string a1_1, .bool a1_2] 24)).cell? ⟨w.heap.size, 2, none⟩ = some (.bool a1_2) := (blk_cell (blk_new w _) 2).trans rfl
    have hK := fun (w1 : World) (hb : Below (w.alloc (.cells #[.string a1_0, .string a1_1, .bool a1_2] 24)).heap.size (w.alloc (.cells #[.string a1_0, .string a1_1, .bool a1_2] 24)) w1) => cells_Delete_kept_calls 56 #[.pointer (some ⟨w.heap.size, 0, none⟩)] A0 c0 l0 (fun y => s && inside a1_0 a1_1 a1_2 y.f0) w1 eg hlen (Kd.C_below (Kd.C_below hr0 HB0.out) hb)
      (fun W y hB => cells_Part_clo_calls k w.heap.size a1_0 a1_1 a1_2 s y W hs (pw_cell_below hB (pw_cell_below hb c0_)) (pw_cell_below hB (pw_cell_below hb c1_)) (pw_cell_below hB (pw_cell_below hb c2_)))
    have HK := Aside0.mk hK
    clear hK c0_ c1_ c2_ hr0
    go_enter Try.func41, Try.ntmps41
    go_wp2_with (first | (go_at_call 28; refine hR.mono ?_; rintro e w1 ⟨rfl, hb⟩; have HBX := Aside0.mk hb; have HB := Aside0.mk (below_step HB0.out hb); clear hb) | (go_at_call 54; refine (HK.out w1 HBX.out).mono ?_; rintro e w2 ⟨v, rfl, ho, hb⟩; have HO := Aside0.mk ho; have HB2 := Aside0.mk (below_step HB.out hb); have HZ := Aside0.mk HB.out.size; clear ho hb))
    go_ret
    exact ⟨_, rfl, cells_base HO.out HZ.out, HB2.out⟩

end Go.Proofs.Ytoggblomknemoaa.S
