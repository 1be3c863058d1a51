-- PRINTED by print.py (a twelfth state) out of the translation. Not trusted: Lean checks it.
import Derived.Test.YtoggblomknemoaaMv
import Derived.Test.YtoggblomknemoaaDx0
import Derived.Test.YtoggblomknemoaaDx7
namespace Go.Proofs.Ytoggblomknemoaa.D
open Go.RowKit Go.Proofs.YtoggblomknemoaaW Go.Proofs.YtoggblomknemoaaW.PrintWords Go.Proofs.YtoggblomknemoaaW.PrintLast Go.Proofs.YtoggblomknemoaaW.PrintMore
attribute [local go_sem] GpMore.bytes_le max2_int min2_int max_two min_two max_three min_three max_four min_four   -- for this text's walks alone
set_option linter.unusedVariables false
set_option linter.unusedSimpArgs false

/-! ### lockkeeperref10_Delete: function 46 -/
def lockkeeperref10_Delete.l0 : Nat → List (S42) → ByteArray → List (S42) → Int → Option ((List (S42)) × Int)
  | 0, _, _, _, _ => none
  | k + 1, x0, x1, x6, x7 => if x7 < (x0.length : Int) then (if 0 ≤ x7 then (if ((rd_T42 x0 x7).f0).toList = x1.toList then (lockkeeperref10_Delete.l0 k x0 x1 x6 (wrap64 (x7 + 1))) else (if x6.length < 4398046511104 then (lockkeeperref10_Delete.l0 k x0 x1 (x6 ++ [(⟨(rd_T42 x0 x7).f0, (rd_T42 x0 x7).f1⟩ : S42)]) (wrap64 (x7 + 1))) else (none))) else (none)) else (some (x6, 0))
def lockkeeperref10_Delete.f (k : Nat) (l0 : List (S42)) (a1 : ByteArray) : Option ((List (S42)) × Int) := (lockkeeperref10_Right.f k l0).bind fun t258 => (if t258 = true then (lockkeeperref10_Delete.l0 k l0 a1 ([] : List (S42)) 0) else (some (([] : List (S42)), 100)))
theorem lockkeeperref10_Delete.mono_l : ∀ k, (∀ y0 y1 y2 y3, LeO (lockkeeperref10_Delete.l0 k y0 y1 y2 y3) (lockkeeperref10_Delete.l0 (k + 1) y0 y1 y2 y3))
  | 0 => fun _ _ _ _ r h => by simp [lockkeeperref10_Delete.l0] at h
  | k + 1 => by
    have ih0 := lockkeeperref10_Delete.mono_l k
    · intro y0 y1 y2 y3
      unfold lockkeeperref10_Delete.l0
      repeat' first
      | (with_reducible exact ih0 _ _ _ _)
      | (with_reducible exact lockkeeperref10_Right.mono _ _)
      | (with_reducible exact LeO.refl _)
      | (with_reducible exact LeO.none _)
      | (with_reducible refine LeO.ite ?_ ?_)
      | (with_reducible refine LeO.bind ?_ (fun _ => ?_))
      | exact ih0 _ _ _ _
      | exact lockkeeperref10_Right.mono _ _
      | exact LeO.none _
      | refine LeO.ite ?_ ?_
      | refine LeO.bind ?_ (fun _ => ?_)
theorem lockkeeperref10_Delete.mono : ∀ a0 a1 k, LeO (lockkeeperref10_Delete.f k a0 a1) (lockkeeperref10_Delete.f (k + 1) a0 a1) := by
  intro a0 a1 k
  have ih0 := lockkeeperref10_Delete.mono_l k
  unfold lockkeeperref10_Delete.f
  repeat' first
      | (with_reducible exact ih0 _ _ _ _)
      | (with_reducible exact lockkeeperref10_Right.mono _ _)
      | (with_reducible exact LeO.refl _)
      | (with_reducible exact LeO.none _)
      | (with_reducible refine LeO.ite ?_ ?_)
      | (with_reducible refine LeO.bind ?_ (fun _ => ?_))
      | exact ih0 _ _ _ _
      | exact lockkeeperref10_Right.mono _ _
      | exact LeO.none _
      | refine LeO.ite ?_ ?_
      | refine LeO.bind ?_ (fun _ => ?_)
set_option maxHeartbeats 8000000 in
set_option maxRecDepth 100000 in
theorem lockkeeperref10_Delete.calls (k : Nat) (A0 : Option Addr) (c0 : Nat) (l0 : List (S42)) (a1 : ByteArray) (r1 : List (S42)) (r2 : Int) (w : World) (hr0 : Kd.C k42 w A0 l0.length l0) (hc0 : l0.length ≤ c0) (h : lockkeeperref10_Delete.f k l0 a1 = some (r1, r2)) :
    Calls Try.prog 46 #[.slice A0 l0.length c0, .string a1] w fun e w' => ∃ v0_ : Value, e = .returned (.tuple #[v0_, .int .i64 r2]) ∧ Kd.R k42 42 w' w.heap.size (fun _ => True) v0_ r1 ∧ Below w.heap.size w w' := by
  (have hu42 := Try.underlying42); (have HR0 := Aside0.mk hr0); (have HC0 := Aside0.mk hc0); (clear hr0 hc0); (have HB := Aside0.mk (Below.refl w.heap.size w)); (have H : ((lockkeeperref10_Right.f k l0).bind fun t258 => (if t258 = true then (lockkeeperref10_Delete.l0 k l0 a1 ([] : List (S42)) 0) else (some (([] : List (S42)), 100)))) = some (r1, r2) := h); (clear h); (replace H := Option.bind_eq_some_iff.mp H); (obtain ⟨t258, A30, H⟩ := H); (replace H : (if t258 = true then (lockkeeperref10_Delete.l0 k l0 a1 ([] : List (S42)) 0) else (some (([] : List (S42)), 100))) = some (r1, r2) := H); (have A3 := Aside0.mk A30); (clear A30); (by_cases c4 : t258 = true)
  · (subst c4); (have H1 : (lockkeeperref10_Delete.l0 k l0 a1 ([] : List (S42)) 0) = some (r1, r2) := by rw [if_pos rfl] at H; exact H); (clear H); (have H := H1); (clear H1); (have H' := Aside0.mk H); (clear H); (go_enter Try.func46, Try.ntmps46); (go_wp2_with (first | ((with_reducible refine gate_callee (f := 10) rfl ?_); refine goesL_ (some 9) rfl rfl Try.func10 (by kernel_rfl) rfl #[.slice A0 l0.length c0] rfl (by (try simp only [List.map_toArray, List.map_cons, List.map_nil]); first | done | rfl | (simp only [List.length_drop, List.length_take]; rfl) | (simp only [*]; rfl)) ?_; (with_reducible refine (lockkeeperref10_Right.calls k _ _ l0 true _ ?side1 ?side2 A3.out).mono ?_); (case side1 => repeat (first | exact HR0.out | (with_reducible refine Kd.C_alloc ?_ _) | (with_reducible refine Kd.C_drewN ?_ _) | (with_reducible refine Kd.C_drew ?_))); (case side2 => exact HC0.out); rintro e w5 ⟨rfl, hb⟩; refine ⟨_, rfl, ?_⟩; replace HB := Aside0.mk (below_step (mvW HB.out) hb); (try clear hb); (try clear hb2); (try clear hk); (try clear hi)))); (go_loopg [6, 7] k (fun kq v6 v7 w' => ∃ (x6_1 : List (S42)) (x7_1 : Int), v7 = .int .i64 x7_1 ∧ Aside0 (lockkeeperref10_Delete.l0 kq l0 a1 x6_1 x7_1 = some (r1, r2)) ∧ Aside0 (kq ≤ k) ∧ Aside0 (Kd.R k42 42 w' w.heap.size (fun _ => True) v6 x6_1) ∧ Aside0 (Below w.heap.size w w')))
    case atStart => exact ⟨(([] : List (S42))), (0), (by first | rfl | (simp; done) | (simp [*]; done)), H', ⟨Nat.le_refl _⟩, ⟨by first | exact Kd.R_nil _ _ _ _ _ | exact Kd.N_nil _ _ _ _ _ | exact Kd.V_nil _ _ _ _ _ | exact Kd.Q_nil _ _ _ _ _ | exact Kd.S_nil _ _ _ _ _⟩, ⟨mvW HB.out⟩⟩
    case round =>
      (clear H'); (try clear c1); (try clear p2); (try clear c4); (obtain ⟨x6_1, x7_1, rfl, HA, HK1, HO_6, HB⟩ := hrel)
      cases gk with
      | zero => exact absurd HA.out (by simp [lockkeeperref10_Delete.l0])
      | succ k1 =>
        (have H := HA.out); (clear HA); (simp only [lockkeeperref10_Delete.l0] at H); (by_cases c6 : x7_1 < (l0.length : Int))
        · (rw [if_pos c6] at H); (have c6b0 : decide (x7_1 < (l0.length : Int)) = true := decide_eq_true c6); (clear c6); (by_cases c7 : 0 ≤ x7_1)
          · (rw [if_pos c7] at H); (have c7b0 : decide (0 ≤ x7_1) = true := decide_eq_true c7); (clear c7); (by_cases c8 : ((rd_T42 l0 x7_1).f0).toList = a1.toList)
            · (rw [if_pos c8] at H); (have c8b0 : (((rd_T42 l0 x7_1).f0).toList == a1.toList) = true := beq_iff_eq.mpr c8); (have c8b1 : (((rd_T42 l0 x7_1).f0).toList != a1.toList) = false := bne_eq_false_iff_eq.mpr c8); (clear c8); (have H' := Aside0.mk H); (clear H); (have p259 : 0 ≤ (x7_1 : Int) := of_decide_eq_true (by first | (with_reducible assumption) | assumption)); (have q259 : x7_1 < (l0.length : Int) := of_decide_eq_true (by first | (with_reducible assumption) | assumption)); (obtain ⟨ad259, e259, hx259_0, hx259_1⟩ := at_T42 HR0.out x7_1 p259 q259); (cases e259); (replace hx259_0 := (HB.out.cell (World.block_lt_of_cell? w _ hx259_0)).trans hx259_0); (replace hx259_1 := (HB.out.cell (World.block_lt_of_cell? w _ hx259_1)).trans hx259_1); (replace p259 := eq_true p259); (replace q259 := eq_true q259); (go_wp2); (go_roundg k1)
              case measure => have := HK1.out; omega
              case rel => exact ⟨(x6_1), (wrap64 (x7_1 + 1)), (by first | rfl | (simp; done) | (simp [*]; done)), H', ⟨by have := HK1.out; omega⟩, ⟨mvR HO_6.out⟩, ⟨mvW HB.out⟩⟩
            · (rw [if_neg c8] at H); (have c8b0 : (((rd_T42 l0 x7_1).f0).toList == a1.toList) = false := beq_eq_false_iff_ne.mpr c8); (have c8b1 : (((rd_T42 l0 x7_1).f0).toList != a1.toList) = true := bne_iff_ne.mpr c8); (by_cases c9 : x6_1.length < 4398046511104)
              · (rw [if_pos c9] at H); (have LMc9 := Aside0.mk c9); (clear c9); (obtain ⟨y261, hy261⟩ : ∃ y_ : List (S42), y_ = (x6_1 ++ [(⟨(rd_T42 l0 x7_1).f0, (rd_T42 l0 x7_1).f1⟩ : S42)]) := ⟨_, rfl⟩); (replace H : (lockkeeperref10_Delete.l0 k1 l0 a1 y261 (wrap64 (x7_1 + 1))) = some (r1, r2) := by first | (rw [hy261]; with_reducible exact H) | (have H2_ := (Option.bind_some _ _).symm.trans H; rw [hy261]; with_reducible exact H2_) | (have H2_ := (Option.bind_some _ _).symm.trans H; with_reducible exact H2_) | with_reducible exact H | (rw [hy261]; exact H) | exact H); (have Ny261 := Aside0.mk hy261); (clear hy261); (have H' := Aside0.mk H); (clear H); (have p259 : 0 ≤ (x7_1 : Int) := of_decide_eq_true (by first | (with_reducible assumption) | assumption)); (have q259 : x7_1 < (l0.length : Int) := of_decide_eq_true (by first | (with_reducible assumption) | assumption)); (obtain ⟨ad259, e259, hx259_0, hx259_1⟩ := at_T42 HR0.out x7_1 p259 q259); (cases e259); (replace hx259_0 := (HB.out.cell (World.block_lt_of_cell? w _ hx259_0)).trans hx259_0); (replace hx259_1 := (HB.out.cell (World.block_lt_of_cell? w _ hx259_1)).trans hx259_1); (replace p259 := eq_true p259); (replace q259 := eq_true q259); (have p260 : 0 ≤ (x7_1 : Int) := of_decide_eq_true (by first | (with_reducible assumption) | assumption)); (have q260 : x7_1 < (l0.length : Int) := of_decide_eq_true (by first | (with_reducible assumption) | assumption)); (obtain ⟨ad260, e260, hx260_0, hx260_1⟩ := at_T42 HR0.out x7_1 p260 q260); (obtain rfl : ad259 = ad260 := (by injection e260)); (replace hx260_0 := (HB.out.cell (World.block_lt_of_cell? w _ hx260_0)).trans hx260_0); (replace hx260_1 := (HB.out.cell (World.block_lt_of_cell? w _ hx260_1)).trans hx260_1); (replace p260 := eq_true p260); (replace q260 := eq_true q260); (go_wp2_with (first | ((with_reducible refine gate_builtin (b := .append) (xs := #[.tmp 24, .tmp 29]) rfl ?_); at_builtin; refine Kd.R_append k42 (w0 := w) w.heap.size rfl (.tmp 24) (.tmp 29) 22 42 (.agg #[(.string ⟨#[]⟩), (.string ⟨#[]⟩)]) 32 rfl Try.underlying22 info42 rfl (by decide) (by omega) u6 x6_1 (⟨(rd_T42 l0 x7_1).f0, (rd_T42 l0 x7_1).f1⟩ : S42) [.string ((rd_T42 l0 x7_1).f0), .string ((rd_T42 l0 x7_1).f1)] (fun _ => True) (fun _ => False) rfl rfl ?aP (fun _ hk => hk.elim) ?aF ?aO ?aB ?aS ?aL ?_; (case aP => exact k42_mkM _ _ _ (⟨(rd_T42 l0 x7_1).f0, (rd_T42 l0 x7_1).f1⟩ : S42)); (case aB => exact (mvW HB.out)); (case aF => exact (fun _ _ => trivial)); (case aO => exact (mvR HO_6.out)); (case aS => exact (below_size (mvW HB.out))); (case aL => have := LMc9.out; omega); intro v262 w10 ho hb hg hat; rw [← Ny261.out] at ho; replace HB := Aside0.mk (hb); have HO263 := Aside0.mk (ho); clear HO_6; clear ho hb hg hat))); (go_roundg k1)
                case measure => have := HK1.out; omega
                case rel => exact ⟨(y261), (wrap64 (x7_1 + 1)), (by first | rfl | (simp; done) | (simp [*]; done)), H', ⟨by have := HK1.out; omega⟩, ⟨mvR HO263.out⟩, ⟨mvW HB.out⟩⟩
              · (rw [if_neg c9] at H); (exact absurd H (by simp))
          · (rw [if_neg c7] at H); (exact absurd H (by simp))
        · (rw [if_neg c6] at H); (have c6b0 : decide (x7_1 < (l0.length : Int)) = false := decide_eq_false c6); (clear c6); (simp only [Option.some.injEq, Prod.mk.injEq] at H); (obtain ⟨rfl, rfl⟩ := H); (go_wp2); (go_ret2); (exact ⟨_, by first | rfl | (simp [errW_none, errW_some] <;> rfl) | (simp [*, errW_none, errW_some] <;> rfl), by (with_reducible repeat (first | apply Kd.R_alloc | apply Kd.R_drewN | apply Kd.R_drew)); exact HO_6.out, by repeat (first | (with_reducible first | exact HB.out | apply below_alloc | apply pw_below_drewN | apply below_drew1) | exact HB.out)⟩)
  · (replace c4 := Bool.eq_false_iff.mpr c4); (subst c4); (have H1 : (some (([] : List (S42)), 100)) = some (r1, r2) := by rw [if_neg (show ¬ (false = true) by decide)] at H; exact H); (clear H); (have H := H1); (clear H1); (simp only [Option.some.injEq, Prod.mk.injEq] at H); (obtain ⟨rfl, rfl⟩ := H); (go_enter Try.func46, Try.ntmps46); (go_wp2_with (first | ((with_reducible refine gate_callee (f := 10) rfl ?_); refine goesL_ (some 9) rfl rfl Try.func10 (by kernel_rfl) rfl #[.slice A0 l0.length c0] rfl (by (try simp only [List.map_toArray, List.map_cons, List.map_nil]); first | done | rfl | (simp only [List.length_drop, List.length_take]; rfl) | (simp only [*]; rfl)) ?_; (with_reducible refine (lockkeeperref10_Right.calls k _ _ l0 false _ ?side1 ?side2 A3.out).mono ?_); (case side1 => repeat (first | exact HR0.out | (with_reducible refine Kd.C_alloc ?_ _) | (with_reducible refine Kd.C_drewN ?_ _) | (with_reducible refine Kd.C_drew ?_))); (case side2 => exact HC0.out); rintro e w11 ⟨rfl, hb⟩; refine ⟨_, rfl, ?_⟩; replace HB := Aside0.mk (below_step (mvW HB.out) hb); (try clear hb); (try clear hb2); (try clear hk); (try clear hi)))); (go_ret2); (exact ⟨_, by first | rfl | (simp [errW_none, errW_some] <;> rfl) | (simp [*, errW_none, errW_some] <;> rfl), by first | exact Kd.R_nil _ _ _ _ _ | exact Kd.N_nil _ _ _ _ _ | exact Kd.V_nil _ _ _ _ _ | exact Kd.Q_nil _ _ _ _ _ | exact Kd.S_nil _ _ _ _ _, by repeat (first | (with_reducible first | exact HB.out | apply below_alloc | apply pw_below_drewN | apply below_drew1) | exact HB.out)⟩)

/-! ### lockkeeperref03_Right: function 47 -/
def lockkeeperref03_Right.j0 : Nat → Bool → ByteArray → ByteArray → Bool → Option (Bool)
  | 0, _, _, _, _ => none
  | k + 1, x12, x265000, x265001, x265002 => if x12 = true then (some false) else (if x265002 = true then (some (Op.bytesLess x265000.toList x265001.toList)) else (some (x265001.toList == ([] : List UInt8))))
def lockkeeperref03_Right.f (k : Nat) (a0_0 : ByteArray) (a0_1 : ByteArray) (a0_2 : Bool) : Option (Bool) := if (a0_0.size : Int) > 513 then (lockkeeperref03_Right.j0 k true a0_0 a0_1 a0_2) else (lockkeeperref03_Right.j0 k (decide ((a0_1.size : Int) > 513)) a0_0 a0_1 a0_2)
theorem lockkeeperref03_Right.mono_l : ∀ k, (∀ y0 y1 y2 y3, LeO (lockkeeperref03_Right.j0 k y0 y1 y2 y3) (lockkeeperref03_Right.j0 (k + 1) y0 y1 y2 y3))
  | 0 => fun _ _ _ _ r h => by simp [lockkeeperref03_Right.j0] at h
  | k + 1 => by
    have ih0 := lockkeeperref03_Right.mono_l k
    · intro y0 y1 y2 y3
      unfold lockkeeperref03_Right.j0
      repeat' first
      | (with_reducible exact ih0 _ _ _ _)
      | (with_reducible exact LeO.refl _)
      | (with_reducible exact LeO.none _)
      | (with_reducible refine LeO.ite ?_ ?_)
      | (with_reducible refine LeO.bind ?_ (fun _ => ?_))
      | exact ih0 _ _ _ _
      | exact LeO.none _
      | refine LeO.ite ?_ ?_
      | refine LeO.bind ?_ (fun _ => ?_)
theorem lockkeeperref03_Right.mono : ∀ a0 a1 a2 k, LeO (lockkeeperref03_Right.f k a0 a1 a2) (lockkeeperref03_Right.f (k + 1) a0 a1 a2) := by
  intro a0 a1 a2 k
  have ih0 := lockkeeperref03_Right.mono_l k
  unfold lockkeeperref03_Right.f
  repeat' first
      | (with_reducible exact ih0 _ _ _ _)
      | (with_reducible exact LeO.refl _)
      | (with_reducible exact LeO.none _)
      | (with_reducible refine LeO.ite ?_ ?_)
      | (with_reducible refine LeO.bind ?_ (fun _ => ?_))
      | exact ih0 _ _ _ _
      | exact LeO.none _
      | refine LeO.ite ?_ ?_
      | refine LeO.bind ?_ (fun _ => ?_)
set_option maxHeartbeats 8000000 in
set_option maxRecDepth 100000 in
theorem lockkeeperref03_Right.calls (k : Nat) (a0_0 : ByteArray) (a0_1 : ByteArray) (a0_2 : Bool) (r : Bool) (w : World) (h : lockkeeperref03_Right.f k a0_0 a0_1 a0_2 = some r) :
    Calls Try.prog 47 #[.agg #[.string a0_0, .string a0_1, .bool a0_2]] w fun e w' => e = .returned (.bool r) ∧ Below w.heap.size w w' := by
  (have hu24 := Try.underlying24); (have HB := Aside0.mk (Below.refl w.heap.size w)); (have H : (if (a0_0.size : Int) > 513 then (lockkeeperref03_Right.j0 k true a0_0 a0_1 a0_2) else (lockkeeperref03_Right.j0 k (decide ((a0_1.size : Int) > 513)) a0_0 a0_1 a0_2)) = some r := h); (clear h); (have HC2 := Aside0.mk H); (clear H); (go_enter Try.func47, Try.ntmps47); (go_upto_region 1 with (first | ((with_reducible refine gate_dst (N := 1) rfl ?_); (try (refine gate_guard (by rfl) ?_; dsimp only)); refine box_event ?hg (N := 1) ?hd (cs := #[.string a0_0, .string a0_1, .bool a0_2]) (t := 24) ?hr ?_; (case hd => rfl); (case hg => rfl); (case hr => first | (go_simp; done) | (go_simp; rfl)); intro gb264 hg w3 hbox hb; have BK264 := Aside0.mk (hbox); have GW264 := Aside0.mk ((by rw [hg]; exact (below_size (mvW HB.out)) : w.heap.size ≤ gb264)); have GE264 := Aside0.mk ((by rw [hg]; exact (below_size (mvW HB.out)) : w.heap.size ≤ gb264)); replace HB := Aside0.mk (below_step (mvW HB.out) hb); clear hb hbox hg))); ((try simp only [Act.put, List.setIfInBounds_toArray, List.set_cons_zero, List.set_cons_succ])); (go_cut [12] (fun v12 wc => ∃ (kq : Nat) (x12_1 : Bool), v12 = .bool x12_1 ∧ Aside0 (lockkeeperref03_Right.j0 kq x12_1 a0_0 a0_1 a0_2 = some r) ∧ Aside0 (kq ≤ k) ∧ Aside0 (wc.heap[gb264]? = some (.cells #[.string a0_0, .string a0_1, .bool a0_2] 24 (0, 0))) ∧ Aside0 (Below w.heap.size w wc)))
  case first =>
    (have H := HC2.out); (clear HC2); (by_cases c4 : (a0_0.size : Int) > 513)
    · (rw [if_pos c4] at H); (have c4b0 : decide (513 < (a0_0.size : Int)) = true := decide_eq_true c4); (have c4b1 : decide (513 < a0_0.size) = true := decide_eq_true (by omega)); (clear c4); ((first | rw [c4b0] | (simp only [i64_w, i32_w]; rw [c4b0]) | skip)); (have H' := Aside0.mk H); (clear H); (obtain ⟨Z5_0, Z5_1, Z5_2⟩ := bc3 BK264.out); (obtain ⟨Y5_0, Y5_1, Y5_2⟩ := bf3 BK264.out); (go_wp2); (go_meet)
      case rel => exact ⟨_, (true), (by first | rfl | (simp; done) | (simp [*]; done)), H', ⟨by first | omega | exact Nat.le_refl _⟩, ⟨mvB BK264.out⟩, ⟨mvW HB.out⟩⟩
    · (rw [if_neg c4] at H); (have c4b0 : decide (513 < (a0_0.size : Int)) = false := decide_eq_false c4); (have c4b1 : decide (513 < a0_0.size) = false := decide_eq_false (by omega)); (clear c4); ((first | rw [c4b0] | (simp only [i64_w, i32_w]; rw [c4b0]) | skip)); (have H' := Aside0.mk H); (clear H); (obtain ⟨Z6_0, Z6_1, Z6_2⟩ := bc3 BK264.out); (obtain ⟨Y6_0, Y6_1, Y6_2⟩ := bf3 BK264.out); (go_wp2); (go_meet)
      case rel => exact ⟨_, (decide ((a0_1.size : Int) > 513)), (by first | rfl | (simp; done) | (simp [*]; done)), H', ⟨by first | omega | exact Nat.le_refl _⟩, ⟨mvB BK264.out⟩, ⟨mvW HB.out⟩⟩
  case rest =>
    (clear HC2); (try clear p2); (try clear c4); (try clear c4b0); (try clear c4b1); (try clear Z5_0 Z5_1 Z5_2); (try clear Z6_0 Z6_1 Z6_2); (try clear Y5_0 Y5_1 Y5_2); (try clear Y6_0 Y6_1 Y6_2); (obtain ⟨kq, x12_1, rfl, HA, HJ1, BK264, HB⟩ := hcut)
    cases kq with
    | zero => exact absurd HA.out (by simp [lockkeeperref03_Right.j0])
    | succ kj1 =>
      (have H := HA.out); (clear HA); (simp only [lockkeeperref03_Right.j0] at H); (by_cases c7 : x12_1 = true)
      · (subst c7); (have H1 : (some false) = some r := by rw [if_pos rfl] at H; exact H); (clear H); (have H := H1); (clear H1); (obtain rfl := Option.some.inj H); (go_wp2); (go_ret); (exact ⟨by first | rfl | (simp [errW_none, errW_some] <;> rfl) | (simp [*, errW_none, errW_some] <;> rfl), by repeat (first | (with_reducible first | exact HB.out | apply below_alloc | apply pw_below_drewN | apply below_drew1 | refine below_set ?_ GE264.out) | exact HB.out)⟩)
      · (replace c7 := Bool.eq_false_iff.mpr c7); (subst c7); (have H1 : (if a0_2 = true then (some (Op.bytesLess a0_0.toList a0_1.toList)) else (some (a0_1.toList == ([] : List UInt8)))) = some r := by rw [if_neg (show ¬ (false = true) by decide)] at H; exact H); (clear H); (have H := H1); (clear H1); (by_cases c8 : a0_2 = true)
        · (subst c8); (have H1 : (some (Op.bytesLess a0_0.toList a0_1.toList)) = some r := by rw [if_pos rfl] at H; exact H); (clear H); (have H := H1); (clear H1); (obtain rfl := Option.some.inj H); (obtain ⟨Z9_0, Z9_1, Z9_2⟩ := bc3 BK264.out); (obtain ⟨Y9_0, Y9_1, Y9_2⟩ := bf3 BK264.out); (go_wp2); (go_ret); (exact ⟨by first | rfl | (simp [errW_none, errW_some] <;> rfl) | (simp [*, errW_none, errW_some] <;> rfl), by repeat (first | (with_reducible first | exact HB.out | apply below_alloc | apply pw_below_drewN | apply below_drew1 | refine below_set ?_ GE264.out) | exact HB.out)⟩)
        · (replace c8 := Bool.eq_false_iff.mpr c8); (subst c8); (have H1 : (some (a0_1.toList == ([] : List UInt8))) = some r := by rw [if_neg (show ¬ (false = true) by decide)] at H; exact H); (clear H); (have H := H1); (clear H1); (obtain rfl := Option.some.inj H); (obtain ⟨Z10_0, Z10_1, Z10_2⟩ := bc3 BK264.out); (obtain ⟨Y10_0, Y10_1, Y10_2⟩ := bf3 BK264.out); (go_wp2); (go_ret); (exact ⟨by first | rfl | (simp [errW_none, errW_some] <;> rfl) | (simp [*, errW_none, errW_some] <;> rfl), by repeat (first | (with_reducible first | exact HB.out | apply below_alloc | apply pw_below_drewN | apply below_drew1 | refine below_set ?_ GE264.out) | exact HB.out)⟩)

/-! ### lockkeeperref03_Has: function 48 -/
def lockkeeperref03_Has.f (k : Nat) (a0_0 : ByteArray) (a0_1 : ByteArray) (a0_2 : Bool) (a1 : ByteArray) : Option (Bool) := (lockkeeperref03_Right.f k a0_0 a0_1 a0_2).bind fun t266 => (if t266 = true then (if ((Op.bytesLess a1.toList a0_0.toList) = true) then (some false) else (if a0_2 = true then (some (Op.bytesLess a1.toList a0_1.toList)) else (some true))) else (some false))
theorem lockkeeperref03_Has.mono : ∀ a0 a1 a2 a3 k, LeO (lockkeeperref03_Has.f k a0 a1 a2 a3) (lockkeeperref03_Has.f (k + 1) a0 a1 a2 a3) := by
  intro a0 a1 a2 a3 k
  unfold lockkeeperref03_Has.f
  repeat' first
      | (with_reducible exact lockkeeperref03_Right.mono _ _ _ _)
      | (with_reducible exact LeO.refl _)
      | (with_reducible exact LeO.none _)
      | (with_reducible refine LeO.ite ?_ ?_)
      | (with_reducible refine LeO.bind ?_ (fun _ => ?_))
      | exact lockkeeperref03_Right.mono _ _ _ _
      | exact LeO.none _
      | refine LeO.ite ?_ ?_
      | refine LeO.bind ?_ (fun _ => ?_)
set_option maxHeartbeats 8000000 in
set_option maxRecDepth 100000 in
theorem lockkeeperref03_Has.calls (k : Nat) (a0_0 : ByteArray) (a0_1 : ByteArray) (a0_2 : Bool) (a1 : ByteArray) (r : Bool) (w : World) (h : lockkeeperref03_Has.f k a0_0 a0_1 a0_2 a1 = some r) :
    Calls Try.prog 48 #[.agg #[.string a0_0, .string a0_1, .bool a0_2], .string a1] w fun e w' => e = .returned (.bool r) ∧ Below w.heap.size w w' := by
  (have hu24 := Try.underlying24); (have HB := Aside0.mk (Below.refl w.heap.size w)); (have H : ((lockkeeperref03_Right.f k a0_0 a0_1 a0_2).bind fun t266 => (if t266 = true then (if ((Op.bytesLess a1.toList a0_0.toList) = true) then (some false) else (if a0_2 = true then (some (Op.bytesLess a1.toList a0_1.toList)) else (some true))) else (some false))) = some r := h); (clear h); (replace H := Option.bind_eq_some_iff.mp H); (obtain ⟨t266, A30, H⟩ := H); (replace H : (if t266 = true then (if ((Op.bytesLess a1.toList a0_0.toList) = true) then (some false) else (if a0_2 = true then (some (Op.bytesLess a1.toList a0_1.toList)) else (some true))) else (some false)) = some r := H); (have A3 := Aside0.mk A30); (clear A30); (by_cases c4 : t266 = true)
  · (subst c4); (have H1 : (if ((Op.bytesLess a1.toList a0_0.toList) = true) then (some false) else (if a0_2 = true then (some (Op.bytesLess a1.toList a0_1.toList)) else (some true))) = some r := by rw [if_pos rfl] at H; exact H); (clear H); (have H := H1); (clear H1); (by_cases c5 : ((Op.bytesLess a1.toList a0_0.toList) = true))
    · (rw [if_pos c5] at H); (have c5b0 : (Op.bytesLess a1.toList a0_0.toList) = true := c5); (clear c5); (obtain rfl := Option.some.inj H); (go_enter Try.func48, Try.ntmps48); (go_wp2_with (first | ((with_reducible refine gate_dst (N := 2) rfl ?_); refine box_event ?hg (N := 2) ?hd (cs := #[.string a0_0, .string a0_1, .bool a0_2]) (t := 24) ?hr ?_; (case hd => rfl); (case hg => rfl); (case hr => first | (go_simp; done) | (go_simp; rfl)); intro gb265 hg w6 hbox hb; have BK265 := Aside0.mk (hbox); have GW265 := Aside0.mk ((by rw [hg]; exact (below_size (mvW HB.out)) : w.heap.size ≤ gb265)); have GE265 := Aside0.mk ((by rw [hg]; exact (below_size (mvW HB.out)) : w.heap.size ≤ gb265)); replace HB := Aside0.mk (below_step (mvW HB.out) hb); clear hb hbox hg; obtain ⟨Z7_0, Z7_1, Z7_2⟩ := bc3 BK265.out; obtain ⟨Y7_0, Y7_1, Y7_2⟩ := bf3 BK265.out) | ((with_reducible refine gate_callee (f := 47) rfl ?_); refine goesL_ (some 6) rfl rfl Try.func47 (by kernel_rfl) rfl #[.agg #[.string a0_0, .string a0_1, .bool a0_2]] rfl (by (try simp only [List.map_toArray, List.map_cons, List.map_nil]); first | done | rfl | (simp only [List.length_drop, List.length_take]; rfl) | (simp only [*]; rfl)) ?_; (with_reducible refine (lockkeeperref03_Right.calls k a0_0 a0_1 a0_2 true _ A3.out).mono ?_); rintro e w8 ⟨rfl, hb⟩; refine ⟨_, rfl, ?_⟩; replace BK265 := Aside0.mk (blk_below (mvB BK265.out) hb); replace HB := Aside0.mk (below_step (mvW HB.out) hb); clear hb; obtain ⟨Z9_0, Z9_1, Z9_2⟩ := bc3 BK265.out; obtain ⟨Y9_0, Y9_1, Y9_2⟩ := bf3 BK265.out))); (go_ret); (exact ⟨by first | rfl | (simp [errW_none, errW_some] <;> rfl) | (simp [*, errW_none, errW_some] <;> rfl), by repeat (first | (with_reducible first | exact HB.out | apply below_alloc | apply pw_below_drewN | apply below_drew1 | refine below_set ?_ GE265.out) | exact HB.out)⟩)
    · (rw [if_neg c5] at H); (have c5b0 : (Op.bytesLess a1.toList a0_0.toList) = false := by simpa using c5); (clear c5); (by_cases c10 : a0_2 = true)
      · (subst c10); (have H1 : (some (Op.bytesLess a1.toList a0_1.toList)) = some r := by rw [if_pos rfl] at H; exact H); (clear H); (have H := H1); (clear H1); (obtain rfl := Option.some.inj H); (go_enter Try.func48, Try.ntmps48); (go_wp2_with (first | ((with_reducible refine gate_dst (N := 2) rfl ?_); refine box_event ?hg (N := 2) ?hd (cs := #[.string a0_0, .string a0_1, .bool true]) (t := 24) ?hr ?_; (case hd => rfl); (case hg => rfl); (case hr => first | (go_simp; done) | (go_simp; rfl)); intro gb265 hg w11 hbox hb; have BK265 := Aside0.mk (hbox); have GW265 := Aside0.mk ((by rw [hg]; exact (below_size (mvW HB.out)) : w.heap.size ≤ gb265)); have GE265 := Aside0.mk ((by rw [hg]; exact (below_size (mvW HB.out)) : w.heap.size ≤ gb265)); replace HB := Aside0.mk (below_step (mvW HB.out) hb); clear hb hbox hg; obtain ⟨Z12_0, Z12_1, Z12_2⟩ := bc3 BK265.out; obtain ⟨Y12_0, Y12_1, Y12_2⟩ := bf3 BK265.out) | ((with_reducible refine gate_callee (f := 47) rfl ?_); refine goesL_ (some 6) rfl rfl Try.func47 (by kernel_rfl) rfl #[.agg #[.string a0_0, .string a0_1, .bool true]] rfl (by (try simp only [List.map_toArray, List.map_cons, List.map_nil]); first | done | rfl | (simp only [List.length_drop, List.length_take]; rfl) | (simp only [*]; rfl)) ?_; (with_reducible refine (lockkeeperref03_Right.calls k a0_0 a0_1 true true _ A3.out).mono ?_); rintro e w13 ⟨rfl, hb⟩; refine ⟨_, rfl, ?_⟩; replace BK265 := Aside0.mk (blk_below (mvB BK265.out) hb); replace HB := Aside0.mk (below_step (mvW HB.out) hb); clear hb; obtain ⟨Z14_0, Z14_1, Z14_2⟩ := bc3 BK265.out; obtain ⟨Y14_0, Y14_1, Y14_2⟩ := bf3 BK265.out))); (go_ret); (exact ⟨by first | rfl | (simp [errW_none, errW_some] <;> rfl) | (simp [*, errW_none, errW_some] <;> rfl), by repeat (first | (with_reducible first | exact HB.out | apply below_alloc | apply pw_below_drewN | apply below_drew1 | refine below_set ?_ GE265.out) | exact HB.out)⟩)
      · (replace c10 := Bool.eq_false_iff.mpr c10); (subst c10); (have H1 : (some true) = some r := by rw [if_neg (show ¬ (false = true) by decide)] at H; exact H); (clear H); (have H := H1); (clear H1); (obtain rfl := Option.some.inj H); (go_enter Try.func48, Try.ntmps48); (go_wp2_with (first | ((with_reducible refine gate_dst (N := 2) rfl ?_); refine box_event ?hg (N := 2) ?hd (cs := #[.string a0_0, .string a0_1, .bool false]) (t := 24) ?hr ?_; (case hd => rfl); (case hg => rfl); (case hr => first | (go_simp; done) | (go_simp; rfl)); intro gb265 hg w15 hbox hb; have BK265 := Aside0.mk (hbox); have GW265 := Aside0.mk ((by rw [hg]; exact (below_size (mvW HB.out)) : w.heap.size ≤ gb265)); have GE265 := Aside0.mk ((by rw [hg]; exact (below_size (mvW HB.out)) : w.heap.size ≤ gb265)); replace HB := Aside0.mk (below_step (mvW HB.out) hb); clear hb hbox hg; obtain ⟨Z16_0, Z16_1, Z16_2⟩ := bc3 BK265.out; obtain ⟨Y16_0, Y16_1, Y16_2⟩ := bf3 BK265.out) | ((with_reducible refine gate_callee (f := 47) rfl ?_); refine goesL_ (some 6) rfl rfl Try.func47 (by kernel_rfl) rfl #[.agg #[.string a0_0, .string a0_1, .bool false]] rfl (by (try simp only [List.map_toArray, List.map_cons, List.map_nil]); first | done | rfl | (simp only [List.length_drop, List.length_take]; rfl) | (simp only [*]; rfl)) ?_; (with_reducible refine (lockkeeperref03_Right.calls k a0_0 a0_1 false true _ A3.out).mono ?_); rintro e w17 ⟨rfl, hb⟩; refine ⟨_, rfl, ?_⟩; replace BK265 := Aside0.mk (blk_below (mvB BK265.out) hb); replace HB := Aside0.mk (below_step (mvW HB.out) hb); clear hb; obtain ⟨Z18_0, Z18_1, Z18_2⟩ := bc3 BK265.out; obtain ⟨Y18_0, Y18_1, Y18_2⟩ := bf3 BK265.out))); (go_ret); (exact ⟨by first | rfl | (simp [errW_none, errW_some] <;> rfl) | (simp [*, errW_none, errW_some] <;> rfl), by repeat (first | (with_reducible first | exact HB.out | apply below_alloc | apply pw_below_drewN | apply below_drew1 | refine below_set ?_ GE265.out) | exact HB.out)⟩)
  · (replace c4 := Bool.eq_false_iff.mpr c4); (subst c4); (have H1 : (some false) = some r := by rw [if_neg (show ¬ (false = true) by decide)] at H; exact H); (clear H); (have H := H1); (clear H1); (obtain rfl := Option.some.inj H); (go_enter Try.func48, Try.ntmps48); (go_wp2_with (first | ((with_reducible refine gate_dst (N := 2) rfl ?_); refine box_event ?hg (N := 2) ?hd (cs := #[.string a0_0, .string a0_1, .bool a0_2]) (t := 24) ?hr ?_; (case hd => rfl); (case hg => rfl); (case hr => first | (go_simp; done) | (go_simp; rfl)); intro gb265 hg w19 hbox hb; have BK265 := Aside0.mk (hbox); have GW265 := Aside0.mk ((by rw [hg]; exact (below_size (mvW HB.out)) : w.heap.size ≤ gb265)); have GE265 := Aside0.mk ((by rw [hg]; exact (below_size (mvW HB.out)) : w.heap.size ≤ gb265)); replace HB := Aside0.mk (below_step (mvW HB.out) hb); clear hb hbox hg; obtain ⟨Z20_0, Z20_1, Z20_2⟩ := bc3 BK265.out; obtain ⟨Y20_0, Y20_1, Y20_2⟩ := bf3 BK265.out) | ((with_reducible refine gate_callee (f := 47) rfl ?_); refine goesL_ (some 6) rfl rfl Try.func47 (by kernel_rfl) rfl #[.agg #[.string a0_0, .string a0_1, .bool a0_2]] rfl (by (try simp only [List.map_toArray, List.map_cons, List.map_nil]); first | done | rfl | (simp only [List.length_drop, List.length_take]; rfl) | (simp only [*]; rfl)) ?_; (with_reducible refine (lockkeeperref03_Right.calls k a0_0 a0_1 a0_2 false _ A3.out).mono ?_); rintro e w21 ⟨rfl, hb⟩; refine ⟨_, rfl, ?_⟩; replace BK265 := Aside0.mk (blk_below (mvB BK265.out) hb); replace HB := Aside0.mk (below_step (mvW HB.out) hb); (try clear hb); (try clear hb2); (try clear hk); (try clear hi)))); (go_ret); (exact ⟨by first | rfl | (simp [errW_none, errW_some] <;> rfl) | (simp [*, errW_none, errW_some] <;> rfl), by repeat (first | (with_reducible first | exact HB.out | apply below_alloc | apply pw_below_drewN | apply below_drew1 | refine below_set ?_ GE265.out) | exact HB.out)⟩)

/-! ### lockkeeperref30_Do: function 17 -/
mutual
def lockkeeperref30_Do.j0 : Nat → List (S42) → List (S42) → Bool → Int → ByteArray → ByteArray → ByteArray → ByteArray → Bool → Int → Int → Int → Int → Int → Bool → ByteArray → Option ((List (S42)) × Int × Int × Int × Int × Bool × ByteArray × (List (S42)))
  | 0, _, _, _, _, _, _, _, _, _, _, _, _, _, _, _, _ => none
  | k + 1, x0, x7, x46, x268000, x268001, x268002, x268003, x268004, x268005, x268006, x270000, x270001, x270002, x270003, x270004, x270005 => if x46 = true then (some (x7, x270000, x270001, 3, x270003, x270004, x270005, ([] : List (S42)))) else (lockkeeperref30_Do.l0 k x0 x7 (-1) 0 x268000 x268001 x268002 x268003 x268004 x268005 x268006 x270000 x270001 x270002 x270003 x270004 x270005)
def lockkeeperref30_Do.l0 : Nat → List (S42) → List (S42) → Int → Int → Int → ByteArray → ByteArray → ByteArray → ByteArray → Bool → Int → Int → Int → Int → Int → Bool → ByteArray → Option ((List (S42)) × Int × Int × Int × Int × Bool × ByteArray × (List (S42)))
  | 0, _, _, _, _, _, _, _, _, _, _, _, _, _, _, _, _, _ => none
  | k + 1, x0, x7, x8, x9, x268000, x268001, x268002, x268003, x268004, x268005, x268006, x270000, x270001, x270002, x270003, x270004, x270005 => if x9 < (x0.length : Int) then (if 0 ≤ x9 then (if ((rd_T42 x0 x9).f0).toList = x268001.toList then (lockkeeperref30_Do.l0 k x0 x7 x9 (wrap64 (x9 + 1)) x268000 x268001 x268002 x268003 x268004 x268005 x268006 x270000 x270001 x270002 x270003 x270004 x270005) else (lockkeeperref30_Do.l0 k x0 x7 x8 (wrap64 (x9 + 1)) x268000 x268001 x268002 x268003 x268004 x268005 x268006 x270000 x270001 x270002 x270003 x270004 x270005)) else (none)) else (if x268000 = 2 then (if x8 ≥ 0 then (if 0 ≤ x8 then (if x8 < (x0.length : Int) then (some (x7, x270000, x270001, x270002, x270003, true, (rd_T42 x0 x8).f1, ([] : List (S42)))) else (none)) else (none)) else (some (x7, x270000, x270001, x270002, x270003, x270004, x270005, ([] : List (S42))))) else (if x268000 = 3 then (if x8 ≥ 0 then (some (x7, x270000, x270001, 8, x270003, x270004, x270005, ([] : List (S42)))) else ((lockkeeperref10_Put.f k x0 x268001 x268002).bind fun bt276 => (some (bt276.1, x270000, x270001, x270002, x270003, x270004, x270005, ([] : List (S42)))))) else (if x268000 = 4 then (lockkeeperref30_Do.j2 k x0 x7 x8 x268000 (x268000 == 4) x268000 x268001 x268002 x268003 x268004 x268005 x268006 x270000 x270001 x270002 x270003 x270004 x270005) else (lockkeeperref30_Do.j2 k x0 x7 x8 x268000 (x268000 == 5) x268000 x268001 x268002 x268003 x268004 x268005 x268006 x270000 x270001 x270002 x270003 x270004 x270005))))
def lockkeeperref30_Do.j2 : Nat → List (S42) → List (S42) → Int → Int → Bool → Int → ByteArray → ByteArray → ByteArray → ByteArray → Bool → Int → Int → Int → Int → Int → Bool → ByteArray → Option ((List (S42)) × Int × Int × Int × Int × Bool × ByteArray × (List (S42)))
  | 0, _, _, _, _, _, _, _, _, _, _, _, _, _, _, _, _, _, _ => none
  | k + 1, x0, x7, x8, x66, x96, x268000, x268001, x268002, x268003, x268004, x268005, x268006, x270000, x270001, x270002, x270003, x270004, x270005 => if x96 = true then (if x8 < 0 then (some (x7, x270000, x270001, 7, x270003, x270004, x270005, ([] : List (S42)))) else (if x268000 = 4 then (if 0 ≤ x8 then (if x8 < (x7.length : Int) then (some ((x7.set (x8 : Int).toNat (⟨(rd_T42 x7 x8).f0, x268002⟩ : S42)), x270000, x270001, x270002, x270003, x270004, x270005, ([] : List (S42)))) else (none)) else (none)) else ((lockkeeperref10_Delete.f k x0 x268001).bind fun bt281 => (some (bt281.1, x270000, x270001, x270002, x270003, x270004, x270005, ([] : List (S42))))))) else (if x66 = 6 then ((lockkeeperref03_Right.f k x268003 x268004 x268005).bind fun t285 => (if t285 = true then (lockkeeperref30_Do.j3 k x0 x7 (decide (x268006 < 1)) x268000 x268001 x268002 x268003 x268004 x268005 x268006 x270000 x270001 x270002 x270003 x270004 x270005) else (lockkeeperref30_Do.j3 k x0 x7 true x268000 x268001 x268002 x268003 x268004 x268005 x268006 x270000 x270001 x270002 x270003 x270004 x270005))) else (some (x7, x270000, x270001, 2, x270003, x270004, x270005, ([] : List (S42)))))
def lockkeeperref30_Do.j3 : Nat → List (S42) → List (S42) → Bool → Int → ByteArray → ByteArray → ByteArray → ByteArray → Bool → Int → Int → Int → Int → Int → Bool → ByteArray → Option ((List (S42)) × Int × Int × Int × Int × Bool × ByteArray × (List (S42)))
  | 0, _, _, _, _, _, _, _, _, _, _, _, _, _, _, _, _ => none
  | k + 1, x0, x7, x130, x268000, x268001, x268002, x268003, x268004, x268005, x268006, x270000, x270001, x270002, x270003, x270004, x270005 => if x130 = true then (some (x7, x270000, x270001, 2, x270003, x270004, x270005, ([] : List (S42)))) else (lockkeeperref30_Do.l1 k x0 x7 0 x268000 x268001 x268002 x268003 x268004 x268005 x268006 x270000 x270001 x270002 x270003 x270004 x270005 ([] : List (S42)))
def lockkeeperref30_Do.l1 : Nat → List (S42) → List (S42) → Int → Int → ByteArray → ByteArray → ByteArray → ByteArray → Bool → Int → Int → Int → Int → Int → Bool → ByteArray → List (S42) → Option ((List (S42)) × Int × Int × Int × Int × Bool × ByteArray × (List (S42)))
  | 0, _, _, _, _, _, _, _, _, _, _, _, _, _, _, _, _, _ => none
  | k + 1, x0, x7, x10, x268000, x268001, x268002, x268003, x268004, x268005, x268006, x270000, x270001, x270002, x270003, x270004, x270005, x270006 => if x10 < (x0.length : Int) then (if 0 ≤ x10 then ((lockkeeperref03_Has.f k x268003 x268004 x268005 ((rd_T42 x0 x10).f0)).bind fun t287 => (if t287 = true then (if (x270006.length : Int) = x268006 then (lockkeeperref30_Do.l1 k x0 x7 (wrap64 (x10 + 1)) x268000 x268001 x268002 x268003 x268004 x268005 x268006 x270000 x270001 x270002 x270003 true x270005 x270006) else (if x270006.length < 4398046511104 then (lockkeeperref30_Do.l1 k x0 x7 (wrap64 (x10 + 1)) x268000 x268001 x268002 x268003 x268004 x268005 x268006 x270000 x270001 x270002 x270003 x270004 x270005 (x270006 ++ [(⟨(rd_T42 x0 x10).f0, (rd_T42 x0 x10).f1⟩ : S42)])) else (none))) else (lockkeeperref30_Do.l1 k x0 x7 (wrap64 (x10 + 1)) x268000 x268001 x268002 x268003 x268004 x268005 x268006 x270000 x270001 x270002 x270003 x270004 x270005 x270006))) else (none)) else (some (x7, x270000, x270001, x270002, x270003, x270004, x270005, x270006))
end
def lockkeeperref30_Do.f (k : Nat) (l0 : List (S42)) (a1_0 : Int) (a1_1 : ByteArray) (a1_2 : ByteArray) (a1_3 : ByteArray) (a1_4 : ByteArray) (a1_5 : Bool) (a1_6 : Int) : Option ((List (S42)) × Int × Int × Int × Int × Bool × ByteArray × (List (S42))) := (lockkeeperref10_Right.f k l0).bind fun t270 => (if t270 = true then ((lockkeeperref10_Copy.f l0).bind fun t271 => (if a1_0 ≥ 2 then (if a1_0 ≤ 5 then (if (a1_1.size : Int) < 1 then (lockkeeperref30_Do.j0 k l0 t271 true a1_0 a1_1 a1_2 a1_3 a1_4 a1_5 a1_6 0 a1_0 0 0 false (⟨#[]⟩ : ByteArray)) else (if (a1_1.size : Int) > 512 then (lockkeeperref30_Do.j0 k l0 t271 true a1_0 a1_1 a1_2 a1_3 a1_4 a1_5 a1_6 0 a1_0 0 0 false (⟨#[]⟩ : ByteArray)) else (lockkeeperref30_Do.j0 k l0 t271 (decide ((a1_2.size : Int) > 2048)) a1_0 a1_1 a1_2 a1_3 a1_4 a1_5 a1_6 0 a1_0 0 0 false (⟨#[]⟩ : ByteArray)))) else (lockkeeperref30_Do.j0 k l0 t271 false a1_0 a1_1 a1_2 a1_3 a1_4 a1_5 a1_6 0 a1_0 0 0 false (⟨#[]⟩ : ByteArray))) else (lockkeeperref30_Do.j0 k l0 t271 false a1_0 a1_1 a1_2 a1_3 a1_4 a1_5 a1_6 0 a1_0 0 0 false (⟨#[]⟩ : ByteArray)))) else (some (([] : List (S42)), 0, a1_0, 100, 0, false, (⟨#[]⟩ : ByteArray), ([] : List (S42)))))
theorem lockkeeperref30_Do.mono_l : ∀ k, (∀ y0 y1 y2 y3 y4 y5 y6 y7 y8 y9 y10 y11 y12 y13 y14 y15, LeO (lockkeeperref30_Do.j0 k y0 y1 y2 y3 y4 y5 y6 y7 y8 y9 y10 y11 y12 y13 y14 y15) (lockkeeperref30_Do.j0 (k + 1) y0 y1 y2 y3 y4 y5 y6 y7 y8 y9 y10 y11 y12 y13 y14 y15)) ∧ (∀ y0 y1 y2 y3 y4 y5 y6 y7 y8 y9 y10 y11 y12 y13 y14 y15 y16, LeO (lockkeeperref30_Do.l0 k y0 y1 y2 y3 y4 y5 y6 y7 y8 y9 y10 y11 y12 y13 y14 y15 y16) (lockkeeperref30_Do.l0 (k + 1) y0 y1 y2 y3 y4 y5 y6 y7 y8 y9 y10 y11 y12 y13 y14 y15 y16)) ∧ (∀ y0 y1 y2 y3 y4 y5 y6 y7 y8 y9 y10 y11 y12 y13 y14 y15 y16 y17, LeO (lockkeeperref30_Do.j2 k y0 y1 y2 y3 y4 y5 y6 y7 y8 y9 y10 y11 y12 y13 y14 y15 y16 y17) (lockkeeperref30_Do.j2 (k + 1) y0 y1 y2 y3 y4 y5 y6 y7 y8 y9 y10 y11 y12 y13 y14 y15 y16 y17)) ∧ (∀ y0 y1 y2 y3 y4 y5 y6 y7 y8 y9 y10 y11 y12 y13 y14 y15, LeO (lockkeeperref30_Do.j3 k y0 y1 y2 y3 y4 y5 y6 y7 y8 y9 y10 y11 y12 y13 y14 y15) (lockkeeperref30_Do.j3 (k + 1) y0 y1 y2 y3 y4 y5 y6 y7 y8 y9 y10 y11 y12 y13 y14 y15)) ∧ (∀ y0 y1 y2 y3 y4 y5 y6 y7 y8 y9 y10 y11 y12 y13 y14 y15 y16, LeO (lockkeeperref30_Do.l1 k y0 y1 y2 y3 y4 y5 y6 y7 y8 y9 y10 y11 y12 y13 y14 y15 y16) (lockkeeperref30_Do.l1 (k + 1) y0 y1 y2 y3 y4 y5 y6 y7 y8 y9 y10 y11 y12 y13 y14 y15 y16))
  | 0 => ⟨fun _ _ _ _ _ _ _ _ _ _ _ _ _ _ _ _ r h => by simp [lockkeeperref30_Do.j0] at h, fun _ _ _ _ _ _ _ _ _ _ _ _ _ _ _ _ _ r h => by simp [lockkeeperref30_Do.l0] at h, fun _ _ _ _ _ _ _ _ _ _ _ _ _ _ _ _ _ _ r h => by simp [lockkeeperref30_Do.j2] at h, fun _ _ _ _ _ _ _ _ _ _ _ _ _ _ _ _ r h => by simp [lockkeeperref30_Do.j3] at h, fun _ _ _ _ _ _ _ _ _ _ _ _ _ _ _ _ _ r h => by simp [lockkeeperref30_Do.l1] at h⟩
  | k + 1 => by
    obtain ⟨ih0, ih1, ih2, ih3, ih4⟩ := lockkeeperref30_Do.mono_l k
    refine ⟨?_, ?_, ?_, ?_, ?_⟩
    · intro y0 y1 y2 y3 y4 y5 y6 y7 y8 y9 y10 y11 y12 y13 y14 y15
      unfold lockkeeperref30_Do.j0
      repeat' first
      | (with_reducible exact ih0 _ _ _ _ _ _ _ _ _ _ _ _ _ _ _ _)
      | (with_reducible exact ih1 _ _ _ _ _ _ _ _ _ _ _ _ _ _ _ _ _)
      | (with_reducible exact ih2 _ _ _ _ _ _ _ _ _ _ _ _ _ _ _ _ _ _)
      | (with_reducible exact ih3 _ _ _ _ _ _ _ _ _ _ _ _ _ _ _ _)
      | (with_reducible exact ih4 _ _ _ _ _ _ _ _ _ _ _ _ _ _ _ _ _)
      | (with_reducible exact lockkeeperref03_Has.mono _ _ _ _ _)
      | (with_reducible exact lockkeeperref03_Right.mono _ _ _ _)
      | (with_reducible exact lockkeeperref10_Delete.mono _ _ _)
      | (with_reducible exact lockkeeperref10_Put.mono _ _ _ _)
      | (with_reducible exact lockkeeperref10_Right.mono _ _)
      | (with_reducible exact LeO.refl _)
      | (with_reducible exact LeO.none _)
      | (with_reducible refine LeO.ite ?_ ?_)
      | (with_reducible refine LeO.bind ?_ (fun _ => ?_))
      | exact ih0 _ _ _ _ _ _ _ _ _ _ _ _ _ _ _ _
      | exact ih1 _ _ _ _ _ _ _ _ _ _ _ _ _ _ _ _ _
      | exact ih2 _ _ _ _ _ _ _ _ _ _ _ _ _ _ _ _ _ _
      | exact ih3 _ _ _ _ _ _ _ _ _ _ _ _ _ _ _ _
      | exact ih4 _ _ _ _ _ _ _ _ _ _ _ _ _ _ _ _ _
      | exact lockkeeperref03_Has.mono _ _ _ _ _
      | exact lockkeeperref03_Right.mono _ _ _ _
      | exact lockkeeperref10_Delete.mono _ _ _
      | exact lockkeeperref10_Put.mono _ _ _ _
      | exact lockkeeperref10_Right.mono _ _
      | exact LeO.none _
      | refine LeO.ite ?_ ?_
      | refine LeO.bind ?_ (fun _ => ?_)
    · intro y0 y1 y2 y3 y4 y5 y6 y7 y8 y9 y10 y11 y12 y13 y14 y15 y16
      unfold lockkeeperref30_Do.l0
      repeat' first
      | (with_reducible exact ih0 _ _ _ _ _ _ _ _ _ _ _ _ _ _ _ _)
      | (with_reducible exact ih1 _ _ _ _ _ _ _ _ _ _ _ _ _ _ _ _ _)
      | (with_reducible exact ih2 _ _ _ _ _ _ _ _ _ _ _ _ _ _ _ _ _ _)
      | (with_reducible exact ih3 _ _ _ _ _ _ _ _ _ _ _ _ _ _ _ _)
      | (with_reducible exact ih4 _ _ _ _ _ _ _ _ _ _ _ _ _ _ _ _ _)
      | (with_reducible exact lockkeeperref03_Has.mono _ _ _ _ _)
      | (with_reducible exact lockkeeperref03_Right.mono _ _ _ _)
      | (with_reducible exact lockkeeperref10_Delete.mono _ _ _)
      | (with_reducible exact lockkeeperref10_Put.mono _ _ _ _)
      | (with_reducible exact lockkeeperref10_Right.mono _ _)
      | (with_reducible exact LeO.refl _)
      | (with_reducible exact LeO.none _)
      | (with_reducible refine LeO.ite ?_ ?_)
      | (with_reducible refine LeO.bind ?_ (fun _ => ?_))
      | exact ih0 _ _ _ _ _ _ _ _ _ _ _ _ _ _ _ _
      | exact ih1 _ _ _ _ _ _ _ _ _ _ _ _ _ _ _ _ _
      | exact ih2 _ _ _ _ _ _ _ _ _ _ _ _ _ _ _ _ _ _
      | exact ih3 _ _ _ _ _ _ _ _ _ _ _ _ _ _ _ _
      | exact ih4 _ _ _ _ _ _ _ _ _ _ _ _ _ _ _ _ _
      | exact lockkeeperref03_Has.mono _ _ _ _ _
      | exact lockkeeperref03_Right.mono _ _ _ _
      | exact lockkeeperref10_Delete.mono _ _ _
      | exact lockkeeperref10_Put.mono _ _ _ _
      | exact lockkeeperref10_Right.mono _ _
      | exact LeO.none _
      | refine LeO.ite ?_ ?_
      | refine LeO.bind ?_ (fun _ => ?_)
    · intro y0 y1 y2 y3 y4 y5 y6 y7 y8 y9 y10 y11 y12 y13 y14 y15 y16 y17
      unfold lockkeeperref30_Do.j2
      repeat' first
      | (with_reducible exact ih0 _ _ _ _ _ _ _ _ _ _ _ _ _ _ _ _)
      | (with_reducible exact ih1 _ _ _ _ _ _ _ _ _ _ _ _ _ _ _ _ _)
      | (with_reducible exact ih2 _ _ _ _ _ _ _ _ _ _ _ _ _ _ _ _ _ _)
      | (with_reducible exact ih3 _ _ _ _ _ _ _ _ _ _ _ _ _ _ _ _)
      | (with_reducible exact ih4 _ _ _ _ _ _ _ _ _ _ _ _ _ _ _ _ _)
      | (with_reducible exact lockkeeperref03_Has.mono _ _ _ _ _)
      | (with_reducible exact lockkeeperref03_Right.mono _ _ _ _)
      | (with_reducible exact lockkeeperref10_Delete.mono _ _ _)
      | (with_reducible exact lockkeeperref10_Put.mono _ _ _ _)
      | (with_reducible exact lockkeeperref10_Right.mono _ _)
      | (with_reducible exact LeO.refl _)
      | (with_reducible exact LeO.none _)
      | (with_reducible refine LeO.ite ?_ ?_)
      | (with_reducible refine LeO.bind ?_ (fun _ => ?_))
      | exact ih0 _ _ _ _ _ _ _ _ _ _ _ _ _ _ _ _
      | exact ih1 _ _ _ _ _ _ _ _ _ _ _ _ _ _ _ _ _
      | exact ih2 _ _ _ _ _ _ _ _ _ _ _ _ _ _ _ _ _ _
      | exact ih3 _ _ _ _ _ _ _ _ _ _ _ _ _ _ _ _
      | exact ih4 _ _ _ _ _ _ _ _ _ _ _ _ _ _ _ _ _
      | exact lockkeeperref03_Has.mono _ _ _ _ _
      | exact lockkeeperref03_Right.mono _ _ _ _
      | exact lockkeeperref10_Delete.mono _ _ _
      | exact lockkeeperref10_Put.mono _ _ _ _
      | exact lockkeeperref10_Right.mono _ _
      | exact LeO.none _
      | refine LeO.ite ?_ ?_
      | refine LeO.bind ?_ (fun _ => ?_)
    · intro y0 y1 y2 y3 y4 y5 y6 y7 y8 y9 y10 y11 y12 y13 y14 y15
      unfold lockkeeperref30_Do.j3
      repeat' first
      | (with_reducible exact ih0 _ _ _ _ _ _ _ _ _ _ _ _ _ _ _ _)
      | (with_reducible exact ih1 _ _ _ _ _ _ _ _ _ _ _ _ _ _ _ _ _)
      | (with_reducible exact ih2 _ _ _ _ _ _ _ _ _ _ _ _ _ _ _ _ _ _)
      | (with_reducible exact ih3 _ _ _ _ _ _ _ _ _ _ _ _ _ _ _ _)
      | (with_reducible exact ih4 _ _ _ _ _ _ _ _ _ _ _ _ _ _ _ _ _)
      | (with_reducible exact lockkeeperref03_Has.mono _ _ _ _ _)
      | (with_reducible exact lockkeeperref03_Right.mono _ _ _ _)
      | (with_reducible exact lockkeeperref10_Delete.mono _ _ _)
      | (with_reducible exact lockkeeperref10_Put.mono _ _ _ _)
      | (with_reducible exact lockkeeperref10_Right.mono _ _)
      | (with_reducible exact LeO.refl _)
      | (with_reducible exact LeO.none _)
      | (with_reducible refine LeO.ite ?_ ?_)
      | (with_reducible refine LeO.bind ?_ (fun _ => ?_))
      | exact ih0 _ _ _ _ _ _ _ _ _ _ _ _ _ _ _ _
      | exact ih1 _ _ _ _ _ _ _ _ _ _ _ _ _ _ _ _ _
      | exact ih2 _ _ _ _ _ _ _ _ _ _ _ _ _ _ _ _ _ _
      | exact ih3 _ _ _ _ _ _ _ _ _ _ _ _ _ _ _ _
      | exact ih4 _ _ _ _ _ _ _ _ _ _ _ _ _ _ _ _ _
      | exact lockkeeperref03_Has.mono _ _ _ _ _
      | exact lockkeeperref03_Right.mono _ _ _ _
      | exact lockkeeperref10_Delete.mono _ _ _
      | exact lockkeeperref10_Put.mono _ _ _ _
      | exact lockkeeperref10_Right.mono _ _
      | exact LeO.none _
      | refine LeO.ite ?_ ?_
      | refine LeO.bind ?_ (fun _ => ?_)
    · intro y0 y1 y2 y3 y4 y5 y6 y7 y8 y9 y10 y11 y12 y13 y14 y15 y16
      unfold lockkeeperref30_Do.l1
      repeat' first
      | (with_reducible exact ih0 _ _ _ _ _ _ _ _ _ _ _ _ _ _ _ _)
      | (with_reducible exact ih1 _ _ _ _ _ _ _ _ _ _ _ _ _ _ _ _ _)
      | (with_reducible exact ih2 _ _ _ _ _ _ _ _ _ _ _ _ _ _ _ _ _ _)
      | (with_reducible exact ih3 _ _ _ _ _ _ _ _ _ _ _ _ _ _ _ _)
      | (with_reducible exact ih4 _ _ _ _ _ _ _ _ _ _ _ _ _ _ _ _ _)
      | (with_reducible exact lockkeeperref03_Has.mono _ _ _ _ _)
      | (with_reducible exact lockkeeperref03_Right.mono _ _ _ _)
      | (with_reducible exact lockkeeperref10_Delete.mono _ _ _)
      | (with_reducible exact lockkeeperref10_Put.mono _ _ _ _)
      | (with_reducible exact lockkeeperref10_Right.mono _ _)
      | (with_reducible exact LeO.refl _)
      | (with_reducible exact LeO.none _)
      | (with_reducible refine LeO.ite ?_ ?_)
      | (with_reducible refine LeO.bind ?_ (fun _ => ?_))
      | exact ih0 _ _ _ _ _ _ _ _ _ _ _ _ _ _ _ _
      | exact ih1 _ _ _ _ _ _ _ _ _ _ _ _ _ _ _ _ _
      | exact ih2 _ _ _ _ _ _ _ _ _ _ _ _ _ _ _ _ _ _
      | exact ih3 _ _ _ _ _ _ _ _ _ _ _ _ _ _ _ _
      | exact ih4 _ _ _ _ _ _ _ _ _ _ _ _ _ _ _ _ _
      | exact lockkeeperref03_Has.mono _ _ _ _ _
      | exact lockkeeperref03_Right.mono _ _ _ _
      | exact lockkeeperref10_Delete.mono _ _ _
      | exact lockkeeperref10_Put.mono _ _ _ _
      | exact lockkeeperref10_Right.mono _ _
      | exact LeO.none _
      | refine LeO.ite ?_ ?_
      | refine LeO.bind ?_ (fun _ => ?_)
theorem lockkeeperref30_Do.mono : ∀ a0 a1 a2 a3 a4 a5 a6 a7 k, LeO (lockkeeperref30_Do.f k a0 a1 a2 a3 a4 a5 a6 a7) (lockkeeperref30_Do.f (k + 1) a0 a1 a2 a3 a4 a5 a6 a7) := by
  intro a0 a1 a2 a3 a4 a5 a6 a7 k
  obtain ⟨ih0, ih1, ih2, ih3, ih4⟩ := lockkeeperref30_Do.mono_l k
  unfold lockkeeperref30_Do.f
  repeat' first
      | (with_reducible exact ih0 _ _ _ _ _ _ _ _ _ _ _ _ _ _ _ _)
      | (with_reducible exact ih1 _ _ _ _ _ _ _ _ _ _ _ _ _ _ _ _ _)
      | (with_reducible exact ih2 _ _ _ _ _ _ _ _ _ _ _ _ _ _ _ _ _ _)
      | (with_reducible exact ih3 _ _ _ _ _ _ _ _ _ _ _ _ _ _ _ _)
      | (with_reducible exact ih4 _ _ _ _ _ _ _ _ _ _ _ _ _ _ _ _ _)
      | (with_reducible exact lockkeeperref03_Has.mono _ _ _ _ _)
      | (with_reducible exact lockkeeperref03_Right.mono _ _ _ _)
      | (with_reducible exact lockkeeperref10_Delete.mono _ _ _)
      | (with_reducible exact lockkeeperref10_Put.mono _ _ _ _)
      | (with_reducible exact lockkeeperref10_Right.mono _ _)
      | (with_reducible exact LeO.refl _)
      | (with_reducible exact LeO.none _)
      | (with_reducible refine LeO.ite ?_ ?_)
      | (with_reducible refine LeO.bind ?_ (fun _ => ?_))
      | exact ih0 _ _ _ _ _ _ _ _ _ _ _ _ _ _ _ _
      | exact ih1 _ _ _ _ _ _ _ _ _ _ _ _ _ _ _ _ _
      | exact ih2 _ _ _ _ _ _ _ _ _ _ _ _ _ _ _ _ _ _
      | exact ih3 _ _ _ _ _ _ _ _ _ _ _ _ _ _ _ _
      | exact ih4 _ _ _ _ _ _ _ _ _ _ _ _ _ _ _ _ _
      | exact lockkeeperref03_Has.mono _ _ _ _ _
      | exact lockkeeperref03_Right.mono _ _ _ _
      | exact lockkeeperref10_Delete.mono _ _ _
      | exact lockkeeperref10_Put.mono _ _ _ _
      | exact lockkeeperref10_Right.mono _ _
      | exact LeO.none _
      | refine LeO.ite ?_ ?_
      | refine LeO.bind ?_ (fun _ => ?_)

end Go.Proofs.Ytoggblomknemoaa.D
