-- PRINTED by print.py (a twelfth state) out of the translation. Not trusted: Lean checks it.
import Derived.Test.YtoggblomknemoaaMv
import Derived.Test.YtoggblomknemoaaMx0
import Derived.Test.YtoggblomknemoaaMx1
import Derived.Test.YtoggblomknemoaaMx4
import Derived.Test.YtoggblomknemoaaMx5
namespace Go.Proofs.Ytoggblomknemoaa.M
open Go.RowKit Go.Proofs.YtoggblomknemoaaW Go.Proofs.YtoggblomknemoaaW.PrintWords Go.Proofs.YtoggblomknemoaaW.PrintLast Go.Proofs.YtoggblomknemoaaW.PrintMore
attribute [local go_sem] GpMore.bytes_le max2_int min2_int max_two min_two max_three min_three max_four min_four   -- for this text's walks alone
set_option linter.unusedVariables false
set_option linter.unusedSimpArgs false

/-! ### lockkeeperref10_Find: function 14 -/
mutual
def lockkeeperref10_Find.l0 : Nat → List (S42) → ByteArray → Int → Option (ByteArray × Bool)
  | 0, _, _, _ => none
  | k + 1, x0, x1, x6 => if x6 < (x0.length : Int) then ((lockkeeperref10_Right.f k x0).bind fun t239 => (lockkeeperref10_Find.j1 k x0 x1 x6 t239)) else (lockkeeperref10_Find.j1 k x0 x1 x6 false)
def lockkeeperref10_Find.j1 : Nat → List (S42) → ByteArray → Int → Bool → Option (ByteArray × Bool)
  | 0, _, _, _, _ => none
  | k + 1, x0, x1, x6, x14 => if x14 = true then (if 0 ≤ x6 then (if x6 < (x0.length : Int) then (if ((rd_T42 x0 x6).f0).toList = x1.toList then (some ((rd_T42 x0 x6).f1, true)) else (lockkeeperref10_Find.l0 k x0 x1 (wrap64 (x6 + 1)))) else (none)) else (none)) else (some ((⟨#[]⟩ : ByteArray), false))
end
def lockkeeperref10_Find.f (k : Nat) (l0 : List (S42)) (a1 : ByteArray) : Option (ByteArray × Bool) := lockkeeperref10_Find.l0 k l0 a1 0
theorem lockkeeperref10_Find.mono_l : ∀ k, (∀ y0 y1 y2, LeO (lockkeeperref10_Find.l0 k y0 y1 y2) (lockkeeperref10_Find.l0 (k + 1) y0 y1 y2)) ∧ (∀ y0 y1 y2 y3, LeO (lockkeeperref10_Find.j1 k y0 y1 y2 y3) (lockkeeperref10_Find.j1 (k + 1) y0 y1 y2 y3))
  | 0 => ⟨fun _ _ _ r h => by simp [lockkeeperref10_Find.l0] at h, fun _ _ _ _ r h => by simp [lockkeeperref10_Find.j1] at h⟩
  | k + 1 => by
    obtain ⟨ih0, ih1⟩ := lockkeeperref10_Find.mono_l k
    refine ⟨?_, ?_⟩
    · intro y0 y1 y2
      unfold lockkeeperref10_Find.l0
      repeat' first
      | (with_reducible exact ih0 _ _ _)
      | (with_reducible exact ih1 _ _ _ _)
      | (with_reducible exact lockkeeperref10_Right.mono _ _)
      | (with_reducible exact LeO.refl _)
      | (with_reducible exact LeO.none _)
      | (with_reducible refine LeO.ite ?_ ?_)
      | (with_reducible refine LeO.bind ?_ (fun _ => ?_))
      | exact ih0 _ _ _
      | exact ih1 _ _ _ _
      | exact lockkeeperref10_Right.mono _ _
      | exact LeO.none _
      | refine LeO.ite ?_ ?_
      | refine LeO.bind ?_ (fun _ => ?_)
    · intro y0 y1 y2 y3
      unfold lockkeeperref10_Find.j1
      repeat' first
      | (with_reducible exact ih0 _ _ _)
      | (with_reducible exact ih1 _ _ _ _)
      | (with_reducible exact lockkeeperref10_Right.mono _ _)
      | (with_reducible exact LeO.refl _)
      | (with_reducible exact LeO.none _)
      | (with_reducible refine LeO.ite ?_ ?_)
      | (with_reducible refine LeO.bind ?_ (fun _ => ?_))
      | exact ih0 _ _ _
      | exact ih1 _ _ _ _
      | exact lockkeeperref10_Right.mono _ _
      | exact LeO.none _
      | refine LeO.ite ?_ ?_
      | refine LeO.bind ?_ (fun _ => ?_)
theorem lockkeeperref10_Find.mono : ∀ a0 a1 k, LeO (lockkeeperref10_Find.f k a0 a1) (lockkeeperref10_Find.f (k + 1) a0 a1) := by
  intro a0 a1 k
  obtain ⟨ih0, ih1⟩ := lockkeeperref10_Find.mono_l k
  unfold lockkeeperref10_Find.f
  repeat' first
      | (with_reducible exact ih0 _ _ _)
      | (with_reducible exact ih1 _ _ _ _)
      | (with_reducible exact lockkeeperref10_Right.mono _ _)
      | (with_reducible exact LeO.refl _)
      | (with_reducible exact LeO.none _)
      | (with_reducible refine LeO.ite ?_ ?_)
      | (with_reducible refine LeO.bind ?_ (fun _ => ?_))
      | exact ih0 _ _ _
      | exact ih1 _ _ _ _
      | exact lockkeeperref10_Right.mono _ _
      | exact LeO.none _
      | refine LeO.ite ?_ ?_
      | refine LeO.bind ?_ (fun _ => ?_)
set_option maxHeartbeats 8000000 in
set_option maxRecDepth 100000 in
theorem lockkeeperref10_Find.calls (k : Nat) (A0 : Option Addr) (c0 : Nat) (l0 : List (S42)) (a1 : ByteArray) (r1 : ByteArray) (r2 : Bool) (w : World) (hr0 : Kd.C k42 w A0 l0.length l0) (hc0 : l0.length ≤ c0) (h : lockkeeperref10_Find.f k l0 a1 = some (r1, r2)) :
    Calls Try.prog 14 #[.slice A0 l0.length c0, .string a1] w fun e w' => e = .returned (.tuple #[.string r1, .bool r2]) ∧ Below w.heap.size w w' := by
  (have HR0 := Aside0.mk hr0); (have HC0 := Aside0.mk hc0); (clear hr0 hc0); (have HB := Aside0.mk (Below.refl w.heap.size w)); (have H : (lockkeeperref10_Find.l0 k l0 a1 0) = some (r1, r2) := h); (clear h); (have H' := Aside0.mk H); (clear H); (go_enter Try.func14, Try.ntmps14); (go_wp2); (go_loopg [6] k (fun kq v6 w' => ∃ (x6_1 : Int), v6 = .int .i64 x6_1 ∧ Aside0 (lockkeeperref10_Find.l0 kq l0 a1 x6_1 = some (r1, r2)) ∧ Aside0 (kq ≤ k) ∧ Aside0 (Below w.heap.size w w')))
  case atStart => exact ⟨(0), (by first | rfl | (simp; done) | (simp [*]; done)), H', ⟨Nat.le_refl _⟩, ⟨mvW HB.out⟩⟩
  case round =>
    (clear H'); (try clear c1); (try clear p2); (obtain ⟨x6_1, rfl, HA, HK1, HB⟩ := hrel)
    cases gk with
    | zero => exact absurd HA.out (by simp [lockkeeperref10_Find.l0])
    | succ k1 =>
      (have H := HA.out); (clear HA); (simp only [lockkeeperref10_Find.l0] at H); (have HC3 := Aside0.mk H); (clear H); (go_upto_region 2 with (fail)); (go_cut [14] (fun v14 wc => ∃ (kq : Nat) (x14_2 : Bool), v14 = .bool x14_2 ∧ Aside0 (lockkeeperref10_Find.j1 kq l0 a1 x6_1 x14_2 = some (r1, r2)) ∧ Aside0 (kq ≤ k1) ∧ Aside0 (Below w.heap.size w wc)))
      case first =>
        (have H := HC3.out); (clear HC3); (by_cases c4 : x6_1 < (l0.length : Int))
        · (rw [if_pos c4] at H); (have c4b0 : decide (x6_1 < (l0.length : Int)) = true := decide_eq_true c4); (clear c4); ((first | rw [c4b0] | (simp only [i64_w, i32_w]; rw [c4b0]) | skip)); (replace H := Option.bind_eq_some_iff.mp H); (obtain ⟨t239, A50, H⟩ := H); (replace H : (lockkeeperref10_Find.j1 k1 l0 a1 x6_1 t239) = some (r1, r2) := H); (have A5 := Aside0.mk A50); (clear A50); (have H' := Aside0.mk H); (clear H); (go_wp2_with (first | (go_at_call 10; (with_reducible refine (lockkeeperref10_Right.calls k1 _ _ l0 t239 _ ?side1 ?side2 A5.out).mono ?_); (case side1 => repeat (first | exact (Kd.C_below HR0.out HB.out) | (with_reducible refine Kd.C_alloc ?_ _) | (with_reducible refine Kd.C_drewN ?_ _) | (with_reducible refine Kd.C_drew ?_))); (case side2 => exact HC0.out); rintro e w6 ⟨rfl, hb⟩; replace HB := Aside0.mk (below_step (mvW HB.out) hb); (try clear hb); (try clear hb2); (try clear hk); (try clear hi)))); (go_meet)
          case rel => exact ⟨_, (t239), (by first | rfl | (simp; done) | (simp [*]; done)), H', ⟨by have := HK1.out; first | omega | exact Nat.le_refl _⟩, ⟨mvW HB.out⟩⟩
        · (rw [if_neg c4] at H); (have c4b0 : decide (x6_1 < (l0.length : Int)) = false := decide_eq_false c4); (clear c4); ((first | rw [c4b0] | (simp only [i64_w, i32_w]; rw [c4b0]) | skip)); (have H' := Aside0.mk H); (clear H); (go_wp2); (go_meet)
          case rel => exact ⟨_, (false), (by first | rfl | (simp; done) | (simp [*]; done)), H', ⟨by have := HK1.out; first | omega | exact Nat.le_refl _⟩, ⟨mvW HB.out⟩⟩
      case rest =>
        (clear HC3); (try clear c1); (try clear p2); (try clear c4); (try clear c4b0); (try clear p2); (obtain ⟨kq, x14_2, rfl, HA, HJ2, HB⟩ := hcut)
        cases kq with
        | zero => exact absurd HA.out (by simp [lockkeeperref10_Find.j1])
        | succ kj2 =>
          (have H := HA.out); (clear HA); (simp only [lockkeeperref10_Find.j1] at H); (by_cases c7 : x14_2 = true)
          · (subst c7); (have H1 : (if 0 ≤ x6_1 then (if x6_1 < (l0.length : Int) then (if ((rd_T42 l0 x6_1).f0).toList = a1.toList then (some ((rd_T42 l0 x6_1).f1, true)) else (lockkeeperref10_Find.l0 kj2 l0 a1 (wrap64 (x6_1 + 1)))) else (none)) else (none)) = some (r1, r2) := by rw [if_pos rfl] at H; exact H); (clear H); (have H := H1); (clear H1); (by_cases c8 : 0 ≤ x6_1)
            · (rw [if_pos c8] at H); (have c8b0 : decide (0 ≤ x6_1) = true := decide_eq_true c8); (clear c8); (by_cases c9 : x6_1 < (l0.length : Int))
              · (rw [if_pos c9] at H); (have c9b0 : decide (x6_1 < (l0.length : Int)) = true := decide_eq_true c9); (clear c9); (by_cases c10 : ((rd_T42 l0 x6_1).f0).toList = a1.toList)
                · (rw [if_pos c10] at H); (have c10b0 : (((rd_T42 l0 x6_1).f0).toList == a1.toList) = true := beq_iff_eq.mpr c10); (have c10b1 : (((rd_T42 l0 x6_1).f0).toList != a1.toList) = false := bne_eq_false_iff_eq.mpr c10); (clear c10); (simp only [Option.some.injEq, Prod.mk.injEq] at H); (obtain ⟨rfl, rfl⟩ := H); (have p240 : 0 ≤ (x6_1 : Int) := of_decide_eq_true (by first | (with_reducible assumption) | assumption)); (have q240 : x6_1 < (l0.length : Int) := of_decide_eq_true (by first | (with_reducible assumption) | assumption)); (obtain ⟨ad240, e240, hx240_0, hx240_1⟩ := at_T42 HR0.out x6_1 p240 q240); (cases e240); (replace hx240_0 := (HB.out.cell (World.block_lt_of_cell? w _ hx240_0)).trans hx240_0); (replace hx240_1 := (HB.out.cell (World.block_lt_of_cell? w _ hx240_1)).trans hx240_1); (replace p240 := eq_true p240); (replace q240 := eq_true q240); (have p241 : 0 ≤ (x6_1 : Int) := of_decide_eq_true (by first | (with_reducible assumption) | assumption)); (have q241 : x6_1 < (l0.length : Int) := of_decide_eq_true (by first | (with_reducible assumption) | assumption)); (obtain ⟨ad241, e241, hx241_0, hx241_1⟩ := at_T42 HR0.out x6_1 p241 q241); (obtain rfl : ad240 = ad241 := (by injection e241)); (replace hx241_0 := (HB.out.cell (World.block_lt_of_cell? w _ hx241_0)).trans hx241_0); (replace hx241_1 := (HB.out.cell (World.block_lt_of_cell? w _ hx241_1)).trans hx241_1); (replace p241 := eq_true p241); (replace q241 := eq_true q241); (go_wp2); (go_ret2); (exact ⟨by first | rfl | (simp [errW_none, errW_some] <;> rfl) | (simp [*, errW_none, errW_some] <;> rfl), by repeat (first | (with_reducible first | exact HB.out | apply below_alloc | apply pw_below_drewN | apply below_drew1) | exact HB.out)⟩)
                · (rw [if_neg c10] at H); (have c10b0 : (((rd_T42 l0 x6_1).f0).toList == a1.toList) = false := beq_eq_false_iff_ne.mpr c10); (have c10b1 : (((rd_T42 l0 x6_1).f0).toList != a1.toList) = true := bne_iff_ne.mpr c10); (have H' := Aside0.mk H); (clear H); (have p240 : 0 ≤ (x6_1 : Int) := of_decide_eq_true (by first | (with_reducible assumption) | assumption)); (have q240 : x6_1 < (l0.length : Int) := of_decide_eq_true (by first | (with_reducible assumption) | assumption)); (obtain ⟨ad240, e240, hx240_0, hx240_1⟩ := at_T42 HR0.out x6_1 p240 q240); (cases e240); (replace hx240_0 := (HB.out.cell (World.block_lt_of_cell? w _ hx240_0)).trans hx240_0); (replace hx240_1 := (HB.out.cell (World.block_lt_of_cell? w _ hx240_1)).trans hx240_1); (replace p240 := eq_true p240); (replace q240 := eq_true q240); (go_wp2); (go_roundg kj2)
                  case measure => have := HK1.out; have := HJ2.out; omega
                  case rel => exact ⟨(wrap64 (x6_1 + 1)), (by first | rfl | (simp; done) | (simp [*]; done)), H', ⟨by have := HK1.out; have := HJ2.out; omega⟩, ⟨mvW HB.out⟩⟩
              · (rw [if_neg c9] at H); (exact absurd H (by simp))
            · (rw [if_neg c8] at H); (exact absurd H (by simp))
          · (replace c7 := Bool.eq_false_iff.mpr c7); (subst c7); (have H1 : (some ((⟨#[]⟩ : ByteArray), false)) = some (r1, r2) := by rw [if_neg (show ¬ (false = true) by decide)] at H; exact H); (clear H); (have H := H1); (clear H1); (simp only [Option.some.injEq, Prod.mk.injEq] at H); (obtain ⟨rfl, rfl⟩ := H); (go_wp2); (go_ret2); (exact ⟨by first | rfl | (simp [errW_none, errW_some] <;> rfl) | (simp [*, errW_none, errW_some] <;> rfl), by repeat (first | (with_reducible first | exact HB.out | apply below_alloc | apply pw_below_drewN | apply below_drew1) | exact HB.out)⟩)

/-! ### lockkeeperref03_Point: function 15 -/
def lockkeeperref03_Point.f (a0 : ByteArray) : Option (ByteArray × ByteArray × Bool) := if (a0.size : Int) > 512 then (some ((⟨#[]⟩ : ByteArray), (⟨#[]⟩ : ByteArray), false)) else (if a0.size + 1 ≤ 9223372036854775807 then (some (a0, a0 ++ (⟨#[0]⟩ : ByteArray), true)) else (none))
set_option maxHeartbeats 8000000 in
set_option maxRecDepth 100000 in
theorem lockkeeperref03_Point.calls (a0 : ByteArray) (r1 : ByteArray) (r2 : ByteArray) (r3 : Bool) (w : World) (h : lockkeeperref03_Point.f a0 = some (r1, r2, r3)) :
    Calls Try.prog 15 #[.string a0] w fun e w' => e = .returned (.agg #[.string r1, .string r2, .bool r3]) ∧ Below w.heap.size w w' := by
  (have hu24 := Try.underlying24); (have HB := Aside0.mk (Below.refl w.heap.size w)); (have H : (if (a0.size : Int) > 512 then (some ((⟨#[]⟩ : ByteArray), (⟨#[]⟩ : ByteArray), false)) else (if a0.size + 1 ≤ 9223372036854775807 then (some (a0, a0 ++ (⟨#[0]⟩ : ByteArray), true)) else (none))) = some (r1, r2, r3) := h); (clear h); (by_cases c2 : (a0.size : Int) > 512)
  · (rw [if_pos c2] at H); (have c2b0 : decide (512 < (a0.size : Int)) = true := decide_eq_true c2); (have c2b1 : decide (512 < a0.size) = true := decide_eq_true (by omega)); (clear c2); (simp only [Option.some.injEq, Prod.mk.injEq] at H); (obtain ⟨rfl, rfl, rfl⟩ := H); (go_enter Try.func15, Try.ntmps15); (go_wp2_with (first | ((with_reducible refine gate_dst (N := 2) rfl ?_); refine box_event ?hg (N := 2) ?hd (cs := #[.string (⟨#[]⟩ : ByteArray), .string (⟨#[]⟩ : ByteArray), .bool false]) (t := 24) ?hr ?_; (case hd => rfl); (case hg => rfl); (case hr => first | (go_simp; done) | (go_simp; rfl)); intro gb242 hg w3 hbox hb; have BK242 := Aside0.mk (hbox); have GW242 := Aside0.mk ((by rw [hg]; exact (below_size (mvW HB.out)) : w.heap.size ≤ gb242)); have GE242 := Aside0.mk ((by rw [hg]; exact (below_size (mvW HB.out)) : w.heap.size ≤ gb242)); replace HB := Aside0.mk (below_step (mvW HB.out) hb); clear hb hbox hg; obtain ⟨Z4_0, Z4_1, Z4_2⟩ := bc3 BK242.out; obtain ⟨Y4_0, Y4_1, Y4_2⟩ := bf3 BK242.out))); (refine bodyPost_ret (results_cell_row rfl _ _ gb242 24 #[.string (⟨#[]⟩ : ByteArray), .string (⟨#[]⟩ : ByteArray), .bool false] (0, 0) _ rfl (by (with_reducible repeat (first | refine blk_drewN ?_ _ | refine blk_drew ?_ | refine blk_alloc ?_ _)); refine blk_put (cs := #[.string (⟨#[]⟩ : ByteArray), .string (⟨#[]⟩ : ByteArray), .bool false]) ?_ 2 _ rfl; (with_reducible repeat (first | refine blk_drewN ?_ _ | refine blk_drew ?_ | refine blk_alloc ?_ _)); refine blk_put (cs := #[.string (⟨#[]⟩ : ByteArray), .string (⟨#[]⟩ : ByteArray), .bool false]) ?_ 1 _ rfl; (with_reducible repeat (first | refine blk_drewN ?_ _ | refine blk_drew ?_ | refine blk_alloc ?_ _)); refine blk_put (cs := #[.string (⟨#[]⟩ : ByteArray), .string (⟨#[]⟩ : ByteArray), .bool false]) ?_ 0 _ rfl; (with_reducible repeat (first | refine blk_drewN ?_ _ | refine blk_drew ?_ | refine blk_alloc ?_ _)); exact BK242.out) Try.underlying24 rfl (by kernel_rfl)) rfl ?_); (exact ⟨by first | rfl | (simp [errW_none, errW_some] <;> rfl) | (simp [*, errW_none, errW_some] <;> rfl), by repeat (first | (with_reducible first | exact HB.out | apply below_alloc | apply pw_below_drewN | apply below_drew1 | refine below_set ?_ GE242.out) | exact HB.out)⟩)
  · (rw [if_neg c2] at H); (have c2b0 : decide (512 < (a0.size : Int)) = false := decide_eq_false c2); (have c2b1 : decide (512 < a0.size) = false := decide_eq_false (by omega)); (clear c2); (by_cases c5 : a0.size + 1 ≤ 9223372036854775807)
    · (rw [if_pos c5] at H); (have c5b0 := eq_true c5); (have c5b1 : decide (a0.size + 1 ≤ 9223372036854775807) = true := decide_eq_true c5); (try have c5b2 : (9223372036854775807 < a0.size + 1) = False := eq_false (Nat.not_lt.2 c5)); (simp only [Option.some.injEq, Prod.mk.injEq] at H); (obtain ⟨rfl, rfl, rfl⟩ := H); (go_enter Try.func15, Try.ntmps15); (go_wp2_with (first | ((with_reducible refine gate_dst (N := 2) rfl ?_); refine box_event ?hg (N := 2) ?hd (cs := #[.string (⟨#[]⟩ : ByteArray), .string (⟨#[]⟩ : ByteArray), .bool false]) (t := 24) ?hr ?_; (case hd => rfl); (case hg => rfl); (case hr => first | (go_simp; done) | (go_simp; rfl)); intro gb242 hg w6 hbox hb; have BK242 := Aside0.mk (hbox); have GW242 := Aside0.mk ((by rw [hg]; exact (below_size (mvW HB.out)) : w.heap.size ≤ gb242)); have GE242 := Aside0.mk ((by rw [hg]; exact (below_size (mvW HB.out)) : w.heap.size ≤ gb242)); replace HB := Aside0.mk (below_step (mvW HB.out) hb); clear hb hbox hg; obtain ⟨Z7_0, Z7_1, Z7_2⟩ := bc3 BK242.out; obtain ⟨Y7_0, Y7_1, Y7_2⟩ := bf3 BK242.out))); (refine bodyPost_ret (results_cell_row rfl _ _ gb242 24 #[.string a0, .string (a0 ++ (⟨#[0]⟩ : ByteArray)), .bool true] (0, 0) _ rfl (by (with_reducible repeat (first | refine blk_drewN ?_ _ | refine blk_drew ?_ | refine blk_alloc ?_ _)); refine blk_put (cs := #[.string a0, .string (a0 ++ (⟨#[0]⟩ : ByteArray)), .bool false]) ?_ 2 _ rfl; (with_reducible repeat (first | refine blk_drewN ?_ _ | refine blk_drew ?_ | refine blk_alloc ?_ _)); refine blk_put (cs := #[.string a0, .string (⟨#[]⟩ : ByteArray), .bool false]) ?_ 1 _ rfl; (with_reducible repeat (first | refine blk_drewN ?_ _ | refine blk_drew ?_ | refine blk_alloc ?_ _)); refine blk_put (cs := #[.string (⟨#[]⟩ : ByteArray), .string (⟨#[]⟩ : ByteArray), .bool false]) ?_ 0 _ rfl; (with_reducible repeat (first | refine blk_drewN ?_ _ | refine blk_drew ?_ | refine blk_alloc ?_ _)); exact BK242.out) Try.underlying24 rfl (by kernel_rfl)) rfl ?_); (exact ⟨by first | rfl | (simp [errW_none, errW_some] <;> rfl) | (simp [*, errW_none, errW_some] <;> rfl), by repeat (first | (with_reducible first | exact HB.out | apply below_alloc | apply pw_below_drewN | apply below_drew1 | refine below_set ?_ GE242.out) | exact HB.out)⟩)
    · (rw [if_neg c5] at H); (exact absurd H (by simp))

def ok42 (x : S42) : Prop := (x.f0.size ≤ 140737488351232) ∧ (x.f1.size ≤ 140737488351232)
theorem opn42 {H : Type} {enc : TypeId × Value → H} : Open.Opn enc Try.prog 42 k42 ok42 := Open.opn_struct (fun p => ⟨p.1, p.2⟩) (fun _ => rfl) Try.underlying42 (by kernel_rfl) (Open.opnFs_cons (off := 0) (off' := 1) (tot := 2) rfl (by kernel_rfl) (Open.opn_string Try.underlying9) (Open.opnFs_one (off := 1) (tot := 2) rfl (by kernel_rfl) (Open.opn_string Try.underlying9)))

def ok24 (x : S24) : Prop := (x.f0.size ≤ 140737488351232) ∧ ((x.f1.size ≤ 140737488351232) ∧ (True))
theorem opn24 {H : Type} {enc : TypeId × Value → H} : Open.Opn enc Try.prog 24 k24 ok24 := Open.opn_struct (fun p => ⟨p.1, p.2.1, p.2.2⟩) (fun _ => rfl) Try.underlying24 (by kernel_rfl) (Open.opnFs_cons (off := 0) (off' := 1) (tot := 3) rfl (by kernel_rfl) (Open.opn_string Try.underlying9) (Open.opnFs_cons (off := 1) (off' := 2) (tot := 3) rfl (by kernel_rfl) (Open.opn_string Try.underlying9) (Open.opnFs_one (off := 2) (tot := 3) rfl (by kernel_rfl) (Open.opn_bool Try.underlying4))))

def ok26 (x : S26) : Prop := ((Lit.int .u8 x.f0).wf = true) ∧ ((x.f1.size ≤ 140737488351232) ∧ ((x.f2.size ≤ 140737488351232) ∧ ((ok24 x.f3) ∧ ((Lit.int .i64 x.f4).wf = true))))
theorem opn26 {H : Type} {enc : TypeId × Value → H} : Open.Opn enc Try.prog 26 k26 ok26 := Open.opn_struct (fun p => ⟨p.1, p.2.1, p.2.2.1, p.2.2.2.1, p.2.2.2.2⟩) (fun _ => rfl) Try.underlying26 (by kernel_rfl) (Open.opnFs_cons (off := 0) (off' := 1) (tot := 7) rfl (by kernel_rfl) (Open.opn_int Try.underlying5) (Open.opnFs_cons (off := 1) (off' := 2) (tot := 7) rfl (by kernel_rfl) (Open.opn_string Try.underlying9) (Open.opnFs_cons (off := 2) (off' := 3) (tot := 7) rfl (by kernel_rfl) (Open.opn_string Try.underlying9) (Open.opnFs_cons (off := 3) (off' := 6) (tot := 7) rfl (by kernel_rfl) opn24 (Open.opnFs_one (off := 6) (tot := 7) rfl (by kernel_rfl) (Open.opn_int Try.underlying3))))))

/-! ### lockkeeperlaw30_ModelMeans: function 3 -/
mutual
def lockkeeperlaw30_ModelMeans.j0 : Nat → List (S42) → ByteArray → Bool → Int → ByteArray → ByteArray → ByteArray → ByteArray → Bool → Int → Option (Bool)
  | 0, _, _, _, _, _, _, _, _, _, _ => none
  | k + 1, x0, x2, x34, x244000, x244001, x244002, x244003, x244004, x244005, x244006 => if x34 = true then ((lockkeeperlaw30_head.f k).bind fun t247 => (some t247)) else ((model_Do.f k x0 x244000 x244001 x244002 x244003 x244004 x244005 x244006).bind fun bt248 => ((lockkeeperref10_Right.f k bt248.1).bind fun t261 => (if t261 = true then ((model_Diff.f k x0 bt248.1).bind fun t262 => (if (t262.length : Int) > 1 then (none) else (if (t262.length : Int) = 1 then (if 0 < (t262.length : Int) then (if (rdOf ByteArray.empty t262 0).toList = x244001.toList then (lockkeeperlaw30_ModelMeans.j1 k x0 x2 bt248.1 (bt248.2.2.2.1 != 0) x244000 x244001 x244002 x244003 x244004 x244005 x244006 bt248.2.1 bt248.2.2.1 bt248.2.2.2.1 bt248.2.2.2.2.1 bt248.2.2.2.2.2.1 bt248.2.2.2.2.2.2.1 bt248.2.2.2.2.2.2.2) else (none)) else (none)) else (lockkeeperlaw30_ModelMeans.j1 k x0 x2 bt248.1 false x244000 x244001 x244002 x244003 x244004 x244005 x244006 bt248.2.1 bt248.2.2.1 bt248.2.2.2.1 bt248.2.2.2.2.1 bt248.2.2.2.2.2.1 bt248.2.2.2.2.2.2.1 bt248.2.2.2.2.2.2.2)))) else (none))))
def lockkeeperlaw30_ModelMeans.j1 : Nat → List (S42) → ByteArray → List (S42) → Bool → Int → ByteArray → ByteArray → ByteArray → ByteArray → Bool → Int → Int → Int → Int → Int → Bool → ByteArray → List (S42) → Option (Bool)
  | 0, _, _, _, _, _, _, _, _, _, _, _, _, _, _, _, _, _, _ => none
  | k + 1, x0, x2, x7, x68, x244000, x244001, x244002, x244003, x244004, x244005, x244006, x261000, x261001, x261002, x261003, x261004, x261005, x261006 => if x68 = true then (none) else ((lockkeeperref10_Find.f k x0 x2).bind fun bt266 => ((lockkeeperref10_Find.f k x7 x2).bind fun bt268 => (if x2.toList = x244001.toList then (lockkeeperlaw30_ModelMeans.j2 k x7 false x244000 x244001 x244002 x244003 x244004 x244005 x244006 x261000 x261001 x261002 x261003 x261004 x261005 x261006) else (if bt266.1.toList = bt268.1.toList then (lockkeeperlaw30_ModelMeans.j2 k x7 (bt266.2 != bt268.2) x244000 x244001 x244002 x244003 x244004 x244005 x244006 x261000 x261001 x261002 x261003 x261004 x261005 x261006) else (none)))))
def lockkeeperlaw30_ModelMeans.j2 : Nat → List (S42) → Bool → Int → ByteArray → ByteArray → ByteArray → ByteArray → Bool → Int → Int → Int → Int → Int → Bool → ByteArray → List (S42) → Option (Bool)
  | 0, _, _, _, _, _, _, _, _, _, _, _, _, _, _, _, _ => none
  | k + 1, x7, x94, x244000, x244001, x244002, x244003, x244004, x244005, x244006, x261000, x261001, x261002, x261003, x261004, x261005, x261006 => if x94 = true then (none) else (if x261002 = 0 then (if x244000 = 3 then (lockkeeperlaw30_ModelMeans.j3 k x7 false x244000 x244001 x244002 x244003 x244004 x244005 x244006) else (lockkeeperlaw30_ModelMeans.j3 k x7 (x244000 != 4) x244000 x244001 x244002 x244003 x244004 x244005 x244006)) else (lockkeeperlaw30_ModelMeans.j3 k x7 true x244000 x244001 x244002 x244003 x244004 x244005 x244006))
def lockkeeperlaw30_ModelMeans.j3 : Nat → List (S42) → Bool → Int → ByteArray → ByteArray → ByteArray → ByteArray → Bool → Int → Option (Bool)
  | 0, _, _, _, _, _, _, _, _, _ => none
  | k + 1, x7, x107, x244000, x244001, x244002, x244003, x244004, x244005, x244006 => if x107 = true then ((lockkeeperlaw30_head.f k).bind fun t270 => (some t270)) else ((model_Do.f k x7 2 x244001 (⟨#[]⟩ : ByteArray) (⟨#[]⟩ : ByteArray) (⟨#[]⟩ : ByteArray) false 0).bind fun bt271 => ((lockkeeperref03_Point.f x244001).bind fun bt284 => ((model_Do.f k x7 6 (⟨#[]⟩ : ByteArray) (⟨#[]⟩ : ByteArray) bt284.1 bt284.2.1 bt284.2.2 2).bind fun bt287 => (if bt271.2.2.2.2.2.1 = true then (if bt271.2.2.2.2.2.2.1.toList = x244002.toList then (if (bt287.2.2.2.2.2.2.2.length : Int) = 1 then (if 0 < (bt287.2.2.2.2.2.2.2.length : Int) then (if ((rd_T42 bt287.2.2.2.2.2.2.2 0).f0).toList = x244001.toList then (if ((rd_T42 bt287.2.2.2.2.2.2.2 0).f1).toList = x244002.toList then (if bt287.2.2.2.2.2.1 = true then (none) else ((lockkeeperlaw30_head.f k).bind fun t302 => (some t302))) else (none)) else (none)) else (none)) else (none)) else (none)) else (none)))))
end
def lockkeeperlaw30_ModelMeans.f (k : Nat) (l0 : List (S42)) (a1_0 : Int) (a1_1 : ByteArray) (a1_2 : ByteArray) (a1_3 : ByteArray) (a1_4 : ByteArray) (a1_5 : Bool) (a1_6 : Int) (a2 : ByteArray) : Option (Bool) := (lockkeeperlaw30_great.f k l0).bind fun t244 => (if t244 = true then (lockkeeperlaw30_ModelMeans.j0 k l0 a2 true a1_0 a1_1 a1_2 a1_3 a1_4 a1_5 a1_6) else ((lockkeeperref30_Small.f a1_0 a1_1 a1_2 a1_3 a1_4 a1_5 a1_6).bind fun t245 => (if t245 = true then ((lockkeeperref10_Right.f k l0).bind fun t246 => (if t246 = true then (lockkeeperlaw30_ModelMeans.j0 k l0 a2 (decide ((a2.size : Int) > 600)) a1_0 a1_1 a1_2 a1_3 a1_4 a1_5 a1_6) else (lockkeeperlaw30_ModelMeans.j0 k l0 a2 true a1_0 a1_1 a1_2 a1_3 a1_4 a1_5 a1_6))) else (lockkeeperlaw30_ModelMeans.j0 k l0 a2 true a1_0 a1_1 a1_2 a1_3 a1_4 a1_5 a1_6))))
theorem lockkeeperlaw30_ModelMeans.mono_l : ∀ k, (∀ y0 y1 y2 y3 y4 y5 y6 y7 y8 y9, LeO (lockkeeperlaw30_ModelMeans.j0 k y0 y1 y2 y3 y4 y5 y6 y7 y8 y9) (lockkeeperlaw30_ModelMeans.j0 (k + 1) y0 y1 y2 y3 y4 y5 y6 y7 y8 y9)) ∧ (∀ y0 y1 y2 y3 y4 y5 y6 y7 y8 y9 y10 y11 y12 y13 y14 y15 y16 y17, LeO (lockkeeperlaw30_ModelMeans.j1 k y0 y1 y2 y3 y4 y5 y6 y7 y8 y9 y10 y11 y12 y13 y14 y15 y16 y17) (lockkeeperlaw30_ModelMeans.j1 (k + 1) y0 y1 y2 y3 y4 y5 y6 y7 y8 y9 y10 y11 y12 y13 y14 y15 y16 y17)) ∧ (∀ y0 y1 y2 y3 y4 y5 y6 y7 y8 y9 y10 y11 y12 y13 y14 y15, LeO (lockkeeperlaw30_ModelMeans.j2 k y0 y1 y2 y3 y4 y5 y6 y7 y8 y9 y10 y11 y12 y13 y14 y15) (lockkeeperlaw30_ModelMeans.j2 (k + 1) y0 y1 y2 y3 y4 y5 y6 y7 y8 y9 y10 y11 y12 y13 y14 y15)) ∧ (∀ y0 y1 y2 y3 y4 y5 y6 y7 y8, LeO (lockkeeperlaw30_ModelMeans.j3 k y0 y1 y2 y3 y4 y5 y6 y7 y8) (lockkeeperlaw30_ModelMeans.j3 (k + 1) y0 y1 y2 y3 y4 y5 y6 y7 y8))
  | 0 => ⟨fun _ _ _ _ _ _ _ _ _ _ r h => by simp [lockkeeperlaw30_ModelMeans.j0] at h, fun _ _ _ _ _ _ _ _ _ _ _ _ _ _ _ _ _ _ r h => by simp [lockkeeperlaw30_ModelMeans.j1] at h, fun _ _ _ _ _ _ _ _ _ _ _ _ _ _ _ _ r h => by simp [lockkeeperlaw30_ModelMeans.j2] at h, fun _ _ _ _ _ _ _ _ _ r h => by simp [lockkeeperlaw30_ModelMeans.j3] at h⟩
  | k + 1 => by
    obtain ⟨ih0, ih1, ih2, ih3⟩ := lockkeeperlaw30_ModelMeans.mono_l k
    refine ⟨?_, ?_, ?_, ?_⟩
    · intro y0 y1 y2 y3 y4 y5 y6 y7 y8 y9
      unfold lockkeeperlaw30_ModelMeans.j0
      repeat' first
      | (with_reducible exact ih0 _ _ _ _ _ _ _ _ _ _)
      | (with_reducible exact ih1 _ _ _ _ _ _ _ _ _ _ _ _ _ _ _ _ _ _)
      | (with_reducible exact ih2 _ _ _ _ _ _ _ _ _ _ _ _ _ _ _ _)
      | (with_reducible exact ih3 _ _ _ _ _ _ _ _ _)
      | (with_reducible exact lockkeeperlaw30_great.mono _ _)
      | (with_reducible exact lockkeeperlaw30_head.mono _)
      | (with_reducible exact lockkeeperref10_Find.mono _ _ _)
      | (with_reducible exact lockkeeperref10_Right.mono _ _)
      | (with_reducible exact model_Diff.mono _ _ _)
      | (with_reducible exact model_Do.mono _ _ _ _ _ _ _ _ _)
      | (with_reducible exact LeO.refl _)
      | (with_reducible exact LeO.none _)
      | (with_reducible refine LeO.ite ?_ ?_)
      | (with_reducible refine LeO.bind ?_ (fun _ => ?_))
      | exact ih0 _ _ _ _ _ _ _ _ _ _
      | exact ih1 _ _ _ _ _ _ _ _ _ _ _ _ _ _ _ _ _ _
      | exact ih2 _ _ _ _ _ _ _ _ _ _ _ _ _ _ _ _
      | exact ih3 _ _ _ _ _ _ _ _ _
      | exact lockkeeperlaw30_great.mono _ _
      | exact lockkeeperlaw30_head.mono _
      | exact lockkeeperref10_Find.mono _ _ _
      | exact lockkeeperref10_Right.mono _ _
      | exact model_Diff.mono _ _ _
      | exact model_Do.mono _ _ _ _ _ _ _ _ _
      | exact LeO.none _
      | refine LeO.ite ?_ ?_
      | refine LeO.bind ?_ (fun _ => ?_)
    · intro y0 y1 y2 y3 y4 y5 y6 y7 y8 y9 y10 y11 y12 y13 y14 y15 y16 y17
      unfold lockkeeperlaw30_ModelMeans.j1
      repeat' first
      | (with_reducible exact ih0 _ _ _ _ _ _ _ _ _ _)
      | (with_reducible exact ih1 _ _ _ _ _ _ _ _ _ _ _ _ _ _ _ _ _ _)
      | (with_reducible exact ih2 _ _ _ _ _ _ _ _ _ _ _ _ _ _ _ _)
      | (with_reducible exact ih3 _ _ _ _ _ _ _ _ _)
      | (with_reducible exact lockkeeperlaw30_great.mono _ _)
      | (with_reducible exact lockkeeperlaw30_head.mono _)
      | (with_reducible exact lockkeeperref10_Find.mono _ _ _)
      | (with_reducible exact lockkeeperref10_Right.mono _ _)
      | (with_reducible exact model_Diff.mono _ _ _)
      | (with_reducible exact model_Do.mono _ _ _ _ _ _ _ _ _)
      | (with_reducible exact LeO.refl _)
      | (with_reducible exact LeO.none _)
      | (with_reducible refine LeO.ite ?_ ?_)
      | (with_reducible refine LeO.bind ?_ (fun _ => ?_))
      | exact ih0 _ _ _ _ _ _ _ _ _ _
      | exact ih1 _ _ _ _ _ _ _ _ _ _ _ _ _ _ _ _ _ _
      | exact ih2 _ _ _ _ _ _ _ _ _ _ _ _ _ _ _ _
      | exact ih3 _ _ _ _ _ _ _ _ _
      | exact lockkeeperlaw30_great.mono _ _
      | exact lockkeeperlaw30_head.mono _
      | exact lockkeeperref10_Find.mono _ _ _
      | exact lockkeeperref10_Right.mono _ _
      | exact model_Diff.mono _ _ _
      | exact model_Do.mono _ _ _ _ _ _ _ _ _
      | exact LeO.none _
      | refine LeO.ite ?_ ?_
      | refine LeO.bind ?_ (fun _ => ?_)
    · intro y0 y1 y2 y3 y4 y5 y6 y7 y8 y9 y10 y11 y12 y13 y14 y15
      unfold lockkeeperlaw30_ModelMeans.j2
      repeat' first
      | (with_reducible exact ih0 _ _ _ _ _ _ _ _ _ _)
      | (with_reducible exact ih1 _ _ _ _ _ _ _ _ _ _ _ _ _ _ _ _ _ _)
      | (with_reducible exact ih2 _ _ _ _ _ _ _ _ _ _ _ _ _ _ _ _)
      | (with_reducible exact ih3 _ _ _ _ _ _ _ _ _)
      | (with_reducible exact lockkeeperlaw30_great.mono _ _)
      | (with_reducible exact lockkeeperlaw30_head.mono _)
      | (with_reducible exact lockkeeperref10_Find.mono _ _ _)
      | (with_reducible exact lockkeeperref10_Right.mono _ _)
      | (with_reducible exact model_Diff.mono _ _ _)
      | (with_reducible exact model_Do.mono _ _ _ _ _ _ _ _ _)
      | (with_reducible exact LeO.refl _)
      | (with_reducible exact LeO.none _)
      | (with_reducible refine LeO.ite ?_ ?_)
      | (with_reducible refine LeO.bind ?_ (fun _ => ?_))
      | exact ih0 _ _ _ _ _ _ _ _ _ _
      | exact ih1 _ _ _ _ _ _ _ _ _ _ _ _ _ _ _ _ _ _
      | exact ih2 _ _ _ _ _ _ _ _ _ _ _ _ _ _ _ _
      | exact ih3 _ _ _ _ _ _ _ _ _
      | exact lockkeeperlaw30_great.mono _ _
      | exact lockkeeperlaw30_head.mono _
      | exact lockkeeperref10_Find.mono _ _ _
      | exact lockkeeperref10_Right.mono _ _
      | exact model_Diff.mono _ _ _
      | exact model_Do.mono _ _ _ _ _ _ _ _ _
      | exact LeO.none _
      | refine LeO.ite ?_ ?_
      | refine LeO.bind ?_ (fun _ => ?_)
    · intro y0 y1 y2 y3 y4 y5 y6 y7 y8
      unfold lockkeeperlaw30_ModelMeans.j3
      repeat' first
      | (with_reducible exact ih0 _ _ _ _ _ _ _ _ _ _)
      | (with_reducible exact ih1 _ _ _ _ _ _ _ _ _ _ _ _ _ _ _ _ _ _)
      | (with_reducible exact ih2 _ _ _ _ _ _ _ _ _ _ _ _ _ _ _ _)
      | (with_reducible exact ih3 _ _ _ _ _ _ _ _ _)
      | (with_reducible exact lockkeeperlaw30_great.mono _ _)
      | (with_reducible exact lockkeeperlaw30_head.mono _)
      | (with_reducible exact lockkeeperref10_Find.mono _ _ _)
      | (with_reducible exact lockkeeperref10_Right.mono _ _)
      | (with_reducible exact model_Diff.mono _ _ _)
      | (with_reducible exact model_Do.mono _ _ _ _ _ _ _ _ _)
      | (with_reducible exact LeO.refl _)
      | (with_reducible exact LeO.none _)
      | (with_reducible refine LeO.ite ?_ ?_)
      | (with_reducible refine LeO.bind ?_ (fun _ => ?_))
      | exact ih0 _ _ _ _ _ _ _ _ _ _
      | exact ih1 _ _ _ _ _ _ _ _ _ _ _ _ _ _ _ _ _ _
      | exact ih2 _ _ _ _ _ _ _ _ _ _ _ _ _ _ _ _
      | exact ih3 _ _ _ _ _ _ _ _ _
      | exact lockkeeperlaw30_great.mono _ _
      | exact lockkeeperlaw30_head.mono _
      | exact lockkeeperref10_Find.mono _ _ _
      | exact lockkeeperref10_Right.mono _ _
      | exact model_Diff.mono _ _ _
      | exact model_Do.mono _ _ _ _ _ _ _ _ _
      | exact LeO.none _
      | refine LeO.ite ?_ ?_
      | refine LeO.bind ?_ (fun _ => ?_)
theorem lockkeeperlaw30_ModelMeans.mono : ∀ a0 a1 a2 a3 a4 a5 a6 a7 a8 k, LeO (lockkeeperlaw30_ModelMeans.f k a0 a1 a2 a3 a4 a5 a6 a7 a8) (lockkeeperlaw30_ModelMeans.f (k + 1) a0 a1 a2 a3 a4 a5 a6 a7 a8) := by
  intro a0 a1 a2 a3 a4 a5 a6 a7 a8 k
  obtain ⟨ih0, ih1, ih2, ih3⟩ := lockkeeperlaw30_ModelMeans.mono_l k
  unfold lockkeeperlaw30_ModelMeans.f
  repeat' first
      | (with_reducible exact ih0 _ _ _ _ _ _ _ _ _ _)
      | (with_reducible exact ih1 _ _ _ _ _ _ _ _ _ _ _ _ _ _ _ _ _ _)
      | (with_reducible exact ih2 _ _ _ _ _ _ _ _ _ _ _ _ _ _ _ _)
      | (with_reducible exact ih3 _ _ _ _ _ _ _ _ _)
      | (with_reducible exact lockkeeperlaw30_great.mono _ _)
      | (with_reducible exact lockkeeperlaw30_head.mono _)
      | (with_reducible exact lockkeeperref10_Find.mono _ _ _)
      | (with_reducible exact lockkeeperref10_Right.mono _ _)
      | (with_reducible exact model_Diff.mono _ _ _)
      | (with_reducible exact model_Do.mono _ _ _ _ _ _ _ _ _)
      | (with_reducible exact LeO.refl _)
      | (with_reducible exact LeO.none _)
      | (with_reducible refine LeO.ite ?_ ?_)
      | (with_reducible refine LeO.bind ?_ (fun _ => ?_))
      | exact ih0 _ _ _ _ _ _ _ _ _ _
      | exact ih1 _ _ _ _ _ _ _ _ _ _ _ _ _ _ _ _ _ _
      | exact ih2 _ _ _ _ _ _ _ _ _ _ _ _ _ _ _ _
      | exact ih3 _ _ _ _ _ _ _ _ _
      | exact lockkeeperlaw30_great.mono _ _
      | exact lockkeeperlaw30_head.mono _
      | exact lockkeeperref10_Find.mono _ _ _
      | exact lockkeeperref10_Right.mono _ _
      | exact model_Diff.mono _ _ _
      | exact model_Do.mono _ _ _ _ _ _ _ _ _
      | exact LeO.none _
      | refine LeO.ite ?_ ?_
      | refine LeO.bind ?_ (fun _ => ?_)

end Go.Proofs.Ytoggblomknemoaa.M
