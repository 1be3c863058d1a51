-- PRINTED by print.py (a twelfth state) out of the translation. Not trusted: Lean checks it.
import Derived.Test.YtebmpoonkmcjfaaBx0
import Derived.Test.YtebmpoonkmcjfaaBx1
import Derived.Test.YtebmpoonkmcjfaaBx2
namespace Go.Proofs.Ytebmpoonkmcjfaa.B
open Go.RowKit Go.Proofs.YtebmpoonkmcjfaaW Go.Proofs.YtebmpoonkmcjfaaW.PrintWords Go.Proofs.YtebmpoonkmcjfaaW.PrintLast Go.Proofs.YtebmpoonkmcjfaaW.PrintMore
attribute [local go_sem] max2_int min2_int max_two min_two max_three min_three max_four min_four   -- for this text's walks alone
set_option linter.unusedVariables false
set_option linter.unusedSimpArgs false

/-! ### lockkeeperref04_Same: function 20 -/
mutual
def lockkeeperref04_Same.j0 : Nat → Bool → Int → List Int → Int → List Int → Option (Bool)
  | 0, _, _, _, _, _ => none
  | k + 1, x19, x180000, x180001, x181000, x181001 => if x19 = true then (some false) else (lockkeeperref04_Same.l0 k 0 x180000 x180001 x181000 x181001)
def lockkeeperref04_Same.l0 : Nat → Int → Int → List Int → Int → List Int → Option (Bool)
  | 0, _, _, _, _, _ => none
  | k + 1, x5, x180000, x180001, x181000, x181001 => if x5 < (x180001.length : Int) then (if 0 ≤ x5 then (if x5 < (x181001.length : Int) then (if (rd x180001 x5) = (rd x181001 x5) then (lockkeeperref04_Same.l0 k (wrap64 (x5 + 1)) x180000 x180001 x181000 x181001) else (some false)) else (none)) else (none)) else (some true)
end
def lockkeeperref04_Same.f (k : Nat) (a0_0 : Int) (l0_1 : List Int) (a1_0 : Int) (l1_1 : List Int) : Option (Bool) := if a0_0 = a1_0 then (lockkeeperref04_Same.j0 k ((l0_1.length : Int) != (l1_1.length : Int)) a0_0 l0_1 a1_0 l1_1) else (lockkeeperref04_Same.j0 k true a0_0 l0_1 a1_0 l1_1)
theorem lockkeeperref04_Same.mono_l : ∀ k, (∀ y0 y1 y2 y3 y4, LeO (lockkeeperref04_Same.j0 k y0 y1 y2 y3 y4) (lockkeeperref04_Same.j0 (k + 1) y0 y1 y2 y3 y4)) ∧ (∀ y0 y1 y2 y3 y4, LeO (lockkeeperref04_Same.l0 k y0 y1 y2 y3 y4) (lockkeeperref04_Same.l0 (k + 1) y0 y1 y2 y3 y4))
  | 0 => ⟨fun _ _ _ _ _ r h => by simp [lockkeeperref04_Same.j0] at h, fun _ _ _ _ _ r h => by simp [lockkeeperref04_Same.l0] at h⟩
  | k + 1 => by
    obtain ⟨ih0, ih1⟩ := lockkeeperref04_Same.mono_l k
    refine ⟨?_, ?_⟩
    · intro y0 y1 y2 y3 y4
      unfold lockkeeperref04_Same.j0
      repeat' first
      | (with_reducible exact ih0 _ _ _ _ _)
      | (with_reducible exact ih1 _ _ _ _ _)
      | (with_reducible exact LeO.refl _)
      | (with_reducible exact LeO.none _)
      | (with_reducible refine LeO.ite ?_ ?_)
      | (with_reducible refine LeO.bind ?_ (fun _ => ?_))
      | exact ih0 _ _ _ _ _
      | exact ih1 _ _ _ _ _
      | exact LeO.none _
      | refine LeO.ite ?_ ?_
      | refine LeO.bind ?_ (fun _ => ?_)
    · intro y0 y1 y2 y3 y4
      unfold lockkeeperref04_Same.l0
      repeat' first
      | (with_reducible exact ih0 _ _ _ _ _)
      | (with_reducible exact ih1 _ _ _ _ _)
      | (with_reducible exact LeO.refl _)
      | (with_reducible exact LeO.none _)
      | (with_reducible refine LeO.ite ?_ ?_)
      | (with_reducible refine LeO.bind ?_ (fun _ => ?_))
      | exact ih0 _ _ _ _ _
      | exact ih1 _ _ _ _ _
      | exact LeO.none _
      | refine LeO.ite ?_ ?_
      | refine LeO.bind ?_ (fun _ => ?_)
theorem lockkeeperref04_Same.mono : ∀ a0 a1 a2 a3 k, LeO (lockkeeperref04_Same.f k a0 a1 a2 a3) (lockkeeperref04_Same.f (k + 1) a0 a1 a2 a3) := by
  intro a0 a1 a2 a3 k
  obtain ⟨ih0, ih1⟩ := lockkeeperref04_Same.mono_l k
  unfold lockkeeperref04_Same.f
  repeat' first
      | (with_reducible exact ih0 _ _ _ _ _)
      | (with_reducible exact ih1 _ _ _ _ _)
      | (with_reducible exact LeO.refl _)
      | (with_reducible exact LeO.none _)
      | (with_reducible refine LeO.ite ?_ ?_)
      | (with_reducible refine LeO.bind ?_ (fun _ => ?_))
      | exact ih0 _ _ _ _ _
      | exact ih1 _ _ _ _ _
      | exact LeO.none _
      | refine LeO.ite ?_ ?_
      | refine LeO.bind ?_ (fun _ => ?_)
set_option maxHeartbeats 8000000 in
set_option maxRecDepth 100000 in
theorem lockkeeperref04_Same.calls (k : Nat) (a0_0 : Int) (A0_1 : Option Addr) (c0_1 : Nat) (l0_1 : List Int) (a1_0 : Int) (A1_1 : Option Addr) (c1_1 : Nat) (l1_1 : List Int) (r : Bool) (w : World) (hr0_1 : Kd.C (Kd.int .u64) w A0_1 l0_1.length l0_1) (hc0_1 : l0_1.length ≤ c0_1) (hr1_1 : Kd.C (Kd.int .u64) w A1_1 l1_1.length l1_1) (hc1_1 : l1_1.length ≤ c1_1) (h : lockkeeperref04_Same.f k a0_0 l0_1 a1_0 l1_1 = some r) :
    Calls Try.prog 20 #[.agg #[.int .u64 a0_0, .slice A0_1 l0_1.length c0_1], .agg #[.int .u64 a1_0, .slice A1_1 l1_1.length c1_1]] w fun e w' => e = .returned (.bool r) ∧ Below w.heap.size w w' := by
  (have hu25 := Try.underlying25); (have HR0_1 := Aside0.mk hr0_1); (have HC0_1 := Aside0.mk hc0_1); (clear hr0_1 hc0_1); (have HR1_1 := Aside0.mk hr1_1); (have HC1_1 := Aside0.mk hc1_1); (clear hr1_1 hc1_1); (have HB := Aside0.mk (Below.refl w.heap.size w)); (have H : (if a0_0 = a1_0 then (lockkeeperref04_Same.j0 k ((l0_1.length : Int) != (l1_1.length : Int)) a0_0 l0_1 a1_0 l1_1) else (lockkeeperref04_Same.j0 k true a0_0 l0_1 a1_0 l1_1)) = some r := h); (clear h); (have HC3 := Aside0.mk H); (clear H); (go_enter Try.func20, Try.ntmps20); (go_upto_region 1 with (first | ((with_reducible refine gate_dst (N := 2) rfl ?_); (try (refine gate_guard (by rfl) ?_; dsimp only)); refine box_event ?hg (N := 2) ?hd (cs := #[.int .u64 a0_0, .slice A0_1 l0_1.length c0_1]) (t := 25) ?hr ?_; (case hd => rfl); (case hg => rfl); (case hr => first | (go_simp; done) | (go_simp; rfl)); intro gb179 hg w4 hbox hb; have n0_ := Aside0.mk (below_step (by repeat (first | (with_reducible first | exact HB.out | apply below_alloc | apply pw_below_drewN | apply below_drew1) | exact HB.out)) hb); have n1_ := Aside0.mk (hbox); have n2_ := Aside0.mk ((by rw [hg]; exact (below_size (by repeat (first | (with_reducible first | exact HB.out | apply below_alloc | apply pw_below_drewN | apply below_drew1) | exact HB.out))) : w.heap.size ≤ gb179)); have n3_ := Aside0.mk ((by rw [hg]; exact (below_size (by repeat (first | (with_reducible first | exact HB.out | apply below_alloc | apply pw_below_drewN | apply below_drew1) | exact HB.out))) : w.heap.size ≤ gb179)); clear HB; have HB := n0_; have BK179 := n1_; have GW179 := n2_; have GE179 := n3_; clear n0_ n1_ n2_ n3_; clear hb hbox hg) | ((with_reducible refine gate_dst (N := 3) rfl ?_); (try (refine gate_guard (by rfl) ?_; dsimp only)); refine box_event ?hg (N := 3) ?hd (cs := #[.int .u64 a1_0, .slice A1_1 l1_1.length c1_1]) (t := 25) ?hr ?_; (case hd => rfl); (case hg => rfl); (case hr => first | (go_simp; done) | (go_simp; rfl)); intro gb180 hg w5 hbox hb; have n0_ := Aside0.mk (blk_below (g := gb179) (o := .cells #[.int .u64 a0_0, .slice A0_1 l0_1.length c0_1] 25 (0, 0)) (by (with_reducible repeat (first | refine blk_drewN ?_ _ | refine blk_drew ?_ | refine blk_alloc ?_ _)); exact BK179.out) hb); have n1_ := Aside0.mk (below_step (by repeat (first | (with_reducible first | exact HB.out | apply below_alloc | apply pw_below_drewN | apply below_drew1 | refine below_set ?_ GE179.out) | exact HB.out)) hb); have n2_ := Aside0.mk (hbox); have n3_ := Aside0.mk ((by rw [hg]; exact (below_size (by repeat (first | (with_reducible first | exact HB.out | apply below_alloc | apply pw_below_drewN | apply below_drew1 | refine below_set ?_ GE179.out) | exact HB.out))) : w.heap.size ≤ gb180)); have n4_ := Aside0.mk ((by rw [hg]; exact (below_size (by repeat (first | (with_reducible first | exact HB.out | apply below_alloc | apply pw_below_drewN | apply below_drew1 | refine below_set ?_ GE179.out) | exact HB.out))) : w.heap.size ≤ gb180)); have n5_ := Aside0.mk ((by rw [hg]; exact Nat.ne_of_lt (blk_lt (g := gb179) (o := .cells #[.int .u64 a0_0, .slice A0_1 l0_1.length c0_1] 25 (0, 0)) (by (with_reducible repeat (first | refine blk_drewN ?_ _ | refine blk_drew ?_ | refine blk_alloc ?_ _)); exact BK179.out)) : gb179 ≠ gb180)); have n6_ := Aside0.mk ((by rw [hg]; exact Nat.ne_of_gt (blk_lt (g := gb179) (o := .cells #[.int .u64 a0_0, .slice A0_1 l0_1.length c0_1] 25 (0, 0)) (by (with_reducible repeat (first | refine blk_drewN ?_ _ | refine blk_drew ?_ | refine blk_alloc ?_ _)); exact BK179.out)) : gb180 ≠ gb179)); clear BK179; clear HB; have BK179 := n0_; have HB := n1_; have BK180 := n2_; have GW180 := n3_; have GE180 := n4_; have NB179_180 := n5_; have NB180_179 := n6_; clear n0_ n1_ n2_ n3_ n4_ n5_ n6_; clear hb hbox hg))); (repeat (go_quiet (first | ((with_reducible refine gate_dst (N := 2) rfl ?_); (try (refine gate_guard (by rfl) ?_; dsimp only)); refine box_event ?hg (N := 2) ?hd (cs := #[.int .u64 a0_0, .slice A0_1 l0_1.length c0_1]) (t := 25) ?hr ?_; (case hd => rfl); (case hg => rfl); (case hr => first | (go_simp; done) | (go_simp; rfl)); intro gb179 hg w4 hbox hb; have n0_ := Aside0.mk (below_step (by repeat (first | (with_reducible first | exact HB.out | apply below_alloc | apply pw_below_drewN | apply below_drew1) | exact HB.out)) hb); have n1_ := Aside0.mk (hbox); have n2_ := Aside0.mk ((by rw [hg]; exact (below_size (by repeat (first | (with_reducible first | exact HB.out | apply below_alloc | apply pw_below_drewN | apply below_drew1) | exact HB.out))) : w.heap.size ≤ gb179)); have n3_ := Aside0.mk ((by rw [hg]; exact (below_size (by repeat (first | (with_reducible first | exact HB.out | apply below_alloc | apply pw_below_drewN | apply below_drew1) | exact HB.out))) : w.heap.size ≤ gb179)); clear HB; have HB := n0_; have BK179 := n1_; have GW179 := n2_; have GE179 := n3_; clear n0_ n1_ n2_ n3_; clear hb hbox hg) | ((with_reducible refine gate_dst (N := 3) rfl ?_); (try (refine gate_guard (by rfl) ?_; dsimp only)); refine box_event ?hg (N := 3) ?hd (cs := #[.int .u64 a1_0, .slice A1_1 l1_1.length c1_1]) (t := 25) ?hr ?_; (case hd => rfl); (case hg => rfl); (case hr => first | (go_simp; done) | (go_simp; rfl)); intro gb180 hg w5 hbox hb; have n0_ := Aside0.mk (blk_below (g := gb179) (o := .cells #[.int .u64 a0_0, .slice A0_1 l0_1.length c0_1] 25 (0, 0)) (by (with_reducible repeat (first | refine blk_drewN ?_ _ | refine blk_drew ?_ | refine blk_alloc ?_ _)); exact BK179.out) hb); have n1_ := Aside0.mk (below_step (by repeat (first | (with_reducible first | exact HB.out | apply below_alloc | apply pw_below_drewN | apply below_drew1 | refine below_set ?_ GE179.out) | exact HB.out)) hb); have n2_ := Aside0.mk (hbox); have n3_ := Aside0.mk ((by rw [hg]; exact (below_size (by repeat (first | (with_reducible first | exact HB.out | apply below_alloc | apply pw_below_drewN | apply below_drew1 | refine below_set ?_ GE179.out) | exact HB.out))) : w.heap.size ≤ gb180)); have n4_ := Aside0.mk ((by rw [hg]; exact (below_size (by repeat (first | (with_reducible first | exact HB.out | apply below_alloc | apply pw_below_drewN | apply below_drew1 | refine below_set ?_ GE179.out) | exact HB.out))) : w.heap.size ≤ gb180)); have n5_ := Aside0.mk ((by rw [hg]; exact Nat.ne_of_lt (blk_lt (g := gb179) (o := .cells #[.int .u64 a0_0, .slice A0_1 l0_1.length c0_1] 25 (0, 0)) (by (with_reducible repeat (first | refine blk_drewN ?_ _ | refine blk_drew ?_ | refine blk_alloc ?_ _)); exact BK179.out)) : gb179 ≠ gb180)); have n6_ := Aside0.mk ((by rw [hg]; exact Nat.ne_of_gt (blk_lt (g := gb179) (o := .cells #[.int .u64 a0_0, .slice A0_1 l0_1.length c0_1] 25 (0, 0)) (by (with_reducible repeat (first | refine blk_drewN ?_ _ | refine blk_drew ?_ | refine blk_alloc ?_ _)); exact BK179.out)) : gb180 ≠ gb179)); clear BK179; clear HB; have BK179 := n0_; have HB := n1_; have BK180 := n2_; have GW180 := n3_; have GE180 := n4_; have NB179_180 := n5_; have NB180_179 := n6_; clear n0_ n1_ n2_ n3_ n4_ n5_ n6_; clear hb hbox hg)); go_upto_region 1 with (first | ((with_reducible refine gate_dst (N := 2) rfl ?_); (try (refine gate_guard (by rfl) ?_; dsimp only)); refine box_event ?hg (N := 2) ?hd (cs := #[.int .u64 a0_0, .slice A0_1 l0_1.length c0_1]) (t := 25) ?hr ?_; (case hd => rfl); (case hg => rfl); (case hr => first | (go_simp; done) | (go_simp; rfl)); intro gb179 hg w4 hbox hb; have n0_ := Aside0.mk (below_step (by repeat (first | (with_reducible first | exact HB.out | apply below_alloc | apply pw_below_drewN | apply below_drew1) | exact HB.out)) hb); have n1_ := Aside0.mk (hbox); have n2_ := Aside0.mk ((by rw [hg]; exact (below_size (by repeat (first | (with_reducible first | exact HB.out | apply below_alloc | apply pw_below_drewN | apply below_drew1) | exact HB.out))) : w.heap.size ≤ gb179)); have n3_ := Aside0.mk ((by rw [hg]; exact (below_size (by repeat (first | (with_reducible first | exact HB.out | apply below_alloc | apply pw_below_drewN | apply below_drew1) | exact HB.out))) : w.heap.size ≤ gb179)); clear HB; have HB := n0_; have BK179 := n1_; have GW179 := n2_; have GE179 := n3_; clear n0_ n1_ n2_ n3_; clear hb hbox hg) | ((with_reducible refine gate_dst (N := 3) rfl ?_); (try (refine gate_guard (by rfl) ?_; dsimp only)); refine box_event ?hg (N := 3) ?hd (cs := #[.int .u64 a1_0, .slice A1_1 l1_1.length c1_1]) (t := 25) ?hr ?_; (case hd => rfl); (case hg => rfl); (case hr => first | (go_simp; done) | (go_simp; rfl)); intro gb180 hg w5 hbox hb; have n0_ := Aside0.mk (blk_below (g := gb179) (o := .cells #[.int .u64 a0_0, .slice A0_1 l0_1.length c0_1] 25 (0, 0)) (by (with_reducible repeat (first | refine blk_drewN ?_ _ | refine blk_drew ?_ | refine blk_alloc ?_ _)); exact BK179.out) hb); have n1_ := Aside0.mk (below_step (by repeat (first | (with_reducible first | exact HB.out | apply below_alloc | apply pw_below_drewN | apply below_drew1 | refine below_set ?_ GE179.out) | exact HB.out)) hb); have n2_ := Aside0.mk (hbox); have n3_ := Aside0.mk ((by rw [hg]; exact (below_size (by repeat (first | (with_reducible first | exact HB.out | apply below_alloc | apply pw_below_drewN | apply below_drew1 | refine below_set ?_ GE179.out) | exact HB.out))) : w.heap.size ≤ gb180)); have n4_ := Aside0.mk ((by rw [hg]; exact (below_size (by repeat (first | (with_reducible first | exact HB.out | apply below_alloc | apply pw_below_drewN | apply below_drew1 | refine below_set ?_ GE179.out) | exact HB.out))) : w.heap.size ≤ gb180)); have n5_ := Aside0.mk ((by rw [hg]; exact Nat.ne_of_lt (blk_lt (g := gb179) (o := .cells #[.int .u64 a0_0, .slice A0_1 l0_1.length c0_1] 25 (0, 0)) (by (with_reducible repeat (first | refine blk_drewN ?_ _ | refine blk_drew ?_ | refine blk_alloc ?_ _)); exact BK179.out)) : gb179 ≠ gb180)); have n6_ := Aside0.mk ((by rw [hg]; exact Nat.ne_of_gt (blk_lt (g := gb179) (o := .cells #[.int .u64 a0_0, .slice A0_1 l0_1.length c0_1] 25 (0, 0)) (by (with_reducible repeat (first | refine blk_drewN ?_ _ | refine blk_drew ?_ | refine blk_alloc ?_ _)); exact BK179.out)) : gb180 ≠ gb179)); clear BK179; clear HB; have BK179 := n0_; have HB := n1_; have BK180 := n2_; have GW180 := n3_; have GE180 := n4_; have NB179_180 := n5_; have NB180_179 := n6_; clear n0_ n1_ n2_ n3_ n4_ n5_ n6_; clear hb hbox hg)))); ((try simp only [Act.put, List.setIfInBounds_toArray, List.set_cons_zero, List.set_cons_succ])); (go_cut [19] (fun v19 wc => ∃ (kq : Nat) (x19_2 : Bool), v19 = .bool x19_2 ∧ Aside0 (lockkeeperref04_Same.j0 kq x19_2 a0_0 l0_1 a1_0 l1_1 = some r) ∧ Aside0 (kq ≤ k) ∧ Aside0 (wc.heap[gb179]? = some (.cells #[.int .u64 a0_0, (.slice A0_1 l0_1.length c0_1)] 25 (0, 0))) ∧ Aside0 (wc.heap[gb180]? = some (.cells #[.int .u64 a1_0, (.slice A1_1 l1_1.length c1_1)] 25 (0, 0))) ∧ Aside0 (Below w.heap.size w wc)))
  case first =>
    (have H := HC3.out); (clear HC3); (by_cases c6 : a0_0 = a1_0)
    · (rw [if_pos c6] at H); (have c6b0 : (a0_0 == a1_0) = true := beq_iff_eq.mpr c6); (have c6b1 : (a0_0 != a1_0) = false := bne_eq_false_iff_eq.mpr c6); (clear c6); ((first | rw [c6b0] | (simp only [i64_w, i32_w]; rw [c6b0]) | skip)); (have H' := Aside0.mk H); (clear H); (have hnb7 := NB179_180.out); (have hnc7 := NB180_179.out); (have hcz8_0 : w5.cell? ⟨gb179, 0, none⟩ = some (.int .u64 a0_0) := (blk_cell BK179.out 0).trans rfl); (have hcz8_1 : w5.cell? ⟨gb179, 1, none⟩ = some (.slice A0_1 l0_1.length c0_1) := (blk_cell BK179.out 1).trans rfl); (have hfz8_0 := blk_frozen BK179.out 0); (have hfz8_1 := blk_frozen BK179.out 1); (have hcz9_0 : w5.cell? ⟨gb180, 0, none⟩ = some (.int .u64 a1_0) := (blk_cell BK180.out 0).trans rfl); (have hcz9_1 : w5.cell? ⟨gb180, 1, none⟩ = some (.slice A1_1 l1_1.length c1_1) := (blk_cell BK180.out 1).trans rfl); (have hfz9_0 := blk_frozen BK180.out 0); (have hfz9_1 := blk_frozen BK180.out 1); (go_wp2); (repeat (go_quiet (fail); try go_wp2)); (go_meet)
      case rel => exact ⟨_, (((l0_1.length : Int) != (l1_1.length : Int))), (by first | rfl | (simp; done) | (simp [*]; done)), H', ⟨by first | omega | exact Nat.le_refl _⟩, ⟨by (with_reducible repeat (first | refine blk_drewN ?_ _ | refine blk_drew ?_ | refine blk_alloc ?_ _)); exact BK179.out⟩, ⟨by (with_reducible repeat (first | refine blk_drewN ?_ _ | refine blk_drew ?_ | refine blk_alloc ?_ _)); exact BK180.out⟩, ⟨by repeat (first | (with_reducible first | exact HB.out | apply below_alloc | apply pw_below_drewN | apply below_drew1 | refine below_set ?_ GE179.out | refine below_set ?_ GE180.out) | exact HB.out)⟩⟩
    · (rw [if_neg c6] at H); (have c6b0 : (a0_0 == a1_0) = false := beq_eq_false_iff_ne.mpr c6); (have c6b1 : (a0_0 != a1_0) = true := bne_iff_ne.mpr c6); ((first | rw [c6b0] | (simp only [i64_w, i32_w]; rw [c6b0]) | skip)); (have H' := Aside0.mk H); (clear H); (have hnb10 := NB179_180.out); (have hnc10 := NB180_179.out); (have hcz11_0 : w5.cell? ⟨gb179, 0, none⟩ = some (.int .u64 a0_0) := (blk_cell BK179.out 0).trans rfl); (have hcz11_1 : w5.cell? ⟨gb179, 1, none⟩ = some (.slice A0_1 l0_1.length c0_1) := (blk_cell BK179.out 1).trans rfl); (have hfz11_0 := blk_frozen BK179.out 0); (have hfz11_1 := blk_frozen BK179.out 1); (have hcz12_0 : w5.cell? ⟨gb180, 0, none⟩ = some (.int .u64 a1_0) := (blk_cell BK180.out 0).trans rfl); (have hcz12_1 : w5.cell? ⟨gb180, 1, none⟩ = some (.slice A1_1 l1_1.length c1_1) := (blk_cell BK180.out 1).trans rfl); (have hfz12_0 := blk_frozen BK180.out 0); (have hfz12_1 := blk_frozen BK180.out 1); (go_wp2); (repeat (go_quiet (fail); try go_wp2)); (go_meet)
      case rel => exact ⟨_, (true), (by first | rfl | (simp; done) | (simp [*]; done)), H', ⟨by first | omega | exact Nat.le_refl _⟩, ⟨by (with_reducible repeat (first | refine blk_drewN ?_ _ | refine blk_drew ?_ | refine blk_alloc ?_ _)); exact BK179.out⟩, ⟨by (with_reducible repeat (first | refine blk_drewN ?_ _ | refine blk_drew ?_ | refine blk_alloc ?_ _)); exact BK180.out⟩, ⟨by repeat (first | (with_reducible first | exact HB.out | apply below_alloc | apply pw_below_drewN | apply below_drew1 | refine below_set ?_ GE179.out | refine below_set ?_ GE180.out) | exact HB.out)⟩⟩
  case rest =>
    (clear HC3); (try clear c1); (try clear c2); (try clear p2); (try clear c6); (try clear c6b0); (try clear c6b1); (try clear c7); (try clear c10); (try clear hcz11_0); (try clear hcz11_1); (try clear hcz12_0); (try clear hcz12_1); (try clear hcz8_0); (try clear hcz8_1); (try clear hcz9_0); (try clear hcz9_1); (try clear hfz11_0); (try clear hfz11_1); (try clear hfz12_0); (try clear hfz12_1); (try clear hfz8_0); (try clear hfz8_1); (try clear hfz9_0); (try clear hfz9_1); (obtain ⟨kq, x19_2, rfl, HA, HJ2, BK179, BK180, HB⟩ := hcut)
    cases kq with
    | zero => exact absurd HA.out (by simp [lockkeeperref04_Same.j0])
    | succ kj2 =>
      (have H := HA.out); (clear HA); (simp only [lockkeeperref04_Same.j0] at H); (by_cases c13 : x19_2 = true)
      · (subst c13); (have H1 : (some false) = some r := by rw [if_pos rfl] at H; exact H); (clear H); (have H := H1); (clear H1); (obtain rfl := Option.some.inj H); (go_wp2); (repeat (go_quiet (fail); try go_wp2)); (go_ret); (exact ⟨by first | rfl | (simp [errW_none, errW_some] <;> rfl) | (simp [*, errW_none, errW_some] <;> rfl), by repeat (first | (with_reducible first | exact HB.out | apply below_alloc | apply pw_below_drewN | apply below_drew1 | refine below_set ?_ GE179.out | refine below_set ?_ GE180.out) | exact HB.out)⟩)
      · (replace c13 := Bool.eq_false_iff.mpr c13); (subst c13); (have H1 : (lockkeeperref04_Same.l0 kj2 0 a0_0 l0_1 a1_0 l1_1) = some r := by rw [if_neg (show ¬ (false = true) by decide)] at H; exact H); (clear H); (have H := H1); (clear H1); (have H' := Aside0.mk H); (clear H); (go_wp2); (repeat (go_quiet (fail); try go_wp2)); (go_loopg [5] kj2 (fun kq v5 w' => ∃ (x5_2 : Int), v5 = .int .i64 x5_2 ∧ Aside0 (lockkeeperref04_Same.l0 kq x5_2 a0_0 l0_1 a1_0 l1_1 = some r) ∧ Aside0 (kq ≤ kj2) ∧ Aside0 (w'.heap[gb179]? = some (.cells #[.int .u64 a0_0, (.slice A0_1 l0_1.length c0_1)] 25 (0, 0))) ∧ Aside0 (w'.heap[gb180]? = some (.cells #[.int .u64 a1_0, (.slice A1_1 l1_1.length c1_1)] 25 (0, 0))) ∧ Aside0 (Below w.heap.size w w')))
        case atStart => exact ⟨(0), (by first | rfl | (simp; done) | (simp [*]; done)), H', ⟨Nat.le_refl _⟩, ⟨by (with_reducible repeat (first | refine blk_drewN ?_ _ | refine blk_drew ?_ | refine blk_alloc ?_ _)); exact BK179.out⟩, ⟨by (with_reducible repeat (first | refine blk_drewN ?_ _ | refine blk_drew ?_ | refine blk_alloc ?_ _)); exact BK180.out⟩, ⟨by repeat (first | (with_reducible first | exact HB.out | apply below_alloc | apply pw_below_drewN | apply below_drew1 | refine below_set ?_ GE179.out | refine below_set ?_ GE180.out) | exact HB.out)⟩⟩
        case round =>
          (clear H'); (try clear c1); (try clear c2); (try clear p2); (try clear c6); (try clear c6b0); (try clear c6b1); (try clear c7); (try clear c10); (try clear c13); (try clear hcz11_0); (try clear hcz11_1); (try clear hcz12_0); (try clear hcz12_1); (try clear hcz8_0); (try clear hcz8_1); (try clear hcz9_0); (try clear hcz9_1); (try clear hfz11_0); (try clear hfz11_1); (try clear hfz12_0); (try clear hfz12_1); (try clear hfz8_0); (try clear hfz8_1); (try clear hfz9_0); (try clear hfz9_1); (try clear p2); (obtain ⟨x5_2, rfl, HA, HK2, BK179, BK180, HB⟩ := hrel)
          cases gk with
          | zero => exact absurd HA.out (by simp [lockkeeperref04_Same.l0])
          | succ k2 =>
            (have H := HA.out); (clear HA); (simp only [lockkeeperref04_Same.l0] at H); (by_cases c14 : x5_2 < (l0_1.length : Int))
            · (rw [if_pos c14] at H); (have c14b0 : decide (x5_2 < (l0_1.length : Int)) = true := decide_eq_true c14); (clear c14); (by_cases c15 : 0 ≤ x5_2)
              · (rw [if_pos c15] at H); (have c15b0 : decide (0 ≤ x5_2) = true := decide_eq_true c15); (clear c15); (by_cases c16 : x5_2 < (l1_1.length : Int))
                · (rw [if_pos c16] at H); (have c16b0 : decide (x5_2 < (l1_1.length : Int)) = true := decide_eq_true c16); (clear c16); (by_cases c17 : (rd l0_1 x5_2) = (rd l1_1 x5_2))
                  · (rw [if_pos c17] at H); (have c17b0 : ((rd l0_1 x5_2) == (rd l1_1 x5_2)) = true := beq_iff_eq.mpr c17); (have c17b1 : ((rd l0_1 x5_2) != (rd l1_1 x5_2)) = false := bne_eq_false_iff_eq.mpr c17); (clear c17); (have H' := Aside0.mk H); (clear H); (have hnb18 := NB179_180.out); (have hnc18 := NB180_179.out); (have hcz19_0 : wr.cell? ⟨gb179, 0, none⟩ = some (.int .u64 a0_0) := (blk_cell BK179.out 0).trans rfl); (have hcz19_1 : wr.cell? ⟨gb179, 1, none⟩ = some (.slice A0_1 l0_1.length c0_1) := (blk_cell BK179.out 1).trans rfl); (have hfz19_0 := blk_frozen BK179.out 0); (have hfz19_1 := blk_frozen BK179.out 1); (have p181 : 0 ≤ (x5_2 : Int) := of_decide_eq_true (by first | (with_reducible assumption) | assumption)); (have q181 : x5_2 < (l0_1.length : Int) := of_decide_eq_true (by first | (with_reducible assumption) | assumption)); (obtain ⟨ad181, e181, hx181_0⟩ := Kd.at_int HR0_1.out x5_2 p181 q181); (cases e181); (replace hx181_0 := (HB.out.cell (World.block_lt_of_cell? w _ hx181_0)).trans hx181_0); (replace p181 := eq_true p181); (replace q181 := eq_true q181); (have hcz20_0 : wr.cell? ⟨gb180, 0, none⟩ = some (.int .u64 a1_0) := (blk_cell BK180.out 0).trans rfl); (have hcz20_1 : wr.cell? ⟨gb180, 1, none⟩ = some (.slice A1_1 l1_1.length c1_1) := (blk_cell BK180.out 1).trans rfl); (have hfz20_0 := blk_frozen BK180.out 0); (have hfz20_1 := blk_frozen BK180.out 1); (have p182 : 0 ≤ (x5_2 : Int) := of_decide_eq_true (by first | (with_reducible assumption) | assumption)); (have q182 : x5_2 < (l1_1.length : Int) := of_decide_eq_true (by first | (with_reducible assumption) | assumption)); (obtain ⟨ad182, e182, hx182_0⟩ := Kd.at_int HR1_1.out x5_2 p182 q182); (cases e182); (replace hx182_0 := (HB.out.cell (World.block_lt_of_cell? w _ hx182_0)).trans hx182_0); (replace p182 := eq_true p182); (replace q182 := eq_true q182); (go_wp2); (repeat (go_quiet (fail); try go_wp2)); (go_roundg k2)
                    case measure => have := HJ2.out; have := HK2.out; omega
                    case rel => exact ⟨(wrap64 (x5_2 + 1)), (by first | rfl | (simp; done) | (simp [*]; done)), H', ⟨by have := HJ2.out; have := HK2.out; omega⟩, ⟨by (with_reducible repeat (first | refine blk_drewN ?_ _ | refine blk_drew ?_ | refine blk_alloc ?_ _)); exact BK179.out⟩, ⟨by (with_reducible repeat (first | refine blk_drewN ?_ _ | refine blk_drew ?_ | refine blk_alloc ?_ _)); exact BK180.out⟩, ⟨by repeat (first | (with_reducible first | exact HB.out | apply below_alloc | apply pw_below_drewN | apply below_drew1 | refine below_set ?_ GE179.out | refine below_set ?_ GE180.out) | exact HB.out)⟩⟩
                  · (rw [if_neg c17] at H); (have c17b0 : ((rd l0_1 x5_2) == (rd l1_1 x5_2)) = false := beq_eq_false_iff_ne.mpr c17); (have c17b1 : ((rd l0_1 x5_2) != (rd l1_1 x5_2)) = true := bne_iff_ne.mpr c17); (obtain rfl := Option.some.inj H); (have hnb21 := NB179_180.out); (have hnc21 := NB180_179.out); (have hcz22_0 : wr.cell? ⟨gb179, 0, none⟩ = some (.int .u64 a0_0) := (blk_cell BK179.out 0).trans rfl); (have hcz22_1 : wr.cell? ⟨gb179, 1, none⟩ = some (.slice A0_1 l0_1.length c0_1) := (blk_cell BK179.out 1).trans rfl); (have hfz22_0 := blk_frozen BK179.out 0); (have hfz22_1 := blk_frozen BK179.out 1); (have p181 : 0 ≤ (x5_2 : Int) := of_decide_eq_true (by first | (with_reducible assumption) | assumption)); (have q181 : x5_2 < (l0_1.length : Int) := of_decide_eq_true (by first | (with_reducible assumption) | assumption)); (obtain ⟨ad181, e181, hx181_0⟩ := Kd.at_int HR0_1.out x5_2 p181 q181); (cases e181); (replace hx181_0 := (HB.out.cell (World.block_lt_of_cell? w _ hx181_0)).trans hx181_0); (replace p181 := eq_true p181); (replace q181 := eq_true q181); (have hcz23_0 : wr.cell? ⟨gb180, 0, none⟩ = some (.int .u64 a1_0) := (blk_cell BK180.out 0).trans rfl); (have hcz23_1 : wr.cell? ⟨gb180, 1, none⟩ = some (.slice A1_1 l1_1.length c1_1) := (blk_cell BK180.out 1).trans rfl); (have hfz23_0 := blk_frozen BK180.out 0); (have hfz23_1 := blk_frozen BK180.out 1); (have p182 : 0 ≤ (x5_2 : Int) := of_decide_eq_true (by first | (with_reducible assumption) | assumption)); (have q182 : x5_2 < (l1_1.length : Int) := of_decide_eq_true (by first | (with_reducible assumption) | assumption)); (obtain ⟨ad182, e182, hx182_0⟩ := Kd.at_int HR1_1.out x5_2 p182 q182); (cases e182); (replace hx182_0 := (HB.out.cell (World.block_lt_of_cell? w _ hx182_0)).trans hx182_0); (replace p182 := eq_true p182); (replace q182 := eq_true q182); (go_wp2); (repeat (go_quiet (fail); try go_wp2)); (go_ret); (exact ⟨by first | rfl | (simp [errW_none, errW_some] <;> rfl) | (simp [*, errW_none, errW_some] <;> rfl), by repeat (first | (with_reducible first | exact HB.out | apply below_alloc | apply pw_below_drewN | apply below_drew1 | refine below_set ?_ GE179.out | refine below_set ?_ GE180.out) | exact HB.out)⟩)
                · (rw [if_neg c16] at H); (exact absurd H (by simp))
              · (rw [if_neg c15] at H); (exact absurd H (by simp))
            · (rw [if_neg c14] at H); (have c14b0 : decide (x5_2 < (l0_1.length : Int)) = false := decide_eq_false c14); (clear c14); (obtain rfl := Option.some.inj H); (have hnb24 := NB179_180.out); (have hnc24 := NB180_179.out); (have hcz25_0 : wr.cell? ⟨gb179, 0, none⟩ = some (.int .u64 a0_0) := (blk_cell BK179.out 0).trans rfl); (have hcz25_1 : wr.cell? ⟨gb179, 1, none⟩ = some (.slice A0_1 l0_1.length c0_1) := (blk_cell BK179.out 1).trans rfl); (have hfz25_0 := blk_frozen BK179.out 0); (have hfz25_1 := blk_frozen BK179.out 1); (go_wp2); (repeat (go_quiet (fail); try go_wp2)); (go_ret); (exact ⟨by first | rfl | (simp [errW_none, errW_some] <;> rfl) | (simp [*, errW_none, errW_some] <;> rfl), by repeat (first | (with_reducible first | exact HB.out | apply below_alloc | apply pw_below_drewN | apply below_drew1 | refine below_set ?_ GE179.out | refine below_set ?_ GE180.out) | exact HB.out)⟩)

/-! ### lockkeeperref04_Right: function 28 -/
def lockkeeperref04_Right.l0 : Nat → Int → Int → List Int → Option (Bool)
  | 0, _, _, _ => none
  | k + 1, x3, x184000, x184001 => if x3 < (x184001.length : Int) then (if 0 ≤ x3 then (if (rd x184001 x3) ≤ x184000 then (some false) else (if x3 > 0 then (if 0 ≤ (wrap64 (x3 - 1)) then (if (wrap64 (x3 - 1)) < (x184001.length : Int) then (if (rd x184001 x3) ≤ (rd x184001 (wrap64 (x3 - 1))) then (some false) else (lockkeeperref04_Right.l0 k (wrap64 (x3 + 1)) x184000 x184001)) else (none)) else (none)) else (lockkeeperref04_Right.l0 k (wrap64 (x3 + 1)) x184000 x184001))) else (none)) else (some true)
def lockkeeperref04_Right.f (k : Nat) (a0_0 : Int) (l0_1 : List Int) : Option (Bool) := if (l0_1.length : Int) > 1000 then (some false) else (lockkeeperref04_Right.l0 k 0 a0_0 l0_1)
theorem lockkeeperref04_Right.mono_l : ∀ k, (∀ y0 y1 y2, LeO (lockkeeperref04_Right.l0 k y0 y1 y2) (lockkeeperref04_Right.l0 (k + 1) y0 y1 y2))
  | 0 => fun _ _ _ r h => by simp [lockkeeperref04_Right.l0] at h
  | k + 1 => by
    have ih0 := lockkeeperref04_Right.mono_l k
    · intro y0 y1 y2
      unfold lockkeeperref04_Right.l0
      repeat' first
      | (with_reducible exact ih0 _ _ _)
      | (with_reducible exact LeO.refl _)
      | (with_reducible exact LeO.none _)
      | (with_reducible refine LeO.ite ?_ ?_)
      | (with_reducible refine LeO.bind ?_ (fun _ => ?_))
      | exact ih0 _ _ _
      | exact LeO.none _
      | refine LeO.ite ?_ ?_
      | refine LeO.bind ?_ (fun _ => ?_)
theorem lockkeeperref04_Right.mono : ∀ a0 a1 k, LeO (lockkeeperref04_Right.f k a0 a1) (lockkeeperref04_Right.f (k + 1) a0 a1) := by
  intro a0 a1 k
  have ih0 := lockkeeperref04_Right.mono_l k
  unfold lockkeeperref04_Right.f
  repeat' first
      | (with_reducible exact ih0 _ _ _)
      | (with_reducible exact LeO.refl _)
      | (with_reducible exact LeO.none _)
      | (with_reducible refine LeO.ite ?_ ?_)
      | (with_reducible refine LeO.bind ?_ (fun _ => ?_))
      | exact ih0 _ _ _
      | exact LeO.none _
      | refine LeO.ite ?_ ?_
      | refine LeO.bind ?_ (fun _ => ?_)
set_option maxHeartbeats 8000000 in
set_option maxRecDepth 100000 in
theorem lockkeeperref04_Right.calls (k : Nat) (a0_0 : Int) (A0_1 : Option Addr) (c0_1 : Nat) (l0_1 : List Int) (r : Bool) (w : World) (hr0_1 : Kd.C (Kd.int .u64) w A0_1 l0_1.length l0_1) (hc0_1 : l0_1.length ≤ c0_1) (h : lockkeeperref04_Right.f k a0_0 l0_1 = some r) :
    Calls Try.prog 28 #[.agg #[.int .u64 a0_0, .slice A0_1 l0_1.length c0_1]] w fun e w' => e = .returned (.bool r) ∧ Below w.heap.size w w' := by
  (have hu25 := Try.underlying25); (have HR0_1 := Aside0.mk hr0_1); (have HC0_1 := Aside0.mk hc0_1); (clear hr0_1 hc0_1); (have HB := Aside0.mk (Below.refl w.heap.size w)); (have H : (if (l0_1.length : Int) > 1000 then (some false) else (lockkeeperref04_Right.l0 k 0 a0_0 l0_1)) = some r := h); (clear h); (by_cases c2 : (l0_1.length : Int) > 1000)
  · (rw [if_pos c2] at H); (have c2b0 : decide (1000 < (l0_1.length : Int)) = true := decide_eq_true c2); (have c2b1 : decide (1000 < l0_1.length) = true := decide_eq_true (by omega)); (clear c2); (obtain rfl := Option.some.inj H); (go_enter Try.func28, Try.ntmps28); (go_wp2_with (first | ((with_reducible refine gate_dst (N := 1) rfl ?_); refine box_event ?hg (N := 1) ?hd (cs := #[.int .u64 a0_0, .slice A0_1 l0_1.length c0_1]) (t := 25) ?hr ?_; (case hd => rfl); (case hg => rfl); (case hr => first | (go_simp; done) | (go_simp; rfl)); intro gb183 hg w3 hbox hb; have n0_ := Aside0.mk (below_step (by repeat (first | (with_reducible first | exact HB.out | apply below_alloc | apply pw_below_drewN | apply below_drew1) | exact HB.out)) hb); have n1_ := Aside0.mk (hbox); have n2_ := Aside0.mk ((by rw [hg]; exact (below_size (by repeat (first | (with_reducible first | exact HB.out | apply below_alloc | apply pw_below_drewN | apply below_drew1) | exact HB.out))) : w.heap.size ≤ gb183)); have n3_ := Aside0.mk ((by rw [hg]; exact (below_size (by repeat (first | (with_reducible first | exact HB.out | apply below_alloc | apply pw_below_drewN | apply below_drew1) | exact HB.out))) : w.heap.size ≤ gb183)); clear HB; have HB := n0_; have BK183 := n1_; have GW183 := n2_; have GE183 := n3_; clear n0_ n1_ n2_ n3_; clear hb hbox hg; have hcz4_0 : w3.cell? ⟨gb183, 0, none⟩ = some (.int .u64 a0_0) := (blk_cell BK183.out 0).trans rfl; have hcz4_1 : w3.cell? ⟨gb183, 1, none⟩ = some (.slice A0_1 l0_1.length c0_1) := (blk_cell BK183.out 1).trans rfl; have hfz4_0 := blk_frozen BK183.out 0; have hfz4_1 := blk_frozen BK183.out 1))); (repeat (go_quiet (first | ((with_reducible refine gate_dst (N := 1) rfl ?_); refine box_event ?hg (N := 1) ?hd (cs := #[.int .u64 a0_0, .slice A0_1 l0_1.length c0_1]) (t := 25) ?hr ?_; (case hd => rfl); (case hg => rfl); (case hr => first | (go_simp; done) | (go_simp; rfl)); intro gb183 hg w3 hbox hb; have n0_ := Aside0.mk (below_step (by repeat (first | (with_reducible first | exact HB.out | apply below_alloc | apply pw_below_drewN | apply below_drew1) | exact HB.out)) hb); have n1_ := Aside0.mk (hbox); have n2_ := Aside0.mk ((by rw [hg]; exact (below_size (by repeat (first | (with_reducible first | exact HB.out | apply below_alloc | apply pw_below_drewN | apply below_drew1) | exact HB.out))) : w.heap.size ≤ gb183)); have n3_ := Aside0.mk ((by rw [hg]; exact (below_size (by repeat (first | (with_reducible first | exact HB.out | apply below_alloc | apply pw_below_drewN | apply below_drew1) | exact HB.out))) : w.heap.size ≤ gb183)); clear HB; have HB := n0_; have BK183 := n1_; have GW183 := n2_; have GE183 := n3_; clear n0_ n1_ n2_ n3_; clear hb hbox hg; have hcz4_0 : w3.cell? ⟨gb183, 0, none⟩ = some (.int .u64 a0_0) := (blk_cell BK183.out 0).trans rfl; have hcz4_1 : w3.cell? ⟨gb183, 1, none⟩ = some (.slice A0_1 l0_1.length c0_1) := (blk_cell BK183.out 1).trans rfl; have hfz4_0 := blk_frozen BK183.out 0; have hfz4_1 := blk_frozen BK183.out 1)); try go_wp2_with (first | ((with_reducible refine gate_dst (N := 1) rfl ?_); refine box_event ?hg (N := 1) ?hd (cs := #[.int .u64 a0_0, .slice A0_1 l0_1.length c0_1]) (t := 25) ?hr ?_; (case hd => rfl); (case hg => rfl); (case hr => first | (go_simp; done) | (go_simp; rfl)); intro gb183 hg w3 hbox hb; have n0_ := Aside0.mk (below_step (by repeat (first | (with_reducible first | exact HB.out | apply below_alloc | apply pw_below_drewN | apply below_drew1) | exact HB.out)) hb); have n1_ := Aside0.mk (hbox); have n2_ := Aside0.mk ((by rw [hg]; exact (below_size (by repeat (first | (with_reducible first | exact HB.out | apply below_alloc | apply pw_below_drewN | apply below_drew1) | exact HB.out))) : w.heap.size ≤ gb183)); have n3_ := Aside0.mk ((by rw [hg]; exact (below_size (by repeat (first | (with_reducible first | exact HB.out | apply below_alloc | apply pw_below_drewN | apply below_drew1) | exact HB.out))) : w.heap.size ≤ gb183)); clear HB; have HB := n0_; have BK183 := n1_; have GW183 := n2_; have GE183 := n3_; clear n0_ n1_ n2_ n3_; clear hb hbox hg; have hcz4_0 : w3.cell? ⟨gb183, 0, none⟩ = some (.int .u64 a0_0) := (blk_cell BK183.out 0).trans rfl; have hcz4_1 : w3.cell? ⟨gb183, 1, none⟩ = some (.slice A0_1 l0_1.length c0_1) := (blk_cell BK183.out 1).trans rfl; have hfz4_0 := blk_frozen BK183.out 0; have hfz4_1 := blk_frozen BK183.out 1)))); (go_ret); (exact ⟨by first | rfl | (simp [errW_none, errW_some] <;> rfl) | (simp [*, errW_none, errW_some] <;> rfl), by repeat (first | (with_reducible first | exact HB.out | apply below_alloc | apply pw_below_drewN | apply below_drew1 | refine below_set ?_ GE183.out) | exact HB.out)⟩)
  · (rw [if_neg c2] at H); (have c2b0 : decide (1000 < (l0_1.length : Int)) = false := decide_eq_false c2); (have c2b1 : decide (1000 < l0_1.length) = false := decide_eq_false (by omega)); (clear c2); (have H' := Aside0.mk H); (clear H); (go_enter Try.func28, Try.ntmps28); (go_wp2_with (first | ((with_reducible refine gate_dst (N := 1) rfl ?_); refine box_event ?hg (N := 1) ?hd (cs := #[.int .u64 a0_0, .slice A0_1 l0_1.length c0_1]) (t := 25) ?hr ?_; (case hd => rfl); (case hg => rfl); (case hr => first | (go_simp; done) | (go_simp; rfl)); intro gb183 hg w5 hbox hb; have n0_ := Aside0.mk (below_step (by repeat (first | (with_reducible first | exact HB.out | apply below_alloc | apply pw_below_drewN | apply below_drew1) | exact HB.out)) hb); have n1_ := Aside0.mk (hbox); have n2_ := Aside0.mk ((by rw [hg]; exact (below_size (by repeat (first | (with_reducible first | exact HB.out | apply below_alloc | apply pw_below_drewN | apply below_drew1) | exact HB.out))) : w.heap.size ≤ gb183)); have n3_ := Aside0.mk ((by rw [hg]; exact (below_size (by repeat (first | (with_reducible first | exact HB.out | apply below_alloc | apply pw_below_drewN | apply below_drew1) | exact HB.out))) : w.heap.size ≤ gb183)); clear HB; have HB := n0_; have BK183 := n1_; have GW183 := n2_; have GE183 := n3_; clear n0_ n1_ n2_ n3_; clear hb hbox hg; have hcz6_0 : w5.cell? ⟨gb183, 0, none⟩ = some (.int .u64 a0_0) := (blk_cell BK183.out 0).trans rfl; have hcz6_1 : w5.cell? ⟨gb183, 1, none⟩ = some (.slice A0_1 l0_1.length c0_1) := (blk_cell BK183.out 1).trans rfl; have hfz6_0 := blk_frozen BK183.out 0; have hfz6_1 := blk_frozen BK183.out 1))); (repeat (go_quiet (first | ((with_reducible refine gate_dst (N := 1) rfl ?_); refine box_event ?hg (N := 1) ?hd (cs := #[.int .u64 a0_0, .slice A0_1 l0_1.length c0_1]) (t := 25) ?hr ?_; (case hd => rfl); (case hg => rfl); (case hr => first | (go_simp; done) | (go_simp; rfl)); intro gb183 hg w5 hbox hb; have n0_ := Aside0.mk (below_step (by repeat (first | (with_reducible first | exact HB.out | apply below_alloc | apply pw_below_drewN | apply below_drew1) | exact HB.out)) hb); have n1_ := Aside0.mk (hbox); have n2_ := Aside0.mk ((by rw [hg]; exact (below_size (by repeat (first | (with_reducible first | exact HB.out | apply below_alloc | apply pw_below_drewN | apply below_drew1) | exact HB.out))) : w.heap.size ≤ gb183)); have n3_ := Aside0.mk ((by rw [hg]; exact (below_size (by repeat (first | (with_reducible first | exact HB.out | apply below_alloc | apply pw_below_drewN | apply below_drew1) | exact HB.out))) : w.heap.size ≤ gb183)); clear HB; have HB := n0_; have BK183 := n1_; have GW183 := n2_; have GE183 := n3_; clear n0_ n1_ n2_ n3_; clear hb hbox hg; have hcz6_0 : w5.cell? ⟨gb183, 0, none⟩ = some (.int .u64 a0_0) := (blk_cell BK183.out 0).trans rfl; have hcz6_1 : w5.cell? ⟨gb183, 1, none⟩ = some (.slice A0_1 l0_1.length c0_1) := (blk_cell BK183.out 1).trans rfl; have hfz6_0 := blk_frozen BK183.out 0; have hfz6_1 := blk_frozen BK183.out 1)); try go_wp2_with (first | ((with_reducible refine gate_dst (N := 1) rfl ?_); refine box_event ?hg (N := 1) ?hd (cs := #[.int .u64 a0_0, .slice A0_1 l0_1.length c0_1]) (t := 25) ?hr ?_; (case hd => rfl); (case hg => rfl); (case hr => first | (go_simp; done) | (go_simp; rfl)); intro gb183 hg w5 hbox hb; have n0_ := Aside0.mk (below_step (by repeat (first | (with_reducible first | exact HB.out | apply below_alloc | apply pw_below_drewN | apply below_drew1) | exact HB.out)) hb); have n1_ := Aside0.mk (hbox); have n2_ := Aside0.mk ((by rw [hg]; exact (below_size (by repeat (first | (with_reducible first | exact HB.out | apply below_alloc | apply pw_below_drewN | apply below_drew1) | exact HB.out))) : w.heap.size ≤ gb183)); have n3_ := Aside0.mk ((by rw [hg]; exact (below_size (by repeat (first | (with_reducible first | exact HB.out | apply below_alloc | apply pw_below_drewN | apply below_drew1) | exact HB.out))) : w.heap.size ≤ gb183)); clear HB; have HB := n0_; have BK183 := n1_; have GW183 := n2_; have GE183 := n3_; clear n0_ n1_ n2_ n3_; clear hb hbox hg; have hcz6_0 : w5.cell? ⟨gb183, 0, none⟩ = some (.int .u64 a0_0) := (blk_cell BK183.out 0).trans rfl; have hcz6_1 : w5.cell? ⟨gb183, 1, none⟩ = some (.slice A0_1 l0_1.length c0_1) := (blk_cell BK183.out 1).trans rfl; have hfz6_0 := blk_frozen BK183.out 0; have hfz6_1 := blk_frozen BK183.out 1)))); (go_loopg [3] k (fun kq v3 w' => ∃ (x3_1 : Int), v3 = .int .i64 x3_1 ∧ Aside0 (lockkeeperref04_Right.l0 kq x3_1 a0_0 l0_1 = some r) ∧ Aside0 (kq ≤ k) ∧ Aside0 (w'.heap[gb183]? = some (.cells #[.int .u64 a0_0, (.slice A0_1 l0_1.length c0_1)] 25 (0, 0))) ∧ Aside0 (Below w.heap.size w w')))
    case atStart => exact ⟨(0), (by first | rfl | (simp; done) | (simp [*]; done)), H', ⟨Nat.le_refl _⟩, ⟨by (with_reducible repeat (first | refine blk_drewN ?_ _ | refine blk_drew ?_ | refine blk_alloc ?_ _)); exact BK183.out⟩, ⟨by repeat (first | (with_reducible first | exact HB.out | apply below_alloc | apply pw_below_drewN | apply below_drew1 | refine below_set ?_ GE183.out) | exact HB.out)⟩⟩
    case round =>
      (clear H'); (try clear c2); (try clear c2b0); (try clear c2b1); (try clear p2); (try clear hcz4_0); (try clear hcz4_1); (try clear hcz6_0); (try clear hcz6_1); (try clear hfz4_0); (try clear hfz4_1); (try clear hfz6_0); (try clear hfz6_1); (obtain ⟨x3_1, rfl, HA, HK1, BK183, HB⟩ := hrel)
      cases gk with
      | zero => exact absurd HA.out (by simp [lockkeeperref04_Right.l0])
      | succ k1 =>
        (have H := HA.out); (clear HA); (simp only [lockkeeperref04_Right.l0] at H); (by_cases c7 : x3_1 < (l0_1.length : Int))
        · (rw [if_pos c7] at H); (have c7b0 : decide (x3_1 < (l0_1.length : Int)) = true := decide_eq_true c7); (clear c7); (by_cases c8 : 0 ≤ x3_1)
          · (rw [if_pos c8] at H); (have c8b0 : decide (0 ≤ x3_1) = true := decide_eq_true c8); (clear c8); (by_cases c9 : (rd l0_1 x3_1) ≤ a0_0)
            · (rw [if_pos c9] at H); (have c9b0 : decide ((rd l0_1 x3_1) ≤ a0_0) = true := decide_eq_true c9); (clear c9); (obtain rfl := Option.some.inj H); (have hcz10_0 : wr.cell? ⟨gb183, 0, none⟩ = some (.int .u64 a0_0) := (blk_cell BK183.out 0).trans rfl); (have hcz10_1 : wr.cell? ⟨gb183, 1, none⟩ = some (.slice A0_1 l0_1.length c0_1) := (blk_cell BK183.out 1).trans rfl); (have hfz10_0 := blk_frozen BK183.out 0); (have hfz10_1 := blk_frozen BK183.out 1); (have p184 : 0 ≤ (x3_1 : Int) := of_decide_eq_true (by first | (with_reducible assumption) | assumption)); (have q184 : x3_1 < (l0_1.length : Int) := of_decide_eq_true (by first | (with_reducible assumption) | assumption)); (obtain ⟨ad184, e184, hx184_0⟩ := Kd.at_int HR0_1.out x3_1 p184 q184); (cases e184); (replace hx184_0 := (HB.out.cell (World.block_lt_of_cell? w _ hx184_0)).trans hx184_0); (replace p184 := eq_true p184); (replace q184 := eq_true q184); (go_wp2); (repeat (go_quiet (fail); try go_wp2)); (go_ret); (exact ⟨by first | rfl | (simp [errW_none, errW_some] <;> rfl) | (simp [*, errW_none, errW_some] <;> rfl), by repeat (first | (with_reducible first | exact HB.out | apply below_alloc | apply pw_below_drewN | apply below_drew1 | refine below_set ?_ GE183.out) | exact HB.out)⟩)
            · (rw [if_neg c9] at H); (have c9b0 : decide ((rd l0_1 x3_1) ≤ a0_0) = false := decide_eq_false c9); (clear c9); (by_cases c11 : x3_1 > 0)
              · (rw [if_pos c11] at H); (have c11b0 : decide (0 < x3_1) = true := decide_eq_true c11); (clear c11); (obtain ⟨ji12, hji12⟩ : ∃ j_ : Int, (wrap64 (x3_1 - 1)) = j_ := ⟨_, rfl⟩); (replace H : (if 0 ≤ (ji12) then (if (ji12) < (l0_1.length : Int) then (if (rd l0_1 x3_1) ≤ (rd l0_1 (ji12)) then (some false) else (lockkeeperref04_Right.l0 k1 (wrap64 (x3_1 + 1)) a0_0 l0_1)) else (none)) else (none)) = some r := by first | (rw [hji12] at H; exact H) | (simp only [hji12] at H ⊢; exact H)); (have hji12w : (IntKind.i64.wrap (x3_1 - 1)) = ji12 := (i64_w _).trans hji12); (by_cases c13 : 0 ≤ (ji12))
                · (rw [if_pos c13] at H); (have c13b0 : decide (0 ≤ (ji12)) = true := decide_eq_true c13); (clear c13); (by_cases c14 : (ji12) < (l0_1.length : Int))
                  · (rw [if_pos c14] at H); (have c14b0 : decide ((ji12) < (l0_1.length : Int)) = true := decide_eq_true c14); (clear c14); (by_cases c15 : (rd l0_1 x3_1) ≤ (rd l0_1 (ji12)))
                    · (rw [if_pos c15] at H); (have c15b0 : decide ((rd l0_1 x3_1) ≤ (rd l0_1 (ji12))) = true := decide_eq_true c15); (clear c15); (obtain rfl := Option.some.inj H); (have hcz16_0 : wr.cell? ⟨gb183, 0, none⟩ = some (.int .u64 a0_0) := (blk_cell BK183.out 0).trans rfl); (have hcz16_1 : wr.cell? ⟨gb183, 1, none⟩ = some (.slice A0_1 l0_1.length c0_1) := (blk_cell BK183.out 1).trans rfl); (have hfz16_0 := blk_frozen BK183.out 0); (have hfz16_1 := blk_frozen BK183.out 1); (have p184 : 0 ≤ (x3_1 : Int) := of_decide_eq_true (by first | (with_reducible assumption) | assumption)); (have q184 : x3_1 < (l0_1.length : Int) := of_decide_eq_true (by first | (with_reducible assumption) | assumption)); (obtain ⟨ad184, e184, hx184_0⟩ := Kd.at_int HR0_1.out x3_1 p184 q184); (cases e184); (replace hx184_0 := (HB.out.cell (World.block_lt_of_cell? w _ hx184_0)).trans hx184_0); (replace p184 := eq_true p184); (replace q184 := eq_true q184); (have p185 : 0 ≤ (x3_1 : Int) := of_decide_eq_true (by first | (with_reducible assumption) | assumption)); (have q185 : x3_1 < (l0_1.length : Int) := of_decide_eq_true (by first | (with_reducible assumption) | assumption)); (obtain ⟨ad185, e185, hx185_0⟩ := Kd.at_int HR0_1.out x3_1 p185 q185); (obtain rfl : ad184 = ad185 := (by injection e185)); (replace hx185_0 := (HB.out.cell (World.block_lt_of_cell? w _ hx185_0)).trans hx185_0); (replace p185 := eq_true p185); (replace q185 := eq_true q185); (have p186 : 0 ≤ ((ji12) : Int) := of_decide_eq_true (by first | (with_reducible assumption) | assumption)); (have q186 : (ji12) < (l0_1.length : Int) := of_decide_eq_true (by first | (with_reducible assumption) | assumption)); (obtain ⟨ad186, e186, hx186_0⟩ := Kd.at_int HR0_1.out (ji12) p186 q186); (obtain rfl : ad184 = ad186 := (by injection e186)); (replace hx186_0 := (HB.out.cell (World.block_lt_of_cell? w _ hx186_0)).trans hx186_0); (replace p186 := eq_true p186); (replace q186 := eq_true q186); (go_wp2); (repeat (go_quiet (fail); try go_wp2)); (go_ret); (exact ⟨by first | rfl | (simp [errW_none, errW_some] <;> rfl) | (simp only [← hji12]; first | rfl | (simp [errW_none, errW_some] <;> rfl)) | (simp [*, errW_none, errW_some] <;> rfl), by repeat (first | (with_reducible first | exact HB.out | apply below_alloc | apply pw_below_drewN | apply below_drew1 | refine below_set ?_ GE183.out) | exact HB.out)⟩)
                    · (rw [if_neg c15] at H); (have c15b0 : decide ((rd l0_1 x3_1) ≤ (rd l0_1 (ji12))) = false := decide_eq_false c15); (clear c15); (have H' := Aside0.mk H); (clear H); (have hcz17_0 : wr.cell? ⟨gb183, 0, none⟩ = some (.int .u64 a0_0) := (blk_cell BK183.out 0).trans rfl); (have hcz17_1 : wr.cell? ⟨gb183, 1, none⟩ = some (.slice A0_1 l0_1.length c0_1) := (blk_cell BK183.out 1).trans rfl); (have hfz17_0 := blk_frozen BK183.out 0); (have hfz17_1 := blk_frozen BK183.out 1); (have p184 : 0 ≤ (x3_1 : Int) := of_decide_eq_true (by first | (with_reducible assumption) | assumption)); (have q184 : x3_1 < (l0_1.length : Int) := of_decide_eq_true (by first | (with_reducible assumption) | assumption)); (obtain ⟨ad184, e184, hx184_0⟩ := Kd.at_int HR0_1.out x3_1 p184 q184); (cases e184); (replace hx184_0 := (HB.out.cell (World.block_lt_of_cell? w _ hx184_0)).trans hx184_0); (replace p184 := eq_true p184); (replace q184 := eq_true q184); (have p185 : 0 ≤ (x3_1 : Int) := of_decide_eq_true (by first | (with_reducible assumption) | assumption)); (have q185 : x3_1 < (l0_1.length : Int) := of_decide_eq_true (by first | (with_reducible assumption) | assumption)); (obtain ⟨ad185, e185, hx185_0⟩ := Kd.at_int HR0_1.out x3_1 p185 q185); (obtain rfl : ad184 = ad185 := (by injection e185)); (replace hx185_0 := (HB.out.cell (World.block_lt_of_cell? w _ hx185_0)).trans hx185_0); (replace p185 := eq_true p185); (replace q185 := eq_true q185); (have p186 : 0 ≤ ((ji12) : Int) := of_decide_eq_true (by first | (with_reducible assumption) | assumption)); (have q186 : (ji12) < (l0_1.length : Int) := of_decide_eq_true (by first | (with_reducible assumption) | assumption)); (obtain ⟨ad186, e186, hx186_0⟩ := Kd.at_int HR0_1.out (ji12) p186 q186); (obtain rfl : ad184 = ad186 := (by injection e186)); (replace hx186_0 := (HB.out.cell (World.block_lt_of_cell? w _ hx186_0)).trans hx186_0); (replace p186 := eq_true p186); (replace q186 := eq_true q186); (go_wp2); (repeat (go_quiet (fail); try go_wp2)); (go_roundg k1)
                      case measure => have := HK1.out; omega
                      case rel => exact ⟨(wrap64 (x3_1 + 1)), (by first | rfl | (simp; done) | (simp [*]; done)), H', ⟨by have := HK1.out; omega⟩, ⟨by (with_reducible repeat (first | refine blk_drewN ?_ _ | refine blk_drew ?_ | refine blk_alloc ?_ _)); exact BK183.out⟩, ⟨by repeat (first | (with_reducible first | exact HB.out | apply below_alloc | apply pw_below_drewN | apply below_drew1 | refine below_set ?_ GE183.out) | exact HB.out)⟩⟩
                  · (rw [if_neg c14] at H); (exact absurd H (by simp))
                · (rw [if_neg c13] at H); (exact absurd H (by simp))
              · (rw [if_neg c11] at H); (have c11b0 : decide (0 < x3_1) = false := decide_eq_false c11); (clear c11); (have H' := Aside0.mk H); (clear H); (have hcz18_0 : wr.cell? ⟨gb183, 0, none⟩ = some (.int .u64 a0_0) := (blk_cell BK183.out 0).trans rfl); (have hcz18_1 : wr.cell? ⟨gb183, 1, none⟩ = some (.slice A0_1 l0_1.length c0_1) := (blk_cell BK183.out 1).trans rfl); (have hfz18_0 := blk_frozen BK183.out 0); (have hfz18_1 := blk_frozen BK183.out 1); (have p184 : 0 ≤ (x3_1 : Int) := of_decide_eq_true (by first | (with_reducible assumption) | assumption)); (have q184 : x3_1 < (l0_1.length : Int) := of_decide_eq_true (by first | (with_reducible assumption) | assumption)); (obtain ⟨ad184, e184, hx184_0⟩ := Kd.at_int HR0_1.out x3_1 p184 q184); (cases e184); (replace hx184_0 := (HB.out.cell (World.block_lt_of_cell? w _ hx184_0)).trans hx184_0); (replace p184 := eq_true p184); (replace q184 := eq_true q184); (go_wp2); (repeat (go_quiet (fail); try go_wp2)); (go_roundg k1)
                case measure => have := HK1.out; omega
                case rel => exact ⟨(wrap64 (x3_1 + 1)), (by first | rfl | (simp; done) | (simp [*]; done)), H', ⟨by have := HK1.out; omega⟩, ⟨by (with_reducible repeat (first | refine blk_drewN ?_ _ | refine blk_drew ?_ | refine blk_alloc ?_ _)); exact BK183.out⟩, ⟨by repeat (first | (with_reducible first | exact HB.out | apply below_alloc | apply pw_below_drewN | apply below_drew1 | refine below_set ?_ GE183.out) | exact HB.out)⟩⟩
          · (rw [if_neg c8] at H); (exact absurd H (by simp))
        · (rw [if_neg c7] at H); (have c7b0 : decide (x3_1 < (l0_1.length : Int)) = false := decide_eq_false c7); (clear c7); (obtain rfl := Option.some.inj H); (have hcz19_0 : wr.cell? ⟨gb183, 0, none⟩ = some (.int .u64 a0_0) := (blk_cell BK183.out 0).trans rfl); (have hcz19_1 : wr.cell? ⟨gb183, 1, none⟩ = some (.slice A0_1 l0_1.length c0_1) := (blk_cell BK183.out 1).trans rfl); (have hfz19_0 := blk_frozen BK183.out 0); (have hfz19_1 := blk_frozen BK183.out 1); (go_wp2); (repeat (go_quiet (fail); try go_wp2)); (go_ret); (exact ⟨by first | rfl | (simp [errW_none, errW_some] <;> rfl) | (simp [*, errW_none, errW_some] <;> rfl), by repeat (first | (with_reducible first | exact HB.out | apply below_alloc | apply pw_below_drewN | apply below_drew1 | refine below_set ?_ GE183.out) | exact HB.out)⟩)

/-! ### lockkeeperref04_number: function 88 -/
def lockkeeperref04_number.l0 : Nat → Int → List Int → Int → Option (List Int)
  | 0, _, _, _ => none
  | k + 1, x0, x5, x6 => if x6 ≥ 0 then (if 0 ≤ x6 then (if x6 < (x5.length : Int) then (lockkeeperref04_number.l0 k (IntKind.u64.wrap (Int.tdiv x0 256)) (x5.set (x6 : Int).toNat ((Int.tmod x0 256) % 256)) (wrap64 (x6 - 1))) else (none)) else (none)) else (some x5)
def lockkeeperref04_number.f (k : Nat) (a0 : Int) (a1 : Int) : Option (List Int) := if 0 ≤ a1 then (if (a1 : Int).toNat ≤ 281474976710656 then (lockkeeperref04_number.l0 k a0 (List.replicate (a1 : Int).toNat 0) (wrap64 (a1 - 1))) else (none)) else (none)
theorem lockkeeperref04_number.mono_l : ∀ k, (∀ y0 y1 y2, LeO (lockkeeperref04_number.l0 k y0 y1 y2) (lockkeeperref04_number.l0 (k + 1) y0 y1 y2))
  | 0 => fun _ _ _ r h => by simp [lockkeeperref04_number.l0] at h
  | k + 1 => by
    have ih0 := lockkeeperref04_number.mono_l k
    · intro y0 y1 y2
      unfold lockkeeperref04_number.l0
      repeat' first
      | (with_reducible exact ih0 _ _ _)
      | (with_reducible exact LeO.refl _)
      | (with_reducible exact LeO.none _)
      | (with_reducible refine LeO.ite ?_ ?_)
      | (with_reducible refine LeO.bind ?_ (fun _ => ?_))
      | exact ih0 _ _ _
      | exact LeO.none _
      | refine LeO.ite ?_ ?_
      | refine LeO.bind ?_ (fun _ => ?_)
theorem lockkeeperref04_number.mono : ∀ a0 a1 k, LeO (lockkeeperref04_number.f k a0 a1) (lockkeeperref04_number.f (k + 1) a0 a1) := by
  intro a0 a1 k
  have ih0 := lockkeeperref04_number.mono_l k
  unfold lockkeeperref04_number.f
  repeat' first
      | (with_reducible exact ih0 _ _ _)
      | (with_reducible exact LeO.refl _)
      | (with_reducible exact LeO.none _)
      | (with_reducible refine LeO.ite ?_ ?_)
      | (with_reducible refine LeO.bind ?_ (fun _ => ?_))
      | exact ih0 _ _ _
      | exact LeO.none _
      | refine LeO.ite ?_ ?_
      | refine LeO.bind ?_ (fun _ => ?_)
set_option maxHeartbeats 8000000 in
set_option maxRecDepth 100000 in
theorem lockkeeperref04_number.calls (k : Nat) (a0 : Int) (a1 : Int) (r : List Int) (w : World) (h : lockkeeperref04_number.f k a0 a1 = some r) :
    Calls Try.prog 88 #[.int .u64 a0, .int .i64 a1] w fun e w' => ∃ v0_ : Value, e = .returned (v0_) ∧ Kd.R (Kd.int .u8) 5 w' w.heap.size (fun _ => True) v0_ r ∧ Below w.heap.size w w' := by
  (have HB := Aside0.mk (Below.refl w.heap.size w)); (have H : (if 0 ≤ a1 then (if (a1 : Int).toNat ≤ 281474976710656 then (lockkeeperref04_number.l0 k a0 (List.replicate (a1 : Int).toNat 0) (wrap64 (a1 - 1))) else (none)) else (none)) = some r := h); (clear h); (by_cases c3 : 0 ≤ a1)
  · (rw [if_pos c3] at H); (have c3b0 := eq_true c3); (have c3b1 : decide (0 ≤ a1) = true := decide_eq_true c3); (clear c3); (by_cases c4 : (a1 : Int).toNat ≤ 281474976710656)
    · (rw [if_pos c4] at H); (have c4b0 := eq_true c4); (have c4b1 : decide ((a1 : Int).toNat ≤ 281474976710656) = true := decide_eq_true c4); (clear c4); (obtain ⟨y187, hy187⟩ : ∃ y_ : List Int, y_ = (List.replicate (a1 : Int).toNat 0) := ⟨_, rfl⟩); (replace H : (lockkeeperref04_number.l0 k a0 y187 (wrap64 (a1 - 1))) = some r := by first | (rw [hy187]; with_reducible exact H) | (have H2_ := (Option.bind_some _ _).symm.trans H; rw [hy187]; with_reducible exact H2_) | (have H2_ := (Option.bind_some _ _).symm.trans H; with_reducible exact H2_) | with_reducible exact H | (rw [hy187]; exact H) | exact H); (have Ny187 := Aside0.mk hy187); (clear hy187); (have H' := Aside0.mk H); (clear H); (go_enter Try.func88, Try.ntmps88); (go_wp2_with (first | ((with_reducible refine gate_dst (N := 8) rfl ?_); refine Kd.R_make (Kd.int .u8) _ 5 rfl (N := 8) rfl 70 _ _ rfl a1 rfl rfl Try.underlying70 (.int .u8 0) 1 info5 rfl (by decide) (by omega) 0 (ok := fun _ => True) (okp := fun _ => True) rfl (fun _ hk => hk) trivial (of_decide_eq_true (by first | (with_reducible assumption) | assumption)) (Nat.le_trans (Nat.mul_le_mul_right _ (of_decide_eq_true (by first | (with_reducible assumption) | assumption) : a1.toNat ≤ 281474976710656)) (by omega)) (Below.refl _ _) (Nat.le_refl _) ?_; intro v188 w5 ho6 hb hg_ hnew_; clear hg_ hnew_; (first | rw [← Ny187.out] at ho6 | (simp only [Int.reduceToNat] at ho6; rw [← Ny187.out] at ho6)); have n0_ := Aside0.mk (Kd.R_lower ho6 (below_size (by repeat (first | (with_reducible first | exact HB.out | apply below_alloc | apply pw_below_drewN | apply below_drew1) | exact HB.out)))); have n1_ := Aside0.mk (below_step (by repeat (first | (with_reducible first | exact HB.out | apply below_alloc | apply pw_below_drewN | apply below_drew1) | exact HB.out)) hb); clear HB; have HO189 := n0_; have HB := n1_; clear n0_ n1_; clear hb ho6))); (go_loopg [0, 6] k (fun kq v0 v6 w' => ∃ (x0_1 : Int) (x5_1 : List Int) (x6_1 : Int), v0 = .int .u64 x0_1 ∧ v6 = .int .i64 x6_1 ∧ Aside0 (lockkeeperref04_number.l0 kq x0_1 x5_1 x6_1 = some r) ∧ Aside0 (kq ≤ k) ∧ Aside0 (Kd.R (Kd.int .u8) 5 w' w.heap.size (fun _ => True) v188 x5_1) ∧ Aside0 (Below w.heap.size w w')))
      case atStart => exact ⟨(a0), (y187), (wrap64 (a1 - 1)), (by first | rfl | (simp; done) | (simp [*]; done)), (by first | rfl | (simp; done) | (simp [*]; done)), H', ⟨Nat.le_refl _⟩, ⟨by (with_reducible repeat (first | apply Kd.R_alloc | apply Kd.R_drewN | apply Kd.R_drew)); exact HO189.out⟩, ⟨by repeat (first | (with_reducible first | exact HB.out | apply below_alloc | apply pw_below_drewN | apply below_drew1) | exact HB.out)⟩⟩
      case round =>
        (clear H'); (try clear p2); (try clear c3); (try clear c3b0); (try clear c3b1); (try clear c4); (try clear c4b0); (try clear c4b1); (try clear p6); (obtain ⟨x0_1, x5_1, x6_1, rfl, rfl, HA, HK1, HO_5, HB⟩ := hrel)
        cases gk with
        | zero => exact absurd HA.out (by simp [lockkeeperref04_number.l0])
        | succ k1 =>
          (have H := HA.out); (clear HA); (simp only [lockkeeperref04_number.l0] at H); (by_cases c7 : x6_1 ≥ 0)
          · (rw [if_pos c7] at H); (have c7b0 : decide (0 ≤ x6_1) = true := decide_eq_true c7); (clear c7); (by_cases c8 : 0 ≤ x6_1)
            · (rw [if_pos c8] at H); (have c8b0 : decide (0 ≤ x6_1) = true := decide_eq_true c8); (clear c8); (by_cases c9 : x6_1 < (x5_1.length : Int))
              · (rw [if_pos c9] at H); (have c9b0 : decide (x6_1 < (x5_1.length : Int)) = true := decide_eq_true c9); (clear c9); (obtain ⟨y190, hy190⟩ : ∃ y_ : List Int, y_ = (x5_1.set (x6_1 : Int).toNat ((Int.tmod x0_1 256) % 256)) := ⟨_, rfl⟩); (replace H : (lockkeeperref04_number.l0 k1 (IntKind.u64.wrap (Int.tdiv x0_1 256)) y190 (wrap64 (x6_1 - 1))) = some r := by first | (rw [hy190]; with_reducible exact H) | (have H2_ := (Option.bind_some _ _).symm.trans H; rw [hy190]; with_reducible exact H2_) | (have H2_ := (Option.bind_some _ _).symm.trans H; with_reducible exact H2_) | with_reducible exact H | (rw [hy190]; exact H) | exact H); (have Ny190 := Aside0.mk hy190); (clear hy190); (have H' := Aside0.mk H); (clear H); (have p10 : 0 ≤ (x6_1 : Int) := of_decide_eq_true (by first | (with_reducible assumption) | assumption)); (have q10 : (x6_1 : Int) < ((x5_1.length : Int) : Int) := of_decide_eq_true (by first | (with_reducible assumption) | assumption)); (obtain ⟨go10, co10, eo10, gb10, gl10, cl10, HG10⟩ := Kd.R_form HO_5.out (by omega)); ((first | cases eo10 | (injection eo10 with ea_ en_ ec_; (first | subst ea_ | (injection ea_ with ea_; subst ea_)); subst ec_; clear en_))); (have GB10 := Aside0.mk gb10); (have GG10 := Aside0.mk HG10); (clear gb10 gl10 HG10); (obtain ⟨hx10_0, hf10_0⟩ := Kd.R_celln 0 HO_5.out (x6_1 : Int) p10 q10); (replace p10 := eq_true p10); (replace q10 := eq_true q10); (have HP11 := Kd.R_putg HO_5.out (x6_1 : Int) ((Int.tmod x0_1 256) % 256)); (go_wp2_with (first | ((with_reducible refine gate_store (t := 5) (p := 20) rfl ?_); refine store_event (t := 5) (p := 20) (v := ?vo_w12) (w1 := (wr.setCell ⟨go10, (x6_1 : Int).toNat, none⟩ (.int .u8 ((Int.tmod x0_1 256) % 256)))) ?hg ?ho ?hn ?hr ?_; (case ho => rfl); (case hg => rfl); (case hn => rfl); (case hr => first | (go_simp; done) | (go_simp; rfl)); intro w12 hw; have hg : wr.grownBy w12 (some go10) := (by rw [hw]; exact HP11.2); have hp_ : Kd.R (Kd.int .u8) 5 w12 w.heap.size (fun _ => True) (.slice (some ⟨go10, 0, none⟩) x5_1.length co10) y190 := (by rw [hw, Ny190.out]; exact HP11.1); clear HP11; have n0_ := Aside0.mk (hp_); have n1_ := Aside0.mk ((by rw [hw]; exact below_set (HB.out) GB10.out : Below w.heap.size w w12)); clear HO_5; clear HB; have HO_5 := n0_; have HB := n1_; clear n0_ n1_; clear hg hw hp_))); (go_roundg k1)
                case measure => have := HK1.out; omega
                case rel => exact ⟨(IntKind.u64.wrap (Int.tdiv x0_1 256)), (y190), (wrap64 (x6_1 - 1)), (by first | rfl | (simp; done) | (simp [*]; done)), (by first | rfl | (simp; done) | (simp [*]; done)), H', ⟨by have := HK1.out; omega⟩, ⟨by (with_reducible repeat (first | apply Kd.R_alloc | apply Kd.R_drewN | apply Kd.R_drew)); exact HO_5.out⟩, ⟨by repeat (first | (with_reducible first | exact HB.out | apply below_alloc | apply pw_below_drewN | apply below_drew1) | exact HB.out)⟩⟩
              · (rw [if_neg c9] at H); (exact absurd H (by simp))
            · (rw [if_neg c8] at H); (exact absurd H (by simp))
          · (rw [if_neg c7] at H); (have c7b0 : decide (0 ≤ x6_1) = false := decide_eq_false c7); (clear c7); (obtain rfl := Option.some.inj H); (go_wp2); (go_ret); (exact ⟨_, by first | rfl | (simp [errW_none, errW_some] <;> rfl) | (simp [*, errW_none, errW_some] <;> rfl), by (with_reducible repeat (first | apply Kd.R_alloc | apply Kd.R_drewN | apply Kd.R_drew)); exact HO_5.out, by repeat (first | (with_reducible first | exact HB.out | apply below_alloc | apply pw_below_drewN | apply below_drew1) | exact HB.out)⟩)
    · (rw [if_neg c4] at H); (exact absurd H (by simp))
  · (rw [if_neg c3] at H); (exact absurd H (by simp))

/-! ### lockkeeperref04_Put: function 46 -/
def lockkeeperref04_Put.l0 : Nat → List Int → Int → Int → List Int → Option (List Int × Int)
  | 0, _, _, _, _ => none
  | k + 1, x4, x5, x192000, x192001 => if x5 < (x192001.length : Int) then (if 0 ≤ x5 then ((lockkeeperref04_number.f k (rd x192001 x5) 8).bind fun t203 => (if x4.length + t203.length < 140737488355328 then (lockkeeperref04_Put.l0 k (x4 ++ t203) (wrap64 (x5 + 1)) x192000 x192001) else (none))) else (none)) else (some (x4, 0))
def lockkeeperref04_Put.f (k : Nat) (a0_0 : Int) (l0_1 : List Int) : Option (List Int × Int) := (lockkeeperref04_Right.f k a0_0 l0_1).bind fun t192 => (if t192 = true then ((lockkeeperref04_number.f k a0_0 8).bind fun t193 => ((lockkeeperref04_number.f k (IntKind.u64.wrap ((l0_1.length : Int))) 2).bind fun t196 => (if t193.length + t196.length < 140737488355328 then (lockkeeperref04_Put.l0 k (t193 ++ t196) 0 a0_0 l0_1) else (none)))) else (some (([] : List Int), 40)))
theorem lockkeeperref04_Put.mono_l : ∀ k, (∀ y0 y1 y2 y3, LeO (lockkeeperref04_Put.l0 k y0 y1 y2 y3) (lockkeeperref04_Put.l0 (k + 1) y0 y1 y2 y3))
  | 0 => fun _ _ _ _ r h => by simp [lockkeeperref04_Put.l0] at h
  | k + 1 => by
    have ih0 := lockkeeperref04_Put.mono_l k
    · intro y0 y1 y2 y3
      unfold lockkeeperref04_Put.l0
      repeat' first
      | (with_reducible exact ih0 _ _ _ _)
      | (with_reducible exact lockkeeperref04_Right.mono _ _ _)
      | (with_reducible exact lockkeeperref04_number.mono _ _ _)
      | (with_reducible exact LeO.refl _)
      | (with_reducible exact LeO.none _)
      | (with_reducible refine LeO.ite ?_ ?_)
      | (with_reducible refine LeO.bind ?_ (fun _ => ?_))
      | exact ih0 _ _ _ _
      | exact lockkeeperref04_Right.mono _ _ _
      | exact lockkeeperref04_number.mono _ _ _
      | exact LeO.none _
      | refine LeO.ite ?_ ?_
      | refine LeO.bind ?_ (fun _ => ?_)
theorem lockkeeperref04_Put.mono : ∀ a0 a1 k, LeO (lockkeeperref04_Put.f k a0 a1) (lockkeeperref04_Put.f (k + 1) a0 a1) := by
  intro a0 a1 k
  have ih0 := lockkeeperref04_Put.mono_l k
  unfold lockkeeperref04_Put.f
  repeat' first
      | (with_reducible exact ih0 _ _ _ _)
      | (with_reducible exact lockkeeperref04_Right.mono _ _ _)
      | (with_reducible exact lockkeeperref04_number.mono _ _ _)
      | (with_reducible exact LeO.refl _)
      | (with_reducible exact LeO.none _)
      | (with_reducible refine LeO.ite ?_ ?_)
      | (with_reducible refine LeO.bind ?_ (fun _ => ?_))
      | exact ih0 _ _ _ _
      | exact lockkeeperref04_Right.mono _ _ _
      | exact lockkeeperref04_number.mono _ _ _
      | exact LeO.none _
      | refine LeO.ite ?_ ?_
      | refine LeO.bind ?_ (fun _ => ?_)
def lockkeeperref04_Put.T3 : Bool × List (List Nat × List Nat) := (true, [([], []), ([0], [0]), ([1], [1]), ([], []), ([3], [3]), ([4], [4]), ([5], [5]), ([6, 2], [6]), ([2, 7, 7], [2, 7]), ([8, 8, 0, 1, 2, 3, 4, 5, 6, 7, 8], [8])])
def lockkeeperref04_Put.B3 : List Nat := [0, 1, 3, 0, 8, 24, 56, 127, 255, 511]
theorem lockkeeperref04_Put.tab3 : rtab .any (opsOf Try.f46 3) = lockkeeperref04_Put.T3 := by kernel_rfl
theorem lockkeeperref04_Put.bits3 : waitsOk lockkeeperref04_Put.T3.2 lockkeeperref04_Put.B3 = true := by kernel_rfl
set_option maxHeartbeats 8000000 in
set_option maxRecDepth 100000 in
theorem lockkeeperref04_Put.calls (k : Nat) (a0_0 : Int) (A0_1 : Option Addr) (c0_1 : Nat) (l0_1 : List Int) (r1 : List Int) (r2 : Int) (w : World) (hr0_1 : Kd.C (Kd.int .u64) w A0_1 l0_1.length l0_1) (hc0_1 : l0_1.length ≤ c0_1) (h : lockkeeperref04_Put.f k a0_0 l0_1 = some (r1, r2)) :
    Calls Try.prog 46 #[.agg #[.int .u64 a0_0, .slice A0_1 l0_1.length c0_1]] w fun e w' => ∃ v0_ : Value, e = .returned (.tuple #[v0_, .int .i64 r2]) ∧ Kd.R (Kd.int .u8) 5 w' w.heap.size (fun _ => True) v0_ r1 ∧ Below w.heap.size w w' := by
  (have hu25 := Try.underlying25); (have HR0_1 := Aside0.mk hr0_1); (have HC0_1 := Aside0.mk hc0_1); (clear hr0_1 hc0_1); (have HB := Aside0.mk (Below.refl w.heap.size w)); (have H : ((lockkeeperref04_Right.f k a0_0 l0_1).bind fun t192 => (if t192 = true then ((lockkeeperref04_number.f k a0_0 8).bind fun t193 => ((lockkeeperref04_number.f k (IntKind.u64.wrap ((l0_1.length : Int))) 2).bind fun t196 => (if t193.length + t196.length < 140737488355328 then (lockkeeperref04_Put.l0 k (t193 ++ t196) 0 a0_0 l0_1) else (none)))) else (some (([] : List Int), 40)))) = some (r1, r2) := h); (clear h); (replace H := Option.bind_eq_some_iff.mp H); (obtain ⟨t192, A20, H⟩ := H); (replace H : (if t192 = true then ((lockkeeperref04_number.f k a0_0 8).bind fun t193 => ((lockkeeperref04_number.f k (IntKind.u64.wrap ((l0_1.length : Int))) 2).bind fun t196 => (if t193.length + t196.length < 140737488355328 then (lockkeeperref04_Put.l0 k (t193 ++ t196) 0 a0_0 l0_1) else (none)))) else (some (([] : List Int), 40))) = some (r1, r2) := H); (have A2 := Aside0.mk A20); (clear A20); (by_cases c3 : t192 = true)
  · (subst c3); (have H1 : ((lockkeeperref04_number.f k a0_0 8).bind fun t193 => ((lockkeeperref04_number.f k (IntKind.u64.wrap ((l0_1.length : Int))) 2).bind fun t196 => (if t193.length + t196.length < 140737488355328 then (lockkeeperref04_Put.l0 k (t193 ++ t196) 0 a0_0 l0_1) else (none)))) = some (r1, r2) := by rw [if_pos rfl] at H; exact H); (clear H); (have H := H1); (clear H1); (replace H := Option.bind_eq_some_iff.mp H); (obtain ⟨t193, A40, H⟩ := H); (replace H : ((lockkeeperref04_number.f k (IntKind.u64.wrap ((l0_1.length : Int))) 2).bind fun t196 => (if t193.length + t196.length < 140737488355328 then (lockkeeperref04_Put.l0 k (t193 ++ t196) 0 a0_0 l0_1) else (none))) = some (r1, r2) := H); (have A4 := Aside0.mk A40); (clear A40); (replace H := Option.bind_eq_some_iff.mp H); (obtain ⟨t196, A50, H⟩ := H); (replace H : (if t193.length + t196.length < 140737488355328 then (lockkeeperref04_Put.l0 k (t193 ++ t196) 0 a0_0 l0_1) else (none)) = some (r1, r2) := H); (have A5 := Aside0.mk A50); (clear A50); (by_cases c6 : t193.length + t196.length < 140737488355328)
    · (rw [if_pos c6] at H); (have LMc6 := Aside0.mk c6); (clear c6); (obtain ⟨y199, hy199⟩ : ∃ y_ : List Int, y_ = (t193 ++ t196) := ⟨_, rfl⟩); (replace H : (lockkeeperref04_Put.l0 k y199 0 a0_0 l0_1) = some (r1, r2) := by first | (rw [hy199]; with_reducible exact H) | (have H2_ := (Option.bind_some _ _).symm.trans H; rw [hy199]; with_reducible exact H2_) | (have H2_ := (Option.bind_some _ _).symm.trans H; with_reducible exact H2_) | with_reducible exact H | (rw [hy199]; exact H) | exact H); (have Ny199 := Aside0.mk hy199); (clear hy199); (have H' := Aside0.mk H); (clear H); (go_enter Try.func46, Try.ntmps46); (try go_wp2_with (first | ((with_reducible refine gate_dst (N := 1) rfl ?_); refine box_event ?hg (N := 1) ?hd (cs := #[.int .u64 a0_0, .slice A0_1 l0_1.length c0_1]) (t := 25) ?hr ?_; (case hd => rfl); (case hg => rfl); (case hr => first | (go_simp; done) | (go_simp; rfl)); intro gb191 hg w7 hbox hb; have n0_ := Aside0.mk (below_step (by repeat (first | (with_reducible first | exact HB.out | apply below_alloc | apply pw_below_drewN | apply below_drew1) | exact HB.out)) hb); have n1_ := Aside0.mk (hbox); have n2_ := Aside0.mk ((by rw [hg]; exact (below_size (by repeat (first | (with_reducible first | exact HB.out | apply below_alloc | apply pw_below_drewN | apply below_drew1) | exact HB.out))) : w.heap.size ≤ gb191)); have n3_ := Aside0.mk ((by rw [hg]; exact (below_size (by repeat (first | (with_reducible first | exact HB.out | apply below_alloc | apply pw_below_drewN | apply below_drew1) | exact HB.out))) : w.heap.size ≤ gb191)); clear HB; have HB := n0_; have BK191 := n1_; have GW191 := n2_; have GE191 := n3_; clear n0_ n1_ n2_ n3_; clear hb hbox hg; have hcz8_0 : w7.cell? ⟨gb191, 0, none⟩ = some (.int .u64 a0_0) := (blk_cell BK191.out 0).trans rfl; have hcz8_1 : w7.cell? ⟨gb191, 1, none⟩ = some (.slice A0_1 l0_1.length c0_1) := (blk_cell BK191.out 1).trans rfl; have hfz8_0 := blk_frozen BK191.out 0; have hfz8_1 := blk_frozen BK191.out 1) | ((with_reducible refine gate_callee (f := 28) rfl ?_); refine goesL_ (some 7) rfl rfl Try.func28 (by kernel_rfl) rfl #[.agg #[.int .u64 a0_0, .slice A0_1 l0_1.length c0_1]] rfl (by (try simp only [List.map_toArray, List.map_cons, List.map_nil]); first | done | rfl | (simp only [List.length_drop, List.length_take]; rfl) | (simp only [*]; rfl)) ?_; (with_reducible refine (lockkeeperref04_Right.calls k a0_0 _ _ l0_1 true _ ?side1 ?side2 A2.out).mono ?_); (case side1 => repeat (first | exact (Kd.C_below HR0_1.out HB.out) | (with_reducible refine Kd.C_alloc ?_ _) | (with_reducible refine Kd.C_drewN ?_ _) | (with_reducible refine Kd.C_drew ?_))); (case side2 => exact HC0_1.out); rintro e w9 ⟨rfl, hb⟩; refine ⟨_, rfl, ?_⟩; have n0_ := Aside0.mk (blk_below (g := gb191) (o := .cells #[.int .u64 a0_0, .slice A0_1 l0_1.length c0_1] 25 (0, 0)) (by (with_reducible repeat (first | refine blk_drewN ?_ _ | refine blk_drew ?_ | refine blk_alloc ?_ _)); exact BK191.out) hb); have n1_ := Aside0.mk (below_step (by repeat (first | (with_reducible first | exact HB.out | apply below_alloc | apply pw_below_drewN | apply below_drew1 | refine below_set ?_ GE191.out) | exact HB.out)) hb); clear BK191; clear HB; have BK191 := n0_; have HB := n1_; clear n0_ n1_; (try clear hb); (try clear hb2); (try clear hk); (try clear hi)))); (have n0_ := Aside0.mk (blk_drew BK191.out)); (have n1_ := Aside0.mk (below_drew1 HB.out)); (clear BK191); (clear HB); (have BK191 := n0_); (have HB := n1_); (clear n0_ n1_); (refine start_ (n := 10) (S := fun w' => w'.cell? ⟨gb191, 0, none⟩ = some (.int .u64 a0_0) ∧ w'.cell? ⟨gb191, 1, none⟩ = some (.slice A0_1 l0_1.length c0_1)) (ds := []) #[false, false, false, false, false, false, false, false, false, false] (by kernel_rfl) rfl rfl ⟨(blk_cell BK191.out 0).trans rfl, (blk_cell BK191.out 1).trans rfl⟩ (fun hHeld => ?_); refine with_tabW lockkeeperref04_Put.tab3 lockkeeperref04_Put.bits3 (fun HT_ HW_ => ?_)); (generalize w9.drew = w10 at BK191 HB hHeld ⊢); (refine pure_ (i := 0) (N := some 9) (v := ?_) (a' := ?_) #[true, false, false, false, false, false, false, false, false, false] rfl rfl (any_of HT_.out (by kernel_rfl)) (fun _ _ _ h => h) (Or.inl ⟨by rfl, ?_⟩) ?_ ?_); (rotate_left)
      · (intro w'); (go_simp); (with_reducible rfl)
      rotate_left
      · (simp only [Act.put, List.setIfInBounds_toArray, List.set_cons_zero, List.set_cons_succ, i64_w, i32_w]); (rfl)
      (refine pure_ (i := 3) (N := some 12) (v := ?_) (a' := ?_) #[true, false, false, true, false, false, false, false, false, false] rfl rfl (any_of HT_.out (by kernel_rfl)) (fun _ _ _ h => h) (Or.inl ⟨by rfl, ?_⟩) ?_ ?_); (rotate_left)
      · (intro w'); (go_simp); (with_reducible rfl)
      rotate_left
      · (simp only [Act.put, List.setIfInBounds_toArray, List.set_cons_zero, List.set_cons_succ, i64_w, i32_w]); (rfl)
      (refine take_ (i := 1) (N := some 10) (v := ?_) (a' := ?_) #[true, true, false, true, false, false, false, false, false, false] rfl rfl (take_ofW HT_.out HW_.out (by kernel_rfl)) (fun _ _ _ h => h) (Or.inl ⟨by rfl, ?_⟩) hHeld ?_ ?_); (rotate_left)
      · (rintro w' ⟨s0, s1⟩); (go_simp); (with_reducible rfl)
      rotate_left
      · (simp only [Act.put, List.setIfInBounds_toArray, List.set_cons_zero, List.set_cons_succ, i64_w, i32_w]); (rfl)
      (refine take_ (i := 4) (N := some 13) (v := ?_) (a' := ?_) #[true, true, false, true, true, false, false, false, false, false] rfl rfl (take_ofW HT_.out HW_.out (by kernel_rfl)) (fun _ _ _ h => h) (Or.inl ⟨by rfl, ?_⟩) hHeld ?_ ?_); (rotate_left)
      · (rintro w' ⟨s0, s1⟩); (go_simp); (with_reducible rfl)
      rotate_left
      · (simp only [Act.put, List.setIfInBounds_toArray, List.set_cons_zero, List.set_cons_succ, i64_w, i32_w]); (rfl)
      (refine pure_ (i := 5) (N := some 14) (v := ?_) (a' := ?_) #[true, true, false, true, true, true, false, false, false, false] rfl rfl (any_of HT_.out (by kernel_rfl)) (fun _ _ _ h => h) (Or.inl ⟨by rfl, ?_⟩) ?_ ?_); (rotate_left)
      · (intro w'); (go_simp); (with_reducible rfl)
      rotate_left
      · (simp only [Act.put, List.setIfInBounds_toArray, List.set_cons_zero, List.set_cons_succ, i64_w, i32_w]); (rfl)
      (refine pure_ (i := 6) (N := some 15) (v := ?_) (a' := ?_) #[true, true, false, true, true, true, true, false, false, false] rfl rfl (any_of HT_.out (by kernel_rfl)) (fun _ _ _ h => h) (Or.inl ⟨by rfl, ?_⟩) ?_ ?_); (rotate_left)
      · (intro w'); (go_simp); (with_reducible rfl)
      rotate_left
      · (simp only [Act.put, List.setIfInBounds_toArray, List.set_cons_zero, List.set_cons_succ, i64_w, i32_w]); (rfl)
      (refine one_ (i := 2) (N := some 11) #[true, true, true, true, true, true, true, false, false, false] rfl rfl (one_of HT_.out (by kernel_rfl)) (by decide) (fun K hK => ?_)); (refine goes_ Try.func88 (by kernel_rfl) rfl #[.int .u64 a0_0, .int .i64 8] (by rfl) rfl rfl (by (try simp only [List.map_toArray, List.map_cons, List.map_nil]); first | done | rfl | (simp only [List.length_drop, List.length_take]; rfl) | (simp only [*]; rfl)) ?_); (with_reducible refine (lockkeeperref04_number.calls k a0_0 8 t193 _ A4.out).mono ?_); (rintro e w11 ⟨v194, rfl, ho0, hb⟩); (refine ⟨_, rfl, ?_⟩); (have n0_ := Aside0.mk (Kd.R_lower ho0 (below_size (by repeat (first | (with_reducible first | exact HB.out | apply below_alloc | apply pw_below_drewN | apply below_drew1 | refine below_set ?_ GE191.out) | exact HB.out))))); (have n1_ := Aside0.mk (blk_below (g := gb191) (o := .cells #[.int .u64 a0_0, .slice A0_1 l0_1.length c0_1] 25 (0, 0)) (by (with_reducible repeat (first | refine blk_drewN ?_ _ | refine blk_drew ?_ | refine blk_alloc ?_ _)); exact BK191.out) hb)); (have n2_ := Aside0.mk (below_step (by repeat (first | (with_reducible first | exact HB.out | apply below_alloc | apply pw_below_drewN | apply below_drew1 | refine below_set ?_ GE191.out) | exact HB.out)) hb)); (clear BK191); (clear HB); (have HO195 := n0_); (have BK191 := n1_); (have HB := n2_); (clear n0_ n1_ n2_); ((try clear hb)); ((try clear hb2)); ((try clear hk)); ((try clear hi)); ((try clear ho0)); (refine hK.out _ _ ⟨(blk_cell BK191.out 0).trans rfl, (blk_cell BK191.out 1).trans rfl⟩ (fun hHeld => ?_)); (clear hK K); (refine norm_ (a' := ?_) ?_ ?_); (rotate_left)
      · (show Act.put _ (some 11) _ = _); (simp only [Act.put, List.setIfInBounds_toArray, List.set_cons_zero, List.set_cons_succ, i64_w, i32_w]); (rfl)
      (refine one_ (i := 7) (N := some 16) #[true, true, true, true, true, true, true, true, false, false] rfl rfl (one_of HT_.out (by kernel_rfl)) (by decide) (fun K hK => ?_)); (refine goes_ Try.func88 (by kernel_rfl) rfl #[.int .u64 (IntKind.u64.wrap ((l0_1.length : Int))), .int .i64 2] (by rfl) rfl rfl (by (try simp only [List.map_toArray, List.map_cons, List.map_nil]); first | done | rfl | (simp only [List.length_drop, List.length_take]; rfl) | (simp only [*]; rfl)) ?_); (with_reducible refine (lockkeeperref04_number.calls k (IntKind.u64.wrap ((l0_1.length : Int))) 2 t196 _ A5.out).mono ?_); (rintro e w12 ⟨v197, rfl, ho0, hb⟩); (refine ⟨_, rfl, ?_⟩); (have n0_ := Aside0.mk (Kd.R_elder' (by (with_reducible repeat (first | apply Kd.R_alloc | apply Kd.R_drewN | apply Kd.R_drew)); exact HO195.out) (Kd.R_base ho0) hb)); (have n1_ := Aside0.mk (Kd.R_lower (Kd.R_new' ho0 (Kd.R_lt (by (with_reducible repeat (first | apply Kd.R_alloc | apply Kd.R_drewN | apply Kd.R_drew)); exact HO195.out))) (below_size (by repeat (first | (with_reducible first | exact HB.out | apply below_alloc | apply pw_below_drewN | apply below_drew1 | refine below_set ?_ GE191.out) | exact HB.out))))); (have n2_ := Aside0.mk (blk_below (g := gb191) (o := .cells #[.int .u64 a0_0, .slice A0_1 l0_1.length c0_1] 25 (0, 0)) (by (with_reducible repeat (first | refine blk_drewN ?_ _ | refine blk_drew ?_ | refine blk_alloc ?_ _)); exact BK191.out) hb)); (have n3_ := Aside0.mk (below_step (by repeat (first | (with_reducible first | exact HB.out | apply below_alloc | apply pw_below_drewN | apply below_drew1 | refine below_set ?_ GE191.out) | exact HB.out)) hb)); (clear HO195); (clear BK191); (clear HB); (have HO195 := n0_); (have HO198 := n1_); (have BK191 := n2_); (have HB := n3_); (clear n0_ n1_ n2_ n3_); ((try clear hb)); ((try clear hb2)); ((try clear hk)); ((try clear hi)); ((try clear ho0)); (obtain ⟨Ao14, co14, eo14⟩ := Kd.R_slice HO198.out); ((first | subst eo14 | (injection eo14 with f1_ f2_ f3_; have f4_ := f1_.symm; have f5_ := f3_.symm; clear f1_ f2_ f3_; subst f4_; subst f5_))); (refine hK.out _ _ ⟨(blk_cell BK191.out 0).trans rfl, (blk_cell BK191.out 1).trans rfl⟩ (fun hHeld => ?_)); (clear hK K); (refine norm_ (a' := ?_) ?_ ?_); (rotate_left)
      · (show Act.put _ (some 16) _ = _); (simp only [Act.put, List.setIfInBounds_toArray, List.set_cons_zero, List.set_cons_succ, i64_w, i32_w]); (rfl)
      (refine one_ (i := 8) (N := some 17) #[true, true, true, true, true, true, true, true, true, false] rfl rfl (one_of HT_.out (by kernel_rfl)) (by decide) (fun K hK => ?_)); (refine Kd.R_append_rows_step (Kd.int .u8) (w0 := w) w.heap.size (by rfl) (.tmp 11) (.tmp 16) 70 5 (.int .u8 0) 1 rfl Try.underlying70 info5 rfl (by decide) (by omega) v194 t193 t196 _ _ _ (fun k_ => some k_ ≠ (.slice Ao14 t196.length co14 : Value).ownBlock) (fun _ => False) rfl rfl ?aO ?aR (fun _ _ h => h) (fun _ h => h.elim) ?aF ?aB ?aS ?aL ?_); ((case aR => repeat (first | exact (Kd.R_reads' HO198.out).2.2 | (with_reducible refine Kd.C_alloc ?_ _) | (with_reducible refine Kd.C_drewN ?_ _) | (with_reducible refine Kd.C_drew ?_)))); ((case aB => exact (by repeat (first | (with_reducible first | exact HB.out | apply below_alloc | apply pw_below_drewN | apply below_drew1 | refine below_set ?_ GE191.out) | exact HB.out)))); ((case aF => exact (fun k_ hk => Kd.fresh' (Kd.R_lt (by (with_reducible repeat (first | apply Kd.R_alloc | apply Kd.R_drewN | apply Kd.R_drew)); exact HO198.out)) k_ hk))); ((case aO => exact (by (with_reducible repeat (first | apply Kd.R_alloc | apply Kd.R_drewN | apply Kd.R_drew)); exact Kd.R_mono HO195.out (fun _ hk => hk.2)))); ((case aS => exact (below_size (by repeat (first | (with_reducible first | exact HB.out | apply below_alloc | apply pw_below_drewN | apply below_drew1 | refine below_set ?_ GE191.out) | exact HB.out))))); ((case aL => have := LMc6.out; omega)); (intro v200 w13 ho hb hg hat); (rw [← Ny199.out] at ho); (have n0_ := Aside0.mk (blk_grown (g := gb191) (o := .cells #[.int .u64 a0_0, .slice A0_1 l0_1.length c0_1] 25 (0, 0)) (by (with_reducible repeat (first | refine blk_drewN ?_ _ | refine blk_drew ?_ | refine blk_alloc ?_ _)); exact BK191.out) hg (Kd.R_ne HO195.out BK191.out (by decide)))); (have n1_ := Aside0.mk (Kd.R_after (ok := (fun _ => True)) (by (with_reducible repeat (first | apply Kd.R_alloc | apply Kd.R_drewN | apply Kd.R_drew)); exact HO198.out) hg hat)); (have n2_ := Aside0.mk (hb)); (have n3_ := Aside0.mk (ho)); (clear BK191); (clear HO198); (clear HB); (clear HO195); (have BK191 := n0_); (have HO198 := n1_); (have HB := n2_); (have HO201 := n3_); (clear n0_ n1_ n2_ n3_); (clear ho hb hg hat); (refine hK.out _ _ ⟨(blk_cell BK191.out 0).trans rfl, (blk_cell BK191.out 1).trans rfl⟩ (fun hHeld => ?_)); (clear hK K); (refine norm_ (a' := ?_) ?_ ?_); (rotate_left)
      · (show Act.put _ (some 17) _ = _); (simp only [Act.put, List.setIfInBounds_toArray, List.set_cons_zero, List.set_cons_succ, i64_w, i32_w]); (rfl)
      (refine pure_ (i := 9) (N := some 4) (v := ?_) (a' := ?_) #[true, true, true, true, true, true, true, true, true, true] rfl rfl (any_of HT_.out (by kernel_rfl)) (fun _ _ _ h => h) (Or.inl ⟨by rfl, ?_⟩) ?_ ?_); (rotate_left)
      · (intro w'); (go_simp); (with_reducible rfl)
      rotate_left
      · (simp only [Act.put, List.setIfInBounds_toArray, List.set_cons_zero, List.set_cons_succ, i64_w, i32_w]); (rfl)
      (refine done_ (done_of HT_.out (by kernel_rfl)) ?_); (try go_wp2); (go_loopg [4, 5] k (fun kq v4 v5 w' => ∃ (x4_1 : List Int) (x5_1 : Int), v5 = .int .i64 x5_1 ∧ Aside0 (lockkeeperref04_Put.l0 kq x4_1 x5_1 a0_0 l0_1 = some (r1, r2)) ∧ Aside0 (kq ≤ k) ∧ Aside0 (Kd.R (Kd.int .u8) 5 w' w.heap.size (fun _ => True) v4 x4_1) ∧ Aside0 (w'.heap[gb191]? = some (.cells #[.int .u64 a0_0, (.slice A0_1 l0_1.length c0_1)] 25 (0, 0))) ∧ Aside0 (Below w.heap.size w w')))
      case atStart => exact ⟨(y199), (0), (by first | rfl | (simp; done) | (simp [*]; done)), H', ⟨Nat.le_refl _⟩, ⟨by (with_reducible repeat (first | apply Kd.R_alloc | apply Kd.R_drewN | apply Kd.R_drew)); exact Kd.R_mono HO201.out (fun _ hk => trivial)⟩, ⟨by (with_reducible repeat (first | refine blk_drewN ?_ _ | refine blk_drew ?_ | refine blk_alloc ?_ _)); exact BK191.out⟩, ⟨by repeat (first | (with_reducible first | exact HB.out | apply below_alloc | apply pw_below_drewN | apply below_drew1 | refine below_set ?_ GE191.out) | exact HB.out)⟩⟩
      case round =>
        (clear H'); (try clear c2); (try clear p2); (try clear c3); (try clear c4); (try clear c6); (try clear c8); (try clear hcz8_0); (try clear hcz8_1); (try clear hfz8_0); (try clear hfz8_1); (obtain ⟨x4_1, x5_1, rfl, HA, HK1, HO_4, BK191, HB⟩ := hrel)
        cases gk with
        | zero => exact absurd HA.out (by simp [lockkeeperref04_Put.l0])
        | succ k1 =>
          (have H := HA.out); (clear HA); (simp only [lockkeeperref04_Put.l0] at H); (by_cases c15 : x5_1 < (l0_1.length : Int))
          · (rw [if_pos c15] at H); (have c15b0 : decide (x5_1 < (l0_1.length : Int)) = true := decide_eq_true c15); (clear c15); (by_cases c16 : 0 ≤ x5_1)
            · (rw [if_pos c16] at H); (have c16b0 : decide (0 ≤ x5_1) = true := decide_eq_true c16); (clear c16); (replace H := Option.bind_eq_some_iff.mp H); (obtain ⟨t203, A170, H⟩ := H); (replace H : (if x4_1.length + t203.length < 140737488355328 then (lockkeeperref04_Put.l0 k1 (x4_1 ++ t203) (wrap64 (x5_1 + 1)) a0_0 l0_1) else (none)) = some (r1, r2) := H); (have A17 := Aside0.mk A170); (clear A170); (by_cases c18 : x4_1.length + t203.length < 140737488355328)
              · (rw [if_pos c18] at H); (have LMc18 := Aside0.mk c18); (clear c18); (obtain ⟨y206, hy206⟩ : ∃ y_ : List Int, y_ = (x4_1 ++ t203) := ⟨_, rfl⟩); (replace H : (lockkeeperref04_Put.l0 k1 y206 (wrap64 (x5_1 + 1)) a0_0 l0_1) = some (r1, r2) := by first | (rw [hy206]; with_reducible exact H) | (have H2_ := (Option.bind_some _ _).symm.trans H; rw [hy206]; with_reducible exact H2_) | (have H2_ := (Option.bind_some _ _).symm.trans H; with_reducible exact H2_) | with_reducible exact H | (rw [hy206]; exact H) | exact H); (have Ny206 := Aside0.mk hy206); (clear hy206); (have H' := Aside0.mk H); (clear H); (have hcz19_0 : wr.cell? ⟨gb191, 0, none⟩ = some (.int .u64 a0_0) := (blk_cell BK191.out 0).trans rfl); (have hcz19_1 : wr.cell? ⟨gb191, 1, none⟩ = some (.slice A0_1 l0_1.length c0_1) := (blk_cell BK191.out 1).trans rfl); (have hfz19_0 := blk_frozen BK191.out 0); (have hfz19_1 := blk_frozen BK191.out 1); (have p202 : 0 ≤ (x5_1 : Int) := of_decide_eq_true (by first | (with_reducible assumption) | assumption)); (have q202 : x5_1 < (l0_1.length : Int) := of_decide_eq_true (by first | (with_reducible assumption) | assumption)); (obtain ⟨ad202, e202, hx202_0⟩ := Kd.at_int HR0_1.out x5_1 p202 q202); (cases e202); (replace hx202_0 := (HB.out.cell (World.block_lt_of_cell? w _ hx202_0)).trans hx202_0); (replace p202 := eq_true p202); (replace q202 := eq_true q202); (go_wp2_with (first | ((with_reducible refine gate_callee (f := 88) rfl ?_); refine goesL_ (some 31) rfl rfl Try.func88 (by kernel_rfl) rfl #[.int .u64 (rd l0_1 x5_1), .int .i64 8] rfl (by (try simp only [List.map_toArray, List.map_cons, List.map_nil]); first | done | rfl | (simp only [List.length_drop, List.length_take]; rfl) | (simp only [*]; rfl)) ?_; (with_reducible refine (lockkeeperref04_number.calls k1 (rd l0_1 x5_1) 8 t203 _ A17.out).mono ?_); rintro e w20 ⟨v204, rfl, ho0, hb⟩; refine ⟨_, rfl, ?_⟩; have n0_ := Aside0.mk (Kd.R_elder' (by (with_reducible repeat (first | apply Kd.R_alloc | apply Kd.R_drewN | apply Kd.R_drew)); exact HO_4.out) (Kd.R_base ho0) hb); have n1_ := Aside0.mk (Kd.R_lower (Kd.R_new' ho0 (Kd.R_lt (by (with_reducible repeat (first | apply Kd.R_alloc | apply Kd.R_drewN | apply Kd.R_drew)); exact HO_4.out))) (below_size (by repeat (first | (with_reducible first | exact HB.out | apply below_alloc | apply pw_below_drewN | apply below_drew1 | refine below_set ?_ GE191.out) | exact HB.out)))); have n2_ := Aside0.mk (blk_below (g := gb191) (o := .cells #[.int .u64 a0_0, .slice (some ad202) l0_1.length c0_1] 25 (0, 0)) (by (with_reducible repeat (first | refine blk_drewN ?_ _ | refine blk_drew ?_ | refine blk_alloc ?_ _)); exact BK191.out) hb); have n3_ := Aside0.mk (below_step (by repeat (first | (with_reducible first | exact HB.out | apply below_alloc | apply pw_below_drewN | apply below_drew1 | refine below_set ?_ GE191.out) | exact HB.out)) hb); clear HO_4; clear BK191; clear HB; have HO_4 := n0_; have HO205 := n1_; have BK191 := n2_; have HB := n3_; clear n0_ n1_ n2_ n3_; (try clear hb); (try clear hb2); (try clear hk); (try clear hi); (try clear ho0); obtain ⟨Ao22, co22, eo22⟩ := Kd.R_slice HO205.out; subst eo22) | ((with_reducible refine gate_builtin (b := .append) (xs := #[.tmp 25, .tmp 31]) rfl ?_); at_builtin; refine Kd.R_append_rows (Kd.int .u8) (w0 := w) w.heap.size rfl (.tmp 25) (.tmp 31) 70 5 (.int .u8 0) 1 rfl Try.underlying70 info5 rfl (by decide) (by omega) u4 x4_1 t203 _ _ _ (fun k_ => some k_ ≠ (.slice Ao22 t203.length co22 : Value).ownBlock) (fun _ => False) rfl rfl ?aO ?aR (fun _ _ h => h) (fun _ h => h.elim) ?aF ?aB ?aS ?aL ?_; (case aR => repeat (first | exact (Kd.R_reads' HO205.out).2.2 | (with_reducible refine Kd.C_alloc ?_ _) | (with_reducible refine Kd.C_drewN ?_ _) | (with_reducible refine Kd.C_drew ?_))); (case aB => exact (by repeat (first | (with_reducible first | exact HB.out | apply below_alloc | apply pw_below_drewN | apply below_drew1 | refine below_set ?_ GE191.out) | exact HB.out))); (case aF => exact (fun k_ hk => Kd.fresh' (Kd.R_lt (by (with_reducible repeat (first | apply Kd.R_alloc | apply Kd.R_drewN | apply Kd.R_drew)); exact HO205.out)) k_ hk)); (case aO => exact (by (with_reducible repeat (first | apply Kd.R_alloc | apply Kd.R_drewN | apply Kd.R_drew)); exact Kd.R_mono HO_4.out (fun _ hk => hk.2))); (case aS => exact (below_size (by repeat (first | (with_reducible first | exact HB.out | apply below_alloc | apply pw_below_drewN | apply below_drew1 | refine below_set ?_ GE191.out) | exact HB.out)))); (case aL => have := LMc18.out; omega); intro v207 w21 ho hb hg hat; rw [← Ny206.out] at ho; have n0_ := Aside0.mk (blk_grown (g := gb191) (o := .cells #[.int .u64 a0_0, .slice (some ad202) l0_1.length c0_1] 25 (0, 0)) (by (with_reducible repeat (first | refine blk_drewN ?_ _ | refine blk_drew ?_ | refine blk_alloc ?_ _)); exact BK191.out) hg (Kd.R_ne HO_4.out BK191.out (by decide))); have n1_ := Aside0.mk (Kd.R_after (ok := (fun _ => True)) (by (with_reducible repeat (first | apply Kd.R_alloc | apply Kd.R_drewN | apply Kd.R_drew)); exact HO205.out) hg hat); have n2_ := Aside0.mk (hb); have n3_ := Aside0.mk (ho); clear BK191; clear HO205; clear HB; clear HO_4; have BK191 := n0_; have HO205 := n1_; have HB := n2_; have HO208 := n3_; clear n0_ n1_ n2_ n3_; clear ho hb hg hat))); (go_roundg k1)
                case measure => have := HK1.out; omega
                case rel => exact ⟨(y206), (wrap64 (x5_1 + 1)), (by first | rfl | (simp; done) | (simp [*]; done)), H', ⟨by have := HK1.out; omega⟩, ⟨by (with_reducible repeat (first | apply Kd.R_alloc | apply Kd.R_drewN | apply Kd.R_drew)); exact Kd.R_mono HO208.out (fun _ hk => trivial)⟩, ⟨by (with_reducible repeat (first | refine blk_drewN ?_ _ | refine blk_drew ?_ | refine blk_alloc ?_ _)); exact BK191.out⟩, ⟨by repeat (first | (with_reducible first | exact HB.out | apply below_alloc | apply pw_below_drewN | apply below_drew1 | refine below_set ?_ GE191.out) | exact HB.out)⟩⟩
              · (rw [if_neg c18] at H); (exact absurd H (by simp))
            · (rw [if_neg c16] at H); (exact absurd H (by simp))
          · (rw [if_neg c15] at H); (have c15b0 : decide (x5_1 < (l0_1.length : Int)) = false := decide_eq_false c15); (clear c15); (simp only [Option.some.injEq, Prod.mk.injEq] at H); (obtain ⟨rfl, rfl⟩ := H); (have hcz23_0 : wr.cell? ⟨gb191, 0, none⟩ = some (.int .u64 a0_0) := (blk_cell BK191.out 0).trans rfl); (have hcz23_1 : wr.cell? ⟨gb191, 1, none⟩ = some (.slice A0_1 l0_1.length c0_1) := (blk_cell BK191.out 1).trans rfl); (have hfz23_0 := blk_frozen BK191.out 0); (have hfz23_1 := blk_frozen BK191.out 1); (go_wp2); (go_ret2); (exact ⟨_, by first | rfl | (simp [errW_none, errW_some] <;> rfl) | (simp [*, errW_none, errW_some] <;> rfl), by (with_reducible repeat (first | apply Kd.R_alloc | apply Kd.R_drewN | apply Kd.R_drew)); exact HO_4.out, by repeat (first | (with_reducible first | exact HB.out | apply below_alloc | apply pw_below_drewN | apply below_drew1 | refine below_set ?_ GE191.out) | exact HB.out)⟩)
    · (rw [if_neg c6] at H); (exact absurd H (by simp))
  · (replace c3 := Bool.eq_false_iff.mpr c3); (subst c3); (have H1 : (some (([] : List Int), 40)) = some (r1, r2) := by rw [if_neg (show ¬ (false = true) by decide)] at H; exact H); (clear H); (have H := H1); (clear H1); (simp only [Option.some.injEq, Prod.mk.injEq] at H); (obtain ⟨rfl, rfl⟩ := H); (go_enter Try.func46, Try.ntmps46); (go_wp2_with (first | ((with_reducible refine gate_dst (N := 1) rfl ?_); refine box_event ?hg (N := 1) ?hd (cs := #[.int .u64 a0_0, .slice A0_1 l0_1.length c0_1]) (t := 25) ?hr ?_; (case hd => rfl); (case hg => rfl); (case hr => first | (go_simp; done) | (go_simp; rfl)); intro gb191 hg w24 hbox hb; have n0_ := Aside0.mk (below_step (by repeat (first | (with_reducible first | exact HB.out | apply below_alloc | apply pw_below_drewN | apply below_drew1) | exact HB.out)) hb); have n1_ := Aside0.mk (hbox); have n2_ := Aside0.mk ((by rw [hg]; exact (below_size (by repeat (first | (with_reducible first | exact HB.out | apply below_alloc | apply pw_below_drewN | apply below_drew1) | exact HB.out))) : w.heap.size ≤ gb191)); have n3_ := Aside0.mk ((by rw [hg]; exact (below_size (by repeat (first | (with_reducible first | exact HB.out | apply below_alloc | apply pw_below_drewN | apply below_drew1) | exact HB.out))) : w.heap.size ≤ gb191)); clear HB; have HB := n0_; have BK191 := n1_; have GW191 := n2_; have GE191 := n3_; clear n0_ n1_ n2_ n3_; clear hb hbox hg; have hcz25_0 : w24.cell? ⟨gb191, 0, none⟩ = some (.int .u64 a0_0) := (blk_cell BK191.out 0).trans rfl; have hcz25_1 : w24.cell? ⟨gb191, 1, none⟩ = some (.slice A0_1 l0_1.length c0_1) := (blk_cell BK191.out 1).trans rfl; have hfz25_0 := blk_frozen BK191.out 0; have hfz25_1 := blk_frozen BK191.out 1) | ((with_reducible refine gate_callee (f := 28) rfl ?_); refine goesL_ (some 7) rfl rfl Try.func28 (by kernel_rfl) rfl #[.agg #[.int .u64 a0_0, .slice A0_1 l0_1.length c0_1]] rfl (by (try simp only [List.map_toArray, List.map_cons, List.map_nil]); first | done | rfl | (simp only [List.length_drop, List.length_take]; rfl) | (simp only [*]; rfl)) ?_; (with_reducible refine (lockkeeperref04_Right.calls k a0_0 _ _ l0_1 false _ ?side1 ?side2 A2.out).mono ?_); (case side1 => repeat (first | exact (Kd.C_below HR0_1.out HB.out) | (with_reducible refine Kd.C_alloc ?_ _) | (with_reducible refine Kd.C_drewN ?_ _) | (with_reducible refine Kd.C_drew ?_))); (case side2 => exact HC0_1.out); rintro e w26 ⟨rfl, hb⟩; refine ⟨_, rfl, ?_⟩; have n0_ := Aside0.mk (blk_below (g := gb191) (o := .cells #[.int .u64 a0_0, .slice A0_1 l0_1.length c0_1] 25 (0, 0)) (by (with_reducible repeat (first | refine blk_drewN ?_ _ | refine blk_drew ?_ | refine blk_alloc ?_ _)); exact BK191.out) hb); have n1_ := Aside0.mk (below_step (by repeat (first | (with_reducible first | exact HB.out | apply below_alloc | apply pw_below_drewN | apply below_drew1 | refine below_set ?_ GE191.out) | exact HB.out)) hb); clear BK191; clear HB; have BK191 := n0_; have HB := n1_; clear n0_ n1_; (try clear hb); (try clear hb2); (try clear hk); (try clear hi)))); (go_ret2); (exact ⟨_, by first | rfl | (simp [errW_none, errW_some] <;> rfl) | (simp [*, errW_none, errW_some] <;> rfl), by first | exact Kd.R_nil _ _ _ _ _ | exact Kd.N_nil _ _ _ _ _ | exact Kd.V_nil _ _ _ _ _ | exact Kd.Q_nil _ _ _ _ _ | exact Kd.S_nil _ _ _ _ _, by repeat (first | (with_reducible first | exact HB.out | apply below_alloc | apply pw_below_drewN | apply below_drew1 | refine below_set ?_ GE191.out) | exact HB.out)⟩)

/-! ### lsns_Get: function 47 -/
/-- Nothing but block g changes. -/
structure KB (w w' : World) (g : Nat) : Prop where
  keep : KeepBut w w' g none
  os : w'.os = w.os
  tape : w'.tape = w.tape
  output : w'.output = w.output
set_option maxHeartbeats 4000000 in
set_option maxRecDepth 100000 in
theorem KB.refl (w : World) (g : Nat) : KB w w g := ⟨KeepBut.refl _ _ _, rfl, rfl, rfl⟩
set_option maxHeartbeats 4000000 in
set_option maxRecDepth 100000 in
theorem KB.of_below {w w1 : World} (h : Below w.heap.size w w1) (g : Nat) : KB w w1 g := ⟨KeepBut.of_below h g none, h.os, h.tape, h.output⟩
set_option maxHeartbeats 4000000 in
set_option maxRecDepth 100000 in
theorem KB.set_ {w w1 : World} {g : Nat} (h : KB w w1 g) (j : Nat) (u : Value) : KB w (w1.setCell ⟨g, j, none⟩ u) g := ⟨KeepBut.set_ h.keep j u, h.os, h.tape, h.output⟩
set_option maxHeartbeats 4000000 in
set_option maxRecDepth 100000 in
theorem KB.drew {w w1 : World} {g : Nat} (h : KB w w1 g) : KB w w1.drew g := ⟨keep_drew h.keep, h.os, h.tape, h.output⟩
set_option maxHeartbeats 4000000 in
set_option maxRecDepth 100000 in
theorem KB.far {w W : World} {g : Nat} (h : KB w W g) {p : Addr} (hp : w.heap.size ≤ p.block) (u : Value) : KB w (W.setCell p u) g := ⟨keep_far h.keep hp u, h.os, h.tape, h.output⟩
set_option maxHeartbeats 4000000 in
set_option maxRecDepth 100000 in
theorem KB.blk {w w1 : World} {g g' : Nat} {o : Obj} (h : KB w w1 g) (hb : w.heap[g']? = some o) (hg : g' ≠ g) : w1.heap[g']? = some o := h.keep.blk hb hg (by simp)
set_option maxHeartbeats 4000000 in
set_option maxRecDepth 100000 in
theorem KB.comp {W w1 w2 : World} {g : Nat} (hb : Below W.heap.size W w1) (h : KB w1 w2 g) : KB W w2 g :=
  ⟨⟨Nat.le_trans hb.size h.keep.1, fun i hi hg hr => (h.keep.2 i (Nat.lt_of_lt_of_le hi hb.size) hg hr).trans (hb.block i hi)⟩, h.os.trans hb.os, h.tape.trans hb.tape, h.output.trans hb.output⟩
set_option maxHeartbeats 4000000 in
set_option maxRecDepth 100000 in
theorem KB.comp2 {W w1 w2 : World} {g g2 : Nat} (h1 : KB W w1 g) (h2 : KB w1 w2 g2) (hg : W.heap.size ≤ g2) : KB W w2 g :=
  ⟨⟨Nat.le_trans h1.keep.1 h2.keep.1, fun i hi hg' hr => (h2.keep.2 i (Nat.lt_of_lt_of_le hi h1.keep.1) (by omega) hr).trans (h1.keep.2 i hi hg' hr)⟩, h2.os.trans h1.os, h2.tape.trans h1.tape, h2.output.trans h1.output⟩
set_option maxHeartbeats 4000000 in
set_option maxRecDepth 100000 in
theorem KB.below {W w1 w2 : World} {B g : Nat} (hb : Below B W w1) (h : KB w1 w2 g) (hg : B ≤ g) (hs : B ≤ w1.heap.size) : Below B W w2 :=
  ⟨h.os.trans hb.os, h.tape.trans hb.tape, h.output.trans hb.output, Nat.le_trans hb.size h.keep.1, fun i hi => (h.keep.2 i (by omega) (by omega) (by simp)).trans (hb.block i hi)⟩
set_option maxHeartbeats 4000000 in
set_option maxRecDepth 100000 in
theorem bad_calls (W : World) (g : Nat) (s : ByteArray) (p : Int) (lost made : Bool) (h : W.heap[g]? = some (.cells #[.string s, .int .i64 p, .bool lost, .bool made] 143 (0, 0))) :
    Calls Try.prog 91 #[.pointer (some ⟨g, 0, none⟩)] W fun e w' => e = .returned (.bool (!made || lost)) ∧ w' = W := by
  have h2 := (blk_cell h 2).trans rfl
  have h3 := (blk_cell h 3).trans rfl
  go_enter Try.func91, Try.ntmps91
  cases made
  · go_wp2
    go_ret
    exact ⟨by simp, rfl⟩
  · go_wp2
    go_ret
    exact ⟨by simp, rfl⟩
set_option maxHeartbeats 4000000 in
set_option maxRecDepth 100000 in
theorem left_calls (W : World) (g : Nat) (s : ByteArray) (p : Int) (lost : Bool) (h : W.heap[g]? = some (.cells #[.string s, .int .i64 p, .bool lost, .bool true] 143 (0, 0))) (h0 : 0 ≤ p) (h1 : p ≤ s.size) (hs : s.size < 4611686018427387904) :
    Calls Try.prog 92 #[.pointer (some ⟨g, 0, none⟩)] W fun e w' => e = .returned (.int .i64 (if lost then 0 else s.size - p)) ∧ Below W.heap.size W w' := by
  have hb := bad_calls W g s p lost true h
  have hz0 := (blk_cell h 0).trans rfl
  have hz1 := (blk_cell h 1).trans rfl
  have hw : wrap64 ((s.size : Int) - p) = (s.size : Int) - p := by unfold wrap64; omega
  go_enter Try.func92, Try.ntmps92
  cases lost
  · go_wp2_with (go_at_call 91; refine hb.mono ?_; rintro e w1 ⟨rfl, rfl⟩)
    go_region
    all_goals go_wp2
    all_goals go_ret
    all_goals exact ⟨by simp, below_drew1 (Below.refl _ _)⟩
  · go_wp2_with (go_at_call 91; refine hb.mono ?_; rintro e w1 ⟨rfl, rfl⟩)
    go_ret
    exact ⟨by simp, Below.refl _ _⟩
/-- One more byte behind a number. -/
def nx (a b : Int) : Int := bits BinOp.or IntKind.u64 (IntKind.u64.wrap (a * 256)) (IntKind.u64.wrap b)
def numOf (s : ByteArray) (a : Int) : Nat → Int
  | 0 => a
  | j + 1 => nx (numOf s a j) (bt s j)
set_option maxHeartbeats 4000000 in
set_option maxRecDepth 100000 in
theorem numclo_calls (W : World) (g : Nat) (s : ByteArray) (a : Int) (h : W.heap[g]? = some (.cells #[.int .u64 a] 22 (0, 0))) (hs : s.size < 4611686018427387904) :
    Calls Try.prog 114 (#[.string s] ++ #[.pointer (some ⟨g, 0, none⟩)]) W fun e w' => e = .returned (.tuple #[]) ∧ w'.heap[g]? = some (.cells #[.int .u64 (numOf s a s.size)] 22 (0, 0)) ∧ KB W w' g := by
  have HS := Aside0.mk hs
  have HG := Aside0.mk h
  clear hs h
  go_enter Try.func114, Try.ntmps114
  go_wp2
  go_loopg [6] s.size (fun kx s6 wr => ∃ (j : Nat), s6 = .int .i64 j ∧ j ≤ s.size ∧ s.size - j ≤ kx ∧ Aside0 (wr.heap[g]? = some (.cells #[.int .u64 (numOf s a j)] 22 (0, 0))) ∧ Aside0 (KB W wr g))
  case atStart => exact ⟨0, rfl, Nat.zero_le _, Nat.le_refl _, HG, ⟨KB.refl _ _⟩⟩
  case round =>
    obtain ⟨j, rfl, hj, hg, HB, HK⟩ := hrel
    by_cases hlt : j < s.size
    · have hlt' : (j : Int) < (s.size : Int) := by omega
      have hj1 : wrap64 ((j : Int) + 1) = ((j + 1 : Nat) : Int) := by have := HS.out; unfold wrap64; omega
      have hn := Aside0.mk (show numOf s a (j + 1) = nx (numOf s a j) (bt s j) from rfl)
      obtain ⟨x, hx⟩ : ∃ x, x = numOf s a j := ⟨_, rfl⟩
      rw [← hx] at HB hn
      clear hx
      have hz := (blk_cell HB.out 0).trans rfl
      have hf := blk_frozen HB.out 0
      go_wp2
      go_region
      all_goals go_wp2
      go_roundg (s.size - (j + 1))
      case measure => omega
      case rel =>
        have hb : bt s (j : Int) = ((s[j]'hlt).toNat : Int) := by unfold bt; simp [hlt]
        refine ⟨j + 1, by rw [hj1], by omega, Nat.le_refl _, ⟨?_⟩, ⟨KB.drew (KB.set_ HK.out 0 _)⟩⟩
        rw [hn.out, hb]
        exact blk_drew ((blk_set HB.out 0 _).trans rfl)
    · obtain rfl : j = s.size := by omega
      go_wp2
      go_end0
      exact ⟨rfl, HB.out, HK.out⟩
set_option maxHeartbeats 4000000 in
set_option maxRecDepth 100000 in
theorem want_lost (W : World) (g : Nat) (s : ByteArray) (p n : Int) (f : Value) (h : W.heap[g]? = some (.cells #[.string s, .int .i64 p, .bool true, .bool true] 143 (0, 0))) :
    Calls Try.prog 113 #[.pointer (some ⟨g, 0, none⟩), .int .i64 n, f] W fun e w' => e = .returned (.tuple #[]) ∧ w' = W := by
  have hb := bad_calls W g s p true true h
  go_enter Try.func113, Try.ntmps113
  go_wp2_with (go_at_call 91; refine hb.mono ?_; rintro e w1 ⟨rfl, rfl⟩)
  go_end0
  exact ⟨rfl, rfl⟩
set_option maxHeartbeats 4000000 in
set_option maxRecDepth 100000 in
theorem want_short (W : World) (g : Nat) (s : ByteArray) (p n : Int) (f : Value) (h : W.heap[g]? = some (.cells #[.string s, .int .i64 p, .bool false, .bool true] 143 (0, 0))) (h0 : 0 ≤ p) (h1 : p ≤ s.size) (hs : s.size < 4611686018427387904) (hn : n < 0 ∨ n > s.size - p) :
    Calls Try.prog 113 #[.pointer (some ⟨g, 0, none⟩), .int .i64 n, f] W fun e w' => e = .returned (.tuple #[]) ∧ w'.heap[g]? = some (.cells #[.string s, .int .i64 p, .bool true, .bool true] 143 (0, 0)) ∧ KB W w' g := by
  have hb := bad_calls W g s p false true h
  have hl := left_calls W g s p false h h0 h1 hs
  simp only [Bool.false_eq_true, if_false] at hl
  have HG := Aside0.mk h
  clear h
  by_cases hn0 : n < 0
  · have hfz := blk_frozen HG.out 2
    have hfc := (blk_cell HG.out 2).trans rfl
    go_enter Try.func113, Try.ntmps113
    go_wp2_with (first | (go_at_call 91; refine hb.mono ?_; rintro e w1 ⟨rfl, rfl⟩))
    go_end0
    exact ⟨rfl, (blk_set HG.out 2 _).trans rfl, KB.set_ (KB.refl _ _) 2 _⟩
  · have hn2 := hn.resolve_left hn0
    clear hn
    go_enter Try.func113, Try.ntmps113
    go_wp2_with (first | (go_at_call 91; refine hb.mono ?_; rintro e w1 ⟨rfl, rfl⟩) | (go_at_call 92; refine hl.mono ?_; rintro e w2 ⟨rfl, hb2⟩; have HG2 := Aside0.mk (blk_below HG.out hb2); have HK2 := Aside0.mk (KB.of_below hb2 g); clear hb2; have hfz := blk_frozen HG2.out 2; have hfc := (blk_cell HG2.out 2).trans rfl))
    go_end0
    exact ⟨rfl, (blk_set HG2.out 2 _).trans rfl, KB.set_ HK2.out 2 _⟩
set_option maxHeartbeats 4000000 in
set_option maxRecDepth 100000 in
theorem want_ok (W : World) (g gc : Nat) (cb : Array Value) (s : ByteArray) (p n : Int) (Post : World → Prop) (eg : ∀ args w, (callFunc gc args).run Try.prog w = .ok (.enter gc args) w) (h : W.heap[g]? = some (.cells #[.string s, .int .i64 p, .bool false, .bool true] 143 (0, 0))) (h0 : 0 ≤ p) (h1 : p ≤ s.size) (hs : s.size < 4611686018427387904) (hn0 : 0 ≤ n) (hn : n ≤ s.size - p)
    (hc : ∀ W1 : World, W1.heap[g]? = some (.cells #[.string s, .int .i64 (p + n), .bool false, .bool true] 143 (0, 0)) → KB W W1 g → Calls Try.prog gc (#[.string ((s.extract p.toNat s.size).extract 0 n.toNat)] ++ cb) W1 fun e w' => e = .returned (.tuple #[]) ∧ Post w') :
    Calls Try.prog 113 #[.pointer (some ⟨g, 0, none⟩), .int .i64 n, .func (.func gc) #[] cb] W fun e w' => e = .returned (.tuple #[]) ∧ Post w' := by
  have hb := bad_calls W g s p false true h
  have hl := left_calls W g s p false h h0 h1 hs
  simp only [Bool.false_eq_true, if_false] at hl
  have HG := Aside0.mk h
  have HC := Aside0.mk hc
  have hw : wrap64 (p + n) = p + n := by unfold wrap64; omega
  clear h hc
  go_enter Try.func113, Try.ntmps113
  go_wp2_with (first | (go_at_call 91; refine hb.mono ?_; rintro e w1 ⟨rfl, rfl⟩) | (go_at_call 92; refine hl.mono ?_; rintro e w2 ⟨rfl, hb2⟩; have HG2 := Aside0.mk (blk_below HG.out hb2); have HK2 := Aside0.mk (KB.of_below hb2 g); clear hb2; have hfz := blk_frozen HG2.out 1; have hfc := (blk_cell HG2.out 1).trans rfl; have hfd := (blk_cell HG2.out 0).trans rfl))
  have hu9 := Try.underlying9
  have hp1 : p ≤ (s.size : Int) := h1
  have hsz : ((s.extract p.toNat s.size).size : Int) = s.size - p := by rw [ByteArray.size_extract]; omega
  have hn3 : n ≤ ((s.extract p.toNat s.size).size : Int) := by omega
  go_region
  all_goals go_wp2_with (go_at_fn gc; refine (HC.out _ (blk_drew ((blk_set HG2.out 1 _).trans rfl)) (KB.drew (KB.set_ HK2.out 1 _))).mono ?_; rintro e w3 ⟨rfl, hp3⟩)
  all_goals go_end0
  all_goals exact ⟨rfl, hp3⟩
set_option maxHeartbeats 4000000 in
set_option maxRecDepth 100000 in
theorem num_gen (k : Nat) (W : World) (g : Nat) (n x : Int) (O : Obj) (hw : octet_wide.f k n 8 = some true) (hlt : g < W.heap.size)
    (hkey : ∀ w1, Below W.heap.size W w1 → w1.heap[W.heap.size]? = some (.cells #[.int .u64 0] 22 (0, 0)) →
      Calls Try.prog 113 #[.pointer (some ⟨g, 0, none⟩), .int .i64 n, .func (.func 114) #[] #[.pointer (some ⟨W.heap.size, 0, none⟩)]] w1 fun e w' => e = .returned (.tuple #[]) ∧ (w'.heap[g]? = some O ∧ w'.heap[W.heap.size]? = some (.cells #[.int .u64 x] 22 (0, 0)) ∧ KB W w' g)) :
    Calls Try.prog 90 #[.pointer (some ⟨g, 0, none⟩), .int .i64 n] W fun e w' => e = .returned (.int .u64 x) ∧ w'.heap[g]? = some O ∧ KB W w' g := by
  obtain ⟨W0, hW0⟩ : ∃ W0, W0 = W.alloc (.cells #[.int .u64 0] 22) := ⟨_, rfl⟩
  have hB0 : Below W.heap.size W W0 := by rw [hW0]; exact below_alloc (Below.refl _ _) _
  have hbn : W0.heap[W.heap.size]? = some (.cells #[.int .u64 0] 22 (0, 0)) := by rw [hW0]; exact blk_new W _
  have hwd := octet_wide.calls k n 8 true W0 hw
  have HB0 := Aside0.mk hB0
  have HN := Aside0.mk hbn
  have HX := Aside0.mk hlt
  have HK := Aside0.mk hkey
  clear hlt hB0 hbn hkey
  go_enter Try.func90, Try.ntmps90
  go_wp2_with (first | (go_at_call 110; rw [← hW0]; refine hwd.mono ?_; rintro e w1 ⟨rfl, hbd⟩; have hb := hbd.below; have HN1 := Aside0.mk (blk_below HN.out hb); have HB1 := Aside0.mk (below_step HB0.out hb); clear hb hbd) | (go_at_call 113; refine (HK.out _ HB1.out HN1.out).mono ?_; rintro e w2 ⟨rfl, hg3, hn3, hk3⟩; have HG2 := Aside0.mk hg3; have HK2 := Aside0.mk hk3; have HN2 := Aside0.mk hn3; clear hg3 hn3 hk3; have hcn := (blk_cell HN2.out 0).trans rfl; have hfn := blk_frozen HN2.out 0))
  have hc3 : (w2.setCell ⟨W.heap.size, 0, none⟩ (.int .u64 x)).heap[W.heap.size]? = some (.cells #[.int .u64 x] 22 (0, 0)) := (blk_set HN2.out 0 _).trans rfl
  have hc4 := (blk_cell hc3 0).trans rfl
  have hlt := HX.out
  refine bodyPost_ret (v := .int .u64 x) ?_ rfl ?_
  · unfold results
    go_simp
  · exact ⟨rfl, (Below.heap_setCell w2 ⟨W.heap.size, 0, none⟩ _ g (by show g ≠ W.heap.size; omega)).trans HG2.out, KB.far HK2.out (p := ⟨W.heap.size, 0, none⟩) (Nat.le_refl _) _⟩
/-- A reader's place, and whether it is lost, behind a number. -/
def rdP (s : ByteArray) (p : Int) (lost : Bool) (n : Int) : Int := if lost = true ∨ n > s.size - p then p else p + n
def rdL (s : ByteArray) (p : Int) (lost : Bool) (n : Int) : Bool := lost || decide (n > s.size - p)
def rdN (s : ByteArray) (p : Int) (lost : Bool) (n : Int) : Int := if lost = true ∨ n > s.size - p then 0 else numOf ((s.extract p.toNat s.size).extract 0 n.toNat) 0 n.toNat
set_option maxHeartbeats 4000000 in
set_option maxRecDepth 100000 in
theorem num_calls (k : Nat) (W : World) (g : Nat) (s : ByteArray) (p n : Int) (lost : Bool) (hw : octet_wide.f k n 8 = some true) (h : W.heap[g]? = some (.cells #[.string s, .int .i64 p, .bool lost, .bool true] 143 (0, 0))) (h0 : 0 ≤ p) (h1 : p ≤ s.size) (hs : s.size < 4611686018427387904) (hn0 : 0 ≤ n) :
    Calls Try.prog 90 #[.pointer (some ⟨g, 0, none⟩), .int .i64 n] W fun e w' => e = .returned (.int .u64 (rdN s p lost n)) ∧ w'.heap[g]? = some (.cells #[.string s, .int .i64 (rdP s p lost n), .bool (rdL s p lost n), .bool true] 143 (0, 0)) ∧ KB W w' g := by
  have hlt := blk_lt h
  cases lost
  · by_cases hn : n > s.size - p
    · have e1 : rdN s p false n = 0 := by unfold rdN; rw [if_pos (.inr hn)]
      have e2 : rdP s p false n = p := by unfold rdP; rw [if_pos (.inr hn)]
      have e3 : rdL s p false n = true := by unfold rdL; simp only [Bool.false_or]; exact decide_eq_true hn
      rw [e1, e2, e3]
      refine num_gen k W g n 0 _ hw hlt (fun w1 hb1 hn1 => ?_)
      refine (want_short w1 g s p n _ (blk_below h hb1) h0 h1 hs (.inr hn)).mono ?_
      rintro e w2 ⟨rfl, hg2, hk2⟩
      exact ⟨rfl, hg2, hk2.blk hn1 (by omega), KB.comp hb1 hk2⟩
    · have e1 : rdN s p false n = numOf ((s.extract p.toNat s.size).extract 0 n.toNat) 0 n.toNat := by unfold rdN; rw [if_neg (by simp; omega)]
      have e2 : rdP s p false n = p + n := by unfold rdP; rw [if_neg (by simp; omega)]
      have e3 : rdL s p false n = false := by unfold rdL; simp only [Bool.false_or]; exact decide_eq_false hn
      rw [e1, e2, e3]
      generalize hsub : (s.extract p.toNat s.size).extract 0 n.toNat = sub
      have hsz : sub.size = n.toNat := by rw [← hsub, ByteArray.size_extract, ByteArray.size_extract]; omega
      refine num_gen k W g n _ _ hw hlt (fun w1 hb1 hn1 => ?_)
      refine want_ok w1 g 114 #[.pointer (some ⟨W.heap.size, 0, none⟩)] s p n _ (enters_of Try.func114 (by kernel_rfl) rfl) (blk_below h hb1) h0 h1 hs hn0 (by omega) (fun W1 hg2 hk1 => ?_)
      rw [hsub]
      have hn2 : W1.heap[W.heap.size]? = some (.cells #[.int .u64 0] 22 (0, 0)) := hk1.blk hn1 (by omega)
      refine (numclo_calls W1 W.heap.size sub 0 hn2 (by omega)).mono ?_
      rintro e w2 ⟨rfl, hn3, hk2⟩
      rw [hsz] at hn3
      refine ⟨rfl, hk2.blk hg2 (by omega), hn3, ?_⟩
      exact KB.comp2 (KB.comp hb1 hk1) hk2 (Nat.le_refl _)
  · have e1 : rdN s p true n = 0 := by unfold rdN; rw [if_pos (.inl rfl)]
    have e2 : rdP s p true n = p := by unfold rdP; rw [if_pos (.inl rfl)]
    have e3 : rdL s p true n = true := rfl
    rw [e1, e2, e3]
    refine num_gen k W g n 0 _ hw hlt (fun w1 hb1 hn1 => ?_)
    refine (want_lost w1 g s p n _ (blk_below h hb1)).mono ?_
    rintro e w2 ⟨rfl, rfl⟩
    exact ⟨rfl, blk_below h hb1, hn1, KB.of_below hb1 g⟩
def Hold (p : Prop) : Prop := p
set_option maxHeartbeats 4000000 in
set_option maxRecDepth 100000 in
theorem hold {p : Prop} (h : Hold p) : p := h
set_option maxHeartbeats 4000000 in
set_option maxRecDepth 100000 in
theorem open_calls (W : World) (A : Option Addr) (l : List Int) (c : Nat) (hr : Kd.C (Kd.int .u8) W A l.length l) :
    Calls Try.prog 89 #[.slice A l.length c] W fun e w' => ∃ g, e = .returned (.pointer (some ⟨g, 0, none⟩)) ∧ W.heap.size ≤ g ∧ w'.heap[g]? = some (.cells #[.string (strOfNums l), .int .i64 0, .bool false, .bool true] 143 (0, 0)) ∧ Below W.heap.size W w' := by
  have hcv := fun (w : World) (h : Below W.heap.size W w) => Kd.C_string (P := Try.prog) (src := 70) (dst := 9) (e := 5) (c := c) Try.underlying70 Try.underlying5 Try.underlying9 (Kd.C_below hr h)
  have hcv0 := hcv W (Below.refl _ _)
  go_enter Try.func89, Try.ntmps89
  go_wp2
  go_ret
  exact ⟨_, rfl, Nat.le_refl _, blk_new _ _, below_alloc (Below.refl _ _) _⟩
/-- n numbers of 8 bytes each, from a place on. -/
def getIn (s : ByteArray) (p n : Int) : List Int := (List.range n.toNat).map fun i : Nat => rdN s (p + 8 * (i : Int)) false 8
def lsns_Get.f (k : Nat) (l0 : List Int) : Option (Int × List Int × Int × Int) :=
  if l0.length < 140737488355328 ∧ octet_wide.f k 8 8 = some true ∧ octet_wide.f k 2 8 = some true then
    let s := strOfNums l0
    let n := rdN s (rdP s 0 false 8) (rdL s 0 false 8) 2
    let p := rdP s (rdP s 0 false 8) (rdL s 0 false 8) 2
    if ¬ (0 ≤ n ∧ n ≤ 65535) then none
    else if rdL s (rdP s 0 false 8) (rdL s 0 false 8) 2 = true then some (0, [], 0, 4)
    else if n > 1000 then some (0, [], 0, 40)
    else if (s.size : Int) - p < 8 * n then some (0, [], 0, 4)
    else (lsns_Right.f k (rdN s 0 false 8) (getIn s p n)).bind fun t =>
      if t = true then some (rdN s 0 false 8, getIn s p n, 10 + 8 * n, 0) else some (0, [], 0, 40)
  else none
set_option maxHeartbeats 4000000 in
set_option maxRecDepth 100000 in
theorem rdP_le {s : ByteArray} {p : Int} {lost : Bool} {n : Int} (h : p ≤ s.size) : rdP s p lost n ≤ s.size := by
  unfold rdP
  split
  · exact h
  · rename_i h1
    have : ¬ n > s.size - p := fun h2 => h1 (.inr h2)
    omega
set_option maxHeartbeats 4000000 in
set_option maxRecDepth 100000 in
theorem rdP_ge {s : ByteArray} {p : Int} {lost : Bool} {n : Int} (h : 0 ≤ p) (hn : 0 ≤ n) : 0 ≤ rdP s p lost n := by
  unfold rdP
  split <;> omega
set_option maxHeartbeats 4000000 in
set_option maxRecDepth 100000 in
theorem strOfNums_size (l : List Int) : (strOfNums l).size = l.length := by
  unfold strOfNums
  show (List.toArray _).size = _
  simp
def get.T : Bool × List (List Nat × List Nat) := (true, [([], []), ([0], [0]), ([], []), ([2], [2]), ([3], [3]), ([1, 4, 3], [1, 4]), ([0, 1, 2, 3, 4, 5], []), ([6, 5, 5, 0, 1, 2, 3, 4, 5], [5, 6])])
def get.B : List Nat := [0, 1, 0, 4, 12, 31, 63, 127]
set_option maxHeartbeats 4000000 in
set_option maxRecDepth 100000 in
theorem get.tab : rtab .any (opsOf Try.f47 12) = get.T := by kernel_rfl
set_option maxHeartbeats 4000000 in
set_option maxRecDepth 100000 in
theorem get.bits : waitsOk get.T.2 get.B = true := by kernel_rfl
set_option maxHeartbeats 4000000 in
set_option maxRecDepth 100000 in
theorem get_calls (k : Nat) (W : World) (A : Option Addr) (l : List Int) (c : Nat) (r1 : Int) (r2 : List Int) (r3 r4 : Int) (hr : Kd.C (Kd.int .u8) W A l.length l) (h : lsns_Get.f k l = some (r1, r2, r3, r4)) :
    Calls Try.prog 47 #[.slice A l.length c] W fun e w' => ∃ v, e = .returned (.tuple #[.agg #[.int .u64 r1, v], .int .i64 r3, .int .i64 r4]) ∧ Kd.R (Kd.int .u64) 22 w' W.heap.size (fun _ => True) v r2 ∧ Below W.heap.size W w' := by
  unfold lsns_Get.f at h
  by_cases hh : l.length < 140737488355328 ∧ octet_wide.f k 8 8 = some true ∧ octet_wide.f k 2 8 = some true
  case neg => rw [if_neg hh] at h; cases h
  rw [if_pos hh] at h
  obtain ⟨hl, hw8, hw2⟩ := hh
  obtain ⟨s, hs⟩ : ∃ s, s = strOfNums l := ⟨_, rfl⟩
  rw [← hs] at h
  have hsz : s.size < 4611686018427387904 := by rw [hs, strOfNums_size]; omega
  obtain ⟨W0, hW0⟩ : ∃ W0, W0 = W.alloc (.cells #[.int .u64 0, .slice none 0 0] 25) := ⟨_, rfl⟩
  have hB0 : Below W.heap.size W W0 := by rw [hW0]; exact below_alloc (Below.refl _ _) _
  have hs0 : W0.heap.size = W.heap.size + 1 := by rw [hW0, World.size_alloc]
  have hR0 : W0.heap[W.heap.size]? = some (.cells #[.int .u64 0, .slice none 0 0] 25 (0, 0)) := by rw [hW0]; exact blk_new W _
  have ho := open_calls W0 A l c (Kd.C_below hr hB0)
  rw [← hs] at ho
  clear hs
  have HB0 := Aside0.mk hB0
  have HS0 := Aside0.mk hs0
  have HR0 := Aside0.mk hR0
  have HH := Aside0.mk h
  have HSZ := Aside0.mk hsz
  have HW8 := Aside0.mk hw8
  have HW2 := Aside0.mk hw2
  clear hB0 hR0 h hs0 hsz hw8 hw2
  obtain ⟨p1, hp1⟩ : ∃ p, p = rdP s 0 false 8 := ⟨_, rfl⟩
  obtain ⟨b1, hb1⟩ : ∃ b, b = rdL s 0 false 8 := ⟨_, rfl⟩
  obtain ⟨low, hlow⟩ : ∃ x, x = rdN s 0 false 8 := ⟨_, rfl⟩
  obtain ⟨p2, hp2⟩ : ∃ p, p = rdP s p1 b1 2 := ⟨_, rfl⟩
  obtain ⟨b2, hb2⟩ : ∃ b, b = rdL s p1 b1 2 := ⟨_, rfl⟩
  obtain ⟨n, hn⟩ : ∃ x, x = rdN s p1 b1 2 := ⟨_, rfl⟩
  have q1 : 0 ≤ p1 ∧ p1 ≤ s.size := ⟨hp1 ▸ rdP_ge (Int.le_refl _) (by omega), hp1 ▸ rdP_le (by omega)⟩
  have Q1 := Aside0.mk q1
  have q2 : 0 ≤ p2 ∧ p2 ≤ s.size := ⟨hp2 ▸ rdP_ge q1.1 (by omega), hp2 ▸ rdP_le q1.2⟩
  have Q2 := Aside0.mk q2
  have hk8 : ∀ (w : World) (g : Nat), w.heap[g]? = some (.cells #[.string s, .int .i64 0, .bool false, .bool true] 143 (0, 0)) → Calls Try.prog 90 #[.pointer (some ⟨g, 0, none⟩), .int .i64 8] w fun e w' => e = .returned (.int .u64 low) ∧ w'.heap[g]? = some (.cells #[.string s, .int .i64 p1, .bool b1, .bool true] 143 (0, 0)) ∧ KB w w' g := fun w g hg => by
    rw [hlow, hp1, hb1]; exact num_calls k w g s 0 8 false HW8.out hg (Int.le_refl _) (by omega) HSZ.out (by omega)
  have hk2 : ∀ (w : World) (g : Nat), w.heap[g]? = some (.cells #[.string s, .int .i64 p1, .bool b1, .bool true] 143 (0, 0)) → Calls Try.prog 90 #[.pointer (some ⟨g, 0, none⟩), .int .i64 2] w fun e w' => e = .returned (.int .u64 n) ∧ w'.heap[g]? = some (.cells #[.string s, .int .i64 p2, .bool b2, .bool true] 143 (0, 0)) ∧ KB w w' g := fun w g hg => by
    rw [hn, hp2, hb2]; exact num_calls k w g s p1 2 b1 HW2.out hg Q1.out.1 Q1.out.2 HSZ.out (by omega)
  have HK8 := Aside0.mk hk8
  have HK2 := Aside0.mk hk2
  have HH1 := HH.out
  simp only [← hp1, ← hb1, ← hlow, ← hp2, ← hb2, ← hn] at HH1
  by_cases hnb : ¬ (0 ≤ n ∧ n ≤ 65535)
  · rw [if_pos hnb] at HH1; cases HH1
  rw [if_neg hnb] at HH1
  have hn0 : 0 ≤ n ∧ n ≤ 65535 := Classical.not_not.1 hnb
  have HNB := Aside0.mk hn0
  have hwn : wrap64 n = n := by unfold wrap64; omega
  have HH2 := Aside0.mk HH1
  clear HH1 HH hk8 hk2 q1 q2 hp1 hb1 hlow hp2 hb2 hn hnb hn0
  have hbad := fun (w : World) (g : Nat) (h : w.heap[g]? = some (.cells #[.string s, .int .i64 p2, .bool b2, .bool true] 143 (0, 0))) => bad_calls w g s p2 b2 true h
  have HBAD := Aside0.mk hbad
  have hleft := fun (w : World) (g : Nat) (h : w.heap[g]? = some (.cells #[.string s, .int .i64 p2, .bool b2, .bool true] 143 (0, 0))) => left_calls w g s p2 b2 h Q2.out.1 Q2.out.2 HSZ.out
  have HLEFT := Aside0.mk hleft
  clear hbad hleft
  have key : ∀ (g gl : Nat) (w3 : World), W.heap.size < g → w3.heap[g]? = some (.cells #[.string s, .int .i64 p2, .bool b2, .bool true] 143 (0, 0)) → w3.heap[W.heap.size]? = some (.cells #[.int .u64 0, .slice none 0 0] 25 (0, 0)) → w3.heap[gl]? = some (.cells #[.int .u64 low, .slice none 0 0] 25 (0, 0)) → W.heap.size < gl → Below W.heap.size W w3 → True := fun _ _ _ _ _ _ _ _ _ => trivial
  clear key
  go_enter Try.func47, Try.ntmps47
  go_wp2_with (first | (go_at_call 89; rw [← hW0]; refine ho.mono ?_; rintro e w1 ⟨g, rfl, hge, hrd, hb⟩; have GE := Aside0.mk hge; have RD1 := Aside0.mk hrd; have R1 := Aside0.mk (blk_below HR0.out hb); have HB1 := Aside0.mk (below_step HB0.out hb); clear hge hrd hb) | (go_at_call 90; refine (HK8.out _ _ RD1.out).mono ?_; rintro e w2 ⟨rfl, hrd, hkb⟩; have RD2 := Aside0.mk hrd; have R2 := Aside0.mk (hkb.blk R1.out (by have := GE.out; have := HS0.out; omega)); have HB2 := Aside0.mk (KB.below HB1.out hkb (by have := GE.out; have := HS0.out; omega) HB1.out.size); clear hrd hkb RD1) | (go_at_call 90; go_loud (refine (HK2.out _ _ (blk_alloc RD2.out _)).mono ?_; rintro e w3 ⟨rfl, hrd, hkb⟩; have RD3 := Aside0.mk hrd; have R3 := Aside0.mk (hkb.blk (blk_alloc R2.out _) (by have := GE.out; have := HS0.out; omega)); have hlt := blk_lt RD2.out; have L3 := Aside0.mk (hkb.blk (blk_new w2 _) (by omega)); have HB3 := Aside0.mk (KB.below (below_alloc HB2.out _) hkb (by have := GE.out; have := HS0.out; omega) (below_alloc HB2.out _).size); have GL := Aside0.mk (show W.heap.size < w2.heap.size by have := GE.out; have := HS0.out; omega); clear hrd hkb RD2 R2 HB2 hlt)) | (go_at_call 91; go_loud (refine (HBAD.out _ _ RD3.out).mono ?_; rintro e w4 ⟨rfl, rfl⟩; refine hold ?_)))
  unfold Hold
  have hz0 := (blk_cell R3.out 0).trans rfl
  have hz1 := (blk_cell R3.out 1).trans rfl
  have hf0 := blk_frozen R3.out 0
  have hf1 := blk_frozen R3.out 1
  cases b2
  · have HH3 := HH2.out
    rw [if_neg (by simp)] at HH3
    by_cases h1000 : n > 1000
    · rw [if_pos h1000] at HH3
      simp only [Option.some.injEq, Prod.mk.injEq] at HH3
      obtain ⟨rfl, rfl, rfl, rfl⟩ := HH3
      go_wp2
      refine bodyPost_ret (results_ctt rfl _ _ W.heap.size 25 #[.int .u64 0, .slice none 0 0] (0, 0) _ rfl (by refine blk_put (cs := #[.int .u64 0, .slice none 0 0]) ?_ 1 _ rfl; refine blk_put (cs := #[.int .u64 0, .slice none 0 0]) ?_ 0 _ rfl; exact R3.out) Try.underlying25 rfl (by kernel_rfl)) rfl ?_
      exact ⟨_, rfl, Kd.R_nil _ _ _ _ _, below_set (below_set HB3.out (Nat.le_refl _)) (Nat.le_refl _)⟩
    · rw [if_neg h1000] at HH3
      have h8 : wrap64 (8 * n) = 8 * n := by have := HNB.out; unfold wrap64; omega
      by_cases hsh : (s.size : Int) - p2 < 8 * n
      · rw [if_pos hsh] at HH3
        simp only [Option.some.injEq, Prod.mk.injEq] at HH3
        obtain ⟨rfl, rfl, rfl, rfl⟩ := HH3
        go_wp2_with (go_at_call 92; go_loud (refine (HLEFT.out _ _ RD3.out).mono ?_; rintro e w5 ⟨rfl, hb5⟩; have R5 := Aside0.mk (blk_below R3.out hb5); have HB5 := Aside0.mk (below_step HB3.out hb5); clear hb5; have hy0 := (blk_cell R5.out 0).trans rfl; have hy1 := (blk_cell R5.out 1).trans rfl; have hg0 := blk_frozen R5.out 0; have hg1 := blk_frozen R5.out 1))
        refine bodyPost_ret (results_ctt rfl _ _ W.heap.size 25 #[.int .u64 0, .slice none 0 0] (0, 0) _ rfl (by refine blk_put (cs := #[.int .u64 0, .slice none 0 0]) ?_ 1 _ rfl; refine blk_put (cs := #[.int .u64 0, .slice none 0 0]) ?_ 0 _ rfl; exact R5.out) Try.underlying25 rfl (by kernel_rfl)) rfl ?_
        exact ⟨_, rfl, Kd.R_nil _ _ _ _ _, below_set (below_set HB5.out (Nat.le_refl _)) (Nat.le_refl _)⟩
      · rw [if_neg hsh] at HH3
        have HH4 := Aside0.mk HH3
        clear HH2 HH3
        go_wp2_with (go_at_call 92; go_loud (refine (HLEFT.out _ _ RD3.out).mono ?_; rintro e w5 ⟨rfl, hb5⟩; have R5 := Aside0.mk (blk_below R3.out hb5); have RD5 := Aside0.mk (blk_below RD3.out hb5); have L5 := Aside0.mk (blk_below L3.out hb5); have HB5 := Aside0.mk (below_step HB3.out hb5); clear hb5))
        have hpn : p2 + 8 * n ≤ s.size := by omega
        have hcut : ∀ j : Nat, (j : Int) < n → rdP s (p2 + 8 * j) false 8 = p2 + 8 * ((j + 1 : Nat) : Int) ∧ rdL s (p2 + 8 * j) false 8 = false := fun j hj => by
          have h1 : ¬ ((8 : Int) > s.size - (p2 + 8 * j)) := by omega
          refine ⟨?_, ?_⟩
          · unfold rdP; rw [if_neg (by simp; omega)]; omega
          · unfold rdL; simp only [Bool.false_or]; exact decide_eq_false h1
        have HCUT := Aside0.mk hcut
        have HPN := Aside0.mk hpn
        clear hcut hpn hsh h1000 h8 hwn hz0 hz1 hf0 hf1 R3 RD3 L3 HB3
        generalize w2.heap.size = gl at GL L5 ⊢
        go_loopg [32] n.toNat (fun kx s32 wr => ∃ (j : Nat) (v : Value), s32 = .int .i64 j ∧ (j : Int) ≤ n ∧ n.toNat - j ≤ kx ∧ Aside0 (wr.heap[g]? = some (.cells #[.string s, .int .i64 (p2 + 8 * (j : Int)), .bool false, .bool true] 143 (0, 0))) ∧ Aside0 (wr.heap[gl]? = some (.cells #[.int .u64 low, v] 25 (0, 0))) ∧ Aside0 (wr.heap[W.heap.size]? = some (.cells #[.int .u64 0, .slice none 0 0] 25 (0, 0))) ∧ Aside0 (Kd.R (Kd.int .u64) 22 wr W.heap.size (fun _ => True) v (getIn s p2 j)) ∧ Aside0 (Below W.heap.size W wr))
        case atStart => exact ⟨0, .slice none 0 0, rfl, by have := HNB.out; omega, by omega, ⟨by rw [RD5.out]; simp⟩, L5, R5, ⟨Kd.R_nil _ _ _ _ _⟩, HB5⟩
        case round =>
          obtain ⟨j, v, rfl, hj, hg, RD, LL, RR, HO, HB⟩ := hrel
          by_cases hlt : (j : Int) < n
          · have hj1 : wrap64 ((j : Int) + 1) = ((j + 1 : Nat) : Int) := by have := HNB.out; unfold wrap64; omega
            have hltn : j < n.toNat := by omega
            obtain ⟨hcp, hcl⟩ := HCUT.out j hlt
            have hnum : ∀ w : World, w.heap[g]? = some (.cells #[.string s, .int .i64 (p2 + 8 * (j : Int)), .bool false, .bool true] 143 (0, 0)) → Calls Try.prog 90 #[.pointer (some ⟨g, 0, none⟩), .int .i64 8] w fun e w' => e = .returned (.int .u64 (rdN s (p2 + 8 * (j : Int)) false 8)) ∧ w'.heap[g]? = some (.cells #[.string s, .int .i64 (p2 + 8 * ((j + 1 : Nat) : Int)), .bool false, .bool true] 143 (0, 0)) ∧ KB w w' g := fun w hg => by
              have h := num_calls k w g s (p2 + 8 * (j : Int)) 8 false HW8.out hg (by have := Q2.out; omega) (by have := HPN.out; omega) HSZ.out (by omega)
              rw [hcp, hcl] at h
              exact h
            have hlast : getIn s p2 ((j + 1 : Nat) : Int) = getIn s p2 j ++ [rdN s (p2 + 8 * (j : Int)) false 8] := by
              unfold getIn
              rw [Int.toNat_natCast, Int.toNat_natCast, List.range_succ, List.map_append]
              rfl
            have hglen : (getIn s p2 j).length = j := by unfold getIn; simp
            have HNUM := Aside0.mk hnum
            have HLAST := Aside0.mk hlast
            have HGL := Aside0.mk hglen
            generalize rdN s (p2 + 8 * (j : Int)) false 8 = x at HNUM HLAST
            generalize getIn s p2 j = xs at HO HLAST HGL
            obtain ⟨Ao, co, eo⟩ := Kd.R_slice HO.out
            subst eo
            have hxg : gl ≠ g := by
              rintro rfl
              have h1 := LL.out
              rw [RD.out] at h1
              simp at h1
            have hxW : W.heap.size ≠ g := by have := GE.out; have := HS0.out; omega
            have HXG := Aside0.mk hxg
            have HXW := Aside0.mk hxW
            clear hxg hxW hnum hlast hglen hcp hcl
            go_wp2
            have DL : Aside0 (wr.drew.heap[gl]? = some (.cells #[.int .u64 low, .slice Ao xs.length co] 25 (0, 0))) := ⟨blk_drew LL.out⟩
            have DD : Aside0 (wr.drew.heap[g]? = some (.cells #[.string s, .int .i64 (p2 + 8 * (j : Int)), .bool false, .bool true] 143 (0, 0))) := ⟨blk_drew RD.out⟩
            have DR : Aside0 (wr.drew.heap[W.heap.size]? = some (.cells #[.int .u64 0, .slice none 0 0] 25 (0, 0))) := ⟨blk_drew RR.out⟩
            have DO := Aside0.mk (Kd.R_drew HO.out)
            have DB := Aside0.mk (below_drew1 HB.out)
            refine start_ (n := 8) (S := fun w' => w'.cell? ⟨gl, 1, none⟩ = some (.slice Ao xs.length co)) (ds := [7]) #[false, false, false, false, false, false, false, false] (by kernel_rfl) rfl rfl ((blk_cell DL.out 1).trans rfl) (fun hHeld => ?_)
            refine with_tabW get.tab get.bits (fun HT_ HW_ => ?_)
            clear LL RD RR HO HB
            generalize wr.drew = w5 at DL DD DR DO DB hHeld ⊢
            (refine pure_ (i := 0) (N := some 34) (v := ?_) (a' := ?_) #[true, false, false, false, false, false, false, false] rfl rfl (any_of HT_.out (by kernel_rfl)) (fun _ _ _ h => h) (Or.inl ⟨by rfl, ?_⟩) ?_ ?_); (rotate_left)
            · (intro w'); (go_simp); (with_reducible rfl)
            rotate_left
            · (simp only [Act.put, List.setIfInBounds_toArray, List.set_cons_zero, List.set_cons_succ, i64_w, i32_w]); (rfl)
            (refine pure_ (i := 2) (N := some 36) (v := ?_) (a' := ?_) #[true, false, true, false, false, false, false, false] rfl rfl (any_of HT_.out (by kernel_rfl)) (fun _ _ _ h => h) (Or.inl ⟨by rfl, ?_⟩) ?_ ?_); (rotate_left)
            · (intro w'); (go_simp); (with_reducible rfl)
            rotate_left
            · (simp only [Act.put, List.setIfInBounds_toArray, List.set_cons_zero, List.set_cons_succ, i64_w, i32_w]); (rfl)
            (refine take_ (i := 1) (N := some 35) (v := ?_) (a' := ?_) #[true, true, true, false, false, false, false, false] rfl rfl (take_ofW HT_.out HW_.out (by kernel_rfl)) (fun _ _ _ h => h) (Or.inl ⟨by rfl, ?_⟩) hHeld ?_ ?_); (rotate_left)
            · (rintro w' s0); (go_simp); (with_reducible rfl)
            rotate_left
            · (simp only [Act.put, List.setIfInBounds_toArray, List.set_cons_zero, List.set_cons_succ, i64_w, i32_w]); (rfl)
            (refine one_ (i := 3) (N := some 37) #[true, true, true, true, false, false, false, false] rfl rfl (one_of HT_.out (by kernel_rfl)) (by decide) (fun K hK => ?_))
            refine goes_ Try.func90 (by kernel_rfl) rfl #[.pointer (some ⟨g, 0, none⟩), .int .i64 8] (by rfl) rfl rfl (by (try simp only [List.map_toArray, List.map_cons, List.map_nil]); first | done | rfl | (simp only [*]; rfl)) ?_
            refine (HNUM.out _ DD.out).mono ?_
            rintro e w6 ⟨rfl, hrd, hkb⟩
            refine ⟨_, rfl, ?_⟩
            have ED := Aside0.mk hrd
            have EL := Aside0.mk (hkb.blk DL.out HXG.out)
            have ER := Aside0.mk (hkb.blk DR.out HXW.out)
            have EB := Aside0.mk (KB.below DB.out hkb (by have := GE.out; have := HS0.out; omega) (below_size DB.out))
            have EO := Aside0.mk (Kd.R_mono (Kd.R_keep (Kd.R_types DO.out DD.out (by decide)) hkb.keep (fun _ hk => hk.2)) (fun _ _ => trivial) (ok' := fun _ => True))
            clear hrd hkb DD DL DR DB DO
            refine hK.out _ _ ((blk_cell EL.out 1).trans rfl) (fun hHeld => ?_)
            clear hK K
            (refine norm_ (a' := ?_) ?_ ?_); (rotate_left)
            · (show Act.put _ (some 37) _ = _); (simp only [Act.put, List.setIfInBounds_toArray, List.set_cons_zero, List.set_cons_succ, i64_w, i32_w]); (rfl)
            (refine one_ (i := 4) (N := some 38) #[true, true, true, true, true, false, false, false] rfl rfl (one_of HT_.out (by kernel_rfl)) (by decide) (fun K hK => ?_)); (refine value_ (w1 := ?_) (v := ?_) (by rfl) rfl ?_ ?_); (rotate_left 2)
            · (go_simp); (constructor)
              · rfl
              · rfl
            (refine hK.out _ _ ((blk_cell (blk_alloc EL.out _) 1).trans rfl) (fun hHeld => ?_)); (clear hK K); (refine norm_ (a' := ?_) ?_ ?_); (rotate_left)
            · (show Act.put _ (some 38) _ = _); (simp only [Act.put, List.setIfInBounds_toArray, List.set_cons_zero, List.set_cons_succ, i64_w, i32_w]); (rfl)
            (refine one_ (i := 5) (N := some 39) #[true, true, true, true, true, true, false, false] rfl rfl (one_of HT_.out (by kernel_rfl)) (by decide) (fun K hK => ?_))
            refine Kd.R_append_step (Kd.int .u64) (w0 := W) W.heap.size (by rfl) (.tmp 35) (.tmp 38) 23 22 (.int .u64 0) 8 rfl Try.underlying23 info22 rfl (by decide) (by omega) (.slice Ao xs.length co) xs x [.int .u64 x] (fun _ => True) (fun _ => False) rfl rfl ?aP (fun _ hk => hk.elim) ?aF ?aO ?aB ?aS ?aL ?_
            case aP => exact rfl
            case aF => exact fun _ _ => trivial
            case aO => exact EO.out
            case aB => exact EB.out
            case aS => exact below_size EB.out
            case aL => have := HGL.out; have := HNB.out; omega
            intro v7 w7 ho hb hg9 hat
            obtain ⟨An, cn, en⟩ := Kd.R_slice ho
            subst en
            rw [show (xs ++ [x]).length = xs.length + 1 by simp] at ho
            have FD := Aside0.mk (blk_grown ED.out hg9 (Kd.R_ne EO.out ED.out (by decide)))
            have FL := Aside0.mk (blk_grown EL.out hg9 (Kd.R_ne EO.out EL.out (by decide)))
            have FR := Aside0.mk (blk_grown ER.out hg9 (Kd.R_ne EO.out ER.out (by decide)))
            have FB := Aside0.mk hb
            have FO := Aside0.mk ho
            clear hb hg9 hat ho ED EL ER EB EO
            refine hK.out _ _ ((blk_cell FL.out 1).trans rfl) (fun hHeld => ?_)
            clear hK K
            (refine norm_ (a' := ?_) ?_ ?_); (rotate_left)
            · (show Act.put _ (some 39) _ = _); (simp only [Act.put, List.setIfInBounds_toArray, List.set_cons_zero, List.set_cons_succ, i64_w, i32_w]); (rfl)
            (refine pure_ (i := 6) (N := some 40) (v := ?_) (a' := ?_) #[true, true, true, true, true, true, true, false] rfl rfl (any_of HT_.out (by kernel_rfl)) (fun _ _ _ h => h) (Or.inl ⟨by rfl, ?_⟩) ?_ ?_); (rotate_left)
            · (intro w'); (go_simp); (with_reducible rfl)
            rotate_left
            · (simp only [Act.put, List.setIfInBounds_toArray, List.set_cons_zero, List.set_cons_succ, i64_w, i32_w]); (rfl)
            (refine last_ (i := 7) (N := none) #[true, true, true, true, true, true, true, true] rfl rfl (one_of HT_.out (by kernel_rfl)) (by decide) (fun K hK => ?_))
            have hs35 : w7.cell? ⟨gl, 1, none⟩ = some (.slice Ao xs.length co) := (blk_cell FL.out 1).trans rfl
            have hfs35 := blk_frozen FL.out 1
            refine skip_ (w1 := ?_) (by rfl) rfl ?_ ?_
            rotate_left
            · go_simp
              rfl
            refine hK.out _ _ ?_
            clear hK K
            refine done_ (done_of HT_.out (by kernel_rfl)) ?_
            go_wp2
            go_roundg (n.toNat - (j + 1))
            case measure => omega
            case rel =>
              have hGL := GL.out
              refine ⟨j + 1, _, by rw [hj1], by omega, Nat.le_refl _, ⟨blk_far FD.out (p := ⟨gl, 1, none⟩) (by show g ≠ gl; exact HXG.out.symm) _⟩, ⟨(blk_set FL.out 1 _).trans rfl⟩, ⟨blk_far FR.out (p := ⟨gl, 1, none⟩) (by show W.heap.size ≠ gl; omega) _⟩, ⟨?_⟩, ⟨below_set FB.out (by omega)⟩⟩
              rw [HLAST.out]
              exact Kd.R_mono (Kd.R_far (p := ⟨gl, 1, none⟩) (Kd.R_types FO.out FL.out (by decide)) (fun _ hk => hk.2) _) (fun _ _ => trivial)
          · have hjn : (j : Int) = n := by omega
            rw [hjn] at HO
            obtain ⟨Ao, co, eo⟩ := Kd.R_slice HO.out
            subst eo
            obtain ⟨A', c', ev, hcap, hC⟩ := Kd.R_reads HO.out
            cases ev
            obtain ⟨b, hb, hres⟩ := Option.bind_eq_some_iff.1 HH4.out
            have hc := lsns_Right.calls k low Ao co (getIn s p2 n) b wr hC hcap hb
            have hl0 := (blk_cell LL.out 0).trans rfl
            have hl1 := (blk_cell LL.out 1).trans rfl
            have hfl0 := blk_frozen LL.out 0
            have hfl1 := blk_frozen LL.out 1
            clear hb HCUT
            go_wp2_with (go_at_call 25; go_loud (refine hc.mono ?_; rintro e w8 ⟨rfl, hb8⟩; refine hold ?_))
            unfold Hold
            have HO8 := Aside0.mk (Kd.R_below HO.out hb8)
            have HB8 := Aside0.mk (below_step HB.out hb8)
            have R8 := Aside0.mk (blk_below RR.out hb8)
            have L8 := Aside0.mk (blk_below LL.out hb8)
            clear hb8 hl0 hl1 hfl0 hfl1 HO HB RR LL RD hc
            have hz0 := (blk_cell R8.out 0).trans rfl
            have hz1 := (blk_cell R8.out 1).trans rfl
            have hf0 := blk_frozen R8.out 0
            have hf1 := blk_frozen R8.out 1
            have hl0 := (blk_cell L8.out 0).trans rfl
            have hl1 := (blk_cell L8.out 1).trans rfl
            have hfl0 := blk_frozen L8.out 0
            have hfl1 := blk_frozen L8.out 1
            cases b
            · rw [if_neg (by simp)] at hres
              simp only [Option.some.injEq, Prod.mk.injEq] at hres
              obtain ⟨rfl, rfl, rfl, rfl⟩ := hres
              go_wp2
              refine bodyPost_ret (results_ctt rfl _ _ W.heap.size 25 #[.int .u64 0, .slice none 0 0] (0, 0) _ rfl (by refine blk_put (cs := #[.int .u64 0, .slice none 0 0]) ?_ 1 _ rfl; refine blk_put (cs := #[.int .u64 0, .slice none 0 0]) ?_ 0 _ rfl; exact R8.out) Try.underlying25 rfl (by kernel_rfl)) rfl ?_
              exact ⟨_, rfl, Kd.R_nil _ _ _ _ _, below_set (below_set HB8.out (Nat.le_refl _)) (Nat.le_refl _)⟩
            · rw [if_pos rfl] at hres
              simp only [Option.some.injEq, Prod.mk.injEq] at hres
              obtain ⟨rfl, rfl, rfl, rfl⟩ := hres
              have h8 : wrap64 (8 * n) = 8 * n := by have := HNB.out; unfold wrap64; omega
              have h10 : wrap64 (10 + 8 * n) = 10 + 8 * n := by have := HNB.out; unfold wrap64; omega
              go_wp2
              refine bodyPost_ret (results_ctt rfl _ _ W.heap.size 25 #[.int .u64 low, .slice Ao (getIn s p2 n).length co] (0, 0) _ rfl (by refine blk_put (cs := #[.int .u64 low, .slice none 0 0]) ?_ 1 _ rfl; refine blk_put (cs := #[.int .u64 0, .slice none 0 0]) ?_ 0 _ rfl; exact R8.out) Try.underlying25 rfl (by kernel_rfl)) rfl ?_
              refine ⟨.slice Ao (getIn s p2 n).length co, ?_, Kd.R_mono (Kd.R_far (p := ⟨W.heap.size, 1, none⟩) (Kd.R_far (p := ⟨W.heap.size, 0, none⟩) (Kd.R_types HO8.out R8.out (by decide)) (fun _ hk => hk.2) (.int .u64 low)) (fun _ hk => hk.2) (.slice Ao (getIn s p2 n).length co)) (fun _ _ => trivial), below_set (below_set HB8.out (Nat.le_refl _)) (Nat.le_refl _)⟩
              show Ending.returned (.tuple #[.agg #[.int .u64 low, .slice Ao (getIn s p2 n).length co], .int .i64 (wrap64 (10 + 8 * n)), .int .i64 0]) = _
              rw [h10]
  · have HH3 := HH2.out
    rw [if_pos rfl] at HH3
    simp only [Option.some.injEq, Prod.mk.injEq] at HH3
    obtain ⟨rfl, rfl, rfl, rfl⟩ := HH3
    go_wp2
    refine bodyPost_ret (results_ctt rfl _ _ W.heap.size 25 #[.int .u64 0, .slice none 0 0] (0, 0) _ rfl (by refine blk_put (cs := #[.int .u64 0, .slice none 0 0]) ?_ 1 _ rfl; refine blk_put (cs := #[.int .u64 0, .slice none 0 0]) ?_ 0 _ rfl; exact R3.out) Try.underlying25 rfl (by kernel_rfl)) rfl ?_
    exact ⟨_, rfl, Kd.R_nil _ _ _ _ _, below_set (below_set HB3.out (Nat.le_refl _)) (Nat.le_refl _)⟩
set_option maxHeartbeats 4000000 in
set_option maxRecDepth 100000 in
theorem lsns_Get.mono : ∀ a0 k, LeO (lsns_Get.f k a0) (lsns_Get.f (k + 1) a0) := by
  intro l0 k r h
  unfold lsns_Get.f at h ⊢
  by_cases hh : l0.length < 140737488355328 ∧ octet_wide.f k 8 8 = some true ∧ octet_wide.f k 2 8 = some true
  case neg => rw [if_neg hh] at h; cases h
  rw [if_pos hh] at h
  rw [if_pos ⟨hh.1, octet_wide.mono _ _ _ _ hh.2.1, octet_wide.mono _ _ _ _ hh.2.2⟩]
  simp only at h ⊢
  split at h
  · cases h
  · rename_i h1
    rw [if_neg h1]
    split at h
    · rename_i h2; rw [if_pos h2]; exact h
    · rename_i h2
      rw [if_neg h2]
      split at h
      · rename_i h3; rw [if_pos h3]; exact h
      · rename_i h3
        rw [if_neg h3]
        split at h
        · rename_i h4; rw [if_pos h4]; exact h
        · rename_i h4
          rw [if_neg h4]
          obtain ⟨t, ht, h⟩ := Option.bind_eq_some_iff.1 h
          exact Option.bind_eq_some_iff.2 ⟨t, lsns_Right.mono _ _ _ _ ht, h⟩
set_option maxHeartbeats 4000000 in
set_option maxRecDepth 100000 in
theorem lsns_Get.calls (k : Nat) (A0 : Option Addr) (c0 : Nat) (l0 : List Int) (r1 : Int) (r2 : List Int) (r3 : Int) (r4 : Int) (w : World) (hr0 : Kd.C (Kd.int .u8) w A0 l0.length l0) (hc0 : l0.length ≤ c0) (h : lsns_Get.f k l0 = some (r1, r2, r3, r4)) :
    Calls Try.prog 47 #[.slice A0 l0.length c0] w fun e w' => ∃ v1_ : Value, e = .returned (.tuple #[.agg #[.int .u64 r1, v1_], .int .i64 r3, .int .i64 r4]) ∧ Kd.R (Kd.int .u64) 22 w' w.heap.size (fun _ => True) v1_ r2 ∧ Below w.heap.size w w' := get_calls k w A0 l0 c0 r1 r2 r3 r4 hr0 h

/-! ### lockkeeperref04_worth: function 93 -/
def lockkeeperref04_worth.l0 : Nat → List Int → Int → Int → Option (Int)
  | 0, _, _, _ => none
  | k + 1, x0, x3, x4 => if x4 < (x0.length : Int) then (if 0 ≤ x4 then (lockkeeperref04_worth.l0 k x0 (IntKind.u64.wrap ((IntKind.u64.wrap (256 * x3)) + (IntKind.u64.wrap (rd x0 x4)))) (wrap64 (x4 + 1))) else (none)) else (some x3)
def lockkeeperref04_worth.f (k : Nat) (l0 : List Int) : Option (Int) := lockkeeperref04_worth.l0 k l0 0 0
theorem lockkeeperref04_worth.mono_l : ∀ k, (∀ y0 y1 y2, LeO (lockkeeperref04_worth.l0 k y0 y1 y2) (lockkeeperref04_worth.l0 (k + 1) y0 y1 y2))
  | 0 => fun _ _ _ r h => by simp [lockkeeperref04_worth.l0] at h
  | k + 1 => by
    have ih0 := lockkeeperref04_worth.mono_l k
    · intro y0 y1 y2
      unfold lockkeeperref04_worth.l0
      repeat' first
      | (with_reducible exact ih0 _ _ _)
      | (with_reducible exact LeO.refl _)
      | (with_reducible exact LeO.none _)
      | (with_reducible refine LeO.ite ?_ ?_)
      | (with_reducible refine LeO.bind ?_ (fun _ => ?_))
      | exact ih0 _ _ _
      | exact LeO.none _
      | refine LeO.ite ?_ ?_
      | refine LeO.bind ?_ (fun _ => ?_)
theorem lockkeeperref04_worth.mono : ∀ a0 k, LeO (lockkeeperref04_worth.f k a0) (lockkeeperref04_worth.f (k + 1) a0) := by
  intro a0 k
  have ih0 := lockkeeperref04_worth.mono_l k
  unfold lockkeeperref04_worth.f
  repeat' first
      | (with_reducible exact ih0 _ _ _)
      | (with_reducible exact LeO.refl _)
      | (with_reducible exact LeO.none _)
      | (with_reducible refine LeO.ite ?_ ?_)
      | (with_reducible refine LeO.bind ?_ (fun _ => ?_))
      | exact ih0 _ _ _
      | exact LeO.none _
      | refine LeO.ite ?_ ?_
      | refine LeO.bind ?_ (fun _ => ?_)
set_option maxHeartbeats 8000000 in
set_option maxRecDepth 100000 in
theorem lockkeeperref04_worth.calls (k : Nat) (A0 : Option Addr) (c0 : Nat) (l0 : List Int) (r : Int) (w : World) (hr0 : Kd.C (Kd.int .u8) w A0 l0.length l0) (hc0 : l0.length ≤ c0) (h : lockkeeperref04_worth.f k l0 = some r) :
    Calls Try.prog 93 #[.slice A0 l0.length c0] w fun e w' => e = .returned (.int .u64 r) ∧ Drawn0 w w' := by
  (have HR0 := Aside0.mk hr0); (have HC0 := Aside0.mk hc0); (clear hr0 hc0); (have H : (lockkeeperref04_worth.l0 k l0 0 0) = some r := h); (clear h); (have H' := Aside0.mk H); (clear H); (go_enter Try.func93, Try.ntmps93); (go_wp2); (go_loopg [3, 4] k (fun kq v3 v4 w' => ∃ (x3_1 : Int) (x4_1 : Int), v3 = .int .u64 x3_1 ∧ v4 = .int .i64 x4_1 ∧ Aside0 (lockkeeperref04_worth.l0 kq l0 x3_1 x4_1 = some r) ∧ Aside0 (kq ≤ k) ∧ Drawn0 w w'))
  case atStart => exact ⟨(0), (0), (by first | rfl | (simp; done) | (simp [*]; done)), (by first | rfl | (simp; done) | (simp [*]; done)), H', ⟨Nat.le_refl _⟩, by repeat (first | exact Drawn0.refl _ | apply Drawn0.step)⟩
  case round =>
    (clear H'); (obtain ⟨x3_1, x4_1, rfl, rfl, HA, HK1, ⟨m1, rfl⟩⟩ := hrel)
    cases gk with
    | zero => exact absurd HA.out (by simp [lockkeeperref04_worth.l0])
    | succ k1 =>
      (have H := HA.out); (clear HA); (simp only [lockkeeperref04_worth.l0] at H); (by_cases c2 : x4_1 < (l0.length : Int))
      · (rw [if_pos c2] at H); (have c2b0 : decide (x4_1 < (l0.length : Int)) = true := decide_eq_true c2); (clear c2); (by_cases c3 : 0 ≤ x4_1)
        · (rw [if_pos c3] at H); (have c3b0 : decide (0 ≤ x4_1) = true := decide_eq_true c3); (clear c3); (have H' := Aside0.mk H); (clear H); (have p209 : 0 ≤ (x4_1 : Int) := of_decide_eq_true (by first | (with_reducible assumption) | assumption)); (have q209 : x4_1 < (l0.length : Int) := of_decide_eq_true (by first | (with_reducible assumption) | assumption)); (obtain ⟨ad209, e209, hx209_0⟩ := Kd.at_int HR0.out x4_1 p209 q209); (cases e209); (replace p209 := eq_true p209); (replace q209 := eq_true q209); (go_wp2); (go_roundg k1)
          case measure => have := HK1.out; omega
          case rel => exact ⟨(IntKind.u64.wrap ((IntKind.u64.wrap (256 * x3_1)) + (IntKind.u64.wrap (rd l0 x4_1)))), (wrap64 (x4_1 + 1)), (by first | rfl | (simp; done) | (simp [*]; done)), (by first | rfl | (simp; done) | (simp [*]; done)), H', ⟨by have := HK1.out; omega⟩, by repeat (first | exact Drawn0.refl _ | apply Drawn0.step)⟩
        · (rw [if_neg c3] at H); (exact absurd H (by simp))
      · (rw [if_neg c2] at H); (have c2b0 : decide (x4_1 < (l0.length : Int)) = false := decide_eq_false c2); (clear c2); (obtain rfl := Option.some.inj H); (go_wp2); (go_ret); (exact ⟨by first | rfl | (simp; done) | (simp [*]; done), by repeat (first | exact Drawn0.refl _ | apply Drawn0.step)⟩)

end Go.Proofs.Ytebmpoonkmcjfaa.B
