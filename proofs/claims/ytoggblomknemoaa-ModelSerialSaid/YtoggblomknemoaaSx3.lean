-- PRINTED by print.py (a twelfth state) out of the translation. Not trusted: Lean checks it.
import Derived.Test.YtoggblomknemoaaMv
import Derived.Test.YtoggblomknemoaaSx0
import Derived.Test.YtoggblomknemoaaSx2
namespace Go.Proofs.Ytoggblomknemoaa.S
open Go.RowKit Go.Proofs.YtoggblomknemoaaW Go.Proofs.YtoggblomknemoaaW.PrintWords Go.Proofs.YtoggblomknemoaaW.PrintLast Go.Proofs.YtoggblomknemoaaW.PrintMore
attribute [local go_sem] GpMore.bytes_le max2_int min2_int max_two min_two max_three min_three max_four min_four   -- for this text's walks alone
set_option linter.unusedVariables false
set_option linter.unusedSimpArgs false

/-! ### cells_Right: function 28 -/
def cells_Right.l0 : Nat → List (S42) → List (S42) → Int → Int → Option (Bool)
  | 0, _, _, _, _ => none
  | k + 1, x0, x5, x6, x7 => if x7 < x6 then (if 0 ≤ x7 then (if x7 < (x5.length : Int) then ((cells_cell_right.f ((rd_T42 x5 x7).f0) ((rd_T42 x5 x7).f1)).bind fun t111 => (if t111 = true then (if x7 > 0 then (if 0 ≤ (wrap64 (x7 - 1)) then (if (wrap64 (x7 - 1)) < (x0.length : Int) then (if ((Op.bytesLess (((rd_T42 x0 (wrap64 (x7 - 1))).f0).toList) (((rd_T42 x5 x7).f0).toList)) = true) then (cells_Right.l0 k x0 x5 x6 (wrap64 (x7 + 1))) else (some false)) else (none)) else (none)) else (cells_Right.l0 k x0 x5 x6 (wrap64 (x7 + 1)))) else (some false))) else (none)) else (none)) else (some true)
def cells_Right.f (k : Nat) (l0 : List (S42)) : Option (Bool) := cells_Right.l0 k l0 l0 (l0.length : Int) 0
theorem cells_Right.mono_l : ∀ k, (∀ y0 y1 y2 y3, LeO (cells_Right.l0 k y0 y1 y2 y3) (cells_Right.l0 (k + 1) y0 y1 y2 y3))
  | 0 => fun _ _ _ _ r h => by simp [cells_Right.l0] at h
  | k + 1 => by
    have ih0 := cells_Right.mono_l k
    · intro y0 y1 y2 y3
      unfold cells_Right.l0
      repeat' first
      | (with_reducible exact ih0 _ _ _ _)
      | (with_reducible exact LeO.refl _)
      | (with_reducible exact LeO.none _)
      | (with_reducible refine LeO.ite ?_ ?_)
      | (with_reducible refine LeO.bind ?_ (fun _ => ?_))
      | exact ih0 _ _ _ _
      | exact LeO.none _
      | refine LeO.ite ?_ ?_
      | refine LeO.bind ?_ (fun _ => ?_)
theorem cells_Right.mono : ∀ a0 k, LeO (cells_Right.f k a0) (cells_Right.f (k + 1) a0) := by
  intro a0 k
  have ih0 := cells_Right.mono_l k
  unfold cells_Right.f
  repeat' first
      | (with_reducible exact ih0 _ _ _ _)
      | (with_reducible exact LeO.refl _)
      | (with_reducible exact LeO.none _)
      | (with_reducible refine LeO.ite ?_ ?_)
      | (with_reducible refine LeO.bind ?_ (fun _ => ?_))
      | exact ih0 _ _ _ _
      | exact LeO.none _
      | refine LeO.ite ?_ ?_
      | refine LeO.bind ?_ (fun _ => ?_)
def cells_Right.T4 : Bool × List (List Nat × List Nat) := (true, [([], []), ([0], [0]), ([1], [1]), ([2, 1], [2]), ([3], [3]), ([4, 3], [3, 4]), ([5, 3, 3], [3, 5]), ([6], [6]), ([6], [6]), ([8, 6], [6, 8]), ([7, 9, 6], [6, 7, 9]), ([10, 6], [6, 10]), ([11, 6], [6, 11]), ([6], [6]), ([13, 6], [6, 13]), ([12, 14, 6], [6, 12, 14]), ([6, 15, 3], [3, 6, 15]), ([3, 16], [3, 16])])
def cells_Right.B4 : List Nat := [0, 1, 3, 7, 15, 31, 63, 127, 127, 383, 1023, 2047, 4095, 127, 8319, 32767, 65535, 131071]
theorem cells_Right.tab4 : rtab .any (opsOf Try.f28 4) = cells_Right.T4 := by kernel_rfl
theorem cells_Right.bits4 : waitsOk cells_Right.T4.2 cells_Right.B4 = true := by kernel_rfl
set_option maxHeartbeats 8000000 in
set_option maxRecDepth 100000 in
theorem cells_Right.calls (k : Nat) (A0 : Option Addr) (c0 : Nat) (l0 : List (S42)) (r : Bool) (w : World) (hr0 : Kd.C k42 w A0 l0.length l0) (hc0 : l0.length ≤ c0) (h : cells_Right.f k l0 = some r) :
    Calls Try.prog 28 #[.slice A0 l0.length c0] w fun e w' => e = .returned (.bool r) ∧ Below w.heap.size w w' := by
  (have hu42 := Try.underlying42); (have HR0 := Aside0.mk hr0); (have HC0 := Aside0.mk hc0); (clear hr0 hc0); (have HB := Aside0.mk (Below.refl w.heap.size w)); (have H : (cells_Right.l0 k l0 l0 (l0.length : Int) 0) = some r := h); (clear h); (have H' := Aside0.mk H); (clear H); (go_enter Try.func28, Try.ntmps28); (go_wp2); (go_loopg [7] k (fun kq v7 w' => ∃ (x7_1 : Int), v7 = .int .i64 x7_1 ∧ Aside0 (cells_Right.l0 kq l0 l0 (l0.length : Int) x7_1 = some r) ∧ Aside0 (kq ≤ k) ∧ Aside0 (Below w.heap.size w w')))
  case atStart => exact ⟨(0), (by first | rfl | (simp; done) | (simp [*]; done)), H', ⟨Nat.le_refl _⟩, ⟨mvW HB.out⟩⟩
  case round =>
    (clear H'); (obtain ⟨x7_1, rfl, HA, HK1, HB⟩ := hrel)
    cases gk with
    | zero => exact absurd HA.out (by simp [cells_Right.l0])
    | succ k1 =>
      (have H := HA.out); (clear HA); (simp only [cells_Right.l0] at H); (by_cases c2 : x7_1 < (l0.length : Int))
      · (rw [if_pos c2] at H); (have c2b0 : decide (x7_1 < (l0.length : Int)) = true := decide_eq_true c2); (clear c2); (by_cases c3 : 0 ≤ x7_1)
        · (rw [if_pos c3] at H); (have c3b0 : decide (0 ≤ x7_1) = true := decide_eq_true c3); (clear c3); (by_cases c4 : x7_1 < (l0.length : Int))
          · (rw [if_pos c4] at H); (have c4b0 : decide (x7_1 < (l0.length : Int)) = true := decide_eq_true c4); (clear c4); (replace H := Option.bind_eq_some_iff.mp H); (obtain ⟨t111, A50, H⟩ := H); (replace H : (if t111 = true then (if x7_1 > 0 then (if 0 ≤ (wrap64 (x7_1 - 1)) then (if (wrap64 (x7_1 - 1)) < (l0.length : Int) then (if ((Op.bytesLess (((rd_T42 l0 (wrap64 (x7_1 - 1))).f0).toList) (((rd_T42 l0 x7_1).f0).toList)) = true) then (cells_Right.l0 k1 l0 l0 (l0.length : Int) (wrap64 (x7_1 + 1))) else (some false)) else (none)) else (none)) else (cells_Right.l0 k1 l0 l0 (l0.length : Int) (wrap64 (x7_1 + 1)))) else (some false)) = some r := H); (have A5 := Aside0.mk A50); (clear A50); (by_cases c6 : t111 = true)
            · (subst c6); (have H1 : (if x7_1 > 0 then (if 0 ≤ (wrap64 (x7_1 - 1)) then (if (wrap64 (x7_1 - 1)) < (l0.length : Int) then (if ((Op.bytesLess (((rd_T42 l0 (wrap64 (x7_1 - 1))).f0).toList) (((rd_T42 l0 x7_1).f0).toList)) = true) then (cells_Right.l0 k1 l0 l0 (l0.length : Int) (wrap64 (x7_1 + 1))) else (some false)) else (none)) else (none)) else (cells_Right.l0 k1 l0 l0 (l0.length : Int) (wrap64 (x7_1 + 1)))) = some r := by rw [if_pos rfl] at H; exact H); (clear H); (have H := H1); (clear H1); (by_cases c7 : x7_1 > 0)
              · (rw [if_pos c7] at H); (have c7b0 : decide (0 < x7_1) = true := decide_eq_true c7); (clear c7); (obtain ⟨ji8, hji8⟩ : ∃ j_ : Int, (wrap64 (x7_1 - 1)) = j_ := ⟨_, rfl⟩); (replace H : (if 0 ≤ (ji8) then (if (ji8) < (l0.length : Int) then (if ((Op.bytesLess (((rd_T42 l0 (ji8)).f0).toList) (((rd_T42 l0 x7_1).f0).toList)) = true) then (cells_Right.l0 k1 l0 l0 (l0.length : Int) (wrap64 (x7_1 + 1))) else (some false)) else (none)) else (none)) = some r := by first | (rw [hji8] at H; exact H) | (simp only [hji8] at H ⊢; exact H)); ((try rw [hji8] at A5)); (have hji8w : (IntKind.i64.wrap (x7_1 - 1)) = ji8 := (i64_w _).trans hji8); (by_cases c9 : 0 ≤ (ji8))
                · (rw [if_pos c9] at H); (have c9b0 : decide (0 ≤ (ji8)) = true := decide_eq_true c9); (clear c9); (by_cases c10 : (ji8) < (l0.length : Int))
                  · (rw [if_pos c10] at H); (have c10b0 : decide ((ji8) < (l0.length : Int)) = true := decide_eq_true c10); (clear c10); (by_cases c11 : ((Op.bytesLess (((rd_T42 l0 (ji8)).f0).toList) (((rd_T42 l0 x7_1).f0).toList)) = true))
                    · (rw [if_pos c11] at H); (have c11b0 : (Op.bytesLess (((rd_T42 l0 (ji8)).f0).toList) (((rd_T42 l0 x7_1).f0).toList)) = true := c11); (clear c11); (have H' := Aside0.mk H); (clear H); (have p109 : 0 ≤ (x7_1 : Int) := of_decide_eq_true (by first | (with_reducible assumption) | assumption)); (have q109 : x7_1 < (l0.length : Int) := of_decide_eq_true (by first | (with_reducible assumption) | assumption)); (obtain ⟨ad109, e109, hx109_0, hx109_1⟩ := at_T42 HR0.out x7_1 p109 q109); (cases e109); (replace hx109_0 := (HB.out.cell (World.block_lt_of_cell? w _ hx109_0)).trans hx109_0); (replace hx109_1 := (HB.out.cell (World.block_lt_of_cell? w _ hx109_1)).trans hx109_1); (replace p109 := eq_true p109); (replace q109 := eq_true q109); (try go_wp2_with (first | ((with_reducible refine gate_dst (N := 4) rfl ?_); refine box_event ?hg (N := 4) ?hd (cs := #[.string (⟨#[]⟩ : ByteArray), .string (⟨#[]⟩ : ByteArray)]) (t := 42) ?hr ?_; (case hd => rfl); (case hg => rfl); (case hr => first | (go_simp; done) | (go_simp; rfl)); intro gb110 hg w12 hbox hb; have BK110 := Aside0.mk (hbox); have GW110 := Aside0.mk ((by rw [hg]; exact (below_size (mvW HB.out)) : w.heap.size ≤ gb110)); have GE110 := Aside0.mk ((by rw [hg]; exact (below_size (mvW HB.out)) : w.heap.size ≤ gb110)); replace HB := Aside0.mk (below_step (mvW HB.out) hb); clear hb hbox hg; obtain ⟨Z13_0, Z13_1⟩ := bc2 BK110.out; obtain ⟨Y13_0, Y13_1⟩ := bf2 BK110.out))); (have n0_ : Aside0 (((w12.setCell ⟨gb110, 0, none⟩ (.string ((rd_T42 l0 x7_1).f0))).setCell ⟨gb110, 1, none⟩ (.string ((rd_T42 l0 x7_1).f1))).heap[gb110]? = some (.cells #[.string ((rd_T42 l0 x7_1).f0), .string ((rd_T42 l0 x7_1).f1)] 42 (0, 0))) := ⟨by (with_reducible repeat (first | refine blk_drewN ?_ _ | refine blk_drew ?_ | refine blk_alloc ?_ _)); refine blk_put (cs := #[.string ((rd_T42 l0 x7_1).f0), .string (⟨#[]⟩ : ByteArray)]) ?_ 1 _ rfl; (with_reducible repeat (first | refine blk_drewN ?_ _ | refine blk_drew ?_ | refine blk_alloc ?_ _)); refine blk_put (cs := #[.string (⟨#[]⟩ : ByteArray), .string (⟨#[]⟩ : ByteArray)]) ?_ 0 _ rfl; (with_reducible repeat (first | refine blk_drewN ?_ _ | refine blk_drew ?_ | refine blk_alloc ?_ _)); exact BK110.out⟩); (have n1_ : Aside0 (Below w.heap.size w ((w12.setCell ⟨gb110, 0, none⟩ (.string ((rd_T42 l0 x7_1).f0))).setCell ⟨gb110, 1, none⟩ (.string ((rd_T42 l0 x7_1).f1)))) := ⟨mvW HB.out⟩); ((try clear BK110)); ((try clear HB)); (generalize ((w12.setCell ⟨gb110, 0, none⟩ (.string ((rd_T42 l0 x7_1).f0))).setCell ⟨gb110, 1, none⟩ (.string ((rd_T42 l0 x7_1).f1))) = w14 at n0_ n1_ ⊢); (have BK110 := n0_); (have HB := n1_); (clear n0_ n1_); (replace BK110 := Aside0.mk (blk_drew BK110.out)); (replace HB := Aside0.mk (below_drew1 HB.out)); (have p112 : 0 ≤ ((ji8) : Int) := of_decide_eq_true (by first | (with_reducible assumption) | assumption)); (have q112 : (ji8) < (l0.length : Int) := of_decide_eq_true (by first | (with_reducible assumption) | assumption)); (obtain ⟨ad112, e112, hx112_0, hx112_1⟩ := at_T42 HR0.out (ji8) p112 q112); (have hw112_1 := hx112_1); (have hw112_0 := hx112_0); (obtain rfl : ad109 = ad112 := (by injection e112)); (replace hx112_0 := (HB.out.cell (World.block_lt_of_cell? w _ hx112_0)).trans hx112_0); (replace hx112_1 := (HB.out.cell (World.block_lt_of_cell? w _ hx112_1)).trans hx112_1); (replace p112 := eq_true p112); (replace q112 := eq_true q112); (refine start_ (n := 18) (S := fun w' => w'.cell? ⟨gb110, 0, none⟩ = some (.string ((rd_T42 l0 x7_1).f0)) ∧ w'.cell? ⟨gb110, 1, none⟩ = some (.string ((rd_T42 l0 x7_1).f1)) ∧ w'.cell? (ad109.add (((ji8)).toNat * 2)) = some (.string ((rd_T42 l0 (ji8)).f0)) ∧ w'.cell? ⟨(ad109.add (((ji8)).toNat * 2)).block, (ad109.add (((ji8)).toNat * 2)).off + 1, none⟩ = some (.string ((rd_T42 l0 (ji8)).f1))) (ds := []) #[false, false, false, false, false, false, false, false, false, false, false, false, false, false, false, false, false, false] (by kernel_rfl) rfl rfl ⟨(blk_cell BK110.out 0).trans rfl, (blk_cell BK110.out 1).trans rfl, ((HB.out.cell (World.block_lt_of_cell? w _ hw112_0)).trans hw112_0), ((HB.out.cell (World.block_lt_of_cell? w _ hw112_1)).trans hw112_1)⟩ (fun hHeld => ?_); refine with_tabW cells_Right.tab4 cells_Right.bits4 (fun HT_ HW_ => ?_)); (generalize w14.drew = w15 at BK110 HB hx112_0 hx112_1 hHeld ⊢); (refine take_ (i := 0) (N := some 12) (v := ?_) (a' := ?_) (bv 1 17) rfl rfl (take_ofW HT_.out HW_.out (by kernel_rfl)) (fun _ _ _ h => h) (Or.inl ⟨by rfl, ?_⟩) hHeld ?_ ?_); (rotate_left)
                      · (rintro w' ⟨s0, s1, s2, s3⟩); (go_simp); (with_reducible rfl)
                      rotate_left
                      · (simp only [sA]); (rfl)
                      (refine one_ (i := 1) (N := some 13) (bv 2 16) rfl rfl (one_of HT_.out (by kernel_rfl)) (by decide) (fun K hK => ?_)); (refine goes_ Try.func52 (by kernel_rfl) rfl #[.agg #[.string ((rd_T42 l0 x7_1).f0), .string ((rd_T42 l0 x7_1).f1)]] (by rfl) rfl rfl (by (try simp only [List.map_toArray, List.map_cons, List.map_nil]); first | done | rfl | (simp only [List.length_drop, List.length_take]; rfl) | (simp only [*]; rfl)) ?_); (with_reducible refine (cells_cell_right.calls ((rd_T42 l0 x7_1).f0) ((rd_T42 l0 x7_1).f1) true _ A5.out).mono ?_); (rintro e w16 ⟨rfl, hb⟩); (refine ⟨_, rfl, ?_⟩); (replace BK110 := Aside0.mk (blk_below (mvB BK110.out) hb)); (replace HB := Aside0.mk (below_step (mvW HB.out) hb)); (clear hb); (refine hK.out _ _ ⟨(blk_cell BK110.out 0).trans rfl, (blk_cell BK110.out 1).trans rfl, ((HB.out.cell (World.block_lt_of_cell? w _ hw112_0)).trans hw112_0), ((HB.out.cell (World.block_lt_of_cell? w _ hw112_1)).trans hw112_1)⟩ (fun hHeld => ?_)); (clear hK K); (refine norm_ (a' := ?_) ?_ ?_); (rotate_left)
                      · (show Act.put _ (some 13) _ = _); (simp only [sA]); (rfl)
                      (refine pure_ (i := 2) (N := some 14) (v := ?_) (a' := ?_) (bv 3 15) rfl rfl (any_of HT_.out (by kernel_rfl)) (fun _ _ _ h => h) (Or.inl ⟨by rfl, ?_⟩) ?_ ?_); (rotate_left)
                      · (intro w'); (go_simp); (with_reducible rfl)
                      rotate_left
                      · (simp only [sA]); (rfl)
                      (refine pure_ (i := 3) (N := some 15) (v := ?_) (a' := ?_) (bv 4 14) rfl rfl (any_of HT_.out (by kernel_rfl)) (fun _ _ _ h => h) (Or.inl ⟨by rfl, ?_⟩) ?_ ?_); (rotate_left)
                      · (intro w'); (go_simp); (with_reducible rfl)
                      rotate_left
                      · (simp only [sA]); (rfl)
                      (refine pure_ (i := 4) (N := some 16) (v := ?_) (a' := ?_) (bv 5 13) rfl rfl (any_of HT_.out (by kernel_rfl)) (fun _ _ _ h => h) (Or.inl ⟨by rfl, ?_⟩) ?_ ?_); (rotate_left)
                      · (intro w'); (go_simp); (with_reducible rfl)
                      rotate_left
                      · (simp only [sA]); (rfl)
                      (refine pure_ (i := 5) (N := some 17) (v := ?_) (a' := ?_) (bv 6 12) rfl rfl (any_of HT_.out (by kernel_rfl)) (fun _ _ _ h => h) (Or.inl ⟨by rfl, ?_⟩) ?_ ?_); (rotate_left)
                      · (intro w'); (go_simp); (with_reducible rfl)
                      rotate_left
                      · (simp only [sA]); (rfl)
                      (refine pure_ (i := 6) (N := some 18) (v := ?_) (a' := ?_) (bv 7 11) rfl rfl (any_of HT_.out (by kernel_rfl)) (fun _ _ _ h => h) (Or.inl ⟨by rfl, ?_⟩) ?_ ?_); (rotate_left)
                      · (intro w'); (go_simp); (with_reducible rfl)
                      rotate_left
                      · (simp only [sA]); (rfl)
                      (refine pure_ (i := 7) (N := some 19) (v := ?_) (a' := ?_) (bv 8 10) rfl rfl (any_of HT_.out (by kernel_rfl)) (fun _ _ _ h => h) (Or.inl ⟨by rfl, ?_⟩) ?_ ?_); (rotate_left)
                      · (intro w'); (go_simp); (with_reducible rfl)
                      rotate_left
                      · (simp only [sA]); (rfl)
                      (refine pure_ (i := 8) (N := some 20) (v := ?_) (a' := ?_) (bv 9 9) rfl rfl (any_of HT_.out (by kernel_rfl)) (fun _ _ _ h => h) (Or.inl ⟨by rfl, ?_⟩) ?_ ?_); (rotate_left)
                      · (intro w'); (go_simp); (with_reducible rfl)
                      rotate_left
                      · (simp only [sA]); (rfl)
                      (refine pure_ (i := 9) (N := some 21) (v := ?_) (a' := ?_) (bv 10 8) rfl rfl (any_of HT_.out (by kernel_rfl)) (fun _ _ _ h => h) (Or.inl ⟨by rfl, ?_⟩) ?_ ?_); (rotate_left)
                      · (intro w'); (go_simp); (with_reducible rfl)
                      rotate_left
                      · (simp only [sA]); (rfl)
                      (refine pure_ (i := 10) (N := some 22) (v := ?_) (a' := ?_) (bv 11 7) rfl rfl (any_of HT_.out (by kernel_rfl)) (fun _ _ _ h => h) (Or.inl ⟨by rfl, ?_⟩) ?_ ?_); (rotate_left)
                      · (intro w'); (go_simp); (with_reducible rfl)
                      rotate_left
                      · (simp only [sA]); (rfl)
                      (refine pure_ (i := 11) (N := some 23) (v := ?_) (a' := ?_) (bv 12 6) rfl rfl (any_of HT_.out (by kernel_rfl)) (fun _ _ _ h => h) (Or.inl ⟨by rfl, ?_⟩) ?_ ?_); (rotate_left)
                      · (intro w'); (go_simp); (with_reducible rfl)
                      rotate_left
                      · (simp only [sA]); (rfl)
                      (refine pure_ (i := 13) (N := some 25) (v := ?_) (a' := ?_) #[true, true, true, true, true, true, true, true, true, true, true, true, false, true, false, false, false, false] rfl rfl (any_of HT_.out (by kernel_rfl)) (fun _ _ _ h => h) (Or.inl ⟨by rfl, ?_⟩) ?_ ?_); (rotate_left)
                      · (intro w'); (go_simp); (with_reducible rfl)
                      rotate_left
                      · (simp only [sA]); (rfl)
                      (refine take_ (i := 12) (N := some 24) (v := ?_) (a' := ?_) (bv 14 4) rfl rfl (take_ofW HT_.out HW_.out (by kernel_rfl)) (fun _ _ _ h => h) (Or.inl ⟨by rfl, ?_⟩) hHeld ?_ ?_); (rotate_left)
                      · (rintro w' ⟨s0, s1, s2, s3⟩); (go_simp); (with_reducible rfl)
                      rotate_left
                      · (simp only [sA]); (rfl)
                      (refine take_ (i := 14) (N := some 26) (v := ?_) (a' := ?_) (bv 15 3) rfl rfl (take_ofW HT_.out HW_.out (by kernel_rfl)) (fun _ _ _ h => h) (Or.inl ⟨by rfl, ?_⟩) hHeld ?_ ?_); (rotate_left)
                      · (rintro w' ⟨s0, s1, s2, s3⟩); (go_simp); (with_reducible rfl)
                      rotate_left
                      · (simp only [sA]); (rfl)
                      (refine pure_ (i := 15) (N := some 27) (v := ?_) (a' := ?_) (bv 16 2) rfl rfl (any_of HT_.out (by kernel_rfl)) (fun _ _ _ h => h) (Or.inl ⟨by rfl, ?_⟩) ?_ ?_); (rotate_left)
                      · (intro w'); (go_simp); (with_reducible rfl)
                      rotate_left
                      · (simp only [sA]); (rfl)
                      (refine pure_ (i := 16) (N := some 28) (v := ?_) (a' := ?_) (bv 17 1) rfl rfl (any_of HT_.out (by kernel_rfl)) (fun _ _ _ h => h) (Or.inl ⟨by rfl, ?_⟩) ?_ ?_); (rotate_left)
                      · (intro w'); (go_simp); (with_reducible rfl)
                      rotate_left
                      · (simp only [sA]); (rfl)
                      (refine pure_ (i := 17) (N := some 29) (v := ?_) (a' := ?_) (bv 18 0) rfl rfl (any_of HT_.out (by kernel_rfl)) (fun _ _ _ h => h) (Or.inl ⟨by rfl, ?_⟩) ?_ ?_); (rotate_left)
                      · (intro w'); (go_simp); (with_reducible rfl)
                      rotate_left
                      · (simp only [sA]); (rfl)
                      (refine done_ (done_of HT_.out (by kernel_rfl)) ?_); (try go_wp2); (go_roundg k1)
                      case measure => have := HK1.out; omega
                      case rel => exact ⟨(wrap64 (x7_1 + 1)), (by first | rfl | (simp; done) | (simp [*]; done)), H', ⟨by have := HK1.out; omega⟩, ⟨mvW HB.out⟩⟩
                    · (rw [if_neg c11] at H); (have c11b0 : (Op.bytesLess (((rd_T42 l0 (ji8)).f0).toList) (((rd_T42 l0 x7_1).f0).toList)) = false := by simpa using c11); (clear c11); (obtain rfl := Option.some.inj H); (have p109 : 0 ≤ (x7_1 : Int) := of_decide_eq_true (by first | (with_reducible assumption) | assumption)); (have q109 : x7_1 < (l0.length : Int) := of_decide_eq_true (by first | (with_reducible assumption) | assumption)); (obtain ⟨ad109, e109, hx109_0, hx109_1⟩ := at_T42 HR0.out x7_1 p109 q109); (cases e109); (replace hx109_0 := (HB.out.cell (World.block_lt_of_cell? w _ hx109_0)).trans hx109_0); (replace hx109_1 := (HB.out.cell (World.block_lt_of_cell? w _ hx109_1)).trans hx109_1); (replace p109 := eq_true p109); (replace q109 := eq_true q109); (try go_wp2_with (first | ((with_reducible refine gate_dst (N := 4) rfl ?_); refine box_event ?hg (N := 4) ?hd (cs := #[.string (⟨#[]⟩ : ByteArray), .string (⟨#[]⟩ : ByteArray)]) (t := 42) ?hr ?_; (case hd => rfl); (case hg => rfl); (case hr => first | (go_simp; done) | (go_simp; rfl)); intro gb110 hg w17 hbox hb; have BK110 := Aside0.mk (hbox); have GW110 := Aside0.mk ((by rw [hg]; exact (below_size (mvW HB.out)) : w.heap.size ≤ gb110)); have GE110 := Aside0.mk ((by rw [hg]; exact (below_size (mvW HB.out)) : w.heap.size ≤ gb110)); replace HB := Aside0.mk (below_step (mvW HB.out) hb); clear hb hbox hg; obtain ⟨Z18_0, Z18_1⟩ := bc2 BK110.out; obtain ⟨Y18_0, Y18_1⟩ := bf2 BK110.out))); (have n0_ : Aside0 (((w17.setCell ⟨gb110, 0, none⟩ (.string ((rd_T42 l0 x7_1).f0))).setCell ⟨gb110, 1, none⟩ (.string ((rd_T42 l0 x7_1).f1))).heap[gb110]? = some (.cells #[.string ((rd_T42 l0 x7_1).f0), .string ((rd_T42 l0 x7_1).f1)] 42 (0, 0))) := ⟨by (with_reducible repeat (first | refine blk_drewN ?_ _ | refine blk_drew ?_ | refine blk_alloc ?_ _)); refine blk_put (cs := #[.string ((rd_T42 l0 x7_1).f0), .string (⟨#[]⟩ : ByteArray)]) ?_ 1 _ rfl; (with_reducible repeat (first | refine blk_drewN ?_ _ | refine blk_drew ?_ | refine blk_alloc ?_ _)); refine blk_put (cs := #[.string (⟨#[]⟩ : ByteArray), .string (⟨#[]⟩ : ByteArray)]) ?_ 0 _ rfl; (with_reducible repeat (first | refine blk_drewN ?_ _ | refine blk_drew ?_ | refine blk_alloc ?_ _)); exact BK110.out⟩); (have n1_ : Aside0 (Below w.heap.size w ((w17.setCell ⟨gb110, 0, none⟩ (.string ((rd_T42 l0 x7_1).f0))).setCell ⟨gb110, 1, none⟩ (.string ((rd_T42 l0 x7_1).f1)))) := ⟨mvW HB.out⟩); ((try clear BK110)); ((try clear HB)); (generalize ((w17.setCell ⟨gb110, 0, none⟩ (.string ((rd_T42 l0 x7_1).f0))).setCell ⟨gb110, 1, none⟩ (.string ((rd_T42 l0 x7_1).f1))) = w19 at n0_ n1_ ⊢); (have BK110 := n0_); (have HB := n1_); (clear n0_ n1_); (replace BK110 := Aside0.mk (blk_drew BK110.out)); (replace HB := Aside0.mk (below_drew1 HB.out)); (have p112 : 0 ≤ ((ji8) : Int) := of_decide_eq_true (by first | (with_reducible assumption) | assumption)); (have q112 : (ji8) < (l0.length : Int) := of_decide_eq_true (by first | (with_reducible assumption) | assumption)); (obtain ⟨ad112, e112, hx112_0, hx112_1⟩ := at_T42 HR0.out (ji8) p112 q112); (have hw112_1 := hx112_1); (have hw112_0 := hx112_0); (obtain rfl : ad109 = ad112 := (by injection e112)); (replace hx112_0 := (HB.out.cell (World.block_lt_of_cell? w _ hx112_0)).trans hx112_0); (replace hx112_1 := (HB.out.cell (World.block_lt_of_cell? w _ hx112_1)).trans hx112_1); (replace p112 := eq_true p112); (replace q112 := eq_true q112); (refine start_ (n := 18) (S := fun w' => w'.cell? ⟨gb110, 0, none⟩ = some (.string ((rd_T42 l0 x7_1).f0)) ∧ w'.cell? ⟨gb110, 1, none⟩ = some (.string ((rd_T42 l0 x7_1).f1)) ∧ w'.cell? (ad109.add (((ji8)).toNat * 2)) = some (.string ((rd_T42 l0 (ji8)).f0)) ∧ w'.cell? ⟨(ad109.add (((ji8)).toNat * 2)).block, (ad109.add (((ji8)).toNat * 2)).off + 1, none⟩ = some (.string ((rd_T42 l0 (ji8)).f1))) (ds := []) #[false, false, false, false, false, false, false, false, false, false, false, false, false, false, false, false, false, false] (by kernel_rfl) rfl rfl ⟨(blk_cell BK110.out 0).trans rfl, (blk_cell BK110.out 1).trans rfl, ((HB.out.cell (World.block_lt_of_cell? w _ hw112_0)).trans hw112_0), ((HB.out.cell (World.block_lt_of_cell? w _ hw112_1)).trans hw112_1)⟩ (fun hHeld => ?_); refine with_tabW cells_Right.tab4 cells_Right.bits4 (fun HT_ HW_ => ?_)); (generalize w19.drew = w20 at BK110 HB hx112_0 hx112_1 hHeld ⊢); (refine take_ (i := 0) (N := some 12) (v := ?_) (a' := ?_) (bv 1 17) rfl rfl (take_ofW HT_.out HW_.out (by kernel_rfl)) (fun _ _ _ h => h) (Or.inl ⟨by rfl, ?_⟩) hHeld ?_ ?_); (rotate_left)
                      · (rintro w' ⟨s0, s1, s2, s3⟩); (go_simp); (with_reducible rfl)
                      rotate_left
                      · (simp only [sA]); (rfl)
                      (refine one_ (i := 1) (N := some 13) (bv 2 16) rfl rfl (one_of HT_.out (by kernel_rfl)) (by decide) (fun K hK => ?_)); (refine goes_ Try.func52 (by kernel_rfl) rfl #[.agg #[.string ((rd_T42 l0 x7_1).f0), .string ((rd_T42 l0 x7_1).f1)]] (by rfl) rfl rfl (by (try simp only [List.map_toArray, List.map_cons, List.map_nil]); first | done | rfl | (simp only [List.length_drop, List.length_take]; rfl) | (simp only [*]; rfl)) ?_); (with_reducible refine (cells_cell_right.calls ((rd_T42 l0 x7_1).f0) ((rd_T42 l0 x7_1).f1) true _ A5.out).mono ?_); (rintro e w21 ⟨rfl, hb⟩); (refine ⟨_, rfl, ?_⟩); (replace BK110 := Aside0.mk (blk_below (mvB BK110.out) hb)); (replace HB := Aside0.mk (below_step (mvW HB.out) hb)); (clear hb); (refine hK.out _ _ ⟨(blk_cell BK110.out 0).trans rfl, (blk_cell BK110.out 1).trans rfl, ((HB.out.cell (World.block_lt_of_cell? w _ hw112_0)).trans hw112_0), ((HB.out.cell (World.block_lt_of_cell? w _ hw112_1)).trans hw112_1)⟩ (fun hHeld => ?_)); (clear hK K); (refine norm_ (a' := ?_) ?_ ?_); (rotate_left)
                      · (show Act.put _ (some 13) _ = _); (simp only [sA]); (rfl)
                      (refine pure_ (i := 2) (N := some 14) (v := ?_) (a' := ?_) (bv 3 15) rfl rfl (any_of HT_.out (by kernel_rfl)) (fun _ _ _ h => h) (Or.inl ⟨by rfl, ?_⟩) ?_ ?_); (rotate_left)
                      · (intro w'); (go_simp); (with_reducible rfl)
                      rotate_left
                      · (simp only [sA]); (rfl)
                      (refine pure_ (i := 3) (N := some 15) (v := ?_) (a' := ?_) (bv 4 14) rfl rfl (any_of HT_.out (by kernel_rfl)) (fun _ _ _ h => h) (Or.inl ⟨by rfl, ?_⟩) ?_ ?_); (rotate_left)
                      · (intro w'); (go_simp); (with_reducible rfl)
                      rotate_left
                      · (simp only [sA]); (rfl)
                      (refine pure_ (i := 4) (N := some 16) (v := ?_) (a' := ?_) (bv 5 13) rfl rfl (any_of HT_.out (by kernel_rfl)) (fun _ _ _ h => h) (Or.inl ⟨by rfl, ?_⟩) ?_ ?_); (rotate_left)
                      · (intro w'); (go_simp); (with_reducible rfl)
                      rotate_left
                      · (simp only [sA]); (rfl)
                      (refine pure_ (i := 5) (N := some 17) (v := ?_) (a' := ?_) (bv 6 12) rfl rfl (any_of HT_.out (by kernel_rfl)) (fun _ _ _ h => h) (Or.inl ⟨by rfl, ?_⟩) ?_ ?_); (rotate_left)
                      · (intro w'); (go_simp); (with_reducible rfl)
                      rotate_left
                      · (simp only [sA]); (rfl)
                      (refine pure_ (i := 6) (N := some 18) (v := ?_) (a' := ?_) (bv 7 11) rfl rfl (any_of HT_.out (by kernel_rfl)) (fun _ _ _ h => h) (Or.inl ⟨by rfl, ?_⟩) ?_ ?_); (rotate_left)
                      · (intro w'); (go_simp); (with_reducible rfl)
                      rotate_left
                      · (simp only [sA]); (rfl)
                      (refine pure_ (i := 7) (N := some 19) (v := ?_) (a' := ?_) (bv 8 10) rfl rfl (any_of HT_.out (by kernel_rfl)) (fun _ _ _ h => h) (Or.inl ⟨by rfl, ?_⟩) ?_ ?_); (rotate_left)
                      · (intro w'); (go_simp); (with_reducible rfl)
                      rotate_left
                      · (simp only [sA]); (rfl)
                      (refine pure_ (i := 8) (N := some 20) (v := ?_) (a' := ?_) (bv 9 9) rfl rfl (any_of HT_.out (by kernel_rfl)) (fun _ _ _ h => h) (Or.inl ⟨by rfl, ?_⟩) ?_ ?_); (rotate_left)
                      · (intro w'); (go_simp); (with_reducible rfl)
                      rotate_left
                      · (simp only [sA]); (rfl)
                      (refine pure_ (i := 9) (N := some 21) (v := ?_) (a' := ?_) (bv 10 8) rfl rfl (any_of HT_.out (by kernel_rfl)) (fun _ _ _ h => h) (Or.inl ⟨by rfl, ?_⟩) ?_ ?_); (rotate_left)
                      · (intro w'); (go_simp); (with_reducible rfl)
                      rotate_left
                      · (simp only [sA]); (rfl)
                      (refine pure_ (i := 10) (N := some 22) (v := ?_) (a' := ?_) (bv 11 7) rfl rfl (any_of HT_.out (by kernel_rfl)) (fun _ _ _ h => h) (Or.inl ⟨by rfl, ?_⟩) ?_ ?_); (rotate_left)
                      · (intro w'); (go_simp); (with_reducible rfl)
                      rotate_left
                      · (simp only [sA]); (rfl)
                      (refine pure_ (i := 11) (N := some 23) (v := ?_) (a' := ?_) (bv 12 6) rfl rfl (any_of HT_.out (by kernel_rfl)) (fun _ _ _ h => h) (Or.inl ⟨by rfl, ?_⟩) ?_ ?_); (rotate_left)
                      · (intro w'); (go_simp); (with_reducible rfl)
                      rotate_left
                      · (simp only [sA]); (rfl)
                      (refine pure_ (i := 13) (N := some 25) (v := ?_) (a' := ?_) #[true, true, true, true, true, true, true, true, true, true, true, true, false, true, false, false, false, false] rfl rfl (any_of HT_.out (by kernel_rfl)) (fun _ _ _ h => h) (Or.inl ⟨by rfl, ?_⟩) ?_ ?_); (rotate_left)
                      · (intro w'); (go_simp); (with_reducible rfl)
                      rotate_left
                      · (simp only [sA]); (rfl)
                      (refine take_ (i := 12) (N := some 24) (v := ?_) (a' := ?_) (bv 14 4) rfl rfl (take_ofW HT_.out HW_.out (by kernel_rfl)) (fun _ _ _ h => h) (Or.inl ⟨by rfl, ?_⟩) hHeld ?_ ?_); (rotate_left)
                      · (rintro w' ⟨s0, s1, s2, s3⟩); (go_simp); (with_reducible rfl)
                      rotate_left
                      · (simp only [sA]); (rfl)
                      (refine take_ (i := 14) (N := some 26) (v := ?_) (a' := ?_) (bv 15 3) rfl rfl (take_ofW HT_.out HW_.out (by kernel_rfl)) (fun _ _ _ h => h) (Or.inl ⟨by rfl, ?_⟩) hHeld ?_ ?_); (rotate_left)
                      · (rintro w' ⟨s0, s1, s2, s3⟩); (go_simp); (with_reducible rfl)
                      rotate_left
                      · (simp only [sA]); (rfl)
                      (refine pure_ (i := 15) (N := some 27) (v := ?_) (a' := ?_) (bv 16 2) rfl rfl (any_of HT_.out (by kernel_rfl)) (fun _ _ _ h => h) (Or.inl ⟨by rfl, ?_⟩) ?_ ?_); (rotate_left)
                      · (intro w'); (go_simp); (with_reducible rfl)
                      rotate_left
                      · (simp only [sA]); (rfl)
                      (refine pure_ (i := 16) (N := some 28) (v := ?_) (a' := ?_) (bv 17 1) rfl rfl (any_of HT_.out (by kernel_rfl)) (fun _ _ _ h => h) (Or.inl ⟨by rfl, ?_⟩) ?_ ?_); (rotate_left)
                      · (intro w'); (go_simp); (with_reducible rfl)
                      rotate_left
                      · (simp only [sA]); (rfl)
                      (refine pure_ (i := 17) (N := some 29) (v := ?_) (a' := ?_) (bv 18 0) rfl rfl (any_of HT_.out (by kernel_rfl)) (fun _ _ _ h => h) (Or.inl ⟨by rfl, ?_⟩) ?_ ?_); (rotate_left)
                      · (intro w'); (go_simp); (with_reducible rfl)
                      rotate_left
                      · (simp only [sA]); (rfl)
                      (refine done_ (done_of HT_.out (by kernel_rfl)) ?_); (try go_wp2); (go_ret); (exact ⟨by first | rfl | (simp [errW_none, errW_some] <;> rfl) | (simp only [← hji8]; first | rfl | (simp [errW_none, errW_some] <;> rfl)) | (simp [*, errW_none, errW_some] <;> rfl), by repeat (first | (with_reducible first | exact HB.out | apply below_alloc | apply pw_below_drewN | apply below_drew1 | refine below_set ?_ GE110.out) | exact HB.out)⟩)
                  · (rw [if_neg c10] at H); (exact absurd H (by simp))
                · (rw [if_neg c9] at H); (exact absurd H (by simp))
              · (rw [if_neg c7] at H); (have c7b0 : decide (0 < x7_1) = false := decide_eq_false c7); (clear c7); (have H' := Aside0.mk H); (clear H); (have p109 : 0 ≤ (x7_1 : Int) := of_decide_eq_true (by first | (with_reducible assumption) | assumption)); (have q109 : x7_1 < (l0.length : Int) := of_decide_eq_true (by first | (with_reducible assumption) | assumption)); (obtain ⟨ad109, e109, hx109_0, hx109_1⟩ := at_T42 HR0.out x7_1 p109 q109); (cases e109); (replace hx109_0 := (HB.out.cell (World.block_lt_of_cell? w _ hx109_0)).trans hx109_0); (replace hx109_1 := (HB.out.cell (World.block_lt_of_cell? w _ hx109_1)).trans hx109_1); (replace p109 := eq_true p109); (replace q109 := eq_true q109); (try go_wp2_with (first | ((with_reducible refine gate_dst (N := 4) rfl ?_); refine box_event ?hg (N := 4) ?hd (cs := #[.string (⟨#[]⟩ : ByteArray), .string (⟨#[]⟩ : ByteArray)]) (t := 42) ?hr ?_; (case hd => rfl); (case hg => rfl); (case hr => first | (go_simp; done) | (go_simp; rfl)); intro gb110 hg w22 hbox hb; have BK110 := Aside0.mk (hbox); have GW110 := Aside0.mk ((by rw [hg]; exact (below_size (mvW HB.out)) : w.heap.size ≤ gb110)); have GE110 := Aside0.mk ((by rw [hg]; exact (below_size (mvW HB.out)) : w.heap.size ≤ gb110)); replace HB := Aside0.mk (below_step (mvW HB.out) hb); clear hb hbox hg; obtain ⟨Z23_0, Z23_1⟩ := bc2 BK110.out; obtain ⟨Y23_0, Y23_1⟩ := bf2 BK110.out))); (have n0_ : Aside0 (((w22.setCell ⟨gb110, 0, none⟩ (.string ((rd_T42 l0 x7_1).f0))).setCell ⟨gb110, 1, none⟩ (.string ((rd_T42 l0 x7_1).f1))).heap[gb110]? = some (.cells #[.string ((rd_T42 l0 x7_1).f0), .string ((rd_T42 l0 x7_1).f1)] 42 (0, 0))) := ⟨by (with_reducible repeat (first | refine blk_drewN ?_ _ | refine blk_drew ?_ | refine blk_alloc ?_ _)); refine blk_put (cs := #[.string ((rd_T42 l0 x7_1).f0), .string (⟨#[]⟩ : ByteArray)]) ?_ 1 _ rfl; (with_reducible repeat (first | refine blk_drewN ?_ _ | refine blk_drew ?_ | refine blk_alloc ?_ _)); refine blk_put (cs := #[.string (⟨#[]⟩ : ByteArray), .string (⟨#[]⟩ : ByteArray)]) ?_ 0 _ rfl; (with_reducible repeat (first | refine blk_drewN ?_ _ | refine blk_drew ?_ | refine blk_alloc ?_ _)); exact BK110.out⟩); (have n1_ : Aside0 (Below w.heap.size w ((w22.setCell ⟨gb110, 0, none⟩ (.string ((rd_T42 l0 x7_1).f0))).setCell ⟨gb110, 1, none⟩ (.string ((rd_T42 l0 x7_1).f1)))) := ⟨mvW HB.out⟩); ((try clear BK110)); ((try clear HB)); (generalize ((w22.setCell ⟨gb110, 0, none⟩ (.string ((rd_T42 l0 x7_1).f0))).setCell ⟨gb110, 1, none⟩ (.string ((rd_T42 l0 x7_1).f1))) = w24 at n0_ n1_ ⊢); (have BK110 := n0_); (have HB := n1_); (clear n0_ n1_); (replace BK110 := Aside0.mk (blk_drew BK110.out)); (replace HB := Aside0.mk (below_drew1 HB.out)); (refine start_ (n := 18) (S := fun w' => w'.cell? ⟨gb110, 0, none⟩ = some (.string ((rd_T42 l0 x7_1).f0)) ∧ w'.cell? ⟨gb110, 1, none⟩ = some (.string ((rd_T42 l0 x7_1).f1))) (ds := []) #[false, false, false, false, false, false, false, false, false, false, false, false, false, false, false, false, false, false] (by kernel_rfl) rfl rfl (bc2 BK110.out) (fun hHeld => ?_); refine with_tabW cells_Right.tab4 cells_Right.bits4 (fun HT_ HW_ => ?_)); (generalize w24.drew = w25 at BK110 HB hHeld ⊢); (refine take_ (i := 0) (N := some 12) (v := ?_) (a' := ?_) (bv 1 17) rfl rfl (take_ofW HT_.out HW_.out (by kernel_rfl)) (fun _ _ _ h => h) (Or.inl ⟨by rfl, ?_⟩) hHeld ?_ ?_); (rotate_left)
                · (rintro w' ⟨s0, s1⟩); (go_simp); (with_reducible rfl)
                rotate_left
                · (simp only [sA]); (rfl)
                (refine one_ (i := 1) (N := some 13) (bv 2 16) rfl rfl (one_of HT_.out (by kernel_rfl)) (by decide) (fun K hK => ?_)); (refine goes_ Try.func52 (by kernel_rfl) rfl #[.agg #[.string ((rd_T42 l0 x7_1).f0), .string ((rd_T42 l0 x7_1).f1)]] (by rfl) rfl rfl (by (try simp only [List.map_toArray, List.map_cons, List.map_nil]); first | done | rfl | (simp only [List.length_drop, List.length_take]; rfl) | (simp only [*]; rfl)) ?_); (with_reducible refine (cells_cell_right.calls ((rd_T42 l0 x7_1).f0) ((rd_T42 l0 x7_1).f1) true _ A5.out).mono ?_); (rintro e w26 ⟨rfl, hb⟩); (refine ⟨_, rfl, ?_⟩); (replace BK110 := Aside0.mk (blk_below (mvB BK110.out) hb)); (replace HB := Aside0.mk (below_step (mvW HB.out) hb)); (clear hb); (refine hK.out _ _ (bc2 BK110.out) (fun hHeld => ?_)); (clear hK K); (refine norm_ (a' := ?_) ?_ ?_); (rotate_left)
                · (show Act.put _ (some 13) _ = _); (simp only [sA]); (rfl)
                (refine pure_ (i := 2) (N := some 14) (v := ?_) (a' := ?_) (bv 3 15) rfl rfl (any_of HT_.out (by kernel_rfl)) (fun _ _ _ h => h) (Or.inl ⟨by rfl, ?_⟩) ?_ ?_); (rotate_left)
                · (intro w'); (go_simp); (with_reducible rfl)
                rotate_left
                · (simp only [sA]); (rfl)
                (refine pure_ (i := 3) (N := some 15) (v := ?_) (a' := ?_) (bv 4 14) rfl rfl (any_of HT_.out (by kernel_rfl)) (fun _ _ _ h => h) (Or.inl ⟨by rfl, ?_⟩) ?_ ?_); (rotate_left)
                · (intro w'); (go_simp); (with_reducible rfl)
                rotate_left
                · (simp only [sA]); (rfl)
                (refine pure_ (i := 4) (N := some 16) (v := ?_) (a' := ?_) (bv 5 13) rfl rfl (any_of HT_.out (by kernel_rfl)) (fun _ _ _ h => h) (Or.inl ⟨by rfl, ?_⟩) ?_ ?_); (rotate_left)
                · (intro w'); (go_simp); (with_reducible rfl)
                rotate_left
                · (simp only [sA]); (rfl)
                (refine pure_ (i := 5) (N := some 17) (v := ?_) (a' := ?_) (bv 6 12) rfl rfl (any_of HT_.out (by kernel_rfl)) (fun _ _ _ h => h) (Or.inl ⟨by rfl, ?_⟩) ?_ ?_); (rotate_left)
                · (intro w'); (go_simp); (with_reducible rfl)
                rotate_left
                · (simp only [sA]); (rfl)
                (refine pure_ (i := 6) (N := some 18) (v := ?_) (a' := ?_) (bv 7 11) rfl rfl (any_of HT_.out (by kernel_rfl)) (fun _ _ _ h => h) (Or.inl ⟨by rfl, ?_⟩) ?_ ?_); (rotate_left)
                · (intro w'); (go_simp); (with_reducible rfl)
                rotate_left
                · (simp only [sA]); (rfl)
                (refine pure_ (i := 7) (N := some 19) (v := undef) (a' := ?_) (bv 8 10) rfl rfl (any_of HT_.out (by kernel_rfl)) (fun _ _ _ h => h) (Or.inr ⟨by rfl, rfl⟩) ?_ ?_); (rotate_left)
                · (simp only [sA]); (rfl)
                (refine pure_ (i := 8) (N := some 20) (v := undef) (a' := ?_) (bv 9 9) rfl rfl (any_of HT_.out (by kernel_rfl)) (fun _ _ _ h => h) (Or.inr ⟨by rfl, rfl⟩) ?_ ?_); (rotate_left)
                · (simp only [sA]); (rfl)
                (refine pure_ (i := 9) (N := some 21) (v := undef) (a' := ?_) (bv 10 8) rfl rfl (any_of HT_.out (by kernel_rfl)) (fun _ _ _ h => h) (Or.inr ⟨by rfl, rfl⟩) ?_ ?_); (rotate_left)
                · (simp only [sA]); (rfl)
                (refine pure_ (i := 10) (N := some 22) (v := undef) (a' := ?_) (bv 11 7) rfl rfl (any_of HT_.out (by kernel_rfl)) (fun _ _ _ h => h) (Or.inr ⟨by rfl, rfl⟩) ?_ ?_); (rotate_left)
                · (simp only [sA]); (rfl)
                (refine pure_ (i := 11) (N := some 23) (v := undef) (a' := ?_) (bv 12 6) rfl rfl (any_of HT_.out (by kernel_rfl)) (fun _ _ _ h => h) (Or.inr ⟨by rfl, rfl⟩) ?_ ?_); (rotate_left)
                · (simp only [sA]); (rfl)
                (refine pure_ (i := 12) (N := some 24) (v := undef) (a' := ?_) (bv 13 5) rfl rfl (any_of HT_.out (by kernel_rfl)) (fun _ _ _ h => h) (Or.inr ⟨by rfl, rfl⟩) ?_ ?_); (rotate_left)
                · (simp only [sA]); (rfl)
                (refine pure_ (i := 13) (N := some 25) (v := undef) (a' := ?_) (bv 14 4) rfl rfl (any_of HT_.out (by kernel_rfl)) (fun _ _ _ h => h) (Or.inr ⟨by rfl, rfl⟩) ?_ ?_); (rotate_left)
                · (simp only [sA]); (rfl)
                (refine pure_ (i := 14) (N := some 26) (v := undef) (a' := ?_) (bv 15 3) rfl rfl (any_of HT_.out (by kernel_rfl)) (fun _ _ _ h => h) (Or.inr ⟨by rfl, rfl⟩) ?_ ?_); (rotate_left)
                · (simp only [sA]); (rfl)
                (refine pure_ (i := 15) (N := some 27) (v := undef) (a' := ?_) (bv 16 2) rfl rfl (any_of HT_.out (by kernel_rfl)) (fun _ _ _ h => h) (Or.inr ⟨by rfl, rfl⟩) ?_ ?_); (rotate_left)
                · (simp only [sA]); (rfl)
                (refine pure_ (i := 16) (N := some 28) (v := ?_) (a' := ?_) (bv 17 1) rfl rfl (any_of HT_.out (by kernel_rfl)) (fun _ _ _ h => h) (Or.inl ⟨by rfl, ?_⟩) ?_ ?_); (rotate_left)
                · (intro w'); (go_simp); (with_reducible rfl)
                rotate_left
                · (simp only [sA]); (rfl)
                (refine pure_ (i := 17) (N := some 29) (v := ?_) (a' := ?_) (bv 18 0) rfl rfl (any_of HT_.out (by kernel_rfl)) (fun _ _ _ h => h) (Or.inl ⟨by rfl, ?_⟩) ?_ ?_); (rotate_left)
                · (intro w'); (go_simp); (with_reducible rfl)
                rotate_left
                · (simp only [sA]); (rfl)
                (refine done_ (done_of HT_.out (by kernel_rfl)) ?_); (try go_wp2); (go_roundg k1)
                case measure => have := HK1.out; omega
                case rel => exact ⟨(wrap64 (x7_1 + 1)), (by first | rfl | (simp; done) | (simp [*]; done)), H', ⟨by have := HK1.out; omega⟩, ⟨mvW HB.out⟩⟩
            · (replace c6 := Bool.eq_false_iff.mpr c6); (subst c6); (have H1 : (some false) = some r := by rw [if_neg (show ¬ (false = true) by decide)] at H; exact H); (clear H); (have H := H1); (clear H1); (obtain rfl := Option.some.inj H); (have p109 : 0 ≤ (x7_1 : Int) := of_decide_eq_true (by first | (with_reducible assumption) | assumption)); (have q109 : x7_1 < (l0.length : Int) := of_decide_eq_true (by first | (with_reducible assumption) | assumption)); (obtain ⟨ad109, e109, hx109_0, hx109_1⟩ := at_T42 HR0.out x7_1 p109 q109); (cases e109); (replace hx109_0 := (HB.out.cell (World.block_lt_of_cell? w _ hx109_0)).trans hx109_0); (replace hx109_1 := (HB.out.cell (World.block_lt_of_cell? w _ hx109_1)).trans hx109_1); (replace p109 := eq_true p109); (replace q109 := eq_true q109); (try go_wp2_with (first | ((with_reducible refine gate_dst (N := 4) rfl ?_); refine box_event ?hg (N := 4) ?hd (cs := #[.string (⟨#[]⟩ : ByteArray), .string (⟨#[]⟩ : ByteArray)]) (t := 42) ?hr ?_; (case hd => rfl); (case hg => rfl); (case hr => first | (go_simp; done) | (go_simp; rfl)); intro gb110 hg w27 hbox hb; have BK110 := Aside0.mk (hbox); have GW110 := Aside0.mk ((by rw [hg]; exact (below_size (mvW HB.out)) : w.heap.size ≤ gb110)); have GE110 := Aside0.mk ((by rw [hg]; exact (below_size (mvW HB.out)) : w.heap.size ≤ gb110)); replace HB := Aside0.mk (below_step (mvW HB.out) hb); clear hb hbox hg; obtain ⟨Z28_0, Z28_1⟩ := bc2 BK110.out; obtain ⟨Y28_0, Y28_1⟩ := bf2 BK110.out))); (have n0_ : Aside0 (((w27.setCell ⟨gb110, 0, none⟩ (.string ((rd_T42 l0 x7_1).f0))).setCell ⟨gb110, 1, none⟩ (.string ((rd_T42 l0 x7_1).f1))).heap[gb110]? = some (.cells #[.string ((rd_T42 l0 x7_1).f0), .string ((rd_T42 l0 x7_1).f1)] 42 (0, 0))) := ⟨by (with_reducible repeat (first | refine blk_drewN ?_ _ | refine blk_drew ?_ | refine blk_alloc ?_ _)); refine blk_put (cs := #[.string ((rd_T42 l0 x7_1).f0), .string (⟨#[]⟩ : ByteArray)]) ?_ 1 _ rfl; (with_reducible repeat (first | refine blk_drewN ?_ _ | refine blk_drew ?_ | refine blk_alloc ?_ _)); refine blk_put (cs := #[.string (⟨#[]⟩ : ByteArray), .string (⟨#[]⟩ : ByteArray)]) ?_ 0 _ rfl; (with_reducible repeat (first | refine blk_drewN ?_ _ | refine blk_drew ?_ | refine blk_alloc ?_ _)); exact BK110.out⟩); (have n1_ : Aside0 (Below w.heap.size w ((w27.setCell ⟨gb110, 0, none⟩ (.string ((rd_T42 l0 x7_1).f0))).setCell ⟨gb110, 1, none⟩ (.string ((rd_T42 l0 x7_1).f1)))) := ⟨mvW HB.out⟩); ((try clear BK110)); ((try clear HB)); (generalize ((w27.setCell ⟨gb110, 0, none⟩ (.string ((rd_T42 l0 x7_1).f0))).setCell ⟨gb110, 1, none⟩ (.string ((rd_T42 l0 x7_1).f1))) = w29 at n0_ n1_ ⊢); (have BK110 := n0_); (have HB := n1_); (clear n0_ n1_); (replace BK110 := Aside0.mk (blk_drew BK110.out)); (replace HB := Aside0.mk (below_drew1 HB.out)); (refine start_ (n := 18) (S := fun w' => w'.cell? ⟨gb110, 0, none⟩ = some (.string ((rd_T42 l0 x7_1).f0)) ∧ w'.cell? ⟨gb110, 1, none⟩ = some (.string ((rd_T42 l0 x7_1).f1))) (ds := []) #[false, false, false, false, false, false, false, false, false, false, false, false, false, false, false, false, false, false] (by kernel_rfl) rfl rfl (bc2 BK110.out) (fun hHeld => ?_); refine with_tabW cells_Right.tab4 cells_Right.bits4 (fun HT_ HW_ => ?_)); (generalize w29.drew = w30 at BK110 HB hHeld ⊢); (refine take_ (i := 0) (N := some 12) (v := ?_) (a' := ?_) (bv 1 17) rfl rfl (take_ofW HT_.out HW_.out (by kernel_rfl)) (fun _ _ _ h => h) (Or.inl ⟨by rfl, ?_⟩) hHeld ?_ ?_); (rotate_left)
              · (rintro w' ⟨s0, s1⟩); (go_simp); (with_reducible rfl)
              rotate_left
              · (simp only [sA]); (rfl)
              (refine one_ (i := 1) (N := some 13) (bv 2 16) rfl rfl (one_of HT_.out (by kernel_rfl)) (by decide) (fun K hK => ?_)); (refine goes_ Try.func52 (by kernel_rfl) rfl #[.agg #[.string ((rd_T42 l0 x7_1).f0), .string ((rd_T42 l0 x7_1).f1)]] (by rfl) rfl rfl (by (try simp only [List.map_toArray, List.map_cons, List.map_nil]); first | done | rfl | (simp only [List.length_drop, List.length_take]; rfl) | (simp only [*]; rfl)) ?_); (with_reducible refine (cells_cell_right.calls ((rd_T42 l0 x7_1).f0) ((rd_T42 l0 x7_1).f1) false _ A5.out).mono ?_); (rintro e w31 ⟨rfl, hb⟩); (refine ⟨_, rfl, ?_⟩); (replace BK110 := Aside0.mk (blk_below (mvB BK110.out) hb)); (replace HB := Aside0.mk (below_step (mvW HB.out) hb)); (clear hb); (refine hK.out _ _ (bc2 BK110.out) (fun hHeld => ?_)); (clear hK K); (refine norm_ (a' := ?_) ?_ ?_); (rotate_left)
              · (show Act.put _ (some 13) _ = _); (simp only [sA]); (rfl)
              (refine pure_ (i := 2) (N := some 14) (v := ?_) (a' := ?_) (bv 3 15) rfl rfl (any_of HT_.out (by kernel_rfl)) (fun _ _ _ h => h) (Or.inl ⟨by rfl, ?_⟩) ?_ ?_); (rotate_left)
              · (intro w'); (go_simp); (with_reducible rfl)
              rotate_left
              · (simp only [sA]); (rfl)
              (refine pure_ (i := 3) (N := some 15) (v := ?_) (a' := ?_) (bv 4 14) rfl rfl (any_of HT_.out (by kernel_rfl)) (fun _ _ _ h => h) (Or.inl ⟨by rfl, ?_⟩) ?_ ?_); (rotate_left)
              · (intro w'); (go_simp); (with_reducible rfl)
              rotate_left
              · (simp only [sA]); (rfl)
              (refine pure_ (i := 4) (N := some 16) (v := undef) (a' := ?_) (bv 5 13) rfl rfl (any_of HT_.out (by kernel_rfl)) (fun _ _ _ h => h) (Or.inr ⟨by rfl, rfl⟩) ?_ ?_); (rotate_left)
              · (simp only [sA]); (rfl)
              (refine pure_ (i := 5) (N := some 17) (v := undef) (a' := ?_) (bv 6 12) rfl rfl (any_of HT_.out (by kernel_rfl)) (fun _ _ _ h => h) (Or.inr ⟨by rfl, rfl⟩) ?_ ?_); (rotate_left)
              · (simp only [sA]); (rfl)
              (refine pure_ (i := 6) (N := some 18) (v := undef) (a' := ?_) (bv 7 11) rfl rfl (any_of HT_.out (by kernel_rfl)) (fun _ _ _ h => h) (Or.inr ⟨by rfl, rfl⟩) ?_ ?_); (rotate_left)
              · (simp only [sA]); (rfl)
              (refine pure_ (i := 7) (N := some 19) (v := undef) (a' := ?_) (bv 8 10) rfl rfl (any_of HT_.out (by kernel_rfl)) (fun _ _ _ h => h) (Or.inr ⟨by rfl, rfl⟩) ?_ ?_); (rotate_left)
              · (simp only [sA]); (rfl)
              (refine pure_ (i := 8) (N := some 20) (v := undef) (a' := ?_) (bv 9 9) rfl rfl (any_of HT_.out (by kernel_rfl)) (fun _ _ _ h => h) (Or.inr ⟨by rfl, rfl⟩) ?_ ?_); (rotate_left)
              · (simp only [sA]); (rfl)
              (refine pure_ (i := 9) (N := some 21) (v := undef) (a' := ?_) (bv 10 8) rfl rfl (any_of HT_.out (by kernel_rfl)) (fun _ _ _ h => h) (Or.inr ⟨by rfl, rfl⟩) ?_ ?_); (rotate_left)
              · (simp only [sA]); (rfl)
              (refine pure_ (i := 10) (N := some 22) (v := undef) (a' := ?_) (bv 11 7) rfl rfl (any_of HT_.out (by kernel_rfl)) (fun _ _ _ h => h) (Or.inr ⟨by rfl, rfl⟩) ?_ ?_); (rotate_left)
              · (simp only [sA]); (rfl)
              (refine pure_ (i := 11) (N := some 23) (v := undef) (a' := ?_) (bv 12 6) rfl rfl (any_of HT_.out (by kernel_rfl)) (fun _ _ _ h => h) (Or.inr ⟨by rfl, rfl⟩) ?_ ?_); (rotate_left)
              · (simp only [sA]); (rfl)
              (refine pure_ (i := 12) (N := some 24) (v := undef) (a' := ?_) (bv 13 5) rfl rfl (any_of HT_.out (by kernel_rfl)) (fun _ _ _ h => h) (Or.inr ⟨by rfl, rfl⟩) ?_ ?_); (rotate_left)
              · (simp only [sA]); (rfl)
              (refine pure_ (i := 13) (N := some 25) (v := undef) (a' := ?_) (bv 14 4) rfl rfl (any_of HT_.out (by kernel_rfl)) (fun _ _ _ h => h) (Or.inr ⟨by rfl, rfl⟩) ?_ ?_); (rotate_left)
              · (simp only [sA]); (rfl)
              (refine pure_ (i := 14) (N := some 26) (v := undef) (a' := ?_) (bv 15 3) rfl rfl (any_of HT_.out (by kernel_rfl)) (fun _ _ _ h => h) (Or.inr ⟨by rfl, rfl⟩) ?_ ?_); (rotate_left)
              · (simp only [sA]); (rfl)
              (refine pure_ (i := 15) (N := some 27) (v := undef) (a' := ?_) (bv 16 2) rfl rfl (any_of HT_.out (by kernel_rfl)) (fun _ _ _ h => h) (Or.inr ⟨by rfl, rfl⟩) ?_ ?_); (rotate_left)
              · (simp only [sA]); (rfl)
              (refine pure_ (i := 16) (N := some 28) (v := undef) (a' := ?_) (bv 17 1) rfl rfl (any_of HT_.out (by kernel_rfl)) (fun _ _ _ h => h) (Or.inr ⟨by rfl, rfl⟩) ?_ ?_); (rotate_left)
              · (simp only [sA]); (rfl)
              (refine pure_ (i := 17) (N := some 29) (v := ?_) (a' := ?_) (bv 18 0) rfl rfl (any_of HT_.out (by kernel_rfl)) (fun _ _ _ h => h) (Or.inl ⟨by rfl, ?_⟩) ?_ ?_); (rotate_left)
              · (intro w'); (go_simp); (with_reducible rfl)
              rotate_left
              · (simp only [sA]); (rfl)
              (refine done_ (done_of HT_.out (by kernel_rfl)) ?_); (try go_wp2); (go_ret); (exact ⟨by first | rfl | (simp [errW_none, errW_some] <;> rfl) | (simp [*, errW_none, errW_some] <;> rfl), by repeat (first | (with_reducible first | exact HB.out | apply below_alloc | apply pw_below_drewN | apply below_drew1 | refine below_set ?_ GE110.out) | exact HB.out)⟩)
          · (rw [if_neg c4] at H); (exact absurd H (by simp))
        · (rw [if_neg c3] at H); (exact absurd H (by simp))
      · (rw [if_neg c2] at H); (have c2b0 : decide (x7_1 < (l0.length : Int)) = false := decide_eq_false c2); (clear c2); (obtain rfl := Option.some.inj H); (go_wp2); (go_ret); (exact ⟨by first | rfl | (simp [errW_none, errW_some] <;> rfl) | (simp [*, errW_none, errW_some] <;> rfl), by repeat (first | (with_reducible first | exact HB.out | apply below_alloc | apply pw_below_drewN | apply below_drew1) | exact HB.out)⟩)

/-! ### model_key: function 30 -/
def model_key.f (a0_0 : Int) (a0_1 : ByteArray) (a0_2 : ByteArray) (a0_3 : ByteArray) (a0_4 : ByteArray) (a0_5 : Bool) (a0_6 : Int) : Option (Bool × Bool) := if a0_0 ≥ 2 then (if a0_1.toList = ([] : List UInt8) then (some (decide (a0_0 ≤ 5), false)) else (if (a0_1.size : Int) ≤ 512 then (some (decide (a0_0 ≤ 5), decide ((a0_2.size : Int) ≤ 2048))) else (some (decide (a0_0 ≤ 5), false)))) else (if a0_1.toList = ([] : List UInt8) then (some (false, false)) else (if (a0_1.size : Int) ≤ 512 then (some (false, decide ((a0_2.size : Int) ≤ 2048))) else (some (false, false))))
set_option maxHeartbeats 8000000 in
set_option maxRecDepth 100000 in
theorem model_key.calls (a0_0 : Int) (a0_1 : ByteArray) (a0_2 : ByteArray) (a0_3 : ByteArray) (a0_4 : ByteArray) (a0_5 : Bool) (a0_6 : Int) (r1 : Bool) (r2 : Bool) (w : World) (h : model_key.f a0_0 a0_1 a0_2 a0_3 a0_4 a0_5 a0_6 = some (r1, r2)) :
    Calls Try.prog 30 #[.agg #[.int .u8 a0_0, .string a0_1, .string a0_2, .string a0_3, .string a0_4, .bool a0_5, .int .i64 a0_6]] w fun e w' => e = .returned (.tuple #[.bool r1, .bool r2]) ∧ Below w.heap.size w w' := by
  (have hu26 := Try.underlying26); (have HB := Aside0.mk (Below.refl w.heap.size w)); (have H : (if a0_0 ≥ 2 then (if a0_1.toList = ([] : List UInt8) then (some (decide (a0_0 ≤ 5), false)) else (if (a0_1.size : Int) ≤ 512 then (some (decide (a0_0 ≤ 5), decide ((a0_2.size : Int) ≤ 2048))) else (some (decide (a0_0 ≤ 5), false)))) else (if a0_1.toList = ([] : List UInt8) then (some (false, false)) else (if (a0_1.size : Int) ≤ 512 then (some (false, decide ((a0_2.size : Int) ≤ 2048))) else (some (false, false))))) = some (r1, r2) := h); (clear h); (by_cases c2 : a0_0 ≥ 2)
  · (rw [if_pos c2] at H); (have c2b0 : decide (2 ≤ a0_0) = true := decide_eq_true c2); (clear c2); (by_cases c3 : a0_1.toList = ([] : List UInt8))
    · (rw [if_pos c3] at H); (have c3b0 : (a0_1.toList == ([] : List UInt8)) = true := beq_iff_eq.mpr c3); (have c3b1 : (a0_1.toList != ([] : List UInt8)) = false := bne_eq_false_iff_eq.mpr c3); (clear c3); (simp only [Option.some.injEq, Prod.mk.injEq] at H); (obtain ⟨rfl, rfl⟩ := H); (go_enter Try.func30, Try.ntmps30); (go_wp2_with (first | ((with_reducible refine gate_dst (N := 1) rfl ?_); (try (refine gate_guard (by rfl) ?_; dsimp only)); refine box_event ?hg (N := 1) ?hd (cs := #[.int .u8 a0_0, .string a0_1, .string a0_2, .string a0_3, .string a0_4, .bool a0_5, .int .i64 a0_6]) (t := 26) ?hr ?_; (case hd => rfl); (case hg => rfl); (case hr => first | (go_simp; done) | (go_simp; rfl)); intro gb113 hg w4 hbox hb; have BK113 := Aside0.mk (hbox); have GW113 := Aside0.mk ((by rw [hg]; exact (below_size (mvW HB.out)) : w.heap.size ≤ gb113)); have GE113 := Aside0.mk ((by rw [hg]; exact (below_size (mvW HB.out)) : w.heap.size ≤ gb113)); replace HB := Aside0.mk (below_step (mvW HB.out) hb); clear hb hbox hg; obtain ⟨Z5_0, Z5_1, Z5_2, Z5_3, Z5_4, Z5_5, Z5_6⟩ := bc7 BK113.out; obtain ⟨Y5_0, Y5_1, Y5_2, Y5_3, Y5_4, Y5_5, Y5_6⟩ := bf7 BK113.out))); (repeat (go_quiet (first | ((with_reducible refine gate_dst (N := 1) rfl ?_); (try (refine gate_guard (by rfl) ?_; dsimp only)); refine box_event ?hg (N := 1) ?hd (cs := #[.int .u8 a0_0, .string a0_1, .string a0_2, .string a0_3, .string a0_4, .bool a0_5, .int .i64 a0_6]) (t := 26) ?hr ?_; (case hd => rfl); (case hg => rfl); (case hr => first | (go_simp; done) | (go_simp; rfl)); intro gb113 hg w4 hbox hb; have BK113 := Aside0.mk (hbox); have GW113 := Aside0.mk ((by rw [hg]; exact (below_size (mvW HB.out)) : w.heap.size ≤ gb113)); have GE113 := Aside0.mk ((by rw [hg]; exact (below_size (mvW HB.out)) : w.heap.size ≤ gb113)); replace HB := Aside0.mk (below_step (mvW HB.out) hb); clear hb hbox hg; obtain ⟨Z5_0, Z5_1, Z5_2, Z5_3, Z5_4, Z5_5, Z5_6⟩ := bc7 BK113.out; obtain ⟨Y5_0, Y5_1, Y5_2, Y5_3, Y5_4, Y5_5, Y5_6⟩ := bf7 BK113.out)); try go_wp2_with (first | ((with_reducible refine gate_dst (N := 1) rfl ?_); (try (refine gate_guard (by rfl) ?_; dsimp only)); refine box_event ?hg (N := 1) ?hd (cs := #[.int .u8 a0_0, .string a0_1, .string a0_2, .string a0_3, .string a0_4, .bool a0_5, .int .i64 a0_6]) (t := 26) ?hr ?_; (case hd => rfl); (case hg => rfl); (case hr => first | (go_simp; done) | (go_simp; rfl)); intro gb113 hg w4 hbox hb; have BK113 := Aside0.mk (hbox); have GW113 := Aside0.mk ((by rw [hg]; exact (below_size (mvW HB.out)) : w.heap.size ≤ gb113)); have GE113 := Aside0.mk ((by rw [hg]; exact (below_size (mvW HB.out)) : w.heap.size ≤ gb113)); replace HB := Aside0.mk (below_step (mvW HB.out) hb); clear hb hbox hg; obtain ⟨Z5_0, Z5_1, Z5_2, Z5_3, Z5_4, Z5_5, Z5_6⟩ := bc7 BK113.out; obtain ⟨Y5_0, Y5_1, Y5_2, Y5_3, Y5_4, Y5_5, Y5_6⟩ := bf7 BK113.out)))); (go_ret2); (exact ⟨by first | rfl | (simp [errW_none, errW_some] <;> rfl) | (simp [*, errW_none, errW_some] <;> rfl), by repeat (first | (with_reducible first | exact HB.out | apply below_alloc | apply pw_below_drewN | apply below_drew1 | refine below_set ?_ GE113.out) | exact HB.out)⟩)
    · (rw [if_neg c3] at H); (have c3b0 : (a0_1.toList == ([] : List UInt8)) = false := beq_eq_false_iff_ne.mpr c3); (have c3b1 : (a0_1.toList != ([] : List UInt8)) = true := bne_iff_ne.mpr c3); (by_cases c6 : (a0_1.size : Int) ≤ 512)
      · (rw [if_pos c6] at H); (have c6b0 : decide ((a0_1.size : Int) ≤ 512) = true := decide_eq_true c6); (have c6b1 : decide (a0_1.size ≤ 512) = true := decide_eq_true (by omega)); (clear c6); (simp only [Option.some.injEq, Prod.mk.injEq] at H); (obtain ⟨rfl, rfl⟩ := H); (go_enter Try.func30, Try.ntmps30); (go_wp2_with (first | ((with_reducible refine gate_dst (N := 1) rfl ?_); (try (refine gate_guard (by rfl) ?_; dsimp only)); refine box_event ?hg (N := 1) ?hd (cs := #[.int .u8 a0_0, .string a0_1, .string a0_2, .string a0_3, .string a0_4, .bool a0_5, .int .i64 a0_6]) (t := 26) ?hr ?_; (case hd => rfl); (case hg => rfl); (case hr => first | (go_simp; done) | (go_simp; rfl)); intro gb113 hg w7 hbox hb; have BK113 := Aside0.mk (hbox); have GW113 := Aside0.mk ((by rw [hg]; exact (below_size (mvW HB.out)) : w.heap.size ≤ gb113)); have GE113 := Aside0.mk ((by rw [hg]; exact (below_size (mvW HB.out)) : w.heap.size ≤ gb113)); replace HB := Aside0.mk (below_step (mvW HB.out) hb); clear hb hbox hg; obtain ⟨Z8_0, Z8_1, Z8_2, Z8_3, Z8_4, Z8_5, Z8_6⟩ := bc7 BK113.out; obtain ⟨Y8_0, Y8_1, Y8_2, Y8_3, Y8_4, Y8_5, Y8_6⟩ := bf7 BK113.out))); (repeat (go_quiet (first | ((with_reducible refine gate_dst (N := 1) rfl ?_); (try (refine gate_guard (by rfl) ?_; dsimp only)); refine box_event ?hg (N := 1) ?hd (cs := #[.int .u8 a0_0, .string a0_1, .string a0_2, .string a0_3, .string a0_4, .bool a0_5, .int .i64 a0_6]) (t := 26) ?hr ?_; (case hd => rfl); (case hg => rfl); (case hr => first | (go_simp; done) | (go_simp; rfl)); intro gb113 hg w7 hbox hb; have BK113 := Aside0.mk (hbox); have GW113 := Aside0.mk ((by rw [hg]; exact (below_size (mvW HB.out)) : w.heap.size ≤ gb113)); have GE113 := Aside0.mk ((by rw [hg]; exact (below_size (mvW HB.out)) : w.heap.size ≤ gb113)); replace HB := Aside0.mk (below_step (mvW HB.out) hb); clear hb hbox hg; obtain ⟨Z8_0, Z8_1, Z8_2, Z8_3, Z8_4, Z8_5, Z8_6⟩ := bc7 BK113.out; obtain ⟨Y8_0, Y8_1, Y8_2, Y8_3, Y8_4, Y8_5, Y8_6⟩ := bf7 BK113.out)); try go_wp2_with (first | ((with_reducible refine gate_dst (N := 1) rfl ?_); (try (refine gate_guard (by rfl) ?_; dsimp only)); refine box_event ?hg (N := 1) ?hd (cs := #[.int .u8 a0_0, .string a0_1, .string a0_2, .string a0_3, .string a0_4, .bool a0_5, .int .i64 a0_6]) (t := 26) ?hr ?_; (case hd => rfl); (case hg => rfl); (case hr => first | (go_simp; done) | (go_simp; rfl)); intro gb113 hg w7 hbox hb; have BK113 := Aside0.mk (hbox); have GW113 := Aside0.mk ((by rw [hg]; exact (below_size (mvW HB.out)) : w.heap.size ≤ gb113)); have GE113 := Aside0.mk ((by rw [hg]; exact (below_size (mvW HB.out)) : w.heap.size ≤ gb113)); replace HB := Aside0.mk (below_step (mvW HB.out) hb); clear hb hbox hg; obtain ⟨Z8_0, Z8_1, Z8_2, Z8_3, Z8_4, Z8_5, Z8_6⟩ := bc7 BK113.out; obtain ⟨Y8_0, Y8_1, Y8_2, Y8_3, Y8_4, Y8_5, Y8_6⟩ := bf7 BK113.out)))); (go_ret2); (exact ⟨by first | rfl | (simp [errW_none, errW_some] <;> rfl) | (simp [*, errW_none, errW_some] <;> rfl), by repeat (first | (with_reducible first | exact HB.out | apply below_alloc | apply pw_below_drewN | apply below_drew1 | refine below_set ?_ GE113.out) | exact HB.out)⟩)
      · (rw [if_neg c6] at H); (have c6b0 : decide ((a0_1.size : Int) ≤ 512) = false := decide_eq_false c6); (have c6b1 : decide (a0_1.size ≤ 512) = false := decide_eq_false (by omega)); (clear c6); (simp only [Option.some.injEq, Prod.mk.injEq] at H); (obtain ⟨rfl, rfl⟩ := H); (go_enter Try.func30, Try.ntmps30); (go_wp2_with (first | ((with_reducible refine gate_dst (N := 1) rfl ?_); (try (refine gate_guard (by rfl) ?_; dsimp only)); refine box_event ?hg (N := 1) ?hd (cs := #[.int .u8 a0_0, .string a0_1, .string a0_2, .string a0_3, .string a0_4, .bool a0_5, .int .i64 a0_6]) (t := 26) ?hr ?_; (case hd => rfl); (case hg => rfl); (case hr => first | (go_simp; done) | (go_simp; rfl)); intro gb113 hg w9 hbox hb; have BK113 := Aside0.mk (hbox); have GW113 := Aside0.mk ((by rw [hg]; exact (below_size (mvW HB.out)) : w.heap.size ≤ gb113)); have GE113 := Aside0.mk ((by rw [hg]; exact (below_size (mvW HB.out)) : w.heap.size ≤ gb113)); replace HB := Aside0.mk (below_step (mvW HB.out) hb); clear hb hbox hg; obtain ⟨Z10_0, Z10_1, Z10_2, Z10_3, Z10_4, Z10_5, Z10_6⟩ := bc7 BK113.out; obtain ⟨Y10_0, Y10_1, Y10_2, Y10_3, Y10_4, Y10_5, Y10_6⟩ := bf7 BK113.out))); (repeat (go_quiet (first | ((with_reducible refine gate_dst (N := 1) rfl ?_); (try (refine gate_guard (by rfl) ?_; dsimp only)); refine box_event ?hg (N := 1) ?hd (cs := #[.int .u8 a0_0, .string a0_1, .string a0_2, .string a0_3, .string a0_4, .bool a0_5, .int .i64 a0_6]) (t := 26) ?hr ?_; (case hd => rfl); (case hg => rfl); (case hr => first | (go_simp; done) | (go_simp; rfl)); intro gb113 hg w9 hbox hb; have BK113 := Aside0.mk (hbox); have GW113 := Aside0.mk ((by rw [hg]; exact (below_size (mvW HB.out)) : w.heap.size ≤ gb113)); have GE113 := Aside0.mk ((by rw [hg]; exact (below_size (mvW HB.out)) : w.heap.size ≤ gb113)); replace HB := Aside0.mk (below_step (mvW HB.out) hb); clear hb hbox hg; obtain ⟨Z10_0, Z10_1, Z10_2, Z10_3, Z10_4, Z10_5, Z10_6⟩ := bc7 BK113.out; obtain ⟨Y10_0, Y10_1, Y10_2, Y10_3, Y10_4, Y10_5, Y10_6⟩ := bf7 BK113.out)); try go_wp2_with (first | ((with_reducible refine gate_dst (N := 1) rfl ?_); (try (refine gate_guard (by rfl) ?_; dsimp only)); refine box_event ?hg (N := 1) ?hd (cs := #[.int .u8 a0_0, .string a0_1, .string a0_2, .string a0_3, .string a0_4, .bool a0_5, .int .i64 a0_6]) (t := 26) ?hr ?_; (case hd => rfl); (case hg => rfl); (case hr => first | (go_simp; done) | (go_simp; rfl)); intro gb113 hg w9 hbox hb; have BK113 := Aside0.mk (hbox); have GW113 := Aside0.mk ((by rw [hg]; exact (below_size (mvW HB.out)) : w.heap.size ≤ gb113)); have GE113 := Aside0.mk ((by rw [hg]; exact (below_size (mvW HB.out)) : w.heap.size ≤ gb113)); replace HB := Aside0.mk (below_step (mvW HB.out) hb); clear hb hbox hg; obtain ⟨Z10_0, Z10_1, Z10_2, Z10_3, Z10_4, Z10_5, Z10_6⟩ := bc7 BK113.out; obtain ⟨Y10_0, Y10_1, Y10_2, Y10_3, Y10_4, Y10_5, Y10_6⟩ := bf7 BK113.out)))); (go_ret2); (exact ⟨by first | rfl | (simp [errW_none, errW_some] <;> rfl) | (simp [*, errW_none, errW_some] <;> rfl), by repeat (first | (with_reducible first | exact HB.out | apply below_alloc | apply pw_below_drewN | apply below_drew1 | refine below_set ?_ GE113.out) | exact HB.out)⟩)
  · (rw [if_neg c2] at H); (have c2b0 : decide (2 ≤ a0_0) = false := decide_eq_false c2); (clear c2); (by_cases c11 : a0_1.toList = ([] : List UInt8))
    · (rw [if_pos c11] at H); (have c11b0 : (a0_1.toList == ([] : List UInt8)) = true := beq_iff_eq.mpr c11); (have c11b1 : (a0_1.toList != ([] : List UInt8)) = false := bne_eq_false_iff_eq.mpr c11); (clear c11); (simp only [Option.some.injEq, Prod.mk.injEq] at H); (obtain ⟨rfl, rfl⟩ := H); (go_enter Try.func30, Try.ntmps30); (go_wp2_with (first | ((with_reducible refine gate_dst (N := 1) rfl ?_); (try (refine gate_guard (by rfl) ?_; dsimp only)); refine box_event ?hg (N := 1) ?hd (cs := #[.int .u8 a0_0, .string a0_1, .string a0_2, .string a0_3, .string a0_4, .bool a0_5, .int .i64 a0_6]) (t := 26) ?hr ?_; (case hd => rfl); (case hg => rfl); (case hr => first | (go_simp; done) | (go_simp; rfl)); intro gb113 hg w12 hbox hb; have BK113 := Aside0.mk (hbox); have GW113 := Aside0.mk ((by rw [hg]; exact (below_size (mvW HB.out)) : w.heap.size ≤ gb113)); have GE113 := Aside0.mk ((by rw [hg]; exact (below_size (mvW HB.out)) : w.heap.size ≤ gb113)); replace HB := Aside0.mk (below_step (mvW HB.out) hb); clear hb hbox hg; obtain ⟨Z13_0, Z13_1, Z13_2, Z13_3, Z13_4, Z13_5, Z13_6⟩ := bc7 BK113.out; obtain ⟨Y13_0, Y13_1, Y13_2, Y13_3, Y13_4, Y13_5, Y13_6⟩ := bf7 BK113.out))); (repeat (go_quiet (first | ((with_reducible refine gate_dst (N := 1) rfl ?_); (try (refine gate_guard (by rfl) ?_; dsimp only)); refine box_event ?hg (N := 1) ?hd (cs := #[.int .u8 a0_0, .string a0_1, .string a0_2, .string a0_3, .string a0_4, .bool a0_5, .int .i64 a0_6]) (t := 26) ?hr ?_; (case hd => rfl); (case hg => rfl); (case hr => first | (go_simp; done) | (go_simp; rfl)); intro gb113 hg w12 hbox hb; have BK113 := Aside0.mk (hbox); have GW113 := Aside0.mk ((by rw [hg]; exact (below_size (mvW HB.out)) : w.heap.size ≤ gb113)); have GE113 := Aside0.mk ((by rw [hg]; exact (below_size (mvW HB.out)) : w.heap.size ≤ gb113)); replace HB := Aside0.mk (below_step (mvW HB.out) hb); clear hb hbox hg; obtain ⟨Z13_0, Z13_1, Z13_2, Z13_3, Z13_4, Z13_5, Z13_6⟩ := bc7 BK113.out; obtain ⟨Y13_0, Y13_1, Y13_2, Y13_3, Y13_4, Y13_5, Y13_6⟩ := bf7 BK113.out)); try go_wp2_with (first | ((with_reducible refine gate_dst (N := 1) rfl ?_); (try (refine gate_guard (by rfl) ?_; dsimp only)); refine box_event ?hg (N := 1) ?hd (cs := #[.int .u8 a0_0, .string a0_1, .string a0_2, .string a0_3, .string a0_4, .bool a0_5, .int .i64 a0_6]) (t := 26) ?hr ?_; (case hd => rfl); (case hg => rfl); (case hr => first | (go_simp; done) | (go_simp; rfl)); intro gb113 hg w12 hbox hb; have BK113 := Aside0.mk (hbox); have GW113 := Aside0.mk ((by rw [hg]; exact (below_size (mvW HB.out)) : w.heap.size ≤ gb113)); have GE113 := Aside0.mk ((by rw [hg]; exact (below_size (mvW HB.out)) : w.heap.size ≤ gb113)); replace HB := Aside0.mk (below_step (mvW HB.out) hb); clear hb hbox hg; obtain ⟨Z13_0, Z13_1, Z13_2, Z13_3, Z13_4, Z13_5, Z13_6⟩ := bc7 BK113.out; obtain ⟨Y13_0, Y13_1, Y13_2, Y13_3, Y13_4, Y13_5, Y13_6⟩ := bf7 BK113.out)))); (go_ret2); (exact ⟨by first | rfl | (simp [errW_none, errW_some] <;> rfl) | (simp [*, errW_none, errW_some] <;> rfl), by repeat (first | (with_reducible first | exact HB.out | apply below_alloc | apply pw_below_drewN | apply below_drew1 | refine below_set ?_ GE113.out) | exact HB.out)⟩)
    · (rw [if_neg c11] at H); (have c11b0 : (a0_1.toList == ([] : List UInt8)) = false := beq_eq_false_iff_ne.mpr c11); (have c11b1 : (a0_1.toList != ([] : List UInt8)) = true := bne_iff_ne.mpr c11); (by_cases c14 : (a0_1.size : Int) ≤ 512)
      · (rw [if_pos c14] at H); (have c14b0 : decide ((a0_1.size : Int) ≤ 512) = true := decide_eq_true c14); (have c14b1 : decide (a0_1.size ≤ 512) = true := decide_eq_true (by omega)); (clear c14); (simp only [Option.some.injEq, Prod.mk.injEq] at H); (obtain ⟨rfl, rfl⟩ := H); (go_enter Try.func30, Try.ntmps30); (go_wp2_with (first | ((with_reducible refine gate_dst (N := 1) rfl ?_); (try (refine gate_guard (by rfl) ?_; dsimp only)); refine box_event ?hg (N := 1) ?hd (cs := #[.int .u8 a0_0, .string a0_1, .string a0_2, .string a0_3, .string a0_4, .bool a0_5, .int .i64 a0_6]) (t := 26) ?hr ?_; (case hd => rfl); (case hg => rfl); (case hr => first | (go_simp; done) | (go_simp; rfl)); intro gb113 hg w15 hbox hb; have BK113 := Aside0.mk (hbox); have GW113 := Aside0.mk ((by rw [hg]; exact (below_size (mvW HB.out)) : w.heap.size ≤ gb113)); have GE113 := Aside0.mk ((by rw [hg]; exact (below_size (mvW HB.out)) : w.heap.size ≤ gb113)); replace HB := Aside0.mk (below_step (mvW HB.out) hb); clear hb hbox hg; obtain ⟨Z16_0, Z16_1, Z16_2, Z16_3, Z16_4, Z16_5, Z16_6⟩ := bc7 BK113.out; obtain ⟨Y16_0, Y16_1, Y16_2, Y16_3, Y16_4, Y16_5, Y16_6⟩ := bf7 BK113.out))); (repeat (go_quiet (first | ((with_reducible refine gate_dst (N := 1) rfl ?_); (try (refine gate_guard (by rfl) ?_; dsimp only)); refine box_event ?hg (N := 1) ?hd (cs := #[.int .u8 a0_0, .string a0_1, .string a0_2, .string a0_3, .string a0_4, .bool a0_5, .int .i64 a0_6]) (t := 26) ?hr ?_; (case hd => rfl); (case hg => rfl); (case hr => first | (go_simp; done) | (go_simp; rfl)); intro gb113 hg w15 hbox hb; have BK113 := Aside0.mk (hbox); have GW113 := Aside0.mk ((by rw [hg]; exact (below_size (mvW HB.out)) : w.heap.size ≤ gb113)); have GE113 := Aside0.mk ((by rw [hg]; exact (below_size (mvW HB.out)) : w.heap.size ≤ gb113)); replace HB := Aside0.mk (below_step (mvW HB.out) hb); clear hb hbox hg; obtain ⟨Z16_0, Z16_1, Z16_2, Z16_3, Z16_4, Z16_5, Z16_6⟩ := bc7 BK113.out; obtain ⟨Y16_0, Y16_1, Y16_2, Y16_3, Y16_4, Y16_5, Y16_6⟩ := bf7 BK113.out)); try go_wp2_with (first | ((with_reducible refine gate_dst (N := 1) rfl ?_); (try (refine gate_guard (by rfl) ?_; dsimp only)); refine box_event ?hg (N := 1) ?hd (cs := #[.int .u8 a0_0, .string a0_1, .string a0_2, .string a0_3, .string a0_4, .bool a0_5, .int .i64 a0_6]) (t := 26) ?hr ?_; (case hd => rfl); (case hg => rfl); (case hr => first | (go_simp; done) | (go_simp; rfl)); intro gb113 hg w15 hbox hb; have BK113 := Aside0.mk (hbox); have GW113 := Aside0.mk ((by rw [hg]; exact (below_size (mvW HB.out)) : w.heap.size ≤ gb113)); have GE113 := Aside0.mk ((by rw [hg]; exact (below_size (mvW HB.out)) : w.heap.size ≤ gb113)); replace HB := Aside0.mk (below_step (mvW HB.out) hb); clear hb hbox hg; obtain ⟨Z16_0, Z16_1, Z16_2, Z16_3, Z16_4, Z16_5, Z16_6⟩ := bc7 BK113.out; obtain ⟨Y16_0, Y16_1, Y16_2, Y16_3, Y16_4, Y16_5, Y16_6⟩ := bf7 BK113.out)))); (go_ret2); (exact ⟨by first | rfl | (simp [errW_none, errW_some] <;> rfl) | (simp [*, errW_none, errW_some] <;> rfl), by repeat (first | (with_reducible first | exact HB.out | apply below_alloc | apply pw_below_drewN | apply below_drew1 | refine below_set ?_ GE113.out) | exact HB.out)⟩)
      · (rw [if_neg c14] at H); (have c14b0 : decide ((a0_1.size : Int) ≤ 512) = false := decide_eq_false c14); (have c14b1 : decide (a0_1.size ≤ 512) = false := decide_eq_false (by omega)); (clear c14); (simp only [Option.some.injEq, Prod.mk.injEq] at H); (obtain ⟨rfl, rfl⟩ := H); (go_enter Try.func30, Try.ntmps30); (go_wp2_with (first | ((with_reducible refine gate_dst (N := 1) rfl ?_); (try (refine gate_guard (by rfl) ?_; dsimp only)); refine box_event ?hg (N := 1) ?hd (cs := #[.int .u8 a0_0, .string a0_1, .string a0_2, .string a0_3, .string a0_4, .bool a0_5, .int .i64 a0_6]) (t := 26) ?hr ?_; (case hd => rfl); (case hg => rfl); (case hr => first | (go_simp; done) | (go_simp; rfl)); intro gb113 hg w17 hbox hb; have BK113 := Aside0.mk (hbox); have GW113 := Aside0.mk ((by rw [hg]; exact (below_size (mvW HB.out)) : w.heap.size ≤ gb113)); have GE113 := Aside0.mk ((by rw [hg]; exact (below_size (mvW HB.out)) : w.heap.size ≤ gb113)); replace HB := Aside0.mk (below_step (mvW HB.out) hb); clear hb hbox hg; obtain ⟨Z18_0, Z18_1, Z18_2, Z18_3, Z18_4, Z18_5, Z18_6⟩ := bc7 BK113.out; obtain ⟨Y18_0, Y18_1, Y18_2, Y18_3, Y18_4, Y18_5, Y18_6⟩ := bf7 BK113.out))); (repeat (go_quiet (first | ((with_reducible refine gate_dst (N := 1) rfl ?_); (try (refine gate_guard (by rfl) ?_; dsimp only)); refine box_event ?hg (N := 1) ?hd (cs := #[.int .u8 a0_0, .string a0_1, .string a0_2, .string a0_3, .string a0_4, .bool a0_5, .int .i64 a0_6]) (t := 26) ?hr ?_; (case hd => rfl); (case hg => rfl); (case hr => first | (go_simp; done) | (go_simp; rfl)); intro gb113 hg w17 hbox hb; have BK113 := Aside0.mk (hbox); have GW113 := Aside0.mk ((by rw [hg]; exact (below_size (mvW HB.out)) : w.heap.size ≤ gb113)); have GE113 := Aside0.mk ((by rw [hg]; exact (below_size (mvW HB.out)) : w.heap.size ≤ gb113)); replace HB := Aside0.mk (below_step (mvW HB.out) hb); clear hb hbox hg; obtain ⟨Z18_0, Z18_1, Z18_2, Z18_3, Z18_4, Z18_5, Z18_6⟩ := bc7 BK113.out; obtain ⟨Y18_0, Y18_1, Y18_2, Y18_3, Y18_4, Y18_5, Y18_6⟩ := bf7 BK113.out)); try go_wp2_with (first | ((with_reducible refine gate_dst (N := 1) rfl ?_); (try (refine gate_guard (by rfl) ?_; dsimp only)); refine box_event ?hg (N := 1) ?hd (cs := #[.int .u8 a0_0, .string a0_1, .string a0_2, .string a0_3, .string a0_4, .bool a0_5, .int .i64 a0_6]) (t := 26) ?hr ?_; (case hd => rfl); (case hg => rfl); (case hr => first | (go_simp; done) | (go_simp; rfl)); intro gb113 hg w17 hbox hb; have BK113 := Aside0.mk (hbox); have GW113 := Aside0.mk ((by rw [hg]; exact (below_size (mvW HB.out)) : w.heap.size ≤ gb113)); have GE113 := Aside0.mk ((by rw [hg]; exact (below_size (mvW HB.out)) : w.heap.size ≤ gb113)); replace HB := Aside0.mk (below_step (mvW HB.out) hb); clear hb hbox hg; obtain ⟨Z18_0, Z18_1, Z18_2, Z18_3, Z18_4, Z18_5, Z18_6⟩ := bc7 BK113.out; obtain ⟨Y18_0, Y18_1, Y18_2, Y18_3, Y18_4, Y18_5, Y18_6⟩ := bf7 BK113.out)))); (go_ret2); (exact ⟨by first | rfl | (simp [errW_none, errW_some] <;> rfl) | (simp [*, errW_none, errW_some] <;> rfl), by repeat (first | (with_reducible first | exact HB.out | apply below_alloc | apply pw_below_drewN | apply below_drew1 | refine below_set ?_ GE113.out) | exact HB.out)⟩)

/-! ### sort_Search: function 63 -/
/-- Go's binary search from i to j. -/
def bsearch (p : Nat → Bool) (i j : Nat) : Nat :=
  if h : i < j then (if p ((i + j) / 2) then bsearch p i ((i + j) / 2) else bsearch p ((i + j) / 2 + 1) j) else i
  termination_by j - i
  decreasing_by all_goals omega
theorem bsearch_done (p : Nat → Bool) (i : Nat) : bsearch p i i = i := by unfold bsearch; rw [dif_neg (by omega)]
theorem bsearch_yes {p : Nat → Bool} {i j : Nat} (h : i < j) (hp : p ((i + j) / 2) = true) : bsearch p i j = bsearch p i ((i + j) / 2) := by rw [bsearch, dif_pos h, if_pos hp]
theorem bsearch_no {p : Nat → Bool} {i j : Nat} (h : i < j) (hp : p ((i + j) / 2) = false) : bsearch p i j = bsearch p ((i + j) / 2 + 1) j := by rw [bsearch, dif_pos h, if_neg (by rw [hp]; simp)]
set_option maxHeartbeats 4000000 in
set_option maxRecDepth 100000 in
theorem search_calls (g : Nat) (cb : Array Value) (n : Nat) (p : Nat → Bool) (w : World) (eg : ∀ args w, (callFunc g args).run Try.prog w = .ok (.enter g args) w) (hsz : n < 4611686018427387904)
    (hf : ∀ (W : World) (i : Nat), Below w.heap.size w W → i < n → Calls Try.prog g (#[.int .i64 i] ++ cb) W fun e w' => e = .returned (.bool (p i)) ∧ Below W.heap.size W w') :
    Calls Try.prog 63 #[.int .i64 n, .func (.func g) #[] cb] w fun e w' => e = .returned (.int .i64 (bsearch p 0 n : Nat)) ∧ Below w.heap.size w w' := by
  have HF : Aside0 _ := ⟨hf⟩
  clear hf
  obtain ⟨r, hr⟩ : ∃ r, r = bsearch p 0 n := ⟨_, rfl⟩
  rw [← hr]
  have HR : Aside0 (bsearch p 0 n = r) := ⟨hr.symm⟩
  clear hr
  go_enter Try.func63, Try.ntmps63
  go_wp2
  go_loopg [5, 6] n (fun kx s5 s6 wr => ∃ (lo hi : Nat), s5 = .int .i64 lo ∧ s6 = .int .i64 hi ∧ lo ≤ hi ∧ hi ≤ n ∧ hi - lo ≤ kx ∧ Aside0 (Below w.heap.size w wr) ∧ Aside0 (bsearch p lo hi = r))
  case atStart => exact ⟨0, n, rfl, rfl, Nat.zero_le _, Nat.le_refl _, by omega, ⟨Below.refl _ _⟩, HR⟩
  case round =>
    obtain ⟨lo, hi, rfl, rfl, hlh, hin, hg, HB, I⟩ := hrel
    by_cases hlt : lo < hi
    · have hc := HF.out wr ((lo + hi) / 2) HB.out (by omega)
      rw [show (((lo + hi) / 2 : Nat) : Int) = ((lo : Int) + (hi : Int)) / 2 by omega] at hc
      cases hp : p ((lo + hi) / 2) <;> rw [hp] at hc
      · have HP : Aside0 (p ((lo + hi) / 2) = false) := ⟨hp⟩
        clear hp
        go_wp2_with (go_at_fn g; refine hc.mono ?_; rintro e w1 ⟨rfl, hb1⟩)
        go_roundg (hi - ((lo + hi) / 2 + 1))
        case measure => omega
        case rel => exact ⟨(lo + hi) / 2 + 1, hi, by rw [show ((lo : Int) + (hi : Int)) / 2 + 1 = (((lo + hi) / 2 + 1 : Nat) : Int) by omega], rfl, by omega, hin, Nat.le_refl _, ⟨below_step HB.out hb1⟩, ⟨(bsearch_no hlt HP.out).symm.trans I.out⟩⟩
      · have HP : Aside0 (p ((lo + hi) / 2) = true) := ⟨hp⟩
        clear hp
        go_wp2_with (go_at_fn g; refine hc.mono ?_; rintro e w1 ⟨rfl, hb1⟩)
        go_roundg ((lo + hi) / 2 - lo)
        case measure => omega
        case rel => exact ⟨lo, (lo + hi) / 2, rfl, by rw [show ((lo : Int) + (hi : Int)) / 2 = (((lo + hi) / 2 : Nat) : Int) by omega], by omega, by omega, Nat.le_refl _, ⟨below_step HB.out hb1⟩, ⟨(bsearch_yes hlt HP.out).symm.trans I.out⟩⟩
    · obtain rfl : hi = lo := by omega
      have e := I.out
      rw [bsearch_done] at e
      subst e
      go_wp2
      go_ret
      exact ⟨rfl, HB.out⟩
theorem bsearch_le0 (p : Nat → Bool) : ∀ (d i j : Nat), j - i = d → i ≤ j → i ≤ bsearch p i j ∧ bsearch p i j ≤ j := by
  intro d
  induction d using Nat.strongRecOn with
  | _ d ih =>
    intro i j hd hij
    by_cases h : i < j
    · cases hp : p ((i + j) / 2)
      · rw [bsearch_no h hp]
        have := ih (j - ((i + j) / 2 + 1)) (by omega) ((i + j) / 2 + 1) j rfl (by omega)
        omega
      · rw [bsearch_yes h hp]
        have := ih ((i + j) / 2 - i) (by omega) i ((i + j) / 2) rfl (by omega)
        omega
    · obtain rfl : i = j := by omega
      rw [bsearch_done]
      omega

/-! ### cells_At: function 53 -/
/-- Is a text greater than another one? -/
def cells_At_gt (a b : ByteArray) : Bool := Op.bytesLess b.toList a.toList
def cells_At.f (k : Nat) (l0 : List S42) (a1 : ByteArray) : Option (Int) := (cells_Right.f k l0).bind fun t => if t = true then (if l0.length < 4611686018427387904 then some (((bsearch (fun i => cells_At_gt (rd_T42 l0 i).f0 a1) 0 l0.length : Nat) : Int) - 1) else none) else some (-1)
theorem cells_At.mono : ∀ a0 a1 k, LeO (cells_At.f k a0 a1) (cells_At.f (k + 1) a0 a1) := by
  intro a0 a1 k
  exact LeO.bind (cells_Right.mono _ _) (fun _ => LeO.refl _)
set_option maxHeartbeats 4000000 in
theorem cells_At_clo_calls (ba bx : Nat) (A0 : Option Addr) (c : Nat) (l : List S42) (x : ByteArray) (i : Nat) (W : World) (hi : i < l.length) (hr : Kd.C k42 W A0 l.length l)
    (ha : W.cell? ⟨ba, 0, none⟩ = some (.slice A0 l.length c)) (hx : W.cell? ⟨bx, 0, none⟩ = some (.string x)) :
    Calls Try.prog 76 (#[.int .i64 i] ++ #[.pointer (some ⟨ba, 0, none⟩), .pointer (some ⟨bx, 0, none⟩)]) W fun e w' => e = .returned (.bool (cells_At_gt (rd_T42 l i).f0 x)) ∧ Below W.heap.size W w' := by
  obtain ⟨ad, rfl, hc, _⟩ := at_T42 hr i (by omega) (by omega)
  rw [Int.toNat_natCast] at hc
  generalize rd_T42 l i = y at hc ⊢
  have hiz : (i : Int) < (l.length : Int) := by omega
  have hu := Try.underlying42
  clear hr
  go_enter Try.func76, Try.ntmps76
  go_wp2
  go_region
  all_goals go_wp2
  all_goals go_ret
  all_goals exact ⟨by first | rfl | simp, below_drew1 (Below.refl _ _)⟩
set_option maxHeartbeats 4000000 in
theorem cells_At_above (A0 : Option Addr) (n c0 : Nat) (x : ByteArray) (w : World) : Calls Try.prog 62 #[.slice A0 n c0, .string x] w fun e w' =>
    e = .returned (.func (.func 76) #[] #[.pointer (some ⟨w.heap.size, 0, none⟩), .pointer (some ⟨w.heap.size + 1, 0, none⟩)]) ∧ w' = (w.alloc (.cells #[.slice A0 n c0] 89)).alloc (.cells #[.string x] 9) := by
  have hmf : ∀ (fn : Fn) (first cap : Array Value) (w : World), (Instr.makeFunc fn first cap).run Try.prog w = .ok (.func fn first cap) w := fun _ _ _ _ => rfl
  go_enter Try.func62, Try.ntmps62
  go_wp2
  go_ret
  exact ⟨rfl, rfl⟩
set_option maxHeartbeats 4000000 in
set_option maxRecDepth 100000 in
theorem cells_At.calls (k : Nat) (A0 : Option Addr) (c0 : Nat) (l0 : List S42) (a1 : ByteArray) (r : Int) (w : World) (hr0 : Kd.C k42 w A0 l0.length l0) (hc0 : l0.length ≤ c0) (h : cells_At.f k l0 a1 = some r) :
    Calls Try.prog 53 #[.slice A0 l0.length c0, .string a1] w fun e w' => e = .returned (.int .i64 r) ∧ Below w.heap.size w w' := by
  obtain ⟨t, ht, h⟩ := Option.bind_eq_some_iff.1 h
  have hR := cells_Right.calls k A0 c0 l0 t w hr0 hc0 ht
  cases t
  · rw [if_neg (by simp)] at h
    obtain rfl := Option.some.inj h
    go_enter Try.func53, Try.ntmps53
    go_wp2_with (go_at_call 28; refine hR.mono ?_; rintro e w1 ⟨rfl, hb⟩; have HB := Aside0.mk hb; clear hb)
    go_ret
    exact ⟨rfl, HB.out⟩
  · rw [if_pos rfl] at h
    have hlen : l0.length < 4611686018427387904 := by
      by_cases hl : l0.length < 4611686018427387904
      · exact hl
      · rw [if_neg hl] at h; cases h
    rw [if_pos hlen] at h
    obtain rfl := Option.some.inj h
    clear h
    have eg : ∀ args w, (callFunc 76 args).run Try.prog w = .ok (.enter 76 args) w := enters_of Try.func76 (by kernel_rfl) rfl
    have hS : ∀ w1, Below w.heap.size w w1 → Calls Try.prog 63 #[.int .i64 l0.length, .func (.func 76) #[] #[.pointer (some ⟨w1.heap.size, 0, none⟩), .pointer (some ⟨w1.heap.size + 1, 0, none⟩)]] ((w1.alloc (.cells #[.slice A0 l0.length c0] 89)).alloc (.cells #[.string a1] 9))
        fun e w' => e = .returned (.int .i64 (bsearch (fun i => cells_At_gt (rd_T42 l0 i).f0 a1) 0 l0.length : Nat)) ∧ Below w.heap.size w w' := by
      intro w1 hb1
      obtain ⟨W0, hW0⟩ : ∃ W0, W0 = (w1.alloc (.cells #[.slice A0 l0.length c0] 89)).alloc (.cells #[.string a1] 9) := ⟨_, rfl⟩
      have hB0 : Below w.heap.size w W0 := by rw [hW0]; exact below_alloc (below_alloc hb1 _) _
      have ca : W0.cell? ⟨w1.heap.size, 0, none⟩ = some (.slice A0 l0.length c0) := by
        rw [hW0]; exact (blk_cell (blk_alloc (blk_new w1 _) _) 0).trans rfl
      have cx : W0.cell? ⟨w1.heap.size + 1, 0, none⟩ = some (.string a1) := by
        have hb := blk_new (w1.alloc (.cells #[.slice A0 l0.length c0] 89)) (.cells #[.string a1] 9)
        rw [World.size_alloc] at hb
        rw [hW0]
        exact (blk_cell hb 0).trans rfl
      rw [← hW0]
      refine (search_calls 76 #[.pointer (some ⟨w1.heap.size, 0, none⟩), .pointer (some ⟨w1.heap.size + 1, 0, none⟩)] l0.length (fun i => cells_At_gt (rd_T42 l0 i).f0 a1) W0 eg hlen
        (fun W i hB hi => cells_At_clo_calls w1.heap.size (w1.heap.size + 1) A0 c0 l0 a1 i W hi (Kd.C_below (Kd.C_below hr0 hB0) hB) (pw_cell_below hB ca) (pw_cell_below hB cx))).mono ?_
      rintro e w' ⟨rfl, hb⟩
      exact ⟨rfl, below_step hB0 hb⟩
    have hle := (bsearch_le0 (fun i => cells_At_gt (rd_T42 l0 i).f0 a1) l0.length 0 l0.length rfl (Nat.zero_le _)).2
    have HS := Aside0.mk hS
    generalize bsearch (fun i => cells_At_gt (rd_T42 l0 i).f0 a1) 0 l0.length = r at HS hle ⊢
    have hw : wrap64 ((r : Int) - 1) = (r : Int) - 1 := by unfold wrap64; omega
    clear hS hr0 hle hlen
    go_enter Try.func53, Try.ntmps53
    go_wp2_with (go_at_call 28; refine hR.mono ?_; rintro e w1 ⟨rfl, hb⟩; have HB := Aside0.mk hb; clear hb)
    refine (cells_At_above A0 l0.length c0 a1 w1).mono ?_
    rintro e w2 ⟨rfl, rfl⟩
    go_wp2_with (go_at_call 63; refine (HS.out w1 HB.out).mono ?_; rintro e w3 ⟨rfl, hb⟩; have HB2 := Aside0.mk hb; clear hb)
    go_ret
    exact ⟨by show Ending.returned (.int .i64 (wrap64 ((r : Int) - 1))) = _; rw [hw], HB2.out⟩

/-! ### cells_Find: function 32 -/
def cells_Find.f (k : Nat) (l0 : List (S42)) (a1 : ByteArray) : Option (ByteArray × Bool) := (cells_At.f k l0 a1).bind fun t114 => (if t114 ≥ 0 then (if 0 ≤ t114 then (if t114 < (l0.length : Int) then (if ((rd_T42 l0 t114).f0).toList = a1.toList then (some ((rd_T42 l0 t114).f1, true)) else (some ((⟨#[]⟩ : ByteArray), false))) else (none)) else (none)) else (some ((⟨#[]⟩ : ByteArray), false)))
theorem cells_Find.mono : ∀ a0 a1 k, LeO (cells_Find.f k a0 a1) (cells_Find.f (k + 1) a0 a1) := by
  intro a0 a1 k
  unfold cells_Find.f
  repeat' first
      | (with_reducible exact cells_At.mono _ _ _)
      | (with_reducible exact LeO.refl _)
      | (with_reducible exact LeO.none _)
      | (with_reducible refine LeO.ite ?_ ?_)
      | (with_reducible refine LeO.bind ?_ (fun _ => ?_))
      | exact cells_At.mono _ _ _
      | exact LeO.none _
      | refine LeO.ite ?_ ?_
      | refine LeO.bind ?_ (fun _ => ?_)
set_option maxHeartbeats 8000000 in
set_option maxRecDepth 100000 in
theorem cells_Find.calls (k : Nat) (A0 : Option Addr) (c0 : Nat) (l0 : List (S42)) (a1 : ByteArray) (r1 : ByteArray) (r2 : Bool) (w : World) (hr0 : Kd.C k42 w A0 l0.length l0) (hc0 : l0.length ≤ c0) (h : cells_Find.f k l0 a1 = some (r1, r2)) :
    Calls Try.prog 32 #[.slice A0 l0.length c0, .string a1] w fun e w' => e = .returned (.tuple #[.string r1, .bool r2]) ∧ Below w.heap.size w w' := by
  (have HR0 := Aside0.mk hr0); (have HC0 := Aside0.mk hc0); (clear hr0 hc0); (have HB := Aside0.mk (Below.refl w.heap.size w)); (have H : ((cells_At.f k l0 a1).bind fun t114 => (if t114 ≥ 0 then (if 0 ≤ t114 then (if t114 < (l0.length : Int) then (if ((rd_T42 l0 t114).f0).toList = a1.toList then (some ((rd_T42 l0 t114).f1, true)) else (some ((⟨#[]⟩ : ByteArray), false))) else (none)) else (none)) else (some ((⟨#[]⟩ : ByteArray), false)))) = some (r1, r2) := h); (clear h); (replace H := Option.bind_eq_some_iff.mp H); (obtain ⟨t114, A30, H⟩ := H); (replace H : (if t114 ≥ 0 then (if 0 ≤ t114 then (if t114 < (l0.length : Int) then (if ((rd_T42 l0 t114).f0).toList = a1.toList then (some ((rd_T42 l0 t114).f1, true)) else (some ((⟨#[]⟩ : ByteArray), false))) else (none)) else (none)) else (some ((⟨#[]⟩ : ByteArray), false))) = some (r1, r2) := H); (have A3 := Aside0.mk A30); (clear A30); (by_cases c4 : t114 ≥ 0)
  · (rw [if_pos c4] at H); (have c4b0 : decide (0 ≤ t114) = true := decide_eq_true c4); (clear c4); (by_cases c5 : 0 ≤ t114)
    · (rw [if_pos c5] at H); (have c5b0 : decide (0 ≤ t114) = true := decide_eq_true c5); (clear c5); (by_cases c6 : t114 < (l0.length : Int))
      · (rw [if_pos c6] at H); (have c6b0 : decide (t114 < (l0.length : Int)) = true := decide_eq_true c6); (clear c6); (by_cases c7 : ((rd_T42 l0 t114).f0).toList = a1.toList)
        · (rw [if_pos c7] at H); (have c7b0 : (((rd_T42 l0 t114).f0).toList == a1.toList) = true := beq_iff_eq.mpr c7); (have c7b1 : (((rd_T42 l0 t114).f0).toList != a1.toList) = false := bne_eq_false_iff_eq.mpr c7); (clear c7); (simp only [Option.some.injEq, Prod.mk.injEq] at H); (obtain ⟨rfl, rfl⟩ := H); (go_enter Try.func32, Try.ntmps32); (go_wp2_with (first | ((with_reducible refine gate_callee (f := 53) rfl ?_); refine goesL_ (some 9) rfl rfl Try.func53 (by kernel_rfl) rfl #[.slice A0 l0.length c0, .string a1] rfl (by (try simp only [List.map_toArray, List.map_cons, List.map_nil]); first | done | rfl | (simp only [List.length_drop, List.length_take]; rfl) | (simp only [*]; rfl)) ?_; (with_reducible refine (cells_At.calls k _ _ l0 a1 t114 _ ?side1 ?side2 A3.out).mono ?_); (case side1 => repeat (first | exact HR0.out | (with_reducible refine Kd.C_alloc ?_ _) | (with_reducible refine Kd.C_drewN ?_ _) | (with_reducible refine Kd.C_drew ?_))); (case side2 => exact HC0.out); rintro e w8 ⟨rfl, hb⟩; refine ⟨_, rfl, ?_⟩; replace HB := Aside0.mk (below_step (mvW HB.out) hb); clear hb; have p115 : 0 ≤ (t114 : Int) := of_decide_eq_true (by first | (with_reducible assumption) | assumption); have q115 : t114 < (l0.length : Int) := of_decide_eq_true (by first | (with_reducible assumption) | assumption); obtain ⟨ad115, e115, hx115_0, hx115_1⟩ := at_T42 HR0.out t114 p115 q115; cases e115; replace hx115_0 := (HB.out.cell (World.block_lt_of_cell? w _ hx115_0)).trans hx115_0; replace hx115_1 := (HB.out.cell (World.block_lt_of_cell? w _ hx115_1)).trans hx115_1; replace p115 := eq_true p115; replace q115 := eq_true q115; have p116 : 0 ≤ (t114 : Int) := of_decide_eq_true (by first | (with_reducible assumption) | assumption); have q116 : t114 < (l0.length : Int) := of_decide_eq_true (by first | (with_reducible assumption) | assumption); obtain ⟨ad116, e116, hx116_0, hx116_1⟩ := at_T42 HR0.out t114 p116 q116; obtain rfl : ad115 = ad116 := (by injection e116); replace hx116_0 := (HB.out.cell (World.block_lt_of_cell? w _ hx116_0)).trans hx116_0; replace hx116_1 := (HB.out.cell (World.block_lt_of_cell? w _ hx116_1)).trans hx116_1; replace p116 := eq_true p116; replace q116 := eq_true q116))); (go_ret2); (exact ⟨by first | rfl | (simp [errW_none, errW_some] <;> rfl) | (simp [*, errW_none, errW_some] <;> rfl), by repeat (first | (with_reducible first | exact HB.out | apply below_alloc | apply pw_below_drewN | apply below_drew1) | exact HB.out)⟩)
        · (rw [if_neg c7] at H); (have c7b0 : (((rd_T42 l0 t114).f0).toList == a1.toList) = false := beq_eq_false_iff_ne.mpr c7); (have c7b1 : (((rd_T42 l0 t114).f0).toList != a1.toList) = true := bne_iff_ne.mpr c7); (simp only [Option.some.injEq, Prod.mk.injEq] at H); (obtain ⟨rfl, rfl⟩ := H); (go_enter Try.func32, Try.ntmps32); (go_wp2_with (first | ((with_reducible refine gate_callee (f := 53) rfl ?_); refine goesL_ (some 9) rfl rfl Try.func53 (by kernel_rfl) rfl #[.slice A0 l0.length c0, .string a1] rfl (by (try simp only [List.map_toArray, List.map_cons, List.map_nil]); first | done | rfl | (simp only [List.length_drop, List.length_take]; rfl) | (simp only [*]; rfl)) ?_; (with_reducible refine (cells_At.calls k _ _ l0 a1 t114 _ ?side1 ?side2 A3.out).mono ?_); (case side1 => repeat (first | exact HR0.out | (with_reducible refine Kd.C_alloc ?_ _) | (with_reducible refine Kd.C_drewN ?_ _) | (with_reducible refine Kd.C_drew ?_))); (case side2 => exact HC0.out); rintro e w9 ⟨rfl, hb⟩; refine ⟨_, rfl, ?_⟩; replace HB := Aside0.mk (below_step (mvW HB.out) hb); clear hb; have p115 : 0 ≤ (t114 : Int) := of_decide_eq_true (by first | (with_reducible assumption) | assumption); have q115 : t114 < (l0.length : Int) := of_decide_eq_true (by first | (with_reducible assumption) | assumption); obtain ⟨ad115, e115, hx115_0, hx115_1⟩ := at_T42 HR0.out t114 p115 q115; cases e115; replace hx115_0 := (HB.out.cell (World.block_lt_of_cell? w _ hx115_0)).trans hx115_0; replace hx115_1 := (HB.out.cell (World.block_lt_of_cell? w _ hx115_1)).trans hx115_1; replace p115 := eq_true p115; replace q115 := eq_true q115))); (go_ret2); (exact ⟨by first | rfl | (simp [errW_none, errW_some] <;> rfl) | (simp [*, errW_none, errW_some] <;> rfl), by repeat (first | (with_reducible first | exact HB.out | apply below_alloc | apply pw_below_drewN | apply below_drew1) | exact HB.out)⟩)
      · (rw [if_neg c6] at H); (exact absurd H (by simp))
    · (rw [if_neg c5] at H); (exact absurd H (by simp))
  · (rw [if_neg c4] at H); (have c4b0 : decide (0 ≤ t114) = false := decide_eq_false c4); (clear c4); (simp only [Option.some.injEq, Prod.mk.injEq] at H); (obtain ⟨rfl, rfl⟩ := H); (go_enter Try.func32, Try.ntmps32); (go_wp2_with (first | ((with_reducible refine gate_callee (f := 53) rfl ?_); refine goesL_ (some 9) rfl rfl Try.func53 (by kernel_rfl) rfl #[.slice A0 l0.length c0, .string a1] rfl (by (try simp only [List.map_toArray, List.map_cons, List.map_nil]); first | done | rfl | (simp only [List.length_drop, List.length_take]; rfl) | (simp only [*]; rfl)) ?_; (with_reducible refine (cells_At.calls k _ _ l0 a1 t114 _ ?side1 ?side2 A3.out).mono ?_); (case side1 => repeat (first | exact HR0.out | (with_reducible refine Kd.C_alloc ?_ _) | (with_reducible refine Kd.C_drewN ?_ _) | (with_reducible refine Kd.C_drew ?_))); (case side2 => exact HC0.out); rintro e w10 ⟨rfl, hb⟩; refine ⟨_, rfl, ?_⟩; replace HB := Aside0.mk (below_step (mvW HB.out) hb); (try clear hb); (try clear hb2); (try clear hk); (try clear hi)))); (go_ret2); (exact ⟨by first | rfl | (simp [errW_none, errW_some] <;> rfl) | (simp [*, errW_none, errW_some] <;> rfl), by repeat (first | (with_reducible first | exact HB.out | apply below_alloc | apply pw_below_drewN | apply below_drew1) | exact HB.out)⟩)

/-! ### api_Cell_50: function 50 -/
def api_Cell_50.f (l0 : List (S42)) : Option (List (S42)) := if l0.length < 4398046511104 then some l0 else none
set_option maxHeartbeats 4000000 in
set_option maxRecDepth 100000 in
theorem api_Cell_50.calls (A0 : Option Addr) (c0 : Nat) (l0 : List (S42)) (r : List (S42)) (w : World) (hr0 : Kd.C k42 w A0 l0.length l0) (hc0 : l0.length ≤ c0) (h : api_Cell_50.f l0 = some r) :
    Calls Try.prog 50 #[.slice A0 l0.length c0] w fun e w' => ∃ v0_ : Value, e = .returned (v0_) ∧ Kd.R k42 42 w' w.heap.size (fun _ => True) v0_ r ∧ Below w.heap.size w w' := by
  unfold api_Cell_50.f at h
  by_cases hl : l0.length < 4398046511104
  · rw [if_pos hl] at h
    obtain rfl := Option.some.inj h
    have HL := Aside0.mk hl
    have HR := Aside0.mk hr0
    clear h hl hr0
    rcases A0 with _ | ad
    · obtain rfl : l0 = [] := by
        rcases Nat.eq_zero_or_pos l0.length with h0 | h0
        · exact List.eq_nil_of_length_eq_zero h0
        · obtain ⟨ad, h, _⟩ := HR.out.2.2 h0
          cases h
      have he := fun w => Lib.run_eql_slice_nil (P := Try.prog) w 22 42 none ([] : List (S42)).length c0 0 0 Try.underlying22
      simp only [Option.isNone, List.length_nil] at he
      go_enter Try.func50, Try.ntmps50
      go_wp2
      go_ret
      exact ⟨_, rfl, Kd.R_nil _ _ _ _ _, Below.refl _ _⟩
    · have he := fun w => Lib.run_eql_slice_nil (P := Try.prog) w 22 42 (some ad) l0.length c0 0 0 Try.underlying22
      simp only [Option.isNone, List.length_nil] at he
      go_enter Try.func50, Try.ntmps50
      go_wp2_with (first | ((with_reducible refine gate_dst (N := 5) rfl ?_); refine Kd.R_lit k42 _ 42 ?hg (N := 5) ?hd (xs := ([] : List (S42))) (inner := []) (ok := fun _ => True) (okp := fun _ => True) ?hr ?hp (fun _ hk => hk) trivial (Below.refl _ _) (Nat.le_refl _) (by simp) ?_; (case hd => rfl); (case hg => rfl); (case hr => first | (go_simp; done) | (go_simp; rfl)); (case hp => exact Reps.none _ _); intro v5 w5 ho5 hb5 hg_ hnew_; clear hg_ hnew_; have HO := Aside0.mk ho5; have HB := Aside0.mk hb5; clear ho5 hb5) | ((with_reducible refine gate_builtin (b := .append) (xs := #[.tmp 5, .tmp 6]) rfl ?_); at_builtin; refine Kd.R_append_rows k42 (w0 := w) w.heap.size rfl (.tmp 5) (.tmp 6) 22 42 (.agg #[(.string ⟨#[]⟩), (.string ⟨#[]⟩)]) 32 rfl Try.underlying22 info42 rfl (by decide) (by omega) v5 ([] : List (S42)) l0 _ _ _ (fun _ => True) (fun _ => False) rfl rfl ?aO ?aR (fun _ _ h => h) (fun _ h => h.elim) ?aF ?aB ?aS ?aL ?_; (case aO => exact HO.out); (case aR => exact Kd.C_below HR.out HB.out); (case aF => exact fun _ _ => trivial); (case aB => exact HB.out); (case aS => exact below_size HB.out); (case aL => have := HL.out; simp only [List.length_nil]; omega); intro v6 w6 ho6 hb6 hg6 hat6; rw [List.nil_append] at ho6; have HO6 := Aside0.mk ho6; have HB6 := Aside0.mk hb6; clear ho6 hb6 hg6 hat6))
      go_ret
      exact ⟨_, rfl, HO6.out, HB6.out⟩
  · rw [if_neg hl] at h
    cases h

end Go.Proofs.Ytoggblomknemoaa.S
