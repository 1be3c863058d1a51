-- PRINTED by print.py (a twelfth state) out of the translation. Not trusted: Lean checks it.
import Derived.Test.YtmfaopjfdedheaaMv
import Derived.Test.YtmfaopjfdedheaaAx0
import Derived.Test.YtmfaopjfdedheaaAx2
import Derived.Test.YtmfaopjfdedheaaAx4
namespace Go.Proofs.Ytmfaopjfdedheaa.A
open Go.RowKit Go.Proofs.YtmfaopjfdedheaaW Go.Proofs.YtmfaopjfdedheaaW.PrintWords Go.Proofs.YtmfaopjfdedheaaW.PrintLast Go.Proofs.YtmfaopjfdedheaaW.PrintMore
attribute [local go_sem] max2_int min2_int max_two min_two max_three min_three max_four min_four   -- for this text's walks alone
set_option linter.unusedVariables false
set_option linter.unusedSimpArgs false

/-! ### merge_Beside: function 7 -/
def merge_Beside.f (k : Nat) (a0_0 : Int) (a0_1 : Int) (a0_2 : Int) (a0_3 : ByteArray) (a0_4 : ByteArray) (a0_5 : Bool) (a0_6 : Int) (a0_7 : Int) (l0_8 : List Int) (l0_9 : List (S42)) (a1_0 : Int) (a1_1 : Int) (a1_2 : Int) (a1_3 : ByteArray) (a1_4 : ByteArray) (a1_5 : Bool) (a1_6 : Int) (a1_7 : Int) (l1_8 : List Int) (l1_9 : List (S42)) : Option (Bool) := (page_Check.f k a0_0 a0_1 a0_2 a0_3 a0_4 a0_5 a0_6 a0_7 l0_8 l0_9).bind fun t148 => ((page_Check.f k a1_0 a1_1 a1_2 a1_3 a1_4 a1_5 a1_6 a1_7 l1_8 l1_9).bind fun t149 => ((api_Errno.f k 0 (([t148, t149] : List Int))).bind fun t153 => (if t153 = true then ((merge_every_bool.f k true (([(a0_2 == a1_2), (a0_1 == a1_0), (a1_1 != a0_0), a0_5, (a0_4.toList == a1_3.toList)] : List Bool))).bind fun t157 => (some t157)) else (some false))))
theorem merge_Beside.mono : ∀ a0 a1 a2 a3 a4 a5 a6 a7 a8 a9 a10 a11 a12 a13 a14 a15 a16 a17 a18 a19 k, LeO (merge_Beside.f k a0 a1 a2 a3 a4 a5 a6 a7 a8 a9 a10 a11 a12 a13 a14 a15 a16 a17 a18 a19) (merge_Beside.f (k + 1) a0 a1 a2 a3 a4 a5 a6 a7 a8 a9 a10 a11 a12 a13 a14 a15 a16 a17 a18 a19) := by
  intro a0 a1 a2 a3 a4 a5 a6 a7 a8 a9 a10 a11 a12 a13 a14 a15 a16 a17 a18 a19 k
  unfold merge_Beside.f
  repeat' first
      | (with_reducible exact api_Errno.mono _ _ _)
      | (with_reducible exact merge_every_bool.mono _ _ _)
      | (with_reducible exact page_Check.mono _ _ _ _ _ _ _ _ _ _ _)
      | (with_reducible exact LeO.refl _)
      | (with_reducible exact LeO.none _)
      | (with_reducible refine LeO.ite ?_ ?_)
      | (with_reducible refine LeO.bind ?_ (fun _ => ?_))
      | exact api_Errno.mono _ _ _
      | exact merge_every_bool.mono _ _ _
      | exact page_Check.mono _ _ _ _ _ _ _ _ _ _ _
      | exact LeO.none _
      | refine LeO.ite ?_ ?_
      | refine LeO.bind ?_ (fun _ => ?_)
def merge_Beside.T1 : Bool × List (List Nat × List Nat) := (true, [([], []), ([0], [0]), ([], []), ([2, 1], [2]), ([1, 3], [1, 3]), ([4, 3], [4]), ([5, 5], [5]), ([6], [6]), ([7, 6], [6, 7]), ([6], [6]), ([9, 6], [6, 9]), ([8, 10, 6], [6, 8, 10]), ([6], [6]), ([12, 6], [6, 12]), ([6], [6]), ([14, 6], [6, 14]), ([13, 15, 6], [6, 13, 15]), ([6], [6]), ([17, 6], [6, 17]), ([6], [6]), ([19, 6], [6, 19]), ([18, 20, 6], [6, 18, 20]), ([6], [6]), ([22, 6], [6, 22]), ([6], [6]), ([24, 6], [6, 24]), ([6], [6]), ([26, 6], [6, 26]), ([25, 27, 6], [6, 25, 27]), ([11, 16, 21, 23, 28, 6], [6, 11, 16, 21, 23, 28]), ([29, 6, 6], [6, 29]), ([6, 30], [6, 30]), ([31, 30, 0, 1, 2, 3, 4, 5, 6, 7, 8, 9, 10, 11, 12, 13, 14, 15, 16, 17, 18, 19, 20, 21, 22, 23, 24, 25, 26, 27, 28, 29, 30, 31], [31])])
def merge_Beside.B1 : List Nat := [0, 1, 0, 7, 15, 31, 63, 127, 255, 127, 639, 2047, 127, 4223, 127, 16511, 61567, 127, 131199, 127, 524415, 1966207, 127, 4194431, 127, 16777343, 127, 67108991, 251658367, 536870911, 1073741823, 2147483647, 4294967295]
theorem merge_Beside.tab1 : rtab .any (opsOf Try.f7 1) = merge_Beside.T1 := by kernel_rfl
theorem merge_Beside.bits1 : waitsOk merge_Beside.T1.2 merge_Beside.B1 = true := by kernel_rfl
set_option maxHeartbeats 8000000 in
set_option maxRecDepth 100000 in
theorem merge_Beside.calls (k : Nat) (a0_0 : Int) (a0_1 : Int) (a0_2 : Int) (a0_3 : ByteArray) (a0_4 : ByteArray) (a0_5 : Bool) (a0_6 : Int) (a0_7 : Int) (A0_8 : Option Addr) (c0_8 : Nat) (l0_8 : List Int) (A0_9 : Option Addr) (c0_9 : Nat) (l0_9 : List (S42)) (a1_0 : Int) (a1_1 : Int) (a1_2 : Int) (a1_3 : ByteArray) (a1_4 : ByteArray) (a1_5 : Bool) (a1_6 : Int) (a1_7 : Int) (A1_8 : Option Addr) (c1_8 : Nat) (l1_8 : List Int) (A1_9 : Option Addr) (c1_9 : Nat) (l1_9 : List (S42)) (r : Bool) (w : World) (hr0_8 : Kd.C (Kd.int .u64) w A0_8 l0_8.length l0_8) (hc0_8 : l0_8.length ≤ c0_8) (hr0_9 : Kd.C k42 w A0_9 l0_9.length l0_9) (hc0_9 : l0_9.length ≤ c0_9) (hr1_8 : Kd.C (Kd.int .u64) w A1_8 l1_8.length l1_8) (hc1_8 : l1_8.length ≤ c1_8) (hr1_9 : Kd.C k42 w A1_9 l1_9.length l1_9) (hc1_9 : l1_9.length ≤ c1_9) (h : merge_Beside.f k a0_0 a0_1 a0_2 a0_3 a0_4 a0_5 a0_6 a0_7 l0_8 l0_9 a1_0 a1_1 a1_2 a1_3 a1_4 a1_5 a1_6 a1_7 l1_8 l1_9 = some r) :
    Calls Try.prog 7 #[.agg #[.int .u64 a0_0, .int .u64 a0_1, .int .u8 a0_2, .string a0_3, .string a0_4, .bool a0_5, .int .u64 a0_6, .int .u64 a0_7, .slice A0_8 l0_8.length c0_8, .slice A0_9 l0_9.length c0_9], .agg #[.int .u64 a1_0, .int .u64 a1_1, .int .u8 a1_2, .string a1_3, .string a1_4, .bool a1_5, .int .u64 a1_6, .int .u64 a1_7, .slice A1_8 l1_8.length c1_8, .slice A1_9 l1_9.length c1_9]] w fun e w' => e = .returned (.bool r) ∧ Below w.heap.size w w' := by
  (have hu28 := Try.underlying28); (have HR0_8 := Aside0.mk hr0_8); (have HC0_8 := Aside0.mk hc0_8); (clear hr0_8 hc0_8); (have HR0_9 := Aside0.mk hr0_9); (have HC0_9 := Aside0.mk hc0_9); (clear hr0_9 hc0_9); (have HR1_8 := Aside0.mk hr1_8); (have HC1_8 := Aside0.mk hc1_8); (clear hr1_8 hc1_8); (have HR1_9 := Aside0.mk hr1_9); (have HC1_9 := Aside0.mk hc1_9); (clear hr1_9 hc1_9); (have HB := Aside0.mk (Below.refl w.heap.size w)); (have H : ((page_Check.f k a0_0 a0_1 a0_2 a0_3 a0_4 a0_5 a0_6 a0_7 l0_8 l0_9).bind fun t148 => ((page_Check.f k a1_0 a1_1 a1_2 a1_3 a1_4 a1_5 a1_6 a1_7 l1_8 l1_9).bind fun t149 => ((api_Errno.f k 0 (([t148, t149] : List Int))).bind fun t153 => (if t153 = true then ((merge_every_bool.f k true (([(a0_2 == a1_2), (a0_1 == a1_0), (a1_1 != a0_0), a0_5, (a0_4.toList == a1_3.toList)] : List Bool))).bind fun t157 => (some t157)) else (some false))))) = some r := h); (clear h); (replace H := Option.bind_eq_some_iff.mp H); (obtain ⟨t148, A30, H⟩ := H); (replace H : ((page_Check.f k a1_0 a1_1 a1_2 a1_3 a1_4 a1_5 a1_6 a1_7 l1_8 l1_9).bind fun t149 => ((api_Errno.f k 0 (([t148, t149] : List Int))).bind fun t153 => (if t153 = true then ((merge_every_bool.f k true (([(a0_2 == a1_2), (a0_1 == a1_0), (a1_1 != a0_0), a0_5, (a0_4.toList == a1_3.toList)] : List Bool))).bind fun t157 => (some t157)) else (some false)))) = some r := H); (have A3 := Aside0.mk A30); (clear A30); (replace H := Option.bind_eq_some_iff.mp H); (obtain ⟨t149, A40, H⟩ := H); (replace H : ((api_Errno.f k 0 (([t148, t149] : List Int))).bind fun t153 => (if t153 = true then ((merge_every_bool.f k true (([(a0_2 == a1_2), (a0_1 == a1_0), (a1_1 != a0_0), a0_5, (a0_4.toList == a1_3.toList)] : List Bool))).bind fun t157 => (some t157)) else (some false))) = some r := H); (have A4 := Aside0.mk A40); (clear A40); (obtain ⟨y150, hy150⟩ : ∃ y_ : List Int, y_ = (([t148, t149] : List Int)) := ⟨_, rfl⟩); (replace H : ((api_Errno.f k 0 y150).bind fun t153 => (if t153 = true then ((merge_every_bool.f k true (([(a0_2 == a1_2), (a0_1 == a1_0), (a1_1 != a0_0), a0_5, (a0_4.toList == a1_3.toList)] : List Bool))).bind fun t157 => (some t157)) else (some false))) = some r := by first | (rw [hy150]; with_reducible exact H) | (have H2_ := (Option.bind_some _ _).symm.trans H; rw [hy150]; with_reducible exact H2_) | (have H2_ := (Option.bind_some _ _).symm.trans H; with_reducible exact H2_) | with_reducible exact H | (rw [hy150]; exact H) | exact H); (have Ny150 := Aside0.mk hy150); (clear hy150); (replace H := Option.bind_eq_some_iff.mp H); (obtain ⟨t153, A50, H⟩ := H); (replace H : (if t153 = true then ((merge_every_bool.f k true (([(a0_2 == a1_2), (a0_1 == a1_0), (a1_1 != a0_0), a0_5, (a0_4.toList == a1_3.toList)] : List Bool))).bind fun t157 => (some t157)) else (some false)) = some r := H); (have A5 := Aside0.mk A50); (clear A50); (by_cases c6 : t153 = true)
  · (subst c6); (have H1 : ((merge_every_bool.f k true (([(a0_2 == a1_2), (a0_1 == a1_0), (a1_1 != a0_0), a0_5, (a0_4.toList == a1_3.toList)] : List Bool))).bind fun t157 => (some t157)) = some r := by rw [if_pos rfl] at H; exact H); (clear H); (have H := H1); (clear H1); (obtain ⟨y154, hy154⟩ : ∃ y_ : List Bool, y_ = (([(a0_2 == a1_2), (a0_1 == a1_0), (a1_1 != a0_0), a0_5, (a0_4.toList == a1_3.toList)] : List Bool)) := ⟨_, rfl⟩); (replace H : ((merge_every_bool.f k true y154).bind fun t157 => (some t157)) = some r := by first | (rw [hy154]; with_reducible exact H) | (have H2_ := (Option.bind_some _ _).symm.trans H; rw [hy154]; with_reducible exact H2_) | (have H2_ := (Option.bind_some _ _).symm.trans H; with_reducible exact H2_) | with_reducible exact H | (rw [hy154]; exact H) | exact H); (have Ny154 := Aside0.mk hy154); (clear hy154); (replace H := Option.bind_eq_some_iff.mp H); (obtain ⟨t157, A70, H⟩ := H); (replace H : (some t157) = some r := H); (have A7 := Aside0.mk A70); (clear A70); (obtain rfl := Option.some.inj H); (go_enter Try.func7, Try.ntmps7); (try go_wp2_with (first | ((with_reducible refine gate_dst (N := 2) rfl ?_); (try (refine gate_guard (by rfl) ?_; dsimp only)); refine box_event ?hg (N := 2) ?hd (cs := #[.int .u64 a0_0, .int .u64 a0_1, .int .u8 a0_2, .string a0_3, .string a0_4, .bool a0_5, .int .u64 a0_6, .int .u64 a0_7, .slice A0_8 l0_8.length c0_8, .slice A0_9 l0_9.length c0_9]) (t := 28) ?hr ?_; (case hd => rfl); (case hg => rfl); (case hr => first | (go_simp; done) | (go_simp; rfl)); intro gb146 hg w8 hbox hb; have BK146 := Aside0.mk (hbox); have GW146 := Aside0.mk ((by rw [hg]; exact (below_size (mvW HB.out)) : w.heap.size ≤ gb146)); have GE146 := Aside0.mk ((by rw [hg]; exact (below_size (mvW HB.out)) : w.heap.size ≤ gb146)); replace HB := Aside0.mk (below_step (mvW HB.out) hb); clear hb hbox hg) | ((with_reducible refine gate_dst (N := 3) rfl ?_); (try (refine gate_guard (by rfl) ?_; dsimp only)); refine box_event ?hg (N := 3) ?hd (cs := #[.int .u64 a1_0, .int .u64 a1_1, .int .u8 a1_2, .string a1_3, .string a1_4, .bool a1_5, .int .u64 a1_6, .int .u64 a1_7, .slice A1_8 l1_8.length c1_8, .slice A1_9 l1_9.length c1_9]) (t := 28) ?hr ?_; (case hd => rfl); (case hg => rfl); (case hr => first | (go_simp; done) | (go_simp; rfl)); intro gb147 hg w9 hbox hb; have BK147 := Aside0.mk (hbox); have GW147 := Aside0.mk ((by rw [hg]; exact (below_size (mvW HB.out)) : w.heap.size ≤ gb147)); have GE147 := Aside0.mk ((by rw [hg]; exact (below_size (mvW HB.out)) : w.heap.size ≤ gb147)); replace HB := Aside0.mk (below_step (mvW HB.out) hb); have NB146_147 := Aside0.mk ((by rw [hg]; exact Nat.ne_of_lt (blk_lt (mvB BK146.out)) : gb146 ≠ gb147)); have NB147_146 := Aside0.mk ((by rw [hg]; exact Nat.ne_of_gt (blk_lt (mvB BK146.out)) : gb147 ≠ gb146)); replace BK146 := Aside0.mk (blk_below (mvB BK146.out) hb); clear hb hbox hg))); (replace BK146 := Aside0.mk (blk_drew BK146.out)); (replace BK147 := Aside0.mk (blk_drew BK147.out)); (replace HB := Aside0.mk (below_drew1 HB.out)); (refine start_ (n := 33) (S := fun w' => w'.cell? ⟨gb146, 0, none⟩ = some (.int .u64 a0_0) ∧ w'.cell? ⟨gb146, 1, none⟩ = some (.int .u64 a0_1) ∧ w'.cell? ⟨gb146, 2, none⟩ = some (.int .u8 a0_2) ∧ w'.cell? ⟨gb146, 3, none⟩ = some (.string a0_3) ∧ w'.cell? ⟨gb146, 4, none⟩ = some (.string a0_4) ∧ w'.cell? ⟨gb146, 5, none⟩ = some (.bool a0_5) ∧ w'.cell? ⟨gb146, 6, none⟩ = some (.int .u64 a0_6) ∧ w'.cell? ⟨gb146, 7, none⟩ = some (.int .u64 a0_7) ∧ w'.cell? ⟨gb146, 8, none⟩ = some (.slice A0_8 l0_8.length c0_8) ∧ w'.cell? ⟨gb146, 9, none⟩ = some (.slice A0_9 l0_9.length c0_9) ∧ w'.cell? ⟨gb147, 0, none⟩ = some (.int .u64 a1_0) ∧ w'.cell? ⟨gb147, 1, none⟩ = some (.int .u64 a1_1) ∧ w'.cell? ⟨gb147, 2, none⟩ = some (.int .u8 a1_2) ∧ w'.cell? ⟨gb147, 3, none⟩ = some (.string a1_3) ∧ w'.cell? ⟨gb147, 4, none⟩ = some (.string a1_4) ∧ w'.cell? ⟨gb147, 5, none⟩ = some (.bool a1_5) ∧ w'.cell? ⟨gb147, 6, none⟩ = some (.int .u64 a1_6) ∧ w'.cell? ⟨gb147, 7, none⟩ = some (.int .u64 a1_7) ∧ w'.cell? ⟨gb147, 8, none⟩ = some (.slice A1_8 l1_8.length c1_8) ∧ w'.cell? ⟨gb147, 9, none⟩ = some (.slice A1_9 l1_9.length c1_9)) (ds := []) #[false, false, false, false, false, false, false, false, false, false, false, false, false, false, false, false, false, false, false, false, false, false, false, false, false, false, false, false, false, false, false, false, false] (by kernel_rfl) rfl rfl (ap10 (bc10 BK146.out) (bc10 BK147.out)) (fun hHeld => ?_); refine with_tabW merge_Beside.tab1 merge_Beside.bits1 (fun HT_ HW_ => ?_)); (generalize w9.drew = w10 at BK146 BK147 HB hHeld ⊢); (refine take_ (i := 0) (N := some 5) (v := ?_) (a' := ?_) (bv 1 32) rfl rfl (take_ofW HT_.out HW_.out (by kernel_rfl)) (fun _ _ _ h => h) (Or.inl ⟨by rfl, ?_⟩) hHeld ?_ ?_); (rotate_left)
    · (rintro w' ⟨s0, s1, s2, s3, s4, s5, s6, s7, s8, s9, s10, s11, s12, s13, s14, s15, s16, s17, s18, s19⟩); (go_simp); (with_reducible rfl)
    rotate_left
    · (simp only [sA]); (rfl)
    (refine take_ (i := 2) (N := some 7) (v := ?_) (a' := ?_) #[true, false, true, false, false, false, false, false, false, false, false, false, false, false, false, false, false, false, false, false, false, false, false, false, false, false, false, false, false, false, false, false, false] rfl rfl (take_ofW HT_.out HW_.out (by kernel_rfl)) (fun _ _ _ h => h) (Or.inl ⟨by rfl, ?_⟩) hHeld ?_ ?_); (rotate_left)
    · (rintro w' ⟨s0, s1, s2, s3, s4, s5, s6, s7, s8, s9, s10, s11, s12, s13, s14, s15, s16, s17, s18, s19⟩); (go_simp); (with_reducible rfl)
    rotate_left
    · (simp only [sA]); (rfl)
    (refine one_ (i := 1) (N := some 6) (bv 3 30) rfl rfl (one_of HT_.out (by kernel_rfl)) (by decide) (fun K hK => ?_)); (refine goes_ Try.func14 (by kernel_rfl) rfl #[.agg #[.int .u64 a0_0, .int .u64 a0_1, .int .u8 a0_2, .string a0_3, .string a0_4, .bool a0_5, .int .u64 a0_6, .int .u64 a0_7, .slice A0_8 l0_8.length c0_8, .slice A0_9 l0_9.length c0_9]] (by rfl) rfl rfl (by (try simp only [List.map_toArray, List.map_cons, List.map_nil]); first | done | rfl | (simp only [List.length_drop, List.length_take]; rfl) | (simp only [*]; rfl)) ?_); (with_reducible refine (page_Check.calls k a0_0 a0_1 a0_2 a0_3 a0_4 a0_5 a0_6 a0_7 _ _ l0_8 _ _ l0_9 t148 _ ?side1 ?side2 ?side3 ?side4 A3.out).mono ?_); ((case side1 => repeat (first | exact (Kd.C_below HR0_8.out HB.out) | (with_reducible refine Kd.C_alloc ?_ _) | (with_reducible refine Kd.C_drewN ?_ _) | (with_reducible refine Kd.C_drew ?_)))); ((case side2 => exact HC0_8.out)); ((case side3 => repeat (first | exact (Kd.C_below HR0_9.out HB.out) | (with_reducible refine Kd.C_alloc ?_ _) | (with_reducible refine Kd.C_drewN ?_ _) | (with_reducible refine Kd.C_drew ?_)))); ((case side4 => exact HC0_9.out)); (rintro e w11 ⟨rfl, hb⟩); (refine ⟨_, rfl, ?_⟩); (replace BK146 := Aside0.mk (blk_below (mvB BK146.out) hb)); (replace BK147 := Aside0.mk (blk_below (mvB BK147.out) hb)); (replace HB := Aside0.mk (below_step (mvW HB.out) hb)); (clear hb); (refine hK.out _ _ (ap10 (bc10 BK146.out) (bc10 BK147.out)) (fun hHeld => ?_)); (clear hK K); (refine norm_ (a' := ?_) ?_ ?_); (rotate_left)
    · (show Act.put _ (some 6) _ = _); (simp only [sA]); (rfl)
    (refine one_ (i := 3) (N := some 8) (bv 4 29) rfl rfl (one_of HT_.out (by kernel_rfl)) (by decide) (fun K hK => ?_)); (refine goes_ Try.func14 (by kernel_rfl) rfl #[.agg #[.int .u64 a1_0, .int .u64 a1_1, .int .u8 a1_2, .string a1_3, .string a1_4, .bool a1_5, .int .u64 a1_6, .int .u64 a1_7, .slice A1_8 l1_8.length c1_8, .slice A1_9 l1_9.length c1_9]] (by rfl) rfl rfl (by (try simp only [List.map_toArray, List.map_cons, List.map_nil]); first | done | rfl | (simp only [List.length_drop, List.length_take]; rfl) | (simp only [*]; rfl)) ?_); (with_reducible refine (page_Check.calls k a1_0 a1_1 a1_2 a1_3 a1_4 a1_5 a1_6 a1_7 _ _ l1_8 _ _ l1_9 t149 _ ?side1 ?side2 ?side3 ?side4 A4.out).mono ?_); ((case side1 => repeat (first | exact (Kd.C_below HR1_8.out HB.out) | (with_reducible refine Kd.C_alloc ?_ _) | (with_reducible refine Kd.C_drewN ?_ _) | (with_reducible refine Kd.C_drew ?_)))); ((case side2 => exact HC1_8.out)); ((case side3 => repeat (first | exact (Kd.C_below HR1_9.out HB.out) | (with_reducible refine Kd.C_alloc ?_ _) | (with_reducible refine Kd.C_drewN ?_ _) | (with_reducible refine Kd.C_drew ?_)))); ((case side4 => exact HC1_9.out)); (rintro e w12 ⟨rfl, hb⟩); (refine ⟨_, rfl, ?_⟩); (replace BK146 := Aside0.mk (blk_below (mvB BK146.out) hb)); (replace BK147 := Aside0.mk (blk_below (mvB BK147.out) hb)); (replace HB := Aside0.mk (below_step (mvW HB.out) hb)); (clear hb); (refine hK.out _ _ (ap10 (bc10 BK146.out) (bc10 BK147.out)) (fun hHeld => ?_)); (clear hK K); (refine norm_ (a' := ?_) ?_ ?_); (rotate_left)
    · (show Act.put _ (some 8) _ = _); (simp only [sA]); (rfl)
    (refine one_ (i := 4) (N := some 9) (bv 5 28) rfl rfl (one_of HT_.out (by kernel_rfl)) (by decide) (fun K hK => ?_)); (refine Kd.R_lit_step (Kd.int .i64) _ 36 ?hg (N := 9) ?hd (xs := ([t148, t149] : List Int)) (inner := [.int .i64 t148, .int .i64 t149]) (ok := fun _ => True) (okp := fun _ => True) ?hr ?hp (fun _ hk => hk) trivial (Below.refl _ _) (Nat.le_refl _) (by simp) ?_; (case hd => rfl); (case hg => rfl); (case hr => first | (go_simp; done) | (go_simp; rfl)); (case hp => exact (Reps.one (show Kd.M (Kd.int .i64) _ _ _ t148 [.int .i64 t148] from rfl) (Reps.one (show Kd.M (Kd.int .i64) _ _ _ t149 [.int .i64 t149] from rfl) (Reps.none _ _))))); (intro v151 w13 ho14 hb hg_ hnew_); (clear hg_ hnew_); ((first | rw [← Ny150.out] at ho14 | (simp only [Int.reduceToNat] at ho14; rw [← Ny150.out] at ho14))); (have HO152 := Aside0.mk (Kd.R_lower ho14 (below_size (mvW HB.out)))); (replace BK146 := Aside0.mk (blk_below (mvB BK146.out) hb)); (replace BK147 := Aside0.mk (blk_below (mvB BK147.out) hb)); (replace HB := Aside0.mk (below_step (mvW HB.out) hb)); (clear hb ho14); (obtain ⟨Ao15, co15, eo15⟩ := Kd.R_slice HO152.out); ((first | subst eo15 | (injection eo15 with f1_ f2_ f3_; have f4_ := f1_.symm; have f5_ := f3_.symm; clear f1_ f2_ f3_; subst f4_; subst f5_))); (refine hK.out _ _ (ap10 (bc10 BK146.out) (bc10 BK147.out)) (fun hHeld => ?_)); (clear hK K); (refine norm_ (a' := ?_) ?_ ?_); (rotate_left)
    · (show Act.put _ (some 9) _ = _); (simp only [sA]); (rfl)
    (refine one_ (i := 5) (N := some 10) (bv 6 27) rfl rfl (one_of HT_.out (by kernel_rfl)) (by decide) (fun K hK => ?_)); (refine goes_ Try.func13 (by kernel_rfl) rfl #[.int .i64 0, .slice Ao15 y150.length co15] (by rfl) rfl rfl (by (try simp only [List.map_toArray, List.map_cons, List.map_nil]); first | done | rfl | (simp only [List.length_drop, List.length_take]; rfl) | (simp only [*]; rfl)) ?_); (with_reducible refine (api_Errno.calls k 0 _ _ y150 true _ ?side1 ?side2 A5.out).mono ?_); ((case side1 => repeat (first | exact (Kd.R_reads' HO152.out).2.2 | (with_reducible refine Kd.C_alloc ?_ _) | (with_reducible refine Kd.C_drewN ?_ _) | (with_reducible refine Kd.C_drew ?_)))); ((case side2 => exact (Kd.R_reads' HO152.out).2.1)); (rintro e w' ⟨rfl, ⟨nd, rfl⟩⟩); (refine ⟨_, rfl, ?_⟩); (refine hK.out _ _ (ap10 (bc10 BK146.out) (bc10 BK147.out)) (fun hHeld => ?_)); (clear hK K); (refine norm_ (a' := ?_) ?_ ?_); (rotate_left)
    · (show Act.put _ (some 10) _ = _); (simp only [sA]); (rfl)
    (refine pure_ (i := 6) (N := some 11) (v := ?_) (a' := ?_) (bv 7 26) rfl rfl (any_of HT_.out (by kernel_rfl)) (fun _ _ _ h => h) (Or.inl ⟨by rfl, ?_⟩) ?_ ?_); (rotate_left)
    · (intro w'); (go_simp); (with_reducible rfl)
    rotate_left
    · (simp only [sA]); (rfl)
    (refine pure_ (i := 7) (N := some 12) (v := ?_) (a' := ?_) (bv 8 25) rfl rfl (any_of HT_.out (by kernel_rfl)) (fun _ _ _ h => h) (Or.inl ⟨by rfl, ?_⟩) ?_ ?_); (rotate_left)
    · (intro w'); (go_simp); (with_reducible rfl)
    rotate_left
    · (simp only [sA]); (rfl)
    (refine pure_ (i := 9) (N := some 14) (v := ?_) (a' := ?_) #[true, true, true, true, true, true, true, true, false, true, false, false, false, false, false, false, false, false, false, false, false, false, false, false, false, false, false, false, false, false, false, false, false] rfl rfl (any_of HT_.out (by kernel_rfl)) (fun _ _ _ h => h) (Or.inl ⟨by rfl, ?_⟩) ?_ ?_); (rotate_left)
    · (intro w'); (go_simp); (with_reducible rfl)
    rotate_left
    · (simp only [sA]); (rfl)
    (refine pure_ (i := 12) (N := some 17) (v := ?_) (a' := ?_) #[true, true, true, true, true, true, true, true, false, true, false, false, true, false, false, false, false, false, false, false, false, false, false, false, false, false, false, false, false, false, false, false, false] rfl rfl (any_of HT_.out (by kernel_rfl)) (fun _ _ _ h => h) (Or.inl ⟨by rfl, ?_⟩) ?_ ?_); (rotate_left)
    · (intro w'); (go_simp); (with_reducible rfl)
    rotate_left
    · (simp only [sA]); (rfl)
    (refine pure_ (i := 14) (N := some 19) (v := ?_) (a' := ?_) #[true, true, true, true, true, true, true, true, false, true, false, false, true, false, true, false, false, false, false, false, false, false, false, false, false, false, false, false, false, false, false, false, false] rfl rfl (any_of HT_.out (by kernel_rfl)) (fun _ _ _ h => h) (Or.inl ⟨by rfl, ?_⟩) ?_ ?_); (rotate_left)
    · (intro w'); (go_simp); (with_reducible rfl)
    rotate_left
    · (simp only [sA]); (rfl)
    (refine pure_ (i := 17) (N := some 22) (v := ?_) (a' := ?_) #[true, true, true, true, true, true, true, true, false, true, false, false, true, false, true, false, false, true, false, false, false, false, false, false, false, false, false, false, false, false, false, false, false] rfl rfl (any_of HT_.out (by kernel_rfl)) (fun _ _ _ h => h) (Or.inl ⟨by rfl, ?_⟩) ?_ ?_); (rotate_left)
    · (intro w'); (go_simp); (with_reducible rfl)
    rotate_left
    · (simp only [sA]); (rfl)
    (refine pure_ (i := 19) (N := some 24) (v := ?_) (a' := ?_) #[true, true, true, true, true, true, true, true, false, true, false, false, true, false, true, false, false, true, false, true, false, false, false, false, false, false, false, false, false, false, false, false, false] rfl rfl (any_of HT_.out (by kernel_rfl)) (fun _ _ _ h => h) (Or.inl ⟨by rfl, ?_⟩) ?_ ?_); (rotate_left)
    · (intro w'); (go_simp); (with_reducible rfl)
    rotate_left
    · (simp only [sA]); (rfl)
    (refine pure_ (i := 22) (N := some 27) (v := ?_) (a' := ?_) #[true, true, true, true, true, true, true, true, false, true, false, false, true, false, true, false, false, true, false, true, false, false, true, false, false, false, false, false, false, false, false, false, false] rfl rfl (any_of HT_.out (by kernel_rfl)) (fun _ _ _ h => h) (Or.inl ⟨by rfl, ?_⟩) ?_ ?_); (rotate_left)
    · (intro w'); (go_simp); (with_reducible rfl)
    rotate_left
    · (simp only [sA]); (rfl)
    (refine pure_ (i := 24) (N := some 29) (v := ?_) (a' := ?_) #[true, true, true, true, true, true, true, true, false, true, false, false, true, false, true, false, false, true, false, true, false, false, true, false, true, false, false, false, false, false, false, false, false] rfl rfl (any_of HT_.out (by kernel_rfl)) (fun _ _ _ h => h) (Or.inl ⟨by rfl, ?_⟩) ?_ ?_); (rotate_left)
    · (intro w'); (go_simp); (with_reducible rfl)
    rotate_left
    · (simp only [sA]); (rfl)
    (refine pure_ (i := 26) (N := some 31) (v := ?_) (a' := ?_) #[true, true, true, true, true, true, true, true, false, true, false, false, true, false, true, false, false, true, false, true, false, false, true, false, true, false, true, false, false, false, false, false, false] rfl rfl (any_of HT_.out (by kernel_rfl)) (fun _ _ _ h => h) (Or.inl ⟨by rfl, ?_⟩) ?_ ?_); (rotate_left)
    · (intro w'); (go_simp); (with_reducible rfl)
    rotate_left
    · (simp only [sA]); (rfl)
    (refine take_ (i := 8) (N := some 13) (v := ?_) (a' := ?_) #[true, true, true, true, true, true, true, true, true, true, false, false, true, false, true, false, false, true, false, true, false, false, true, false, true, false, true, false, false, false, false, false, false] rfl rfl (take_ofW HT_.out HW_.out (by kernel_rfl)) (fun _ _ _ h => h) (Or.inl ⟨by rfl, ?_⟩) hHeld ?_ ?_); (rotate_left)
    · (rintro w' ⟨s0, s1, s2, s3, s4, s5, s6, s7, s8, s9, s10, s11, s12, s13, s14, s15, s16, s17, s18, s19⟩); (go_simp); (with_reducible rfl)
    rotate_left
    · (simp only [sA]); (rfl)
    (refine take_ (i := 10) (N := some 15) (v := ?_) (a' := ?_) #[true, true, true, true, true, true, true, true, true, true, true, false, true, false, true, false, false, true, false, true, false, false, true, false, true, false, true, false, false, false, false, false, false] rfl rfl (take_ofW HT_.out HW_.out (by kernel_rfl)) (fun _ _ _ h => h) (Or.inl ⟨by rfl, ?_⟩) hHeld ?_ ?_); (rotate_left)
    · (rintro w' ⟨s0, s1, s2, s3, s4, s5, s6, s7, s8, s9, s10, s11, s12, s13, s14, s15, s16, s17, s18, s19⟩); (go_simp); (with_reducible rfl)
    rotate_left
    · (simp only [sA]); (rfl)
    (refine pure_ (i := 11) (N := some 16) (v := ?_) (a' := ?_) #[true, true, true, true, true, true, true, true, true, true, true, true, true, false, true, false, false, true, false, true, false, false, true, false, true, false, true, false, false, false, false, false, false] rfl rfl (any_of HT_.out (by kernel_rfl)) (fun _ _ _ h => h) (Or.inl ⟨by rfl, ?_⟩) ?_ ?_); (rotate_left)
    · (intro w'); (go_simp); (with_reducible rfl)
    rotate_left
    · (simp only [sA]); (rfl)
    (refine take_ (i := 13) (N := some 18) (v := ?_) (a' := ?_) #[true, true, true, true, true, true, true, true, true, true, true, true, true, true, true, false, false, true, false, true, false, false, true, false, true, false, true, false, false, false, false, false, false] rfl rfl (take_ofW HT_.out HW_.out (by kernel_rfl)) (fun _ _ _ h => h) (Or.inl ⟨by rfl, ?_⟩) hHeld ?_ ?_); (rotate_left)
    · (rintro w' ⟨s0, s1, s2, s3, s4, s5, s6, s7, s8, s9, s10, s11, s12, s13, s14, s15, s16, s17, s18, s19⟩); (go_simp); (with_reducible rfl)
    rotate_left
    · (simp only [sA]); (rfl)
    (refine take_ (i := 15) (N := some 20) (v := ?_) (a' := ?_) #[true, true, true, true, true, true, true, true, true, true, true, true, true, true, true, true, false, true, false, true, false, false, true, false, true, false, true, false, false, false, false, false, false] rfl rfl (take_ofW HT_.out HW_.out (by kernel_rfl)) (fun _ _ _ h => h) (Or.inl ⟨by rfl, ?_⟩) hHeld ?_ ?_); (rotate_left)
    · (rintro w' ⟨s0, s1, s2, s3, s4, s5, s6, s7, s8, s9, s10, s11, s12, s13, s14, s15, s16, s17, s18, s19⟩); (go_simp); (with_reducible rfl)
    rotate_left
    · (simp only [sA]); (rfl)
    (refine pure_ (i := 16) (N := some 21) (v := ?_) (a' := ?_) #[true, true, true, true, true, true, true, true, true, true, true, true, true, true, true, true, true, true, false, true, false, false, true, false, true, false, true, false, false, false, false, false, false] rfl rfl (any_of HT_.out (by kernel_rfl)) (fun _ _ _ h => h) (Or.inl ⟨by rfl, ?_⟩) ?_ ?_); (rotate_left)
    · (intro w'); (go_simp); (with_reducible rfl)
    rotate_left
    · (simp only [sA]); (rfl)
    (refine take_ (i := 18) (N := some 23) (v := ?_) (a' := ?_) #[true, true, true, true, true, true, true, true, true, true, true, true, true, true, true, true, true, true, true, true, false, false, true, false, true, false, true, false, false, false, false, false, false] rfl rfl (take_ofW HT_.out HW_.out (by kernel_rfl)) (fun _ _ _ h => h) (Or.inl ⟨by rfl, ?_⟩) hHeld ?_ ?_); (rotate_left)
    · (rintro w' ⟨s0, s1, s2, s3, s4, s5, s6, s7, s8, s9, s10, s11, s12, s13, s14, s15, s16, s17, s18, s19⟩); (go_simp); (with_reducible rfl)
    rotate_left
    · (simp only [sA]); (rfl)
    (refine take_ (i := 20) (N := some 25) (v := ?_) (a' := ?_) #[true, true, true, true, true, true, true, true, true, true, true, true, true, true, true, true, true, true, true, true, true, false, true, false, true, false, true, false, false, false, false, false, false] rfl rfl (take_ofW HT_.out HW_.out (by kernel_rfl)) (fun _ _ _ h => h) (Or.inl ⟨by rfl, ?_⟩) hHeld ?_ ?_); (rotate_left)
    · (rintro w' ⟨s0, s1, s2, s3, s4, s5, s6, s7, s8, s9, s10, s11, s12, s13, s14, s15, s16, s17, s18, s19⟩); (go_simp); (with_reducible rfl)
    rotate_left
    · (simp only [sA]); (rfl)
    (refine pure_ (i := 21) (N := some 26) (v := ?_) (a' := ?_) #[true, true, true, true, true, true, true, true, true, true, true, true, true, true, true, true, true, true, true, true, true, true, true, false, true, false, true, false, false, false, false, false, false] rfl rfl (any_of HT_.out (by kernel_rfl)) (fun _ _ _ h => h) (Or.inl ⟨by rfl, ?_⟩) ?_ ?_); (rotate_left)
    · (intro w'); (go_simp); (with_reducible rfl)
    rotate_left
    · (simp only [sA]); (rfl)
    (refine take_ (i := 23) (N := some 28) (v := ?_) (a' := ?_) #[true, true, true, true, true, true, true, true, true, true, true, true, true, true, true, true, true, true, true, true, true, true, true, true, true, false, true, false, false, false, false, false, false] rfl rfl (take_ofW HT_.out HW_.out (by kernel_rfl)) (fun _ _ _ h => h) (Or.inl ⟨by rfl, ?_⟩) hHeld ?_ ?_); (rotate_left)
    · (rintro w' ⟨s0, s1, s2, s3, s4, s5, s6, s7, s8, s9, s10, s11, s12, s13, s14, s15, s16, s17, s18, s19⟩); (go_simp); (with_reducible rfl)
    rotate_left
    · (simp only [sA]); (rfl)
    (refine take_ (i := 25) (N := some 30) (v := ?_) (a' := ?_) (bv 27 6) rfl rfl (take_ofW HT_.out HW_.out (by kernel_rfl)) (fun _ _ _ h => h) (Or.inl ⟨by rfl, ?_⟩) hHeld ?_ ?_); (rotate_left)
    · (rintro w' ⟨s0, s1, s2, s3, s4, s5, s6, s7, s8, s9, s10, s11, s12, s13, s14, s15, s16, s17, s18, s19⟩); (go_simp); (with_reducible rfl)
    rotate_left
    · (simp only [sA]); (rfl)
    (refine take_ (i := 27) (N := some 32) (v := ?_) (a' := ?_) (bv 28 5) rfl rfl (take_ofW HT_.out HW_.out (by kernel_rfl)) (fun _ _ _ h => h) (Or.inl ⟨by rfl, ?_⟩) hHeld ?_ ?_); (rotate_left)
    · (rintro w' ⟨s0, s1, s2, s3, s4, s5, s6, s7, s8, s9, s10, s11, s12, s13, s14, s15, s16, s17, s18, s19⟩); (go_simp); (with_reducible rfl)
    rotate_left
    · (simp only [sA]); (rfl)
    (refine pure_ (i := 28) (N := some 33) (v := ?_) (a' := ?_) (bv 29 4) rfl rfl (any_of HT_.out (by kernel_rfl)) (fun _ _ _ h => h) (Or.inl ⟨by rfl, ?_⟩) ?_ ?_); (rotate_left)
    · (intro w'); (go_simp); (with_reducible rfl)
    rotate_left
    · (simp only [sA]); (rfl)
    (refine one_ (i := 29) (N := some 34) (bv 30 3) rfl rfl (one_of HT_.out (by kernel_rfl)) (by decide) (fun K hK => ?_)); (refine Kd.R_lit_step Kd.bool _ 4 ?hg (N := 34) ?hd (xs := ([(a0_2 == a1_2), (a0_1 == a1_0), (a1_1 != a0_0), a0_5, (a0_4.toList == a1_3.toList)] : List Bool)) (inner := [.bool (a0_2 == a1_2), .bool (a0_1 == a1_0), .bool (a1_1 != a0_0), .bool a0_5, .bool (a0_4.toList == a1_3.toList)]) (ok := fun _ => True) (okp := fun _ => True) ?hr ?hp (fun _ hk => hk) trivial (Below.refl _ _) (Nat.le_refl _) (by simp) ?_; (case hd => rfl); (case hg => rfl); (case hr => first | (go_simp; done) | (go_simp; rfl)); (case hp => exact (Reps.one (show Kd.M Kd.bool _ _ _ (a0_2 == a1_2) [.bool (a0_2 == a1_2)] from rfl) (Reps.one (show Kd.M Kd.bool _ _ _ (a0_1 == a1_0) [.bool (a0_1 == a1_0)] from rfl) (Reps.one (show Kd.M Kd.bool _ _ _ (a1_1 != a0_0) [.bool (a1_1 != a0_0)] from rfl) (Reps.one (show Kd.M Kd.bool _ _ _ a0_5 [.bool a0_5] from rfl) (Reps.one (show Kd.M Kd.bool _ _ _ (a0_4.toList == a1_3.toList) [.bool (a0_4.toList == a1_3.toList)] from rfl) (Reps.none _ _)))))))); (intro v155 w16 ho17 hb hg_ hnew_); (clear hg_ hnew_); ((first | rw [← Ny154.out] at ho17 | (simp only [Int.reduceToNat] at ho17; rw [← Ny154.out] at ho17))); (replace HO152 := Aside0.mk (Kd.R_below (mvR HO152.out) hb)); (have HO156 := Aside0.mk (Kd.R_lower ho17 (below_size (mvW HB.out)))); (replace BK146 := Aside0.mk (blk_below (mvB BK146.out) hb)); (replace BK147 := Aside0.mk (blk_below (mvB BK147.out) hb)); (replace HB := Aside0.mk (below_step (mvW HB.out) hb)); (clear hb ho17); (obtain ⟨Ao18, co18, eo18⟩ := Kd.R_slice HO156.out); ((first | subst eo18 | (injection eo18 with f1_ f2_ f3_; have f4_ := f1_.symm; have f5_ := f3_.symm; clear f1_ f2_ f3_; subst f4_; subst f5_))); (refine hK.out _ _ (ap10 (bc10 BK146.out) (bc10 BK147.out)) (fun hHeld => ?_)); (clear hK K); (refine norm_ (a' := ?_) ?_ ?_); (rotate_left)
    · (show Act.put _ (some 34) _ = _); (simp only [sA]); (rfl)
    (refine one_ (i := 30) (N := some 35) (bv 31 2) rfl rfl (one_of HT_.out (by kernel_rfl)) (by decide) (fun K hK => ?_)); (refine goes_ Try.func15 (by kernel_rfl) rfl #[.bool true, .slice Ao18 y154.length co18] (by rfl) rfl rfl (by (try simp only [List.map_toArray, List.map_cons, List.map_nil]); first | done | rfl | (simp only [List.length_drop, List.length_take]; rfl) | (simp only [*]; rfl)) ?_); (with_reducible refine (merge_every_bool.calls k true _ _ y154 t157 _ ?side1 ?side2 A7.out).mono ?_); ((case side1 => repeat (first | exact (Kd.R_reads' HO156.out).2.2 | (with_reducible refine Kd.C_alloc ?_ _) | (with_reducible refine Kd.C_drewN ?_ _) | (with_reducible refine Kd.C_drew ?_)))); ((case side2 => exact (Kd.R_reads' HO156.out).2.1)); (rintro e w' ⟨rfl, ⟨nd, rfl⟩⟩); (refine ⟨_, rfl, ?_⟩); (refine hK.out _ _ (ap10 (bc10 BK146.out) (bc10 BK147.out)) (fun hHeld => ?_)); (clear hK K); (refine norm_ (a' := ?_) ?_ ?_); (rotate_left)
    · (show Act.put _ (some 35) _ = _); (simp only [sA]); (rfl)
    (refine pure_ (i := 31) (N := some 36) (v := ?_) (a' := ?_) (bv 32 1) rfl rfl (any_of HT_.out (by kernel_rfl)) (fun _ _ _ h => h) (Or.inl ⟨by rfl, ?_⟩) ?_ ?_); (rotate_left)
    · (intro w'); (go_simp); (with_reducible rfl)
    rotate_left
    · (simp only [sA]); (rfl)
    (refine pure_ (i := 32) (N := some 4) (v := ?_) (a' := ?_) (bv 33 0) rfl rfl (any_of HT_.out (by kernel_rfl)) (fun _ _ _ h => h) (Or.inl ⟨by rfl, ?_⟩) ?_ ?_); (rotate_left)
    · (intro w'); (go_simp); (with_reducible rfl)
    rotate_left
    · (simp only [sA]); (rfl)
    (refine done_ (done_of HT_.out (by kernel_rfl)) ?_); (try go_wp2); (go_ret); (exact ⟨by first | rfl | (simp [errW_none, errW_some] <;> rfl) | (simp [*, errW_none, errW_some] <;> rfl), by repeat (first | (with_reducible first | exact HB.out | apply below_alloc | apply pw_below_drewN | apply below_drew1 | refine below_set ?_ GE146.out | refine below_set ?_ GE147.out) | exact HB.out)⟩)
  · (replace c6 := Bool.eq_false_iff.mpr c6); (subst c6); (have H1 : (some false) = some r := by rw [if_neg (show ¬ (false = true) by decide)] at H; exact H); (clear H); (have H := H1); (clear H1); (obtain rfl := Option.some.inj H); (go_enter Try.func7, Try.ntmps7); (try go_wp2_with (first | ((with_reducible refine gate_dst (N := 2) rfl ?_); (try (refine gate_guard (by rfl) ?_; dsimp only)); refine box_event ?hg (N := 2) ?hd (cs := #[.int .u64 a0_0, .int .u64 a0_1, .int .u8 a0_2, .string a0_3, .string a0_4, .bool a0_5, .int .u64 a0_6, .int .u64 a0_7, .slice A0_8 l0_8.length c0_8, .slice A0_9 l0_9.length c0_9]) (t := 28) ?hr ?_; (case hd => rfl); (case hg => rfl); (case hr => first | (go_simp; done) | (go_simp; rfl)); intro gb146 hg w19 hbox hb; have BK146 := Aside0.mk (hbox); have GW146 := Aside0.mk ((by rw [hg]; exact (below_size (mvW HB.out)) : w.heap.size ≤ gb146)); have GE146 := Aside0.mk ((by rw [hg]; exact (below_size (mvW HB.out)) : w.heap.size ≤ gb146)); replace HB := Aside0.mk (below_step (mvW HB.out) hb); clear hb hbox hg) | ((with_reducible refine gate_dst (N := 3) rfl ?_); (try (refine gate_guard (by rfl) ?_; dsimp only)); refine box_event ?hg (N := 3) ?hd (cs := #[.int .u64 a1_0, .int .u64 a1_1, .int .u8 a1_2, .string a1_3, .string a1_4, .bool a1_5, .int .u64 a1_6, .int .u64 a1_7, .slice A1_8 l1_8.length c1_8, .slice A1_9 l1_9.length c1_9]) (t := 28) ?hr ?_; (case hd => rfl); (case hg => rfl); (case hr => first | (go_simp; done) | (go_simp; rfl)); intro gb147 hg w20 hbox hb; have BK147 := Aside0.mk (hbox); have GW147 := Aside0.mk ((by rw [hg]; exact (below_size (mvW HB.out)) : w.heap.size ≤ gb147)); have GE147 := Aside0.mk ((by rw [hg]; exact (below_size (mvW HB.out)) : w.heap.size ≤ gb147)); replace HB := Aside0.mk (below_step (mvW HB.out) hb); have NB146_147 := Aside0.mk ((by rw [hg]; exact Nat.ne_of_lt (blk_lt (mvB BK146.out)) : gb146 ≠ gb147)); have NB147_146 := Aside0.mk ((by rw [hg]; exact Nat.ne_of_gt (blk_lt (mvB BK146.out)) : gb147 ≠ gb146)); replace BK146 := Aside0.mk (blk_below (mvB BK146.out) hb); clear hb hbox hg))); (replace BK146 := Aside0.mk (blk_drew BK146.out)); (replace BK147 := Aside0.mk (blk_drew BK147.out)); (replace HB := Aside0.mk (below_drew1 HB.out)); (refine start_ (n := 33) (S := fun w' => w'.cell? ⟨gb146, 0, none⟩ = some (.int .u64 a0_0) ∧ w'.cell? ⟨gb146, 1, none⟩ = some (.int .u64 a0_1) ∧ w'.cell? ⟨gb146, 2, none⟩ = some (.int .u8 a0_2) ∧ w'.cell? ⟨gb146, 3, none⟩ = some (.string a0_3) ∧ w'.cell? ⟨gb146, 4, none⟩ = some (.string a0_4) ∧ w'.cell? ⟨gb146, 5, none⟩ = some (.bool a0_5) ∧ w'.cell? ⟨gb146, 6, none⟩ = some (.int .u64 a0_6) ∧ w'.cell? ⟨gb146, 7, none⟩ = some (.int .u64 a0_7) ∧ w'.cell? ⟨gb146, 8, none⟩ = some (.slice A0_8 l0_8.length c0_8) ∧ w'.cell? ⟨gb146, 9, none⟩ = some (.slice A0_9 l0_9.length c0_9) ∧ w'.cell? ⟨gb147, 0, none⟩ = some (.int .u64 a1_0) ∧ w'.cell? ⟨gb147, 1, none⟩ = some (.int .u64 a1_1) ∧ w'.cell? ⟨gb147, 2, none⟩ = some (.int .u8 a1_2) ∧ w'.cell? ⟨gb147, 3, none⟩ = some (.string a1_3) ∧ w'.cell? ⟨gb147, 4, none⟩ = some (.string a1_4) ∧ w'.cell? ⟨gb147, 5, none⟩ = some (.bool a1_5) ∧ w'.cell? ⟨gb147, 6, none⟩ = some (.int .u64 a1_6) ∧ w'.cell? ⟨gb147, 7, none⟩ = some (.int .u64 a1_7) ∧ w'.cell? ⟨gb147, 8, none⟩ = some (.slice A1_8 l1_8.length c1_8) ∧ w'.cell? ⟨gb147, 9, none⟩ = some (.slice A1_9 l1_9.length c1_9)) (ds := []) #[false, false, false, false, false, false, false, false, false, false, false, false, false, false, false, false, false, false, false, false, false, false, false, false, false, false, false, false, false, false, false, false, false] (by kernel_rfl) rfl rfl (ap10 (bc10 BK146.out) (bc10 BK147.out)) (fun hHeld => ?_); refine with_tabW merge_Beside.tab1 merge_Beside.bits1 (fun HT_ HW_ => ?_)); (generalize w20.drew = w21 at BK146 BK147 HB hHeld ⊢); (refine take_ (i := 0) (N := some 5) (v := ?_) (a' := ?_) (bv 1 32) rfl rfl (take_ofW HT_.out HW_.out (by kernel_rfl)) (fun _ _ _ h => h) (Or.inl ⟨by rfl, ?_⟩) hHeld ?_ ?_); (rotate_left)
    · (rintro w' ⟨s0, s1, s2, s3, s4, s5, s6, s7, s8, s9, s10, s11, s12, s13, s14, s15, s16, s17, s18, s19⟩); (go_simp); (with_reducible rfl)
    rotate_left
    · (simp only [sA]); (rfl)
    (refine take_ (i := 2) (N := some 7) (v := ?_) (a' := ?_) #[true, false, true, false, false, false, false, false, false, false, false, false, false, false, false, false, false, false, false, false, false, false, false, false, false, false, false, false, false, false, false, false, false] rfl rfl (take_ofW HT_.out HW_.out (by kernel_rfl)) (fun _ _ _ h => h) (Or.inl ⟨by rfl, ?_⟩) hHeld ?_ ?_); (rotate_left)
    · (rintro w' ⟨s0, s1, s2, s3, s4, s5, s6, s7, s8, s9, s10, s11, s12, s13, s14, s15, s16, s17, s18, s19⟩); (go_simp); (with_reducible rfl)
    rotate_left
    · (simp only [sA]); (rfl)
    (refine one_ (i := 1) (N := some 6) (bv 3 30) rfl rfl (one_of HT_.out (by kernel_rfl)) (by decide) (fun K hK => ?_)); (refine goes_ Try.func14 (by kernel_rfl) rfl #[.agg #[.int .u64 a0_0, .int .u64 a0_1, .int .u8 a0_2, .string a0_3, .string a0_4, .bool a0_5, .int .u64 a0_6, .int .u64 a0_7, .slice A0_8 l0_8.length c0_8, .slice A0_9 l0_9.length c0_9]] (by rfl) rfl rfl (by (try simp only [List.map_toArray, List.map_cons, List.map_nil]); first | done | rfl | (simp only [List.length_drop, List.length_take]; rfl) | (simp only [*]; rfl)) ?_); (with_reducible refine (page_Check.calls k a0_0 a0_1 a0_2 a0_3 a0_4 a0_5 a0_6 a0_7 _ _ l0_8 _ _ l0_9 t148 _ ?side1 ?side2 ?side3 ?side4 A3.out).mono ?_); ((case side1 => repeat (first | exact (Kd.C_below HR0_8.out HB.out) | (with_reducible refine Kd.C_alloc ?_ _) | (with_reducible refine Kd.C_drewN ?_ _) | (with_reducible refine Kd.C_drew ?_)))); ((case side2 => exact HC0_8.out)); ((case side3 => repeat (first | exact (Kd.C_below HR0_9.out HB.out) | (with_reducible refine Kd.C_alloc ?_ _) | (with_reducible refine Kd.C_drewN ?_ _) | (with_reducible refine Kd.C_drew ?_)))); ((case side4 => exact HC0_9.out)); (rintro e w22 ⟨rfl, hb⟩); (refine ⟨_, rfl, ?_⟩); (replace BK146 := Aside0.mk (blk_below (mvB BK146.out) hb)); (replace BK147 := Aside0.mk (blk_below (mvB BK147.out) hb)); (replace HB := Aside0.mk (below_step (mvW HB.out) hb)); (clear hb); (refine hK.out _ _ (ap10 (bc10 BK146.out) (bc10 BK147.out)) (fun hHeld => ?_)); (clear hK K); (refine norm_ (a' := ?_) ?_ ?_); (rotate_left)
    · (show Act.put _ (some 6) _ = _); (simp only [sA]); (rfl)
    (refine one_ (i := 3) (N := some 8) (bv 4 29) rfl rfl (one_of HT_.out (by kernel_rfl)) (by decide) (fun K hK => ?_)); (refine goes_ Try.func14 (by kernel_rfl) rfl #[.agg #[.int .u64 a1_0, .int .u64 a1_1, .int .u8 a1_2, .string a1_3, .string a1_4, .bool a1_5, .int .u64 a1_6, .int .u64 a1_7, .slice A1_8 l1_8.length c1_8, .slice A1_9 l1_9.length c1_9]] (by rfl) rfl rfl (by (try simp only [List.map_toArray, List.map_cons, List.map_nil]); first | done | rfl | (simp only [List.length_drop, List.length_take]; rfl) | (simp only [*]; rfl)) ?_); (with_reducible refine (page_Check.calls k a1_0 a1_1 a1_2 a1_3 a1_4 a1_5 a1_6 a1_7 _ _ l1_8 _ _ l1_9 t149 _ ?side1 ?side2 ?side3 ?side4 A4.out).mono ?_); ((case side1 => repeat (first | exact (Kd.C_below HR1_8.out HB.out) | (with_reducible refine Kd.C_alloc ?_ _) | (with_reducible refine Kd.C_drewN ?_ _) | (with_reducible refine Kd.C_drew ?_)))); ((case side2 => exact HC1_8.out)); ((case side3 => repeat (first | exact (Kd.C_below HR1_9.out HB.out) | (with_reducible refine Kd.C_alloc ?_ _) | (with_reducible refine Kd.C_drewN ?_ _) | (with_reducible refine Kd.C_drew ?_)))); ((case side4 => exact HC1_9.out)); (rintro e w23 ⟨rfl, hb⟩); (refine ⟨_, rfl, ?_⟩); (replace BK146 := Aside0.mk (blk_below (mvB BK146.out) hb)); (replace BK147 := Aside0.mk (blk_below (mvB BK147.out) hb)); (replace HB := Aside0.mk (below_step (mvW HB.out) hb)); (clear hb); (refine hK.out _ _ (ap10 (bc10 BK146.out) (bc10 BK147.out)) (fun hHeld => ?_)); (clear hK K); (refine norm_ (a' := ?_) ?_ ?_); (rotate_left)
    · (show Act.put _ (some 8) _ = _); (simp only [sA]); (rfl)
    (refine one_ (i := 4) (N := some 9) (bv 5 28) rfl rfl (one_of HT_.out (by kernel_rfl)) (by decide) (fun K hK => ?_)); (refine Kd.R_lit_step (Kd.int .i64) _ 36 ?hg (N := 9) ?hd (xs := ([t148, t149] : List Int)) (inner := [.int .i64 t148, .int .i64 t149]) (ok := fun _ => True) (okp := fun _ => True) ?hr ?hp (fun _ hk => hk) trivial (Below.refl _ _) (Nat.le_refl _) (by simp) ?_; (case hd => rfl); (case hg => rfl); (case hr => first | (go_simp; done) | (go_simp; rfl)); (case hp => exact (Reps.one (show Kd.M (Kd.int .i64) _ _ _ t148 [.int .i64 t148] from rfl) (Reps.one (show Kd.M (Kd.int .i64) _ _ _ t149 [.int .i64 t149] from rfl) (Reps.none _ _))))); (intro v151 w24 ho25 hb hg_ hnew_); (clear hg_ hnew_); ((first | rw [← Ny150.out] at ho25 | (simp only [Int.reduceToNat] at ho25; rw [← Ny150.out] at ho25))); (have HO152 := Aside0.mk (Kd.R_lower ho25 (below_size (mvW HB.out)))); (replace BK146 := Aside0.mk (blk_below (mvB BK146.out) hb)); (replace BK147 := Aside0.mk (blk_below (mvB BK147.out) hb)); (replace HB := Aside0.mk (below_step (mvW HB.out) hb)); (clear hb ho25); (obtain ⟨Ao26, co26, eo26⟩ := Kd.R_slice HO152.out); ((first | subst eo26 | (injection eo26 with f1_ f2_ f3_; have f4_ := f1_.symm; have f5_ := f3_.symm; clear f1_ f2_ f3_; subst f4_; subst f5_))); (refine hK.out _ _ (ap10 (bc10 BK146.out) (bc10 BK147.out)) (fun hHeld => ?_)); (clear hK K); (refine norm_ (a' := ?_) ?_ ?_); (rotate_left)
    · (show Act.put _ (some 9) _ = _); (simp only [sA]); (rfl)
    (refine one_ (i := 5) (N := some 10) (bv 6 27) rfl rfl (one_of HT_.out (by kernel_rfl)) (by decide) (fun K hK => ?_)); (refine goes_ Try.func13 (by kernel_rfl) rfl #[.int .i64 0, .slice Ao26 y150.length co26] (by rfl) rfl rfl (by (try simp only [List.map_toArray, List.map_cons, List.map_nil]); first | done | rfl | (simp only [List.length_drop, List.length_take]; rfl) | (simp only [*]; rfl)) ?_); (with_reducible refine (api_Errno.calls k 0 _ _ y150 false _ ?side1 ?side2 A5.out).mono ?_); ((case side1 => repeat (first | exact (Kd.R_reads' HO152.out).2.2 | (with_reducible refine Kd.C_alloc ?_ _) | (with_reducible refine Kd.C_drewN ?_ _) | (with_reducible refine Kd.C_drew ?_)))); ((case side2 => exact (Kd.R_reads' HO152.out).2.1)); (rintro e w' ⟨rfl, ⟨nd, rfl⟩⟩); (refine ⟨_, rfl, ?_⟩); (refine hK.out _ _ (ap10 (bc10 BK146.out) (bc10 BK147.out)) (fun hHeld => ?_)); (clear hK K); (refine norm_ (a' := ?_) ?_ ?_); (rotate_left)
    · (show Act.put _ (some 10) _ = _); (simp only [sA]); (rfl)
    (refine pure_ (i := 6) (N := some 11) (v := ?_) (a' := ?_) (bv 7 26) rfl rfl (any_of HT_.out (by kernel_rfl)) (fun _ _ _ h => h) (Or.inl ⟨by rfl, ?_⟩) ?_ ?_); (rotate_left)
    · (intro w'); (go_simp); (with_reducible rfl)
    rotate_left
    · (simp only [sA]); (rfl)
    (refine pure_ (i := 7) (N := some 12) (v := undef) (a' := ?_) (bv 8 25) rfl rfl (any_of HT_.out (by kernel_rfl)) (fun _ _ _ h => h) (Or.inr ⟨by rfl, rfl⟩) ?_ ?_); (rotate_left)
    · (simp only [sA]); (rfl)
    (refine pure_ (i := 8) (N := some 13) (v := undef) (a' := ?_) (bv 9 24) rfl rfl (any_of HT_.out (by kernel_rfl)) (fun _ _ _ h => h) (Or.inr ⟨by rfl, rfl⟩) ?_ ?_); (rotate_left)
    · (simp only [sA]); (rfl)
    (refine pure_ (i := 9) (N := some 14) (v := undef) (a' := ?_) (bv 10 23) rfl rfl (any_of HT_.out (by kernel_rfl)) (fun _ _ _ h => h) (Or.inr ⟨by rfl, rfl⟩) ?_ ?_); (rotate_left)
    · (simp only [sA]); (rfl)
    (refine pure_ (i := 10) (N := some 15) (v := undef) (a' := ?_) (bv 11 22) rfl rfl (any_of HT_.out (by kernel_rfl)) (fun _ _ _ h => h) (Or.inr ⟨by rfl, rfl⟩) ?_ ?_); (rotate_left)
    · (simp only [sA]); (rfl)
    (refine pure_ (i := 11) (N := some 16) (v := undef) (a' := ?_) (bv 12 21) rfl rfl (any_of HT_.out (by kernel_rfl)) (fun _ _ _ h => h) (Or.inr ⟨by rfl, rfl⟩) ?_ ?_); (rotate_left)
    · (simp only [sA]); (rfl)
    (refine pure_ (i := 12) (N := some 17) (v := undef) (a' := ?_) (bv 13 20) rfl rfl (any_of HT_.out (by kernel_rfl)) (fun _ _ _ h => h) (Or.inr ⟨by rfl, rfl⟩) ?_ ?_); (rotate_left)
    · (simp only [sA]); (rfl)
    (refine pure_ (i := 13) (N := some 18) (v := undef) (a' := ?_) (bv 14 19) rfl rfl (any_of HT_.out (by kernel_rfl)) (fun _ _ _ h => h) (Or.inr ⟨by rfl, rfl⟩) ?_ ?_); (rotate_left)
    · (simp only [sA]); (rfl)
    (refine pure_ (i := 14) (N := some 19) (v := undef) (a' := ?_) (bv 15 18) rfl rfl (any_of HT_.out (by kernel_rfl)) (fun _ _ _ h => h) (Or.inr ⟨by rfl, rfl⟩) ?_ ?_); (rotate_left)
    · (simp only [sA]); (rfl)
    (refine pure_ (i := 15) (N := some 20) (v := undef) (a' := ?_) (bv 16 17) rfl rfl (any_of HT_.out (by kernel_rfl)) (fun _ _ _ h => h) (Or.inr ⟨by rfl, rfl⟩) ?_ ?_); (rotate_left)
    · (simp only [sA]); (rfl)
    (refine pure_ (i := 16) (N := some 21) (v := undef) (a' := ?_) (bv 17 16) rfl rfl (any_of HT_.out (by kernel_rfl)) (fun _ _ _ h => h) (Or.inr ⟨by rfl, rfl⟩) ?_ ?_); (rotate_left)
    · (simp only [sA]); (rfl)
    (refine pure_ (i := 17) (N := some 22) (v := undef) (a' := ?_) (bv 18 15) rfl rfl (any_of HT_.out (by kernel_rfl)) (fun _ _ _ h => h) (Or.inr ⟨by rfl, rfl⟩) ?_ ?_); (rotate_left)
    · (simp only [sA]); (rfl)
    (refine pure_ (i := 18) (N := some 23) (v := undef) (a' := ?_) (bv 19 14) rfl rfl (any_of HT_.out (by kernel_rfl)) (fun _ _ _ h => h) (Or.inr ⟨by rfl, rfl⟩) ?_ ?_); (rotate_left)
    · (simp only [sA]); (rfl)
    (refine pure_ (i := 19) (N := some 24) (v := undef) (a' := ?_) (bv 20 13) rfl rfl (any_of HT_.out (by kernel_rfl)) (fun _ _ _ h => h) (Or.inr ⟨by rfl, rfl⟩) ?_ ?_); (rotate_left)
    · (simp only [sA]); (rfl)
    (refine pure_ (i := 20) (N := some 25) (v := undef) (a' := ?_) (bv 21 12) rfl rfl (any_of HT_.out (by kernel_rfl)) (fun _ _ _ h => h) (Or.inr ⟨by rfl, rfl⟩) ?_ ?_); (rotate_left)
    · (simp only [sA]); (rfl)
    (refine pure_ (i := 21) (N := some 26) (v := undef) (a' := ?_) (bv 22 11) rfl rfl (any_of HT_.out (by kernel_rfl)) (fun _ _ _ h => h) (Or.inr ⟨by rfl, rfl⟩) ?_ ?_); (rotate_left)
    · (simp only [sA]); (rfl)
    (refine pure_ (i := 22) (N := some 27) (v := undef) (a' := ?_) (bv 23 10) rfl rfl (any_of HT_.out (by kernel_rfl)) (fun _ _ _ h => h) (Or.inr ⟨by rfl, rfl⟩) ?_ ?_); (rotate_left)
    · (simp only [sA]); (rfl)
    (refine pure_ (i := 23) (N := some 28) (v := undef) (a' := ?_) (bv 24 9) rfl rfl (any_of HT_.out (by kernel_rfl)) (fun _ _ _ h => h) (Or.inr ⟨by rfl, rfl⟩) ?_ ?_); (rotate_left)
    · (simp only [sA]); (rfl)
    (refine pure_ (i := 24) (N := some 29) (v := undef) (a' := ?_) (bv 25 8) rfl rfl (any_of HT_.out (by kernel_rfl)) (fun _ _ _ h => h) (Or.inr ⟨by rfl, rfl⟩) ?_ ?_); (rotate_left)
    · (simp only [sA]); (rfl)
    (refine pure_ (i := 25) (N := some 30) (v := undef) (a' := ?_) (bv 26 7) rfl rfl (any_of HT_.out (by kernel_rfl)) (fun _ _ _ h => h) (Or.inr ⟨by rfl, rfl⟩) ?_ ?_); (rotate_left)
    · (simp only [sA]); (rfl)
    (refine pure_ (i := 26) (N := some 31) (v := undef) (a' := ?_) (bv 27 6) rfl rfl (any_of HT_.out (by kernel_rfl)) (fun _ _ _ h => h) (Or.inr ⟨by rfl, rfl⟩) ?_ ?_); (rotate_left)
    · (simp only [sA]); (rfl)
    (refine pure_ (i := 27) (N := some 32) (v := undef) (a' := ?_) (bv 28 5) rfl rfl (any_of HT_.out (by kernel_rfl)) (fun _ _ _ h => h) (Or.inr ⟨by rfl, rfl⟩) ?_ ?_); (rotate_left)
    · (simp only [sA]); (rfl)
    (refine pure_ (i := 28) (N := some 33) (v := undef) (a' := ?_) (bv 29 4) rfl rfl (any_of HT_.out (by kernel_rfl)) (fun _ _ _ h => h) (Or.inr ⟨by rfl, rfl⟩) ?_ ?_); (rotate_left)
    · (simp only [sA]); (rfl)
    (refine pure_ (i := 29) (N := some 34) (v := undef) (a' := ?_) (bv 30 3) rfl rfl (any_of HT_.out (by kernel_rfl)) (fun _ _ _ h => h) (Or.inr ⟨by rfl, rfl⟩) ?_ ?_); (rotate_left)
    · (simp only [sA]); (rfl)
    (refine pure_ (i := 30) (N := some 35) (v := undef) (a' := ?_) (bv 31 2) rfl rfl (any_of HT_.out (by kernel_rfl)) (fun _ _ _ h => h) (Or.inr ⟨by rfl, rfl⟩) ?_ ?_); (rotate_left)
    · (simp only [sA]); (rfl)
    (refine pure_ (i := 31) (N := some 36) (v := ?_) (a' := ?_) (bv 32 1) rfl rfl (any_of HT_.out (by kernel_rfl)) (fun _ _ _ h => h) (Or.inl ⟨by rfl, ?_⟩) ?_ ?_); (rotate_left)
    · (intro w'); (go_simp); (with_reducible rfl)
    rotate_left
    · (simp only [sA]); (rfl)
    (refine pure_ (i := 32) (N := some 4) (v := ?_) (a' := ?_) (bv 33 0) rfl rfl (any_of HT_.out (by kernel_rfl)) (fun _ _ _ h => h) (Or.inl ⟨by rfl, ?_⟩) ?_ ?_); (rotate_left)
    · (intro w'); (go_simp); (with_reducible rfl)
    rotate_left
    · (simp only [sA]); (rfl)
    (refine done_ (done_of HT_.out (by kernel_rfl)) ?_); (try go_wp2); (go_ret); (exact ⟨by first | rfl | (simp [errW_none, errW_some] <;> rfl) | (simp [*, errW_none, errW_some] <;> rfl), by repeat (first | (with_reducible first | exact HB.out | apply below_alloc | apply pw_below_drewN | apply below_drew1 | refine below_set ?_ GE146.out | refine below_set ?_ GE147.out) | exact HB.out)⟩)

/-! ### cells_cell_size: function 40 -/
def cells_cell_size.f (a0_0 : ByteArray) (a0_1 : ByteArray) : Option (Int) := some (wrap64 ((wrap64 (4 + (a0_0.size : Int))) + (a0_1.size : Int)))
set_option maxHeartbeats 8000000 in
set_option maxRecDepth 100000 in
theorem cells_cell_size.calls (a0_0 : ByteArray) (a0_1 : ByteArray) (r : Int) (w : World) (h : cells_cell_size.f a0_0 a0_1 = some r) :
    Calls Try.prog 40 #[.agg #[.string a0_0, .string a0_1]] w fun e w' => e = .returned (.int .i64 r) ∧ Below w.heap.size w w' := by
  (have hu74 := Try.underlying74); (have HB := Aside0.mk (Below.refl w.heap.size w)); (have H : (some (wrap64 ((wrap64 (4 + (a0_0.size : Int))) + (a0_1.size : Int)))) = some r := h); (clear h); (obtain rfl := Option.some.inj H); (go_enter Try.func40, Try.ntmps40); (go_wp2_with (first | ((with_reducible refine gate_dst (N := 1) rfl ?_); refine box_event ?hg (N := 1) ?hd (cs := #[.string a0_0, .string a0_1]) (t := 74) ?hr ?_; (case hd => rfl); (case hg => rfl); (case hr => first | (go_simp; done) | (go_simp; rfl)); intro gb158 hg w2 hbox hb; have BK158 := Aside0.mk (hbox); have GW158 := Aside0.mk ((by rw [hg]; exact (below_size (mvW HB.out)) : w.heap.size ≤ gb158)); have GE158 := Aside0.mk ((by rw [hg]; exact (below_size (mvW HB.out)) : w.heap.size ≤ gb158)); replace HB := Aside0.mk (below_step (mvW HB.out) hb); clear hb hbox hg; obtain ⟨Z3_0, Z3_1⟩ := bc2 BK158.out; obtain ⟨Y3_0, Y3_1⟩ := bf2 BK158.out))); (go_ret); (exact ⟨by first | rfl | (simp [errW_none, errW_some] <;> rfl) | (simp [*, errW_none, errW_some] <;> rfl), by repeat (first | (with_reducible first | exact HB.out | apply below_alloc | apply pw_below_drewN | apply below_drew1 | refine below_set ?_ GE158.out) | exact HB.out)⟩)

/-! ### cells_Size: function 16 -/
def cells_Size.l0 : Nat → Int → List (S42) → Int → Int → Option (Int)
  | 0, _, _, _, _ => none
  | k + 1, x3, x6, x7, x8 => if x8 < x7 then (if 0 ≤ x8 then (if x8 < (x6.length : Int) then ((cells_cell_size.f ((rd_T42 x6 x8).f0) ((rd_T42 x6 x8).f1)).bind fun t161 => (cells_Size.l0 k (wrap64 (x3 + t161)) x6 x7 (wrap64 (x8 + 1)))) else (none)) else (none)) else (some x3)
def cells_Size.f (k : Nat) (l0 : List (S42)) : Option (Int) := cells_Size.l0 k 0 l0 (l0.length : Int) 0
theorem cells_Size.mono_l : ∀ k, (∀ y0 y1 y2 y3, LeO (cells_Size.l0 k y0 y1 y2 y3) (cells_Size.l0 (k + 1) y0 y1 y2 y3))
  | 0 => fun _ _ _ _ r h => by simp [cells_Size.l0] at h
  | k + 1 => by
    have ih0 := cells_Size.mono_l k
    · intro y0 y1 y2 y3
      unfold cells_Size.l0
      repeat' first
      | (with_reducible exact ih0 _ _ _ _)
      | (with_reducible exact LeO.refl _)
      | (with_reducible exact LeO.none _)
      | (with_reducible refine LeO.ite ?_ ?_)
      | (with_reducible refine LeO.bind ?_ (fun _ => ?_))
      | exact ih0 _ _ _ _
      | exact LeO.none _
      | refine LeO.ite ?_ ?_
      | refine LeO.bind ?_ (fun _ => ?_)
theorem cells_Size.mono : ∀ a0 k, LeO (cells_Size.f k a0) (cells_Size.f (k + 1) a0) := by
  intro a0 k
  have ih0 := cells_Size.mono_l k
  unfold cells_Size.f
  repeat' first
      | (with_reducible exact ih0 _ _ _ _)
      | (with_reducible exact LeO.refl _)
      | (with_reducible exact LeO.none _)
      | (with_reducible refine LeO.ite ?_ ?_)
      | (with_reducible refine LeO.bind ?_ (fun _ => ?_))
      | exact ih0 _ _ _ _
      | exact LeO.none _
      | refine LeO.ite ?_ ?_
      | refine LeO.bind ?_ (fun _ => ?_)
set_option maxHeartbeats 8000000 in
set_option maxRecDepth 100000 in
theorem cells_Size.calls (k : Nat) (A0 : Option Addr) (c0 : Nat) (l0 : List (S42)) (r : Int) (w : World) (hr0 : Kd.C k42 w A0 l0.length l0) (hc0 : l0.length ≤ c0) (h : cells_Size.f k l0 = some r) :
    Calls Try.prog 16 #[.slice A0 l0.length c0] w fun e w' => e = .returned (.int .i64 r) ∧ Below w.heap.size w w' := by
  (have hu42 := Try.underlying42); (have HR0 := Aside0.mk hr0); (have HC0 := Aside0.mk hc0); (clear hr0 hc0); (have HB := Aside0.mk (Below.refl w.heap.size w)); (have H : (cells_Size.l0 k 0 l0 (l0.length : Int) 0) = some r := h); (clear h); (have H' := Aside0.mk H); (clear H); (go_enter Try.func16, Try.ntmps16); (go_wp2); (go_loopg [3, 8] k (fun kq v3 v8 w' => ∃ (x3_1 : Int) (x8_1 : Int), v3 = .int .i64 x3_1 ∧ v8 = .int .i64 x8_1 ∧ Aside0 (cells_Size.l0 kq x3_1 l0 (l0.length : Int) x8_1 = some r) ∧ Aside0 (kq ≤ k) ∧ Aside0 (Below w.heap.size w w')))
  case atStart => exact ⟨(0), (0), (by first | rfl | (simp; done) | (simp [*]; done)), (by first | rfl | (simp; done) | (simp [*]; done)), H', ⟨Nat.le_refl _⟩, ⟨mvW HB.out⟩⟩
  case round =>
    (clear H'); (try clear c1); (obtain ⟨x3_1, x8_1, rfl, rfl, HA, HK1, HB⟩ := hrel)
    cases gk with
    | zero => exact absurd HA.out (by simp [cells_Size.l0])
    | succ k1 =>
      (have H := HA.out); (clear HA); (simp only [cells_Size.l0] at H); (by_cases c2 : x8_1 < (l0.length : Int))
      · (rw [if_pos c2] at H); (have c2b0 : decide (x8_1 < (l0.length : Int)) = true := decide_eq_true c2); (clear c2); (by_cases c3 : 0 ≤ x8_1)
        · (rw [if_pos c3] at H); (have c3b0 : decide (0 ≤ x8_1) = true := decide_eq_true c3); (clear c3); (by_cases c4 : x8_1 < (l0.length : Int))
          · (rw [if_pos c4] at H); (have c4b0 : decide (x8_1 < (l0.length : Int)) = true := decide_eq_true c4); (clear c4); (replace H := Option.bind_eq_some_iff.mp H); (obtain ⟨t161, A50, H⟩ := H); (replace H : (cells_Size.l0 k1 (wrap64 (x3_1 + t161)) l0 (l0.length : Int) (wrap64 (x8_1 + 1))) = some r := H); (have A5 := Aside0.mk A50); (clear A50); (have H' := Aside0.mk H); (clear H); (have p159 : 0 ≤ (x8_1 : Int) := of_decide_eq_true (by first | (with_reducible assumption) | assumption)); (have q159 : x8_1 < (l0.length : Int) := of_decide_eq_true (by first | (with_reducible assumption) | assumption)); (obtain ⟨ad159, e159, hx159_0, hx159_1⟩ := at_T42 HR0.out x8_1 p159 q159); (cases e159); (replace hx159_0 := (HB.out.cell (World.block_lt_of_cell? w _ hx159_0)).trans hx159_0); (replace hx159_1 := (HB.out.cell (World.block_lt_of_cell? w _ hx159_1)).trans hx159_1); (replace p159 := eq_true p159); (replace q159 := eq_true q159); (go_wp2_with (first | ((with_reducible refine gate_dst (N := 5) rfl ?_); refine box_event ?hg (N := 5) ?hd (cs := #[.string (⟨#[]⟩ : ByteArray), .string (⟨#[]⟩ : ByteArray)]) (t := 42) ?hr ?_; (case hd => rfl); (case hg => rfl); (case hr => first | (go_simp; done) | (go_simp; rfl)); intro gb160 hg w6 hbox hb; have BK160 := Aside0.mk (hbox); have GW160 := Aside0.mk ((by rw [hg]; exact (below_size (mvW HB.out)) : w.heap.size ≤ gb160)); have GE160 := Aside0.mk ((by rw [hg]; exact (below_size (mvW HB.out)) : w.heap.size ≤ gb160)); replace HB := Aside0.mk (below_step (mvW HB.out) hb); clear hb hbox hg; obtain ⟨Z7_0, Z7_1⟩ := bc2 BK160.out; obtain ⟨Y7_0, Y7_1⟩ := bf2 BK160.out) | ((with_reducible refine gate_callee (f := 40) rfl ?_); refine goesL_ (some 14) rfl rfl Try.func40 (by kernel_rfl) rfl #[.agg #[.string ((rd_T42 l0 x8_1).f0), .string ((rd_T42 l0 x8_1).f1)]] rfl (by (try simp only [List.map_toArray, List.map_cons, List.map_nil]); first | done | rfl | (simp only [List.length_drop, List.length_take]; rfl) | (simp only [*]; rfl)) ?_; (with_reducible refine (cells_cell_size.calls ((rd_T42 l0 x8_1).f0) ((rd_T42 l0 x8_1).f1) t161 _ A5.out).mono ?_); rintro e w8 ⟨rfl, hb⟩; refine ⟨_, rfl, ?_⟩; replace BK160 := Aside0.mk (blk_below (g := gb160) (o := .cells #[.string ((rd_T42 l0 x8_1).f0), .string ((rd_T42 l0 x8_1).f1)] 42 (0, 0)) (by (with_reducible repeat (first | refine blk_drewN ?_ _ | refine blk_drew ?_ | refine blk_alloc ?_ _)); refine blk_put (cs := #[.string ((rd_T42 l0 x8_1).f0), .string (⟨#[]⟩ : ByteArray)]) ?_ 1 _ rfl; (with_reducible repeat (first | refine blk_drewN ?_ _ | refine blk_drew ?_ | refine blk_alloc ?_ _)); refine blk_put (cs := #[.string (⟨#[]⟩ : ByteArray), .string (⟨#[]⟩ : ByteArray)]) ?_ 0 _ rfl; (with_reducible repeat (first | refine blk_drewN ?_ _ | refine blk_drew ?_ | refine blk_alloc ?_ _)); exact BK160.out) hb); replace HB := Aside0.mk (below_step (mvW HB.out) hb); (try clear hb); (try clear hb2); (try clear hk); (try clear hi)))); (go_roundg k1)
            case measure => have := HK1.out; omega
            case rel => exact ⟨(wrap64 (x3_1 + t161)), (wrap64 (x8_1 + 1)), (by first | rfl | (simp; done) | (simp [*]; done)), (by first | rfl | (simp; done) | (simp [*]; done)), H', ⟨by have := HK1.out; omega⟩, ⟨mvW HB.out⟩⟩
          · (rw [if_neg c4] at H); (exact absurd H (by simp))
        · (rw [if_neg c3] at H); (exact absurd H (by simp))
      · (rw [if_neg c2] at H); (have c2b0 : decide (x8_1 < (l0.length : Int)) = false := decide_eq_false c2); (clear c2); (obtain rfl := Option.some.inj H); (go_wp2); (go_ret); (exact ⟨by first | rfl | (simp [errW_none, errW_some] <;> rfl) | (simp [*, errW_none, errW_some] <;> rfl), by repeat (first | (with_reducible first | exact HB.out | apply below_alloc | apply pw_below_drewN | apply below_drew1) | exact HB.out)⟩)

/-! ### merge_Under: function 8 -/
def merge_Under.f (k : Nat) (a0_0 : Int) (a0_1 : Int) (a0_2 : Int) (a0_3 : ByteArray) (a0_4 : ByteArray) (a0_5 : Bool) (a0_6 : Int) (a0_7 : Int) (l0_8 : List Int) (l0_9 : List (S42)) (a1_0 : Int) (a1_1 : Int) (a1_2 : Int) (a1_3 : ByteArray) (a1_4 : ByteArray) (a1_5 : Bool) (a1_6 : Int) (a1_7 : Int) (l1_8 : List Int) (l1_9 : List (S42)) (a2 : Int) : Option (Bool) := (merge_Beside.f k a0_0 a0_1 a0_2 a0_3 a0_4 a0_5 a0_6 a0_7 l0_8 l0_9 a1_0 a1_1 a1_2 a1_3 a1_4 a1_5 a1_6 a1_7 l1_8 l1_9).bind fun t164 => (if t164 = true then ((cells_Size.f k l0_9).bind fun t165 => ((cells_Size.f k l1_9).bind fun t166 => (some (decide ((wrap64 (t165 + t166)) ≤ a2))))) else (some false))
theorem merge_Under.mono : ∀ a0 a1 a2 a3 a4 a5 a6 a7 a8 a9 a10 a11 a12 a13 a14 a15 a16 a17 a18 a19 a20 k, LeO (merge_Under.f k a0 a1 a2 a3 a4 a5 a6 a7 a8 a9 a10 a11 a12 a13 a14 a15 a16 a17 a18 a19 a20) (merge_Under.f (k + 1) a0 a1 a2 a3 a4 a5 a6 a7 a8 a9 a10 a11 a12 a13 a14 a15 a16 a17 a18 a19 a20) := by
  intro a0 a1 a2 a3 a4 a5 a6 a7 a8 a9 a10 a11 a12 a13 a14 a15 a16 a17 a18 a19 a20 k
  unfold merge_Under.f
  repeat' first
      | (with_reducible exact cells_Size.mono _ _)
      | (with_reducible exact merge_Beside.mono _ _ _ _ _ _ _ _ _ _ _ _ _ _ _ _ _ _ _ _ _)
      | (with_reducible exact LeO.refl _)
      | (with_reducible exact LeO.none _)
      | (with_reducible refine LeO.ite ?_ ?_)
      | (with_reducible refine LeO.bind ?_ (fun _ => ?_))
      | exact cells_Size.mono _ _
      | exact merge_Beside.mono _ _ _ _ _ _ _ _ _ _ _ _ _ _ _ _ _ _ _ _ _
      | exact LeO.none _
      | refine LeO.ite ?_ ?_
      | refine LeO.bind ?_ (fun _ => ?_)
def merge_Under.T1 : Bool × List (List Nat × List Nat) := (true, [([], []), ([], []), ([0, 1], [0, 1]), ([2, 2], [2]), ([3], [3]), ([4, 3], [3, 4]), ([5, 3, 3], [3, 5]), ([3], [3]), ([7, 3], [3, 7]), ([8, 6, 3], [3, 8]), ([6, 9, 3], [3, 6, 9]), ([3], [3]), ([10, 11, 3], [3, 10, 11]), ([3, 12], [3, 12]), ([13, 9, 0, 1, 2, 3, 4, 5, 6, 7, 8, 9, 10, 11, 12, 13], [13])])
def merge_Under.B1 : List Nat := [0, 0, 3, 7, 15, 31, 63, 15, 143, 511, 1023, 15, 4095, 8191, 16383]
theorem merge_Under.tab1 : rtab .any (opsOf Try.f8 1) = merge_Under.T1 := by kernel_rfl
theorem merge_Under.bits1 : waitsOk merge_Under.T1.2 merge_Under.B1 = true := by kernel_rfl
set_option maxHeartbeats 8000000 in
set_option maxRecDepth 100000 in
theorem merge_Under.calls (k : Nat) (a0_0 : Int) (a0_1 : Int) (a0_2 : Int) (a0_3 : ByteArray) (a0_4 : ByteArray) (a0_5 : Bool) (a0_6 : Int) (a0_7 : Int) (A0_8 : Option Addr) (c0_8 : Nat) (l0_8 : List Int) (A0_9 : Option Addr) (c0_9 : Nat) (l0_9 : List (S42)) (a1_0 : Int) (a1_1 : Int) (a1_2 : Int) (a1_3 : ByteArray) (a1_4 : ByteArray) (a1_5 : Bool) (a1_6 : Int) (a1_7 : Int) (A1_8 : Option Addr) (c1_8 : Nat) (l1_8 : List Int) (A1_9 : Option Addr) (c1_9 : Nat) (l1_9 : List (S42)) (a2 : Int) (r : Bool) (w : World) (hr0_8 : Kd.C (Kd.int .u64) w A0_8 l0_8.length l0_8) (hc0_8 : l0_8.length ≤ c0_8) (hr0_9 : Kd.C k42 w A0_9 l0_9.length l0_9) (hc0_9 : l0_9.length ≤ c0_9) (hr1_8 : Kd.C (Kd.int .u64) w A1_8 l1_8.length l1_8) (hc1_8 : l1_8.length ≤ c1_8) (hr1_9 : Kd.C k42 w A1_9 l1_9.length l1_9) (hc1_9 : l1_9.length ≤ c1_9) (h : merge_Under.f k a0_0 a0_1 a0_2 a0_3 a0_4 a0_5 a0_6 a0_7 l0_8 l0_9 a1_0 a1_1 a1_2 a1_3 a1_4 a1_5 a1_6 a1_7 l1_8 l1_9 a2 = some r) :
    Calls Try.prog 8 #[.agg #[.int .u64 a0_0, .int .u64 a0_1, .int .u8 a0_2, .string a0_3, .string a0_4, .bool a0_5, .int .u64 a0_6, .int .u64 a0_7, .slice A0_8 l0_8.length c0_8, .slice A0_9 l0_9.length c0_9], .agg #[.int .u64 a1_0, .int .u64 a1_1, .int .u8 a1_2, .string a1_3, .string a1_4, .bool a1_5, .int .u64 a1_6, .int .u64 a1_7, .slice A1_8 l1_8.length c1_8, .slice A1_9 l1_9.length c1_9], .int .i64 a2] w fun e w' => e = .returned (.bool r) ∧ Below w.heap.size w w' := by
  (have hu28 := Try.underlying28); (have HR0_8 := Aside0.mk hr0_8); (have HC0_8 := Aside0.mk hc0_8); (clear hr0_8 hc0_8); (have HR0_9 := Aside0.mk hr0_9); (have HC0_9 := Aside0.mk hc0_9); (clear hr0_9 hc0_9); (have HR1_8 := Aside0.mk hr1_8); (have HC1_8 := Aside0.mk hc1_8); (clear hr1_8 hc1_8); (have HR1_9 := Aside0.mk hr1_9); (have HC1_9 := Aside0.mk hc1_9); (clear hr1_9 hc1_9); (have HB := Aside0.mk (Below.refl w.heap.size w)); (have H : ((merge_Beside.f k a0_0 a0_1 a0_2 a0_3 a0_4 a0_5 a0_6 a0_7 l0_8 l0_9 a1_0 a1_1 a1_2 a1_3 a1_4 a1_5 a1_6 a1_7 l1_8 l1_9).bind fun t164 => (if t164 = true then ((cells_Size.f k l0_9).bind fun t165 => ((cells_Size.f k l1_9).bind fun t166 => (some (decide ((wrap64 (t165 + t166)) ≤ a2))))) else (some false))) = some r := h); (clear h); (replace H := Option.bind_eq_some_iff.mp H); (obtain ⟨t164, A40, H⟩ := H); (replace H : (if t164 = true then ((cells_Size.f k l0_9).bind fun t165 => ((cells_Size.f k l1_9).bind fun t166 => (some (decide ((wrap64 (t165 + t166)) ≤ a2))))) else (some false)) = some r := H); (have A4 := Aside0.mk A40); (clear A40); (by_cases c5 : t164 = true)
  · (subst c5); (have H1 : ((cells_Size.f k l0_9).bind fun t165 => ((cells_Size.f k l1_9).bind fun t166 => (some (decide ((wrap64 (t165 + t166)) ≤ a2))))) = some r := by rw [if_pos rfl] at H; exact H); (clear H); (have H := H1); (clear H1); (replace H := Option.bind_eq_some_iff.mp H); (obtain ⟨t165, A60, H⟩ := H); (replace H : ((cells_Size.f k l1_9).bind fun t166 => (some (decide ((wrap64 (t165 + t166)) ≤ a2)))) = some r := H); (have A6 := Aside0.mk A60); (clear A60); (replace H := Option.bind_eq_some_iff.mp H); (obtain ⟨t166, A70, H⟩ := H); (replace H : (some (decide ((wrap64 (t165 + t166)) ≤ a2))) = some r := H); (have A7 := Aside0.mk A70); (clear A70); (obtain rfl := Option.some.inj H); (go_enter Try.func8, Try.ntmps8); (try go_wp2_with (first | ((with_reducible refine gate_dst (N := 3) rfl ?_); refine box_event ?hg (N := 3) ?hd (cs := #[.int .u64 a0_0, .int .u64 a0_1, .int .u8 a0_2, .string a0_3, .string a0_4, .bool a0_5, .int .u64 a0_6, .int .u64 a0_7, .slice A0_8 l0_8.length c0_8, .slice A0_9 l0_9.length c0_9]) (t := 28) ?hr ?_; (case hd => rfl); (case hg => rfl); (case hr => first | (go_simp; done) | (go_simp; rfl)); intro gb162 hg w8 hbox hb; have BK162 := Aside0.mk (hbox); have GW162 := Aside0.mk ((by rw [hg]; exact (below_size (mvW HB.out)) : w.heap.size ≤ gb162)); have GE162 := Aside0.mk ((by rw [hg]; exact (below_size (mvW HB.out)) : w.heap.size ≤ gb162)); replace HB := Aside0.mk (below_step (mvW HB.out) hb); clear hb hbox hg) | ((with_reducible refine gate_dst (N := 4) rfl ?_); refine box_event ?hg (N := 4) ?hd (cs := #[.int .u64 a1_0, .int .u64 a1_1, .int .u8 a1_2, .string a1_3, .string a1_4, .bool a1_5, .int .u64 a1_6, .int .u64 a1_7, .slice A1_8 l1_8.length c1_8, .slice A1_9 l1_9.length c1_9]) (t := 28) ?hr ?_; (case hd => rfl); (case hg => rfl); (case hr => first | (go_simp; done) | (go_simp; rfl)); intro gb163 hg w9 hbox hb; have BK163 := Aside0.mk (hbox); have GW163 := Aside0.mk ((by rw [hg]; exact (below_size (mvW HB.out)) : w.heap.size ≤ gb163)); have GE163 := Aside0.mk ((by rw [hg]; exact (below_size (mvW HB.out)) : w.heap.size ≤ gb163)); replace HB := Aside0.mk (below_step (mvW HB.out) hb); have NB162_163 := Aside0.mk ((by rw [hg]; exact Nat.ne_of_lt (blk_lt (mvB BK162.out)) : gb162 ≠ gb163)); have NB163_162 := Aside0.mk ((by rw [hg]; exact Nat.ne_of_gt (blk_lt (mvB BK162.out)) : gb163 ≠ gb162)); replace BK162 := Aside0.mk (blk_below (mvB BK162.out) hb); clear hb hbox hg))); (replace BK162 := Aside0.mk (blk_drew BK162.out)); (replace BK163 := Aside0.mk (blk_drew BK163.out)); (replace HB := Aside0.mk (below_drew1 HB.out)); (refine start_ (n := 15) (S := fun w' => w'.cell? ⟨gb162, 0, none⟩ = some (.int .u64 a0_0) ∧ w'.cell? ⟨gb162, 1, none⟩ = some (.int .u64 a0_1) ∧ w'.cell? ⟨gb162, 2, none⟩ = some (.int .u8 a0_2) ∧ w'.cell? ⟨gb162, 3, none⟩ = some (.string a0_3) ∧ w'.cell? ⟨gb162, 4, none⟩ = some (.string a0_4) ∧ w'.cell? ⟨gb162, 5, none⟩ = some (.bool a0_5) ∧ w'.cell? ⟨gb162, 6, none⟩ = some (.int .u64 a0_6) ∧ w'.cell? ⟨gb162, 7, none⟩ = some (.int .u64 a0_7) ∧ w'.cell? ⟨gb162, 8, none⟩ = some (.slice A0_8 l0_8.length c0_8) ∧ w'.cell? ⟨gb162, 9, none⟩ = some (.slice A0_9 l0_9.length c0_9) ∧ w'.cell? ⟨gb163, 0, none⟩ = some (.int .u64 a1_0) ∧ w'.cell? ⟨gb163, 1, none⟩ = some (.int .u64 a1_1) ∧ w'.cell? ⟨gb163, 2, none⟩ = some (.int .u8 a1_2) ∧ w'.cell? ⟨gb163, 3, none⟩ = some (.string a1_3) ∧ w'.cell? ⟨gb163, 4, none⟩ = some (.string a1_4) ∧ w'.cell? ⟨gb163, 5, none⟩ = some (.bool a1_5) ∧ w'.cell? ⟨gb163, 6, none⟩ = some (.int .u64 a1_6) ∧ w'.cell? ⟨gb163, 7, none⟩ = some (.int .u64 a1_7) ∧ w'.cell? ⟨gb163, 8, none⟩ = some (.slice A1_8 l1_8.length c1_8) ∧ w'.cell? ⟨gb163, 9, none⟩ = some (.slice A1_9 l1_9.length c1_9)) (ds := []) #[false, false, false, false, false, false, false, false, false, false, false, false, false, false, false] (by kernel_rfl) rfl rfl (ap10 (bc10 BK162.out) (bc10 BK163.out)) (fun hHeld => ?_); refine with_tabW merge_Under.tab1 merge_Under.bits1 (fun HT_ HW_ => ?_)); (generalize w9.drew = w10 at BK162 BK163 HB hHeld ⊢); (refine take_ (i := 0) (N := some 7) (v := ?_) (a' := ?_) (bv 1 14) rfl rfl (take_ofW HT_.out HW_.out (by kernel_rfl)) (fun _ _ _ h => h) (Or.inl ⟨by rfl, ?_⟩) hHeld ?_ ?_); (rotate_left)
    · (rintro w' ⟨s0, s1, s2, s3, s4, s5, s6, s7, s8, s9, s10, s11, s12, s13, s14, s15, s16, s17, s18, s19⟩); (go_simp); (with_reducible rfl)
    rotate_left
    · (simp only [sA]); (rfl)
    (refine take_ (i := 1) (N := some 8) (v := ?_) (a' := ?_) (bv 2 13) rfl rfl (take_ofW HT_.out HW_.out (by kernel_rfl)) (fun _ _ _ h => h) (Or.inl ⟨by rfl, ?_⟩) hHeld ?_ ?_); (rotate_left)
    · (rintro w' ⟨s0, s1, s2, s3, s4, s5, s6, s7, s8, s9, s10, s11, s12, s13, s14, s15, s16, s17, s18, s19⟩); (go_simp); (with_reducible rfl)
    rotate_left
    · (simp only [sA]); (rfl)
    (refine one_ (i := 2) (N := some 9) (bv 3 12) rfl rfl (one_of HT_.out (by kernel_rfl)) (by decide) (fun K hK => ?_)); (refine goes_ Try.func7 (by kernel_rfl) rfl #[.agg #[.int .u64 a0_0, .int .u64 a0_1, .int .u8 a0_2, .string a0_3, .string a0_4, .bool a0_5, .int .u64 a0_6, .int .u64 a0_7, .slice A0_8 l0_8.length c0_8, .slice A0_9 l0_9.length c0_9], .agg #[.int .u64 a1_0, .int .u64 a1_1, .int .u8 a1_2, .string a1_3, .string a1_4, .bool a1_5, .int .u64 a1_6, .int .u64 a1_7, .slice A1_8 l1_8.length c1_8, .slice A1_9 l1_9.length c1_9]] (by rfl) rfl rfl (by (try simp only [List.map_toArray, List.map_cons, List.map_nil]); first | done | rfl | (simp only [List.length_drop, List.length_take]; rfl) | (simp only [*]; rfl)) ?_); (with_reducible refine (merge_Beside.calls k a0_0 a0_1 a0_2 a0_3 a0_4 a0_5 a0_6 a0_7 _ _ l0_8 _ _ l0_9 a1_0 a1_1 a1_2 a1_3 a1_4 a1_5 a1_6 a1_7 _ _ l1_8 _ _ l1_9 true _ ?side1 ?side2 ?side3 ?side4 ?side5 ?side6 ?side7 ?side8 A4.out).mono ?_); ((case side1 => repeat (first | exact (Kd.C_below HR0_8.out HB.out) | (with_reducible refine Kd.C_alloc ?_ _) | (with_reducible refine Kd.C_drewN ?_ _) | (with_reducible refine Kd.C_drew ?_)))); ((case side2 => exact HC0_8.out)); ((case side3 => repeat (first | exact (Kd.C_below HR0_9.out HB.out) | (with_reducible refine Kd.C_alloc ?_ _) | (with_reducible refine Kd.C_drewN ?_ _) | (with_reducible refine Kd.C_drew ?_)))); ((case side4 => exact HC0_9.out)); ((case side5 => repeat (first | exact (Kd.C_below HR1_8.out HB.out) | (with_reducible refine Kd.C_alloc ?_ _) | (with_reducible refine Kd.C_drewN ?_ _) | (with_reducible refine Kd.C_drew ?_)))); ((case side6 => exact HC1_8.out)); ((case side7 => repeat (first | exact (Kd.C_below HR1_9.out HB.out) | (with_reducible refine Kd.C_alloc ?_ _) | (with_reducible refine Kd.C_drewN ?_ _) | (with_reducible refine Kd.C_drew ?_)))); ((case side8 => exact HC1_9.out)); (rintro e w11 ⟨rfl, hb⟩); (refine ⟨_, rfl, ?_⟩); (replace BK162 := Aside0.mk (blk_below (mvB BK162.out) hb)); (replace BK163 := Aside0.mk (blk_below (mvB BK163.out) hb)); (replace HB := Aside0.mk (below_step (mvW HB.out) hb)); (clear hb); (refine hK.out _ _ (ap10 (bc10 BK162.out) (bc10 BK163.out)) (fun hHeld => ?_)); (clear hK K); (refine norm_ (a' := ?_) ?_ ?_); (rotate_left)
    · (show Act.put _ (some 9) _ = _); (simp only [sA]); (rfl)
    (refine pure_ (i := 3) (N := some 10) (v := ?_) (a' := ?_) (bv 4 11) rfl rfl (any_of HT_.out (by kernel_rfl)) (fun _ _ _ h => h) (Or.inl ⟨by rfl, ?_⟩) ?_ ?_); (rotate_left)
    · (intro w'); (go_simp); (with_reducible rfl)
    rotate_left
    · (simp only [sA]); (rfl)
    (refine pure_ (i := 4) (N := some 11) (v := ?_) (a' := ?_) (bv 5 10) rfl rfl (any_of HT_.out (by kernel_rfl)) (fun _ _ _ h => h) (Or.inl ⟨by rfl, ?_⟩) ?_ ?_); (rotate_left)
    · (intro w'); (go_simp); (with_reducible rfl)
    rotate_left
    · (simp only [sA]); (rfl)
    (refine pure_ (i := 7) (N := some 14) (v := ?_) (a' := ?_) #[true, true, true, true, true, false, false, true, false, false, false, false, false, false, false] rfl rfl (any_of HT_.out (by kernel_rfl)) (fun _ _ _ h => h) (Or.inl ⟨by rfl, ?_⟩) ?_ ?_); (rotate_left)
    · (intro w'); (go_simp); (with_reducible rfl)
    rotate_left
    · (simp only [sA]); (rfl)
    (refine pure_ (i := 11) (N := some 18) (v := ?_) (a' := ?_) #[true, true, true, true, true, false, false, true, false, false, false, true, false, false, false] rfl rfl (any_of HT_.out (by kernel_rfl)) (fun _ _ _ h => h) (Or.inl ⟨by rfl, ?_⟩) ?_ ?_); (rotate_left)
    · (intro w'); (go_simp); (with_reducible rfl)
    rotate_left
    · (simp only [sA]); (rfl)
    (refine take_ (i := 5) (N := some 12) (v := ?_) (a' := ?_) #[true, true, true, true, true, true, false, true, false, false, false, true, false, false, false] rfl rfl (take_ofW HT_.out HW_.out (by kernel_rfl)) (fun _ _ _ h => h) (Or.inl ⟨by rfl, ?_⟩) hHeld ?_ ?_); (rotate_left)
    · (rintro w' ⟨s0, s1, s2, s3, s4, s5, s6, s7, s8, s9, s10, s11, s12, s13, s14, s15, s16, s17, s18, s19⟩); (go_simp); (with_reducible rfl)
    rotate_left
    · (simp only [sA]); (rfl)
    (refine take_ (i := 8) (N := some 15) (v := ?_) (a' := ?_) #[true, true, true, true, true, true, false, true, true, false, false, true, false, false, false] rfl rfl (take_ofW HT_.out HW_.out (by kernel_rfl)) (fun _ _ _ h => h) (Or.inl ⟨by rfl, ?_⟩) hHeld ?_ ?_); (rotate_left)
    · (rintro w' ⟨s0, s1, s2, s3, s4, s5, s6, s7, s8, s9, s10, s11, s12, s13, s14, s15, s16, s17, s18, s19⟩); (go_simp); (with_reducible rfl)
    rotate_left
    · (simp only [sA]); (rfl)
    (refine one_ (i := 6) (N := some 13) #[true, true, true, true, true, true, true, true, true, false, false, true, false, false, false] rfl rfl (one_of HT_.out (by kernel_rfl)) (by decide) (fun K hK => ?_)); (refine goes_ Try.func16 (by kernel_rfl) rfl #[.slice A0_9 l0_9.length c0_9] (by rfl) rfl rfl (by (try simp only [List.map_toArray, List.map_cons, List.map_nil]); first | done | rfl | (simp only [List.length_drop, List.length_take]; rfl) | (simp only [*]; rfl)) ?_); (with_reducible refine (cells_Size.calls k _ _ l0_9 t165 _ ?side1 ?side2 A6.out).mono ?_); ((case side1 => repeat (first | exact (Kd.C_below HR0_9.out HB.out) | (with_reducible refine Kd.C_alloc ?_ _) | (with_reducible refine Kd.C_drewN ?_ _) | (with_reducible refine Kd.C_drew ?_)))); ((case side2 => exact HC0_9.out)); (rintro e w12 ⟨rfl, hb⟩); (refine ⟨_, rfl, ?_⟩); (replace BK162 := Aside0.mk (blk_below (mvB BK162.out) hb)); (replace BK163 := Aside0.mk (blk_below (mvB BK163.out) hb)); (replace HB := Aside0.mk (below_step (mvW HB.out) hb)); (clear hb); (refine hK.out _ _ (ap10 (bc10 BK162.out) (bc10 BK163.out)) (fun hHeld => ?_)); (clear hK K); (refine norm_ (a' := ?_) ?_ ?_); (rotate_left)
    · (show Act.put _ (some 13) _ = _); (simp only [sA]); (rfl)
    (refine one_ (i := 9) (N := some 16) #[true, true, true, true, true, true, true, true, true, true, false, true, false, false, false] rfl rfl (one_of HT_.out (by kernel_rfl)) (by decide) (fun K hK => ?_)); (refine goes_ Try.func16 (by kernel_rfl) rfl #[.slice A1_9 l1_9.length c1_9] (by rfl) rfl rfl (by (try simp only [List.map_toArray, List.map_cons, List.map_nil]); first | done | rfl | (simp only [List.length_drop, List.length_take]; rfl) | (simp only [*]; rfl)) ?_); (with_reducible refine (cells_Size.calls k _ _ l1_9 t166 _ ?side1 ?side2 A7.out).mono ?_); ((case side1 => repeat (first | exact (Kd.C_below HR1_9.out HB.out) | (with_reducible refine Kd.C_alloc ?_ _) | (with_reducible refine Kd.C_drewN ?_ _) | (with_reducible refine Kd.C_drew ?_)))); ((case side2 => exact HC1_9.out)); (rintro e w13 ⟨rfl, hb⟩); (refine ⟨_, rfl, ?_⟩); (replace BK162 := Aside0.mk (blk_below (mvB BK162.out) hb)); (replace BK163 := Aside0.mk (blk_below (mvB BK163.out) hb)); (replace HB := Aside0.mk (below_step (mvW HB.out) hb)); (clear hb); (refine hK.out _ _ (ap10 (bc10 BK162.out) (bc10 BK163.out)) (fun hHeld => ?_)); (clear hK K); (refine norm_ (a' := ?_) ?_ ?_); (rotate_left)
    · (show Act.put _ (some 16) _ = _); (simp only [sA]); (rfl)
    (refine pure_ (i := 10) (N := some 17) (v := ?_) (a' := ?_) (bv 12 3) rfl rfl (any_of HT_.out (by kernel_rfl)) (fun _ _ _ h => h) (Or.inl ⟨by rfl, ?_⟩) ?_ ?_); (rotate_left)
    · (intro w'); (go_simp); (with_reducible rfl)
    rotate_left
    · (simp only [sA]); (rfl)
    (refine pure_ (i := 12) (N := some 19) (v := ?_) (a' := ?_) (bv 13 2) rfl rfl (any_of HT_.out (by kernel_rfl)) (fun _ _ _ h => h) (Or.inl ⟨by rfl, ?_⟩) ?_ ?_); (rotate_left)
    · (intro w'); (go_simp); (with_reducible rfl)
    rotate_left
    · (simp only [sA]); (rfl)
    (refine pure_ (i := 13) (N := some 20) (v := ?_) (a' := ?_) (bv 14 1) rfl rfl (any_of HT_.out (by kernel_rfl)) (fun _ _ _ h => h) (Or.inl ⟨by rfl, ?_⟩) ?_ ?_); (rotate_left)
    · (intro w'); (go_simp); (with_reducible rfl)
    rotate_left
    · (simp only [sA]); (rfl)
    (refine pure_ (i := 14) (N := some 6) (v := ?_) (a' := ?_) (bv 15 0) rfl rfl (any_of HT_.out (by kernel_rfl)) (fun _ _ _ h => h) (Or.inl ⟨by rfl, ?_⟩) ?_ ?_); (rotate_left)
    · (intro w'); (go_simp); (with_reducible rfl)
    rotate_left
    · (simp only [sA]); (rfl)
    (refine done_ (done_of HT_.out (by kernel_rfl)) ?_); (try go_wp2); (go_ret); (exact ⟨by first | rfl | (simp [errW_none, errW_some] <;> rfl) | (simp [*, errW_none, errW_some] <;> rfl), by repeat (first | (with_reducible first | exact HB.out | apply below_alloc | apply pw_below_drewN | apply below_drew1 | refine below_set ?_ GE162.out | refine below_set ?_ GE163.out) | exact HB.out)⟩)
  · (replace c5 := Bool.eq_false_iff.mpr c5); (subst c5); (have H1 : (some false) = some r := by rw [if_neg (show ¬ (false = true) by decide)] at H; exact H); (clear H); (have H := H1); (clear H1); (obtain rfl := Option.some.inj H); (go_enter Try.func8, Try.ntmps8); (try go_wp2_with (first | ((with_reducible refine gate_dst (N := 3) rfl ?_); refine box_event ?hg (N := 3) ?hd (cs := #[.int .u64 a0_0, .int .u64 a0_1, .int .u8 a0_2, .string a0_3, .string a0_4, .bool a0_5, .int .u64 a0_6, .int .u64 a0_7, .slice A0_8 l0_8.length c0_8, .slice A0_9 l0_9.length c0_9]) (t := 28) ?hr ?_; (case hd => rfl); (case hg => rfl); (case hr => first | (go_simp; done) | (go_simp; rfl)); intro gb162 hg w14 hbox hb; have BK162 := Aside0.mk (hbox); have GW162 := Aside0.mk ((by rw [hg]; exact (below_size (mvW HB.out)) : w.heap.size ≤ gb162)); have GE162 := Aside0.mk ((by rw [hg]; exact (below_size (mvW HB.out)) : w.heap.size ≤ gb162)); replace HB := Aside0.mk (below_step (mvW HB.out) hb); clear hb hbox hg) | ((with_reducible refine gate_dst (N := 4) rfl ?_); refine box_event ?hg (N := 4) ?hd (cs := #[.int .u64 a1_0, .int .u64 a1_1, .int .u8 a1_2, .string a1_3, .string a1_4, .bool a1_5, .int .u64 a1_6, .int .u64 a1_7, .slice A1_8 l1_8.length c1_8, .slice A1_9 l1_9.length c1_9]) (t := 28) ?hr ?_; (case hd => rfl); (case hg => rfl); (case hr => first | (go_simp; done) | (go_simp; rfl)); intro gb163 hg w15 hbox hb; have BK163 := Aside0.mk (hbox); have GW163 := Aside0.mk ((by rw [hg]; exact (below_size (mvW HB.out)) : w.heap.size ≤ gb163)); have GE163 := Aside0.mk ((by rw [hg]; exact (below_size (mvW HB.out)) : w.heap.size ≤ gb163)); replace HB := Aside0.mk (below_step (mvW HB.out) hb); have NB162_163 := Aside0.mk ((by rw [hg]; exact Nat.ne_of_lt (blk_lt (mvB BK162.out)) : gb162 ≠ gb163)); have NB163_162 := Aside0.mk ((by rw [hg]; exact Nat.ne_of_gt (blk_lt (mvB BK162.out)) : gb163 ≠ gb162)); replace BK162 := Aside0.mk (blk_below (mvB BK162.out) hb); clear hb hbox hg))); (replace BK162 := Aside0.mk (blk_drew BK162.out)); (replace BK163 := Aside0.mk (blk_drew BK163.out)); (replace HB := Aside0.mk (below_drew1 HB.out)); (refine start_ (n := 15) (S := fun w' => w'.cell? ⟨gb162, 0, none⟩ = some (.int .u64 a0_0) ∧ w'.cell? ⟨gb162, 1, none⟩ = some (.int .u64 a0_1) ∧ w'.cell? ⟨gb162, 2, none⟩ = some (.int .u8 a0_2) ∧ w'.cell? ⟨gb162, 3, none⟩ = some (.string a0_3) ∧ w'.cell? ⟨gb162, 4, none⟩ = some (.string a0_4) ∧ w'.cell? ⟨gb162, 5, none⟩ = some (.bool a0_5) ∧ w'.cell? ⟨gb162, 6, none⟩ = some (.int .u64 a0_6) ∧ w'.cell? ⟨gb162, 7, none⟩ = some (.int .u64 a0_7) ∧ w'.cell? ⟨gb162, 8, none⟩ = some (.slice A0_8 l0_8.length c0_8) ∧ w'.cell? ⟨gb162, 9, none⟩ = some (.slice A0_9 l0_9.length c0_9) ∧ w'.cell? ⟨gb163, 0, none⟩ = some (.int .u64 a1_0) ∧ w'.cell? ⟨gb163, 1, none⟩ = some (.int .u64 a1_1) ∧ w'.cell? ⟨gb163, 2, none⟩ = some (.int .u8 a1_2) ∧ w'.cell? ⟨gb163, 3, none⟩ = some (.string a1_3) ∧ w'.cell? ⟨gb163, 4, none⟩ = some (.string a1_4) ∧ w'.cell? ⟨gb163, 5, none⟩ = some (.bool a1_5) ∧ w'.cell? ⟨gb163, 6, none⟩ = some (.int .u64 a1_6) ∧ w'.cell? ⟨gb163, 7, none⟩ = some (.int .u64 a1_7) ∧ w'.cell? ⟨gb163, 8, none⟩ = some (.slice A1_8 l1_8.length c1_8) ∧ w'.cell? ⟨gb163, 9, none⟩ = some (.slice A1_9 l1_9.length c1_9)) (ds := []) #[false, false, false, false, false, false, false, false, false, false, false, false, false, false, false] (by kernel_rfl) rfl rfl (ap10 (bc10 BK162.out) (bc10 BK163.out)) (fun hHeld => ?_); refine with_tabW merge_Under.tab1 merge_Under.bits1 (fun HT_ HW_ => ?_)); (generalize w15.drew = w16 at BK162 BK163 HB hHeld ⊢); (refine take_ (i := 0) (N := some 7) (v := ?_) (a' := ?_) (bv 1 14) rfl rfl (take_ofW HT_.out HW_.out (by kernel_rfl)) (fun _ _ _ h => h) (Or.inl ⟨by rfl, ?_⟩) hHeld ?_ ?_); (rotate_left)
    · (rintro w' ⟨s0, s1, s2, s3, s4, s5, s6, s7, s8, s9, s10, s11, s12, s13, s14, s15, s16, s17, s18, s19⟩); (go_simp); (with_reducible rfl)
    rotate_left
    · (simp only [sA]); (rfl)
    (refine take_ (i := 1) (N := some 8) (v := ?_) (a' := ?_) (bv 2 13) rfl rfl (take_ofW HT_.out HW_.out (by kernel_rfl)) (fun _ _ _ h => h) (Or.inl ⟨by rfl, ?_⟩) hHeld ?_ ?_); (rotate_left)
    · (rintro w' ⟨s0, s1, s2, s3, s4, s5, s6, s7, s8, s9, s10, s11, s12, s13, s14, s15, s16, s17, s18, s19⟩); (go_simp); (with_reducible rfl)
    rotate_left
    · (simp only [sA]); (rfl)
    (refine one_ (i := 2) (N := some 9) (bv 3 12) rfl rfl (one_of HT_.out (by kernel_rfl)) (by decide) (fun K hK => ?_)); (refine goes_ Try.func7 (by kernel_rfl) rfl #[.agg #[.int .u64 a0_0, .int .u64 a0_1, .int .u8 a0_2, .string a0_3, .string a0_4, .bool a0_5, .int .u64 a0_6, .int .u64 a0_7, .slice A0_8 l0_8.length c0_8, .slice A0_9 l0_9.length c0_9], .agg #[.int .u64 a1_0, .int .u64 a1_1, .int .u8 a1_2, .string a1_3, .string a1_4, .bool a1_5, .int .u64 a1_6, .int .u64 a1_7, .slice A1_8 l1_8.length c1_8, .slice A1_9 l1_9.length c1_9]] (by rfl) rfl rfl (by (try simp only [List.map_toArray, List.map_cons, List.map_nil]); first | done | rfl | (simp only [List.length_drop, List.length_take]; rfl) | (simp only [*]; rfl)) ?_); (with_reducible refine (merge_Beside.calls k a0_0 a0_1 a0_2 a0_3 a0_4 a0_5 a0_6 a0_7 _ _ l0_8 _ _ l0_9 a1_0 a1_1 a1_2 a1_3 a1_4 a1_5 a1_6 a1_7 _ _ l1_8 _ _ l1_9 false _ ?side1 ?side2 ?side3 ?side4 ?side5 ?side6 ?side7 ?side8 A4.out).mono ?_); ((case side1 => repeat (first | exact (Kd.C_below HR0_8.out HB.out) | (with_reducible refine Kd.C_alloc ?_ _) | (with_reducible refine Kd.C_drewN ?_ _) | (with_reducible refine Kd.C_drew ?_)))); ((case side2 => exact HC0_8.out)); ((case side3 => repeat (first | exact (Kd.C_below HR0_9.out HB.out) | (with_reducible refine Kd.C_alloc ?_ _) | (with_reducible refine Kd.C_drewN ?_ _) | (with_reducible refine Kd.C_drew ?_)))); ((case side4 => exact HC0_9.out)); ((case side5 => repeat (first | exact (Kd.C_below HR1_8.out HB.out) | (with_reducible refine Kd.C_alloc ?_ _) | (with_reducible refine Kd.C_drewN ?_ _) | (with_reducible refine Kd.C_drew ?_)))); ((case side6 => exact HC1_8.out)); ((case side7 => repeat (first | exact (Kd.C_below HR1_9.out HB.out) | (with_reducible refine Kd.C_alloc ?_ _) | (with_reducible refine Kd.C_drewN ?_ _) | (with_reducible refine Kd.C_drew ?_)))); ((case side8 => exact HC1_9.out)); (rintro e w17 ⟨rfl, hb⟩); (refine ⟨_, rfl, ?_⟩); (replace BK162 := Aside0.mk (blk_below (mvB BK162.out) hb)); (replace BK163 := Aside0.mk (blk_below (mvB BK163.out) hb)); (replace HB := Aside0.mk (below_step (mvW HB.out) hb)); (clear hb); (refine hK.out _ _ (ap10 (bc10 BK162.out) (bc10 BK163.out)) (fun hHeld => ?_)); (clear hK K); (refine norm_ (a' := ?_) ?_ ?_); (rotate_left)
    · (show Act.put _ (some 9) _ = _); (simp only [sA]); (rfl)
    (refine pure_ (i := 3) (N := some 10) (v := ?_) (a' := ?_) (bv 4 11) rfl rfl (any_of HT_.out (by kernel_rfl)) (fun _ _ _ h => h) (Or.inl ⟨by rfl, ?_⟩) ?_ ?_); (rotate_left)
    · (intro w'); (go_simp); (with_reducible rfl)
    rotate_left
    · (simp only [sA]); (rfl)
    (refine pure_ (i := 4) (N := some 11) (v := undef) (a' := ?_) (bv 5 10) rfl rfl (any_of HT_.out (by kernel_rfl)) (fun _ _ _ h => h) (Or.inr ⟨by rfl, rfl⟩) ?_ ?_); (rotate_left)
    · (simp only [sA]); (rfl)
    (refine pure_ (i := 5) (N := some 12) (v := undef) (a' := ?_) (bv 6 9) rfl rfl (any_of HT_.out (by kernel_rfl)) (fun _ _ _ h => h) (Or.inr ⟨by rfl, rfl⟩) ?_ ?_); (rotate_left)
    · (simp only [sA]); (rfl)
    (refine pure_ (i := 6) (N := some 13) (v := undef) (a' := ?_) (bv 7 8) rfl rfl (any_of HT_.out (by kernel_rfl)) (fun _ _ _ h => h) (Or.inr ⟨by rfl, rfl⟩) ?_ ?_); (rotate_left)
    · (simp only [sA]); (rfl)
    (refine pure_ (i := 7) (N := some 14) (v := undef) (a' := ?_) (bv 8 7) rfl rfl (any_of HT_.out (by kernel_rfl)) (fun _ _ _ h => h) (Or.inr ⟨by rfl, rfl⟩) ?_ ?_); (rotate_left)
    · (simp only [sA]); (rfl)
    (refine pure_ (i := 8) (N := some 15) (v := undef) (a' := ?_) (bv 9 6) rfl rfl (any_of HT_.out (by kernel_rfl)) (fun _ _ _ h => h) (Or.inr ⟨by rfl, rfl⟩) ?_ ?_); (rotate_left)
    · (simp only [sA]); (rfl)
    (refine pure_ (i := 9) (N := some 16) (v := undef) (a' := ?_) (bv 10 5) rfl rfl (any_of HT_.out (by kernel_rfl)) (fun _ _ _ h => h) (Or.inr ⟨by rfl, rfl⟩) ?_ ?_); (rotate_left)
    · (simp only [sA]); (rfl)
    (refine pure_ (i := 10) (N := some 17) (v := undef) (a' := ?_) (bv 11 4) rfl rfl (any_of HT_.out (by kernel_rfl)) (fun _ _ _ h => h) (Or.inr ⟨by rfl, rfl⟩) ?_ ?_); (rotate_left)
    · (simp only [sA]); (rfl)
    (refine pure_ (i := 11) (N := some 18) (v := undef) (a' := ?_) (bv 12 3) rfl rfl (any_of HT_.out (by kernel_rfl)) (fun _ _ _ h => h) (Or.inr ⟨by rfl, rfl⟩) ?_ ?_); (rotate_left)
    · (simp only [sA]); (rfl)
    (refine pure_ (i := 12) (N := some 19) (v := undef) (a' := ?_) (bv 13 2) rfl rfl (any_of HT_.out (by kernel_rfl)) (fun _ _ _ h => h) (Or.inr ⟨by rfl, rfl⟩) ?_ ?_); (rotate_left)
    · (simp only [sA]); (rfl)
    (refine pure_ (i := 13) (N := some 20) (v := ?_) (a' := ?_) (bv 14 1) rfl rfl (any_of HT_.out (by kernel_rfl)) (fun _ _ _ h => h) (Or.inl ⟨by rfl, ?_⟩) ?_ ?_); (rotate_left)
    · (intro w'); (go_simp); (with_reducible rfl)
    rotate_left
    · (simp only [sA]); (rfl)
    (refine pure_ (i := 14) (N := some 6) (v := ?_) (a' := ?_) (bv 15 0) rfl rfl (any_of HT_.out (by kernel_rfl)) (fun _ _ _ h => h) (Or.inl ⟨by rfl, ?_⟩) ?_ ?_); (rotate_left)
    · (intro w'); (go_simp); (with_reducible rfl)
    rotate_left
    · (simp only [sA]); (rfl)
    (refine done_ (done_of HT_.out (by kernel_rfl)) ?_); (try go_wp2); (go_ret); (exact ⟨by first | rfl | (simp [errW_none, errW_some] <;> rfl) | (simp [*, errW_none, errW_some] <;> rfl), by repeat (first | (with_reducible first | exact HB.out | apply below_alloc | apply pw_below_drewN | apply below_drew1 | refine below_set ?_ GE162.out | refine below_set ?_ GE163.out) | exact HB.out)⟩)

/-! ### slices_Clone_uint64_uint64: function 17 -/
def slices_Clone_uint64_uint64.f (l0 : List Int) : Option (List Int) := if l0.length < 17592186044416 then some l0 else none
set_option maxHeartbeats 4000000 in
set_option maxRecDepth 100000 in
theorem slices_Clone_uint64_uint64.calls (A0 : Option Addr) (c0 : Nat) (l0 : List Int) (r : List Int) (w : World) (hr0 : Kd.C (Kd.int .u64) w A0 l0.length l0) (hc0 : l0.length ≤ c0) (h : slices_Clone_uint64_uint64.f l0 = some r) :
    Calls Try.prog 17 #[.slice A0 l0.length c0] w fun e w' => ∃ v0_ : Value, e = .returned (v0_) ∧ Kd.R (Kd.int .u64) 22 w' w.heap.size (fun _ => True) v0_ r ∧ Below w.heap.size w w' := by
  unfold slices_Clone_uint64_uint64.f at h
  by_cases hl : l0.length < 17592186044416
  · rw [if_pos hl] at h
    obtain rfl := Option.some.inj h
    have HL := Aside0.mk hl
    have HR := Aside0.mk hr0
    clear h hl hr0
    rcases A0 with _ | ad
    · obtain rfl : l0 = [] := by
        rcases Nat.eq_zero_or_pos l0.length with h0 | h0
        · exact List.eq_nil_of_length_eq_zero h0
        · obtain ⟨ad, h, _⟩ := HR.out.2.2 h0
          cases h
      have he := fun w => Lib.run_eql_slice_nil (P := Try.prog) w 23 22 none ([] : List Int).length c0 0 0 Try.underlying23
      simp only [Option.isNone, List.length_nil] at he
      go_enter Try.func17, Try.ntmps17
      go_wp2
      go_ret
      exact ⟨_, rfl, Kd.R_nil _ _ _ _ _, Below.refl _ _⟩
    · have he := fun w => Lib.run_eql_slice_nil (P := Try.prog) w 23 22 (some ad) l0.length c0 0 0 Try.underlying23
      simp only [Option.isNone, List.length_nil] at he
      go_enter Try.func17, Try.ntmps17
      go_wp2_with (first | ((with_reducible refine gate_dst (N := 5) rfl ?_); refine Kd.R_lit (Kd.int .u64) _ 22 ?hg (N := 5) ?hd (xs := ([] : List Int)) (inner := []) (ok := fun _ => True) (okp := fun _ => True) ?hr ?hp (fun _ hk => hk) trivial (Below.refl _ _) (Nat.le_refl _) (by simp) ?_; (case hd => rfl); (case hg => rfl); (case hr => first | (go_simp; done) | (go_simp; rfl)); (case hp => exact Reps.none _ _); intro v5 w5 ho5 hb5 hg_ hnew_; clear hg_ hnew_; have HO := Aside0.mk ho5; have HB := Aside0.mk hb5; clear ho5 hb5) | ((with_reducible refine gate_builtin (b := .append) (xs := #[.tmp 5, .tmp 6]) rfl ?_); at_builtin; refine Kd.R_append_rows (Kd.int .u64) (w0 := w) w.heap.size rfl (.tmp 5) (.tmp 6) 23 22 (.int .u64 0) 8 rfl Try.underlying23 info22 rfl (by decide) (by omega) v5 ([] : List Int) l0 _ _ _ (fun _ => True) (fun _ => False) rfl rfl ?aO ?aR (fun _ _ h => h) (fun _ h => h.elim) ?aF ?aB ?aS ?aL ?_; (case aO => exact HO.out); (case aR => exact Kd.C_below HR.out HB.out); (case aF => exact fun _ _ => trivial); (case aB => exact HB.out); (case aS => exact below_size HB.out); (case aL => have := HL.out; simp only [List.length_nil]; omega); intro v6 w6 ho6 hb6 hg6 hat6; rw [List.nil_append] at ho6; have HO6 := Aside0.mk ho6; have HB6 := Aside0.mk hb6; clear ho6 hb6 hg6 hat6))
      go_ret
      exact ⟨_, rfl, HO6.out, HB6.out⟩
  · rw [if_neg hl] at h
    cases h

end Go.Proofs.Ytmfaopjfdedheaa.A
