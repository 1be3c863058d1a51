-- PRINTED by print.py (a twelfth state) out of the translation. Not trusted: Lean checks it.
import Derived.Test.YtebmpoonkmcjfaaMv
import Derived.Test.YtebmpoonkmcjfaaEx0
namespace Go.Proofs.Ytebmpoonkmcjfaa.E
open Go.RowKit Go.Proofs.YtebmpoonkmcjfaaW Go.Proofs.YtebmpoonkmcjfaaW.PrintWords Go.Proofs.YtebmpoonkmcjfaaW.PrintLast Go.Proofs.YtebmpoonkmcjfaaW.PrintMore
attribute [local go_sem] max2_int min2_int max_two min_two max_three min_three max_four min_four   -- for this text's walks alone
set_option linter.unusedVariables false
set_option linter.unusedSimpArgs false

/-! ### lockkeeperlaw04_great: function 15 -/
def lockkeeperlaw04_great.f (a0_0 : Int) (l0_1 : List Int) : Option (Bool) := some (decide ((l0_1.length : Int) > 1100))
set_option maxHeartbeats 8000000 in
set_option maxRecDepth 100000 in
theorem lockkeeperlaw04_great.calls (a0_0 : Int) (A0_1 : Option Addr) (c0_1 : Nat) (l0_1 : List Int) (r : Bool) (w : World) (hr0_1 : Kd.C (Kd.int .u64) w A0_1 l0_1.length l0_1) (hc0_1 : l0_1.length ≤ c0_1) (h : lockkeeperlaw04_great.f a0_0 l0_1 = some r) :
    Calls Try.prog 15 #[.agg #[.int .u64 a0_0, .slice A0_1 l0_1.length c0_1]] w fun e w' => e = .returned (.bool r) ∧ Below w.heap.size w w' := by
  (have hu25 := Try.underlying25); (have HR0_1 := Aside0.mk hr0_1); (have HC0_1 := Aside0.mk hc0_1); (clear hr0_1 hc0_1); (have HB := Aside0.mk (Below.refl w.heap.size w)); (have H : (some (decide ((l0_1.length : Int) > 1100))) = some r := h); (clear h); (obtain rfl := Option.some.inj H); (go_enter Try.func15, Try.ntmps15); (go_wp2_with (first | ((with_reducible refine gate_dst (N := 1) rfl ?_); refine box_event ?hg (N := 1) ?hd (cs := #[.int .u64 a0_0, .slice A0_1 l0_1.length c0_1]) (t := 25) ?hr ?_; (case hd => rfl); (case hg => rfl); (case hr => first | (go_simp; done) | (go_simp; rfl)); intro gb101 hg w2 hbox hb; have n0_ := Aside0.mk (below_step (mvW HB.out) hb); have n1_ := Aside0.mk (hbox); have n2_ := Aside0.mk ((by rw [hg]; exact (below_size (mvW HB.out)) : w.heap.size ≤ gb101)); have n3_ := Aside0.mk ((by rw [hg]; exact (below_size (mvW HB.out)) : w.heap.size ≤ gb101)); clear HB; have HB := n0_; have BK101 := n1_; have GW101 := n2_; have GE101 := n3_; clear n0_ n1_ n2_ n3_; clear hb hbox hg; have hcz3_0 : w2.cell? ⟨gb101, 0, none⟩ = some (.int .u64 a0_0) := (blk_cell BK101.out 0).trans rfl; have hcz3_1 : w2.cell? ⟨gb101, 1, none⟩ = some (.slice A0_1 l0_1.length c0_1) := (blk_cell BK101.out 1).trans rfl; have hfz3_0 := blk_frozen BK101.out 0; have hfz3_1 := blk_frozen BK101.out 1))); (go_ret); (exact ⟨by first | rfl | (simp [errW_none, errW_some] <;> rfl) | (simp [*, errW_none, errW_some] <;> rfl), by repeat (first | (with_reducible first | exact HB.out | apply below_alloc | apply pw_below_drewN | apply below_drew1 | refine below_set ?_ GE101.out) | exact HB.out)⟩)

/-! ### lsns_Right: function 25 -/
def lsns_Right.l0 : Nat → Int → List Int → Int → Int → Int → List Int → Option (Bool)
  | 0, _, _, _, _, _, _ => none
  | k + 1, x3, x9, x10, x11, x103000, x103001 => if x11 < x10 then (if 0 ≤ x11 then (if x11 < (x9.length : Int) then (if (rd x9 x11) ≤ x3 then (some false) else (lsns_Right.l0 k (rd x9 x11) x9 x10 (wrap64 (x11 + 1)) x103000 x103001)) else (none)) else (none)) else (some (decide ((x103001.length : Int) ≤ 1000)))
def lsns_Right.f (k : Nat) (a0_0 : Int) (l0_1 : List Int) : Option (Bool) := lsns_Right.l0 k a0_0 l0_1 (l0_1.length : Int) 0 a0_0 l0_1
theorem lsns_Right.mono_l : ∀ k, (∀ y0 y1 y2 y3 y4 y5, LeO (lsns_Right.l0 k y0 y1 y2 y3 y4 y5) (lsns_Right.l0 (k + 1) y0 y1 y2 y3 y4 y5))
  | 0 => fun _ _ _ _ _ _ r h => by simp [lsns_Right.l0] at h
  | k + 1 => by
    have ih0 := lsns_Right.mono_l k
    · intro y0 y1 y2 y3 y4 y5
      unfold lsns_Right.l0
      repeat' first
      | (with_reducible exact ih0 _ _ _ _ _ _)
      | (with_reducible exact LeO.refl _)
      | (with_reducible exact LeO.none _)
      | (with_reducible refine LeO.ite ?_ ?_)
      | (with_reducible refine LeO.bind ?_ (fun _ => ?_))
      | exact ih0 _ _ _ _ _ _
      | exact LeO.none _
      | refine LeO.ite ?_ ?_
      | refine LeO.bind ?_ (fun _ => ?_)
theorem lsns_Right.mono : ∀ a0 a1 k, LeO (lsns_Right.f k a0 a1) (lsns_Right.f (k + 1) a0 a1) := by
  intro a0 a1 k
  have ih0 := lsns_Right.mono_l k
  unfold lsns_Right.f
  repeat' first
      | (with_reducible exact ih0 _ _ _ _ _ _)
      | (with_reducible exact LeO.refl _)
      | (with_reducible exact LeO.none _)
      | (with_reducible refine LeO.ite ?_ ?_)
      | (with_reducible refine LeO.bind ?_ (fun _ => ?_))
      | exact ih0 _ _ _ _ _ _
      | exact LeO.none _
      | refine LeO.ite ?_ ?_
      | refine LeO.bind ?_ (fun _ => ?_)
set_option maxHeartbeats 8000000 in
set_option maxRecDepth 100000 in
theorem lsns_Right.calls (k : Nat) (a0_0 : Int) (A0_1 : Option Addr) (c0_1 : Nat) (l0_1 : List Int) (r : Bool) (w : World) (hr0_1 : Kd.C (Kd.int .u64) w A0_1 l0_1.length l0_1) (hc0_1 : l0_1.length ≤ c0_1) (h : lsns_Right.f k a0_0 l0_1 = some r) :
    Calls Try.prog 25 #[.agg #[.int .u64 a0_0, .slice A0_1 l0_1.length c0_1]] w fun e w' => e = .returned (.bool r) ∧ Below w.heap.size w w' := by
  (have hu25 := Try.underlying25); (have HR0_1 := Aside0.mk hr0_1); (have HC0_1 := Aside0.mk hc0_1); (clear hr0_1 hc0_1); (have HB := Aside0.mk (Below.refl w.heap.size w)); (have H : (lsns_Right.l0 k a0_0 l0_1 (l0_1.length : Int) 0 a0_0 l0_1) = some r := h); (clear h); (have H' := Aside0.mk H); (clear H); (go_enter Try.func25, Try.ntmps25); (go_wp2_with (first | ((with_reducible refine gate_dst (N := 1) rfl ?_); refine box_event ?hg (N := 1) ?hd (cs := #[.int .u64 a0_0, .slice A0_1 l0_1.length c0_1]) (t := 25) ?hr ?_; (case hd => rfl); (case hg => rfl); (case hr => first | (go_simp; done) | (go_simp; rfl)); intro gb102 hg w2 hbox hb; have n0_ := Aside0.mk (below_step (mvW HB.out) hb); have n1_ := Aside0.mk (hbox); have n2_ := Aside0.mk ((by rw [hg]; exact (below_size (mvW HB.out)) : w.heap.size ≤ gb102)); have n3_ := Aside0.mk ((by rw [hg]; exact (below_size (mvW HB.out)) : w.heap.size ≤ gb102)); clear HB; have HB := n0_; have BK102 := n1_; have GW102 := n2_; have GE102 := n3_; clear n0_ n1_ n2_ n3_; clear hb hbox hg; have hcz3_0 : w2.cell? ⟨gb102, 0, none⟩ = some (.int .u64 a0_0) := (blk_cell BK102.out 0).trans rfl; have hcz3_1 : w2.cell? ⟨gb102, 1, none⟩ = some (.slice A0_1 l0_1.length c0_1) := (blk_cell BK102.out 1).trans rfl; have hfz3_0 := blk_frozen BK102.out 0; have hfz3_1 := blk_frozen BK102.out 1))); (go_loopg [3, 11] k (fun kq v3 v11 w' => ∃ (x3_1 : Int) (x11_1 : Int), v3 = .int .u64 x3_1 ∧ v11 = .int .i64 x11_1 ∧ Aside0 (lsns_Right.l0 kq x3_1 l0_1 (l0_1.length : Int) x11_1 a0_0 l0_1 = some r) ∧ Aside0 (kq ≤ k) ∧ Aside0 (w'.heap[gb102]? = some (.cells #[.int .u64 a0_0, (.slice A0_1 l0_1.length c0_1)] 25 (0, 0))) ∧ Aside0 (Below w.heap.size w w')))
  case atStart => exact ⟨(a0_0), (0), (by first | rfl | (simp; done) | (simp [*]; done)), (by first | rfl | (simp; done) | (simp [*]; done)), H', ⟨Nat.le_refl _⟩, ⟨mvB BK102.out⟩, ⟨mvW HB.out⟩⟩
  case round =>
    (clear H'); (try clear c2); (try clear p2); (try clear hcz3_0); (try clear hcz3_1); (try clear hfz3_0); (try clear hfz3_1); (obtain ⟨x3_1, x11_1, rfl, rfl, HA, HK1, BK102, HB⟩ := hrel)
    cases gk with
    | zero => exact absurd HA.out (by simp [lsns_Right.l0])
    | succ k1 =>
      (have H := HA.out); (clear HA); (simp only [lsns_Right.l0] at H); (by_cases c4 : x11_1 < (l0_1.length : Int))
      · (rw [if_pos c4] at H); (have c4b0 : decide (x11_1 < (l0_1.length : Int)) = true := decide_eq_true c4); (clear c4); (by_cases c5 : 0 ≤ x11_1)
        · (rw [if_pos c5] at H); (have c5b0 : decide (0 ≤ x11_1) = true := decide_eq_true c5); (clear c5); (by_cases c6 : x11_1 < (l0_1.length : Int))
          · (rw [if_pos c6] at H); (have c6b0 : decide (x11_1 < (l0_1.length : Int)) = true := decide_eq_true c6); (clear c6); (by_cases c7 : (rd l0_1 x11_1) ≤ x3_1)
            · (rw [if_pos c7] at H); (have c7b0 : decide ((rd l0_1 x11_1) ≤ x3_1) = true := decide_eq_true c7); (clear c7); (obtain rfl := Option.some.inj H); (have p103 : 0 ≤ (x11_1 : Int) := of_decide_eq_true (by first | (with_reducible assumption) | assumption)); (have q103 : x11_1 < (l0_1.length : Int) := of_decide_eq_true (by first | (with_reducible assumption) | assumption)); (obtain ⟨ad103, e103, hx103_0⟩ := Kd.at_int HR0_1.out x11_1 p103 q103); (cases e103); (replace hx103_0 := (HB.out.cell (World.block_lt_of_cell? w _ hx103_0)).trans hx103_0); (replace p103 := eq_true p103); (replace q103 := eq_true q103); (go_wp2); (go_ret); (exact ⟨by first | rfl | (simp [errW_none, errW_some] <;> rfl) | (simp [*, errW_none, errW_some] <;> rfl), by repeat (first | (with_reducible first | exact HB.out | apply below_alloc | apply pw_below_drewN | apply below_drew1 | refine below_set ?_ GE102.out) | exact HB.out)⟩)
            · (rw [if_neg c7] at H); (have c7b0 : decide ((rd l0_1 x11_1) ≤ x3_1) = false := decide_eq_false c7); (clear c7); (have H' := Aside0.mk H); (clear H); (have p103 : 0 ≤ (x11_1 : Int) := of_decide_eq_true (by first | (with_reducible assumption) | assumption)); (have q103 : x11_1 < (l0_1.length : Int) := of_decide_eq_true (by first | (with_reducible assumption) | assumption)); (obtain ⟨ad103, e103, hx103_0⟩ := Kd.at_int HR0_1.out x11_1 p103 q103); (cases e103); (replace hx103_0 := (HB.out.cell (World.block_lt_of_cell? w _ hx103_0)).trans hx103_0); (replace p103 := eq_true p103); (replace q103 := eq_true q103); (go_wp2); (go_roundg k1)
              case measure => have := HK1.out; omega
              case rel => exact ⟨(rd l0_1 x11_1), (wrap64 (x11_1 + 1)), (by first | rfl | (simp; done) | (simp [*]; done)), (by first | rfl | (simp; done) | (simp [*]; done)), H', ⟨by have := HK1.out; omega⟩, ⟨mvB BK102.out⟩, ⟨mvW HB.out⟩⟩
          · (rw [if_neg c6] at H); (exact absurd H (by simp))
        · (rw [if_neg c5] at H); (exact absurd H (by simp))
      · (rw [if_neg c4] at H); (have c4b0 : decide (x11_1 < (l0_1.length : Int)) = false := decide_eq_false c4); (clear c4); (obtain rfl := Option.some.inj H); (have hcz8_0 : wr.cell? ⟨gb102, 0, none⟩ = some (.int .u64 a0_0) := (blk_cell BK102.out 0).trans rfl); (have hcz8_1 : wr.cell? ⟨gb102, 1, none⟩ = some (.slice A0_1 l0_1.length c0_1) := (blk_cell BK102.out 1).trans rfl); (have hfz8_0 := blk_frozen BK102.out 0); (have hfz8_1 := blk_frozen BK102.out 1); (go_wp2); (go_ret); (exact ⟨by first | rfl | (simp [errW_none, errW_some] <;> rfl) | (simp [*, errW_none, errW_some] <;> rfl), by repeat (first | (with_reducible first | exact HB.out | apply below_alloc | apply pw_below_drewN | apply below_drew1 | refine below_set ?_ GE102.out) | exact HB.out)⟩)

/-! ### sort_Search: function 96 -/
/-- Go's binary search from i to j. -/
def bsearch (p : Nat → Bool) (i j : Nat) : Nat :=
  if h : i < j then (if p ((i + j) / 2) then bsearch p i ((i + j) / 2) else bsearch p ((i + j) / 2 + 1) j) else i
termination_by j - i
decreasing_by all_goals omega
theorem bsearch_done (p : Nat → Bool) (i : Nat) : bsearch p i i = i := by unfold bsearch; rw [dif_neg (by omega)]
theorem bsearch_yes {p : Nat → Bool} {i j : Nat} (h : i < j) (hp : p ((i + j) / 2) = true) : bsearch p i j = bsearch p i ((i + j) / 2) := by rw [bsearch, dif_pos h, if_pos hp]
theorem bsearch_no {p : Nat → Bool} {i j : Nat} (h : i < j) (hp : p ((i + j) / 2) = false) : bsearch p i j = bsearch p ((i + j) / 2 + 1) j := by rw [bsearch, dif_pos h, if_neg (by rw [hp]; simp)]
set_option maxHeartbeats 4000000 in
set_option maxRecDepth 100000 in
theorem search_calls (g : Nat) (cb : Array Value) (n : Nat) (p : Nat → Bool) (w : World) (eg : ∀ args w, (callFunc g args).run Try.prog w = .ok (.enter g args) w) (hsz : n < 4611686018427387904)
    (hf : ∀ (W : World) (i : Nat), Below w.heap.size w W → i < n → Calls Try.prog g (#[.int .i64 i] ++ cb) W fun e w' => e = .returned (.bool (p i)) ∧ Below W.heap.size W w') :
    Calls Try.prog 96 #[.int .i64 n, .func (.func g) #[] cb] w fun e w' => e = .returned (.int .i64 (bsearch p 0 n : Nat)) ∧ Below w.heap.size w w' := by
  have HF : Aside0 _ := ⟨hf⟩
  clear hf
  obtain ⟨r, hr⟩ : ∃ r, r = bsearch p 0 n := ⟨_, rfl⟩
  rw [← hr]
  have HR : Aside0 (bsearch p 0 n = r) := ⟨hr.symm⟩
  clear hr
  go_enter Try.func96, Try.ntmps96
  go_wp2
  go_loopg [5, 6] n (fun kx s5 s6 wr => ∃ (lo hi : Nat), s5 = .int .i64 lo ∧ s6 = .int .i64 hi ∧ lo ≤ hi ∧ hi ≤ n ∧ hi - lo ≤ kx ∧ Aside0 (Below w.heap.size w wr) ∧ Aside0 (bsearch p lo hi = r))
  case atStart => exact ⟨0, n, rfl, rfl, Nat.zero_le _, Nat.le_refl _, by omega, ⟨Below.refl _ _⟩, HR⟩
  case round =>
    obtain ⟨lo, hi, rfl, rfl, hlh, hin, hg, HB, I⟩ := hrel
    by_cases hlt : lo < hi
    · have hc := HF.out wr ((lo + hi) / 2) HB.out (by omega)
      rw [show (((lo + hi) / 2 : Nat) : Int) = ((lo : Int) + (hi : Int)) / 2 by omega] at hc
      cases hp : p ((lo + hi) / 2) <;> rw [hp] at hc
      · have HP : Aside0 (p ((lo + hi) / 2) = false) := ⟨hp⟩
        clear hp
        go_wp2_with (go_at_fn g; refine hc.mono ?_; rintro e w1 ⟨rfl, hb1⟩)
        go_roundg (hi - ((lo + hi) / 2 + 1))
        case measure => omega
        case rel => exact ⟨(lo + hi) / 2 + 1, hi, by rw [show ((lo : Int) + (hi : Int)) / 2 + 1 = (((lo + hi) / 2 + 1 : Nat) : Int) by omega], rfl, by omega, hin, Nat.le_refl _, ⟨below_step HB.out hb1⟩, ⟨(bsearch_no hlt HP.out).symm.trans I.out⟩⟩
      · have HP : Aside0 (p ((lo + hi) / 2) = true) := ⟨hp⟩
        clear hp
        go_wp2_with (go_at_fn g; refine hc.mono ?_; rintro e w1 ⟨rfl, hb1⟩)
        go_roundg ((lo + hi) / 2 - lo)
        case measure => omega
        case rel => exact ⟨lo, (lo + hi) / 2, rfl, by rw [show ((lo : Int) + (hi : Int)) / 2 = (((lo + hi) / 2 : Nat) : Int) by omega], by omega, by omega, Nat.le_refl _, ⟨below_step HB.out hb1⟩, ⟨(bsearch_yes hlt HP.out).symm.trans I.out⟩⟩
    · obtain rfl : hi = lo := by omega
      have e := I.out
      rw [bsearch_done] at e
      subst e
      go_wp2
      go_ret
      exact ⟨rfl, HB.out⟩

/-! ### lsns_at: function 56 -/
def lsns_at.f (a0_0 : Int) (l0_1 : List Int) (a1 : Int) : Option (Int) := if l0_1.length < 4611686018427387904 then some (bsearch (fun i => decide (a1 ≤ rd l0_1 i)) 0 l0_1.length : Nat) else none
set_option maxHeartbeats 4000000 in
theorem lsns_at_clo_calls (ba bx : Nat) (A0 : Option Addr) (c : Nat) (a0 : Int) (l : List Int) (x : Int) (i : Nat) (W : World) (hi : i < l.length) (hr : Kd.C (Kd.int .u64) W A0 l.length l)
    (ha : W.cell? ⟨ba, 1, none⟩ = some (.slice A0 l.length c)) (hx : W.cell? ⟨bx, 0, none⟩ = some (.int .u64 x)) :
    Calls Try.prog 97 (#[.int .i64 i] ++ #[.pointer (some ⟨ba, 0, none⟩), .pointer (some ⟨bx, 0, none⟩)]) W fun e w' => e = .returned (.bool (decide (x ≤ rd l i))) ∧ Below W.heap.size W w' := by
  obtain ⟨ad, rfl, hc⟩ := Kd.at_int hr i (by omega) (by omega)
  rw [Int.toNat_natCast] at hc
  generalize rd l i = y at hc ⊢
  have hiz : (i : Int) < (l.length : Int) := by omega
  clear hr
  go_enter Try.func97, Try.ntmps97
  go_wp2
  go_region
  all_goals go_wp2
  all_goals go_ret
  all_goals exact ⟨by first | rfl | simp, below_drew1 (Below.refl _ _)⟩
set_option maxHeartbeats 4000000 in
theorem lsns_at.calls (a0_0 : Int) (A0_1 : Option Addr) (c0_1 : Nat) (l0_1 : List Int) (a1 : Int) (r : Int) (w : World) (hr0_1 : Kd.C (Kd.int .u64) w A0_1 l0_1.length l0_1) (hc0_1 : l0_1.length ≤ c0_1) (h : lsns_at.f a0_0 l0_1 a1 = some r) :
    Calls Try.prog 56 #[.agg #[.int .u64 a0_0, .slice A0_1 l0_1.length c0_1], .int .u64 a1] w fun e w' => e = .returned (.int .i64 r) ∧ Below w.heap.size w w' := by
  have hlen : l0_1.length < 4611686018427387904 := by
    by_cases hl : l0_1.length < 4611686018427387904
    · exact hl
    · unfold lsns_at.f at h; rw [if_neg hl] at h; cases h
  unfold lsns_at.f at h
  rw [if_pos hlen] at h
  obtain rfl := Option.some.inj h
  clear h
  have hu26 := Try.underlying25
  obtain ⟨W0, hW0⟩ : ∃ W0, W0 = (w.alloc (.cells #[.int .u64 a0_0, .slice A0_1 l0_1.length c0_1] 25)).alloc (.cells #[.int .u64 a1] 22) := ⟨_, rfl⟩
  have hsize : W0.heap.size = w.heap.size + 1 + 1 := by rw [hW0]; simp
  have hB0 : Below w.heap.size w W0 := by rw [hW0]; exact below_alloc (below_alloc (Below.refl _ _) _) _
  have ba : (w.alloc (.cells #[.int .u64 a0_0, .slice A0_1 l0_1.length c0_1] 25)).heap[w.heap.size]? = some (.cells #[.int .u64 a0_0, .slice A0_1 l0_1.length c0_1] 25 (0, 0)) := blk_new w _
  have ca : W0.cell? ⟨w.heap.size, 1, none⟩ = some (.slice A0_1 l0_1.length c0_1) := by
    rw [hW0]; exact pw_cell_below (below_alloc (Below.refl _ _) _) ((blk_cell ba 1).trans rfl)
  have cx : W0.cell? ⟨w.heap.size + 1, 0, none⟩ = some (.int .u64 a1) := by
    have hb := blk_new (w.alloc (.cells #[.int .u64 a0_0, .slice A0_1 l0_1.length c0_1] 25)) (.cells #[.int .u64 a1] 22)
    rw [World.size_alloc] at hb
    rw [hW0]
    exact (blk_cell hb 0).trans rfl
  have eg : ∀ args w, (callFunc 97 args).run Try.prog w = .ok (.enter 97 args) w := enters_of Try.func97 (by kernel_rfl) rfl
  have hS := search_calls 97 #[.pointer (some ⟨w.heap.size, 0, none⟩), .pointer (some ⟨w.heap.size + 1, 0, none⟩)] l0_1.length (fun i => decide (a1 ≤ rd l0_1 i)) W0 eg hlen
    (fun W i hB hi => lsns_at_clo_calls w.heap.size (w.heap.size + 1) A0_1 c0_1 a0_0 l0_1 a1 i W hi (Kd.C_below (Kd.C_below hr0_1 hB0) hB) (pw_cell_below hB ca) (pw_cell_below hB cx))
  clear ca cx ba hr0_1
  generalize bsearch (fun i => decide (a1 ≤ rd l0_1 i)) 0 l0_1.length = r at hS ⊢
  go_enter Try.func56, Try.ntmps56
  go_wp2_with (go_at_call 96; rw [← hW0]; refine hS.mono ?_; rintro e w' ⟨rfl, hb⟩)
  go_ret
  exact ⟨rfl, below_step hB0 hb⟩

/-! ### lsns_Has: function 26 -/
def lsns_Has.f (k : Nat) (a0_0 : Int) (l0_1 : List Int) (a1 : Int) : Option (Bool) := (lsns_at.f a0_0 l0_1 a1).bind fun t105 => ((lsns_Right.f k a0_0 l0_1).bind fun t106 => (if t106 = true then (if a1 ≤ a0_0 then (some true) else (if t105 < (l0_1.length : Int) then (if 0 ≤ t105 then (some ((rd l0_1 t105) == a1)) else (none)) else (some false))) else (some false)))
theorem lsns_Has.mono : ∀ a0 a1 a2 k, LeO (lsns_Has.f k a0 a1 a2) (lsns_Has.f (k + 1) a0 a1 a2) := by
  intro a0 a1 a2 k
  unfold lsns_Has.f
  repeat' first
      | (with_reducible exact lsns_Right.mono _ _ _)
      | (with_reducible exact LeO.refl _)
      | (with_reducible exact LeO.none _)
      | (with_reducible refine LeO.ite ?_ ?_)
      | (with_reducible refine LeO.bind ?_ (fun _ => ?_))
      | exact lsns_Right.mono _ _ _
      | exact LeO.none _
      | refine LeO.ite ?_ ?_
      | refine LeO.bind ?_ (fun _ => ?_)
set_option maxHeartbeats 8000000 in
set_option maxRecDepth 100000 in
theorem lsns_Has.calls (k : Nat) (a0_0 : Int) (A0_1 : Option Addr) (c0_1 : Nat) (l0_1 : List Int) (a1 : Int) (r : Bool) (w : World) (hr0_1 : Kd.C (Kd.int .u64) w A0_1 l0_1.length l0_1) (hc0_1 : l0_1.length ≤ c0_1) (h : lsns_Has.f k a0_0 l0_1 a1 = some r) :
    Calls Try.prog 26 #[.agg #[.int .u64 a0_0, .slice A0_1 l0_1.length c0_1], .int .u64 a1] w fun e w' => e = .returned (.bool r) ∧ Below w.heap.size w w' := by
  (have hu25 := Try.underlying25); (have HR0_1 := Aside0.mk hr0_1); (have HC0_1 := Aside0.mk hc0_1); (clear hr0_1 hc0_1); (have HB := Aside0.mk (Below.refl w.heap.size w)); (have H : ((lsns_at.f a0_0 l0_1 a1).bind fun t105 => ((lsns_Right.f k a0_0 l0_1).bind fun t106 => (if t106 = true then (if a1 ≤ a0_0 then (some true) else (if t105 < (l0_1.length : Int) then (if 0 ≤ t105 then (some ((rd l0_1 t105) == a1)) else (none)) else (some false))) else (some false)))) = some r := h); (clear h); (replace H := Option.bind_eq_some_iff.mp H); (obtain ⟨t105, A30, H⟩ := H); (replace H : ((lsns_Right.f k a0_0 l0_1).bind fun t106 => (if t106 = true then (if a1 ≤ a0_0 then (some true) else (if t105 < (l0_1.length : Int) then (if 0 ≤ t105 then (some ((rd l0_1 t105) == a1)) else (none)) else (some false))) else (some false))) = some r := H); (have A3 := Aside0.mk A30); (clear A30); (replace H := Option.bind_eq_some_iff.mp H); (obtain ⟨t106, A40, H⟩ := H); (replace H : (if t106 = true then (if a1 ≤ a0_0 then (some true) else (if t105 < (l0_1.length : Int) then (if 0 ≤ t105 then (some ((rd l0_1 t105) == a1)) else (none)) else (some false))) else (some false)) = some r := H); (have A4 := Aside0.mk A40); (clear A40); (by_cases c5 : t106 = true)
  · (subst c5); (have H1 : (if a1 ≤ a0_0 then (some true) else (if t105 < (l0_1.length : Int) then (if 0 ≤ t105 then (some ((rd l0_1 t105) == a1)) else (none)) else (some false))) = some r := by rw [if_pos rfl] at H; exact H); (clear H); (have H := H1); (clear H1); (by_cases c6 : a1 ≤ a0_0)
    · (rw [if_pos c6] at H); (have c6b0 : decide (a1 ≤ a0_0) = true := decide_eq_true c6); (clear c6); (obtain rfl := Option.some.inj H); (go_enter Try.func26, Try.ntmps26); (go_wp2_with (first | ((with_reducible refine gate_dst (N := 2) rfl ?_); (try (refine gate_guard (by rfl) ?_; dsimp only)); refine box_event ?hg (N := 2) ?hd (cs := #[.int .u64 a0_0, .slice A0_1 l0_1.length c0_1]) (t := 25) ?hr ?_; (case hd => rfl); (case hg => rfl); (case hr => first | (go_simp; done) | (go_simp; rfl)); intro gb104 hg w7 hbox hb; have n0_ := Aside0.mk (below_step (mvW HB.out) hb); have n1_ := Aside0.mk (hbox); have n2_ := Aside0.mk ((by rw [hg]; exact (below_size (mvW HB.out)) : w.heap.size ≤ gb104)); have n3_ := Aside0.mk ((by rw [hg]; exact (below_size (mvW HB.out)) : w.heap.size ≤ gb104)); clear HB; have HB := n0_; have BK104 := n1_; have GW104 := n2_; have GE104 := n3_; clear n0_ n1_ n2_ n3_; clear hb hbox hg; have hcz8_0 : w7.cell? ⟨gb104, 0, none⟩ = some (.int .u64 a0_0) := (blk_cell BK104.out 0).trans rfl; have hcz8_1 : w7.cell? ⟨gb104, 1, none⟩ = some (.slice A0_1 l0_1.length c0_1) := (blk_cell BK104.out 1).trans rfl; have hfz8_0 := blk_frozen BK104.out 0; have hfz8_1 := blk_frozen BK104.out 1) | ((with_reducible refine gate_callee (f := 56) rfl ?_); refine goesL_ (some 8) rfl rfl Try.func56 (by kernel_rfl) rfl #[.agg #[.int .u64 a0_0, .slice A0_1 l0_1.length c0_1], .int .u64 a1] rfl (by (try simp only [List.map_toArray, List.map_cons, List.map_nil]); first | done | rfl | (simp only [List.length_drop, List.length_take]; rfl) | (simp only [*]; rfl)) ?_; (with_reducible refine (lsns_at.calls a0_0 _ _ l0_1 a1 t105 _ ?side1 ?side2 A3.out).mono ?_); (case side1 => repeat (first | exact (Kd.C_below HR0_1.out HB.out) | (with_reducible refine Kd.C_alloc ?_ _) | (with_reducible refine Kd.C_drewN ?_ _) | (with_reducible refine Kd.C_drew ?_))); (case side2 => exact HC0_1.out); rintro e w9 ⟨rfl, hb⟩; refine ⟨_, rfl, ?_⟩; have n0_ := Aside0.mk (blk_below (mvB BK104.out) hb); have n1_ := Aside0.mk (below_step (mvW HB.out) hb); clear BK104; clear HB; have BK104 := n0_; have HB := n1_; clear n0_ n1_; (try clear hb); (try clear hb2); (try clear hk); (try clear hi); have hcz10_0 : w9.cell? ⟨gb104, 0, none⟩ = some (.int .u64 a0_0) := (blk_cell BK104.out 0).trans rfl; have hcz10_1 : w9.cell? ⟨gb104, 1, none⟩ = some (.slice A0_1 l0_1.length c0_1) := (blk_cell BK104.out 1).trans rfl; have hfz10_0 := blk_frozen BK104.out 0; have hfz10_1 := blk_frozen BK104.out 1) | ((with_reducible refine gate_callee (f := 25) rfl ?_); refine goesL_ (some 10) rfl rfl Try.func25 (by kernel_rfl) rfl #[.agg #[.int .u64 a0_0, .slice A0_1 l0_1.length c0_1]] rfl (by (try simp only [List.map_toArray, List.map_cons, List.map_nil]); first | done | rfl | (simp only [List.length_drop, List.length_take]; rfl) | (simp only [*]; rfl)) ?_; (with_reducible refine (lsns_Right.calls k a0_0 _ _ l0_1 true _ ?side1 ?side2 A4.out).mono ?_); (case side1 => repeat (first | exact (Kd.C_below HR0_1.out HB.out) | (with_reducible refine Kd.C_alloc ?_ _) | (with_reducible refine Kd.C_drewN ?_ _) | (with_reducible refine Kd.C_drew ?_))); (case side2 => exact HC0_1.out); rintro e w11 ⟨rfl, hb⟩; refine ⟨_, rfl, ?_⟩; have n0_ := Aside0.mk (blk_below (mvB BK104.out) hb); have n1_ := Aside0.mk (below_step (mvW HB.out) hb); clear BK104; clear HB; have BK104 := n0_; have HB := n1_; clear n0_ n1_; (try clear hb); (try clear hb2); (try clear hk); (try clear hi); have hcz12_0 : w11.cell? ⟨gb104, 0, none⟩ = some (.int .u64 a0_0) := (blk_cell BK104.out 0).trans rfl; have hcz12_1 : w11.cell? ⟨gb104, 1, none⟩ = some (.slice A0_1 l0_1.length c0_1) := (blk_cell BK104.out 1).trans rfl; have hfz12_0 := blk_frozen BK104.out 0; have hfz12_1 := blk_frozen BK104.out 1))); (go_ret); (exact ⟨by first | rfl | (simp [errW_none, errW_some] <;> rfl) | (simp [*, errW_none, errW_some] <;> rfl), by repeat (first | (with_reducible first | exact HB.out | apply below_alloc | apply pw_below_drewN | apply below_drew1 | refine below_set ?_ GE104.out) | exact HB.out)⟩)
    · (rw [if_neg c6] at H); (have c6b0 : decide (a1 ≤ a0_0) = false := decide_eq_false c6); (clear c6); (by_cases c13 : t105 < (l0_1.length : Int))
      · (rw [if_pos c13] at H); (have c13b0 : decide (t105 < (l0_1.length : Int)) = true := decide_eq_true c13); (clear c13); (by_cases c14 : 0 ≤ t105)
        · (rw [if_pos c14] at H); (have c14b0 : decide (0 ≤ t105) = true := decide_eq_true c14); (clear c14); (obtain rfl := Option.some.inj H); (go_enter Try.func26, Try.ntmps26); (go_wp2_with (first | ((with_reducible refine gate_dst (N := 2) rfl ?_); (try (refine gate_guard (by rfl) ?_; dsimp only)); refine box_event ?hg (N := 2) ?hd (cs := #[.int .u64 a0_0, .slice A0_1 l0_1.length c0_1]) (t := 25) ?hr ?_; (case hd => rfl); (case hg => rfl); (case hr => first | (go_simp; done) | (go_simp; rfl)); intro gb104 hg w15 hbox hb; have n0_ := Aside0.mk (below_step (mvW HB.out) hb); have n1_ := Aside0.mk (hbox); have n2_ := Aside0.mk ((by rw [hg]; exact (below_size (mvW HB.out)) : w.heap.size ≤ gb104)); have n3_ := Aside0.mk ((by rw [hg]; exact (below_size (mvW HB.out)) : w.heap.size ≤ gb104)); clear HB; have HB := n0_; have BK104 := n1_; have GW104 := n2_; have GE104 := n3_; clear n0_ n1_ n2_ n3_; clear hb hbox hg; have hcz16_0 : w15.cell? ⟨gb104, 0, none⟩ = some (.int .u64 a0_0) := (blk_cell BK104.out 0).trans rfl; have hcz16_1 : w15.cell? ⟨gb104, 1, none⟩ = some (.slice A0_1 l0_1.length c0_1) := (blk_cell BK104.out 1).trans rfl; have hfz16_0 := blk_frozen BK104.out 0; have hfz16_1 := blk_frozen BK104.out 1) | ((with_reducible refine gate_callee (f := 56) rfl ?_); refine goesL_ (some 8) rfl rfl Try.func56 (by kernel_rfl) rfl #[.agg #[.int .u64 a0_0, .slice A0_1 l0_1.length c0_1], .int .u64 a1] rfl (by (try simp only [List.map_toArray, List.map_cons, List.map_nil]); first | done | rfl | (simp only [List.length_drop, List.length_take]; rfl) | (simp only [*]; rfl)) ?_; (with_reducible refine (lsns_at.calls a0_0 _ _ l0_1 a1 t105 _ ?side1 ?side2 A3.out).mono ?_); (case side1 => repeat (first | exact (Kd.C_below HR0_1.out HB.out) | (with_reducible refine Kd.C_alloc ?_ _) | (with_reducible refine Kd.C_drewN ?_ _) | (with_reducible refine Kd.C_drew ?_))); (case side2 => exact HC0_1.out); rintro e w17 ⟨rfl, hb⟩; refine ⟨_, rfl, ?_⟩; have n0_ := Aside0.mk (blk_below (mvB BK104.out) hb); have n1_ := Aside0.mk (below_step (mvW HB.out) hb); clear BK104; clear HB; have BK104 := n0_; have HB := n1_; clear n0_ n1_; (try clear hb); (try clear hb2); (try clear hk); (try clear hi); have hcz18_0 : w17.cell? ⟨gb104, 0, none⟩ = some (.int .u64 a0_0) := (blk_cell BK104.out 0).trans rfl; have hcz18_1 : w17.cell? ⟨gb104, 1, none⟩ = some (.slice A0_1 l0_1.length c0_1) := (blk_cell BK104.out 1).trans rfl; have hfz18_0 := blk_frozen BK104.out 0; have hfz18_1 := blk_frozen BK104.out 1) | ((with_reducible refine gate_callee (f := 25) rfl ?_); refine goesL_ (some 10) rfl rfl Try.func25 (by kernel_rfl) rfl #[.agg #[.int .u64 a0_0, .slice A0_1 l0_1.length c0_1]] rfl (by (try simp only [List.map_toArray, List.map_cons, List.map_nil]); first | done | rfl | (simp only [List.length_drop, List.length_take]; rfl) | (simp only [*]; rfl)) ?_; (with_reducible refine (lsns_Right.calls k a0_0 _ _ l0_1 true _ ?side1 ?side2 A4.out).mono ?_); (case side1 => repeat (first | exact (Kd.C_below HR0_1.out HB.out) | (with_reducible refine Kd.C_alloc ?_ _) | (with_reducible refine Kd.C_drewN ?_ _) | (with_reducible refine Kd.C_drew ?_))); (case side2 => exact HC0_1.out); rintro e w19 ⟨rfl, hb⟩; refine ⟨_, rfl, ?_⟩; have n0_ := Aside0.mk (blk_below (mvB BK104.out) hb); have n1_ := Aside0.mk (below_step (mvW HB.out) hb); clear BK104; clear HB; have BK104 := n0_; have HB := n1_; clear n0_ n1_; (try clear hb); (try clear hb2); (try clear hk); (try clear hi); have hcz20_0 : w19.cell? ⟨gb104, 0, none⟩ = some (.int .u64 a0_0) := (blk_cell BK104.out 0).trans rfl; have hcz20_1 : w19.cell? ⟨gb104, 1, none⟩ = some (.slice A0_1 l0_1.length c0_1) := (blk_cell BK104.out 1).trans rfl; have hfz20_0 := blk_frozen BK104.out 0; have hfz20_1 := blk_frozen BK104.out 1; have p107 : 0 ≤ (t105 : Int) := of_decide_eq_true (by first | (with_reducible assumption) | assumption); have q107 : t105 < (l0_1.length : Int) := of_decide_eq_true (by first | (with_reducible assumption) | assumption); obtain ⟨ad107, e107, hx107_0⟩ := Kd.at_int HR0_1.out t105 p107 q107; cases e107; replace hx107_0 := (HB.out.cell (World.block_lt_of_cell? w _ hx107_0)).trans hx107_0; replace p107 := eq_true p107; replace q107 := eq_true q107))); (go_ret); (exact ⟨by first | rfl | (simp [errW_none, errW_some] <;> rfl) | (simp [*, errW_none, errW_some] <;> rfl), by repeat (first | (with_reducible first | exact HB.out | apply below_alloc | apply pw_below_drewN | apply below_drew1 | refine below_set ?_ GE104.out) | exact HB.out)⟩)
        · (rw [if_neg c14] at H); (exact absurd H (by simp))
      · (rw [if_neg c13] at H); (have c13b0 : decide (t105 < (l0_1.length : Int)) = false := decide_eq_false c13); (clear c13); (obtain rfl := Option.some.inj H); (go_enter Try.func26, Try.ntmps26); (go_wp2_with (first | ((with_reducible refine gate_dst (N := 2) rfl ?_); (try (refine gate_guard (by rfl) ?_; dsimp only)); refine box_event ?hg (N := 2) ?hd (cs := #[.int .u64 a0_0, .slice A0_1 l0_1.length c0_1]) (t := 25) ?hr ?_; (case hd => rfl); (case hg => rfl); (case hr => first | (go_simp; done) | (go_simp; rfl)); intro gb104 hg w21 hbox hb; have n0_ := Aside0.mk (below_step (mvW HB.out) hb); have n1_ := Aside0.mk (hbox); have n2_ := Aside0.mk ((by rw [hg]; exact (below_size (mvW HB.out)) : w.heap.size ≤ gb104)); have n3_ := Aside0.mk ((by rw [hg]; exact (below_size (mvW HB.out)) : w.heap.size ≤ gb104)); clear HB; have HB := n0_; have BK104 := n1_; have GW104 := n2_; have GE104 := n3_; clear n0_ n1_ n2_ n3_; clear hb hbox hg; have hcz22_0 : w21.cell? ⟨gb104, 0, none⟩ = some (.int .u64 a0_0) := (blk_cell BK104.out 0).trans rfl; have hcz22_1 : w21.cell? ⟨gb104, 1, none⟩ = some (.slice A0_1 l0_1.length c0_1) := (blk_cell BK104.out 1).trans rfl; have hfz22_0 := blk_frozen BK104.out 0; have hfz22_1 := blk_frozen BK104.out 1) | ((with_reducible refine gate_callee (f := 56) rfl ?_); refine goesL_ (some 8) rfl rfl Try.func56 (by kernel_rfl) rfl #[.agg #[.int .u64 a0_0, .slice A0_1 l0_1.length c0_1], .int .u64 a1] rfl (by (try simp only [List.map_toArray, List.map_cons, List.map_nil]); first | done | rfl | (simp only [List.length_drop, List.length_take]; rfl) | (simp only [*]; rfl)) ?_; (with_reducible refine (lsns_at.calls a0_0 _ _ l0_1 a1 t105 _ ?side1 ?side2 A3.out).mono ?_); (case side1 => repeat (first | exact (Kd.C_below HR0_1.out HB.out) | (with_reducible refine Kd.C_alloc ?_ _) | (with_reducible refine Kd.C_drewN ?_ _) | (with_reducible refine Kd.C_drew ?_))); (case side2 => exact HC0_1.out); rintro e w23 ⟨rfl, hb⟩; refine ⟨_, rfl, ?_⟩; have n0_ := Aside0.mk (blk_below (mvB BK104.out) hb); have n1_ := Aside0.mk (below_step (mvW HB.out) hb); clear BK104; clear HB; have BK104 := n0_; have HB := n1_; clear n0_ n1_; (try clear hb); (try clear hb2); (try clear hk); (try clear hi); have hcz24_0 : w23.cell? ⟨gb104, 0, none⟩ = some (.int .u64 a0_0) := (blk_cell BK104.out 0).trans rfl; have hcz24_1 : w23.cell? ⟨gb104, 1, none⟩ = some (.slice A0_1 l0_1.length c0_1) := (blk_cell BK104.out 1).trans rfl; have hfz24_0 := blk_frozen BK104.out 0; have hfz24_1 := blk_frozen BK104.out 1) | ((with_reducible refine gate_callee (f := 25) rfl ?_); refine goesL_ (some 10) rfl rfl Try.func25 (by kernel_rfl) rfl #[.agg #[.int .u64 a0_0, .slice A0_1 l0_1.length c0_1]] rfl (by (try simp only [List.map_toArray, List.map_cons, List.map_nil]); first | done | rfl | (simp only [List.length_drop, List.length_take]; rfl) | (simp only [*]; rfl)) ?_; (with_reducible refine (lsns_Right.calls k a0_0 _ _ l0_1 true _ ?side1 ?side2 A4.out).mono ?_); (case side1 => repeat (first | exact (Kd.C_below HR0_1.out HB.out) | (with_reducible refine Kd.C_alloc ?_ _) | (with_reducible refine Kd.C_drewN ?_ _) | (with_reducible refine Kd.C_drew ?_))); (case side2 => exact HC0_1.out); rintro e w25 ⟨rfl, hb⟩; refine ⟨_, rfl, ?_⟩; have n0_ := Aside0.mk (blk_below (mvB BK104.out) hb); have n1_ := Aside0.mk (below_step (mvW HB.out) hb); clear BK104; clear HB; have BK104 := n0_; have HB := n1_; clear n0_ n1_; (try clear hb); (try clear hb2); (try clear hk); (try clear hi); have hcz26_0 : w25.cell? ⟨gb104, 0, none⟩ = some (.int .u64 a0_0) := (blk_cell BK104.out 0).trans rfl; have hcz26_1 : w25.cell? ⟨gb104, 1, none⟩ = some (.slice A0_1 l0_1.length c0_1) := (blk_cell BK104.out 1).trans rfl; have hfz26_0 := blk_frozen BK104.out 0; have hfz26_1 := blk_frozen BK104.out 1))); (go_ret); (exact ⟨by first | rfl | (simp [errW_none, errW_some] <;> rfl) | (simp [*, errW_none, errW_some] <;> rfl), by repeat (first | (with_reducible first | exact HB.out | apply below_alloc | apply pw_below_drewN | apply below_drew1 | refine below_set ?_ GE104.out) | exact HB.out)⟩)
  · (replace c5 := Bool.eq_false_iff.mpr c5); (subst c5); (have H1 : (some false) = some r := by rw [if_neg (show ¬ (false = true) by decide)] at H; exact H); (clear H); (have H := H1); (clear H1); (obtain rfl := Option.some.inj H); (go_enter Try.func26, Try.ntmps26); (go_wp2_with (first | ((with_reducible refine gate_dst (N := 2) rfl ?_); (try (refine gate_guard (by rfl) ?_; dsimp only)); refine box_event ?hg (N := 2) ?hd (cs := #[.int .u64 a0_0, .slice A0_1 l0_1.length c0_1]) (t := 25) ?hr ?_; (case hd => rfl); (case hg => rfl); (case hr => first | (go_simp; done) | (go_simp; rfl)); intro gb104 hg w27 hbox hb; have n0_ := Aside0.mk (below_step (mvW HB.out) hb); have n1_ := Aside0.mk (hbox); have n2_ := Aside0.mk ((by rw [hg]; exact (below_size (mvW HB.out)) : w.heap.size ≤ gb104)); have n3_ := Aside0.mk ((by rw [hg]; exact (below_size (mvW HB.out)) : w.heap.size ≤ gb104)); clear HB; have HB := n0_; have BK104 := n1_; have GW104 := n2_; have GE104 := n3_; clear n0_ n1_ n2_ n3_; clear hb hbox hg; have hcz28_0 : w27.cell? ⟨gb104, 0, none⟩ = some (.int .u64 a0_0) := (blk_cell BK104.out 0).trans rfl; have hcz28_1 : w27.cell? ⟨gb104, 1, none⟩ = some (.slice A0_1 l0_1.length c0_1) := (blk_cell BK104.out 1).trans rfl; have hfz28_0 := blk_frozen BK104.out 0; have hfz28_1 := blk_frozen BK104.out 1) | ((with_reducible refine gate_callee (f := 56) rfl ?_); refine goesL_ (some 8) rfl rfl Try.func56 (by kernel_rfl) rfl #[.agg #[.int .u64 a0_0, .slice A0_1 l0_1.length c0_1], .int .u64 a1] rfl (by (try simp only [List.map_toArray, List.map_cons, List.map_nil]); first | done | rfl | (simp only [List.length_drop, List.length_take]; rfl) | (simp only [*]; rfl)) ?_; (with_reducible refine (lsns_at.calls a0_0 _ _ l0_1 a1 t105 _ ?side1 ?side2 A3.out).mono ?_); (case side1 => repeat (first | exact (Kd.C_below HR0_1.out HB.out) | (with_reducible refine Kd.C_alloc ?_ _) | (with_reducible refine Kd.C_drewN ?_ _) | (with_reducible refine Kd.C_drew ?_))); (case side2 => exact HC0_1.out); rintro e w29 ⟨rfl, hb⟩; refine ⟨_, rfl, ?_⟩; have n0_ := Aside0.mk (blk_below (mvB BK104.out) hb); have n1_ := Aside0.mk (below_step (mvW HB.out) hb); clear BK104; clear HB; have BK104 := n0_; have HB := n1_; clear n0_ n1_; (try clear hb); (try clear hb2); (try clear hk); (try clear hi); have hcz30_0 : w29.cell? ⟨gb104, 0, none⟩ = some (.int .u64 a0_0) := (blk_cell BK104.out 0).trans rfl; have hcz30_1 : w29.cell? ⟨gb104, 1, none⟩ = some (.slice A0_1 l0_1.length c0_1) := (blk_cell BK104.out 1).trans rfl; have hfz30_0 := blk_frozen BK104.out 0; have hfz30_1 := blk_frozen BK104.out 1) | ((with_reducible refine gate_callee (f := 25) rfl ?_); refine goesL_ (some 10) rfl rfl Try.func25 (by kernel_rfl) rfl #[.agg #[.int .u64 a0_0, .slice A0_1 l0_1.length c0_1]] rfl (by (try simp only [List.map_toArray, List.map_cons, List.map_nil]); first | done | rfl | (simp only [List.length_drop, List.length_take]; rfl) | (simp only [*]; rfl)) ?_; (with_reducible refine (lsns_Right.calls k a0_0 _ _ l0_1 false _ ?side1 ?side2 A4.out).mono ?_); (case side1 => repeat (first | exact (Kd.C_below HR0_1.out HB.out) | (with_reducible refine Kd.C_alloc ?_ _) | (with_reducible refine Kd.C_drewN ?_ _) | (with_reducible refine Kd.C_drew ?_))); (case side2 => exact HC0_1.out); rintro e w31 ⟨rfl, hb⟩; refine ⟨_, rfl, ?_⟩; have n0_ := Aside0.mk (blk_below (mvB BK104.out) hb); have n1_ := Aside0.mk (below_step (mvW HB.out) hb); clear BK104; clear HB; have BK104 := n0_; have HB := n1_; clear n0_ n1_; (try clear hb); (try clear hb2); (try clear hk); (try clear hi)))); (go_ret); (exact ⟨by first | rfl | (simp [errW_none, errW_some] <;> rfl) | (simp [*, errW_none, errW_some] <;> rfl), by repeat (first | (with_reducible first | exact HB.out | apply below_alloc | apply pw_below_drewN | apply below_drew1 | refine below_set ?_ GE104.out) | exact HB.out)⟩)

/-! ### slices_Clone_uint64_uint64: function 55 -/
def slices_Clone_uint64_uint64.f (l0 : List Int) : Option (List Int) := if l0.length < 17592186044416 then some l0 else none
set_option maxHeartbeats 4000000 in
set_option maxRecDepth 100000 in
theorem slices_Clone_uint64_uint64.calls (A0 : Option Addr) (c0 : Nat) (l0 : List Int) (r : List Int) (w : World) (hr0 : Kd.C (Kd.int .u64) w A0 l0.length l0) (hc0 : l0.length ≤ c0) (h : slices_Clone_uint64_uint64.f l0 = some r) :
    Calls Try.prog 55 #[.slice A0 l0.length c0] w fun e w' => ∃ v0_ : Value, e = .returned (v0_) ∧ Kd.R (Kd.int .u64) 22 w' w.heap.size (fun _ => True) v0_ r ∧ Below w.heap.size w w' := by
  unfold slices_Clone_uint64_uint64.f at h
  by_cases hl : l0.length < 17592186044416
  · rw [if_pos hl] at h
    obtain rfl := Option.some.inj h
    have HL := Aside0.mk hl
    have HR := Aside0.mk hr0
    clear h hl hr0
    rcases A0 with _ | ad
    · obtain rfl : l0 = [] := by
        rcases Nat.eq_zero_or_pos l0.length with h0 | h0
        · exact List.eq_nil_of_length_eq_zero h0
        · obtain ⟨ad, h, _⟩ := HR.out.2.2 h0
          cases h
      have he := fun w => Lib.run_eql_slice_nil (P := Try.prog) w 23 22 none ([] : List Int).length c0 0 0 Try.underlying23
      simp only [Option.isNone, List.length_nil] at he
      go_enter Try.func55, Try.ntmps55
      go_wp2
      go_ret
      exact ⟨_, rfl, Kd.R_nil _ _ _ _ _, Below.refl _ _⟩
    · have he := fun w => Lib.run_eql_slice_nil (P := Try.prog) w 23 22 (some ad) l0.length c0 0 0 Try.underlying23
      simp only [Option.isNone, List.length_nil] at he
      go_enter Try.func55, Try.ntmps55
      go_wp2_with (first | ((with_reducible refine gate_dst (N := 5) rfl ?_); refine Kd.R_lit (Kd.int .u64) _ 22 ?hg (N := 5) ?hd (xs := ([] : List Int)) (inner := []) (ok := fun _ => True) (okp := fun _ => True) ?hr ?hp (fun _ hk => hk) trivial (Below.refl _ _) (Nat.le_refl _) (by simp) ?_; (case hd => rfl); (case hg => rfl); (case hr => first | (go_simp; done) | (go_simp; rfl)); (case hp => exact Reps.none _ _); intro v5 w5 ho5 hb5 hg_ hnew_; clear hg_ hnew_; have HO := Aside0.mk ho5; have HB := Aside0.mk hb5; clear ho5 hb5) | ((with_reducible refine gate_builtin (b := .append) (xs := #[.tmp 5, .tmp 6]) rfl ?_); at_builtin; refine Kd.R_append_rows (Kd.int .u64) (w0 := w) w.heap.size rfl (.tmp 5) (.tmp 6) 23 22 (.int .u64 0) 8 rfl Try.underlying23 info22 rfl (by decide) (by omega) v5 ([] : List Int) l0 _ _ _ (fun _ => True) (fun _ => False) rfl rfl ?aO ?aR (fun _ _ h => h) (fun _ h => h.elim) ?aF ?aB ?aS ?aL ?_; (case aO => exact HO.out); (case aR => exact Kd.C_below HR.out HB.out); (case aF => exact fun _ _ => trivial); (case aB => exact HB.out); (case aS => exact below_size HB.out); (case aL => have := HL.out; simp only [List.length_nil]; omega); intro v6 w6 ho6 hb6 hg6 hat6; rw [List.nil_append] at ho6; have HO6 := Aside0.mk ho6; have HB6 := Aside0.mk hb6; clear ho6 hb6 hg6 hat6))
      go_ret
      exact ⟨_, rfl, HO6.out, HB6.out⟩
  · rw [if_neg hl] at h
    cases h

/-! ### lsns_Add: function 18 -/
def lsns_Add.f (k : Nat) (a0_0 : Int) (l0_1 : List Int) (a1 : Int) : Option (Int × List Int × Int) := (lsns_Right.f k a0_0 l0_1).bind fun t110 => (if t110 = true then ((lsns_Has.f k a0_0 l0_1 a1).bind fun t111 => (if t111 = true then ((slices_Clone_uint64_uint64.f l0_1).bind fun t112 => (some (a0_0, t112, 0))) else (if (l0_1.length : Int) = 1000 then (some (0, ([] : List Int), 6)) else ((lsns_at.f a0_0 l0_1 a1).bind fun t115 => (if 0 ≤ t115 then (if t115 ≤ (l0_1.length : Int) then (if (l0_1.take (t115 : Int).toNat).length < 17592186044416 then ((some ((l0_1.take (t115 : Int).toNat) ++ [a1] : List Int)).bind fun y117 => (if y117.length + (l0_1.drop (t115 : Int).toNat).length < 17592186044416 then (some (a0_0, (y117 ++ (l0_1.drop (t115 : Int).toNat)), 0)) else (none))) else (none)) else (none)) else (none)))))) else (some (0, ([] : List Int), 40)))
theorem lsns_Add.mono : ∀ a0 a1 a2 k, LeO (lsns_Add.f k a0 a1 a2) (lsns_Add.f (k + 1) a0 a1 a2) := by
  intro a0 a1 a2 k
  unfold lsns_Add.f
  repeat' first
      | (with_reducible exact lsns_Has.mono _ _ _ _)
      | (with_reducible exact lsns_Right.mono _ _ _)
      | (with_reducible exact LeO.refl _)
      | (with_reducible exact LeO.none _)
      | (with_reducible refine LeO.ite ?_ ?_)
      | (with_reducible refine LeO.bind ?_ (fun _ => ?_))
      | exact lsns_Has.mono _ _ _ _
      | exact lsns_Right.mono _ _ _
      | exact LeO.none _
      | refine LeO.ite ?_ ?_
      | refine LeO.bind ?_ (fun _ => ?_)
def lsns_Add.T4 : Bool × List (List Nat × List Nat) := (true, [([], []), ([0], [0]), ([], []), ([2], [2]), ([3], [3]), ([1, 4], [1, 4]), ([5, 4, 0, 1, 2, 3, 4, 5], [5]), ([6, 0, 1, 2, 3, 4, 5, 6], [])])
def lsns_Add.B4 : List Nat := [0, 1, 0, 4, 12, 31, 63, 127]
theorem lsns_Add.tab4 : rtab .any (opsOf Try.f18 4) = lsns_Add.T4 := by kernel_rfl
theorem lsns_Add.bits4 : waitsOk lsns_Add.T4.2 lsns_Add.B4 = true := by kernel_rfl
def lsns_Add.T8 : Bool × List (List Nat × List Nat) := (true, [([], []), ([0], [0]), ([], []), ([2], [2]), ([], []), ([], []), ([3, 4, 5], [3, 4, 5]), ([], []), ([7], [7]), ([6, 8], [6, 8]), ([], []), ([10], [10]), ([], []), ([11, 12], [11, 12]), ([9, 13, 9], [9, 13]), ([1, 14], [1, 14]), ([15, 14, 0, 1, 2, 3, 4, 5, 6, 7, 8, 9, 10, 11, 12, 13, 14, 15], [15]), ([16, 0, 1, 2, 3, 4, 5, 6, 7, 8, 9, 10, 11, 12, 13, 14, 15, 16], [])])
def lsns_Add.B8 : List Nat := [0, 1, 0, 4, 0, 0, 60, 0, 128, 508, 0, 1024, 0, 7168, 16380, 32767, 65535, 131071]
theorem lsns_Add.tab8 : rtab .any (opsOf Try.f18 8) = lsns_Add.T8 := by kernel_rfl
theorem lsns_Add.bits8 : waitsOk lsns_Add.T8.2 lsns_Add.B8 = true := by kernel_rfl
set_option maxHeartbeats 8000000 in
set_option maxRecDepth 100000 in
theorem lsns_Add.calls (k : Nat) (a0_0 : Int) (A0_1 : Option Addr) (c0_1 : Nat) (l0_1 : List Int) (a1 : Int) (r1 : Int) (r2 : List Int) (r3 : Int) (w : World) (hr0_1 : Kd.C (Kd.int .u64) w A0_1 l0_1.length l0_1) (hc0_1 : l0_1.length ≤ c0_1) (h : lsns_Add.f k a0_0 l0_1 a1 = some (r1, r2, r3)) :
    Calls Try.prog 18 #[.agg #[.int .u64 a0_0, .slice A0_1 l0_1.length c0_1], .int .u64 a1] w fun e w' => ∃ v1_ : Value, e = .returned (.tuple #[.agg #[.int .u64 r1, v1_], .int .i64 r3]) ∧ Kd.R (Kd.int .u64) 22 w' w.heap.size (fun _ => True) v1_ r2 ∧ Below w.heap.size w w' := by
  (have hu25 := Try.underlying25); (have HR0_1 := Aside0.mk hr0_1); (have HC0_1 := Aside0.mk hc0_1); (clear hr0_1 hc0_1); (have HB := Aside0.mk (Below.refl w.heap.size w)); (have H : ((lsns_Right.f k a0_0 l0_1).bind fun t110 => (if t110 = true then ((lsns_Has.f k a0_0 l0_1 a1).bind fun t111 => (if t111 = true then ((slices_Clone_uint64_uint64.f l0_1).bind fun t112 => (some (a0_0, t112, 0))) else (if (l0_1.length : Int) = 1000 then (some (0, ([] : List Int), 6)) else ((lsns_at.f a0_0 l0_1 a1).bind fun t115 => (if 0 ≤ t115 then (if t115 ≤ (l0_1.length : Int) then (if (l0_1.take (t115 : Int).toNat).length < 17592186044416 then ((some ((l0_1.take (t115 : Int).toNat) ++ [a1] : List Int)).bind fun y117 => (if y117.length + (l0_1.drop (t115 : Int).toNat).length < 17592186044416 then (some (a0_0, (y117 ++ (l0_1.drop (t115 : Int).toNat)), 0)) else (none))) else (none)) else (none)) else (none)))))) else (some (0, ([] : List Int), 40)))) = some (r1, r2, r3) := h); (clear h); (replace H := Option.bind_eq_some_iff.mp H); (obtain ⟨t110, A30, H⟩ := H); (replace H : (if t110 = true then ((lsns_Has.f k a0_0 l0_1 a1).bind fun t111 => (if t111 = true then ((slices_Clone_uint64_uint64.f l0_1).bind fun t112 => (some (a0_0, t112, 0))) else (if (l0_1.length : Int) = 1000 then (some (0, ([] : List Int), 6)) else ((lsns_at.f a0_0 l0_1 a1).bind fun t115 => (if 0 ≤ t115 then (if t115 ≤ (l0_1.length : Int) then (if (l0_1.take (t115 : Int).toNat).length < 17592186044416 then ((some ((l0_1.take (t115 : Int).toNat) ++ [a1] : List Int)).bind fun y117 => (if y117.length + (l0_1.drop (t115 : Int).toNat).length < 17592186044416 then (some (a0_0, (y117 ++ (l0_1.drop (t115 : Int).toNat)), 0)) else (none))) else (none)) else (none)) else (none)))))) else (some (0, ([] : List Int), 40))) = some (r1, r2, r3) := H); (have A3 := Aside0.mk A30); (clear A30); (by_cases c4 : t110 = true)
  · (subst c4); (have H1 : ((lsns_Has.f k a0_0 l0_1 a1).bind fun t111 => (if t111 = true then ((slices_Clone_uint64_uint64.f l0_1).bind fun t112 => (some (a0_0, t112, 0))) else (if (l0_1.length : Int) = 1000 then (some (0, ([] : List Int), 6)) else ((lsns_at.f a0_0 l0_1 a1).bind fun t115 => (if 0 ≤ t115 then (if t115 ≤ (l0_1.length : Int) then (if (l0_1.take (t115 : Int).toNat).length < 17592186044416 then ((some ((l0_1.take (t115 : Int).toNat) ++ [a1] : List Int)).bind fun y117 => (if y117.length + (l0_1.drop (t115 : Int).toNat).length < 17592186044416 then (some (a0_0, (y117 ++ (l0_1.drop (t115 : Int).toNat)), 0)) else (none))) else (none)) else (none)) else (none)))))) = some (r1, r2, r3) := by rw [if_pos rfl] at H; exact H); (clear H); (have H := H1); (clear H1); (replace H := Option.bind_eq_some_iff.mp H); (obtain ⟨t111, A50, H⟩ := H); (replace H : (if t111 = true then ((slices_Clone_uint64_uint64.f l0_1).bind fun t112 => (some (a0_0, t112, 0))) else (if (l0_1.length : Int) = 1000 then (some (0, ([] : List Int), 6)) else ((lsns_at.f a0_0 l0_1 a1).bind fun t115 => (if 0 ≤ t115 then (if t115 ≤ (l0_1.length : Int) then (if (l0_1.take (t115 : Int).toNat).length < 17592186044416 then ((some ((l0_1.take (t115 : Int).toNat) ++ [a1] : List Int)).bind fun y117 => (if y117.length + (l0_1.drop (t115 : Int).toNat).length < 17592186044416 then (some (a0_0, (y117 ++ (l0_1.drop (t115 : Int).toNat)), 0)) else (none))) else (none)) else (none)) else (none))))) = some (r1, r2, r3) := H); (have A5 := Aside0.mk A50); (clear A50); (by_cases c6 : t111 = true)
    · (subst c6); (have H1 : ((slices_Clone_uint64_uint64.f l0_1).bind fun t112 => (some (a0_0, t112, 0))) = some (r1, r2, r3) := by rw [if_pos rfl] at H; exact H); (clear H); (have H := H1); (clear H1); (replace H := Option.bind_eq_some_iff.mp H); (obtain ⟨t112, A70, H⟩ := H); (replace H : (some (a0_0, t112, 0)) = some (r1, r2, r3) := H); (have A7 := Aside0.mk A70); (clear A70); (simp only [Option.some.injEq, Prod.mk.injEq] at H); (obtain ⟨rfl, rfl, rfl⟩ := H); (go_enter Try.func18, Try.ntmps18); (try go_wp2_with (first | ((with_reducible refine gate_dst (N := 2) rfl ?_); refine box_event ?hg (N := 2) ?hd (cs := #[.int .u64 a0_0, .slice A0_1 l0_1.length c0_1]) (t := 25) ?hr ?_; (case hd => rfl); (case hg => rfl); (case hr => first | (go_simp; done) | (go_simp; rfl)); intro gb108 hg w8 hbox hb; have n0_ := Aside0.mk (below_step (mvW HB.out) hb); have n1_ := Aside0.mk (hbox); have n2_ := Aside0.mk ((by rw [hg]; exact (below_size (mvW HB.out)) : w.heap.size ≤ gb108)); have n3_ := Aside0.mk ((by rw [hg]; exact (below_size (mvW HB.out)) : w.heap.size ≤ gb108)); clear HB; have HB := n0_; have BK108 := n1_; have GW108 := n2_; have GE108 := n3_; clear n0_ n1_ n2_ n3_; clear hb hbox hg) | ((with_reducible refine gate_dst (N := 4) rfl ?_); refine box_event ?hg (N := 4) ?hd (cs := #[.int .u64 0, .slice none 0 0]) (t := 25) ?hr ?_; (case hd => rfl); (case hg => rfl); (case hr => first | (go_simp; done) | (go_simp; rfl)); intro gb109 hg w9 hbox hb; have n0_ := Aside0.mk (blk_below (mvB BK108.out) hb); have n1_ := Aside0.mk (below_step (mvW HB.out) hb); have n2_ := Aside0.mk (hbox); have n3_ := Aside0.mk ((by rw [hg]; exact (below_size (mvW HB.out)) : w.heap.size ≤ gb109)); have n4_ := Aside0.mk ((by rw [hg]; exact (below_size (mvW HB.out)) : w.heap.size ≤ gb109)); have n5_ := Aside0.mk ((by rw [hg]; exact Nat.ne_of_lt (blk_lt (mvB BK108.out)) : gb108 ≠ gb109)); have n6_ := Aside0.mk ((by rw [hg]; exact Nat.ne_of_gt (blk_lt (mvB BK108.out)) : gb109 ≠ gb108)); clear BK108; clear HB; have BK108 := n0_; have HB := n1_; have BK109 := n2_; have GW109 := n3_; have GE109 := n4_; have NB108_109 := n5_; have NB109_108 := n6_; clear n0_ n1_ n2_ n3_ n4_ n5_ n6_; clear hb hbox hg; have hnb10 := NB108_109.out; have hnc10 := NB109_108.out; have hcz11_0 : w9.cell? ⟨gb108, 0, none⟩ = some (.int .u64 a0_0) := (blk_cell BK108.out 0).trans rfl; have hcz11_1 : w9.cell? ⟨gb108, 1, none⟩ = some (.slice A0_1 l0_1.length c0_1) := (blk_cell BK108.out 1).trans rfl; have hfz11_0 := blk_frozen BK108.out 0; have hfz11_1 := blk_frozen BK108.out 1) | ((with_reducible refine gate_callee (f := 25) rfl ?_); refine goesL_ (some 9) rfl rfl Try.func25 (by kernel_rfl) rfl #[.agg #[.int .u64 a0_0, .slice A0_1 l0_1.length c0_1]] rfl (by (try simp only [List.map_toArray, List.map_cons, List.map_nil]); first | done | rfl | (simp only [List.length_drop, List.length_take]; rfl) | (simp only [*]; rfl)) ?_; (with_reducible refine (lsns_Right.calls k a0_0 _ _ l0_1 true _ ?side1 ?side2 A3.out).mono ?_); (case side1 => repeat (first | exact (Kd.C_below HR0_1.out HB.out) | (with_reducible refine Kd.C_alloc ?_ _) | (with_reducible refine Kd.C_drewN ?_ _) | (with_reducible refine Kd.C_drew ?_))); (case side2 => exact HC0_1.out); rintro e w12 ⟨rfl, hb⟩; refine ⟨_, rfl, ?_⟩; have n0_ := Aside0.mk (blk_below (mvB BK108.out) hb); have n1_ := Aside0.mk (blk_below (mvB BK109.out) hb); have n2_ := Aside0.mk (below_step (mvW HB.out) hb); clear BK108; clear BK109; clear HB; have BK108 := n0_; have BK109 := n1_; have HB := n2_; clear n0_ n1_ n2_; (try clear hb); (try clear hb2); (try clear hk); (try clear hi); have hcz13_0 : w12.cell? ⟨gb108, 0, none⟩ = some (.int .u64 a0_0) := (blk_cell BK108.out 0).trans rfl; have hcz13_1 : w12.cell? ⟨gb108, 1, none⟩ = some (.slice A0_1 l0_1.length c0_1) := (blk_cell BK108.out 1).trans rfl; have hfz13_0 := blk_frozen BK108.out 0; have hfz13_1 := blk_frozen BK108.out 1) | ((with_reducible refine gate_callee (f := 26) rfl ?_); refine goesL_ (some 15) rfl rfl Try.func26 (by kernel_rfl) rfl #[.agg #[.int .u64 a0_0, .slice A0_1 l0_1.length c0_1], .int .u64 a1] rfl (by (try simp only [List.map_toArray, List.map_cons, List.map_nil]); first | done | rfl | (simp only [List.length_drop, List.length_take]; rfl) | (simp only [*]; rfl)) ?_; (with_reducible refine (lsns_Has.calls k a0_0 _ _ l0_1 a1 true _ ?side1 ?side2 A5.out).mono ?_); (case side1 => repeat (first | exact (Kd.C_below HR0_1.out HB.out) | (with_reducible refine Kd.C_alloc ?_ _) | (with_reducible refine Kd.C_drewN ?_ _) | (with_reducible refine Kd.C_drew ?_))); (case side2 => exact HC0_1.out); rintro e w14 ⟨rfl, hb⟩; refine ⟨_, rfl, ?_⟩; have n0_ := Aside0.mk (blk_below (mvB BK108.out) hb); have n1_ := Aside0.mk (blk_below (mvB BK109.out) hb); have n2_ := Aside0.mk (below_step (mvW HB.out) hb); clear BK108; clear BK109; clear HB; have BK108 := n0_; have BK109 := n1_; have HB := n2_; clear n0_ n1_ n2_; (try clear hb); (try clear hb2); (try clear hk); (try clear hi)))); (have n0_ := Aside0.mk (blk_drew BK108.out)); (have n1_ := Aside0.mk (blk_drew BK109.out)); (have n2_ := Aside0.mk (below_drew1 HB.out)); (clear BK108); (clear BK109); (clear HB); (have BK108 := n0_); (have BK109 := n1_); (have HB := n2_); (clear n0_ n1_ n2_); (refine start_ (n := 8) (S := fun w' => w'.cell? ⟨gb108, 0, none⟩ = some (.int .u64 a0_0) ∧ w'.cell? ⟨gb108, 1, none⟩ = some (.slice A0_1 l0_1.length c0_1)) (ds := []) #[false, false, false, false, false, false, false, false] (by kernel_rfl) rfl rfl ⟨(blk_cell BK108.out 0).trans rfl, (blk_cell BK108.out 1).trans rfl⟩ (fun hHeld => ?_); refine with_tabW lsns_Add.tab4 lsns_Add.bits4 (fun HT_ HW_ => ?_)); (generalize w14.drew = w15 at BK108 BK109 HB hHeld ⊢); (refine pure_ (i := 0) (N := some 16) (v := ?_) (a' := ?_) (bv 1 7) rfl rfl (any_of HT_.out (by kernel_rfl)) (fun _ _ _ h => h) (Or.inl ⟨by rfl, ?_⟩) ?_ ?_); (rotate_left)
      · (intro w'); (go_simp); (with_reducible rfl)
      rotate_left
      · (simp only [sA]); (rfl)
      (refine pure_ (i := 2) (N := some 18) (v := ?_) (a' := ?_) #[true, false, true, false, false, false, false, false] rfl rfl (any_of HT_.out (by kernel_rfl)) (fun _ _ _ h => h) (Or.inl ⟨by rfl, ?_⟩) ?_ ?_); (rotate_left)
      · (intro w'); (go_simp); (with_reducible rfl)
      rotate_left
      · (simp only [sA]); (rfl)
      (refine take_ (i := 1) (N := some 17) (v := ?_) (a' := ?_) (bv 3 5) rfl rfl (take_ofW HT_.out HW_.out (by kernel_rfl)) (fun _ _ _ h => h) (Or.inl ⟨by rfl, ?_⟩) hHeld ?_ ?_); (rotate_left)
      · (rintro w' ⟨s0, s1⟩); (go_simp); (with_reducible rfl)
      rotate_left
      · (simp only [sA]); (rfl)
      (refine take_ (i := 3) (N := some 19) (v := ?_) (a' := ?_) (bv 4 4) rfl rfl (take_ofW HT_.out HW_.out (by kernel_rfl)) (fun _ _ _ h => h) (Or.inl ⟨by rfl, ?_⟩) hHeld ?_ ?_); (rotate_left)
      · (rintro w' ⟨s0, s1⟩); (go_simp); (with_reducible rfl)
      rotate_left
      · (simp only [sA]); (rfl)
      (refine one_ (i := 4) (N := some 20) (bv 5 3) rfl rfl (one_of HT_.out (by kernel_rfl)) (by decide) (fun K hK => ?_)); (refine goes_ Try.func55 (by kernel_rfl) rfl #[.slice A0_1 l0_1.length c0_1] (by rfl) rfl rfl (by (try simp only [List.map_toArray, List.map_cons, List.map_nil]); first | done | rfl | (simp only [List.length_drop, List.length_take]; rfl) | (simp only [*]; rfl)) ?_); (with_reducible refine (slices_Clone_uint64_uint64.calls _ _ l0_1 t112 _ ?side1 ?side2 A7.out).mono ?_); ((case side1 => repeat (first | exact (Kd.C_below HR0_1.out HB.out) | (with_reducible refine Kd.C_alloc ?_ _) | (with_reducible refine Kd.C_drewN ?_ _) | (with_reducible refine Kd.C_drew ?_)))); ((case side2 => exact HC0_1.out)); (rintro e w16 ⟨v113, rfl, ho0, hb⟩); (refine ⟨_, rfl, ?_⟩); (have n0_ := Aside0.mk (Kd.R_lower ho0 (below_size (mvW HB.out)))); (have n1_ := Aside0.mk (blk_below (mvB BK108.out) hb)); (have n2_ := Aside0.mk (blk_below (mvB BK109.out) hb)); (have n3_ := Aside0.mk (below_step (mvW HB.out) hb)); (clear BK108); (clear BK109); (clear HB); (have HO114 := n0_); (have BK108 := n1_); (have BK109 := n2_); (have HB := n3_); (clear n0_ n1_ n2_ n3_); ((try clear hb)); ((try clear hb2)); ((try clear hk)); ((try clear hi)); ((try clear ho0)); (obtain ⟨Ao17, co17, eo17⟩ := Kd.R_slice HO114.out); ((first | subst eo17 | (injection eo17 with f1_ f2_ f3_; have f4_ := f1_.symm; have f5_ := f3_.symm; clear f1_ f2_ f3_; subst f4_; subst f5_))); (refine hK.out _ _ ⟨(blk_cell BK108.out 0).trans rfl, (blk_cell BK108.out 1).trans rfl⟩ (fun hHeld => ?_)); (clear hK K); (refine norm_ (a' := ?_) ?_ ?_); (rotate_left)
      · (show Act.put _ (some 20) _ = _); (simp only [sA]); (rfl)
      (refine pure_ (i := 5) (N := some 21) (v := ?_) (a' := ?_) (bv 6 2) rfl rfl (any_of HT_.out (by kernel_rfl)) (fun _ _ _ h => h) (Or.inl ⟨by rfl, ?_⟩) ?_ ?_); (rotate_left)
      · (intro w'); (go_simp); (with_reducible rfl)
      rotate_left
      · (simp only [sA]); (rfl)
      (refine one_ (i := 6) (N := none) (bv 7 1) rfl rfl (one_of HT_.out (by kernel_rfl)) (by decide) (fun K hK => ?_)); (have hs18 : w16.cell? ⟨gb109, 0, none⟩ = some (.int .u64 0) := (blk_cell BK109.out 0).trans rfl); (have hfs18 := blk_frozen BK109.out 0); (have hns18_0 := NB108_109.out); (have hms18_0 := NB109_108.out); (have hs19 : w16.cell? ⟨gb109, 1, none⟩ = some (.slice none 0 0) := (blk_cell BK109.out 1).trans rfl); (have hfs19 := blk_frozen BK109.out 1); (have hns19_0 := NB108_109.out); (have hms19_0 := NB109_108.out); (refine skip_ (w1 := ?_) (by rfl) rfl ?_ ?_); (rotate_left)
      · (go_simp); (rfl)
      (refine hK.out _ _ ⟨((cell_far (p := ⟨gb109, _, none⟩) NB108_109.out _).trans (((cell_far (p := ⟨gb109, _, none⟩) NB108_109.out _).trans (hHeld.1)))), ((cell_far (p := ⟨gb109, _, none⟩) NB108_109.out _).trans (((cell_far (p := ⟨gb109, _, none⟩) NB108_109.out _).trans (hHeld.2))))⟩ (fun hHeld => ?_)); (clear hK K); (refine pure_ (i := 7) (N := some 5) (v := ?_) (a' := ?_) (bv 8 0) rfl rfl (any_of HT_.out (by kernel_rfl)) (fun _ _ _ h => h) (Or.inl ⟨by rfl, ?_⟩) ?_ ?_); (rotate_left)
      · (intro w'); (go_simp); (with_reducible rfl)
      rotate_left
      · (simp only [sA]); (rfl)
      (refine done_ (done_of HT_.out (by kernel_rfl)) ?_); (try go_wp2); (refine bodyPost_ret (results_ct rfl _ _ gb109 25 #[.int .u64 a0_0, .slice Ao17 t112.length co17] (0, 0) _ rfl (by (with_reducible repeat (first | refine blk_drewN ?_ _ | refine blk_drew ?_ | refine blk_alloc ?_ _)); refine blk_put (cs := #[.int .u64 a0_0, .slice none 0 0]) ?_ 1 _ rfl; (with_reducible repeat (first | refine blk_drewN ?_ _ | refine blk_drew ?_ | refine blk_alloc ?_ _)); refine blk_put (cs := #[.int .u64 0, .slice none 0 0]) ?_ 0 _ rfl; (with_reducible repeat (first | refine blk_drewN ?_ _ | refine blk_drew ?_ | refine blk_alloc ?_ _)); exact BK109.out) Try.underlying25 rfl (by kernel_rfl)) rfl ?_); (exact ⟨_, by first | rfl | (simp [errW_none, errW_some] <;> rfl) | (simp [*, errW_none, errW_some] <;> rfl), by (with_reducible repeat (first | apply Kd.R_alloc | apply Kd.R_drewN | apply Kd.R_drew)); exact Kd.R_mono (R_fart2 HO114.out BK109.out (by decide)) (fun _ hk => trivial), by repeat (first | (with_reducible first | exact HB.out | apply below_alloc | apply pw_below_drewN | apply below_drew1 | refine below_set ?_ GE108.out | refine below_set ?_ GE109.out) | exact HB.out)⟩)
    · (replace c6 := Bool.eq_false_iff.mpr c6); (subst c6); (have H1 : (if (l0_1.length : Int) = 1000 then (some (0, ([] : List Int), 6)) else ((lsns_at.f a0_0 l0_1 a1).bind fun t115 => (if 0 ≤ t115 then (if t115 ≤ (l0_1.length : Int) then (if (l0_1.take (t115 : Int).toNat).length < 17592186044416 then ((some ((l0_1.take (t115 : Int).toNat) ++ [a1] : List Int)).bind fun y117 => (if y117.length + (l0_1.drop (t115 : Int).toNat).length < 17592186044416 then (some (a0_0, (y117 ++ (l0_1.drop (t115 : Int).toNat)), 0)) else (none))) else (none)) else (none)) else (none)))) = some (r1, r2, r3) := by rw [if_neg (show ¬ (false = true) by decide)] at H; exact H); (clear H); (have H := H1); (clear H1); (by_cases c20 : (l0_1.length : Int) = 1000)
      · (rw [if_pos c20] at H); (have c20b0 : ((l0_1.length : Int) == 1000) = true := beq_iff_eq.mpr c20); (have c20b1 : ((l0_1.length : Int) != 1000) = false := bne_eq_false_iff_eq.mpr c20); (clear c20); (simp only [Option.some.injEq, Prod.mk.injEq] at H); (obtain ⟨rfl, rfl, rfl⟩ := H); (go_enter Try.func18, Try.ntmps18); (go_wp2_with (first | ((with_reducible refine gate_dst (N := 2) rfl ?_); refine box_event ?hg (N := 2) ?hd (cs := #[.int .u64 a0_0, .slice A0_1 l0_1.length c0_1]) (t := 25) ?hr ?_; (case hd => rfl); (case hg => rfl); (case hr => first | (go_simp; done) | (go_simp; rfl)); intro gb108 hg w21 hbox hb; have n0_ := Aside0.mk (below_step (mvW HB.out) hb); have n1_ := Aside0.mk (hbox); have n2_ := Aside0.mk ((by rw [hg]; exact (below_size (mvW HB.out)) : w.heap.size ≤ gb108)); have n3_ := Aside0.mk ((by rw [hg]; exact (below_size (mvW HB.out)) : w.heap.size ≤ gb108)); clear HB; have HB := n0_; have BK108 := n1_; have GW108 := n2_; have GE108 := n3_; clear n0_ n1_ n2_ n3_; clear hb hbox hg) | ((with_reducible refine gate_dst (N := 4) rfl ?_); refine box_event ?hg (N := 4) ?hd (cs := #[.int .u64 0, .slice none 0 0]) (t := 25) ?hr ?_; (case hd => rfl); (case hg => rfl); (case hr => first | (go_simp; done) | (go_simp; rfl)); intro gb109 hg w22 hbox hb; have n0_ := Aside0.mk (blk_below (mvB BK108.out) hb); have n1_ := Aside0.mk (below_step (mvW HB.out) hb); have n2_ := Aside0.mk (hbox); have n3_ := Aside0.mk ((by rw [hg]; exact (below_size (mvW HB.out)) : w.heap.size ≤ gb109)); have n4_ := Aside0.mk ((by rw [hg]; exact (below_size (mvW HB.out)) : w.heap.size ≤ gb109)); have n5_ := Aside0.mk ((by rw [hg]; exact Nat.ne_of_lt (blk_lt (mvB BK108.out)) : gb108 ≠ gb109)); have n6_ := Aside0.mk ((by rw [hg]; exact Nat.ne_of_gt (blk_lt (mvB BK108.out)) : gb109 ≠ gb108)); clear BK108; clear HB; have BK108 := n0_; have HB := n1_; have BK109 := n2_; have GW109 := n3_; have GE109 := n4_; have NB108_109 := n5_; have NB109_108 := n6_; clear n0_ n1_ n2_ n3_ n4_ n5_ n6_; clear hb hbox hg; have hnb23 := NB108_109.out; have hnc23 := NB109_108.out; have hcz24_0 : w22.cell? ⟨gb108, 0, none⟩ = some (.int .u64 a0_0) := (blk_cell BK108.out 0).trans rfl; have hcz24_1 : w22.cell? ⟨gb108, 1, none⟩ = some (.slice A0_1 l0_1.length c0_1) := (blk_cell BK108.out 1).trans rfl; have hfz24_0 := blk_frozen BK108.out 0; have hfz24_1 := blk_frozen BK108.out 1) | ((with_reducible refine gate_callee (f := 25) rfl ?_); refine goesL_ (some 9) rfl rfl Try.func25 (by kernel_rfl) rfl #[.agg #[.int .u64 a0_0, .slice A0_1 l0_1.length c0_1]] rfl (by (try simp only [List.map_toArray, List.map_cons, List.map_nil]); first | done | rfl | (simp only [List.length_drop, List.length_take]; rfl) | (simp only [*]; rfl)) ?_; (with_reducible refine (lsns_Right.calls k a0_0 _ _ l0_1 true _ ?side1 ?side2 A3.out).mono ?_); (case side1 => repeat (first | exact (Kd.C_below HR0_1.out HB.out) | (with_reducible refine Kd.C_alloc ?_ _) | (with_reducible refine Kd.C_drewN ?_ _) | (with_reducible refine Kd.C_drew ?_))); (case side2 => exact HC0_1.out); rintro e w25 ⟨rfl, hb⟩; refine ⟨_, rfl, ?_⟩; have n0_ := Aside0.mk (blk_below (mvB BK108.out) hb); have n1_ := Aside0.mk (blk_below (mvB BK109.out) hb); have n2_ := Aside0.mk (below_step (mvW HB.out) hb); clear BK108; clear BK109; clear HB; have BK108 := n0_; have BK109 := n1_; have HB := n2_; clear n0_ n1_ n2_; (try clear hb); (try clear hb2); (try clear hk); (try clear hi); have hcz26_0 : w25.cell? ⟨gb108, 0, none⟩ = some (.int .u64 a0_0) := (blk_cell BK108.out 0).trans rfl; have hcz26_1 : w25.cell? ⟨gb108, 1, none⟩ = some (.slice A0_1 l0_1.length c0_1) := (blk_cell BK108.out 1).trans rfl; have hfz26_0 := blk_frozen BK108.out 0; have hfz26_1 := blk_frozen BK108.out 1) | ((with_reducible refine gate_callee (f := 26) rfl ?_); refine goesL_ (some 15) rfl rfl Try.func26 (by kernel_rfl) rfl #[.agg #[.int .u64 a0_0, .slice A0_1 l0_1.length c0_1], .int .u64 a1] rfl (by (try simp only [List.map_toArray, List.map_cons, List.map_nil]); first | done | rfl | (simp only [List.length_drop, List.length_take]; rfl) | (simp only [*]; rfl)) ?_; (with_reducible refine (lsns_Has.calls k a0_0 _ _ l0_1 a1 false _ ?side1 ?side2 A5.out).mono ?_); (case side1 => repeat (first | exact (Kd.C_below HR0_1.out HB.out) | (with_reducible refine Kd.C_alloc ?_ _) | (with_reducible refine Kd.C_drewN ?_ _) | (with_reducible refine Kd.C_drew ?_))); (case side2 => exact HC0_1.out); rintro e w27 ⟨rfl, hb⟩; refine ⟨_, rfl, ?_⟩; have n0_ := Aside0.mk (blk_below (mvB BK108.out) hb); have n1_ := Aside0.mk (blk_below (mvB BK109.out) hb); have n2_ := Aside0.mk (below_step (mvW HB.out) hb); clear BK108; clear BK109; clear HB; have BK108 := n0_; have BK109 := n1_; have HB := n2_; clear n0_ n1_ n2_; (try clear hb); (try clear hb2); (try clear hk); (try clear hi); have hcz28_0 : w27.cell? ⟨gb108, 0, none⟩ = some (.int .u64 a0_0) := (blk_cell BK108.out 0).trans rfl; have hcz28_1 : w27.cell? ⟨gb108, 1, none⟩ = some (.slice A0_1 l0_1.length c0_1) := (blk_cell BK108.out 1).trans rfl; have hfz28_0 := blk_frozen BK108.out 0; have hfz28_1 := blk_frozen BK108.out 1; have hcz29_0 : w27.cell? ⟨gb109, 0, none⟩ = some (.int .u64 0) := (blk_cell BK109.out 0).trans rfl; have hcz29_1 : w27.cell? ⟨gb109, 1, none⟩ = some (.slice none 0 0) := (blk_cell BK109.out 1).trans rfl; have hfz29_0 := blk_frozen BK109.out 0; have hfz29_1 := blk_frozen BK109.out 1))); (refine bodyPost_ret (results_ct rfl _ _ gb109 25 #[.int .u64 0, .slice none 0 0] (0, 0) _ rfl (by (with_reducible repeat (first | refine blk_drewN ?_ _ | refine blk_drew ?_ | refine blk_alloc ?_ _)); refine blk_put (cs := #[.int .u64 0, .slice none 0 0]) ?_ 1 _ rfl; (with_reducible repeat (first | refine blk_drewN ?_ _ | refine blk_drew ?_ | refine blk_alloc ?_ _)); refine blk_put (cs := #[.int .u64 0, .slice none 0 0]) ?_ 0 _ rfl; (with_reducible repeat (first | refine blk_drewN ?_ _ | refine blk_drew ?_ | refine blk_alloc ?_ _)); exact BK109.out) Try.underlying25 rfl (by kernel_rfl)) rfl ?_); (exact ⟨_, by first | rfl | (simp [errW_none, errW_some] <;> rfl) | (simp [*, errW_none, errW_some] <;> rfl), by first | exact Kd.R_nil _ _ _ _ _ | exact Kd.N_nil _ _ _ _ _ | exact Kd.V_nil _ _ _ _ _ | exact Kd.Q_nil _ _ _ _ _ | exact Kd.S_nil _ _ _ _ _, by repeat (first | (with_reducible first | exact HB.out | apply below_alloc | apply pw_below_drewN | apply below_drew1 | refine below_set ?_ GE108.out | refine below_set ?_ GE109.out) | exact HB.out)⟩)
      · (rw [if_neg c20] at H); (have c20b0 : ((l0_1.length : Int) == 1000) = false := beq_eq_false_iff_ne.mpr c20); (have c20b1 : ((l0_1.length : Int) != 1000) = true := bne_iff_ne.mpr c20); (replace H := Option.bind_eq_some_iff.mp H); (obtain ⟨t115, A300, H⟩ := H); (replace H : (if 0 ≤ t115 then (if t115 ≤ (l0_1.length : Int) then (if (l0_1.take (t115 : Int).toNat).length < 17592186044416 then ((some ((l0_1.take (t115 : Int).toNat) ++ [a1] : List Int)).bind fun y117 => (if y117.length + (l0_1.drop (t115 : Int).toNat).length < 17592186044416 then (some (a0_0, (y117 ++ (l0_1.drop (t115 : Int).toNat)), 0)) else (none))) else (none)) else (none)) else (none)) = some (r1, r2, r3) := H); (have A30 := Aside0.mk A300); (clear A300); (by_cases c31 : 0 ≤ t115)
        · (rw [if_pos c31] at H); (have c31b0 := eq_true c31); (have c31b1 : decide (0 ≤ t115) = true := decide_eq_true c31); (clear c31); (by_cases c32 : t115 ≤ (l0_1.length : Int))
          · (rw [if_pos c32] at H); (have c32b0 := eq_true c32); (have c32b1 : decide (t115 ≤ (l0_1.length : Int)) = true := decide_eq_true c32); (clear c32); (by_cases c33 : (l0_1.take (t115 : Int).toNat).length < 17592186044416)
            · (rw [if_pos c33] at H); (have LMc33 := Aside0.mk c33); (clear c33); (obtain ⟨y117, hy117⟩ : ∃ y_ : List Int, y_ = ((l0_1.take (t115 : Int).toNat) ++ [a1]) := ⟨_, rfl⟩); (replace H : (if y117.length + (l0_1.drop (t115 : Int).toNat).length < 17592186044416 then (some (a0_0, (y117 ++ (l0_1.drop (t115 : Int).toNat)), 0)) else (none)) = some (r1, r2, r3) := by first | (rw [hy117]; with_reducible exact H) | (have H2_ := (Option.bind_some _ _).symm.trans H; rw [hy117]; with_reducible exact H2_) | (have H2_ := (Option.bind_some _ _).symm.trans H; with_reducible exact H2_) | with_reducible exact H | (rw [hy117]; exact H) | exact H); (have Ny117 := Aside0.mk hy117); (clear hy117); (have c34b0 := eq_true (of_decide_eq_true (by first | (with_reducible assumption) | assumption) : 0 ≤ t115)); (have c35b0 := eq_true (of_decide_eq_true (by first | (with_reducible assumption) | assumption) : t115 ≤ (l0_1.length : Int))); (by_cases c36 : y117.length + (l0_1.drop (t115 : Int).toNat).length < 17592186044416)
              · (rw [if_pos c36] at H); (have LMc36 := Aside0.mk c36); (clear c36); (obtain ⟨y121, hy121⟩ : ∃ y_ : List Int, y_ = (y117 ++ (l0_1.drop (t115 : Int).toNat)) := ⟨_, rfl⟩); (replace H : (some (a0_0, y121, 0)) = some (r1, r2, r3) := by first | (rw [hy121]; with_reducible exact H) | (have H2_ := (Option.bind_some _ _).symm.trans H; rw [hy121]; with_reducible exact H2_) | (have H2_ := (Option.bind_some _ _).symm.trans H; with_reducible exact H2_) | with_reducible exact H | (rw [hy121]; exact H) | exact H); (have Ny121 := Aside0.mk hy121); (clear hy121); (simp only [Option.some.injEq, Prod.mk.injEq] at H); (obtain ⟨rfl, rfl, rfl⟩ := H); (go_enter Try.func18, Try.ntmps18); (try go_wp2_with (first | ((with_reducible refine gate_dst (N := 2) rfl ?_); refine box_event ?hg (N := 2) ?hd (cs := #[.int .u64 a0_0, .slice A0_1 l0_1.length c0_1]) (t := 25) ?hr ?_; (case hd => rfl); (case hg => rfl); (case hr => first | (go_simp; done) | (go_simp; rfl)); intro gb108 hg w37 hbox hb; have n0_ := Aside0.mk (below_step (mvW HB.out) hb); have n1_ := Aside0.mk (hbox); have n2_ := Aside0.mk ((by rw [hg]; exact (below_size (mvW HB.out)) : w.heap.size ≤ gb108)); have n3_ := Aside0.mk ((by rw [hg]; exact (below_size (mvW HB.out)) : w.heap.size ≤ gb108)); clear HB; have HB := n0_; have BK108 := n1_; have GW108 := n2_; have GE108 := n3_; clear n0_ n1_ n2_ n3_; clear hb hbox hg) | ((with_reducible refine gate_dst (N := 4) rfl ?_); refine box_event ?hg (N := 4) ?hd (cs := #[.int .u64 0, .slice none 0 0]) (t := 25) ?hr ?_; (case hd => rfl); (case hg => rfl); (case hr => first | (go_simp; done) | (go_simp; rfl)); intro gb109 hg w38 hbox hb; have n0_ := Aside0.mk (blk_below (mvB BK108.out) hb); have n1_ := Aside0.mk (below_step (mvW HB.out) hb); have n2_ := Aside0.mk (hbox); have n3_ := Aside0.mk ((by rw [hg]; exact (below_size (mvW HB.out)) : w.heap.size ≤ gb109)); have n4_ := Aside0.mk ((by rw [hg]; exact (below_size (mvW HB.out)) : w.heap.size ≤ gb109)); have n5_ := Aside0.mk ((by rw [hg]; exact Nat.ne_of_lt (blk_lt (mvB BK108.out)) : gb108 ≠ gb109)); have n6_ := Aside0.mk ((by rw [hg]; exact Nat.ne_of_gt (blk_lt (mvB BK108.out)) : gb109 ≠ gb108)); clear BK108; clear HB; have BK108 := n0_; have HB := n1_; have BK109 := n2_; have GW109 := n3_; have GE109 := n4_; have NB108_109 := n5_; have NB109_108 := n6_; clear n0_ n1_ n2_ n3_ n4_ n5_ n6_; clear hb hbox hg; have hnb39 := NB108_109.out; have hnc39 := NB109_108.out; have hcz40_0 : w38.cell? ⟨gb108, 0, none⟩ = some (.int .u64 a0_0) := (blk_cell BK108.out 0).trans rfl; have hcz40_1 : w38.cell? ⟨gb108, 1, none⟩ = some (.slice A0_1 l0_1.length c0_1) := (blk_cell BK108.out 1).trans rfl; have hfz40_0 := blk_frozen BK108.out 0; have hfz40_1 := blk_frozen BK108.out 1) | ((with_reducible refine gate_callee (f := 25) rfl ?_); refine goesL_ (some 9) rfl rfl Try.func25 (by kernel_rfl) rfl #[.agg #[.int .u64 a0_0, .slice A0_1 l0_1.length c0_1]] rfl (by (try simp only [List.map_toArray, List.map_cons, List.map_nil]); first | done | rfl | (simp only [List.length_drop, List.length_take]; rfl) | (simp only [*]; rfl)) ?_; (with_reducible refine (lsns_Right.calls k a0_0 _ _ l0_1 true _ ?side1 ?side2 A3.out).mono ?_); (case side1 => repeat (first | exact (Kd.C_below HR0_1.out HB.out) | (with_reducible refine Kd.C_alloc ?_ _) | (with_reducible refine Kd.C_drewN ?_ _) | (with_reducible refine Kd.C_drew ?_))); (case side2 => exact HC0_1.out); rintro e w41 ⟨rfl, hb⟩; refine ⟨_, rfl, ?_⟩; have n0_ := Aside0.mk (blk_below (mvB BK108.out) hb); have n1_ := Aside0.mk (blk_below (mvB BK109.out) hb); have n2_ := Aside0.mk (below_step (mvW HB.out) hb); clear BK108; clear BK109; clear HB; have BK108 := n0_; have BK109 := n1_; have HB := n2_; clear n0_ n1_ n2_; (try clear hb); (try clear hb2); (try clear hk); (try clear hi); have hcz42_0 : w41.cell? ⟨gb108, 0, none⟩ = some (.int .u64 a0_0) := (blk_cell BK108.out 0).trans rfl; have hcz42_1 : w41.cell? ⟨gb108, 1, none⟩ = some (.slice A0_1 l0_1.length c0_1) := (blk_cell BK108.out 1).trans rfl; have hfz42_0 := blk_frozen BK108.out 0; have hfz42_1 := blk_frozen BK108.out 1) | ((with_reducible refine gate_callee (f := 26) rfl ?_); refine goesL_ (some 15) rfl rfl Try.func26 (by kernel_rfl) rfl #[.agg #[.int .u64 a0_0, .slice A0_1 l0_1.length c0_1], .int .u64 a1] rfl (by (try simp only [List.map_toArray, List.map_cons, List.map_nil]); first | done | rfl | (simp only [List.length_drop, List.length_take]; rfl) | (simp only [*]; rfl)) ?_; (with_reducible refine (lsns_Has.calls k a0_0 _ _ l0_1 a1 false _ ?side1 ?side2 A5.out).mono ?_); (case side1 => repeat (first | exact (Kd.C_below HR0_1.out HB.out) | (with_reducible refine Kd.C_alloc ?_ _) | (with_reducible refine Kd.C_drewN ?_ _) | (with_reducible refine Kd.C_drew ?_))); (case side2 => exact HC0_1.out); rintro e w43 ⟨rfl, hb⟩; refine ⟨_, rfl, ?_⟩; have n0_ := Aside0.mk (blk_below (mvB BK108.out) hb); have n1_ := Aside0.mk (blk_below (mvB BK109.out) hb); have n2_ := Aside0.mk (below_step (mvW HB.out) hb); clear BK108; clear BK109; clear HB; have BK108 := n0_; have BK109 := n1_; have HB := n2_; clear n0_ n1_ n2_; (try clear hb); (try clear hb2); (try clear hk); (try clear hi); have hcz44_0 : w43.cell? ⟨gb108, 0, none⟩ = some (.int .u64 a0_0) := (blk_cell BK108.out 0).trans rfl; have hcz44_1 : w43.cell? ⟨gb108, 1, none⟩ = some (.slice A0_1 l0_1.length c0_1) := (blk_cell BK108.out 1).trans rfl; have hfz44_0 := blk_frozen BK108.out 0; have hfz44_1 := blk_frozen BK108.out 1) | ((with_reducible refine gate_callee (f := 56) rfl ?_); refine goesL_ (some 30) rfl rfl Try.func56 (by kernel_rfl) rfl #[.agg #[.int .u64 a0_0, .slice A0_1 l0_1.length c0_1], .int .u64 a1] rfl (by (try simp only [List.map_toArray, List.map_cons, List.map_nil]); first | done | rfl | (simp only [List.length_drop, List.length_take]; rfl) | (simp only [*]; rfl)) ?_; (with_reducible refine (lsns_at.calls a0_0 _ _ l0_1 a1 t115 _ ?side1 ?side2 A30.out).mono ?_); (case side1 => repeat (first | exact (Kd.C_below HR0_1.out HB.out) | (with_reducible refine Kd.C_alloc ?_ _) | (with_reducible refine Kd.C_drewN ?_ _) | (with_reducible refine Kd.C_drew ?_))); (case side2 => exact HC0_1.out); rintro e w45 ⟨rfl, hb⟩; refine ⟨_, rfl, ?_⟩; have n0_ := Aside0.mk (blk_below (mvB BK108.out) hb); have n1_ := Aside0.mk (blk_below (mvB BK109.out) hb); have n2_ := Aside0.mk (below_step (mvW HB.out) hb); clear BK108; clear BK109; clear HB; have BK108 := n0_; have BK109 := n1_; have HB := n2_; clear n0_ n1_ n2_; (try clear hb); (try clear hb2); (try clear hk); (try clear hi)))); (have n0_ := Aside0.mk (blk_drew BK108.out)); (have n1_ := Aside0.mk (blk_drew BK109.out)); (have n2_ := Aside0.mk (below_drew1 HB.out)); (clear BK108); (clear BK109); (clear HB); (have BK108 := n0_); (have BK109 := n1_); (have HB := n2_); (clear n0_ n1_ n2_); (obtain ⟨i047, hi047, _, hsz47, _⟩ := info_parts info22); (obtain ⟨hcut47, hA47, hC47⟩ := GpMore.print_take3_of (P := Try.prog) (Value.int .u64) 0 23 22 .i64 .i64 Try.underlying23 hi047 hsz47 A0_1 c0_1 l0_1 t115 (of_decide_eq_true (by first | (with_reducible assumption) | assumption)) (of_decide_eq_true (by first | (with_reducible assumption) | assumption)) HC0_1.out); (have HR116 := Aside0.mk (Kd.C_of_reads (h1 := fun _ => rfl) (hA47 _ (Kd.reads_of_C HR0_1.out)))); (have HC116 := Aside0.mk hC47); (clear hA47 hC47 hi047 hsz47); (obtain ⟨i048, hi048, _, hsz48, _⟩ := info_parts info22); (obtain ⟨A48, hcut48, hA48, hC48⟩ := print_drop_of (P := Try.prog) (Value.int .u64) 0 23 22 .i64 Try.underlying23 hi048 hsz48 A0_1 c0_1 l0_1 t115 (of_decide_eq_true (by first | (with_reducible assumption) | assumption)) (of_decide_eq_true (by first | (with_reducible assumption) | assumption)) HC0_1.out); (have HR120 := Aside0.mk (Kd.C_of_reads (h1 := fun _ => rfl) (hA48 _ (Kd.reads_of_C HR0_1.out)))); (have HC120 := Aside0.mk hC48); (clear hA48 hC48 hi048 hsz48); (refine start_ (n := 18) (S := fun w' => w'.cell? ⟨gb108, 0, none⟩ = some (.int .u64 a0_0) ∧ w'.cell? ⟨gb108, 1, none⟩ = some (.slice A0_1 l0_1.length c0_1)) (ds := []) #[false, false, false, false, false, false, false, false, false, false, false, false, false, false, false, false, false, false] (by kernel_rfl) rfl rfl ⟨(blk_cell BK108.out 0).trans rfl, (blk_cell BK108.out 1).trans rfl⟩ (fun hHeld => ?_); refine with_tabW lsns_Add.tab8 lsns_Add.bits8 (fun HT_ HW_ => ?_)); (generalize w45.drew = w46 at BK108 BK109 HB HR116 HR120 hHeld ⊢); (refine pure_ (i := 0) (N := some 31) (v := ?_) (a' := ?_) (bv 1 17) rfl rfl (any_of HT_.out (by kernel_rfl)) (fun _ _ _ h => h) (Or.inl ⟨by rfl, ?_⟩) ?_ ?_); (rotate_left)
                · (intro w'); (go_simp); (with_reducible rfl)
                rotate_left
                · (simp only [sA]); (rfl)
                (refine pure_ (i := 2) (N := some 33) (v := ?_) (a' := ?_) #[true, false, true, false, false, false, false, false, false, false, false, false, false, false, false, false, false, false] rfl rfl (any_of HT_.out (by kernel_rfl)) (fun _ _ _ h => h) (Or.inl ⟨by rfl, ?_⟩) ?_ ?_); (rotate_left)
                · (intro w'); (go_simp); (with_reducible rfl)
                rotate_left
                · (simp only [sA]); (rfl)
                (refine pure_ (i := 4) (N := some 35) (v := ?_) (a' := ?_) #[true, false, true, false, true, false, false, false, false, false, false, false, false, false, false, false, false, false] rfl rfl (any_of HT_.out (by kernel_rfl)) (fun _ _ _ h => h) (Or.inl ⟨by rfl, ?_⟩) ?_ ?_); (rotate_left)
                · (intro w'); (go_simp); (with_reducible rfl)
                rotate_left
                · (simp only [sA]); (rfl)
                (refine pure_ (i := 5) (N := some 36) (v := ?_) (a' := ?_) #[true, false, true, false, true, true, false, false, false, false, false, false, false, false, false, false, false, false] rfl rfl (any_of HT_.out (by kernel_rfl)) (fun _ _ _ h => h) (Or.inl ⟨by rfl, ?_⟩) ?_ ?_); (rotate_left)
                · (intro w'); (go_simp); (with_reducible rfl)
                rotate_left
                · (simp only [sA]); (rfl)
                (refine pure_ (i := 7) (N := some 38) (v := ?_) (a' := ?_) #[true, false, true, false, true, true, false, true, false, false, false, false, false, false, false, false, false, false] rfl rfl (any_of HT_.out (by kernel_rfl)) (fun _ _ _ h => h) (Or.inl ⟨by rfl, ?_⟩) ?_ ?_); (rotate_left)
                · (intro w'); (go_simp); (with_reducible rfl)
                rotate_left
                · (simp only [sA]); (rfl)
                (refine pure_ (i := 10) (N := some 41) (v := ?_) (a' := ?_) #[true, false, true, false, true, true, false, true, false, false, true, false, false, false, false, false, false, false] rfl rfl (any_of HT_.out (by kernel_rfl)) (fun _ _ _ h => h) (Or.inl ⟨by rfl, ?_⟩) ?_ ?_); (rotate_left)
                · (intro w'); (go_simp); (with_reducible rfl)
                rotate_left
                · (simp only [sA]); (rfl)
                (refine pure_ (i := 12) (N := some 43) (v := ?_) (a' := ?_) #[true, false, true, false, true, true, false, true, false, false, true, false, true, false, false, false, false, false] rfl rfl (any_of HT_.out (by kernel_rfl)) (fun _ _ _ h => h) (Or.inl ⟨by rfl, ?_⟩) ?_ ?_); (rotate_left)
                · (intro w'); (go_simp); (with_reducible rfl)
                rotate_left
                · (simp only [sA]); (rfl)
                (refine take_ (i := 1) (N := some 32) (v := ?_) (a' := ?_) #[true, true, true, false, true, true, false, true, false, false, true, false, true, false, false, false, false, false] rfl rfl (take_ofW HT_.out HW_.out (by kernel_rfl)) (fun _ _ _ h => h) (Or.inl ⟨by rfl, ?_⟩) hHeld ?_ ?_); (rotate_left)
                · (rintro w' ⟨s0, s1⟩); (go_simp); (with_reducible rfl)
                rotate_left
                · (simp only [sA]); (rfl)
                (refine take_ (i := 3) (N := some 34) (v := ?_) (a' := ?_) #[true, true, true, true, true, true, false, true, false, false, true, false, true, false, false, false, false, false] rfl rfl (take_ofW HT_.out HW_.out (by kernel_rfl)) (fun _ _ _ h => h) (Or.inl ⟨by rfl, ?_⟩) hHeld ?_ ?_); (rotate_left)
                · (rintro w' ⟨s0, s1⟩); (go_simp); (with_reducible rfl)
                rotate_left
                · (simp only [sA]); (rfl)
                (refine pure_ (i := 6) (N := some 37) (v := ?_) (a' := ?_) #[true, true, true, true, true, true, true, true, false, false, true, false, true, false, false, false, false, false] rfl rfl (any_of HT_.out (by kernel_rfl)) (fun _ _ _ h => h) (Or.inl ⟨by rfl, ?_⟩) ?_ ?_); (rotate_left)
                · (intro w'); (go_simp); (with_reducible rfl)
                rotate_left
                · (simp only [sA]); (rfl)
                (refine take_ (i := 11) (N := some 42) (v := ?_) (a' := ?_) #[true, true, true, true, true, true, true, true, false, false, true, true, true, false, false, false, false, false] rfl rfl (take_ofW HT_.out HW_.out (by kernel_rfl)) (fun _ _ _ h => h) (Or.inl ⟨by rfl, ?_⟩) hHeld ?_ ?_); (rotate_left)
                · (rintro w' ⟨s0, s1⟩); (go_simp); (with_reducible rfl)
                rotate_left
                · (simp only [sA]); (rfl)
                (refine pure_ (i := 13) (N := some 44) (v := ?_) (a' := ?_) #[true, true, true, true, true, true, true, true, false, false, true, true, true, true, false, false, false, false] rfl rfl (any_of HT_.out (by kernel_rfl)) (fun _ _ _ h => h) (Or.inl ⟨by rfl, ?_⟩) ?_ ?_); (rotate_left)
                · (intro w'); (go_simp); (with_reducible rfl)
                rotate_left
                · (simp only [sA]); (rfl)
                (refine one_ (i := 8) (N := some 39) #[true, true, true, true, true, true, true, true, true, false, true, true, true, true, false, false, false, false] rfl rfl (one_of HT_.out (by kernel_rfl)) (by decide) (fun K hK => ?_)); (refine value_ (w1 := ?_) (v := ?_) (by rfl) rfl ?_ ?_); (rotate_left 2)
                · (go_simp); (constructor)
                  · rfl
                  · rfl
                (refine hK.out _ _ ⟨(blk_cell (blk_alloc BK108.out _) 0).trans rfl, (blk_cell (blk_alloc BK108.out _) 1).trans rfl⟩ (fun hHeld => ?_)); (clear hK K); (refine norm_ (a' := ?_) ?_ ?_); (rotate_left)
                · (show Act.put _ (some 39) _ = _); (simp only [sA]); (rfl)
                (refine one_ (i := 9) (N := some 40) (bv 14 4) rfl rfl (one_of HT_.out (by kernel_rfl)) (by decide) (fun K hK => ?_)); (refine GpMore.R_append_full_step (Kd.int .u64) (w0 := w) w.heap.size (by rfl) (.tmp 37) (.tmp 39) 23 22 (.int .u64 0) 8 rfl Try.underlying23 info22 rfl (by decide) (by omega) (.slice A0_1 (l0_1.take (t115 : Int).toNat).length (l0_1.take (t115 : Int).toNat).length) (l0_1.take (t115 : Int).toNat) a1 [.int .u64 a1] (fun _ => True) (fun _ => False) (by first | rfl | (have h_ : (t115 : Int) ≤ (l0_1.length : Int) := of_decide_eq_true (by first | (with_reducible assumption) | assumption); have hl_ : (l0_1.take (t115 : Int).toNat).length = (t115 : Int).toNat := (by rw [List.length_take]; omega); rw [hl_]; rfl)) rfl ?aP (fun _ hk => hk) ?aF (fun _ _ h => h) ?aO ?aB ?aS ?aL ?_); ((case aP => exact rfl)); ((case aB => exact (mvW HB.out))); ((case aF => exact (fun _ _ => trivial))); ((case aO => refine ⟨_, rfl, ?_⟩; repeat (first | exact (Kd.C_below HR116.out HB.out) | (with_reducible refine Kd.C_alloc ?_ _) | (with_reducible refine Kd.C_drewN ?_ _) | (with_reducible refine Kd.C_drew ?_)))); ((case aS => exact (below_size (mvW HB.out)))); ((case aL => have := LMc33.out; omega)); (intro v118 w49 ho hb hg hat); (rw [← Ny117.out] at ho); (have n0_ := Aside0.mk (blk_grown (mvB BK108.out) hg (by simp [Value.ownBlock]))); (have n1_ := Aside0.mk (blk_grown (mvB BK109.out) hg (by simp [Value.ownBlock]))); (have n2_ := Aside0.mk (hb)); (have n3_ := Aside0.mk (ho)); (clear BK108); (clear BK109); (clear HB); (have BK108 := n0_); (have BK109 := n1_); (have HB := n2_); (have HO119 := n3_); (clear n0_ n1_ n2_ n3_); (clear ho hb hg hat); (refine hK.out _ _ ⟨(blk_cell BK108.out 0).trans rfl, (blk_cell BK108.out 1).trans rfl⟩ (fun hHeld => ?_)); (clear hK K); (refine norm_ (a' := ?_) ?_ ?_); (rotate_left)
                · (show Act.put _ (some 40) _ = _); (simp only [sA]); (rfl)
                (refine one_ (i := 14) (N := some 45) (bv 15 3) rfl rfl (one_of HT_.out (by kernel_rfl)) (by decide) (fun K hK => ?_)); (refine Kd.R_append_rows_step (Kd.int .u64) (w0 := w) w.heap.size (by rfl) (.tmp 40) (.tmp 44) 23 22 (.int .u64 0) 8 rfl Try.underlying23 info22 rfl (by decide) (by omega) v118 y117 (l0_1.drop (t115 : Int).toNat) _ _ _ (fun _ => True) (fun _ => False) rfl rfl ?aO ?aR (fun _ _ h => h) (fun _ h => h.elim) ?aF ?aB ?aS ?aL ?_); ((case aR => first | (rw [← show (l0_1.drop (t115 : Int).toNat).length = (l0_1.length - t115.toNat) from List.length_drop]; repeat (first | exact (Kd.C_below HR120.out HB.out) | (with_reducible refine Kd.C_alloc ?_ _) | (with_reducible refine Kd.C_drewN ?_ _) | (with_reducible refine Kd.C_drew ?_))) | (repeat (first | exact (Kd.C_below HR120.out HB.out) | (with_reducible refine Kd.C_alloc ?_ _) | (with_reducible refine Kd.C_drewN ?_ _) | (with_reducible refine Kd.C_drew ?_))))); ((case aB => exact (mvW HB.out))); ((case aF => exact (fun _ _ => trivial))); ((case aO => exact (mvR HO119.out))); ((case aS => exact (below_size (mvW HB.out)))); ((case aL => have := LMc36.out; have hlx_ := (show (l0_1.drop (t115 : Int).toNat).length = (l0_1.length - t115.toNat) from List.length_drop); omega)); (intro v122 w50 ho hb hg hat); (rw [← Ny121.out] at ho); (have n0_ := Aside0.mk (blk_grown (mvB BK108.out) hg (Kd.R_ne HO119.out BK108.out (by decide)))); (have n1_ := Aside0.mk (blk_grown (mvB BK109.out) hg (Kd.R_ne HO119.out BK109.out (by decide)))); (have n2_ := Aside0.mk (hb)); (have n3_ := Aside0.mk (ho)); (clear BK108); (clear BK109); (clear HB); (clear HO119); (have BK108 := n0_); (have BK109 := n1_); (have HB := n2_); (have HO123 := n3_); (clear n0_ n1_ n2_ n3_); (clear ho hb hg hat); (obtain ⟨Ao51, co51, eo51⟩ := Kd.R_slice HO123.out); ((first | subst eo51 | (injection eo51 with f1_ f2_ f3_; have f4_ := f1_.symm; have f5_ := f3_.symm; clear f1_ f2_ f3_; subst f4_; subst f5_))); (refine hK.out _ _ ⟨(blk_cell BK108.out 0).trans rfl, (blk_cell BK108.out 1).trans rfl⟩ (fun hHeld => ?_)); (clear hK K); (refine norm_ (a' := ?_) ?_ ?_); (rotate_left)
                · (show Act.put _ (some 45) _ = _); (simp only [sA]); (rfl)
                (refine pure_ (i := 15) (N := some 46) (v := ?_) (a' := ?_) (bv 16 2) rfl rfl (any_of HT_.out (by kernel_rfl)) (fun _ _ _ h => h) (Or.inl ⟨by rfl, ?_⟩) ?_ ?_); (rotate_left)
                · (intro w'); (go_simp); (with_reducible rfl)
                rotate_left
                · (simp only [sA]); (rfl)
                (refine one_ (i := 16) (N := none) (bv 17 1) rfl rfl (one_of HT_.out (by kernel_rfl)) (by decide) (fun K hK => ?_)); (have hs52 : w50.cell? ⟨gb109, 0, none⟩ = some (.int .u64 0) := (blk_cell BK109.out 0).trans rfl); (have hfs52 := blk_frozen BK109.out 0); (have hns52_0 := NB108_109.out); (have hms52_0 := NB109_108.out); (have hs53 : w50.cell? ⟨gb109, 1, none⟩ = some (.slice none 0 0) := (blk_cell BK109.out 1).trans rfl); (have hfs53 := blk_frozen BK109.out 1); (have hns53_0 := NB108_109.out); (have hms53_0 := NB109_108.out); (refine skip_ (w1 := ?_) (by rfl) rfl ?_ ?_); (rotate_left)
                · (go_simp); (rfl)
                (refine hK.out _ _ ⟨((cell_far (p := ⟨gb109, _, none⟩) NB108_109.out _).trans (((cell_far (p := ⟨gb109, _, none⟩) NB108_109.out _).trans (hHeld.1)))), ((cell_far (p := ⟨gb109, _, none⟩) NB108_109.out _).trans (((cell_far (p := ⟨gb109, _, none⟩) NB108_109.out _).trans (hHeld.2))))⟩ (fun hHeld => ?_)); (clear hK K); (refine pure_ (i := 17) (N := some 5) (v := ?_) (a' := ?_) (bv 18 0) rfl rfl (any_of HT_.out (by kernel_rfl)) (fun _ _ _ h => h) (Or.inl ⟨by rfl, ?_⟩) ?_ ?_); (rotate_left)
                · (intro w'); (go_simp); (with_reducible rfl)
                rotate_left
                · (simp only [sA]); (rfl)
                (refine done_ (done_of HT_.out (by kernel_rfl)) ?_); (try go_wp2); (refine bodyPost_ret (results_ct rfl _ _ gb109 25 #[.int .u64 a0_0, .slice Ao51 y121.length co51] (0, 0) _ rfl (by (with_reducible repeat (first | refine blk_drewN ?_ _ | refine blk_drew ?_ | refine blk_alloc ?_ _)); refine blk_put (cs := #[.int .u64 a0_0, .slice none 0 0]) ?_ 1 _ rfl; (with_reducible repeat (first | refine blk_drewN ?_ _ | refine blk_drew ?_ | refine blk_alloc ?_ _)); refine blk_put (cs := #[.int .u64 0, .slice none 0 0]) ?_ 0 _ rfl; (with_reducible repeat (first | refine blk_drewN ?_ _ | refine blk_drew ?_ | refine blk_alloc ?_ _)); exact BK109.out) Try.underlying25 rfl (by kernel_rfl)) rfl ?_); (exact ⟨_, by first | rfl | (simp [errW_none, errW_some] <;> rfl) | (simp [*, errW_none, errW_some] <;> rfl), by (with_reducible repeat (first | apply Kd.R_alloc | apply Kd.R_drewN | apply Kd.R_drew)); exact Kd.R_mono (R_fart2 HO123.out BK109.out (by decide)) (fun _ hk => trivial), by repeat (first | (with_reducible first | exact HB.out | apply below_alloc | apply pw_below_drewN | apply below_drew1 | refine below_set ?_ GE108.out | refine below_set ?_ GE109.out) | exact HB.out)⟩)
              · (rw [if_neg c36] at H); (exact absurd H (by simp))
            · (rw [if_neg c33] at H); (exact absurd H (by simp))
          · (rw [if_neg c32] at H); (exact absurd H (by simp))
        · (rw [if_neg c31] at H); (exact absurd H (by simp))
  · (replace c4 := Bool.eq_false_iff.mpr c4); (subst c4); (have H1 : (some (0, ([] : List Int), 40)) = some (r1, r2, r3) := by rw [if_neg (show ¬ (false = true) by decide)] at H; exact H); (clear H); (have H := H1); (clear H1); (simp only [Option.some.injEq, Prod.mk.injEq] at H); (obtain ⟨rfl, rfl, rfl⟩ := H); (go_enter Try.func18, Try.ntmps18); (go_wp2_with (first | ((with_reducible refine gate_dst (N := 2) rfl ?_); refine box_event ?hg (N := 2) ?hd (cs := #[.int .u64 a0_0, .slice A0_1 l0_1.length c0_1]) (t := 25) ?hr ?_; (case hd => rfl); (case hg => rfl); (case hr => first | (go_simp; done) | (go_simp; rfl)); intro gb108 hg w54 hbox hb; have n0_ := Aside0.mk (below_step (mvW HB.out) hb); have n1_ := Aside0.mk (hbox); have n2_ := Aside0.mk ((by rw [hg]; exact (below_size (mvW HB.out)) : w.heap.size ≤ gb108)); have n3_ := Aside0.mk ((by rw [hg]; exact (below_size (mvW HB.out)) : w.heap.size ≤ gb108)); clear HB; have HB := n0_; have BK108 := n1_; have GW108 := n2_; have GE108 := n3_; clear n0_ n1_ n2_ n3_; clear hb hbox hg) | ((with_reducible refine gate_dst (N := 4) rfl ?_); refine box_event ?hg (N := 4) ?hd (cs := #[.int .u64 0, .slice none 0 0]) (t := 25) ?hr ?_; (case hd => rfl); (case hg => rfl); (case hr => first | (go_simp; done) | (go_simp; rfl)); intro gb109 hg w55 hbox hb; have n0_ := Aside0.mk (blk_below (mvB BK108.out) hb); have n1_ := Aside0.mk (below_step (mvW HB.out) hb); have n2_ := Aside0.mk (hbox); have n3_ := Aside0.mk ((by rw [hg]; exact (below_size (mvW HB.out)) : w.heap.size ≤ gb109)); have n4_ := Aside0.mk ((by rw [hg]; exact (below_size (mvW HB.out)) : w.heap.size ≤ gb109)); have n5_ := Aside0.mk ((by rw [hg]; exact Nat.ne_of_lt (blk_lt (mvB BK108.out)) : gb108 ≠ gb109)); have n6_ := Aside0.mk ((by rw [hg]; exact Nat.ne_of_gt (blk_lt (mvB BK108.out)) : gb109 ≠ gb108)); clear BK108; clear HB; have BK108 := n0_; have HB := n1_; have BK109 := n2_; have GW109 := n3_; have GE109 := n4_; have NB108_109 := n5_; have NB109_108 := n6_; clear n0_ n1_ n2_ n3_ n4_ n5_ n6_; clear hb hbox hg; have hnb56 := NB108_109.out; have hnc56 := NB109_108.out; have hcz57_0 : w55.cell? ⟨gb108, 0, none⟩ = some (.int .u64 a0_0) := (blk_cell BK108.out 0).trans rfl; have hcz57_1 : w55.cell? ⟨gb108, 1, none⟩ = some (.slice A0_1 l0_1.length c0_1) := (blk_cell BK108.out 1).trans rfl; have hfz57_0 := blk_frozen BK108.out 0; have hfz57_1 := blk_frozen BK108.out 1) | ((with_reducible refine gate_callee (f := 25) rfl ?_); refine goesL_ (some 9) rfl rfl Try.func25 (by kernel_rfl) rfl #[.agg #[.int .u64 a0_0, .slice A0_1 l0_1.length c0_1]] rfl (by (try simp only [List.map_toArray, List.map_cons, List.map_nil]); first | done | rfl | (simp only [List.length_drop, List.length_take]; rfl) | (simp only [*]; rfl)) ?_; (with_reducible refine (lsns_Right.calls k a0_0 _ _ l0_1 false _ ?side1 ?side2 A3.out).mono ?_); (case side1 => repeat (first | exact (Kd.C_below HR0_1.out HB.out) | (with_reducible refine Kd.C_alloc ?_ _) | (with_reducible refine Kd.C_drewN ?_ _) | (with_reducible refine Kd.C_drew ?_))); (case side2 => exact HC0_1.out); rintro e w58 ⟨rfl, hb⟩; refine ⟨_, rfl, ?_⟩; have n0_ := Aside0.mk (blk_below (mvB BK108.out) hb); have n1_ := Aside0.mk (blk_below (mvB BK109.out) hb); have n2_ := Aside0.mk (below_step (mvW HB.out) hb); clear BK108; clear BK109; clear HB; have BK108 := n0_; have BK109 := n1_; have HB := n2_; clear n0_ n1_ n2_; (try clear hb); (try clear hb2); (try clear hk); (try clear hi); have hcz59_0 : w58.cell? ⟨gb109, 0, none⟩ = some (.int .u64 0) := (blk_cell BK109.out 0).trans rfl; have hcz59_1 : w58.cell? ⟨gb109, 1, none⟩ = some (.slice none 0 0) := (blk_cell BK109.out 1).trans rfl; have hfz59_0 := blk_frozen BK109.out 0; have hfz59_1 := blk_frozen BK109.out 1))); (refine bodyPost_ret (results_ct rfl _ _ gb109 25 #[.int .u64 0, .slice none 0 0] (0, 0) _ rfl (by (with_reducible repeat (first | refine blk_drewN ?_ _ | refine blk_drew ?_ | refine blk_alloc ?_ _)); refine blk_put (cs := #[.int .u64 0, .slice none 0 0]) ?_ 1 _ rfl; (with_reducible repeat (first | refine blk_drewN ?_ _ | refine blk_drew ?_ | refine blk_alloc ?_ _)); refine blk_put (cs := #[.int .u64 0, .slice none 0 0]) ?_ 0 _ rfl; (with_reducible repeat (first | refine blk_drewN ?_ _ | refine blk_drew ?_ | refine blk_alloc ?_ _)); exact BK109.out) Try.underlying25 rfl (by kernel_rfl)) rfl ?_); (exact ⟨_, by first | rfl | (simp [errW_none, errW_some] <;> rfl) | (simp [*, errW_none, errW_some] <;> rfl), by first | exact Kd.R_nil _ _ _ _ _ | exact Kd.N_nil _ _ _ _ _ | exact Kd.V_nil _ _ _ _ _ | exact Kd.Q_nil _ _ _ _ _ | exact Kd.S_nil _ _ _ _ _, by repeat (first | (with_reducible first | exact HB.out | apply below_alloc | apply pw_below_drewN | apply below_drew1 | refine below_set ?_ GE108.out | refine below_set ?_ GE109.out) | exact HB.out)⟩)

/-! ### lsns_Raise: function 21 -/
theorem lsns_Raise_filter_next (l : List Int) (p : Int → Bool) (j : Nat) (h : j < l.length) : (l.take (j + 1)).filter p = (l.take j).filter p ++ (if p (rd l (j : Int)) = true then [rd l (j : Int)] else []) := by
  have e : rd l (j : Int) = l[j] := by unfold rd; simp [h]
  rw [e, List.take_add_one, List.filter_append, List.getElem?_eq_getElem h]
  cases hp : p l[j] <;> simp [hp]
set_option maxHeartbeats 4000000 in
set_option maxRecDepth 100000 in
theorem lsns_Raise_kept_calls (g : Nat) (cb : Array Value) (A0 : Option Addr) (c0 : Nat) (l0 : List Int) (p : Int → Bool) (w : World) (eg : ∀ args w, (callFunc g args).run Try.prog w = .ok (.enter g args) w) (hsz : l0.length < 17592186044416) (hr0 : Kd.C (Kd.int .u64) w A0 l0.length l0)
    (hf : ∀ (W : World) (x : Int), Below w.heap.size w W → Calls Try.prog g (#[.int .u64 x] ++ cb) W fun e w' => e = .returned (.bool (p x)) ∧ Below W.heap.size W w') :
    Calls Try.prog 58 #[.slice A0 l0.length c0, .func (.func g) #[] cb] w fun e w' => ∃ v0_ : Value, e = .returned v0_ ∧ Kd.R (Kd.int .u64) 22 w' w.heap.size (fun _ => True) v0_ (l0.filter p) ∧ Below w.heap.size w w' := by
  have HF : Aside0 _ := ⟨hf⟩
  have HR := Aside0.mk hr0
  have HL := Aside0.mk hsz
  clear hf hr0 hsz
  go_enter Try.func58, Try.ntmps58
  go_wp2
  go_loopg [5, 10] l0.length (fun kx s5 s10 wr => ∃ (j : Nat), s10 = .int .i64 j ∧ j ≤ l0.length ∧ l0.length - j ≤ kx ∧ Aside0 (Below w.heap.size w wr) ∧ Aside0 (Kd.R (Kd.int .u64) 22 wr w.heap.size (fun _ => True) s5 ((l0.take j).filter p)))
  case atStart => exact ⟨0, rfl, Nat.zero_le _, Nat.le_refl _, ⟨Below.refl _ _⟩, ⟨Kd.R_nil _ _ _ _ _⟩⟩
  case round =>
    obtain ⟨j, rfl, hj, hg, HB, HO⟩ := hrel
    by_cases hlt : j < l0.length
    · have hlt' : (j : Int) < (l0.length : Int) := by omega
      obtain ⟨ad, e, hx⟩ := Kd.at_int HR.out (j : Int) (by omega) hlt'
      cases e
      rw [Int.toNat_natCast] at hx
      replace hx := (HB.out.cell (World.block_lt_of_cell? w _ hx)).trans hx
      have hc := HF.out wr (rd l0 (j : Int)) HB.out
      have hn := Aside0.mk (lsns_Raise_filter_next l0 p j hlt)
      have hj1 : wrap64 ((j : Int) + 1) = ((j + 1 : Nat) : Int) := by have := HL.out; unfold wrap64; omega
      have hlen : ((l0.take j).filter p).length ≤ l0.length := Nat.le_trans (List.length_filter_le _ _) (by rw [List.length_take]; omega)
      have HN := Aside0.mk hlen
      clear hlen
      revert hx hc hn
      generalize rd l0 (j : Int) = x
      intro hx hc hn
      cases hp : p x <;> rw [hp] at hc
      · have hn' : (l0.take (j + 1)).filter p = (l0.take j).filter p := by rw [hn.out, hp]; simp
        have HM := Aside0.mk hn'
        clear hn hn' hp
        go_wp2_with (go_at_fn g; refine hc.mono ?_; rintro e w1 ⟨rfl, hb1⟩)
        go_roundg (l0.length - (j + 1))
        case measure => omega
        case rel => exact ⟨j + 1, by rw [hj1], by omega, Nat.le_refl _, ⟨below_step HB.out hb1⟩, ⟨HM.out ▸ Kd.R_below HO.out hb1⟩⟩
      · have hn' : (l0.take (j + 1)).filter p = (l0.take j).filter p ++ [x] := by rw [hn.out, hp]; simp
        have HM := Aside0.mk hn'
        clear hn hn' hp
        go_wp2_with (first | (go_at_fn g; refine hc.mono ?_; rintro e w1 ⟨rfl, hb1⟩; have HB1 := Aside0.mk (below_step HB.out hb1); have HO1 := Aside0.mk (Kd.R_below HO.out hb1); clear hb1) | ((with_reducible refine gate_builtin (b := .append) (xs := #[.tmp 17, .tmp 19]) rfl ?_); at_builtin; refine Kd.R_append (Kd.int .u64) (w0 := w) w.heap.size rfl (.tmp 17) (.tmp 19) 23 22 (.int .u64 0) 8 rfl Try.underlying23 info22 rfl (by decide) (by omega) u5 ((l0.take j).filter p) x [.int .u64 x] (fun _ => True) (fun _ => False) rfl rfl ?aP (fun _ hk => hk.elim) ?aF ?aO ?aB ?aS ?aL ?_; (case aP => exact rfl); (case aB => exact HB1.out); (case aF => exact fun _ _ => trivial); (case aO => exact HO1.out); (case aS => exact below_size HB1.out); (case aL => have := HL.out; have := HN.out; omega); intro v2 w2 ho2 hb2 hg2 hat2; clear hg2 hat2; have HO2 := Aside0.mk ho2; have HB2 := Aside0.mk hb2; clear ho2 hb2))
        go_roundg (l0.length - (j + 1))
        case measure => omega
        case rel => exact ⟨j + 1, by rw [hj1], by omega, Nat.le_refl _, ⟨HB2.out⟩, ⟨HM.out ▸ HO2.out⟩⟩
    · obtain rfl : j = l0.length := by omega
      have hO := HO.out
      rw [List.take_length] at hO
      have HO1 := Aside0.mk hO
      clear hO HO
      go_wp2
      go_ret
      exact ⟨_, rfl, HO1.out, HB.out⟩
theorem lsns_Raise_raise_clo_calls (bx : Nat) (x y : Int) (W : World) (hx : W.cell? ⟨bx, 0, none⟩ = some (.int .u64 x)) :
    Calls Try.prog 59 (#[.int .u64 y] ++ #[.pointer (some ⟨bx, 0, none⟩)]) W fun e w' => e = .returned (.bool (decide (y > x))) ∧ Below W.heap.size W w' := by
  go_enter Try.func59, Try.ntmps59
  go_wp2
  go_ret
  exact ⟨by first | rfl | simp, Below.refl _ _⟩
def lsns_Raise.f (k : Nat) (a0_0 : Int) (l0_1 : List Int) (a1 : Int) : Option (Int × List Int × Int) :=
  (lsns_Right.f k a0_0 l0_1).bind fun b => if b = true then (if l0_1.length < 17592186044416 then some (mx a1 a0_0, l0_1.filter (fun x => decide (x > mx a1 a0_0)), 0) else none) else some (0, [], 40)
theorem lsns_Raise.mono : ∀ a0 a1 a2 k, LeO (lsns_Raise.f k a0 a1 a2) (lsns_Raise.f (k + 1) a0 a1 a2) := by
  intro a0 a1 a2 k
  exact LeO.bind (lsns_Right.mono _ _ _) (fun _ => LeO.refl _)
def lsns_Raise.T4 : Bool × List (List Nat × List Nat) := (true, [([], []), ([], []), ([1], [1]), ([], []), ([2, 3], [2, 3]), ([0, 4], [0, 4]), ([5, 4, 0, 1, 2, 3, 4, 5], [5]), ([6, 0, 1, 2, 3, 4, 5, 6], [])])
def lsns_Raise.B4 : List Nat := [0, 0, 2, 0, 14, 31, 63, 127]
theorem lsns_Raise.tab4 : rtab .any (opsOf Try.f21 4) = lsns_Raise.T4 := by kernel_rfl
theorem lsns_Raise.bits4 : waitsOk lsns_Raise.T4.2 lsns_Raise.B4 = true := by kernel_rfl
set_option maxHeartbeats 4000000 in
set_option maxRecDepth 100000 in
theorem lsns_Raise.calls (k : Nat) (a0_0 : Int) (A0_1 : Option Addr) (c0_1 : Nat) (l0_1 : List Int) (a1 : Int) (r1 : Int) (r2 : List Int) (r3 : Int) (w : World) (hr0_1 : Kd.C (Kd.int .u64) w A0_1 l0_1.length l0_1) (hc0_1 : l0_1.length ≤ c0_1) (h : lsns_Raise.f k a0_0 l0_1 a1 = some (r1, r2, r3)) :
    Calls Try.prog 21 #[.agg #[.int .u64 a0_0, .slice A0_1 l0_1.length c0_1], .int .u64 a1] w fun e w' => ∃ v1_ : Value, e = .returned (.tuple #[.agg #[.int .u64 r1, v1_], .int .i64 r3]) ∧ Kd.R (Kd.int .u64) 22 w' w.heap.size (fun _ => True) v1_ r2 ∧ Below w.heap.size w w' := by

  obtain ⟨b, hb, h⟩ := Option.bind_eq_some_iff.1 h
  have hu25 := Try.underlying25
  have HR := Aside0.mk hr0_1
  have HRight := Aside0.mk hb
  clear hr0_1 hb
  obtain ⟨W0, hW0⟩ : ∃ W0, W0 = ((w.alloc (.cells #[.int .u64 a0_0, .slice A0_1 l0_1.length c0_1] 25)).alloc (.cells #[.int .u64 a1] 22)).alloc (.cells #[.int .u64 0, .slice none 0 0] 25) := ⟨_, rfl⟩
  have hB0 : Below w.heap.size w W0 := by rw [hW0]; exact below_alloc (below_alloc (below_alloc (Below.refl _ _) _) _) _
  have b2 : W0.heap[w.heap.size]? = some (.cells #[.int .u64 a0_0, .slice A0_1 l0_1.length c0_1] 25 (0, 0)) := by
    rw [hW0]; exact blk_alloc (blk_alloc (blk_new w _) _) _
  have b3 : W0.heap[w.heap.size + 1]? = some (.cells #[.int .u64 a1] 22 (0, 0)) := by
    have hb := blk_new (w.alloc (.cells #[.int .u64 a0_0, .slice A0_1 l0_1.length c0_1] 25)) (.cells #[.int .u64 a1] 22)
    rw [World.size_alloc] at hb
    rw [hW0]; exact blk_alloc hb _
  have b4 : W0.heap[w.heap.size + 1 + 1]? = some (.cells #[.int .u64 0, .slice none 0 0] 25 (0, 0)) := by
    have hb := blk_new ((w.alloc (.cells #[.int .u64 a0_0, .slice A0_1 l0_1.length c0_1] 25)).alloc (.cells #[.int .u64 a1] 22)) (.cells #[.int .u64 0, .slice none 0 0] 25)
    rw [World.size_alloc, World.size_alloc] at hb
    rw [hW0]; exact hb
  have hc := lsns_Right.calls k a0_0 A0_1 c0_1 l0_1 b W0 (Kd.C_below HR.out hB0) hc0_1 HRight.out
  have HB0 := Aside0.mk hB0
  have B2 := Aside0.mk b2
  have B3 := Aside0.mk b3
  have B4 := Aside0.mk b4
  clear b2 b3 b4 hB0
  cases b
  · rw [if_neg (by simp)] at h
    simp only [Option.some.injEq, Prod.mk.injEq] at h
    obtain ⟨rfl, rfl, rfl⟩ := h
    go_enter Try.func21, Try.ntmps21
    go_wp2_with (go_at_call 25; rw [← hW0]; refine hc.mono ?_; rintro e w1 ⟨rfl, hb⟩; have HB1 := Aside0.mk (below_step HB0.out hb); have C4 := Aside0.mk (blk_below B4.out hb); clear hb; have hz0 := (blk_cell C4.out 0).trans rfl; have hz1 := (blk_cell C4.out 1).trans rfl; have hf0 := blk_frozen C4.out 0; have hf1 := blk_frozen C4.out 1)
    refine bodyPost_ret (results_ct rfl _ _ (w.heap.size + 1 + 1) 25 #[.int .u64 0, .slice none 0 0] (0, 0) _ rfl (by refine blk_put (cs := #[.int .u64 0, .slice none 0 0]) ?_ 1 _ rfl; refine blk_put (cs := #[.int .u64 0, .slice none 0 0]) ?_ 0 _ rfl; exact C4.out) Try.underlying25 rfl (by kernel_rfl)) rfl ?_
    exact ⟨_, rfl, Kd.R_nil _ _ _ _ _, below_set (below_set HB1.out (by show w.heap.size ≤ w.heap.size + 1 + 1; omega)) (by show w.heap.size ≤ w.heap.size + 1 + 1; omega)⟩
  · by_cases hl : l0_1.length < 17592186044416
    · rw [if_pos rfl, if_pos hl] at h
      simp only [Option.some.injEq, Prod.mk.injEq] at h
      obtain ⟨rfl, rfl, rfl⟩ := h
      have HL := Aside0.mk hl
      clear hl
      obtain ⟨m, hm⟩ : ∃ m, (if a1 < a0_0 then a0_0 else a1) = m := ⟨_, rfl⟩
      rw [show mx a1 a0_0 = m from hm]
      go_enter Try.func21, Try.ntmps21
      go_wp2_with (go_at_call 25; rw [← hW0]; refine hc.mono ?_; rintro e w1 ⟨rfl, hb⟩; have HB1 := Aside0.mk (below_step HB0.out hb); have C2 := Aside0.mk (blk_below B2.out hb); have C3 := Aside0.mk (blk_below B3.out hb); have C4 := Aside0.mk (blk_below B4.out hb); clear hb; have hz3 := (blk_cell C3.out 0).trans rfl; have hf3 := blk_frozen C3.out 0; have hz2 := (blk_cell C2.out 0).trans rfl; have hy2 := (blk_cell C2.out 1).trans rfl)
      have D2 : Aside0 (((w1.setCell ⟨w.heap.size + 1, 0, none⟩ (.int .u64 m)).drew).heap[w.heap.size]? = some (.cells #[.int .u64 a0_0, .slice A0_1 l0_1.length c0_1] 25 (0, 0))) := ⟨blk_drew (blk_far C2.out (p := ⟨w.heap.size + 1, 0, none⟩) (by show w.heap.size ≠ w.heap.size + 1; omega) _)⟩
      have D3 : Aside0 (((w1.setCell ⟨w.heap.size + 1, 0, none⟩ (.int .u64 m)).drew).heap[w.heap.size + 1]? = some (.cells #[.int .u64 m] 22 (0, 0))) := ⟨blk_drew ((blk_set C3.out 0 _).trans rfl)⟩
      have D4 : Aside0 (((w1.setCell ⟨w.heap.size + 1, 0, none⟩ (.int .u64 m)).drew).heap[w.heap.size + 1 + 1]? = some (.cells #[.int .u64 0, .slice none 0 0] 25 (0, 0))) := ⟨blk_drew (blk_far C4.out (p := ⟨w.heap.size + 1, 0, none⟩) (by show w.heap.size + 1 + 1 ≠ w.heap.size + 1; omega) _)⟩
      have HD := Aside0.mk (below_drew1 (below_set (g := w.heap.size + 1) (j := 0) (v := .int .u64 m) HB1.out (by omega)))
      clear hc hz3 hf3 hz2 hy2 B2 B3 B4 C2 C3 C4 HB1 HB0 hm
      refine start_ (n := 8) (S := fun w' => w'.cell? ⟨w.heap.size + 1, 0, none⟩ = some (.int .u64 m) ∧ w'.cell? ⟨w.heap.size, 1, none⟩ = some (.slice A0_1 l0_1.length c0_1)) (ds := []) #[false, false, false, false, false, false, false, false] (by kernel_rfl) rfl rfl ⟨(blk_cell D3.out 0).trans rfl, (blk_cell D2.out 1).trans rfl⟩ (fun hHeld => ?_)
      refine with_tabW lsns_Raise.tab4 lsns_Raise.bits4 (fun HT_ HW_ => ?_)
      generalize ((w1.setCell ⟨w.heap.size + 1, 0, none⟩ (.int .u64 m)).drew) = w5 at D2 D3 D4 HD hHeld ⊢
      (refine pure_ (i := 1) (N := some 15) (v := ?_) (a' := ?_) #[false, true, false, false, false, false, false, false] rfl rfl (any_of HT_.out (by kernel_rfl)) (fun _ _ _ h => h) (Or.inl ⟨by rfl, ?_⟩) ?_ ?_); (rotate_left)
      · (intro w'); (go_simp); (with_reducible rfl)
      rotate_left
      · (simp only [sA]); (rfl)
      (refine pure_ (i := 3) (N := some 17) (v := ?_) (a' := ?_) #[false, true, false, true, false, false, false, false] rfl rfl (any_of HT_.out (by kernel_rfl)) (fun _ _ _ h => h) (Or.inl ⟨by rfl, ?_⟩) ?_ ?_); (rotate_left)
      · (intro w'); (go_simp); (with_reducible rfl)
      rotate_left
      · (simp only [sA]); (rfl)
      (refine take_ (i := 0) (N := some 14) (v := ?_) (a' := ?_) #[true, true, false, true, false, false, false, false] rfl rfl (take_ofW HT_.out HW_.out (by kernel_rfl)) (fun _ _ _ h => h) (Or.inl ⟨by rfl, ?_⟩) hHeld ?_ ?_); (rotate_left)
      · (rintro w' ⟨s0, s1⟩); (go_simp); (with_reducible rfl)
      rotate_left
      · (simp only [sA]); (rfl)
      (refine take_ (i := 2) (N := some 16) (v := ?_) (a' := ?_) (bv 4 4) rfl rfl (take_ofW HT_.out HW_.out (by kernel_rfl)) (fun _ _ _ h => h) (Or.inl ⟨by rfl, ?_⟩) hHeld ?_ ?_); (rotate_left)
      · (rintro w' ⟨s0, s1⟩); (go_simp); (with_reducible rfl)
      rotate_left
      · (simp only [sA]); (rfl)
      (refine one_ (i := 4) (N := some 18) (bv 5 3) rfl rfl (one_of HT_.out (by kernel_rfl)) (by decide) (fun K hK => ?_))
      refine goes_ Try.func58 (by kernel_rfl) rfl #[.slice A0_1 l0_1.length c0_1, .func (.func 59) #[] #[.pointer (some ⟨w.heap.size + 1, 0, none⟩)]] (by rfl) rfl rfl (by (try simp only [List.map_toArray, List.map_cons, List.map_nil]); first | done | rfl | (simp only [*]; rfl)) ?_
      refine (lsns_Raise_kept_calls 59 #[.pointer (some ⟨w.heap.size + 1, 0, none⟩)] A0_1 c0_1 l0_1 (fun x => decide (x > m)) w5 (enters_of Try.func59 (by kernel_rfl) rfl) HL.out (Kd.C_below HR.out HD.out) (fun W x hB => lsns_Raise_raise_clo_calls (w.heap.size + 1) m x W (pw_cell_below hB ((blk_cell D3.out 0).trans rfl)))).mono ?_
      rintro e w6 ⟨v6, rfl, ho, hb⟩
      refine ⟨_, rfl, ?_⟩
      have E2 := Aside0.mk (blk_below D2.out hb)
      have E3 := Aside0.mk (blk_below D3.out hb)
      have E4 := Aside0.mk (blk_below D4.out hb)
      have HE := Aside0.mk (below_step HD.out hb)
      obtain ⟨ys, hys⟩ : ∃ ys, ys = l0_1.filter (fun x => decide (x > m)) := ⟨_, rfl⟩
      rw [← hys] at ho
      have HY := Aside0.mk hys
      clear hys
      have HO := Aside0.mk (Kd.R_lower ho (below_size HD.out))
      clear ho hb D2 D3 D4 HD
      obtain ⟨Ao, co, eo⟩ := Kd.R_slice HO.out
      subst eo
      refine hK.out _ _ ⟨(blk_cell E3.out 0).trans rfl, (blk_cell E2.out 1).trans rfl⟩ (fun hHeld => ?_)
      clear hK K
      (refine norm_ (a' := ?_) ?_ ?_); (rotate_left)
      · (show Act.put _ (some 18) _ = _); (simp only [sA]); (rfl)
      (refine pure_ (i := 5) (N := some 19) (v := ?_) (a' := ?_) (bv 6 2) rfl rfl (any_of HT_.out (by kernel_rfl)) (fun _ _ _ h => h) (Or.inl ⟨by rfl, ?_⟩) ?_ ?_); (rotate_left)
      · (intro w'); (go_simp); (with_reducible rfl)
      rotate_left
      · (simp only [sA]); (rfl)
      (refine one_ (i := 6) (N := none) (bv 7 1) rfl rfl (one_of HT_.out (by kernel_rfl)) (by decide) (fun K hK => ?_))
      have hs18 : w6.cell? ⟨w.heap.size + 1 + 1, 0, none⟩ = some (.int .u64 0) := (blk_cell E4.out 0).trans rfl
      have hfs18 := blk_frozen E4.out 0
      have hs19 : w6.cell? ⟨w.heap.size + 1 + 1, 1, none⟩ = some (.slice none 0 0) := (blk_cell E4.out 1).trans rfl
      have hfs19 := blk_frozen E4.out 1
      (refine skip_ (w1 := ?_) (by rfl) rfl ?_ ?_); (rotate_left)
      · (go_simp); (rfl)
      (refine hK.out _ _ ⟨((cell_far (p := ⟨w.heap.size + 1 + 1, _, none⟩) (by show w.heap.size + 1 ≠ w.heap.size + 1 + 1; omega) _).trans (((cell_far (p := ⟨w.heap.size + 1 + 1, _, none⟩) (by show w.heap.size + 1 ≠ w.heap.size + 1 + 1; omega) _).trans (hHeld.1)))), ((cell_far (p := ⟨w.heap.size + 1 + 1, _, none⟩) (by show w.heap.size ≠ w.heap.size + 1 + 1; omega) _).trans (((cell_far (p := ⟨w.heap.size + 1 + 1, _, none⟩) (by show w.heap.size ≠ w.heap.size + 1 + 1; omega) _).trans (hHeld.2))))⟩ (fun hHeld => ?_)); (clear hK K); (refine pure_ (i := 7) (N := some 5) (v := ?_) (a' := ?_) (bv 8 0) rfl rfl (any_of HT_.out (by kernel_rfl)) (fun _ _ _ h => h) (Or.inl ⟨by rfl, ?_⟩) ?_ ?_); (rotate_left)
      · (intro w'); (go_simp); (with_reducible rfl)
      rotate_left
      · (simp only [sA]); (rfl)
      (refine done_ (done_of HT_.out (by kernel_rfl)) ?_); (try go_wp2)
      refine bodyPost_ret (results_ct rfl _ _ (w.heap.size + 1 + 1) 25 #[.int .u64 m, .slice Ao ys.length co] (0, 0) _ rfl (by refine blk_put (cs := #[.int .u64 m, .slice none 0 0]) ?_ 1 _ rfl; refine blk_put (cs := #[.int .u64 0, .slice none 0 0]) ?_ 0 _ rfl; exact E4.out) Try.underlying25 rfl (by kernel_rfl)) rfl ?_
      exact ⟨_, rfl, HY.out ▸ Kd.R_mono (Kd.R_far (p := ⟨w.heap.size + 1 + 1, 1, none⟩) (Kd.R_far (p := ⟨w.heap.size + 1 + 1, 0, none⟩) (Kd.R_types HO.out E4.out (by decide)) (fun _ hk => hk.2) (.int .u64 m)) (fun _ hk => hk.2) (.slice Ao ys.length co)) (fun _ hk => trivial), below_set (below_set HE.out (by omega)) (by omega)⟩
    · rw [if_pos rfl, if_neg hl] at h; cases h

/-! ### lsns_Join: function 23 -/
def lsns_Join_l (l m : List Int) : List Int := Go.Lib.compact (sortL (l ++ m))
/-- Join, whole: both are right, the lows are one: both rows, one behind the other, sorted, each number once. -/
def lsns_Join.f (k : Nat) (a0_0 : Int) (l0_1 : List Int) (a1_0 : Int) (l1_1 : List Int) : Option (Int × List Int × Int) :=
  (lsns_Right.f k a0_0 l0_1).bind fun b => (lsns_Right.f k a1_0 l1_1).bind fun c => if b = true ∧ c = true then
    (if a0_0 = a1_0 then (if l0_1.length + l1_1.length < 17592186044416 then (if 1000 < (lsns_Join_l l0_1 l1_1).length then some (0, [], 6) else some (a0_0, lsns_Join_l l0_1 l1_1, 0)) else none) else some (0, [], 9)) else some (0, [], 40)
theorem lsns_Join.mono : ∀ a0 a1 a2 a3 k, LeO (lsns_Join.f k a0 a1 a2 a3) (lsns_Join.f (k + 1) a0 a1 a2 a3) := by
  intro a0 a1 a2 a3 k
  exact LeO.bind (lsns_Right.mono _ _ _) (fun _ => LeO.bind (lsns_Right.mono _ _ _) (fun _ => LeO.refl _))
set_option maxHeartbeats 4000000 in
set_option maxRecDepth 100000 in
theorem lsns_Join.calls (k : Nat) (a0_0 : Int) (A0_1 : Option Addr) (c0_1 : Nat) (l0_1 : List Int) (a1_0 : Int) (A1_1 : Option Addr) (c1_1 : Nat) (l1_1 : List Int) (r1 : Int) (r2 : List Int) (r3 : Int) (w : World) (hr0_1 : Kd.C (Kd.int .u64) w A0_1 l0_1.length l0_1) (hc0_1 : l0_1.length ≤ c0_1) (hr1_1 : Kd.C (Kd.int .u64) w A1_1 l1_1.length l1_1) (hc1_1 : l1_1.length ≤ c1_1) (h : lsns_Join.f k a0_0 l0_1 a1_0 l1_1 = some (r1, r2, r3)) :
    Calls Try.prog 23 #[.agg #[.int .u64 a0_0, .slice A0_1 l0_1.length c0_1], .agg #[.int .u64 a1_0, .slice A1_1 l1_1.length c1_1]] w fun e w' => ∃ v1_ : Value, e = .returned (.tuple #[.agg #[.int .u64 r1, v1_], .int .i64 r3]) ∧ Kd.R (Kd.int .u64) 22 w' w.heap.size (fun _ => True) v1_ r2 ∧ Below w.heap.size w w' := by
  obtain ⟨b, hb, h⟩ := Option.bind_eq_some_iff.1 h
  obtain ⟨c, hc, h⟩ := Option.bind_eq_some_iff.1 h
  have hu25 := Try.underlying25
  have HR := Aside0.mk hr0_1
  have HR2 := Aside0.mk hr1_1
  have HRight := Aside0.mk hb
  have HRight2 := Aside0.mk hc
  clear hr0_1 hb hr1_1 hc
  obtain ⟨W0, hW0⟩ : ∃ W0, W0 = ((w.alloc (.cells #[.int .u64 a0_0, .slice A0_1 l0_1.length c0_1] 25)).alloc (.cells #[.int .u64 a1_0, .slice A1_1 l1_1.length c1_1] 25)).alloc (.cells #[.int .u64 0, .slice none 0 0] 25) := ⟨_, rfl⟩
  have hB0 : Below w.heap.size w W0 := by rw [hW0]; exact below_alloc (below_alloc (below_alloc (Below.refl _ _) _) _) _
  have b2 : W0.heap[w.heap.size]? = some (.cells #[.int .u64 a0_0, .slice A0_1 l0_1.length c0_1] 25 (0, 0)) := by
    rw [hW0]; exact blk_alloc (blk_alloc (blk_new w _) _) _
  have b3 : W0.heap[w.heap.size + 1]? = some (.cells #[.int .u64 a1_0, .slice A1_1 l1_1.length c1_1] 25 (0, 0)) := by
    have hb := blk_new (w.alloc (.cells #[.int .u64 a0_0, .slice A0_1 l0_1.length c0_1] 25)) (.cells #[.int .u64 a1_0, .slice A1_1 l1_1.length c1_1] 25)
    rw [World.size_alloc] at hb
    rw [hW0]; exact blk_alloc hb _
  have b4 : W0.heap[w.heap.size + 1 + 1]? = some (.cells #[.int .u64 0, .slice none 0 0] 25 (0, 0)) := by
    have hb := blk_new ((w.alloc (.cells #[.int .u64 a0_0, .slice A0_1 l0_1.length c0_1] 25)).alloc (.cells #[.int .u64 a1_0, .slice A1_1 l1_1.length c1_1] 25)) (.cells #[.int .u64 0, .slice none 0 0] 25)
    rw [World.size_alloc, World.size_alloc] at hb
    rw [hW0]; exact hb
  have hs0 : W0.heap.size = w.heap.size + 1 + 1 + 1 := by rw [hW0, World.size_alloc, World.size_alloc, World.size_alloc]
  have HS0 := Aside0.mk hs0
  have hc1 := lsns_Right.calls k a0_0 A0_1 c0_1 l0_1 b W0 (Kd.C_below HR.out hB0) hc0_1 HRight.out
  have HB0 := Aside0.mk hB0
  have hc2 := fun (w1 : World) (hb : Below W0.heap.size W0 w1) => lsns_Right.calls k a1_0 A1_1 c1_1 l1_1 c w1 (Kd.C_below HR2.out (below_step HB0.out hb)) hc1_1 HRight2.out
  have HC2 := Aside0.mk hc2
  have B2 := Aside0.mk b2
  have B3 := Aside0.mk b3
  have B4 := Aside0.mk b4
  clear b2 b3 b4 hB0 hc2 hs0
  cases b
  · rw [if_neg (by simp)] at h
    simp only [Option.some.injEq, Prod.mk.injEq] at h
    obtain ⟨rfl, rfl, rfl⟩ := h
    go_enter Try.func23, Try.ntmps23
    go_wp2_with (go_at_call 25; rw [← hW0]; refine hc1.mono ?_; rintro e w1 ⟨rfl, hb⟩; have HB1 := Aside0.mk (below_step HB0.out hb); have D4 := Aside0.mk (blk_below B4.out hb); clear hb; have hz0 := (blk_cell D4.out 0).trans rfl; have hz1 := (blk_cell D4.out 1).trans rfl; have hf0 := blk_frozen D4.out 0; have hf1 := blk_frozen D4.out 1)
    refine bodyPost_ret (results_ct rfl _ _ (w.heap.size + 1 + 1) 25 #[.int .u64 0, .slice none 0 0] (0, 0) _ rfl (by refine blk_put (cs := #[.int .u64 0, .slice none 0 0]) ?_ 1 _ rfl; refine blk_put (cs := #[.int .u64 0, .slice none 0 0]) ?_ 0 _ rfl; exact D4.out) Try.underlying25 rfl (by kernel_rfl)) rfl ?_
    exact ⟨_, rfl, Kd.R_nil _ _ _ _ _, below_set (below_set HB1.out (by omega)) (by omega)⟩
  cases c
  · rw [if_neg (by simp)] at h
    simp only [Option.some.injEq, Prod.mk.injEq] at h
    obtain ⟨rfl, rfl, rfl⟩ := h
    go_enter Try.func23, Try.ntmps23
    go_wp2_with (first | (go_at_call 25; rw [← hW0]; refine hc1.mono ?_; rintro e w1 ⟨rfl, hb⟩; have HBX := Aside0.mk hb; have HB1 := Aside0.mk (below_step HB0.out hb); have C3 := Aside0.mk (blk_below B3.out hb); have C4 := Aside0.mk (blk_below B4.out hb); clear hb; have hz3 := (blk_cell C3.out 0).trans rfl; have hy3 := (blk_cell C3.out 1).trans rfl) | (go_at_call 25; refine (HC2.out _ HBX.out).mono ?_; rintro e w2 ⟨rfl, hb⟩; have HB2 := Aside0.mk (below_step HB1.out hb); have D4 := Aside0.mk (blk_below C4.out hb); clear hb; have hz0 := (blk_cell D4.out 0).trans rfl; have hz1 := (blk_cell D4.out 1).trans rfl; have hf0 := blk_frozen D4.out 0; have hf1 := blk_frozen D4.out 1))
    refine bodyPost_ret (results_ct rfl _ _ (w.heap.size + 1 + 1) 25 #[.int .u64 0, .slice none 0 0] (0, 0) _ rfl (by refine blk_put (cs := #[.int .u64 0, .slice none 0 0]) ?_ 1 _ rfl; refine blk_put (cs := #[.int .u64 0, .slice none 0 0]) ?_ 0 _ rfl; exact D4.out) Try.underlying25 rfl (by kernel_rfl)) rfl ?_
    exact ⟨_, rfl, Kd.R_nil _ _ _ _ _, below_set (below_set HB2.out (by omega)) (by omega)⟩
  rw [if_pos ⟨rfl, rfl⟩] at h
  by_cases he : a0_0 = a1_0
  · rw [if_pos he] at h
    by_cases hl : l0_1.length + l1_1.length < 17592186044416
    · rw [if_pos hl] at h
      have heb : (a0_0 != a1_0) = false := by rw [he]; simp
      have HE := Aside0.mk he
      have HL := Aside0.mk hl
      have HF := Aside0.mk h
      clear he hl h
      go_enter Try.func23, Try.ntmps23
      go_wp2_with (first | (go_at_call 25; rw [← hW0]; refine hc1.mono ?_; rintro e w1 ⟨rfl, hb⟩; have HBX := Aside0.mk hb; have HB1 := Aside0.mk (below_step HB0.out hb); have C2 := Aside0.mk (blk_below B2.out hb); have C3 := Aside0.mk (blk_below B3.out hb); have C4 := Aside0.mk (blk_below B4.out hb); clear hb; have hz3 := (blk_cell C3.out 0).trans rfl; have hy3 := (blk_cell C3.out 1).trans rfl; have hz2 := (blk_cell C2.out 0).trans rfl; have hy2 := (blk_cell C2.out 1).trans rfl) | (go_at_call 25; refine (HC2.out _ HBX.out).mono ?_; rintro e w2 ⟨rfl, hb⟩; have HS2 := Aside0.mk (Nat.le_trans (Nat.le_of_eq HS0.out.symm) (Nat.le_trans HBX.out.size hb.size)); have HB2 := Aside0.mk (below_step HB1.out hb); have D2 := Aside0.mk (blk_below C2.out hb); have D3 := Aside0.mk (blk_below C3.out hb); have D4 := Aside0.mk (blk_below C4.out hb); clear hb; have gz3 := (blk_cell D3.out 0).trans rfl; have gy3 := (blk_cell D3.out 1).trans rfl; have gz2 := (blk_cell D2.out 0).trans rfl; have gy2 := (blk_cell D2.out 1).trans rfl) | (go_at_call 60; refine (concatU w2.heap.size A0_1 A1_1 c0_1 c1_1 l0_1 l1_1 _ (blk_new w2 _) (Kd.C_below HR.out (below_alloc HB2.out _)) (Kd.C_below HR2.out (below_alloc HB2.out _)) HL.out).mono ?_; rintro e w3 ⟨v3, rfl, ho3, hb3⟩; have HO3 := Aside0.mk ho3; have HZ3 := Aside0.mk hb3; clear ho3 hb3) | (go_at_call 61; refine (sortU.calls (fun _ => True) v3 (l0_1 ++ l1_1) (sortL (l0_1 ++ l1_1)) _ w3 HZ3.out HO3.out (if_pos (by have := HL.out; rw [List.length_append]; omega))).mono ?_; rintro e w4 ⟨rfl, ho4, hb4, hk4⟩; have HO4 := Aside0.mk ho4; have HZ4 := Aside0.mk hb4; clear ho4 hb4 hk4) | (go_at_call 62; refine (compactU_R (by have := HL.out; rw [sortL_length, List.length_append]; omega) HZ4.out.size HO4.out).mono ?_; rintro e w5 ⟨v5, rfl, ho5, hb5⟩; have HZ5 := Aside0.mk (HZ4.out.trans hb5); obtain ⟨A5, c5, e5⟩ := own_slice ho5; have HO5 := Aside0.mk ho5; clear ho5 hb5; subst e5; have E2 := Aside0.mk (blk_below (blk_alloc D2.out _) HZ5.out); have E3 := Aside0.mk (blk_below (blk_alloc D3.out _) HZ5.out); have E4 := Aside0.mk (blk_below (blk_alloc D4.out _) HZ5.out); have hz0 := (blk_cell E4.out 0).trans rfl; have hz1 := (blk_cell E4.out 1).trans rfl; have hf0 := blk_frozen E4.out 0; have hf1 := blk_frozen E4.out 1; have kz2 := (blk_cell E2.out 0).trans rfl))
      · have hq : 1000 < (lsns_Join_l l0_1 l1_1).length := by unfold lsns_Join_l; omega
        have hF := HF.out
        rw [if_pos hq] at hF
        simp only [Option.some.injEq, Prod.mk.injEq] at hF
        obtain ⟨rfl, rfl, rfl⟩ := hF
        have HB5 := below_step (below_alloc HB2.out _) HZ5.out
        refine bodyPost_ret (results_ct rfl _ _ (w.heap.size + 1 + 1) 25 #[.int .u64 0, .slice none 0 0] (0, 0) _ rfl (by refine blk_put (cs := #[.int .u64 0, .slice none 0 0]) ?_ 1 _ rfl; refine blk_put (cs := #[.int .u64 0, .slice none 0 0]) ?_ 0 _ rfl; exact E4.out) Try.underlying25 rfl (by kernel_rfl)) rfl ?_
        exact ⟨_, rfl, Kd.R_nil _ _ _ _ _, below_set (below_set HB5 (by omega)) (by omega)⟩
      · have hq : ¬ 1000 < (lsns_Join_l l0_1 l1_1).length := by unfold lsns_Join_l; omega
        have hF := HF.out
        rw [if_neg hq] at hF
        simp only [Option.some.injEq, Prod.mk.injEq] at hF
        obtain ⟨rfl, rfl, rfl⟩ := hF
        have HB5 := below_step (below_alloc HB2.out _) HZ5.out
        have hO : Kd.R (Kd.int .u64) 22 ((w5.setCell ⟨w.heap.size + 1 + 1, 0, none⟩ (.int .u64 a0_0)).setCell ⟨w.heap.size + 1 + 1, 1, none⟩ (.slice A5 (Go.Lib.compact (sortL (l0_1 ++ l1_1))).length c5)) w.heap.size (fun _ => True) (.slice A5 (Go.Lib.compact (sortL (l0_1 ++ l1_1))).length c5) (Go.Lib.compact (sortL (l0_1 ++ l1_1))) := by
          rcases own_opened HO5.out with ⟨e1, e2⟩ | ⟨g, cap, cur, e1, _, hb, hg, h1, h2, h3, h4⟩
          · rw [e1, e2]; exact Kd.R_nil _ _ _ _ _
          · rw [World.size_alloc] at hb
            have hs := HS2.out
            rw [e1]
            exact own_closed _ trivial (by omega) (blk_far (blk_far hg (p := ⟨w.heap.size + 1 + 1, 0, none⟩) (by show g ≠ w.heap.size + 1 + 1; omega) _) (p := ⟨w.heap.size + 1 + 1, 1, none⟩) (by show g ≠ w.heap.size + 1 + 1; omega) _) h1 h2 h3 h4
        refine bodyPost_ret (results_ct rfl _ _ (w.heap.size + 1 + 1) 25 #[.int .u64 a0_0, .slice A5 (Go.Lib.compact (sortL (l0_1 ++ l1_1))).length c5] (0, 0) _ rfl (by refine blk_put (cs := #[.int .u64 a0_0, .slice none 0 0]) ?_ 1 _ rfl; refine blk_put (cs := #[.int .u64 0, .slice none 0 0]) ?_ 0 _ rfl; exact E4.out) Try.underlying25 rfl (by kernel_rfl)) rfl ?_
        exact ⟨_, rfl, hO, below_set (below_set HB5 (by omega)) (by omega)⟩
    · rw [if_neg hl] at h
      cases h
  · rw [if_neg he] at h
    simp only [Option.some.injEq, Prod.mk.injEq] at h
    obtain ⟨rfl, rfl, rfl⟩ := h
    have hneb := bne_iff_ne.mpr he
    clear he
    go_enter Try.func23, Try.ntmps23
    go_wp2_with (first | (go_at_call 25; rw [← hW0]; refine hc1.mono ?_; rintro e w1 ⟨rfl, hb⟩; have HBX := Aside0.mk hb; have HB1 := Aside0.mk (below_step HB0.out hb); have C2 := Aside0.mk (blk_below B2.out hb); have C3 := Aside0.mk (blk_below B3.out hb); have C4 := Aside0.mk (blk_below B4.out hb); clear hb; have hz3 := (blk_cell C3.out 0).trans rfl; have hy3 := (blk_cell C3.out 1).trans rfl; have hz2 := (blk_cell C2.out 0).trans rfl; have hy2 := (blk_cell C2.out 1).trans rfl) | (go_at_call 25; refine (HC2.out _ HBX.out).mono ?_; rintro e w2 ⟨rfl, hb⟩; have HB2 := Aside0.mk (below_step HB1.out hb); have D2 := Aside0.mk (blk_below C2.out hb); have D3 := Aside0.mk (blk_below C3.out hb); have D4 := Aside0.mk (blk_below C4.out hb); clear hb; have gz3 := (blk_cell D3.out 0).trans rfl; have gz2 := (blk_cell D2.out 0).trans rfl; have hz0 := (blk_cell D4.out 0).trans rfl; have hz1 := (blk_cell D4.out 1).trans rfl; have hf0 := blk_frozen D4.out 0; have hf1 := blk_frozen D4.out 1))
    refine bodyPost_ret (results_ct rfl _ _ (w.heap.size + 1 + 1) 25 #[.int .u64 0, .slice none 0 0] (0, 0) _ rfl (by refine blk_put (cs := #[.int .u64 0, .slice none 0 0]) ?_ 1 _ rfl; refine blk_put (cs := #[.int .u64 0, .slice none 0 0]) ?_ 0 _ rfl; exact D4.out) Try.underlying25 rfl (by kernel_rfl)) rfl ?_
    exact ⟨_, rfl, Kd.R_nil _ _ _ _ _, below_set (below_set HB2.out (by omega)) (by omega)⟩

end Go.Proofs.Ytebmpoonkmcjfaa.E
