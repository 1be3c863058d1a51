-- PRINTED by print.py (a twelfth state) out of the translation. Not trusted: Lean checks it.
import Derived.Test.YtmfaopjfdedheaaMv
import Derived.Test.YtmfaopjfdedheaaAx0
import Derived.Test.YtmfaopjfdedheaaAx3
namespace Go.Proofs.Ytmfaopjfdedheaa.A
open Go.RowKit Go.Proofs.YtmfaopjfdedheaaW Go.Proofs.YtmfaopjfdedheaaW.PrintWords Go.Proofs.YtmfaopjfdedheaaW.PrintLast Go.Proofs.YtmfaopjfdedheaaW.PrintMore
attribute [local go_sem] max2_int min2_int max_two min_two max_three min_three max_four min_four   -- for this text's walks alone
set_option linter.unusedVariables false
set_option linter.unusedSimpArgs false

/-! ### sort_Search: function 63 -/
/-- Go's binary search from i to j. -/
def bsearch (p : Nat → Bool) (i j : Nat) : Nat :=
  if h : i < j then (if p ((i + j) / 2) then bsearch p i ((i + j) / 2) else bsearch p ((i + j) / 2 + 1) j) else i
termination_by j - i
decreasing_by all_goals omega
theorem bsearch_done (p : Nat → Bool) (i : Nat) : bsearch p i i = i := by unfold bsearch; rw [dif_neg (by omega)]
theorem bsearch_yes {p : Nat → Bool} {i j : Nat} (h : i < j) (hp : p ((i + j) / 2) = true) : bsearch p i j = bsearch p i ((i + j) / 2) := by rw [bsearch, dif_pos h, if_pos hp]
theorem bsearch_no {p : Nat → Bool} {i j : Nat} (h : i < j) (hp : p ((i + j) / 2) = false) : bsearch p i j = bsearch p ((i + j) / 2 + 1) j := by rw [bsearch, dif_pos h, if_neg (by rw [hp]; simp)]
set_option maxHeartbeats 4000000 in
set_option maxRecDepth 100000 in
theorem search_calls (g : Nat) (cb : Array Value) (n : Nat) (p : Nat → Bool) (w : World) (eg : ∀ args w, (callFunc g args).run Try.prog w = .ok (.enter g args) w) (hsz : n < 4611686018427387904)
    (hf : ∀ (W : World) (i : Nat), Below w.heap.size w W → i < n → Calls Try.prog g (#[.int .i64 i] ++ cb) W fun e w' => e = .returned (.bool (p i)) ∧ Below W.heap.size W w') :
    Calls Try.prog 63 #[.int .i64 n, .func (.func g) #[] cb] w fun e w' => e = .returned (.int .i64 (bsearch p 0 n : Nat)) ∧ Below w.heap.size w w' := by
  have HF : Aside0 _ := ⟨hf⟩
  clear hf
  obtain ⟨r, hr⟩ : ∃ r, r = bsearch p 0 n := ⟨_, rfl⟩
  rw [← hr]
  have HR : Aside0 (bsearch p 0 n = r) := ⟨hr.symm⟩
  clear hr
  go_enter Try.func63, Try.ntmps63
  go_wp2
  go_loopg [5, 6] n (fun kx s5 s6 wr => ∃ (lo hi : Nat), s5 = .int .i64 lo ∧ s6 = .int .i64 hi ∧ lo ≤ hi ∧ hi ≤ n ∧ hi - lo ≤ kx ∧ Aside0 (Below w.heap.size w wr) ∧ Aside0 (bsearch p lo hi = r))
  case atStart => exact ⟨0, n, rfl, rfl, Nat.zero_le _, Nat.le_refl _, by omega, ⟨Below.refl _ _⟩, HR⟩
  case round =>
    obtain ⟨lo, hi, rfl, rfl, hlh, hin, hg, HB, I⟩ := hrel
    by_cases hlt : lo < hi
    · have hc := HF.out wr ((lo + hi) / 2) HB.out (by omega)
      rw [show (((lo + hi) / 2 : Nat) : Int) = ((lo : Int) + (hi : Int)) / 2 by omega] at hc
      cases hp : p ((lo + hi) / 2) <;> rw [hp] at hc
      · have HP : Aside0 (p ((lo + hi) / 2) = false) := ⟨hp⟩
        clear hp
        go_wp2_with (go_at_fn g; refine hc.mono ?_; rintro e w1 ⟨rfl, hb1⟩)
        go_roundg (hi - ((lo + hi) / 2 + 1))
        case measure => omega
        case rel => exact ⟨(lo + hi) / 2 + 1, hi, by rw [show ((lo : Int) + (hi : Int)) / 2 + 1 = (((lo + hi) / 2 + 1 : Nat) : Int) by omega], rfl, by omega, hin, Nat.le_refl _, ⟨below_step HB.out hb1⟩, ⟨(bsearch_no hlt HP.out).symm.trans I.out⟩⟩
      · have HP : Aside0 (p ((lo + hi) / 2) = true) := ⟨hp⟩
        clear hp
        go_wp2_with (go_at_fn g; refine hc.mono ?_; rintro e w1 ⟨rfl, hb1⟩)
        go_roundg ((lo + hi) / 2 - lo)
        case measure => omega
        case rel => exact ⟨lo, (lo + hi) / 2, rfl, by rw [show ((lo : Int) + (hi : Int)) / 2 = (((lo + hi) / 2 : Nat) : Int) by omega], by omega, by omega, Nat.le_refl _, ⟨below_step HB.out hb1⟩, ⟨(bsearch_yes hlt HP.out).symm.trans I.out⟩⟩
    · obtain rfl : hi = lo := by omega
      have e := I.out
      rw [bsearch_done] at e
      subst e
      go_wp2
      go_ret
      exact ⟨rfl, HB.out⟩
theorem bsearch_le0 (p : Nat → Bool) : ∀ (d i j : Nat), j - i = d → i ≤ j → i ≤ bsearch p i j ∧ bsearch p i j ≤ j := by
  intro d
  induction d using Nat.strongRecOn with
  | _ d ih =>
    intro i j hd hij
    by_cases h : i < j
    · cases hp : p ((i + j) / 2)
      · rw [bsearch_no h hp]
        have := ih (j - ((i + j) / 2 + 1)) (by omega) ((i + j) / 2 + 1) j rfl (by omega)
        omega
      · rw [bsearch_yes h hp]
        have := ih ((i + j) / 2 - i) (by omega) i ((i + j) / 2) rfl (by omega)
        omega
    · obtain rfl : i = j := by omega
      rw [bsearch_done]
      omega

/-! ### cells_At: function 49 -/
/-- Is a text greater than another one? -/
def cells_At_gt (a b : ByteArray) : Bool := !Op.bytesLess a.toList b.toList && !(a.toList == b.toList)
def cells_At.f (k : Nat) (l0 : List S42) (a1 : ByteArray) : Option (Int) := (cells_Right.f k l0).bind fun t => if t = true then (if l0.length < 4611686018427387904 then some (((bsearch (fun i => cells_At_gt (rd_T42 l0 i).f0 a1) 0 l0.length : Nat) : Int) - 1) else none) else some (-1)
theorem cells_At.mono : ∀ a0 a1 k, LeO (cells_At.f k a0 a1) (cells_At.f (k + 1) a0 a1) := by
  intro a0 a1 k
  exact LeO.bind (cells_Right.mono _ _) (fun _ => LeO.refl _)
set_option maxHeartbeats 4000000 in
theorem cells_At_clo_calls (ba bx : Nat) (A0 : Option Addr) (c : Nat) (l : List S42) (x : ByteArray) (i : Nat) (W : World) (hi : i < l.length) (hr : Kd.C k42 W A0 l.length l)
    (ha : W.cell? ⟨ba, 0, none⟩ = some (.slice A0 l.length c)) (hx : W.cell? ⟨bx, 0, none⟩ = some (.string x)) :
    Calls Try.prog 78 (#[.int .i64 i] ++ #[.pointer (some ⟨ba, 0, none⟩), .pointer (some ⟨bx, 0, none⟩)]) W fun e w' => e = .returned (.bool (cells_At_gt (rd_T42 l i).f0 x)) ∧ Below W.heap.size W w' := by
  obtain ⟨ad, rfl, hc, _⟩ := at_T42 hr i (by omega) (by omega)
  rw [Int.toNat_natCast] at hc
  generalize rd_T42 l i = y at hc ⊢
  have hiz : (i : Int) < (l.length : Int) := by omega
  have hu := Try.underlying42
  clear hr
  go_enter Try.func78, Try.ntmps78
  go_wp2
  go_region
  all_goals go_wp2
  all_goals go_ret
  all_goals exact ⟨by first | rfl | simp, below_drew1 (Below.refl _ _)⟩
set_option maxHeartbeats 4000000 in
theorem cells_At_above (A0 : Option Addr) (n c0 : Nat) (x : ByteArray) (w : World) : Calls Try.prog 62 #[.slice A0 n c0, .string x] w fun e w' =>
    e = .returned (.func (.func 78) #[] #[.pointer (some ⟨w.heap.size, 0, none⟩), .pointer (some ⟨w.heap.size + 1, 0, none⟩)]) ∧ w' = (w.alloc (.cells #[.slice A0 n c0] 99)).alloc (.cells #[.string x] 9) := by
  have hmf : ∀ (fn : Fn) (first cap : Array Value) (w : World), (Instr.makeFunc fn first cap).run Try.prog w = .ok (.func fn first cap) w := fun _ _ _ _ => rfl
  go_enter Try.func62, Try.ntmps62
  go_wp2
  go_ret
  exact ⟨rfl, rfl⟩
set_option maxHeartbeats 4000000 in
set_option maxRecDepth 100000 in
theorem cells_At.calls (k : Nat) (A0 : Option Addr) (c0 : Nat) (l0 : List S42) (a1 : ByteArray) (r : Int) (w : World) (hr0 : Kd.C k42 w A0 l0.length l0) (hc0 : l0.length ≤ c0) (h : cells_At.f k l0 a1 = some r) :
    Calls Try.prog 49 #[.slice A0 l0.length c0, .string a1] w fun e w' => e = .returned (.int .i64 r) ∧ Below w.heap.size w w' := by
  obtain ⟨t, ht, h⟩ := Option.bind_eq_some_iff.1 h
  have hR := cells_Right.calls k A0 c0 l0 t w hr0 hc0 ht
  cases t
  · rw [if_neg (by simp)] at h
    obtain rfl := Option.some.inj h
    go_enter Try.func49, Try.ntmps49
    go_wp2_with (go_at_call 34; refine hR.mono ?_; rintro e w1 ⟨rfl, hb⟩; have HB := Aside0.mk hb; clear hb)
    go_ret
    exact ⟨rfl, HB.out⟩
  · rw [if_pos rfl] at h
    have hlen : l0.length < 4611686018427387904 := by
      by_cases hl : l0.length < 4611686018427387904
      · exact hl
      · rw [if_neg hl] at h; cases h
    rw [if_pos hlen] at h
    obtain rfl := Option.some.inj h
    clear h
    have eg : ∀ args w, (callFunc 78 args).run Try.prog w = .ok (.enter 78 args) w := enters_of Try.func78 (by kernel_rfl) rfl
    have hS : ∀ w1, Below w.heap.size w w1 → Calls Try.prog 63 #[.int .i64 l0.length, .func (.func 78) #[] #[.pointer (some ⟨w1.heap.size, 0, none⟩), .pointer (some ⟨w1.heap.size + 1, 0, none⟩)]] ((w1.alloc (.cells #[.slice A0 l0.length c0] 99)).alloc (.cells #[.string a1] 9))
        fun e w' => e = .returned (.int .i64 (bsearch (fun i => cells_At_gt (rd_T42 l0 i).f0 a1) 0 l0.length : Nat)) ∧ Below w.heap.size w w' := by
      intro w1 hb1
      obtain ⟨W0, hW0⟩ : ∃ W0, W0 = (w1.alloc (.cells #[.slice A0 l0.length c0] 99)).alloc (.cells #[.string a1] 9) := ⟨_, rfl⟩
      have hB0 : Below w.heap.size w W0 := by rw [hW0]; exact below_alloc (below_alloc hb1 _) _
      have ca : W0.cell? ⟨w1.heap.size, 0, none⟩ = some (.slice A0 l0.length c0) := by
        rw [hW0]; exact (blk_cell (blk_alloc (blk_new w1 _) _) 0).trans rfl
      have cx : W0.cell? ⟨w1.heap.size + 1, 0, none⟩ = some (.string a1) := by
        have hb := blk_new (w1.alloc (.cells #[.slice A0 l0.length c0] 99)) (.cells #[.string a1] 9)
        rw [World.size_alloc] at hb
        rw [hW0]
        exact (blk_cell hb 0).trans rfl
      rw [← hW0]
      refine (search_calls 78 #[.pointer (some ⟨w1.heap.size, 0, none⟩), .pointer (some ⟨w1.heap.size + 1, 0, none⟩)] l0.length (fun i => cells_At_gt (rd_T42 l0 i).f0 a1) W0 eg hlen
        (fun W i hB hi => cells_At_clo_calls w1.heap.size (w1.heap.size + 1) A0 c0 l0 a1 i W hi (Kd.C_below (Kd.C_below hr0 hB0) hB) (pw_cell_below hB ca) (pw_cell_below hB cx))).mono ?_
      rintro e w' ⟨rfl, hb⟩
      exact ⟨rfl, below_step hB0 hb⟩
    have hle := (bsearch_le0 (fun i => cells_At_gt (rd_T42 l0 i).f0 a1) l0.length 0 l0.length rfl (Nat.zero_le _)).2
    have HS := Aside0.mk hS
    generalize bsearch (fun i => cells_At_gt (rd_T42 l0 i).f0 a1) 0 l0.length = r at HS hle ⊢
    have hw : wrap64 ((r : Int) - 1) = (r : Int) - 1 := by unfold wrap64; omega
    clear hS hr0 hle hlen
    go_enter Try.func49, Try.ntmps49
    go_wp2_with (go_at_call 34; refine hR.mono ?_; rintro e w1 ⟨rfl, hb⟩; have HB := Aside0.mk hb; clear hb)
    refine (cells_At_above A0 l0.length c0 a1 w1).mono ?_
    rintro e w2 ⟨rfl, rfl⟩
    go_wp2_with (go_at_call 63; refine (HS.out w1 HB.out).mono ?_; rintro e w3 ⟨rfl, hb⟩; have HB2 := Aside0.mk hb; clear hb)
    go_ret
    exact ⟨by show Ending.returned (.int .i64 (wrap64 ((r : Int) - 1))) = _; rw [hw], HB2.out⟩

/-! ### cells_Find: function 22 -/
def cells_Find.f (k : Nat) (l0 : List (S42)) (a1 : ByteArray) : Option (ByteArray × Bool) := (cells_At.f k l0 a1).bind fun t206 => (if t206 ≥ 0 then (if 0 ≤ t206 then (if t206 < (l0.length : Int) then (if ((rd_T42 l0 t206).f0).toList = a1.toList then (some ((rd_T42 l0 t206).f1, true)) else (some ((⟨#[]⟩ : ByteArray), false))) else (none)) else (none)) else (some ((⟨#[]⟩ : ByteArray), false)))
theorem cells_Find.mono : ∀ a0 a1 k, LeO (cells_Find.f k a0 a1) (cells_Find.f (k + 1) a0 a1) := by
  intro a0 a1 k
  unfold cells_Find.f
  repeat' first
      | (with_reducible exact cells_At.mono _ _ _)
      | (with_reducible exact LeO.refl _)
      | (with_reducible exact LeO.none _)
      | (with_reducible refine LeO.ite ?_ ?_)
      | (with_reducible refine LeO.bind ?_ (fun _ => ?_))
      | exact cells_At.mono _ _ _
      | exact LeO.none _
      | refine LeO.ite ?_ ?_
      | refine LeO.bind ?_ (fun _ => ?_)
set_option maxHeartbeats 8000000 in
set_option maxRecDepth 100000 in
theorem cells_Find.calls (k : Nat) (A0 : Option Addr) (c0 : Nat) (l0 : List (S42)) (a1 : ByteArray) (r1 : ByteArray) (r2 : Bool) (w : World) (hr0 : Kd.C k42 w A0 l0.length l0) (hc0 : l0.length ≤ c0) (h : cells_Find.f k l0 a1 = some (r1, r2)) :
    Calls Try.prog 22 #[.slice A0 l0.length c0, .string a1] w fun e w' => e = .returned (.tuple #[.string r1, .bool r2]) ∧ Below w.heap.size w w' := by
  (have HR0 := Aside0.mk hr0); (have HC0 := Aside0.mk hc0); (clear hr0 hc0); (have HB := Aside0.mk (Below.refl w.heap.size w)); (have H : ((cells_At.f k l0 a1).bind fun t206 => (if t206 ≥ 0 then (if 0 ≤ t206 then (if t206 < (l0.length : Int) then (if ((rd_T42 l0 t206).f0).toList = a1.toList then (some ((rd_T42 l0 t206).f1, true)) else (some ((⟨#[]⟩ : ByteArray), false))) else (none)) else (none)) else (some ((⟨#[]⟩ : ByteArray), false)))) = some (r1, r2) := h); (clear h); (replace H := Option.bind_eq_some_iff.mp H); (obtain ⟨t206, A30, H⟩ := H); (replace H : (if t206 ≥ 0 then (if 0 ≤ t206 then (if t206 < (l0.length : Int) then (if ((rd_T42 l0 t206).f0).toList = a1.toList then (some ((rd_T42 l0 t206).f1, true)) else (some ((⟨#[]⟩ : ByteArray), false))) else (none)) else (none)) else (some ((⟨#[]⟩ : ByteArray), false))) = some (r1, r2) := H); (have A3 := Aside0.mk A30); (clear A30); (by_cases c4 : t206 ≥ 0)
  · (rw [if_pos c4] at H); (have c4b0 : decide (0 ≤ t206) = true := decide_eq_true c4); (clear c4); (by_cases c5 : 0 ≤ t206)
    · (rw [if_pos c5] at H); (have c5b0 : decide (0 ≤ t206) = true := decide_eq_true c5); (clear c5); (by_cases c6 : t206 < (l0.length : Int))
      · (rw [if_pos c6] at H); (have c6b0 : decide (t206 < (l0.length : Int)) = true := decide_eq_true c6); (clear c6); (by_cases c7 : ((rd_T42 l0 t206).f0).toList = a1.toList)
        · (rw [if_pos c7] at H); (have c7b0 : (((rd_T42 l0 t206).f0).toList == a1.toList) = true := beq_iff_eq.mpr c7); (have c7b1 : (((rd_T42 l0 t206).f0).toList != a1.toList) = false := bne_eq_false_iff_eq.mpr c7); (clear c7); (simp only [Option.some.injEq, Prod.mk.injEq] at H); (obtain ⟨rfl, rfl⟩ := H); (go_enter Try.func22, Try.ntmps22); (go_wp2_with (first | ((with_reducible refine gate_callee (f := 49) rfl ?_); refine goesL_ (some 9) rfl rfl Try.func49 (by kernel_rfl) rfl #[.slice A0 l0.length c0, .string a1] rfl (by (try simp only [List.map_toArray, List.map_cons, List.map_nil]); first | done | rfl | (simp only [List.length_drop, List.length_take]; rfl) | (simp only [*]; rfl)) ?_; (with_reducible refine (cells_At.calls k _ _ l0 a1 t206 _ ?side1 ?side2 A3.out).mono ?_); (case side1 => repeat (first | exact HR0.out | (with_reducible refine Kd.C_alloc ?_ _) | (with_reducible refine Kd.C_drewN ?_ _) | (with_reducible refine Kd.C_drew ?_))); (case side2 => exact HC0.out); rintro e w8 ⟨rfl, hb⟩; refine ⟨_, rfl, ?_⟩; replace HB := Aside0.mk (below_step (mvW HB.out) hb); clear hb; have p207 : 0 ≤ (t206 : Int) := of_decide_eq_true (by first | (with_reducible assumption) | assumption); have q207 : t206 < (l0.length : Int) := of_decide_eq_true (by first | (with_reducible assumption) | assumption); obtain ⟨ad207, e207, hx207_0, hx207_1⟩ := at_T42 HR0.out t206 p207 q207; cases e207; replace hx207_0 := (HB.out.cell (World.block_lt_of_cell? w _ hx207_0)).trans hx207_0; replace hx207_1 := (HB.out.cell (World.block_lt_of_cell? w _ hx207_1)).trans hx207_1; replace p207 := eq_true p207; replace q207 := eq_true q207; have p208 : 0 ≤ (t206 : Int) := of_decide_eq_true (by first | (with_reducible assumption) | assumption); have q208 : t206 < (l0.length : Int) := of_decide_eq_true (by first | (with_reducible assumption) | assumption); obtain ⟨ad208, e208, hx208_0, hx208_1⟩ := at_T42 HR0.out t206 p208 q208; obtain rfl : ad207 = ad208 := (by injection e208); replace hx208_0 := (HB.out.cell (World.block_lt_of_cell? w _ hx208_0)).trans hx208_0; replace hx208_1 := (HB.out.cell (World.block_lt_of_cell? w _ hx208_1)).trans hx208_1; replace p208 := eq_true p208; replace q208 := eq_true q208))); (go_ret2); (exact ⟨by first | rfl | (simp [errW_none, errW_some] <;> rfl) | (simp [*, errW_none, errW_some] <;> rfl), by repeat (first | (with_reducible first | exact HB.out | apply below_alloc | apply pw_below_drewN | apply below_drew1) | exact HB.out)⟩)
        · (rw [if_neg c7] at H); (have c7b0 : (((rd_T42 l0 t206).f0).toList == a1.toList) = false := beq_eq_false_iff_ne.mpr c7); (have c7b1 : (((rd_T42 l0 t206).f0).toList != a1.toList) = true := bne_iff_ne.mpr c7); (simp only [Option.some.injEq, Prod.mk.injEq] at H); (obtain ⟨rfl, rfl⟩ := H); (go_enter Try.func22, Try.ntmps22); (go_wp2_with (first | ((with_reducible refine gate_callee (f := 49) rfl ?_); refine goesL_ (some 9) rfl rfl Try.func49 (by kernel_rfl) rfl #[.slice A0 l0.length c0, .string a1] rfl (by (try simp only [List.map_toArray, List.map_cons, List.map_nil]); first | done | rfl | (simp only [List.length_drop, List.length_take]; rfl) | (simp only [*]; rfl)) ?_; (with_reducible refine (cells_At.calls k _ _ l0 a1 t206 _ ?side1 ?side2 A3.out).mono ?_); (case side1 => repeat (first | exact HR0.out | (with_reducible refine Kd.C_alloc ?_ _) | (with_reducible refine Kd.C_drewN ?_ _) | (with_reducible refine Kd.C_drew ?_))); (case side2 => exact HC0.out); rintro e w9 ⟨rfl, hb⟩; refine ⟨_, rfl, ?_⟩; replace HB := Aside0.mk (below_step (mvW HB.out) hb); clear hb; have p207 : 0 ≤ (t206 : Int) := of_decide_eq_true (by first | (with_reducible assumption) | assumption); have q207 : t206 < (l0.length : Int) := of_decide_eq_true (by first | (with_reducible assumption) | assumption); obtain ⟨ad207, e207, hx207_0, hx207_1⟩ := at_T42 HR0.out t206 p207 q207; cases e207; replace hx207_0 := (HB.out.cell (World.block_lt_of_cell? w _ hx207_0)).trans hx207_0; replace hx207_1 := (HB.out.cell (World.block_lt_of_cell? w _ hx207_1)).trans hx207_1; replace p207 := eq_true p207; replace q207 := eq_true q207))); (go_ret2); (exact ⟨by first | rfl | (simp [errW_none, errW_some] <;> rfl) | (simp [*, errW_none, errW_some] <;> rfl), by repeat (first | (with_reducible first | exact HB.out | apply below_alloc | apply pw_below_drewN | apply below_drew1) | exact HB.out)⟩)
      · (rw [if_neg c6] at H); (exact absurd H (by simp))
    · (rw [if_neg c5] at H); (exact absurd H (by simp))
  · (rw [if_neg c4] at H); (have c4b0 : decide (0 ≤ t206) = false := decide_eq_false c4); (clear c4); (simp only [Option.some.injEq, Prod.mk.injEq] at H); (obtain ⟨rfl, rfl⟩ := H); (go_enter Try.func22, Try.ntmps22); (go_wp2_with (first | ((with_reducible refine gate_callee (f := 49) rfl ?_); refine goesL_ (some 9) rfl rfl Try.func49 (by kernel_rfl) rfl #[.slice A0 l0.length c0, .string a1] rfl (by (try simp only [List.map_toArray, List.map_cons, List.map_nil]); first | done | rfl | (simp only [List.length_drop, List.length_take]; rfl) | (simp only [*]; rfl)) ?_; (with_reducible refine (cells_At.calls k _ _ l0 a1 t206 _ ?side1 ?side2 A3.out).mono ?_); (case side1 => repeat (first | exact HR0.out | (with_reducible refine Kd.C_alloc ?_ _) | (with_reducible refine Kd.C_drewN ?_ _) | (with_reducible refine Kd.C_drew ?_))); (case side2 => exact HC0.out); rintro e w10 ⟨rfl, hb⟩; refine ⟨_, rfl, ?_⟩; replace HB := Aside0.mk (below_step (mvW HB.out) hb); (try clear hb); (try clear hb2); (try clear hk); (try clear hi)))); (go_ret2); (exact ⟨by first | rfl | (simp [errW_none, errW_some] <;> rfl) | (simp [*, errW_none, errW_some] <;> rfl), by repeat (first | (with_reducible first | exact HB.out | apply below_alloc | apply pw_below_drewN | apply below_drew1) | exact HB.out)⟩)

end Go.Proofs.Ytmfaopjfdedheaa.A
