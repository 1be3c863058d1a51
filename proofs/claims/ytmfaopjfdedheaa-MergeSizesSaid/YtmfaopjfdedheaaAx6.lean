-- PRINTED by print.py (a twelfth state) out of the translation. Not trusted: Lean checks it.
import Derived.Test.YtmfaopjfdedheaaMv
import Derived.Test.YtmfaopjfdedheaaAx0
import Derived.Test.YtmfaopjfdedheaaAx2
import Derived.Test.YtmfaopjfdedheaaAx4
import Derived.Test.YtmfaopjfdedheaaAx5
namespace Go.Proofs.Ytmfaopjfdedheaa.A
open Go.RowKit Go.Proofs.YtmfaopjfdedheaaW Go.Proofs.YtmfaopjfdedheaaW.PrintWords Go.Proofs.YtmfaopjfdedheaaW.PrintLast Go.Proofs.YtmfaopjfdedheaaW.PrintMore
attribute [local go_sem] max2_int min2_int max_two min_two max_three min_three max_four min_four   -- for this text's walks alone
set_option linter.unusedVariables false
set_option linter.unusedSimpArgs false

/-! ### api_Cell: function 18 -/
section
open Go.Shelf Go.Lib
def api_Cell_ren : Go.Shelf.Ren := ⟨fun | 4 => 41 | n => n, fun | 22 => 26 | 25 => 42 | n => n, fun n => n⟩
theorem api_Cell_lays : Lays8.n4 Try.prog api_Cell_ren where
  mixed := by kernel_rfl
  f4 := ⟨Try.f41.name, by kernel_rfl, Try.func41.trans (congrArg some (by kernel_rfl))⟩
  t0 := Try.underlying0
  a0 := Try.isAgg0
  z0 := Try.sizeOf0
  v0 := Try.zeroValue0
  t3 := Try.underlying3
  a3 := Try.isAgg3
  z3 := Try.sizeOf3
  v3 := Try.zeroValue3
  t4 := Try.underlying4
  a4 := Try.isAgg4
  z4 := Try.sizeOf4
  v4 := Try.zeroValue4
  t9 := Try.underlying9
  a9 := Try.isAgg9
  z9 := Try.sizeOf9
  v9 := Try.zeroValue9
  t20 := Try.underlying20
  a20 := Try.isAgg20
  z20 := Try.sizeOf20
  v20 := Try.zeroValue20
  t22 := Try.underlying26
  a22 := Try.isAgg26
  z22 := Try.sizeOf26
  v22 := Try.zeroValue26
theorem api_Cell_grow (n : Nat) (hn : n * 32 ≤ 140737488355328) (w : World) : Calls Try.prog 41 #[.slice none 0 0, .int .i64 (n : Int)] w fun e w' =>
    ∃ v : Value, e = .returned v ∧ Kd.R k42 42 w' w.heap.size (fun _ => True) v [] ∧ Below w.heap.size w w' := by
  rcases Nat.eq_zero_or_pos n with rfl | h0
  · refine (Any8.slices_Grow_room api_Cell_lays none 0 0 0 w (Nat.le_refl _) (by decide) (by decide) (by decide)).mono ?_
    rintro e w' ⟨rfl, rfl⟩
    exact ⟨_, rfl, Kd.R_nil _ _ _ _ _, Below.refl _ _⟩
  · obtain ⟨i0, hi, hzz⟩ := Option.map_eq_some_iff.1 info42
    simp only [Prod.mk.injEq] at hzz
    obtain ⟨hz0, hz1, hz2⟩ := hzz
    refine (Any8.slices_Grow_grow api_Cell_lays i0 (.agg #[.string ⟨#[]⟩, .string ⟨#[]⟩]) hi hz0 (by rw [hz1]; decide) none 0 0 n [] w (Nat.le_refl _) (by omega) (by rw [hz2]; omega) (by omega) (by simp) (fun _ => rfl) (fun a h => by cases h)).mono ?_
    rintro e w' ⟨rfl, rfl⟩
    have e1 : api_Cell_ren.t 25 = 42 := rfl
    have hc := grownCap_le_maxLen w n 0 42 (by unfold maxLen; omega)
    have hg := grownCap_ge w n 0 42
    rw [e1, Nat.zero_add]
    refine ⟨_, rfl, own_fresh trivial (Nat.le_refl _) (by have h := blk_new w.drew (.cells (([] : List Value).toArray ++ Builtin.zeroCells (Value.agg #[.string ⟨#[]⟩, .string ⟨#[]⟩]).cells (n - 0) ++ Builtin.zeroCells (Value.agg #[.string ⟨#[]⟩, .string ⟨#[]⟩]).cells (grownCap w n 0 42 - n)) 42); exact h) hc ?_, below_alloc (below_drew1 (Below.refl _ _)) _⟩
    have es : (Value.agg #[.string ⟨#[]⟩, .string ⟨#[]⟩]).cells.size = 2 := by kernel_rfl
    have ed : (k42).sz = 2 := rfl
    rw [Array.size_append, Array.size_append, size_zeroCells, size_zeroCells, es, ed]
    simp
    omega
end
/-- Concat of two rows of cells: both, one behind the other, in a row of its own. -/
def api_Cell.f (k : Nat) (l0 : List S42) (l1 : List S42) : Option (List S42) := if l0.length + l1.length < 4398046511104 then some (l0 ++ l1) else none
theorem api_Cell.mono : ∀ a0 a1 k, LeO (api_Cell.f k a0 a1) (api_Cell.f (k + 1) a0 a1) := fun _ _ _ => LeO.refl _
set_option maxHeartbeats 4000000 in
set_option maxRecDepth 100000 in
theorem api_Cell.calls (k : Nat) (A0 : Option Addr) (c0 : Nat) (l0 : List S42) (A1 : Option Addr) (c1 : Nat) (l1 : List S42) (r : List S42) (w : World) (hA : Kd.C k42 w A0 l0.length l0) (hc0 : l0.length ≤ c0) (hB : Kd.C k42 w A1 l1.length l1) (hc1 : l1.length ≤ c1) (h : api_Cell.f k l0 l1 = some r) (b : Nat) (hb : w.heap[b]? = some (.cells #[.slice A0 l0.length c0, .slice A1 l1.length c1] 26 (0, 0))) :
    Calls Try.prog 18 #[.slice (some ⟨b, 0, none⟩) 2 2] w fun e w' => ∃ v : Value, e = .returned v ∧ Kd.R k42 42 w' w.heap.size (fun _ => True) v r ∧ Below w.heap.size w w' := by
  unfold api_Cell.f at h
  by_cases hl : l0.length + l1.length < 4398046511104
  case neg => rw [if_neg hl] at h; cases h
  rw [if_pos hl] at h
  obtain rfl := Option.some.inj h
  have HA := Aside0.mk hA
  have HB' := Aside0.mk hB
  have HL := Aside0.mk hl
  have BL := Aside0.mk hb
  have h0 := (blk_cell hb 0).trans rfl
  have h1 := (blk_cell hb 1).trans rfl
  clear hA hB hb h
  have e1 : wrap64 (l0.length : Int) = l0.length := by unfold wrap64; omega
  have e2 : wrap64 ((l0.length : Int) + (l1.length : Int)) = ((l0.length + l1.length : Nat) : Int) := by unfold wrap64; omega
  have hG : ∀ W, Calls Try.prog 41 #[.slice none 0 0, .int .i64 (wrap64 ((l0.length : Int) + (l1.length : Int)))] W fun e w' => ∃ v : Value, e = .returned v ∧ Kd.R k42 42 w' W.heap.size (fun _ => True) v [] ∧ Below W.heap.size W w' := fun W => by
    rw [e2]; exact api_Cell_grow (l0.length + l1.length) (by omega) W
  have hd : decide (wrap64 ((l0.length : Int) + (l1.length : Int)) < 0) = false := decide_eq_false (by rw [e2]; omega)
  have hd1 : decide (wrap64 (l0.length : Int) < 0) = false := decide_eq_false (by rw [e1]; omega)
  have HG := Aside0.mk hG
  clear hl e2 hG
  go_enter Try.func18, Try.ntmps18
  go_wp2
  refine wp_loop_rounds 3 ?_
  rw [rounds_succ]
  go_wp2
  rw [rounds_succ]
  go_wp2
  rw [rounds_succ]
  go_wp2_with (go_at_call 41; refine (HG.out _).mono ?_; rintro e w1 ⟨v, rfl, hr, hbb⟩; have HR := Aside0.mk hr; have HB := Aside0.mk hbb; have B1 := Aside0.mk (blk_below BL.out hbb); clear hr hbb; have g0 := (blk_cell B1.out 0).trans rfl; have g1 := (blk_cell B1.out 1).trans rfl)
  refine wp_loop_rounds 3 ?_
  rw [rounds_succ]
  go_wp2_with ((with_reducible refine gate_builtin (b := .append) (xs := #[.tmp 31, .tmp 32]) rfl ?_); at_builtin; (refine Kd.R_append_rows k42 (w0 := w) w.heap.size rfl (.tmp 31) (.tmp 32) 26 42 (.agg #[(.string ⟨#[]⟩), (.string ⟨#[]⟩)]) 32 rfl Try.underlying26 info42 rfl (by decide) (by omega) v [] l0 A0 l0.length c0 (fun _ => True) (fun _ => False) rfl rfl ?aO ?aR (fun _ _ h => h) (fun _ h => h.elim) ?aF ?aB ?aS ?aL ?_; (case aR => exact Kd.C_below HA.out HB.out); (case aB => exact HB.out); (case aF => exact fun _ _ => trivial); (case aO => exact HR.out); (case aS => exact below_size HB.out); (case aL => have := HL.out; simp; omega); intro v1 w2 ho hb hg hat; have HO1 := Aside0.mk ho; have HB1 := Aside0.mk hb; have B2 := Aside0.mk (blk_below BL.out hb); have k1 := (blk_cell B2.out 1).trans rfl; clear ho hb hg hat))
  rw [rounds_succ]
  go_wp2_with ((with_reducible refine gate_builtin (b := .append) (xs := #[.tmp 31, .tmp 32]) rfl ?_); at_builtin; (refine Kd.R_append_rows k42 (w0 := w) w.heap.size rfl (.tmp 31) (.tmp 32) 26 42 (.agg #[(.string ⟨#[]⟩), (.string ⟨#[]⟩)]) 32 rfl Try.underlying26 info42 rfl (by decide) (by omega) v1 ([] ++ l0) l1 A1 l1.length c1 (fun _ => True) (fun _ => False) rfl rfl ?aO ?aR (fun _ _ h => h) (fun _ h => h.elim) ?aF ?aB ?aS ?aL ?_; (case aR => exact Kd.C_below HB'.out HB1.out); (case aB => exact HB1.out); (case aF => exact fun _ _ => trivial); (case aO => exact HO1.out); (case aS => exact below_size HB1.out); (case aL => have := HL.out; simp; omega); intro v2 w3 ho hb hg hat; have HO2 := Aside0.mk ho; have HB2 := Aside0.mk hb; clear ho hb hg hat))
  rw [rounds_succ]
  go_wp2
  go_ret
  exact ⟨_, rfl, HO2.out, HB2.out⟩

/-! ### lsns_Raise: function 42 -/
theorem lsns_Raise_filter_next (l : List Int) (p : Int → Bool) (j : Nat) (h : j < l.length) : (l.take (j + 1)).filter p = (l.take j).filter p ++ (if p (rd l (j : Int)) = true then [rd l (j : Int)] else []) := by
  have e : rd l (j : Int) = l[j] := by unfold rd; simp [h]
  rw [e, List.take_add_one, List.filter_append, List.getElem?_eq_getElem h]
  cases hp : p l[j] <;> simp [hp]
set_option maxHeartbeats 4000000 in
set_option maxRecDepth 100000 in
theorem lsns_Raise_kept_calls (g : Nat) (cb : Array Value) (A0 : Option Addr) (c0 : Nat) (l0 : List Int) (p : Int → Bool) (w : World) (eg : ∀ args w, (callFunc g args).run Try.prog w = .ok (.enter g args) w) (hsz : l0.length < 17592186044416) (hr0 : Kd.C (Kd.int .u64) w A0 l0.length l0)
    (hf : ∀ (W : World) (x : Int), Below w.heap.size w W → Calls Try.prog g (#[.int .u64 x] ++ cb) W fun e w' => e = .returned (.bool (p x)) ∧ Below W.heap.size W w') :
    Calls Try.prog 57 #[.slice A0 l0.length c0, .func (.func g) #[] cb] w fun e w' => ∃ v0_ : Value, e = .returned v0_ ∧ Kd.R (Kd.int .u64) 22 w' w.heap.size (fun _ => True) v0_ (l0.filter p) ∧ Below w.heap.size w w' := by
  have HF : Aside0 _ := ⟨hf⟩
  have HR := Aside0.mk hr0
  have HL := Aside0.mk hsz
  clear hf hr0 hsz
  go_enter Try.func57, Try.ntmps57
  go_wp2
  go_loopg [5, 10] l0.length (fun kx s5 s10 wr => ∃ (j : Nat), s10 = .int .i64 j ∧ j ≤ l0.length ∧ l0.length - j ≤ kx ∧ Aside0 (Below w.heap.size w wr) ∧ Aside0 (Kd.R (Kd.int .u64) 22 wr w.heap.size (fun _ => True) s5 ((l0.take j).filter p)))
  case atStart => exact ⟨0, rfl, Nat.zero_le _, Nat.le_refl _, ⟨Below.refl _ _⟩, ⟨Kd.R_nil _ _ _ _ _⟩⟩
  case round =>
    obtain ⟨j, rfl, hj, hg, HB, HO⟩ := hrel
    by_cases hlt : j < l0.length
    · have hlt' : (j : Int) < (l0.length : Int) := by omega
      obtain ⟨ad, e, hx⟩ := Kd.at_int HR.out (j : Int) (by omega) hlt'
      cases e
      rw [Int.toNat_natCast] at hx
      replace hx := (HB.out.cell (World.block_lt_of_cell? w _ hx)).trans hx
      have hc := HF.out wr (rd l0 (j : Int)) HB.out
      have hn := Aside0.mk (lsns_Raise_filter_next l0 p j hlt)
      have hj1 : wrap64 ((j : Int) + 1) = ((j + 1 : Nat) : Int) := by have := HL.out; unfold wrap64; omega
      have hlen : ((l0.take j).filter p).length ≤ l0.length := Nat.le_trans (List.length_filter_le _ _) (by rw [List.length_take]; omega)
      have HN := Aside0.mk hlen
      clear hlen
      revert hx hc hn
      generalize rd l0 (j : Int) = x
      intro hx hc hn
      cases hp : p x <;> rw [hp] at hc
      · have hn' : (l0.take (j + 1)).filter p = (l0.take j).filter p := by rw [hn.out, hp]; simp
        have HM := Aside0.mk hn'
        clear hn hn' hp
        go_wp2_with (go_at_fn g; refine hc.mono ?_; rintro e w1 ⟨rfl, hb1⟩)
        go_roundg (l0.length - (j + 1))
        case measure => omega
        case rel => exact ⟨j + 1, by rw [hj1], by omega, Nat.le_refl _, ⟨below_step HB.out hb1⟩, ⟨HM.out ▸ Kd.R_below HO.out hb1⟩⟩
      · have hn' : (l0.take (j + 1)).filter p = (l0.take j).filter p ++ [x] := by rw [hn.out, hp]; simp
        have HM := Aside0.mk hn'
        clear hn hn' hp
        go_wp2_with (first | (go_at_fn g; refine hc.mono ?_; rintro e w1 ⟨rfl, hb1⟩; have HB1 := Aside0.mk (below_step HB.out hb1); have HO1 := Aside0.mk (Kd.R_below HO.out hb1); clear hb1) | ((with_reducible refine gate_builtin (b := .append) (xs := #[.tmp 17, .tmp 19]) rfl ?_); at_builtin; refine Kd.R_append (Kd.int .u64) (w0 := w) w.heap.size rfl (.tmp 17) (.tmp 19) 23 22 (.int .u64 0) 8 rfl Try.underlying23 info22 rfl (by decide) (by omega) u5 ((l0.take j).filter p) x [.int .u64 x] (fun _ => True) (fun _ => False) rfl rfl ?aP (fun _ hk => hk.elim) ?aF ?aO ?aB ?aS ?aL ?_; (case aP => exact rfl); (case aB => exact HB1.out); (case aF => exact fun _ _ => trivial); (case aO => exact HO1.out); (case aS => exact below_size HB1.out); (case aL => have := HL.out; have := HN.out; omega); intro v2 w2 ho2 hb2 hg2 hat2; clear hg2 hat2; have HO2 := Aside0.mk ho2; have HB2 := Aside0.mk hb2; clear ho2 hb2))
        go_roundg (l0.length - (j + 1))
        case measure => omega
        case rel => exact ⟨j + 1, by rw [hj1], by omega, Nat.le_refl _, ⟨HB2.out⟩, ⟨HM.out ▸ HO2.out⟩⟩
    · obtain rfl : j = l0.length := by omega
      have hO := HO.out
      rw [List.take_length] at hO
      have HO1 := Aside0.mk hO
      clear hO HO
      go_wp2
      go_ret
      exact ⟨_, rfl, HO1.out, HB.out⟩
theorem lsns_Raise_raise_clo_calls (bx : Nat) (x y : Int) (W : World) (hx : W.cell? ⟨bx, 0, none⟩ = some (.int .u64 x)) :
    Calls Try.prog 58 (#[.int .u64 y] ++ #[.pointer (some ⟨bx, 0, none⟩)]) W fun e w' => e = .returned (.bool (decide (y > x))) ∧ Below W.heap.size W w' := by
  go_enter Try.func58, Try.ntmps58
  go_wp2
  go_ret
  exact ⟨by first | rfl | simp, Below.refl _ _⟩
def lsns_Raise.f (k : Nat) (a0_0 : Int) (l0_1 : List Int) (a1 : Int) : Option (Int × List Int × Int) :=
  (lsns_Right.f k a0_0 l0_1).bind fun b => if b = true then (if l0_1.length < 17592186044416 then some (mx a1 a0_0, l0_1.filter (fun x => decide (x > mx a1 a0_0)), 0) else none) else some (0, [], 40)
theorem lsns_Raise.mono : ∀ a0 a1 a2 k, LeO (lsns_Raise.f k a0 a1 a2) (lsns_Raise.f (k + 1) a0 a1 a2) := by
  intro a0 a1 a2 k
  exact LeO.bind (lsns_Right.mono _ _ _) (fun _ => LeO.refl _)
def lsns_Raise.T4 : Bool × List (List Nat × List Nat) := (true, [([], []), ([], []), ([1], [1]), ([], []), ([2, 3], [2, 3]), ([0, 4], [0, 4]), ([5, 4, 0, 1, 2, 3, 4, 5], [5]), ([6, 0, 1, 2, 3, 4, 5, 6], [])])
def lsns_Raise.B4 : List Nat := [0, 0, 2, 0, 14, 31, 63, 127]
theorem lsns_Raise.tab4 : rtab .any (opsOf Try.f42 4) = lsns_Raise.T4 := by kernel_rfl
theorem lsns_Raise.bits4 : waitsOk lsns_Raise.T4.2 lsns_Raise.B4 = true := by kernel_rfl
set_option maxHeartbeats 4000000 in
set_option maxRecDepth 100000 in
theorem lsns_Raise.calls (k : Nat) (a0_0 : Int) (A0_1 : Option Addr) (c0_1 : Nat) (l0_1 : List Int) (a1 : Int) (r1 : Int) (r2 : List Int) (r3 : Int) (w : World) (hr0_1 : Kd.C (Kd.int .u64) w A0_1 l0_1.length l0_1) (hc0_1 : l0_1.length ≤ c0_1) (h : lsns_Raise.f k a0_0 l0_1 a1 = some (r1, r2, r3)) :
    Calls Try.prog 42 #[.agg #[.int .u64 a0_0, .slice A0_1 l0_1.length c0_1], .int .u64 a1] w fun e w' => ∃ v1_ : Value, e = .returned (.tuple #[.agg #[.int .u64 r1, v1_], .int .i64 r3]) ∧ Kd.R (Kd.int .u64) 22 w' w.heap.size (fun _ => True) v1_ r2 ∧ Below w.heap.size w w' := by

  obtain ⟨b, hb, h⟩ := Option.bind_eq_some_iff.1 h
  have hu25 := Try.underlying25
  have HR := Aside0.mk hr0_1
  have HRight := Aside0.mk hb
  clear hr0_1 hb
  obtain ⟨W0, hW0⟩ : ∃ W0, W0 = ((w.alloc (.cells #[.int .u64 a0_0, .slice A0_1 l0_1.length c0_1] 25)).alloc (.cells #[.int .u64 a1] 22)).alloc (.cells #[.int .u64 0, .slice none 0 0] 25) := ⟨_, rfl⟩
  have hB0 : Below w.heap.size w W0 := by rw [hW0]; exact below_alloc (below_alloc (below_alloc (Below.refl _ _) _) _) _
  have b2 : W0.heap[w.heap.size]? = some (.cells #[.int .u64 a0_0, .slice A0_1 l0_1.length c0_1] 25 (0, 0)) := by
    rw [hW0]; exact blk_alloc (blk_alloc (blk_new w _) _) _
  have b3 : W0.heap[w.heap.size + 1]? = some (.cells #[.int .u64 a1] 22 (0, 0)) := by
    have hb := blk_new (w.alloc (.cells #[.int .u64 a0_0, .slice A0_1 l0_1.length c0_1] 25)) (.cells #[.int .u64 a1] 22)
    rw [World.size_alloc] at hb
    rw [hW0]; exact blk_alloc hb _
  have b4 : W0.heap[w.heap.size + 1 + 1]? = some (.cells #[.int .u64 0, .slice none 0 0] 25 (0, 0)) := by
    have hb := blk_new ((w.alloc (.cells #[.int .u64 a0_0, .slice A0_1 l0_1.length c0_1] 25)).alloc (.cells #[.int .u64 a1] 22)) (.cells #[.int .u64 0, .slice none 0 0] 25)
    rw [World.size_alloc, World.size_alloc] at hb
    rw [hW0]; exact hb
  have hc := lsns_Right.calls k a0_0 A0_1 c0_1 l0_1 b W0 (Kd.C_below HR.out hB0) hc0_1 HRight.out
  have HB0 := Aside0.mk hB0
  have B2 := Aside0.mk b2
  have B3 := Aside0.mk b3
  have B4 := Aside0.mk b4
  clear b2 b3 b4 hB0
  cases b
  · rw [if_neg (by simp)] at h
    simp only [Option.some.injEq, Prod.mk.injEq] at h
    obtain ⟨rfl, rfl, rfl⟩ := h
    go_enter Try.func42, Try.ntmps42
    go_wp2_with (go_at_call 31; rw [← hW0]; refine hc.mono ?_; rintro e w1 ⟨rfl, hb⟩; have HB1 := Aside0.mk (below_step HB0.out hb); have C4 := Aside0.mk (blk_below B4.out hb); clear hb; have hz0 := (blk_cell C4.out 0).trans rfl; have hz1 := (blk_cell C4.out 1).trans rfl; have hf0 := blk_frozen C4.out 0; have hf1 := blk_frozen C4.out 1)
    refine bodyPost_ret (results_ct rfl _ _ (w.heap.size + 1 + 1) 25 #[.int .u64 0, .slice none 0 0] (0, 0) _ rfl (by refine blk_put (cs := #[.int .u64 0, .slice none 0 0]) ?_ 1 _ rfl; refine blk_put (cs := #[.int .u64 0, .slice none 0 0]) ?_ 0 _ rfl; exact C4.out) Try.underlying25 rfl (by kernel_rfl)) rfl ?_
    exact ⟨_, rfl, Kd.R_nil _ _ _ _ _, below_set (below_set HB1.out (by show w.heap.size ≤ w.heap.size + 1 + 1; omega)) (by show w.heap.size ≤ w.heap.size + 1 + 1; omega)⟩
  · by_cases hl : l0_1.length < 17592186044416
    · rw [if_pos rfl, if_pos hl] at h
      simp only [Option.some.injEq, Prod.mk.injEq] at h
      obtain ⟨rfl, rfl, rfl⟩ := h
      have HL := Aside0.mk hl
      clear hl
      obtain ⟨m, hm⟩ : ∃ m, (if a1 < a0_0 then a0_0 else a1) = m := ⟨_, rfl⟩
      rw [show mx a1 a0_0 = m from hm]
      go_enter Try.func42, Try.ntmps42
      go_wp2_with (go_at_call 31; rw [← hW0]; refine hc.mono ?_; rintro e w1 ⟨rfl, hb⟩; have HB1 := Aside0.mk (below_step HB0.out hb); have C2 := Aside0.mk (blk_below B2.out hb); have C3 := Aside0.mk (blk_below B3.out hb); have C4 := Aside0.mk (blk_below B4.out hb); clear hb; have hz3 := (blk_cell C3.out 0).trans rfl; have hf3 := blk_frozen C3.out 0; have hz2 := (blk_cell C2.out 0).trans rfl; have hy2 := (blk_cell C2.out 1).trans rfl)
      have D2 : Aside0 (((w1.setCell ⟨w.heap.size + 1, 0, none⟩ (.int .u64 m)).drew).heap[w.heap.size]? = some (.cells #[.int .u64 a0_0, .slice A0_1 l0_1.length c0_1] 25 (0, 0))) := ⟨blk_drew (blk_far C2.out (p := ⟨w.heap.size + 1, 0, none⟩) (by show w.heap.size ≠ w.heap.size + 1; omega) _)⟩
      have D3 : Aside0 (((w1.setCell ⟨w.heap.size + 1, 0, none⟩ (.int .u64 m)).drew).heap[w.heap.size + 1]? = some (.cells #[.int .u64 m] 22 (0, 0))) := ⟨blk_drew ((blk_set C3.out 0 _).trans rfl)⟩
      have D4 : Aside0 (((w1.setCell ⟨w.heap.size + 1, 0, none⟩ (.int .u64 m)).drew).heap[w.heap.size + 1 + 1]? = some (.cells #[.int .u64 0, .slice none 0 0] 25 (0, 0))) := ⟨blk_drew (blk_far C4.out (p := ⟨w.heap.size + 1, 0, none⟩) (by show w.heap.size + 1 + 1 ≠ w.heap.size + 1; omega) _)⟩
      have HD := Aside0.mk (below_drew1 (below_set (g := w.heap.size + 1) (j := 0) (v := .int .u64 m) HB1.out (by omega)))
      clear hc hz3 hf3 hz2 hy2 B2 B3 B4 C2 C3 C4 HB1 HB0 hm
      refine start_ (n := 8) (S := fun w' => w'.cell? ⟨w.heap.size + 1, 0, none⟩ = some (.int .u64 m) ∧ w'.cell? ⟨w.heap.size, 1, none⟩ = some (.slice A0_1 l0_1.length c0_1)) (ds := []) #[false, false, false, false, false, false, false, false] (by kernel_rfl) rfl rfl ⟨(blk_cell D3.out 0).trans rfl, (blk_cell D2.out 1).trans rfl⟩ (fun hHeld => ?_)
      refine with_tabW lsns_Raise.tab4 lsns_Raise.bits4 (fun HT_ HW_ => ?_)
      generalize ((w1.setCell ⟨w.heap.size + 1, 0, none⟩ (.int .u64 m)).drew) = w5 at D2 D3 D4 HD hHeld ⊢
      (refine pure_ (i := 1) (N := some 15) (v := ?_) (a' := ?_) #[false, true, false, false, false, false, false, false] rfl rfl (any_of HT_.out (by kernel_rfl)) (fun _ _ _ h => h) (Or.inl ⟨by rfl, ?_⟩) ?_ ?_); (rotate_left)
      · (intro w'); (go_simp); (with_reducible rfl)
      rotate_left
      · (simp only [sA]); (rfl)
      (refine pure_ (i := 3) (N := some 17) (v := ?_) (a' := ?_) #[false, true, false, true, false, false, false, false] rfl rfl (any_of HT_.out (by kernel_rfl)) (fun _ _ _ h => h) (Or.inl ⟨by rfl, ?_⟩) ?_ ?_); (rotate_left)
      · (intro w'); (go_simp); (with_reducible rfl)
      rotate_left
      · (simp only [sA]); (rfl)
      (refine take_ (i := 0) (N := some 14) (v := ?_) (a' := ?_) #[true, true, false, true, false, false, false, false] rfl rfl (take_ofW HT_.out HW_.out (by kernel_rfl)) (fun _ _ _ h => h) (Or.inl ⟨by rfl, ?_⟩) hHeld ?_ ?_); (rotate_left)
      · (rintro w' ⟨s0, s1⟩); (go_simp); (with_reducible rfl)
      rotate_left
      · (simp only [sA]); (rfl)
      (refine take_ (i := 2) (N := some 16) (v := ?_) (a' := ?_) (bv 4 4) rfl rfl (take_ofW HT_.out HW_.out (by kernel_rfl)) (fun _ _ _ h => h) (Or.inl ⟨by rfl, ?_⟩) hHeld ?_ ?_); (rotate_left)
      · (rintro w' ⟨s0, s1⟩); (go_simp); (with_reducible rfl)
      rotate_left
      · (simp only [sA]); (rfl)
      (refine one_ (i := 4) (N := some 18) (bv 5 3) rfl rfl (one_of HT_.out (by kernel_rfl)) (by decide) (fun K hK => ?_))
      refine goes_ Try.func57 (by kernel_rfl) rfl #[.slice A0_1 l0_1.length c0_1, .func (.func 58) #[] #[.pointer (some ⟨w.heap.size + 1, 0, none⟩)]] (by rfl) rfl rfl (by (try simp only [List.map_toArray, List.map_cons, List.map_nil]); first | done | rfl | (simp only [*]; rfl)) ?_
      refine (lsns_Raise_kept_calls 58 #[.pointer (some ⟨w.heap.size + 1, 0, none⟩)] A0_1 c0_1 l0_1 (fun x => decide (x > m)) w5 (enters_of Try.func58 (by kernel_rfl) rfl) HL.out (Kd.C_below HR.out HD.out) (fun W x hB => lsns_Raise_raise_clo_calls (w.heap.size + 1) m x W (pw_cell_below hB ((blk_cell D3.out 0).trans rfl)))).mono ?_
      rintro e w6 ⟨v6, rfl, ho, hb⟩
      refine ⟨_, rfl, ?_⟩
      have E2 := Aside0.mk (blk_below D2.out hb)
      have E3 := Aside0.mk (blk_below D3.out hb)
      have E4 := Aside0.mk (blk_below D4.out hb)
      have HE := Aside0.mk (below_step HD.out hb)
      obtain ⟨ys, hys⟩ : ∃ ys, ys = l0_1.filter (fun x => decide (x > m)) := ⟨_, rfl⟩
      rw [← hys] at ho
      have HY := Aside0.mk hys
      clear hys
      have HO := Aside0.mk (Kd.R_lower ho (below_size HD.out))
      clear ho hb D2 D3 D4 HD
      obtain ⟨Ao, co, eo⟩ := Kd.R_slice HO.out
      subst eo
      refine hK.out _ _ ⟨(blk_cell E3.out 0).trans rfl, (blk_cell E2.out 1).trans rfl⟩ (fun hHeld => ?_)
      clear hK K
      (refine norm_ (a' := ?_) ?_ ?_); (rotate_left)
      · (show Act.put _ (some 18) _ = _); (simp only [sA]); (rfl)
      (refine pure_ (i := 5) (N := some 19) (v := ?_) (a' := ?_) (bv 6 2) rfl rfl (any_of HT_.out (by kernel_rfl)) (fun _ _ _ h => h) (Or.inl ⟨by rfl, ?_⟩) ?_ ?_); (rotate_left)
      · (intro w'); (go_simp); (with_reducible rfl)
      rotate_left
      · (simp only [sA]); (rfl)
      (refine one_ (i := 6) (N := none) (bv 7 1) rfl rfl (one_of HT_.out (by kernel_rfl)) (by decide) (fun K hK => ?_))
      have hs18 : w6.cell? ⟨w.heap.size + 1 + 1, 0, none⟩ = some (.int .u64 0) := (blk_cell E4.out 0).trans rfl
      have hfs18 := blk_frozen E4.out 0
      have hs19 : w6.cell? ⟨w.heap.size + 1 + 1, 1, none⟩ = some (.slice none 0 0) := (blk_cell E4.out 1).trans rfl
      have hfs19 := blk_frozen E4.out 1
      (refine skip_ (w1 := ?_) (by rfl) rfl ?_ ?_); (rotate_left)
      · (go_simp); (rfl)
      (refine hK.out _ _ ⟨((cell_far (p := ⟨w.heap.size + 1 + 1, _, none⟩) (by show w.heap.size + 1 ≠ w.heap.size + 1 + 1; omega) _).trans (((cell_far (p := ⟨w.heap.size + 1 + 1, _, none⟩) (by show w.heap.size + 1 ≠ w.heap.size + 1 + 1; omega) _).trans (hHeld.1)))), ((cell_far (p := ⟨w.heap.size + 1 + 1, _, none⟩) (by show w.heap.size ≠ w.heap.size + 1 + 1; omega) _).trans (((cell_far (p := ⟨w.heap.size + 1 + 1, _, none⟩) (by show w.heap.size ≠ w.heap.size + 1 + 1; omega) _).trans (hHeld.2))))⟩ (fun hHeld => ?_)); (clear hK K); (refine pure_ (i := 7) (N := some 5) (v := ?_) (a' := ?_) (bv 8 0) rfl rfl (any_of HT_.out (by kernel_rfl)) (fun _ _ _ h => h) (Or.inl ⟨by rfl, ?_⟩) ?_ ?_); (rotate_left)
      · (intro w'); (go_simp); (with_reducible rfl)
      rotate_left
      · (simp only [sA]); (rfl)
      (refine done_ (done_of HT_.out (by kernel_rfl)) ?_); (try go_wp2)
      refine bodyPost_ret (results_ct rfl _ _ (w.heap.size + 1 + 1) 25 #[.int .u64 m, .slice Ao ys.length co] (0, 0) _ rfl (by refine blk_put (cs := #[.int .u64 m, .slice none 0 0]) ?_ 1 _ rfl; refine blk_put (cs := #[.int .u64 0, .slice none 0 0]) ?_ 0 _ rfl; exact E4.out) Try.underlying25 rfl (by kernel_rfl)) rfl ?_
      exact ⟨_, rfl, HY.out ▸ Kd.R_mono (Kd.R_far (p := ⟨w.heap.size + 1 + 1, 1, none⟩) (Kd.R_far (p := ⟨w.heap.size + 1 + 1, 0, none⟩) (Kd.R_types HO.out E4.out (by decide)) (fun _ hk => hk.2) (.int .u64 m)) (fun _ hk => hk.2) (.slice Ao ys.length co)) (fun _ hk => trivial), below_set (below_set HE.out (by omega)) (by omega)⟩
    · rw [if_pos rfl, if_neg hl] at h; cases h

/-! ### merge_set_raised: function 19 -/
def merge_set_raised.f (k : Nat) (a0_0 : Int) (l0_1 : List Int) (a1 : Int) : Option (Int × List Int) := (lsns_Raise.f k a0_0 l0_1 a1).bind fun bt169 => (some (bt169.1, bt169.2.1))
theorem merge_set_raised.mono : ∀ a0 a1 a2 k, LeO (merge_set_raised.f k a0 a1 a2) (merge_set_raised.f (k + 1) a0 a1 a2) := by
  intro a0 a1 a2 k
  unfold merge_set_raised.f
  repeat' first
      | (with_reducible exact lsns_Raise.mono _ _ _ _)
      | (with_reducible exact LeO.refl _)
      | (with_reducible exact LeO.none _)
      | (with_reducible refine LeO.ite ?_ ?_)
      | (with_reducible refine LeO.bind ?_ (fun _ => ?_))
      | exact lsns_Raise.mono _ _ _ _
      | exact LeO.none _
      | refine LeO.ite ?_ ?_
      | refine LeO.bind ?_ (fun _ => ?_)
set_option maxHeartbeats 8000000 in
set_option maxRecDepth 100000 in
theorem merge_set_raised.calls (k : Nat) (a0_0 : Int) (A0_1 : Option Addr) (c0_1 : Nat) (l0_1 : List Int) (a1 : Int) (r1 : Int) (r2 : List Int) (w : World) (hr0_1 : Kd.C (Kd.int .u64) w A0_1 l0_1.length l0_1) (hc0_1 : l0_1.length ≤ c0_1) (h : merge_set_raised.f k a0_0 l0_1 a1 = some (r1, r2)) :
    Calls Try.prog 19 #[.agg #[.int .u64 a0_0, .slice A0_1 l0_1.length c0_1], .int .u64 a1] w fun e w' => ∃ v1_ : Value, e = .returned (.agg #[.int .u64 r1, v1_]) ∧ Kd.R (Kd.int .u64) 22 w' w.heap.size (fun _ => True) v1_ r2 ∧ Below w.heap.size w w' := by
  (have hu52 := Try.underlying52); (have hu25 := Try.underlying25); (have HR0_1 := Aside0.mk hr0_1); (have HC0_1 := Aside0.mk hc0_1); (clear hr0_1 hc0_1); (have HB := Aside0.mk (Below.refl w.heap.size w)); (have H : ((lsns_Raise.f k a0_0 l0_1 a1).bind fun bt169 => (some (bt169.1, bt169.2.1))) = some (r1, r2) := h); (clear h); (replace H := Option.bind_eq_some_iff.mp H); (obtain ⟨⟨t169, t170, t173⟩, A30, H⟩ := H); (replace H : (some (t169, t170)) = some (r1, r2) := H); (have A3 := Aside0.mk A30); (clear A30); (simp only [Option.some.injEq, Prod.mk.injEq] at H); (obtain ⟨rfl, rfl⟩ := H); (go_enter Try.func19, Try.ntmps19); (go_wp2_with (first | ((with_reducible refine gate_dst (N := 2) rfl ?_); refine box_event ?hg (N := 2) ?hd (cs := #[.int .u64 a0_0, .slice A0_1 l0_1.length c0_1]) (t := 52) ?hr ?_; (case hd => rfl); (case hg => rfl); (case hr => first | (go_simp; done) | (go_simp; rfl)); intro gb167 hg w4 hbox hb; have BK167 := Aside0.mk (hbox); have GW167 := Aside0.mk ((by rw [hg]; exact (below_size (mvW HB.out)) : w.heap.size ≤ gb167)); have GE167 := Aside0.mk ((by rw [hg]; exact (below_size (mvW HB.out)) : w.heap.size ≤ gb167)); replace HB := Aside0.mk (below_step (mvW HB.out) hb); clear hb hbox hg) | ((with_reducible refine gate_dst (N := 4) rfl ?_); refine box_event ?hg (N := 4) ?hd (cs := #[.int .u64 0, .slice none 0 0]) (t := 25) ?hr ?_; (case hd => rfl); (case hg => rfl); (case hr => first | (go_simp; done) | (go_simp; rfl)); intro gb168 hg w5 hbox hb; have BK168 := Aside0.mk (hbox); have GW168 := Aside0.mk ((by rw [hg]; exact (below_size (mvW HB.out)) : w.heap.size ≤ gb168)); have GE168 := Aside0.mk ((by rw [hg]; exact (below_size (mvW HB.out)) : w.heap.size ≤ gb168)); replace HB := Aside0.mk (below_step (mvW HB.out) hb); have NB167_168 := Aside0.mk ((by rw [hg]; exact Nat.ne_of_lt (blk_lt (mvB BK167.out)) : gb167 ≠ gb168)); have NB168_167 := Aside0.mk ((by rw [hg]; exact Nat.ne_of_gt (blk_lt (mvB BK167.out)) : gb168 ≠ gb167)); replace BK167 := Aside0.mk (blk_below (mvB BK167.out) hb); clear hb hbox hg; have hnb6 := NB167_168.out; have hnc6 := NB168_167.out; obtain ⟨Z7_0, Z7_1⟩ := bc2 BK167.out; obtain ⟨Y7_0, Y7_1⟩ := bf2 BK167.out) | ((with_reducible refine gate_callee (f := 42) rfl ?_); refine goesL_ (some 10) rfl rfl Try.func42 (by kernel_rfl) rfl #[.agg #[.int .u64 a0_0, .slice A0_1 l0_1.length c0_1], .int .u64 a1] rfl (by (try simp only [List.map_toArray, List.map_cons, List.map_nil]); first | done | rfl | (simp only [List.length_drop, List.length_take]; rfl) | (simp only [*]; rfl)) ?_; (with_reducible refine (lsns_Raise.calls k a0_0 _ _ l0_1 a1 t169 t170 t173 _ ?side1 ?side2 A3.out).mono ?_); (case side1 => repeat (first | exact (Kd.C_below HR0_1.out HB.out) | (with_reducible refine Kd.C_alloc ?_ _) | (with_reducible refine Kd.C_drewN ?_ _) | (with_reducible refine Kd.C_drew ?_))); (case side2 => exact HC0_1.out); rintro e w8 ⟨v171, rfl, ho0, hb⟩; refine ⟨_, rfl, ?_⟩; have HO172 := Aside0.mk (Kd.R_lower ho0 (below_size (mvW HB.out))); replace BK167 := Aside0.mk (blk_below (mvB BK167.out) hb); replace BK168 := Aside0.mk (blk_below (mvB BK168.out) hb); replace HB := Aside0.mk (below_step (mvW HB.out) hb); (try clear hb); (try clear hb2); (try clear hk); (try clear hi); (try clear ho0)) | ((with_reducible refine gate_dst (N := 5) rfl ?_); refine box_event ?hg (N := 5) ?hd (cs := #[.int .u64 0, .slice none 0 0]) (t := 25) ?hr ?_; (case hd => rfl); (case hg => rfl); (case hr => first | (go_simp; done) | (go_simp; rfl)); intro gb174 hg w9 hbox hb; replace HO172 := Aside0.mk (Kd.R_below (mvR HO172.out) hb); have BK174 := Aside0.mk (hbox); have GW174 := Aside0.mk ((by rw [hg]; exact (below_size (mvW HB.out)) : w.heap.size ≤ gb174)); have GE174 := Aside0.mk ((by rw [hg]; exact (below_size (mvW HB.out)) : w.heap.size ≤ gb174)); replace HB := Aside0.mk (below_step (mvW HB.out) hb); have NB167_174 := Aside0.mk ((by rw [hg]; exact Nat.ne_of_lt (blk_lt (mvB BK167.out)) : gb167 ≠ gb174)); have NB174_167 := Aside0.mk ((by rw [hg]; exact Nat.ne_of_gt (blk_lt (mvB BK167.out)) : gb174 ≠ gb167)); replace BK167 := Aside0.mk (blk_below (mvB BK167.out) hb); have NB168_174 := Aside0.mk ((by rw [hg]; exact Nat.ne_of_lt (blk_lt (mvB BK168.out)) : gb168 ≠ gb174)); have NB174_168 := Aside0.mk ((by rw [hg]; exact Nat.ne_of_gt (blk_lt (mvB BK168.out)) : gb174 ≠ gb168)); replace BK168 := Aside0.mk (blk_below (mvB BK168.out) hb); clear hb hbox hg; have hnb10 := NB174_167.out; have hnc10 := NB167_174.out; have hnb11 := NB174_168.out; have hnc11 := NB168_174.out; obtain ⟨Z12_0, Z12_1⟩ := bc2 BK174.out; obtain ⟨Y12_0, Y12_1⟩ := bf2 BK174.out; obtain ⟨Ao13, co13, eo13⟩ := Kd.R_slice HO172.out; subst eo13; obtain ⟨Z14_0, Z14_1⟩ := bc2 BK168.out; obtain ⟨Y14_0, Y14_1⟩ := bf2 BK168.out))); (refine bodyPost_ret (results_cell_row rfl _ _ gb168 25 #[.int .u64 t169, .slice Ao13 t170.length co13] (0, 0) _ rfl (by (with_reducible repeat (first | refine blk_drewN ?_ _ | refine blk_drew ?_ | refine blk_alloc ?_ _)); refine blk_put (cs := #[.int .u64 t169, .slice none 0 0]) ?_ 1 _ rfl; (with_reducible repeat (first | refine blk_drewN ?_ _ | refine blk_drew ?_ | refine blk_alloc ?_ _)); refine blk_put (cs := #[.int .u64 0, .slice none 0 0]) ?_ 0 _ rfl; (with_reducible repeat (first | refine blk_drewN ?_ _ | refine blk_drew ?_ | refine blk_alloc ?_ _)); refine blk_far ?_ NB168_174.out _; (with_reducible repeat (first | refine blk_drewN ?_ _ | refine blk_drew ?_ | refine blk_alloc ?_ _)); refine blk_far ?_ NB168_174.out _; (with_reducible repeat (first | refine blk_drewN ?_ _ | refine blk_drew ?_ | refine blk_alloc ?_ _)); exact BK168.out) Try.underlying25 rfl (by kernel_rfl)) rfl ?_); (exact ⟨_, by first | rfl | (simp [errW_none, errW_some] <;> rfl) | (simp [*, errW_none, errW_some] <;> rfl), by (with_reducible repeat (first | apply Kd.R_alloc | apply Kd.R_drewN | apply Kd.R_drew)); exact Kd.R_mono (Kd.R_far (p := ⟨gb168, 1, none⟩) (Kd.R_far (p := ⟨gb168, 0, none⟩) (Kd.R_far (p := ⟨gb174, 1, none⟩) (Kd.R_far (p := ⟨gb174, 0, none⟩) (Kd.R_types (Kd.R_types HO172.out BK174.out (by decide)) BK168.out (by decide)) (fun _ hk => hk.1.2) (.int .u64 t169)) (fun _ hk => hk.1.2) (.slice Ao13 t170.length co13)) (fun _ hk => hk.2) (.int .u64 t169)) (fun _ hk => hk.2) (.slice Ao13 t170.length co13)) (fun _ hk => trivial), by repeat (first | (with_reducible first | exact HB.out | apply below_alloc | apply pw_below_drewN | apply below_drew1 | refine below_set ?_ GE167.out | refine below_set ?_ GE168.out | refine below_set ?_ GE174.out) | exact HB.out)⟩)

/-! ### lsns_Join: function 20 -/
def lsns_Join_l (l m : List Int) : List Int := Go.Lib.compact (sortL (l ++ m))
/-- Join, whole: both are right, the lows are one: both rows, one behind the other, sorted, each number once. -/
def lsns_Join.f (k : Nat) (a0_0 : Int) (l0_1 : List Int) (a1_0 : Int) (l1_1 : List Int) : Option (Int × List Int × Int) :=
  (lsns_Right.f k a0_0 l0_1).bind fun b => (lsns_Right.f k a1_0 l1_1).bind fun c => if b = true ∧ c = true then
    (if a0_0 = a1_0 then (if l0_1.length + l1_1.length < 17592186044416 then (if 1000 < (lsns_Join_l l0_1 l1_1).length then some (0, [], 6) else some (a0_0, lsns_Join_l l0_1 l1_1, 0)) else none) else some (0, [], 9)) else some (0, [], 40)
theorem lsns_Join.mono : ∀ a0 a1 a2 a3 k, LeO (lsns_Join.f k a0 a1 a2 a3) (lsns_Join.f (k + 1) a0 a1 a2 a3) := by
  intro a0 a1 a2 a3 k
  exact LeO.bind (lsns_Right.mono _ _ _) (fun _ => LeO.bind (lsns_Right.mono _ _ _) (fun _ => LeO.refl _))
set_option maxHeartbeats 4000000 in
set_option maxRecDepth 100000 in
theorem lsns_Join.calls (k : Nat) (a0_0 : Int) (A0_1 : Option Addr) (c0_1 : Nat) (l0_1 : List Int) (a1_0 : Int) (A1_1 : Option Addr) (c1_1 : Nat) (l1_1 : List Int) (r1 : Int) (r2 : List Int) (r3 : Int) (w : World) (hr0_1 : Kd.C (Kd.int .u64) w A0_1 l0_1.length l0_1) (hc0_1 : l0_1.length ≤ c0_1) (hr1_1 : Kd.C (Kd.int .u64) w A1_1 l1_1.length l1_1) (hc1_1 : l1_1.length ≤ c1_1) (h : lsns_Join.f k a0_0 l0_1 a1_0 l1_1 = some (r1, r2, r3)) :
    Calls Try.prog 20 #[.agg #[.int .u64 a0_0, .slice A0_1 l0_1.length c0_1], .agg #[.int .u64 a1_0, .slice A1_1 l1_1.length c1_1]] w fun e w' => ∃ v1_ : Value, e = .returned (.tuple #[.agg #[.int .u64 r1, v1_], .int .i64 r3]) ∧ Kd.R (Kd.int .u64) 22 w' w.heap.size (fun _ => True) v1_ r2 ∧ Below w.heap.size w w' := by
  obtain ⟨b, hb, h⟩ := Option.bind_eq_some_iff.1 h
  obtain ⟨c, hc, h⟩ := Option.bind_eq_some_iff.1 h
  have hu25 := Try.underlying25
  have HR := Aside0.mk hr0_1
  have HR2 := Aside0.mk hr1_1
  have HRight := Aside0.mk hb
  have HRight2 := Aside0.mk hc
  clear hr0_1 hb hr1_1 hc
  obtain ⟨W0, hW0⟩ : ∃ W0, W0 = ((w.alloc (.cells #[.int .u64 a0_0, .slice A0_1 l0_1.length c0_1] 25)).alloc (.cells #[.int .u64 a1_0, .slice A1_1 l1_1.length c1_1] 25)).alloc (.cells #[.int .u64 0, .slice none 0 0] 25) := ⟨_, rfl⟩
  have hB0 : Below w.heap.size w W0 := by rw [hW0]; exact below_alloc (below_alloc (below_alloc (Below.refl _ _) _) _) _
  have b2 : W0.heap[w.heap.size]? = some (.cells #[.int .u64 a0_0, .slice A0_1 l0_1.length c0_1] 25 (0, 0)) := by
    rw [hW0]; exact blk_alloc (blk_alloc (blk_new w _) _) _
  have b3 : W0.heap[w.heap.size + 1]? = some (.cells #[.int .u64 a1_0, .slice A1_1 l1_1.length c1_1] 25 (0, 0)) := by
    have hb := blk_new (w.alloc (.cells #[.int .u64 a0_0, .slice A0_1 l0_1.length c0_1] 25)) (.cells #[.int .u64 a1_0, .slice A1_1 l1_1.length c1_1] 25)
    rw [World.size_alloc] at hb
    rw [hW0]; exact blk_alloc hb _
  have b4 : W0.heap[w.heap.size + 1 + 1]? = some (.cells #[.int .u64 0, .slice none 0 0] 25 (0, 0)) := by
    have hb := blk_new ((w.alloc (.cells #[.int .u64 a0_0, .slice A0_1 l0_1.length c0_1] 25)).alloc (.cells #[.int .u64 a1_0, .slice A1_1 l1_1.length c1_1] 25)) (.cells #[.int .u64 0, .slice none 0 0] 25)
    rw [World.size_alloc, World.size_alloc] at hb
    rw [hW0]; exact hb
  have hs0 : W0.heap.size = w.heap.size + 1 + 1 + 1 := by rw [hW0, World.size_alloc, World.size_alloc, World.size_alloc]
  have HS0 := Aside0.mk hs0
  have hc1 := lsns_Right.calls k a0_0 A0_1 c0_1 l0_1 b W0 (Kd.C_below HR.out hB0) hc0_1 HRight.out
  have HB0 := Aside0.mk hB0
  have hc2 := fun (w1 : World) (hb : Below W0.heap.size W0 w1) => lsns_Right.calls k a1_0 A1_1 c1_1 l1_1 c w1 (Kd.C_below HR2.out (below_step HB0.out hb)) hc1_1 HRight2.out
  have HC2 := Aside0.mk hc2
  have B2 := Aside0.mk b2
  have B3 := Aside0.mk b3
  have B4 := Aside0.mk b4
  clear b2 b3 b4 hB0 hc2 hs0
  cases b
  · rw [if_neg (by simp)] at h
    simp only [Option.some.injEq, Prod.mk.injEq] at h
    obtain ⟨rfl, rfl, rfl⟩ := h
    go_enter Try.func20, Try.ntmps20
    go_wp2_with (go_at_call 31; rw [← hW0]; refine hc1.mono ?_; rintro e w1 ⟨rfl, hb⟩; have HB1 := Aside0.mk (below_step HB0.out hb); have D4 := Aside0.mk (blk_below B4.out hb); clear hb; have hz0 := (blk_cell D4.out 0).trans rfl; have hz1 := (blk_cell D4.out 1).trans rfl; have hf0 := blk_frozen D4.out 0; have hf1 := blk_frozen D4.out 1)
    refine bodyPost_ret (results_ct rfl _ _ (w.heap.size + 1 + 1) 25 #[.int .u64 0, .slice none 0 0] (0, 0) _ rfl (by refine blk_put (cs := #[.int .u64 0, .slice none 0 0]) ?_ 1 _ rfl; refine blk_put (cs := #[.int .u64 0, .slice none 0 0]) ?_ 0 _ rfl; exact D4.out) Try.underlying25 rfl (by kernel_rfl)) rfl ?_
    exact ⟨_, rfl, Kd.R_nil _ _ _ _ _, below_set (below_set HB1.out (by omega)) (by omega)⟩
  cases c
  · rw [if_neg (by simp)] at h
    simp only [Option.some.injEq, Prod.mk.injEq] at h
    obtain ⟨rfl, rfl, rfl⟩ := h
    go_enter Try.func20, Try.ntmps20
    go_wp2_with (first | (go_at_call 31; rw [← hW0]; refine hc1.mono ?_; rintro e w1 ⟨rfl, hb⟩; have HBX := Aside0.mk hb; have HB1 := Aside0.mk (below_step HB0.out hb); have C3 := Aside0.mk (blk_below B3.out hb); have C4 := Aside0.mk (blk_below B4.out hb); clear hb; have hz3 := (blk_cell C3.out 0).trans rfl; have hy3 := (blk_cell C3.out 1).trans rfl) | (go_at_call 31; refine (HC2.out _ HBX.out).mono ?_; rintro e w2 ⟨rfl, hb⟩; have HB2 := Aside0.mk (below_step HB1.out hb); have D4 := Aside0.mk (blk_below C4.out hb); clear hb; have hz0 := (blk_cell D4.out 0).trans rfl; have hz1 := (blk_cell D4.out 1).trans rfl; have hf0 := blk_frozen D4.out 0; have hf1 := blk_frozen D4.out 1))
    refine bodyPost_ret (results_ct rfl _ _ (w.heap.size + 1 + 1) 25 #[.int .u64 0, .slice none 0 0] (0, 0) _ rfl (by refine blk_put (cs := #[.int .u64 0, .slice none 0 0]) ?_ 1 _ rfl; refine blk_put (cs := #[.int .u64 0, .slice none 0 0]) ?_ 0 _ rfl; exact D4.out) Try.underlying25 rfl (by kernel_rfl)) rfl ?_
    exact ⟨_, rfl, Kd.R_nil _ _ _ _ _, below_set (below_set HB2.out (by omega)) (by omega)⟩
  rw [if_pos ⟨rfl, rfl⟩] at h
  by_cases he : a0_0 = a1_0
  · rw [if_pos he] at h
    by_cases hl : l0_1.length + l1_1.length < 17592186044416
    · rw [if_pos hl] at h
      have heb : (a0_0 != a1_0) = false := by rw [he]; simp
      have HE := Aside0.mk he
      have HL := Aside0.mk hl
      have HF := Aside0.mk h
      clear he hl h
      go_enter Try.func20, Try.ntmps20
      go_wp2_with (first | (go_at_call 31; rw [← hW0]; refine hc1.mono ?_; rintro e w1 ⟨rfl, hb⟩; have HBX := Aside0.mk hb; have HB1 := Aside0.mk (below_step HB0.out hb); have C2 := Aside0.mk (blk_below B2.out hb); have C3 := Aside0.mk (blk_below B3.out hb); have C4 := Aside0.mk (blk_below B4.out hb); clear hb; have hz3 := (blk_cell C3.out 0).trans rfl; have hy3 := (blk_cell C3.out 1).trans rfl; have hz2 := (blk_cell C2.out 0).trans rfl; have hy2 := (blk_cell C2.out 1).trans rfl) | (go_at_call 31; refine (HC2.out _ HBX.out).mono ?_; rintro e w2 ⟨rfl, hb⟩; have HS2 := Aside0.mk (Nat.le_trans (Nat.le_of_eq HS0.out.symm) (Nat.le_trans HBX.out.size hb.size)); have HB2 := Aside0.mk (below_step HB1.out hb); have D2 := Aside0.mk (blk_below C2.out hb); have D3 := Aside0.mk (blk_below C3.out hb); have D4 := Aside0.mk (blk_below C4.out hb); clear hb; have gz3 := (blk_cell D3.out 0).trans rfl; have gy3 := (blk_cell D3.out 1).trans rfl; have gz2 := (blk_cell D2.out 0).trans rfl; have gy2 := (blk_cell D2.out 1).trans rfl) | (go_at_call 43; refine (concatU w2.heap.size A0_1 A1_1 c0_1 c1_1 l0_1 l1_1 _ (blk_new w2 _) (Kd.C_below HR.out (below_alloc HB2.out _)) (Kd.C_below HR2.out (below_alloc HB2.out _)) HL.out).mono ?_; rintro e w3 ⟨v3, rfl, ho3, hb3⟩; have HO3 := Aside0.mk ho3; have HZ3 := Aside0.mk hb3; clear ho3 hb3) | (go_at_call 44; refine (sortU.calls (fun _ => True) v3 (l0_1 ++ l1_1) (sortL (l0_1 ++ l1_1)) _ w3 HZ3.out HO3.out (if_pos (by have := HL.out; rw [List.length_append]; omega))).mono ?_; rintro e w4 ⟨rfl, ho4, hb4, hk4⟩; have HO4 := Aside0.mk ho4; have HZ4 := Aside0.mk hb4; clear ho4 hb4 hk4) | (go_at_call 45; refine (compactU_R (by have := HL.out; rw [sortL_length, List.length_append]; omega) HZ4.out.size HO4.out).mono ?_; rintro e w5 ⟨v5, rfl, ho5, hb5⟩; have HZ5 := Aside0.mk (HZ4.out.trans hb5); obtain ⟨A5, c5, e5⟩ := own_slice ho5; have HO5 := Aside0.mk ho5; clear ho5 hb5; subst e5; have E2 := Aside0.mk (blk_below (blk_alloc D2.out _) HZ5.out); have E3 := Aside0.mk (blk_below (blk_alloc D3.out _) HZ5.out); have E4 := Aside0.mk (blk_below (blk_alloc D4.out _) HZ5.out); have hz0 := (blk_cell E4.out 0).trans rfl; have hz1 := (blk_cell E4.out 1).trans rfl; have hf0 := blk_frozen E4.out 0; have hf1 := blk_frozen E4.out 1; have kz2 := (blk_cell E2.out 0).trans rfl))
      · have hq : 1000 < (lsns_Join_l l0_1 l1_1).length := by unfold lsns_Join_l; omega
        have hF := HF.out
        rw [if_pos hq] at hF
        simp only [Option.some.injEq, Prod.mk.injEq] at hF
        obtain ⟨rfl, rfl, rfl⟩ := hF
        have HB5 := below_step (below_alloc HB2.out _) HZ5.out
        refine bodyPost_ret (results_ct rfl _ _ (w.heap.size + 1 + 1) 25 #[.int .u64 0, .slice none 0 0] (0, 0) _ rfl (by refine blk_put (cs := #[.int .u64 0, .slice none 0 0]) ?_ 1 _ rfl; refine blk_put (cs := #[.int .u64 0, .slice none 0 0]) ?_ 0 _ rfl; exact E4.out) Try.underlying25 rfl (by kernel_rfl)) rfl ?_
        exact ⟨_, rfl, Kd.R_nil _ _ _ _ _, below_set (below_set HB5 (by omega)) (by omega)⟩
      · have hq : ¬ 1000 < (lsns_Join_l l0_1 l1_1).length := by unfold lsns_Join_l; omega
        have hF := HF.out
        rw [if_neg hq] at hF
        simp only [Option.some.injEq, Prod.mk.injEq] at hF
        obtain ⟨rfl, rfl, rfl⟩ := hF
        have HB5 := below_step (below_alloc HB2.out _) HZ5.out
        have hO : Kd.R (Kd.int .u64) 22 ((w5.setCell ⟨w.heap.size + 1 + 1, 0, none⟩ (.int .u64 a0_0)).setCell ⟨w.heap.size + 1 + 1, 1, none⟩ (.slice A5 (Go.Lib.compact (sortL (l0_1 ++ l1_1))).length c5)) w.heap.size (fun _ => True) (.slice A5 (Go.Lib.compact (sortL (l0_1 ++ l1_1))).length c5) (Go.Lib.compact (sortL (l0_1 ++ l1_1))) := by
          rcases own_opened HO5.out with ⟨e1, e2⟩ | ⟨g, cap, cur, e1, _, hb, hg, h1, h2, h3, h4⟩
          · rw [e1, e2]; exact Kd.R_nil _ _ _ _ _
          · rw [World.size_alloc] at hb
            have hs := HS2.out
            rw [e1]
            exact own_closed _ trivial (by omega) (blk_far (blk_far hg (p := ⟨w.heap.size + 1 + 1, 0, none⟩) (by show g ≠ w.heap.size + 1 + 1; omega) _) (p := ⟨w.heap.size + 1 + 1, 1, none⟩) (by show g ≠ w.heap.size + 1 + 1; omega) _) h1 h2 h3 h4
        refine bodyPost_ret (results_ct rfl _ _ (w.heap.size + 1 + 1) 25 #[.int .u64 a0_0, .slice A5 (Go.Lib.compact (sortL (l0_1 ++ l1_1))).length c5] (0, 0) _ rfl (by refine blk_put (cs := #[.int .u64 a0_0, .slice none 0 0]) ?_ 1 _ rfl; refine blk_put (cs := #[.int .u64 0, .slice none 0 0]) ?_ 0 _ rfl; exact E4.out) Try.underlying25 rfl (by kernel_rfl)) rfl ?_
        exact ⟨_, rfl, hO, below_set (below_set HB5 (by omega)) (by omega)⟩
    · rw [if_neg hl] at h
      cases h
  · rw [if_neg he] at h
    simp only [Option.some.injEq, Prod.mk.injEq] at h
    obtain ⟨rfl, rfl, rfl⟩ := h
    have hneb := bne_iff_ne.mpr he
    clear he
    go_enter Try.func20, Try.ntmps20
    go_wp2_with (first | (go_at_call 31; rw [← hW0]; refine hc1.mono ?_; rintro e w1 ⟨rfl, hb⟩; have HBX := Aside0.mk hb; have HB1 := Aside0.mk (below_step HB0.out hb); have C2 := Aside0.mk (blk_below B2.out hb); have C3 := Aside0.mk (blk_below B3.out hb); have C4 := Aside0.mk (blk_below B4.out hb); clear hb; have hz3 := (blk_cell C3.out 0).trans rfl; have hy3 := (blk_cell C3.out 1).trans rfl; have hz2 := (blk_cell C2.out 0).trans rfl; have hy2 := (blk_cell C2.out 1).trans rfl) | (go_at_call 31; refine (HC2.out _ HBX.out).mono ?_; rintro e w2 ⟨rfl, hb⟩; have HB2 := Aside0.mk (below_step HB1.out hb); have D2 := Aside0.mk (blk_below C2.out hb); have D3 := Aside0.mk (blk_below C3.out hb); have D4 := Aside0.mk (blk_below C4.out hb); clear hb; have gz3 := (blk_cell D3.out 0).trans rfl; have gz2 := (blk_cell D2.out 0).trans rfl; have hz0 := (blk_cell D4.out 0).trans rfl; have hz1 := (blk_cell D4.out 1).trans rfl; have hf0 := blk_frozen D4.out 0; have hf1 := blk_frozen D4.out 1))
    refine bodyPost_ret (results_ct rfl _ _ (w.heap.size + 1 + 1) 25 #[.int .u64 0, .slice none 0 0] (0, 0) _ rfl (by refine blk_put (cs := #[.int .u64 0, .slice none 0 0]) ?_ 1 _ rfl; refine blk_put (cs := #[.int .u64 0, .slice none 0 0]) ?_ 0 _ rfl; exact D4.out) Try.underlying25 rfl (by kernel_rfl)) rfl ?_
    exact ⟨_, rfl, Kd.R_nil _ _ _ _ _, below_set (below_set HB2.out (by omega)) (by omega)⟩

/-! ### merge_Join: function 9 -/
theorem blk_new_at {w : World} {o : Obj} {b : Nat} (h : b = w.heap.size) : (w.alloc o).heap[b]? = some o := h ▸ blk_new w o
/-- A call of a function value that is bound to its first arguments, in a plain region. -/
theorem goesF_ {P : Program} {ops : Array Oper} {Q : Exit → Act → World → Prop} {rest : List Oper} {oi : Oper} {a : Act} {w : World} (N : Option Tmp) (hd : oi.dst = N) (hg : oi.guard = none) {f : FuncId} {fn : Func} {as_ : Array Operand} {ts : Array TypeId} {j : Tmp} {first : Array Value} (hf : P.funcs[f]? = some fn) (hname : (fn.name == "runtime.NumGoroutine") = false) (hb : fn.body.isSome = true) (args : Array Value)
    (hop : oi.op = .call { callee := .value (.tmp j), args := as_, argTypes := ts }) (hv : a.eval (.tmp j) = .func (.func f) first #[]) (hargs : first ++ as_.map a.eval = args)
    (h : Calls P f args w fun e w' => ∃ v, e = .returned v ∧ wpList P ops Q rest (a.put N v) w') : wpList P ops Q (oi :: rest) a w := by
  refine wpList_plain hg fun K hK => ?_
  have he := enters_ hf hname hb args w
  have hrun : (execOp a.eval oi).run P w = .ok (.enter f args) w := by
    unfold execOp
    simp [hop, resolve, Deferred.ofValue, invoke, hv, hargs, he]
  unfold Oper.wp
  rw [hrun, Oper.upon_enter]
  refine h.mono fun e w'' hh => ?_
  obtain ⟨v, rfl, hk⟩ := hh
  subst hd
  exact hK _ _ hk
mutual
def merge_Join.j0 : Nat → Int → Int → Bool → Int → Int → Int → ByteArray → ByteArray → Bool → Int → Int → List Int → List (S42) → Int → Int → Int → ByteArray → ByteArray → Bool → Int → Int → List Int → List (S42) → Option (Int × Int × Int × ByteArray × ByteArray × Bool × Int × Int × List Int × (List (S42)) × Int)
  | 0, _, _, _, _, _, _, _, _, _, _, _, _, _, _, _, _, _, _, _, _, _, _, _ => none
  | k + 1, x2, x3, x15, x176000, x176001, x176002, x176003, x176004, x176005, x176006, x176007, x176008, x176009, x177000, x177001, x177002, x177003, x177004, x177005, x177006, x177007, x177008, x177009 => if x15 = true then (some (0, 0, 0, (⟨#[]⟩ : ByteArray), (⟨#[]⟩ : ByteArray), false, 0, 0, ([] : List Int), ([] : List (S42)), 110)) else ((merge_Beside.f k x176000 x176001 x176002 x176003 x176004 x176005 x176006 x176007 x176008 x176009 x177000 x177001 x177002 x177003 x177004 x177005 x177006 x177007 x177008 x177009).bind fun t184 => (if t184 = true then ((slices_Clone_uint64_uint64.f x176008).bind fun t186 => ((api_Cell.f k x176009 x177009).bind fun t189 => (if x176002 > 0 then (some (x176000, x177001, x176002, x176003, x177004, x177005, x3, x176007, t186, t189, 0)) else (if x176007 > x2 then (merge_Join.j1 k x2 true x176000 x176001 x176002 x176003 x176004 x176005 x176006 x176007 x176008 x176009 x177000 x177001 x177002 x177003 x177004 x177005 x177006 x177007 x177008 x177009 x176000 x177001 x176002 x176003 x177004 x177005 x3 x176007 t186 t189) else (merge_Join.j1 k x2 (decide (x177007 > x2)) x176000 x176001 x176002 x176003 x176004 x176005 x176006 x176007 x176008 x176009 x177000 x177001 x177002 x177003 x177004 x177005 x177006 x177007 x177008 x177009 x176000 x177001 x176002 x176003 x177004 x177005 x3 x176007 t186 t189))))) else (some (0, 0, 0, (⟨#[]⟩ : ByteArray), (⟨#[]⟩ : ByteArray), false, 0, 0, ([] : List Int), ([] : List (S42)), 140))))
def merge_Join.j1 : Nat → Int → Bool → Int → Int → Int → ByteArray → ByteArray → Bool → Int → Int → List Int → List (S42) → Int → Int → Int → ByteArray → ByteArray → Bool → Int → Int → List Int → List (S42) → Int → Int → Int → ByteArray → ByteArray → Bool → Int → Int → List Int → List (S42) → Option (Int × Int × Int × ByteArray × ByteArray × Bool × Int × Int × List Int × (List (S42)) × Int)
  | 0, _, _, _, _, _, _, _, _, _, _, _, _, _, _, _, _, _, _, _, _, _, _, _, _, _, _, _, _, _, _, _, _ => none
  | k + 1, x2, x78, x176000, x176001, x176002, x176003, x176004, x176005, x176006, x176007, x176008, x176009, x177000, x177001, x177002, x177003, x177004, x177005, x177006, x177007, x177008, x177009, x186000, x186001, x186002, x186003, x186004, x186005, x186006, x186007, x186008, x186009 => if x78 = true then (some (0, 0, 0, (⟨#[]⟩ : ByteArray), (⟨#[]⟩ : ByteArray), false, 0, 0, ([] : List Int), ([] : List (S42)), 9)) else ((merge_set_raised.f k x176007 x176008 x2).bind fun bt192 => ((merge_set_raised.f k x177007 x177008 x2).bind fun bt196 => ((lsns_Join.f k bt192.1 bt192.2 bt196.1 bt196.2).bind fun bt200 => (if bt200.2.2 = 0 then (some (x186000, x186001, x186002, x186003, x186004, x186005, x186006, bt200.1, bt200.2.1, x186009, 0)) else (some (0, 0, 0, (⟨#[]⟩ : ByteArray), (⟨#[]⟩ : ByteArray), false, 0, 0, ([] : List Int), ([] : List (S42)), bt200.2.2))))))
end
def merge_Join.f (k : Nat) (a0_0 : Int) (a0_1 : Int) (a0_2 : Int) (a0_3 : ByteArray) (a0_4 : ByteArray) (a0_5 : Bool) (a0_6 : Int) (a0_7 : Int) (l0_8 : List Int) (l0_9 : List (S42)) (a1_0 : Int) (a1_1 : Int) (a1_2 : Int) (a1_3 : ByteArray) (a1_4 : ByteArray) (a1_5 : Bool) (a1_6 : Int) (a1_7 : Int) (l1_8 : List Int) (l1_9 : List (S42)) (a2 : Int) (a3 : Int) : Option (Int × Int × Int × ByteArray × ByteArray × Bool × Int × Int × List Int × (List (S42)) × Int) := (page_Check.f k a0_0 a0_1 a0_2 a0_3 a0_4 a0_5 a0_6 a0_7 l0_8 l0_9).bind fun t178 => ((page_Check.f k a1_0 a1_1 a1_2 a1_3 a1_4 a1_5 a1_6 a1_7 l1_8 l1_9).bind fun t179 => ((api_Errno.f k 0 (([t178, t179] : List Int))).bind fun t183 => (if t183 = true then (if a3 > 281474976710656 then (merge_Join.j0 k a2 a3 true a0_0 a0_1 a0_2 a0_3 a0_4 a0_5 a0_6 a0_7 l0_8 l0_9 a1_0 a1_1 a1_2 a1_3 a1_4 a1_5 a1_6 a1_7 l1_8 l1_9) else (merge_Join.j0 k a2 a3 (decide (a2 > 281474976710656)) a0_0 a0_1 a0_2 a0_3 a0_4 a0_5 a0_6 a0_7 l0_8 l0_9 a1_0 a1_1 a1_2 a1_3 a1_4 a1_5 a1_6 a1_7 l1_8 l1_9)) else (merge_Join.j0 k a2 a3 true a0_0 a0_1 a0_2 a0_3 a0_4 a0_5 a0_6 a0_7 l0_8 l0_9 a1_0 a1_1 a1_2 a1_3 a1_4 a1_5 a1_6 a1_7 l1_8 l1_9))))
theorem merge_Join.mono_l : ∀ k, (∀ y0 y1 y2 y3 y4 y5 y6 y7 y8 y9 y10 y11 y12 y13 y14 y15 y16 y17 y18 y19 y20 y21 y22, LeO (merge_Join.j0 k y0 y1 y2 y3 y4 y5 y6 y7 y8 y9 y10 y11 y12 y13 y14 y15 y16 y17 y18 y19 y20 y21 y22) (merge_Join.j0 (k + 1) y0 y1 y2 y3 y4 y5 y6 y7 y8 y9 y10 y11 y12 y13 y14 y15 y16 y17 y18 y19 y20 y21 y22)) ∧ (∀ y0 y1 y2 y3 y4 y5 y6 y7 y8 y9 y10 y11 y12 y13 y14 y15 y16 y17 y18 y19 y20 y21 y22 y23 y24 y25 y26 y27 y28 y29 y30 y31, LeO (merge_Join.j1 k y0 y1 y2 y3 y4 y5 y6 y7 y8 y9 y10 y11 y12 y13 y14 y15 y16 y17 y18 y19 y20 y21 y22 y23 y24 y25 y26 y27 y28 y29 y30 y31) (merge_Join.j1 (k + 1) y0 y1 y2 y3 y4 y5 y6 y7 y8 y9 y10 y11 y12 y13 y14 y15 y16 y17 y18 y19 y20 y21 y22 y23 y24 y25 y26 y27 y28 y29 y30 y31))
  | 0 => ⟨fun _ _ _ _ _ _ _ _ _ _ _ _ _ _ _ _ _ _ _ _ _ _ _ r h => by simp [merge_Join.j0] at h, fun _ _ _ _ _ _ _ _ _ _ _ _ _ _ _ _ _ _ _ _ _ _ _ _ _ _ _ _ _ _ _ _ r h => by simp [merge_Join.j1] at h⟩
  | k + 1 => by
    obtain ⟨ih0, ih1⟩ := merge_Join.mono_l k
    refine ⟨?_, ?_⟩
    · intro y0 y1 y2 y3 y4 y5 y6 y7 y8 y9 y10 y11 y12 y13 y14 y15 y16 y17 y18 y19 y20 y21 y22
      unfold merge_Join.j0
      repeat' first
      | (with_reducible exact ih0 _ _ _ _ _ _ _ _ _ _ _ _ _ _ _ _ _ _ _ _ _ _ _)
      | (with_reducible exact ih1 _ _ _ _ _ _ _ _ _ _ _ _ _ _ _ _ _ _ _ _ _ _ _ _ _ _ _ _ _ _ _ _)
      | (with_reducible exact api_Cell.mono _ _ _)
      | (with_reducible exact api_Errno.mono _ _ _)
      | (with_reducible exact lsns_Join.mono _ _ _ _ _)
      | (with_reducible exact merge_Beside.mono _ _ _ _ _ _ _ _ _ _ _ _ _ _ _ _ _ _ _ _ _)
      | (with_reducible exact merge_set_raised.mono _ _ _ _)
      | (with_reducible exact page_Check.mono _ _ _ _ _ _ _ _ _ _ _)
      | (with_reducible exact LeO.refl _)
      | (with_reducible exact LeO.none _)
      | (with_reducible refine LeO.ite ?_ ?_)
      | (with_reducible refine LeO.bind ?_ (fun _ => ?_))
      | exact ih0 _ _ _ _ _ _ _ _ _ _ _ _ _ _ _ _ _ _ _ _ _ _ _
      | exact ih1 _ _ _ _ _ _ _ _ _ _ _ _ _ _ _ _ _ _ _ _ _ _ _ _ _ _ _ _ _ _ _ _
      | exact api_Cell.mono _ _ _
      | exact api_Errno.mono _ _ _
      | exact lsns_Join.mono _ _ _ _ _
      | exact merge_Beside.mono _ _ _ _ _ _ _ _ _ _ _ _ _ _ _ _ _ _ _ _ _
      | exact merge_set_raised.mono _ _ _ _
      | exact page_Check.mono _ _ _ _ _ _ _ _ _ _ _
      | exact LeO.none _
      | refine LeO.ite ?_ ?_
      | refine LeO.bind ?_ (fun _ => ?_)
    · intro y0 y1 y2 y3 y4 y5 y6 y7 y8 y9 y10 y11 y12 y13 y14 y15 y16 y17 y18 y19 y20 y21 y22 y23 y24 y25 y26 y27 y28 y29 y30 y31
      unfold merge_Join.j1
      repeat' first
      | (with_reducible exact ih0 _ _ _ _ _ _ _ _ _ _ _ _ _ _ _ _ _ _ _ _ _ _ _)
      | (with_reducible exact ih1 _ _ _ _ _ _ _ _ _ _ _ _ _ _ _ _ _ _ _ _ _ _ _ _ _ _ _ _ _ _ _ _)
      | (with_reducible exact api_Cell.mono _ _ _)
      | (with_reducible exact api_Errno.mono _ _ _)
      | (with_reducible exact lsns_Join.mono _ _ _ _ _)
      | (with_reducible exact merge_Beside.mono _ _ _ _ _ _ _ _ _ _ _ _ _ _ _ _ _ _ _ _ _)
      | (with_reducible exact merge_set_raised.mono _ _ _ _)
      | (with_reducible exact page_Check.mono _ _ _ _ _ _ _ _ _ _ _)
      | (with_reducible exact LeO.refl _)
      | (with_reducible exact LeO.none _)
      | (with_reducible refine LeO.ite ?_ ?_)
      | (with_reducible refine LeO.bind ?_ (fun _ => ?_))
      | exact ih0 _ _ _ _ _ _ _ _ _ _ _ _ _ _ _ _ _ _ _ _ _ _ _
      | exact ih1 _ _ _ _ _ _ _ _ _ _ _ _ _ _ _ _ _ _ _ _ _ _ _ _ _ _ _ _ _ _ _ _
      | exact api_Cell.mono _ _ _
      | exact api_Errno.mono _ _ _
      | exact lsns_Join.mono _ _ _ _ _
      | exact merge_Beside.mono _ _ _ _ _ _ _ _ _ _ _ _ _ _ _ _ _ _ _ _ _
      | exact merge_set_raised.mono _ _ _ _
      | exact page_Check.mono _ _ _ _ _ _ _ _ _ _ _
      | exact LeO.none _
      | refine LeO.ite ?_ ?_
      | refine LeO.bind ?_ (fun _ => ?_)
theorem merge_Join.mono : ∀ a0 a1 a2 a3 a4 a5 a6 a7 a8 a9 a10 a11 a12 a13 a14 a15 a16 a17 a18 a19 a20 a21 k, LeO (merge_Join.f k a0 a1 a2 a3 a4 a5 a6 a7 a8 a9 a10 a11 a12 a13 a14 a15 a16 a17 a18 a19 a20 a21) (merge_Join.f (k + 1) a0 a1 a2 a3 a4 a5 a6 a7 a8 a9 a10 a11 a12 a13 a14 a15 a16 a17 a18 a19 a20 a21) := by
  intro a0 a1 a2 a3 a4 a5 a6 a7 a8 a9 a10 a11 a12 a13 a14 a15 a16 a17 a18 a19 a20 a21 k
  obtain ⟨ih0, ih1⟩ := merge_Join.mono_l k
  unfold merge_Join.f
  repeat' first
      | (with_reducible exact ih0 _ _ _ _ _ _ _ _ _ _ _ _ _ _ _ _ _ _ _ _ _ _ _)
      | (with_reducible exact ih1 _ _ _ _ _ _ _ _ _ _ _ _ _ _ _ _ _ _ _ _ _ _ _ _ _ _ _ _ _ _ _ _)
      | (with_reducible exact api_Cell.mono _ _ _)
      | (with_reducible exact api_Errno.mono _ _ _)
      | (with_reducible exact lsns_Join.mono _ _ _ _ _)
      | (with_reducible exact merge_Beside.mono _ _ _ _ _ _ _ _ _ _ _ _ _ _ _ _ _ _ _ _ _)
      | (with_reducible exact merge_set_raised.mono _ _ _ _)
      | (with_reducible exact page_Check.mono _ _ _ _ _ _ _ _ _ _ _)
      | (with_reducible exact LeO.refl _)
      | (with_reducible exact LeO.none _)
      | (with_reducible refine LeO.ite ?_ ?_)
      | (with_reducible refine LeO.bind ?_ (fun _ => ?_))
      | exact ih0 _ _ _ _ _ _ _ _ _ _ _ _ _ _ _ _ _ _ _ _ _ _ _
      | exact ih1 _ _ _ _ _ _ _ _ _ _ _ _ _ _ _ _ _ _ _ _ _ _ _ _ _ _ _ _ _ _ _ _
      | exact api_Cell.mono _ _ _
      | exact api_Errno.mono _ _ _
      | exact lsns_Join.mono _ _ _ _ _
      | exact merge_Beside.mono _ _ _ _ _ _ _ _ _ _ _ _ _ _ _ _ _ _ _ _ _
      | exact merge_set_raised.mono _ _ _ _
      | exact page_Check.mono _ _ _ _ _ _ _ _ _ _ _
      | exact LeO.none _
      | refine LeO.ite ?_ ?_
      | refine LeO.bind ?_ (fun _ => ?_)

end Go.Proofs.Ytmfaopjfdedheaa.A
