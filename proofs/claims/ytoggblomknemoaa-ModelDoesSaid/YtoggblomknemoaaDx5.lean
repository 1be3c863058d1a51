-- PRINTED by print.py (a twelfth state) out of the translation. Not trusted: Lean checks it.
import Derived.Test.YtoggblomknemoaaDx0
import Derived.Test.YtoggblomknemoaaDx2
import Derived.Test.YtoggblomknemoaaDx3
import Derived.Test.YtoggblomknemoaaDx4
namespace Go.Proofs.Ytoggblomknemoaa.D
open Go.RowKit Go.Proofs.YtoggblomknemoaaW Go.Proofs.YtoggblomknemoaaW.PrintWords Go.Proofs.YtoggblomknemoaaW.PrintLast Go.Proofs.YtoggblomknemoaaW.PrintMore
attribute [local go_sem] GpMore.bytes_le max2_int min2_int max_two min_two max_three min_three max_four min_four   -- for this text's walks alone
set_option linter.unusedVariables false
set_option linter.unusedSimpArgs false

/-! ### model_Diff: function 13 -/
/-- What Diff gathers, cell by cell. -/
def model_Diff_l (k : Nat) (l0 l1 : List S42) : List S42 → List ByteArray → Option (List ByteArray)
  | [], o => some o
  | c :: t, o => (cells_Find.f k l0 c.f0).bind fun v => (cells_Find.f k l1 c.f0).bind fun u => model_Diff_l k l0 l1 t (if v.1.toList = u.1.toList ∧ v.2 = u.2 then o else o ++ [c.f0])
/-- Diff: the keys that are not told alike, sorted, each once. -/
def model_Diff.f (k : Nat) (l0 l1 : List S42) : Option (List ByteArray) :=
  (cells_Right.f k l0).bind fun a => if a = true then (cells_Right.f k l1).bind fun b => if b = true then (if l0.length + l1.length < 4398046511104 then (model_Diff_l k l0 l1 (l0 ++ l1) []).bind fun o => some (Go.Lib.compact (sortB o)) else none) else some [] else some []
theorem model_Diff.mono_l (k : Nat) (l0 l1 : List S42) : ∀ (l : List S42) (o : List ByteArray), LeO (model_Diff_l k l0 l1 l o) (model_Diff_l (k + 1) l0 l1 l o)
  | [], _ => LeO.refl _
  | c :: t, _ => LeO.bind (cells_Find.mono _ _ _) fun _ => LeO.bind (cells_Find.mono _ _ _) fun _ => model_Diff.mono_l k l0 l1 t _
theorem model_Diff.mono : ∀ a0 a1 k, LeO (model_Diff.f k a0 a1) (model_Diff.f (k + 1) a0 a1) := by
  intro a0 a1 k
  unfold model_Diff.f
  refine LeO.bind (cells_Right.mono _ _) fun a => ?_
  split
  · refine LeO.bind (cells_Right.mono _ _) fun b => ?_
    split
    · split
      · exact LeO.bind (model_Diff.mono_l k a0 a1 _ _) fun _ => LeO.refl _
      · exact LeO.refl _
    · exact LeO.refl _
  · exact LeO.refl _
theorem model_Diff_len {k : Nat} {l0 l1 : List S42} : ∀ (l : List S42) (o r : List ByteArray), model_Diff_l k l0 l1 l o = some r → r.length ≤ o.length + l.length
  | [], o, r, h => by cases h; simp
  | c :: t, o, r, h => by
    obtain ⟨v, _, h⟩ := Option.bind_eq_some_iff.1 h
    obtain ⟨u, _, h⟩ := Option.bind_eq_some_iff.1 h
    have := model_Diff_len t _ r h
    have e : (if v.1.toList = u.1.toList ∧ v.2 = u.2 then o else o ++ [c.f0]).length ≤ o.length + 1 := by split <;> simp
    simp only [List.length_cons]
    omega
set_option maxHeartbeats 1000000 in
set_option maxRecDepth 100000 in
theorem model_Diff.calls (k : Nat) (A0 : Option Addr) (c0 : Nat) (l0 : List S42) (A1 : Option Addr) (c1 : Nat) (l1 : List S42) (r : List ByteArray) (w : World) (hr0 : Kd.C k42 w A0 l0.length l0) (hc0 : l0.length ≤ c0) (hr1 : Kd.C k42 w A1 l1.length l1) (hc1 : l1.length ≤ c1) (h : model_Diff.f k l0 l1 = some r) :
    Calls Try.prog 13 #[.slice A0 l0.length c0, .slice A1 l1.length c1] w fun e w' => ∃ v0_ : Value, e = .returned v0_ ∧ Kd.R Kd.string 9 w' w.heap.size (fun _ => True) v0_ r ∧ Below w.heap.size w w' := by
  obtain ⟨a, ha, h1⟩ := Option.bind_eq_some_iff.1 h
  clear h
  have HR := Aside0.mk hr0
  have HR2 := Aside0.mk hr1
  have HA := Aside0.mk ha
  have hu42 := Try.underlying42
  clear hr0 hr1 ha
  cases a
  · rw [if_neg (by simp)] at h1
    cases h1
    go_enter Try.func13, Try.ntmps13
    go_wp2_with (go_at_call 28; refine (cells_Right.calls k A0 c0 l0 false _ HR.out hc0 HA.out).mono ?_; rintro e w1 ⟨rfl, hb⟩; have HB1 := Aside0.mk hb; clear hb)
    go_ret
    exact ⟨_, rfl, Kd.R_nil _ _ _ _ _, HB1.out⟩
  rw [if_pos rfl] at h1
  obtain ⟨b, hb, h2⟩ := Option.bind_eq_some_iff.1 h1
  have HB := Aside0.mk hb
  clear hb h1
  cases b
  · rw [if_neg (by simp)] at h2
    cases h2
    go_enter Try.func13, Try.ntmps13
    go_wp2_with (first | (have hq1 := HB1.out; go_at_call 28; refine (cells_Right.calls k A1 c1 l1 false _ (Kd.C_below HR2.out HB1.out) hc1 HB.out).mono ?_; rintro e w2 ⟨rfl, hb⟩; have HB2 := Aside0.mk (below_step HB1.out hb); clear hb hq1) | (go_at_call 28; refine (cells_Right.calls k A0 c0 l0 true _ HR.out hc0 HA.out).mono ?_; rintro e w1 ⟨rfl, hb⟩; have HB1 := Aside0.mk hb; clear hb))
    go_ret
    exact ⟨_, rfl, Kd.R_nil _ _ _ _ _, HB2.out⟩
  rw [if_pos rfl] at h2
  by_cases hl : l0.length + l1.length < 4398046511104
  case neg => rw [if_neg hl] at h2; cases h2
  rw [if_pos hl] at h2
  obtain ⟨o, ho, h3⟩ := Option.bind_eq_some_iff.1 h2
  obtain rfl := Option.some.inj h3
  clear h2 h3
  have HO := Aside0.mk ho
  have HL := Aside0.mk hl
  have hol := model_Diff_len _ _ _ ho
  rw [List.length_nil, Nat.zero_add, List.length_append] at hol
  have HOL := Aside0.mk hol
  have hcc : ∀ (b : Nat) (W : World), Below w.heap.size w W → W.heap[b]? = some (.cells #[.slice A0 l0.length c0, .slice A1 l1.length c1] 22 (0, 0)) → Calls Try.prog 42 #[.slice (some ⟨b, 0, none⟩) 2 2] W fun e w' => ∃ v : Value, e = .returned v ∧ Kd.R k42 42 w' W.heap.size (fun _ => True) v (l0 ++ l1) ∧ Below W.heap.size W w' := fun b W hB hb =>
    api_Cell_42.calls k A0 c0 l0 A1 c1 l1 (l0 ++ l1) W (Kd.C_below HR.out hB) hc0 (Kd.C_below HR2.out hB) hc1 (if_pos HL.out) b hb
  have HCC := Aside0.mk hcc
  have hll : (l0 ++ l1).length < 4398046511104 := by rw [List.length_append]; exact hl
  have HLL := Aside0.mk hll
  clear ho hl hol hcc hll
  revert HO HCC HLL
  generalize hx : l0 ++ l1 = xs
  intro HO HCC HLL
  clear hx
  go_enter Try.func13, Try.ntmps13
  go_wp2_with (first | (have hq1 := HB1.out; go_at_call 28; refine (cells_Right.calls k A1 c1 l1 true _ (Kd.C_below HR2.out HB1.out) hc1 HB.out).mono ?_; rintro e w2 ⟨rfl, hb⟩; have HB2 := Aside0.mk (below_step HB1.out hb); clear hb hq1) | (go_at_call 28; refine (cells_Right.calls k A0 c0 l0 true _ HR.out hc0 HA.out).mono ?_; rintro e w1 ⟨rfl, hb⟩; have HB1 := Aside0.mk hb; clear hb) | (go_at_call 42; refine (HCC.out _ _ (below_alloc HB2.out _) (blk_new w2 _)).mono ?_; rintro e w3 ⟨v3, rfl, ho3, hb3⟩; have HO3 := Aside0.mk (Kd.R_lower ho3 (Nat.le_trans HB2.out.size (by rw [World.size_alloc]; omega))); have HB3 := Aside0.mk (below_step (below_alloc HB2.out _) hb3); obtain ⟨Ax, cx, rfl⟩ := cells_slice ho3; clear ho3 hb3))
  have HX := Aside0.mk (Kd.R_reads' HO3.out).2.2
  clear HO3
  go_loopg [5, 25] xs.length (fun kx s5 s25 wr => ∃ (j : Nat) (acc : List ByteArray), s25 = .int .i64 j ∧ j ≤ xs.length ∧ xs.length - j ≤ kx ∧ Aside0 (acc.length ≤ j) ∧ Aside0 (model_Diff_l k l0 l1 (xs.drop j) acc = some o) ∧ Aside0 (Below w3.heap.size w3 wr) ∧ Aside0 (Kd.R Kd.string 9 wr w3.heap.size (fun _ => True) s5 acc))
  case atStart => exact ⟨0, [], rfl, Nat.zero_le _, Nat.le_refl _, ⟨Nat.le_refl _⟩, HO, ⟨Below.refl _ _⟩, ⟨Kd.R_nil _ _ _ _ _⟩⟩
  case round =>
    obtain ⟨j, acc, rfl, hj, hg, HJ, HF, HY, HZ⟩ := hrel
    by_cases hlt : j < xs.length
    · have hlt' : (j : Int) < (xs.length : Int) := by omega
      obtain ⟨ad, e, hx, hy⟩ := at_T42 (Kd.C_below HX.out HY.out) (j : Int) (by omega) hlt'
      cases e
      rw [Int.toNat_natCast] at hx hy
      have hd : xs.drop j = rd_T42 xs (j : Int) :: xs.drop (j + 1) := by
        rw [List.drop_eq_getElem_cons hlt]
        unfold rd_T42
        simp [hlt]
      have hf := HF.out
      rw [hd] at hf
      obtain ⟨⟨v1, v2⟩, hv, hf⟩ := Option.bind_eq_some_iff.1 hf
      obtain ⟨⟨u1, u2⟩, hu, hf⟩ := Option.bind_eq_some_iff.1 hf
      have HV := Aside0.mk hv
      have HU := Aside0.mk hu
      have HG := Aside0.mk hf
      have hj1 : wrap64 ((j : Int) + 1) = ((j + 1 : Nat) : Int) := by have := HLL.out; unfold wrap64; omega
      clear hd hv hu hf HF
      revert hx hy HV HU HG
      generalize rd_T42 xs (j : Int) = x
      intro hx hy HV HU HG
      by_cases hs : v1.toList = u1.toList
      · by_cases hv : v2 = u2
        · have HM := Aside0.mk (show model_Diff_l k l0 l1 (xs.drop (j + 1)) acc = some o by have h := HG.out; rw [if_pos ⟨hs, hv⟩] at h; exact h)
          have hs0 : (v1.toList == u1.toList) = true := beq_iff_eq.2 hs
          have hs1 : (v1.toList != u1.toList) = false := by rw [hs]; simp
          have hv0 : (v2 == u2) = true := beq_iff_eq.2 hv
          have hv1 : (v2 != u2) = false := by rw [hv]; simp
          clear HG hs hv
          go_wp2_with (first | (have hq1 := HY1.out; go_at_call 32; refine (cells_Find.calls k A1 c1 l1 x.f0 u1 u2 _ (Kd.C_below HR2.out (below_step HB3.out hq1)) hc1 HU.out).mono ?_; rintro e w5 ⟨rfl, hb⟩; have HY2 := Aside0.mk (below_step HY1.out hb); have HZ2 := Aside0.mk (Kd.R_below HZ1.out hb); have BL := Aside0.mk (blk_below BK.out hb); clear hb hq1 z0 z1; have z0 := (blk_cell BL.out 0).trans rfl; have z1 := (blk_cell BL.out 1).trans rfl) | (go_at_call 32; refine (cells_Find.calls k A0 c0 l0 x.f0 v1 v2 _ (Kd.C_below HR.out (below_step HB3.out (below_alloc HY.out _))) hc0 HV.out).mono ?_; rintro e w4 ⟨rfl, hb⟩; have HY1 := Aside0.mk (below_step (below_alloc HY.out _) hb); have HZ1 := Aside0.mk (Kd.R_below (Kd.R_alloc HZ.out _) hb); have BK := Aside0.mk (blk_below (blk_new wr (.cells #[.string x.f0, .string x.f1] 42)) hb); clear hb; have z0 := (blk_cell BK.out 0).trans rfl; have z1 := (blk_cell BK.out 1).trans rfl))
          go_roundg (xs.length - (j + 1))
          case measure => omega
          case rel => exact ⟨j + 1, acc, by rw [hj1], by omega, Nat.le_refl _, ⟨by have := HJ.out; omega⟩, ⟨HM.out⟩, HY2, HZ2⟩
        · have HM := Aside0.mk (show model_Diff_l k l0 l1 (xs.drop (j + 1)) (acc ++ [x.f0]) = some o by have h := HG.out; rw [if_neg (fun q => hv q.2)] at h; exact h)
          have hs0 : (v1.toList == u1.toList) = true := beq_iff_eq.2 hs
          have hs1 : (v1.toList != u1.toList) = false := by rw [hs]; simp
          have hv0 : (v2 == u2) = false := beq_eq_false_iff_ne.2 hv
          have hv1 : (v2 != u2) = true := bne_iff_ne.2 hv
          clear HG hs hv
          go_wp2_with (first | (have hq1 := HY1.out; go_at_call 32; refine (cells_Find.calls k A1 c1 l1 x.f0 u1 u2 _ (Kd.C_below HR2.out (below_step HB3.out hq1)) hc1 HU.out).mono ?_; rintro e w5 ⟨rfl, hb⟩; have HY2 := Aside0.mk (below_step HY1.out hb); have HZ2 := Aside0.mk (Kd.R_below HZ1.out hb); have BL := Aside0.mk (blk_below BK.out hb); clear hb hq1 z0 z1; have z0 := (blk_cell BL.out 0).trans rfl; have z1 := (blk_cell BL.out 1).trans rfl) | (go_at_call 32; refine (cells_Find.calls k A0 c0 l0 x.f0 v1 v2 _ (Kd.C_below HR.out (below_step HB3.out (below_alloc HY.out _))) hc0 HV.out).mono ?_; rintro e w4 ⟨rfl, hb⟩; have HY1 := Aside0.mk (below_step (below_alloc HY.out _) hb); have HZ1 := Aside0.mk (Kd.R_below (Kd.R_alloc HZ.out _) hb); have BK := Aside0.mk (blk_below (blk_new wr (.cells #[.string x.f0, .string x.f1] 42)) hb); clear hb; have z0 := (blk_cell BK.out 0).trans rfl; have z1 := (blk_cell BK.out 1).trans rfl) | ((with_reducible refine gate_builtin (b := .append) (xs := #[.tmp 51, .tmp 54]) rfl ?_); at_builtin; refine Kd.R_append Kd.string (w0 := w3) w3.heap.size rfl (.tmp 51) (.tmp 54) 36 9 (.string ⟨#[]⟩) 16 rfl Try.underlying36 info9 rfl (by decide) (by omega) u5 acc x.f0 [.string x.f0] (fun _ => True) (fun _ => False) rfl rfl ?aP (fun _ hk => hk.elim) ?aF ?aO ?aB ?aS ?aL ?_; (case aP => exact rfl); (case aB => exact HY2.out); (case aF => exact fun _ _ => trivial); (case aO => exact HZ2.out); (case aS => exact below_size HY2.out); (case aL => have := HLL.out; have := HJ.out; omega); intro v2_ w2_ ho2 hb2 hg2 hat2; clear hg2 hat2; have HZ3 := Aside0.mk ho2; have HY3 := Aside0.mk hb2; clear ho2 hb2))
          go_roundg (xs.length - (j + 1))
          case measure => omega
          case rel => exact ⟨j + 1, acc ++ [x.f0], by rw [hj1], by omega, Nat.le_refl _, ⟨by have := HJ.out; simp; omega⟩, ⟨HM.out⟩, ⟨HY3.out⟩, ⟨HZ3.out⟩⟩
      · have HM := Aside0.mk (show model_Diff_l k l0 l1 (xs.drop (j + 1)) (acc ++ [x.f0]) = some o by have h := HG.out; rw [if_neg (fun q => hs q.1)] at h; exact h)
        have hs0 : (v1.toList == u1.toList) = false := beq_eq_false_iff_ne.2 hs
        have hs1 : (v1.toList != u1.toList) = true := bne_iff_ne.2 hs
        clear HG hs
        go_wp2_with (first | (have hq1 := HY1.out; go_at_call 32; refine (cells_Find.calls k A1 c1 l1 x.f0 u1 u2 _ (Kd.C_below HR2.out (below_step HB3.out hq1)) hc1 HU.out).mono ?_; rintro e w5 ⟨rfl, hb⟩; have HY2 := Aside0.mk (below_step HY1.out hb); have HZ2 := Aside0.mk (Kd.R_below HZ1.out hb); have BL := Aside0.mk (blk_below BK.out hb); clear hb hq1 z0 z1; have z0 := (blk_cell BL.out 0).trans rfl; have z1 := (blk_cell BL.out 1).trans rfl) | (go_at_call 32; refine (cells_Find.calls k A0 c0 l0 x.f0 v1 v2 _ (Kd.C_below HR.out (below_step HB3.out (below_alloc HY.out _))) hc0 HV.out).mono ?_; rintro e w4 ⟨rfl, hb⟩; have HY1 := Aside0.mk (below_step (below_alloc HY.out _) hb); have HZ1 := Aside0.mk (Kd.R_below (Kd.R_alloc HZ.out _) hb); have BK := Aside0.mk (blk_below (blk_new wr (.cells #[.string x.f0, .string x.f1] 42)) hb); clear hb; have z0 := (blk_cell BK.out 0).trans rfl; have z1 := (blk_cell BK.out 1).trans rfl) | ((with_reducible refine gate_builtin (b := .append) (xs := #[.tmp 51, .tmp 54]) rfl ?_); at_builtin; refine Kd.R_append Kd.string (w0 := w3) w3.heap.size rfl (.tmp 51) (.tmp 54) 36 9 (.string ⟨#[]⟩) 16 rfl Try.underlying36 info9 rfl (by decide) (by omega) u5 acc x.f0 [.string x.f0] (fun _ => True) (fun _ => False) rfl rfl ?aP (fun _ hk => hk.elim) ?aF ?aO ?aB ?aS ?aL ?_; (case aP => exact rfl); (case aB => exact HY2.out); (case aF => exact fun _ _ => trivial); (case aO => exact HZ2.out); (case aS => exact below_size HY2.out); (case aL => have := HLL.out; have := HJ.out; omega); intro v2_ w2_ ho2 hb2 hg2 hat2; clear hg2 hat2; have HZ3 := Aside0.mk ho2; have HY3 := Aside0.mk hb2; clear ho2 hb2))
        go_roundg (xs.length - (j + 1))
        case measure => omega
        case rel => exact ⟨j + 1, acc ++ [x.f0], by rw [hj1], by omega, Nat.le_refl _, ⟨by have := HJ.out; simp; omega⟩, ⟨HM.out⟩, ⟨HY3.out⟩, ⟨HZ3.out⟩⟩
    · obtain rfl : j = xs.length := by omega
      have hf := HF.out
      rw [List.drop_length] at hf
      obtain rfl := Option.some.inj hf
      clear hf HF
      go_wp2_with (first | (go_at_call 43; refine (sortT_R (fun _ => True) u5 acc w3 wr HY.out (by have := HLL.out; have := HJ.out; omega) HZ.out).mono ?_; rintro e w4 ⟨rfl, ho4, hb4⟩; have HZ4 := Aside0.mk ho4; have HY4 := Aside0.mk hb4; clear ho4 hb4) | (go_at_call 44; refine (compactT_R (by have := HLL.out; have := HJ.out; rw [sortB_length]; omega) HY4.out.size HZ4.out).mono ?_; rintro e w5 ⟨v5, rfl, ho5, hb5⟩; have HZ5 := Aside0.mk ho5; have HY5 := Aside0.mk (HY4.out.trans hb5); clear ho5 hb5))
      go_ret
      exact ⟨_, rfl, Kd.R_lower HZ5.out HB3.out.size, below_step HB3.out HY5.out⟩

end Go.Proofs.Ytoggblomknemoaa.D
