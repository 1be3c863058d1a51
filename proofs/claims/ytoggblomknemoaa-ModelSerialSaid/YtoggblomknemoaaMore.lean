/- Plain words: a cut with a capacity of its own, and an append behind it, which always makes a new row. -/
import Derived.Test.YtoggblomknemoaaWWords
import Derived.ArgAppend
import Derived.Deep.RegionLawGrows
import Derived.Laws.CopyOwn
namespace Go.Proofs.YtoggblomknemoaaW.GpMore
open Go.RowKit Go.Proofs.YtoggblomknemoaaW.PrintWords
set_option linter.unusedVariables false
theorem bytes_le : ∀ x y : List UInt8, (Op.bytesLess x y || x == y) = !Op.bytesLess y x
  | [], [] => rfl
  | [], _ :: _ => rfl
  | _ :: _, [] => rfl
  | a :: x, b :: y => by
    have ih := bytes_le x y
    simp only [Op.bytesLess]
    rcases Nat.lt_trichotomy a.toNat b.toNat with h | h | h
    · have h1 : a < b := UInt8.lt_iff_toNat_lt.2 h
      have h2 : ¬ b < a := fun h' => by have := UInt8.lt_iff_toNat_lt.1 h'; omega
      have h3 : (b == a) = false := beq_eq_false_iff_ne.2 (fun e => by rw [e] at h; omega)
      simp [h1, h2, h3]
    · have h0 : a = b := UInt8.toNat_inj.1 h
      subst h0
      have h1 : ¬ a < a := fun h' => by have := UInt8.lt_iff_toNat_lt.1 h'; omega
      simpa [h1] using ih
    · have h1 : b < a := UInt8.lt_iff_toNat_lt.2 h
      have h2 : ¬ a < b := fun h' => by have := UInt8.lt_iff_toNat_lt.1 h'; omega
      have h3 : (a == b) = false := beq_eq_false_iff_ne.2 (fun e => by rw [e] at h; omega)
      have h4 : (a :: x == b :: y) = false := beq_eq_false_iff_ne.2 (fun e => by injection e with e1 _; rw [e1] at h; omega)
      simp [h1, h2, h3, h4]
section
variable {P : Program}
theorem cut_to3 (t e : TypeId) (kh km : IntKind) {i : TypeInfo} (ht : P.underlying t = some (.slice e)) (hi : P.info? e = some i) (A : Option Addr) (n c : Nat) (j : Int) (h0 : 0 ≤ j) (hm : j ≤ n) (hc : n ≤ c) :
    ∀ W : World, (Instr.slice t (.slice A n c) none (some (.int kh j)) (some (.int km j))).run P W = .ok (.slice A j.toNat j.toNat) W := by
  intro W
  have hel : P.elem t = e := by simp [Program.elem, ht]
  have hu : P.underlying t = some (.slice (P.elem t)) := by rw [hel]; exact ht
  have ha : (A.map fun x => x.add 0) = A := by cases A <;> simp [Addr.add]
  rw [run_slice_hm W t A n c hu kh km j j h0 (by omega) (by omega), hel]
  simp [sizeOf, typeInfo, hi, sliced, Result.andThen, ha]
end
section
variable {P : Program} {ops : Array Oper} {rest : List Oper} {o : Oper} {a : Act} {Q : Exit → Act → World → Prop} {α : Type}
end
section
variable {P : Program} {ops : Array Oper} {o : Oper} {a : Act} {Q : Exit → Act → World → Prop} {Kc : Act → World → Prop} {α : Type}
/-- The same, as a step of a region that draws its order. -/
theorem R_append_full_step (d : Kd α) {w0 W : World} (base : Nat) (hgd : o.guard = none) (s x : Operand) (t e : TypeId) (z : Value) (bytes : Nat)
    (ho : o.op = .call { callee := .builtin .append, args := #[s, x], argTypes := #[t, t] })
    (ht : P.underlying t = some (.slice e)) (hinfo : (P.info? e).map (fun i => (i.zero, i.size, i.bytes)) = some (some z, d.sz, bytes)) (hz : z.cells.size = d.sz) (hs0 : 0 < d.sz) (hb0 : 0 < bytes)
    (v : Value) (xs : List α) (p : α) (cs : List Value) (ok okp : Nat → Prop) (hs : a.eval s = v) (hx : a.eval x = .slice (some ⟨W.heap.size, 0, none⟩) 1 1) (hp : d.M W base okp p cs) (hokp : ∀ k, okp k → False) (hfresh : ∀ k, W.heap.size ≤ k → ok k)
    (hM : ∀ x cs, d.K W x cs → d.M W base okp x cs)
    (HO : ∃ A, v = .slice A xs.length xs.length ∧ d.C W A xs.length xs) (HB : Below base w0 W) (hbase : base ≤ W.heap.size) (hl : (xs.length + 1) * bytes ≤ 140737488355328)
    (h : ∀ v1 w1, d.R e w1 base ok v1 (xs ++ [p]) → Below base w0 w1 → W.grownBy w1 none → (v1.ownBlock = none ∨ ∃ b, v1.ownBlock = some b ∧ W.heap.size ≤ b) → Kc (a.put o.dst v1) w1) :
    if Region.wanted o (yielded ops a.tmps) = true then Oper.wp P o a (W.alloc (.cells cs.toArray e)) Kc Q else Kc (a.put o.dst undef) (W.alloc (.cells cs.toArray e)) := by
  obtain ⟨i0, hi, hzz⟩ := Option.map_eq_some_iff.1 hinfo
  simp only [Prod.mk.injEq] at hzz
  obtain ⟨hz0, hz1, hz2⟩ := hzz
  have hlen : xs.length + 1 ≤ 140737488355328 := Nat.le_trans (Nat.le_mul_of_pos_right _ hb0) hl
  obtain ⟨A, rfl, HC⟩ := HO
  have hnone : A = none → xs = [] := by
    rintro rfl
    rcases Nat.eq_zero_or_pos xs.length with h0 | h0
    · exact List.eq_nil_of_length_eq_zero h0
    · obtain ⟨ad, h, _⟩ := HC.2.2 h0
      cases h
  obtain ⟨inner, hir, hic⟩ : ∃ inner, Reps (d.K W) d.sz xs inner ∧ ∀ b, A = some b → ∀ j u, inner[j]? = some u → W.cell? (b.add j) = some u := by
    rcases A with _ | ad
    · obtain rfl := hnone rfl
      exact ⟨[], Reps.none _ _, fun b hb => by cases hb⟩
    · obtain ⟨inner, h1, h2⟩ := ReadsRow.inner_ HC
      exact ⟨inner, h1, fun b hb => by cases hb; exact h2⟩
  have hpl : cs.length = d.sz := d.K_len (d.K_of_M hp)
  refine step_append_grows (w := W.alloc (.cells cs.toArray e)) hgd s x t ho e i0 z d.sz bytes ht hi hz0 hz1 hz2 hz hs0 A xs.length xs.length inner hs (fun hA => by rw [hnone hA]; exact ⟨rfl, rfl⟩) hir.1
    (fun b hb j u hu => pw_cell_below (below_alloc (Below.refl _ _) _) (hic b hb j u hu)) ⟨W.heap.size, 0, none⟩ 1 1 cs hx (by rw [hpl]; simp) (by simpa using World.news_of_block (cs := cs.toArray) (t := e) (fr := (0, 0)) (heap_alloc_new W (.cells cs.toArray e))) (d.K_one (d.K_of_M hp)) (by omega) (by simp only [maxLen]; omega) hl ?_
  intro v1 w1 hown hg
  have hgw : W.grownBy w1 none := World.grownBy.trans (World.grownBy_alloc W _ _) hg
  have hown' : w1.ownsRow base e d.sz v1 (xs.length + 1) (inner ++ cs) := own_weaken hown (by simp; omega)
  have hblk : ∀ k, v1.ownBlock = some k → W.heap.size ≤ k := fun k hk => by
    have := own_base hown k hk
    simp at this
    omega
  have hreps : Reps (d.M W base okp) d.sz (xs ++ [p]) (inner ++ cs) := Reps.snoc (hir.imp_ (fun p c hp => hM p c hp)) hp hpl
  have hmv : ∀ x c, d.M W base okp x c → d.M w1 base (fun k => ok k ∧ some k ≠ v1.ownBlock) x c := fun x c hc =>
    d.M_mono (fun k hk => (hokp k hk).elim) (d.M_move (fun k hk => (hokp k hk).elim) hc)
  refine h v1 w1 ⟨fun k hk => hfresh k (hblk k hk), inner ++ cs, by rw [List.length_append, List.length_singleton]; exact hown', hreps.imp_ (fun x c hc => hmv x c hc)⟩ (HB.grown hgw hbase (fun k hk => by cases hk)) hgw ?_
  rcases hv : v1.ownBlock with _ | b
  · exact .inl rfl
  · exact .inr ⟨b, rfl, hblk b hv⟩
end
section
variable {P : Program} {ops : Array Oper} {rest : List Oper} {o : Oper} {a : Act} {Q : Exit → Act → World → Prop} {α : Type}
/-- copy into a row of the call's own, from its begin. -/
theorem R_copy (enc : α → Value) {h1 : ∀ x, (enc x).oneCell' = true} {w0 W : World} (base : Nat) (hgd : o.guard = none) (d s : Operand) (dT sT e : TypeId)
    (ho : o.op = .call { callee := .builtin .copy, args := #[d, s], argTypes := #[dT, sT] }) (ht : P.underlying dT = some (.slice e)) (hinfo : (P.info? e).map (·.size) = some 1) {ok : Nat → Prop}
    (v : Value) (xs ys : List α) (A : Option Addr) (m c : Nat) (hd : a.eval d = v) (hs : a.eval s = .slice A m c) (HO : (Kd.scalar enc h1).R e W base ok v xs) (HR : (Kd.scalar enc h1).C W A m ys) (hle : m ≤ xs.length) (HB : Below base w0 W)
    (h : ∀ w1, (Kd.scalar enc h1).R e w1 base ok v (ys ++ xs.drop m) → Below base w0 w1 → wpList P ops Q rest (a.put o.dst (goInt m)) w1) : wpList P ops Q (o :: rest) a W := by
  have hm : ys.length = m := HR.1
  have hsrc : 0 < m → ∃ ad, A = some ad ∧ ∀ j u, (encs enc ys)[j]? = some u → W.cell? (ad.add j) = some u := fun h0 => by
    obtain ⟨ad, e, hc⟩ := HR.2.2 h0
    refine ⟨ad, e, fun j u hu => ?_⟩
    have hj : j < ys.length := by
      rcases Nat.lt_or_ge j ys.length with q | q
      · exact q
      · rw [List.getElem?_eq_none (by rw [encs_length]; exact q)] at hu; cases hu
    obtain ⟨c, _, hK, hcell⟩ := hc j _ (List.getElem?_eq_getElem hj)
    have hK' : c = [enc ys[j]] := hK
    subst hK'
    have h2 := hcell 0 _ rfl
    rw [Nat.add_zero, show (Kd.scalar enc h1).sz = 1 from rfl, Nat.mul_one] at h2
    rw [h2, ← hu]; simp [encs, hj]
  have hone : ∀ u ∈ encs enc ys, u.oneCell' = true := fun u hu => by obtain ⟨x, _, rfl⟩ := List.mem_map.1 hu; exact h1 x
  obtain ⟨hlen, hcase⟩ := Kd.own_of_R HO
  rcases hcase with ⟨rfl, hn⟩ | ⟨g, cap, cur, rfl, hg, hh, hnc, hcm, hcs, htake⟩
  · obtain rfl : m = 0 := by omega
    obtain rfl : ys = [] := List.eq_nil_of_length_eq_zero hm
    refine wpList_copy_nothing hgd d s dT sT ho e ht hinfo none A 0 0 0 c hd hs rfl ?_
    exact h W (by simpa using HO) HB
  · rw [Nat.mul_one] at hcs htake
    have hcl : cur.toList.length = cur.size := Array.length_toList
    have hex : (encs enc xs).length = xs.length := encs_length ..
    have hey : (encs enc ys).length = ys.length := encs_length ..
    refine wpList_copy_splice hgd d s dT sT ho e ht hinfo (some ⟨g, 0, none⟩) A xs.length cap m c hd hs g 0 cur.toList e (by simpa using hh) (encs enc ys) (by rw [encs_length, hm]; exact (Nat.min_eq_left hle).symm) (fun h0 => ?_) (by omega) hone base w0 HB hg ?_
    · rw [encs_length, hm] at h0; obtain ⟨ad, he, hc⟩ := hsrc h0; exact ⟨rfl, ad, he, hc⟩
    · intro w1 hw1 hb1
      rw [encs_length, hm]
      refine h w1 (Kd.R_of_own ⟨by rw [encs_length, Nat.mul_one], .inr ⟨g, cap, (splice cur.toList 0 (encs enc ys)).toArray, ?_, hg, hw1.out, ?_, hcm, ?_, ?_⟩⟩ (fun k hk => HO.1 k hk)) hb1
      · congr 1; rw [List.length_append, List.length_drop, hm]; omega
      · rw [List.length_append, List.length_drop, hm]; omega
      · rw [List.size_toArray, length_splice _ _ _ (by omega), hcl, Nat.mul_one]; exact hcs
      · rw [Nat.mul_one]; show (splice cur.toList 0 (encs enc ys)).take _ = _
        unfold splice
        rw [List.take_zero, List.nil_append, encs_length, Nat.zero_add, List.length_append, List.length_drop, encs_append, List.take_append, encs_length, List.take_of_length_le (by rw [encs_length]; omega), hm]
        congr 1
        have e1 : (encs enc xs).drop m = encs enc (xs.drop m) := by simp [encs]
        rw [← e1, ← htake, List.drop_take]; congr 1; omega
end
end Go.Proofs.YtoggblomknemoaaW.GpMore
