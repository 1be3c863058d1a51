/- A row of deeds whose replies' rows lie apart: each between two places of the heap; the calls below where the law began. -/
import Derived.Test.YtoggblomknemoaaSx0
namespace Go.Proofs.Ytoggblomknemoaa.S
open Go.RowKit Go.Proofs.YtoggblomknemoaaW Go.Proofs.YtoggblomknemoaaW.PrintWords Go.Proofs.YtoggblomknemoaaW.PrintLast Go.Proofs.YtoggblomknemoaaW.PrintMore
set_option linter.unusedVariables false
set_option linter.unusedSimpArgs false
/-- A deed with the two places. -/
def kX (b : Nat) : Kd (S54 × Nat × Nat) where
  sz := 3
  E := []
  K := fun W x cs => ∃ (A1 : Option Addr) (c1 : Nat) (v2 : Value), cs = [.int .u64 x.1.f0, .slice A1 x.1.f1.length c1, v2] ∧ x.1.f1.length ≤ c1 ∧ Kd.F k26 W (fun k => k < b) A1 x.1.f1.length x.1.f1 ∧ Kd.N k33 33 W b (fun k => x.2.1 ≤ k ∧ k < x.2.2) v2 x.1.f2
  M := fun _ _ _ _ _ => False
  K_len := by
    rintro _ _ _ ⟨_, _, _, rfl, _⟩
    rfl
  K_one := by
    rintro w x cs ⟨A1, c1, v2, rfl, _, _, hN⟩ u hu
    have h2 := (Kd.N_val hN).2
    simp only [List.mem_cons, List.not_mem_nil, or_false] at hu
    rcases hu with rfl | rfl | rfl
    · rfl
    · rfl
    · exact h2
  K_below := fun hb ⟨A1, c1, v2, h1, h2, h3, h4⟩ => ⟨A1, c1, v2, h1, h2, Kd.F_below h3 hb, Kd.N_below h4 hb⟩
  K_of_M := fun h => h.elim
  M_mono := fun _ h => h
  M_bound := fun h => h.elim
  M_move := fun _ h => h
  M_lower := fun _ h => h
section
variable {b s : Nat} {W W1 : World} {ok ok' : Nat → Prop} {v u : Value} {x : S54 × Nat × Nat} {cs : List Value} {ds : List S54} {xa : List (S54 × Nat × Nat)}
theorem kX_K (h : (kX b).K W x cs) : k54.K W x.1 cs := by
  obtain ⟨A1, c1, v2, rfl, h2, h3, h4⟩ := h
  obtain ⟨A2, c2, rfl⟩ := Kd.N_slice h4
  obtain ⟨_, q2, q3⟩ := Kd.N_reads' h4
  exact k54_mk W x.1 h2 (Kd.F_now h3) q2 q3
theorem kX_FK (h : (kX b).K W x cs) (h1 : ∀ k, k < b → ok k) (h2 : ∀ k, x.2.1 ≤ k → k < x.2.2 → ok k) : Kd.FK (kX b) W ok x cs := fun W' hW => by
  obtain ⟨A1, c1, v2, q1, q2, q3, q4⟩ := h
  exact ⟨A1, c1, v2, q1, q2, Kd.F_step q3 (fun k hk hlt => hW k (h1 k hk) hlt), Kd.N_step q4 (fun k hk hlt => hW k (h2 k hk.1 hk.2) hlt)⟩
theorem kX_down (h : Kd.FK (kX b) W ok x cs) : Kd.FK k54 W ok x.1 cs := fun W' hW => kX_K (h W' hW)
theorem map_at {j : Nat} {y : S54} (h : (xa.map Prod.fst)[j]? = some y) : ∃ z, xa[j]? = some z ∧ z.1 = y := by
  rw [List.getElem?_map] at h
  cases hz : xa[j]? with
  | none => rw [hz] at h; cases h
  | some z => rw [hz] at h; exact ⟨z, rfl, Option.some.inj h⟩
/-- A row of deeds that lie apart, all ahead of the place s. -/
def DN (b s : Nat) (W : World) (ok : Nat → Prop) (v : Value) (ds : List S54) : Prop :=
  ∃ xa : List (S54 × Nat × Nat), xa.map Prod.fst = ds ∧ xa.Pairwise (fun x y => x.2.2 ≤ y.2.1) ∧ (∀ x ∈ xa, b ≤ x.2.1 ∧ x.2.2 ≤ s) ∧ s ≤ W.heap.size ∧ Kd.N (kX b) 54 W b ok v xa
theorem DN_N (h : DN b s W ok v ds) : Kd.N k54 54 W b ok v ds := by
  obtain ⟨xa, rfl, _, _, _, h0, rows, hl, hR, hf⟩ := h
  refine ⟨h0, rows, by rw [hl, List.length_map], hR, fun j y c hy hc => ?_⟩
  obtain ⟨z, hz, rfl⟩ := map_at hy
  exact kX_down (hf j z c hz hc)
theorem DN_map (h : DN b s W ok v ds) (hw : W.heap.size ≤ W1.heap.size) (f : ∀ xa, Kd.N (kX b) 54 W b ok v xa → Kd.N (kX b) 54 W1 b ok' v xa) : DN b s W1 ok' v ds := by
  obtain ⟨xa, h1, h2, h3, h5, h4⟩ := h
  exact ⟨xa, h1, h2, h3, Nat.le_trans h5 hw, f xa h4⟩
theorem DN_alloc (h : DN b s W ok v ds) (o : Obj) : DN b s (W.alloc o) ok v ds := DN_map h (below_alloc (Below.refl _ _) o).size fun _ q => Kd.N_alloc q o
theorem DN_drew (h : DN b s W ok v ds) : DN b s W.drew ok v ds := DN_map h (Nat.le_refl _) fun _ q => Kd.N_drew q
theorem DN_drewN (h : DN b s W ok v ds) (m : Nat) : DN b s (W.drewN m) ok v ds := DN_map h (Nat.le_refl _) fun _ q => Kd.N_drewN q m
theorem DN_below (h : DN b s W ok v ds) (hb : Below W.heap.size W W1) : DN b s W1 ok v ds := DN_map h hb.size fun _ q => Kd.N_below q hb
theorem DN_mono (h : DN b s W ok v ds) (hok : ∀ k, ok k → ok' k) : DN b s W ok' v ds := DN_map h (Nat.le_refl _) fun _ q => Kd.N_mono q hok
theorem DN_elder' (h : DN b s W ok v ds) (hbase : ∀ k, u.ownBlock = some k → W.heap.size ≤ k) (hb : Below W.heap.size W W1) : DN b s W1 (fun k => ok k ∧ some k ≠ u.ownBlock) v ds := DN_map h hb.size fun _ q => Kd.N_elder' q hbase hb
theorem DN_old (h : DN b s W ok v ds) (hb : Below W.heap.size W W1) : DN b s W1 (fun k => ok k ∧ k < W.heap.size) v ds := DN_map h hb.size fun _ q => Kd.N_old q hb
theorem DN_told {c : Nat} (h : DN b s W (fun k => ok k ∧ k < c) v ds) (hbase : ∀ k, u.ownBlock = some k → c ≤ k) : DN b s W (fun k => (ok k ∧ some k ≠ u.ownBlock) ∧ k < c) v ds := DN_map h (Nat.le_refl _) fun _ q => Kd.N_told q hbase
theorem DN_now (h : DN b s W ok v ds) : DN b W.heap.size W ok v ds := by
  obtain ⟨xa, h1, h2, h3, h5, h4⟩ := h
  exact ⟨xa, h1, h2, fun x hx => ⟨(h3 x hx).1, Nat.le_trans (h3 x hx).2 h5⟩, Nat.le_refl _, h4⟩
theorem DN_nil (b : Nat) (W : World) (ok : Nat → Prop) : DN b W.heap.size W ok (.slice none 0 0) [] := ⟨[], rfl, .nil, fun _ h => (by cases h), Nat.le_refl _, Kd.N_nil _ _ _ _ _⟩
/-- The new deed's fact: its calls below b, its replies from s to s'. -/
theorem kX_mk {y : S54} {A1 : Option Addr} {c1 : Nat} {v2 : Value} {s s' : Nat} (h2 : y.f1.length ≤ c1) (h3 : Kd.F k26 W (fun k => k < b) A1 y.f1.length y.f1) (h4 : Kd.N k33 33 W b (fun k => s ≤ k ∧ k < s') v2 y.f2) : (kX b).K W (y, s, s') [.int .u64 y.f0, .slice A1 y.f1.length c1, v2] := ⟨A1, c1, v2, rfl, h2, h3, h4⟩
end
section
variable {P : Program} {ops : Array Oper} {o : Oper} {a : Act} {Q : Exit → Act → World → Prop} {rest : List Oper} {b : Nat} {w0 W : World}
/-- append(ds, d), the deed's replies between s and s'. -/
theorem DN_append (s s' : Nat) (hgd : o.guard = none) (sl x : Operand) (t : TypeId) (z : Value) (bytes : Nat)
    (ho : o.op = .call { callee := .builtin .append, args := #[sl, x], argTypes := #[t, t] })
    (ht : P.underlying t = some (.slice 54)) (hinfo : (P.info? 54).map (fun i => (i.zero, i.size, i.bytes)) = some (some z, 3, bytes)) (hz : z.cells.size = 3) (hb0 : 0 < bytes)
    (v : Value) (ds : List S54) (y : S54) (cs : List Value) (ok : Nat → Prop) (hs : a.eval sl = v) (hx : a.eval x = .slice (some ⟨W.heap.size, 0, none⟩) 1 1) (hK : (kX b).K W (y, s, s') cs)
    (hok1 : ∀ k, k < b → ok k ∧ some k ≠ v.ownBlock) (hok2 : ∀ k, s ≤ k → k < s' → ok k ∧ some k ≠ v.ownBlock) (hfresh : ∀ k, W.heap.size ≤ k → ok k)
    (HO : DN b s W ok v ds) (hbs : b ≤ s) (hss : s ≤ s') (hsw : s' ≤ W.heap.size) (HB : Below b w0 W) (hbase : b ≤ W.heap.size) (hl : (ds.length + 1) * bytes ≤ 140737488355328)
    (h : ∀ v1 w1, DN b s' w1 ok v1 (ds ++ [y]) → Below b w0 w1 → W.grownBy w1 v.ownBlock → (v1.ownBlock = v.ownBlock ∨ ∃ k, v1.ownBlock = some k ∧ W.heap.size ≤ k) → wpList P ops Q rest (a.put o.dst v1) w1) :
    wpList P ops Q (o :: rest) a (W.alloc (.cells cs.toArray 54)) := by
  obtain ⟨xa, rfl, hp, hr, hsW, hN⟩ := HO
  refine Kd.N_append (kX b) b hgd sl x t 54 z bytes ho ht hinfo hz (show 0 < 3 by decide) hb0 v xa (y, s, s') cs ok (fun k => ok k ∧ some k ≠ v.ownBlock) hs hx (kX_FK hK hok1 hok2) (fun _ hk => hk) hfresh hN HB hbase (by rw [List.length_map] at hl; exact hl) ?_
  intro v1 w1 hN1 hb hg hat
  refine h v1 w1 ⟨xa ++ [(y, s, s')], by rw [List.map_append]; rfl, ?_, ?_, Nat.le_trans hsw hg.size, hN1⟩ hb hg hat
  · refine List.pairwise_append.2 ⟨hp, List.pairwise_singleton _ _, fun x1 h1 y1 h2 => ?_⟩
    rw [List.mem_singleton.1 h2]
    exact (hr x1 h1).2
  · intro x1 h1
    rcases List.mem_append.1 h1 with h2 | h2
    · exact ⟨(hr x1 h2).1, Nat.le_trans (hr x1 h2).2 hss⟩
    · rw [List.mem_singleton.1 h2]
      exact ⟨hbs, Nat.le_refl _⟩
end
/-- What a call of Run leaves: its replies' row, between what was and what is now. -/
theorem run_facts {w Wc W1 : World} {s : Nat} {ok : Nat → Prop} {v0 v1 v8 : Value} {rs : List S33} {ds : List S54} (hb : Below Wc.heap.size Wc W1) (ho1 : Kd.N k33 33 W1 Wc.heap.size (fun k_ => (Wc.heap.size ≤ k_) ∧ some k_ ≠ v0.ownBlock) v1 rs) (hB : Below w.heap.size w Wc) (h8 : DN w.heap.size s Wc ok v8 ds) :
    Kd.N k33 33 W1 w.heap.size (fun k => Wc.heap.size ≤ k ∧ k < W1.heap.size) v1 rs ∧ (∀ k, v8.ownBlock = some k → k < Wc.heap.size) ∧ w.heap.size ≤ Wc.heap.size ∧ Wc.heap.size ≤ W1.heap.size :=
  ⟨Kd.N_lower (Kd.N_mono (Kd.N_bound ho1) (fun k hk => ⟨hk.1.1, hk.2⟩)) (below_size hB), Kd.N_lt (DN_N h8), below_size hB, hb.size⟩
/-- The calls that came in lie where they lay. -/
theorem ser_calls {w W : World} {l1 : List (List S26)} {n : Nat} {i : Int} {ad : Addr} {A : Option Addr} {c : Nat} (hi : Kd.C (Kd.slice 26 k26) w (some ad) n l1) (hB : Below w.heap.size w W) (p : 0 ≤ i) (q : i < l1.length) (hn : n = l1.length) (hx : W.cell? (ad.add i.toNat) = some (.slice A (rd_L12 l1 i).length c)) : Kd.F k26 W (fun k => k < w.heap.size) A (rd_L12 l1 i).length (rd_L12 l1 i) := by
  subst hn
  obtain ⟨ad', A', c', e, h1, h2, h3⟩ := at_L12 hi i p q
  injection e with e
  subst e
  have h4 := (hB.cell (World.block_lt_of_cell? w _ h1)).trans h1
  rw [hx] at h4
  have h5 := Option.some.inj h4
  injection h5 with h5 _ _
  subst h5
  exact Kd.F_below (Kd.C_F k26_heap h3) hB
/-! ### a reply's value is turned -/
/-- What the law's store makes of the deeds. -/
def turned (ds : List S54) (i j : Int) : List S54 :=
  ds.set i.toNat ⟨(rd_T54 ds i).f0, (rd_T54 ds i).f1, (rd_T54 ds i).f2.set j.toNat ⟨(rd_T33 (rd_T54 ds i).f2 j).f0, (rd_T33 (rd_T54 ds i).f2 j).f1, (rd_T33 (rd_T54 ds i).f2 j).f2, (rd_T33 (rd_T54 ds i).f2 j).f3, (rd_T33 (rd_T54 ds i).f2 j).f4, (rd_T33 (rd_T54 ds i).f2 j).f5 ++ (⟨#[120]⟩ : ByteArray), (rd_T33 (rd_T54 ds i).f2 j).f6⟩⟩
/-- An element's cell u is turned, where what it leads to stays: a row of replies. -/
theorem N33_turn {W : World} {b g n cap : Nat} {ok : Nat → Prop} {xs : List S33} (h : Kd.N k33 33 W b ok (.slice (some ⟨g, 0, none⟩) n cap) xs) (j : Int) (h0 : 0 ≤ j) (h1 : j < n) (x' : S33) (val : ByteArray)
    (hx : x' = ⟨(rd_T33 xs j).f0, (rd_T33 xs j).f1, (rd_T33 xs j).f2, (rd_T33 xs j).f3, (rd_T33 xs j).f4, val, (rd_T33 xs j).f6⟩) :
    k33.C (W.setCell ⟨g, j.toNat * 7 + 5, none⟩ (.string val)) (some ⟨g, 0, none⟩) n (xs.set j.toNat x') := by
  have hr := Kd.N_reads' h
  have hn : n = xs.length := hr.1
  refine ⟨by rw [List.length_set]; exact hn.symm, by have := hr.2.2.2.1; omega, fun hp => ⟨_, rfl, fun i p hi => ?_⟩⟩
  have hil : i < xs.length := by have := (List.getElem?_eq_some_iff.1 hi).1; rwa [List.length_set] at this
  obtain ⟨c, hcl, hFK, hcc, _⟩ := Kd.N_elem h z33 (i : Int) (by omega) (by omega)
  rw [Int.toNat_natCast] at hFK hcc
  have hne : ∀ k, (ok k ∧ k ≠ g) → k ≠ (⟨g, j.toNat * 7 + 5, none⟩ : Addr).block := fun k hk => hk.2
  have hFK' : Kd.FK k33 (W.setCell ⟨g, j.toNat * 7 + 5, none⟩ (.string val)) (fun k => ok k ∧ k ≠ g) (xs.getD i z33) c := Foot.step hFK (fun k hk _ => Below.heap_setCell W _ _ k (hne k hk))
  by_cases e : i = j.toNat
  · subst e
    rw [List.getElem?_set_self hil] at hi
    obtain rfl : x' = p := Option.some.inj hi
    obtain ⟨A6, c6, rfl, l6, g6⟩ := k33_openF hFK'
    have eD : xs.getD j.toNat z33 = rd_T33 xs j := rfl
    rw [eD] at l6 g6
    subst hx
    refine ⟨[.int .i64 (rd_T33 xs j).f0, .int .u8 (rd_T33 xs j).f1, .int .i64 (rd_T33 xs j).f2, .int .u64 (rd_T33 xs j).f3, .bool (rd_T33 xs j).f4, .string val, .slice A6 (rd_T33 xs j).f6.length c6], rfl, k33_mk _ _ l6 (Kd.F_now g6), fun q u hu => ?_⟩
    rw [add_at, Nat.zero_add]
    have hq : q < 7 := by have := (List.getElem?_eq_some_iff.1 hu).1; exact this
    by_cases e5 : q = 5
    · subst e5
      have h5 : W.cell? ⟨g, j.toNat * 7 + 5, none⟩ = some (.string (rd_T33 xs j).f5) := hcc 5 _ rfl
      obtain rfl : Value.string val = u := Option.some.inj hu
      exact World.cell?_setCell_same _ _ _ h5
    · have hold : [Value.int .i64 (rd_T33 xs j).f0, .int .u8 (rd_T33 xs j).f1, .int .i64 (rd_T33 xs j).f2, .int .u64 (rd_T33 xs j).f3, .bool (rd_T33 xs j).f4, .string (rd_T33 xs j).f5, .slice A6 (rd_T33 xs j).f6.length c6][q]? = some u := by
        rcases q with _ | _ | _ | _ | _ | _ | _ | q
        · exact hu
        · exact hu
        · exact hu
        · exact hu
        · exact hu
        · exact absurd rfl e5
        · exact hu
        · omega
      have hne5 : j.toNat * 7 + 5 ≠ j.toNat * 7 + q := by omega
      exact (World.cell?_setCell_other _ _ _ _ (fun he => by injection he with _ he2; exact hne5 he2)).trans (hcc q u hold)
  · rw [List.getElem?_set_ne (fun h => e h.symm)] at hi
    have hp' : xs.getD i z33 = p := by rw [List.getD_eq_getElem?_getD, hi]; rfl
    rw [hp'] at hFK'
    refine ⟨c, hcl, Foot.now hFK', fun q u hu => ?_⟩
    rw [add_at, Nat.zero_add]
    have hq : q < 7 := by have := (List.getElem?_eq_some_iff.1 hu).1; rw [hcl] at this; exact this
    have hj : (i * 7 + q) ≠ (j.toNat * 7 + 5) := fun h => e (by omega)
    exact (World.cell?_setCell_other _ _ _ _ (fun he => by injection he with _ he2; exact hj he2.symm)).trans (hcc q u hu)
theorem map_rd {xa : List (S54 × Nat × Nat)} {i : Int} (h0 : 0 ≤ i) (h1 : i < xa.length) : rd_T54 (xa.map Prod.fst) i = (xa.getD i.toNat (z54, 0, 0)).1 := by
  have hl : i.toNat < xa.length := by omega
  unfold rd_T54
  simp [List.getD_eq_getElem?_getD, hl]
/-- A deed's own row of replies: a block of its own. -/
theorem DN_reply {b s g n c m c2 : Nat} {ad : Addr} {W : World} {ok : Nat → Prop} {ds : List S54} (h : DN b s W ok (.slice (some ⟨g, 0, none⟩) n c) ds) (i j : Int) (h0 : 0 ≤ i) (h1 : i < n) (j0 : 0 ≤ j) (j1 : j < ((rd_T54 ds i).f2.length : Int))
    (hc : W.cell? ⟨g, i.toNat * 3 + 2, none⟩ = some (.slice (some ad) m c2)) : ∃ gb cells, ad = ⟨gb, 0, none⟩ ∧ W.heap[gb]? = some (.cells cells 33 (0, 0)) := by
  obtain ⟨xa, rfl, hp, hr, _, hN⟩ := h
  have hnl := (Kd.N_reads' hN).1
  have hil : i.toNat < xa.length := by omega
  obtain ⟨ci, hcl, hFK, hcc, _⟩ := Kd.N_elem hN (z54, 0, 0) i h0 h1
  have hrd := map_rd h0 (show i < xa.length by omega)
  rw [hrd] at j1
  generalize hx : xa.getD i.toNat (z54, 0, 0) = x at *
  obtain ⟨A1, c1, v2, rfl, l1, q3, q4⟩ := Foot.now hFK
  have hv2 := (hcc 2 v2 rfl).symm.trans hc
  obtain rfl : v2 = .slice (some ad) m c2 := Option.some.inj hv2
  obtain ⟨gb, cap, e, _, _, cells, hcells⟩ := Kd.N_form q4 (by omega)
  injection e with e1
  injection e1 with e2
  exact ⟨gb, cells, e2, hcells⟩
theorem turned_length (ds : List S54) (i j : Int) : (turned ds i j).length = ds.length := by
  unfold turned
  exact List.length_set
/-- A store into a reply's value of the deed i turns that deed alone. -/
theorem DN_turn {b s g n c gb m c2 : Nat} {W : World} {ok : Nat → Prop} {ds : List S54} (h : DN b s W ok (.slice (some ⟨g, 0, none⟩) n c) ds) (i j : Int) (h0 : 0 ≤ i) (h1 : i < n) (j0 : 0 ≤ j) (j1 : j < ((rd_T54 ds i).f2.length : Int))
    (hc : W.cell? ⟨g, i.toNat * 3 + 2, none⟩ = some (.slice (some ⟨gb, 0, none⟩) m c2)) :
    b ≤ gb ∧ gb ≠ g ∧ k54.C (W.setCell ⟨gb, j.toNat * 7 + 5, none⟩ (.string ((rd_T33 (rd_T54 ds i).f2 j).f5 ++ (⟨#[120]⟩ : ByteArray)))) (some ⟨g, 0, none⟩) n (turned ds i j) := by
  obtain ⟨xa, rfl, hp, hr, _, hN⟩ := h
  have hnl := (Kd.N_reads' hN).1
  have hmax := (Kd.N_reads' hN).2.2.2.1
  obtain ⟨cg, hcg⟩ := Kd.N_typed hN g (by simp [Value.ownBlock])
  -- the deed i
  have hil : i.toNat < xa.length := by omega
  obtain ⟨ci, hcl, hFK, hcc, _⟩ := Kd.N_elem hN (z54, 0, 0) i h0 h1
  have hrd := map_rd h0 (show i < xa.length by omega)
  have hxi : xa[i.toNat]? = some (xa.getD i.toNat (z54, 0, 0)) := by rw [List.getD_eq_getElem?_getD, List.getElem?_eq_getElem hil]; rfl
  rw [hrd] at j1
  rw [hrd]
  generalize hx : xa.getD i.toNat (z54, 0, 0) = x at *
  obtain ⟨A1, c1, v2, rfl, l1, q3, q4⟩ := Foot.now hFK
  have hv2 := (hcc 2 v2 rfl).symm.trans hc
  obtain rfl : v2 = .slice (some ⟨gb, 0, none⟩) m c2 := Option.some.inj hv2
  have hgb := q4.1 gb (by simp [Value.ownBlock])
  have hbx := hr x (List.mem_of_getElem? hxi)
  obtain ⟨cb, hcb⟩ := Kd.N_typed q4 gb (by simp [Value.ownBlock])
  have hne : gb ≠ g := by
    rintro rfl
    rw [hcg] at hcb
    injection hcb with hcb
    injection hcb with _ hcb
    exact absurd hcb (by decide)
  refine ⟨by omega, hne, ?_⟩
  obtain ⟨u, hu⟩ : ∃ u, u = Value.string ((rd_T33 x.1.f2 j).f5 ++ (⟨#[120]⟩ : ByteArray)) := ⟨_, rfl⟩
  rw [← hu]
  have hW : ∀ k, k ≠ gb → (W.setCell ⟨gb, j.toNat * 7 + 5, none⟩ u).heap[k]? = W.heap[k]? := fun k hk => Below.heap_setCell W _ u k hk
  have hm := (Kd.N_reads' q4).1
  refine ⟨by unfold turned; rw [List.length_set, List.length_map]; omega, by omega, fun _ => ⟨_, rfl, fun t p ht => ?_⟩⟩
  have htl : t < xa.length := by have := (List.getElem?_eq_some_iff.1 ht).1; unfold turned at this; rwa [List.length_set, List.length_map] at this
  obtain ⟨ct, hctl, hFKt, hcct, _⟩ := Kd.N_elem hN (z54, 0, 0) (t : Int) (by omega) (by omega)
  rw [Int.toNat_natCast] at hFKt hcct
  have hcell : ∀ (q : Nat) (w : Value), ct[q]? = some w → (W.setCell ⟨gb, j.toNat * 7 + 5, none⟩ u).cell? ((⟨g, 0, none⟩ : Addr).add (t * 3 + q)) = some w := fun q w hq => by
    rw [add_at, Nat.zero_add, cell_far (fun he => hne he.symm)]
    exact hcct q w hq
  refine ⟨ct, hctl, ?_, hcell⟩
  have hxt : xa[t]? = some (xa.getD t (z54, 0, 0)) := by rw [List.getD_eq_getElem?_getD, List.getElem?_eq_getElem htl]; rfl
  by_cases e : t = i.toNat
  · subst e
    rw [hx] at hFKt
    unfold turned at ht
    rw [List.getElem?_set_self (by rw [List.length_map]; exact hil)] at ht
    obtain rfl := Option.some.inj ht
    obtain ⟨A1', c1', v2', rfl, l1', q3', q4'⟩ := Foot.now hFKt
    have hv2' := (hcct 2 v2' rfl).symm.trans hc
    obtain rfl : v2' = .slice (some ⟨gb, 0, none⟩) m c2 := Option.some.inj hv2'
    rw [hrd]
    have hT := N33_turn q4' j j0 (by omega) _ ((rd_T33 x.1.f2 j).f5 ++ (⟨#[120]⟩ : ByteArray)) rfl
    rw [← hu] at hT
    have hlen : (x.1.f2.set j.toNat (⟨(rd_T33 x.1.f2 j).f0, (rd_T33 x.1.f2 j).f1, (rd_T33 x.1.f2 j).f2, (rd_T33 x.1.f2 j).f3, (rd_T33 x.1.f2 j).f4, (rd_T33 x.1.f2 j).f5 ++ (⟨#[120]⟩ : ByteArray), (rd_T33 x.1.f2 j).f6⟩ : S33)).length = m := by rw [List.length_set]; exact hm.symm
    have hk := k54_mk (W.setCell ⟨gb, j.toNat * 7 + 5, none⟩ u) (⟨x.1.f0, x.1.f1, x.1.f2.set j.toNat (⟨(rd_T33 x.1.f2 j).f0, (rd_T33 x.1.f2 j).f1, (rd_T33 x.1.f2 j).f2, (rd_T33 x.1.f2 j).f3, (rd_T33 x.1.f2 j).f4, (rd_T33 x.1.f2 j).f5 ++ (⟨#[120]⟩ : ByteArray), (rd_T33 x.1.f2 j).f6⟩ : S33)⟩ : S54) l1' (Kd.F_now (Kd.F_step q3' (fun k hk _ => hW k (by omega)))) (A2 := some ⟨gb, 0, none⟩) (c2 := c2) (by show List.length _ ≤ c2; rw [hlen]; exact (Kd.N_reads' q4').2.1) (by show k33.C _ _ (List.length _) _; rw [hlen]; exact hT)
    have e2 : (⟨x.1.f0, x.1.f1, x.1.f2.set j.toNat (⟨(rd_T33 x.1.f2 j).f0, (rd_T33 x.1.f2 j).f1, (rd_T33 x.1.f2 j).f2, (rd_T33 x.1.f2 j).f3, (rd_T33 x.1.f2 j).f4, (rd_T33 x.1.f2 j).f5 ++ (⟨#[120]⟩ : ByteArray), (rd_T33 x.1.f2 j).f6⟩ : S33)⟩ : S54).f2.length = m := hlen
    rw [e2] at hk
    exact hk
  · have hbt := hr _ (List.mem_of_getElem? hxt)
    have hout : ∀ k, (xa.getD t (z54, 0, 0)).2.1 ≤ k ∧ k < (xa.getD t (z54, 0, 0)).2.2 → k ≠ gb := by
      rintro k ⟨k1, k2⟩ rfl
      rw [List.getElem?_eq_getElem htl] at hxt
      rw [List.getElem?_eq_getElem hil] at hxi
      have e1 := Option.some.inj hxt
      have e3 := Option.some.inj hxi
      rcases Nat.lt_or_ge t i.toNat with h9 | h9
      · have h8 := List.pairwise_iff_getElem.1 hp t i.toNat htl hil h9
        rw [e1, e3] at h8
        omega
      · have h8 := List.pairwise_iff_getElem.1 hp i.toNat t hil htl (by omega)
        rw [e1, e3] at h8
        omega
    unfold turned at ht
    rw [List.getElem?_set_ne (fun h => e h.symm)] at ht
    obtain ⟨z, hz, rfl⟩ := map_at ht
    rw [hxt] at hz
    obtain rfl := Option.some.inj hz
    obtain ⟨A1', c1', v2', rfl, l1', q3', q4'⟩ := Foot.now hFKt
    exact kX_K ⟨A1', c1', v2', rfl, l1', Kd.F_step q3' (fun k hk _ => hW k (by omega)), Kd.N_step q4' (fun k hk _ => hW k (hout k hk))⟩
end Go.Proofs.Ytoggblomknemoaa.S
