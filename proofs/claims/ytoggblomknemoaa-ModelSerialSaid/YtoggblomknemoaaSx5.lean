-- PRINTED by print.py (a twelfth state) out of the translation. Not trusted: Lean checks it.
import Derived.Test.YtoggblomknemoaaMv
import Derived.Test.YtoggblomknemoaaSx0
import Derived.Test.YtoggblomknemoaaSx3
import Derived.Test.YtoggblomknemoaaSx4
namespace Go.Proofs.Ytoggblomknemoaa.S
open Go.RowKit Go.Proofs.YtoggblomknemoaaW Go.Proofs.YtoggblomknemoaaW.PrintWords Go.Proofs.YtoggblomknemoaaW.PrintLast Go.Proofs.YtoggblomknemoaaW.PrintMore
attribute [local go_sem] GpMore.bytes_le max2_int min2_int max_two min_two max_three min_three max_four min_four   -- for this text's walks alone
set_option linter.unusedVariables false
set_option linter.unusedSimpArgs false

/-! ### model_Do: function 12 -/
/-- Nothing that was there changes but block g. -/
structure Ch (w w' : World) (g : Nat) : Prop where
  os : w'.os = w.os
  tape : w'.tape = w.tape
  output : w'.output = w.output
  size : w.heap.size ≤ w'.heap.size
  block : ∀ k, k < w.heap.size → k ≠ g → w'.heap[k]? = w.heap[k]?
theorem Ch.below {W w w' : World} {b g : Nat} (h : Ch w w' g) (hB : Below b W w) (hs : b ≤ w.heap.size) (hg : b ≤ g) : Below b W w' :=
  ⟨h.os.trans hB.os, h.tape.trans hB.tape, h.output.trans hB.output, Nat.le_trans hB.size h.size, fun k hk => (h.block k (by omega) (by omega)).trans (hB.block k hk)⟩
theorem Ch.of_below {w w' : World} (h : Below w.heap.size w w') (g : Nat) : Ch w w' g := ⟨h.os, h.tape, h.output, h.size, fun k hk _ => h.block k hk⟩
theorem Ch.set {w w' : World} {g : Nat} (h : Ch w w' g) (j : Nat) (u : Value) : Ch w (w'.setCell ⟨g, j, none⟩ u) g :=
  ⟨h.os, h.tape, h.output, by rw [World.size_setCell]; exact h.size, fun k hk hn => (Below.heap_setCell w' ⟨g, j, none⟩ u k hn).trans (h.block k hk hn)⟩
theorem Ch.blk {w w' : World} {g k : Nat} {o : Obj} (h : Ch w w' g) (hk : w.heap[k]? = some o) (hn : k ≠ g) : w'.heap[k]? = some o := (h.block k (blk_lt hk) hn).trans hk
theorem Ch.drew {w w' : World} {g : Nat} (h : Ch w w' g) : Ch w w'.drew g := ⟨h.os, h.tape, h.output, h.size, h.block⟩
theorem must_yes (n : Int) (w : World) : Calls Try.prog 31 #[.bool true, .int .i64 n] w fun e w' => e = .returned (.tuple #[]) ∧ w' = w := by
  go_enter Try.func31, Try.ntmps31
  go_wp2
  go_end0
  exact ⟨rfl, rfl⟩
theorem must_no (n : Int) (w : World) : Calls Try.prog 31 #[.bool false, .int .i64 n] w fun e w' => e = .panicked [{ v := .iface 30 (.int .i64 n), recovered := false }] ∧ w' = w := by
  go_enter Try.func31, Try.ntmps31
  go_wp2
  exact ⟨rfl, rfl, rfl⟩
theorem ta_nil (W : World) : (Instr.typeAssert .nilIface 20 30 true).run Try.prog W = .ok (.tuple #[.int .i64 0, .bool false]) W := by kernel_rfl
theorem ta_err (n : Int) (W : World) : (Instr.typeAssert (.iface 30 (.int .i64 n)) 20 30 true).run Try.prog W = .ok (.tuple #[.int .i64 n, .bool true]) W := by kernel_rfl
set_option maxRecDepth 100000 in
theorem d1_idle (gx gr : Nat) (w : World) :
    CallsD Try.prog 29 #[.pointer (some ⟨gx, 0, none⟩), .pointer (some ⟨gr, 0, none⟩)] .returning w fun e u' w' => e = .returned (.tuple #[]) ∧ u' = .returning ∧ w' = w := by
  refine callsD_of_wpS Try.func29 rfl fun c₀ cs hu => ?_
  apply wpS_seq
  apply wpS_region
  simp [wpOpsS, go_sem, recoverD, hu, Try.ntmps29, Exit.thenS, ta_nil]
  apply wpS_seq
  apply wpS_region
  simp [wpOpsS, go_sem, Exit.thenS]
  refine wpS_cond (t := false) (by simp [Act.eval, Array.replicate]) ?_
  simp only [Bool.false_eq_true, if_false]
  refine wpS_of_wp (wp_skip ?_)
  cases c₀
  simp_all [bodyPostS, results, Try.results29]
set_option maxHeartbeats 4000000 in
set_option maxRecDepth 100000 in
theorem d1_catch (gx gr : Nat) (n wh : Int) (cs : Array Value) (w : World) (hx : w.cell? ⟨gx, 0, none⟩ = some (.int .u8 wh)) (hr : w.heap[gr]? = some (.cells #[.int .i64 0, .int .u8 wh, .int .i64 0, .int .u64 0, .bool false, .string ⟨#[]⟩, .slice none 0 0] 33 (0, 0))) :
    CallsD Try.prog 29 #[.pointer (some ⟨gx, 0, none⟩), .pointer (some ⟨gr, 0, none⟩)] (.panicking [{ v := .iface 30 (.int .i64 n), recovered := false }]) w fun e u' w' =>
      e = .returned (.tuple #[]) ∧ u' = .panicking [{ v := .iface 30 (.int .i64 n), recovered := true }] ∧ Ch w w' gr ∧ w'.heap[gr]? = some (.cells #[.int .i64 0, .int .u8 wh, .int .i64 n, .int .u64 0, .bool false, .string ⟨#[]⟩, .slice none 0 0] 33 (0, 0)) := by
  refine callsD_of_wpS Try.func29 rfl fun c₀ cs hu => ?_
  apply wpS_seq
  apply wpS_region
  simp [wpOpsS, go_sem, recoverD, hu, Try.ntmps29, Exit.thenS, ta_err]
  apply wpS_seq
  apply wpS_region
  simp [wpOpsS, go_sem, Exit.thenS]
  refine wpS_cond (t := true) (by simp [Act.eval, Array.replicate]) ?_
  simp only [if_true]
  have hu33 := Try.underlying33
  have BR := Aside0.mk hr
  obtain ⟨Z0, Z1, Z2, Z3, Z4, Z5, Z6⟩ : w.cell? ⟨gr, 0, none⟩ = some (.int .i64 0) ∧ w.cell? ⟨gr, 1, none⟩ = some (.int .u8 wh) ∧ w.cell? ⟨gr, 2, none⟩ = some (.int .i64 0) ∧ w.cell? ⟨gr, 3, none⟩ = some (.int .u64 0) ∧ w.cell? ⟨gr, 4, none⟩ = some (.bool false) ∧ w.cell? ⟨gr, 5, none⟩ = some (.string ⟨#[]⟩) ∧ w.cell? ⟨gr, 6, none⟩ = some (.slice none 0 0) :=
    (bc7 hr)
  have f0 := blk_frozen hr 0; have f1 := blk_frozen hr 1; have f2 := blk_frozen hr 2; have f3 := blk_frozen hr 3; have f4 := blk_frozen hr 4; have f5 := blk_frozen hr 5; have f6 := blk_frozen hr 6
  clear hr
  refine wpS_of_wp ?_
  go_wp2
  have hch : Ch w (((((((w.setCell ⟨gr, 0, none⟩ (.int .i64 0)).setCell ⟨gr, 1, none⟩ (.int .u8 wh)).setCell ⟨gr, 2, none⟩ (.int .i64 n)).setCell ⟨gr, 3, none⟩ (.int .u64 0)).setCell ⟨gr, 4, none⟩ (.bool false)).setCell ⟨gr, 5, none⟩ (.string ⟨#[]⟩)).setCell ⟨gr, 6, none⟩ (.slice none 0 0)) gr :=
    ((((((((Ch.of_below (Below.refl _ _) gr).set 0 _).set 1 _).set 2 _).set 3 _).set 4 _).set 5 _).set 6 _)
  have hblk := (blk_put (blk_put (blk_put (blk_put (blk_put (blk_put (blk_put BR.out 0 (.int .i64 0) rfl) 1 (.int .u8 wh) rfl) 2 (.int .i64 n) rfl) 3 (.int .u64 0) rfl) 4 (.bool false) rfl) 5 (.string ⟨#[]⟩) rfl) 6 (.slice none 0 0) rfl)
  simp only [bodyPostS]
  exact ⟨trivial, _, rfl, .tuple #[], by simp [results, Try.results29], rfl, rfl, hch, hblk⟩
set_option maxRecDepth 100000 in
theorem c2_calls (gi gv gr : Nat) (wh : Int) (b : Bool) (s : ByteArray) (w : World) (hi : w.cell? ⟨gi, 0, none⟩ = some (.bool b)) (hv : w.cell? ⟨gv, 0, none⟩ = some (.string s)) (h1 : gi ≠ gr) (h2 : gv ≠ gr) (hr : w.heap[gr]? = some (.cells #[.int .i64 0, .int .u8 wh, .int .i64 0, .int .u64 0, .bool false, .string ⟨#[]⟩, .slice none 0 0] 33 (0, 0))) :
    Calls Try.prog 33 #[.pointer (some ⟨gi, 0, none⟩), .pointer (some ⟨gv, 0, none⟩), .pointer (some ⟨gr, 0, none⟩)] w fun e w' => e = .returned (.tuple #[]) ∧ Ch w w' gr ∧ w'.heap[gr]? = some (.cells #[.int .i64 0, .int .u8 wh, .int .i64 0, .int .u64 0, .bool b, .string s, .slice none 0 0] 33 (0, 0)) := by
  have hu33 := Try.underlying33
  have BR := Aside0.mk hr
  have Z4 := (blk_cell hr 4).trans rfl; have Z5 := (blk_cell hr 5).trans rfl
  have f4 := blk_frozen hr 4; have f5 := blk_frozen hr 5
  clear hr
  go_enter Try.func33, Try.ntmps33
  go_region
  all_goals go_wp2
  go_end0
  exact ⟨rfl, (((Ch.of_below (Below.refl _ _) gr).set 4 _).set 5 _).drew, blk_put (blk_put BR.out 4 (.bool b) rfl) 5 (.string s) rfl⟩
theorem R_keepB {w1 : World} {b g : Nat} {v : Value} {xs : List S42} (h : Kd.R k42 42 w1 b (fun _ => True) v xs) (hg : g < b) (j : Nat) (u : Value) : Kd.R k42 42 (w1.setCell ⟨g, j, none⟩ u) b (fun _ => True) v xs :=
  Kd.R_mono (Kd.R_far (Kd.R_bound h) (p := ⟨g, j, none⟩) (fun k hk => by have := hk.2.1; show k ≠ g; omega) u) (fun _ _ => trivial)
theorem Q_cut {w : World} {b n c : Nat} {ok : Nat → Prop} {A : Option Addr} {xs : List S42} (h : Kd.R k42 42 w b ok (.slice A n c) xs) (j : Nat) (hj : j ≤ xs.length) : Kd.Q k42 42 w b ok (.slice A j j) (xs.take j) := by
  obtain ⟨h0, inner, ⟨hl, ho⟩, hr⟩ := h
  have e : (xs.take j).length = j := by rw [List.length_take]; omega
  refine ⟨fun k hk => h0 k (by cases A with | none => simp [Value.ownBlock] at hk | some a => simpa [Value.ownBlock] using hk), inner.take (j * k42.sz), ⟨by rw [List.length_take, e, hl]; exact Nat.min_eq_left (Nat.mul_le_mul_right _ hj), ?_⟩, ?_⟩
  · rw [e]
    rcases ho with ⟨h1, h2⟩ | ⟨g, cap, cur, h1, h2, h3, h4, h5, h6, h7⟩
    · injection h1 with ha _ _
      have : j = 0 := by omega
      subst ha; subst this
      exact .inl ⟨rfl, none, rfl, fun a ha => by cases ha⟩
    · injection h1 with ha _ _
      subst ha
      refine .inr ⟨g, 0, j, cur, by rw [Nat.zero_mul], h2, h3, Nat.le_refl _, by rw [Nat.zero_add]; omega, by rw [Nat.zero_add, h6]; exact Nat.mul_le_mul_right _ (by omega), ?_⟩
      rw [Nat.zero_mul, List.drop_zero, ← h7, List.take_take, Nat.min_eq_left (Nat.mul_le_mul_right _ hj)]
  · have hb : ∀ (m q : Nat), (some m : Option Nat) = (Value.slice A q q).ownBlock ↔ some m = (Value.slice A n c).ownBlock := fun m q => by cases A <;> simp [Value.ownBlock]
    refine (Kd.reps_take (hr.imp_ (fun x cs hx => k42.M_mono (fun k hk => ⟨hk.1, fun he => hk.2 ((hb k j).1 he)⟩) hx)) hj)
theorem Q_keepB {w1 : World} {b g : Nat} {v : Value} {xs : List S42} (h : Kd.Q k42 42 w1 b (fun _ => True) v xs) (hg : g < b) (j : Nat) (u : Value) : Kd.Q k42 42 (w1.setCell ⟨g, j, none⟩ u) b (fun _ => True) v xs :=
  Kd.Q_mono (Kd.Q_far (Kd.Q_bound h) (p := ⟨g, j, none⟩) (fun k hk => by have := hk.2.1; show k ≠ g; omega) u) (fun _ _ => trivial)
/-- The slots of a call that is done: l, x, and what the closures are handed. -/
structure Held (w : World) (gl gx : Nat) (A0 : Option Addr) (c0 : Nat) (l0 : List S42) (wh : Int) (key val fr tt : ByteArray) (en : Bool) (mo : Int) : Prop where
  l : w.heap[gl]? = some (.cells #[.slice A0 l0.length c0] 22 (0, 0))
  x : w.heap[gx]? = some (.cells #[.int .u8 wh, .string key, .string val, .string fr, .string tt, .bool en, .int .i64 mo] 26 (0, 0))
  r : Kd.C k42 w A0 l0.length l0
  c : l0.length ≤ c0
theorem Held.below {w w' : World} {gl gx : Nat} {A0 : Option Addr} {c0 : Nat} {l0 : List S42} {wh : Int} {key val fr tt : ByteArray} {en : Bool} {mo : Int} (h : Held w gl gx A0 c0 l0 wh key val fr tt en mo) (hb : Below w.heap.size w w') : Held w' gl gx A0 c0 l0 wh key val fr tt en mo :=
  ⟨blk_below h.l hb, blk_below h.x hb, Kd.C_below h.r hb, h.c⟩
set_option maxHeartbeats 4000000 in
set_option maxRecDepth 100000 in
theorem c3_no (gi gl gx go : Nat) (w : World) (hi : w.cell? ⟨gi, 0, none⟩ = some (.bool true)) :
    Calls Try.prog 34 #[.pointer (some ⟨gi, 0, none⟩), .pointer (some ⟨gl, 0, none⟩), .pointer (some ⟨gx, 0, none⟩), .pointer (some ⟨go, 0, none⟩)] w fun e w' => e = .panicked [{ v := .iface 30 (.int .i64 8), recovered := false }] ∧ w' = w := by
  go_enter Try.func34, Try.ntmps34
  go_wp2_with (go_at_call 31; refine (must_no _ _).mono ?_; rintro e w' ⟨rfl, rfl⟩)
  exact ⟨rfl, rfl, rfl⟩
set_option maxHeartbeats 4000000 in
set_option maxRecDepth 100000 in
theorem c3_yes (gi gl gx go : Nat) {A0 : Option Addr} {c0 : Nat} {l0 : List S42} {wh : Int} {key val fr tt : ByteArray} {en : Bool} {mo : Int} (vo : Value) (k : Nat) (r1 : List S42) (r2 : Int) (w : World) (hi : w.cell? ⟨gi, 0, none⟩ = some (.bool false)) (H : Held w gl gx A0 c0 l0 wh key val fr tt en mo) (ho : w.heap[go]? = some (.cells #[vo] 22 (0, 0))) (h : cells_Put.f k l0 key val = some (r1, r2)) :
    Calls Try.prog 34 #[.pointer (some ⟨gi, 0, none⟩), .pointer (some ⟨gl, 0, none⟩), .pointer (some ⟨gx, 0, none⟩), .pointer (some ⟨go, 0, none⟩)] w fun e w' => e = .returned (.tuple #[]) ∧ Ch w w' go ∧ ∃ v, w'.heap[go]? = some (.cells #[v] 22 (0, 0)) ∧ Kd.R k42 42 w' w.heap.size (fun _ => True) v r1 := by
  have hu26 := Try.underlying26
  have cl := (blk_cell H.l 0).trans rfl
  have cx1 := (blk_cell H.x 1).trans rfl
  have cx2 := (blk_cell H.x 2).trans rfl
  have hp := cells_Put.calls k A0 c0 l0 key val r1 r2 w H.r H.c h
  have HP := Aside0.mk hp
  have BO := Aside0.mk ho
  clear hp h H ho
  go_enter Try.func34, Try.ntmps34
  go_wp2_with (first | (go_at_call 31; refine (must_yes _ _).mono ?_; rintro e w' ⟨rfl, rfl⟩) | (go_at_call 35; refine HP.out.mono ?_; rintro e w1 ⟨v, rfl, hr, hb⟩; obtain ⟨Av, cv, rfl⟩ := cells_slice hr; have HR := Aside0.mk hr; have HB := Aside0.mk hb; have B1 := Aside0.mk (blk_below BO.out hb); clear hr hb; have z0 := (blk_cell B1.out 0).trans rfl; have f0 := blk_frozen B1.out 0))
  go_end0
  have hlt := blk_lt BO.out
  exact ⟨rfl, (Ch.of_below HB.out go).set 0 _, _, blk_put B1.out 0 _ rfl, R_keepB HR.out hlt 0 _⟩
set_option maxHeartbeats 4000000 in
set_option maxRecDepth 100000 in
theorem c4_no (gi gl gx go : Nat) (w : World) (hi : w.cell? ⟨gi, 0, none⟩ = some (.bool false)) :
    Calls Try.prog 36 #[.pointer (some ⟨gi, 0, none⟩), .pointer (some ⟨gl, 0, none⟩), .pointer (some ⟨gx, 0, none⟩), .pointer (some ⟨go, 0, none⟩)] w fun e w' => e = .panicked [{ v := .iface 30 (.int .i64 7), recovered := false }] ∧ w' = w := by
  go_enter Try.func36, Try.ntmps36
  go_wp2_with (go_at_call 31; refine (must_no _ _).mono ?_; rintro e w' ⟨rfl, rfl⟩)
  exact ⟨rfl, rfl, rfl⟩
set_option maxHeartbeats 4000000 in
set_option maxRecDepth 100000 in
theorem c4_yes (gi gl gx go : Nat) {A0 : Option Addr} {c0 : Nat} {l0 : List S42} {wh : Int} {key val fr tt : ByteArray} {en : Bool} {mo : Int} (vo : Value) (k : Nat) (r1 : List S42) (r2 : Int) (w : World) (hi : w.cell? ⟨gi, 0, none⟩ = some (.bool true)) (H : Held w gl gx A0 c0 l0 wh key val fr tt en mo) (ho : w.heap[go]? = some (.cells #[vo] 22 (0, 0))) (h : cells_Put.f k l0 key val = some (r1, r2)) :
    Calls Try.prog 36 #[.pointer (some ⟨gi, 0, none⟩), .pointer (some ⟨gl, 0, none⟩), .pointer (some ⟨gx, 0, none⟩), .pointer (some ⟨go, 0, none⟩)] w fun e w' => e = .returned (.tuple #[]) ∧ Ch w w' go ∧ ∃ v, w'.heap[go]? = some (.cells #[v] 22 (0, 0)) ∧ Kd.R k42 42 w' w.heap.size (fun _ => True) v r1 := by
  have hu26 := Try.underlying26
  have cl := (blk_cell H.l 0).trans rfl
  have cx1 := (blk_cell H.x 1).trans rfl
  have cx2 := (blk_cell H.x 2).trans rfl
  have hp := cells_Put.calls k A0 c0 l0 key val r1 r2 w H.r H.c h
  have HP := Aside0.mk hp
  have BO := Aside0.mk ho
  clear hp h H ho
  go_enter Try.func36, Try.ntmps36
  go_wp2_with (first | (go_at_call 31; refine (must_yes _ _).mono ?_; rintro e w' ⟨rfl, rfl⟩) | (go_at_call 35; refine HP.out.mono ?_; rintro e w1 ⟨v, rfl, hr, hb⟩; obtain ⟨Av, cv, rfl⟩ := cells_slice hr; have HR := Aside0.mk hr; have HB := Aside0.mk hb; have B1 := Aside0.mk (blk_below BO.out hb); clear hr hb; have z0 := (blk_cell B1.out 0).trans rfl; have f0 := blk_frozen B1.out 0))
  go_end0
  have hlt := blk_lt BO.out
  exact ⟨rfl, (Ch.of_below HB.out go).set 0 _, _, blk_put B1.out 0 _ rfl, R_keepB HR.out hlt 0 _⟩
set_option maxHeartbeats 4000000 in
set_option maxRecDepth 100000 in
theorem c5_no (gi gl gx go : Nat) (w : World) (hi : w.cell? ⟨gi, 0, none⟩ = some (.bool false)) :
    Calls Try.prog 37 #[.pointer (some ⟨gi, 0, none⟩), .pointer (some ⟨gl, 0, none⟩), .pointer (some ⟨gx, 0, none⟩), .pointer (some ⟨go, 0, none⟩)] w fun e w' => e = .panicked [{ v := .iface 30 (.int .i64 7), recovered := false }] ∧ w' = w := by
  go_enter Try.func37, Try.ntmps37
  go_wp2_with (go_at_call 31; refine (must_no _ _).mono ?_; rintro e w' ⟨rfl, rfl⟩)
  exact ⟨rfl, rfl, rfl⟩
set_option maxHeartbeats 4000000 in
set_option maxRecDepth 100000 in
theorem c5_yes (gi gl gx go : Nat) {A0 : Option Addr} {c0 : Nat} {l0 : List S42} {wh : Int} {key val fr tt : ByteArray} {en : Bool} {mo : Int} (vo : Value) (k : Nat) (r1 : List S42) (r2 : Int) (w : World) (hi : w.cell? ⟨gi, 0, none⟩ = some (.bool true)) (H : Held w gl gx A0 c0 l0 wh key val fr tt en mo) (ho : w.heap[go]? = some (.cells #[vo] 22 (0, 0))) (h : cells_Delete.f k l0 key = some (r1, r2)) :
    Calls Try.prog 37 #[.pointer (some ⟨gi, 0, none⟩), .pointer (some ⟨gl, 0, none⟩), .pointer (some ⟨gx, 0, none⟩), .pointer (some ⟨go, 0, none⟩)] w fun e w' => e = .returned (.tuple #[]) ∧ Ch w w' go ∧ ∃ v, w'.heap[go]? = some (.cells #[v] 22 (0, 0)) ∧ Kd.R k42 42 w' w.heap.size (fun _ => True) v r1 := by
  have hu26 := Try.underlying26
  have cl := (blk_cell H.l 0).trans rfl
  have cx1 := (blk_cell H.x 1).trans rfl
  have cx2 := (blk_cell H.x 2).trans rfl
  have hp := cells_Delete.calls k A0 c0 l0 key r1 r2 w H.r H.c h
  have HP := Aside0.mk hp
  have BO := Aside0.mk ho
  clear hp h H ho
  go_enter Try.func37, Try.ntmps37
  go_wp2_with (first | (go_at_call 31; refine (must_yes _ _).mono ?_; rintro e w' ⟨rfl, rfl⟩) | (go_at_call 38; refine HP.out.mono ?_; rintro e w1 ⟨v, rfl, hr, hb⟩; obtain ⟨Av, cv, rfl⟩ := cells_slice hr; have HR := Aside0.mk hr; have HB := Aside0.mk hb; have B1 := Aside0.mk (blk_below BO.out hb); clear hr hb; have z0 := (blk_cell B1.out 0).trans rfl; have f0 := blk_frozen B1.out 0))
  go_end0
  have hlt := blk_lt BO.out
  exact ⟨rfl, (Ch.of_below HB.out go).set 0 _, _, blk_put B1.out 0 _ rfl, R_keepB HR.out hlt 0 _⟩
set_option maxHeartbeats 4000000 in
set_option maxRecDepth 100000 in
theorem c6_no (gl gx gr : Nat) {A0 : Option Addr} {c0 : Nat} {l0 : List S42} {wh : Int} {key val fr tt : ByteArray} {en : Bool} {mo : Int} (k : Nat) (s : Bool) (w : World) (H : Held w gl gx A0 c0 l0 wh key val fr tt en mo) (hs : span_Right.f k fr tt en = some s) (hn : ¬ (s = true ∧ 1 ≤ mo)) :
    Calls Try.prog 39 #[.pointer (some ⟨gx, 0, none⟩), .pointer (some ⟨gl, 0, none⟩), .pointer (some ⟨gr, 0, none⟩)] w fun e w' => e = .panicked [{ v := .iface 30 (.int .i64 2), recovered := false }] ∧ Below w.heap.size w w' := by
  have hu26 := Try.underlying26
  have hu24 := Try.underlying24
  have BX := Aside0.mk H.x
  have cx3 := (blk_cell H.x 3).trans rfl
  have cx4 := (blk_cell H.x 4).trans rfl
  have cx5 := (blk_cell H.x 5).trans rfl
  have HS := Aside0.mk (span_Right.calls k fr tt en s w hs)
  clear H hs
  cases s
  · clear hn
    go_enter Try.func39, Try.ntmps39
    go_wp2_with (first | (go_at_call 40; refine HS.out.mono ?_; rintro e w1 ⟨rfl, hb⟩; have HB := Aside0.mk hb; have B1 := Aside0.mk (blk_below BX.out hb); clear hb; have z6 := (blk_cell B1.out 6).trans rfl) | (go_at_call 31; refine (must_no _ _).mono ?_; rintro e w' ⟨rfl, rfl⟩))
    exact ⟨rfl, rfl, HB.out⟩
  · have hd : decide (1 ≤ mo) = false := decide_eq_false (fun h => hn ⟨rfl, h⟩)
    clear hn
    go_enter Try.func39, Try.ntmps39
    go_wp2_with (first | (go_at_call 40; refine HS.out.mono ?_; rintro e w1 ⟨rfl, hb⟩; have HB := Aside0.mk hb; have B1 := Aside0.mk (blk_below BX.out hb); clear hb; have z6 := (blk_cell B1.out 6).trans rfl) | (go_at_call 31; refine (must_no _ _).mono ?_; rintro e w' ⟨rfl, rfl⟩))
    exact ⟨rfl, rfl, HB.out⟩
set_option maxHeartbeats 4000000 in
set_option maxRecDepth 100000 in
theorem c6_yes (gl gx gr : Nat) {A0 : Option Addr} {c0 : Nat} {l0 : List S42} {wh : Int} {key val fr tt : ByteArray} {en : Bool} {mo : Int} (k : Nat) (all : List S42) (w : World) (H : Held w gl gx A0 c0 l0 wh key val fr tt en mo) (hs : span_Right.f k fr tt en = some true) (hm : 1 ≤ mo) (hp : cells_Part.f k l0 fr tt en = some all) (hall : all.length < 4398046511104) (hxr : gx ≠ gr) (hlr : gl ≠ gr) (hr : w.heap[gr]? = some (.cells #[.int .i64 0, .int .u8 wh, .int .i64 0, .int .u64 0, .bool false, .string ⟨#[]⟩, .slice none 0 0] 33 (0, 0))) :
    Calls Try.prog 39 #[.pointer (some ⟨gx, 0, none⟩), .pointer (some ⟨gl, 0, none⟩), .pointer (some ⟨gr, 0, none⟩)] w fun e w' => e = .returned (.tuple #[]) ∧ Ch w w' gr ∧ ∃ v, w'.heap[gr]? = some (.cells #[.int .i64 0, .int .u8 wh, .int .i64 0, .int .u64 0, .bool (decide (mn (all.length : Int) mo < (all.length : Int))), .string ⟨#[]⟩, v] 33 (0, 0)) ∧ Kd.Q k42 42 w' w.heap.size (fun _ => True) v (all.take mo.toNat) := by
  have hu26 := Try.underlying26
  have hu24 := Try.underlying24
  have hu33 := Try.underlying33
  have BX := Aside0.mk H.x
  have BL := Aside0.mk H.l
  have BR := Aside0.mk hr
  have cx3 := (blk_cell H.x 3).trans rfl
  have cx4 := (blk_cell H.x 4).trans rfl
  have cx5 := (blk_cell H.x 5).trans rfl
  have HS := Aside0.mk (span_Right.calls k fr tt en true w hs)
  have HP := Aside0.mk (fun w1 (hb : Below w.heap.size w w1) => cells_Part.calls k A0 c0 l0 fr tt en all w1 (Kd.C_below H.r hb) H.c hp)
  have hd : decide (1 ≤ mo) = true := decide_eq_true hm
  have HM := Aside0.mk hm
  have HA := Aside0.mk hall
  obtain ⟨i0, hi0, _⟩ := Option.map_eq_some_iff.1 info42
  have HI := Aside0.mk hi0
  clear H hs hp hr hm hall hi0
  by_cases hlt : mo < (all.length : Int)
  · have HL := Aside0.mk hlt
    go_enter Try.func39, Try.ntmps39
    go_wp2_with (first | (go_at_call 40; refine HS.out.mono ?_; rintro e w1 ⟨rfl, hb⟩; have HB := Aside0.mk hb; have B1 := Aside0.mk (blk_below BX.out hb); have L1 := Aside0.mk (blk_below BL.out hb); have R1 := Aside0.mk (blk_below BR.out hb); clear hb; have z3 := (blk_cell B1.out 3).trans rfl; have z4 := (blk_cell B1.out 4).trans rfl; have z5 := (blk_cell B1.out 5).trans rfl; have z6 := (blk_cell B1.out 6).trans rfl; have zl := (blk_cell L1.out 0).trans rfl) | (go_at_call 31; refine (must_yes _ _).mono ?_; rintro e w' ⟨rfl, rfl⟩) | (go_at_call 41; refine (HP.out _ HB.out).mono ?_; rintro e w2 ⟨v, rfl, hr, hb⟩; obtain ⟨Av, cv, rfl⟩ := cells_slice hr; have hcut := GpMore.cut_to3 (P := Try.prog) 22 42 .i64 .i64 Try.underlying22 HI.out Av all.length cv (mo) (by have := HM.out; omega) (by have := HL.out; omega) (Kd.R_reads' hr).2.1; have HR := Aside0.mk hr; have HB2 := Aside0.mk hb; have B2 := Aside0.mk (blk_below B1.out hb); have R2 := Aside0.mk (blk_below R1.out hb); clear hb hr; have y6 := (blk_cell B2.out 6).trans rfl; have x6 := (blk_cell R2.out 6).trans rfl; have x4 := (blk_cell R2.out 4).trans rfl; have f6 := blk_frozen R2.out 6; have f4 := blk_frozen R2.out 4))
    go_end0
    have hg := blk_lt BR.out
    have hg1 := blk_lt R1.out
    have e1 : decide (mn (all.length : Int) mo < (all.length : Int)) = true := decide_eq_true (by have := HL.out; unfold mn; rw [if_pos this]; exact this)
    have e2 : all.take mo.toNat = all.take (mo).toNat := rfl
    rw [e1, e2]
    exact ⟨rfl, ((Ch.of_below (below_step HB.out HB2.out) gr).set 6 _).set 4 _, _, blk_put (blk_put R2.out 6 _ rfl) 4 _ rfl, Q_keepB (Q_keepB (Kd.Q_lower (Q_cut HR.out (mo).toNat (by have := HM.out; have := HL.out; omega)) HB.out.size) hg 6 _) hg 4 _⟩
  · have HL := Aside0.mk hlt
    go_enter Try.func39, Try.ntmps39
    go_wp2_with (first | (go_at_call 40; refine HS.out.mono ?_; rintro e w1 ⟨rfl, hb⟩; have HB := Aside0.mk hb; have B1 := Aside0.mk (blk_below BX.out hb); have L1 := Aside0.mk (blk_below BL.out hb); have R1 := Aside0.mk (blk_below BR.out hb); clear hb; have z3 := (blk_cell B1.out 3).trans rfl; have z4 := (blk_cell B1.out 4).trans rfl; have z5 := (blk_cell B1.out 5).trans rfl; have z6 := (blk_cell B1.out 6).trans rfl; have zl := (blk_cell L1.out 0).trans rfl) | (go_at_call 31; refine (must_yes _ _).mono ?_; rintro e w' ⟨rfl, rfl⟩) | (go_at_call 41; refine (HP.out _ HB.out).mono ?_; rintro e w2 ⟨v, rfl, hr, hb⟩; obtain ⟨Av, cv, rfl⟩ := cells_slice hr; have hcut := GpMore.cut_to3 (P := Try.prog) 22 42 .i64 .i64 Try.underlying22 HI.out Av all.length cv ((all.length : Int)) (by omega) (Int.le_refl _) (Kd.R_reads' hr).2.1; have HR := Aside0.mk hr; have HB2 := Aside0.mk hb; have B2 := Aside0.mk (blk_below B1.out hb); have R2 := Aside0.mk (blk_below R1.out hb); clear hb hr; have y6 := (blk_cell B2.out 6).trans rfl; have x6 := (blk_cell R2.out 6).trans rfl; have x4 := (blk_cell R2.out 4).trans rfl; have f6 := blk_frozen R2.out 6; have f4 := blk_frozen R2.out 4))
    go_end0
    have hg := blk_lt BR.out
    have hg1 := blk_lt R1.out
    have e1 : decide (mn (all.length : Int) mo < (all.length : Int)) = false := decide_eq_false (by have := HL.out; unfold mn; rw [if_neg (by omega)]; omega)
    have e2 : all.take mo.toNat = all.take ((all.length : Int)).toNat := by have := HL.out; rw [Int.toNat_natCast, List.take_length]; exact List.take_of_length_le (by omega)
    rw [e1, e2]
    exact ⟨rfl, ((Ch.of_below (below_step HB.out HB2.out) gr).set 6 _).set 4 _, _, blk_put (blk_put R2.out 6 _ rfl) 4 _ rfl, Q_keepB (Q_keepB (Kd.Q_lower (Q_cut HR.out ((all.length : Int)).toNat (by have := HM.out; have := HL.out; omega)) HB.out.size) hg 6 _) hg 4 _⟩
/-! ### a copy of rows of cells -/
def flat (ys : List S42) : List Value := ys.flatMap fun y => [.string y.f0, .string y.f1]
theorem flat_len (ys : List S42) : (flat ys).length = ys.length * 2 := by
  unfold flat
  induction ys with
  | nil => rfl
  | cons y ys ih => rw [List.flatMap_cons, List.length_append, ih, List.length_cons]; simp; omega
theorem flat_drop : ∀ (ys : List S42) (j : Nat), (flat ys).drop (j * 2) = flat (ys.drop j)
  | _, 0 => by simp
  | [], j + 1 => by simp [flat]
  | y :: ys, j + 1 => by
    rw [List.drop_succ_cons, ← flat_drop ys j, Nat.succ_mul, show flat (y :: ys) = [Value.string y.f0, .string y.f1] ++ flat ys from rfl, show j * 2 + 2 = [Value.string y.f0, .string y.f1].length + j * 2 by simp; omega, List.drop_append]
    simp
theorem flat_reps (w : World) (base : Nat) (ok : Nat → Prop) (ys : List S42) : Reps (k42.M w base ok) k42.sz ys (flat ys) := by
  refine ⟨flat_len ys, fun j p hp => ?_⟩
  show k42.M w base ok p (((flat ys).drop (j * 2)).take 2)
  obtain ⟨hj, rfl⟩ := List.getElem?_eq_some_iff.1 hp
  rw [flat_drop, List.drop_eq_getElem_cons hj, show flat (ys[j] :: ys.drop (j + 1)) = [Value.string ys[j].f0, .string ys[j].f1] ++ flat (ys.drop (j + 1)) from rfl]
  exact k42_mkM _ _ _ _
theorem flat_cells {w : World} {A : Option Addr} {ys : List S42} (h : Kd.C k42 w A ys.length ys) (h0 : 0 < ys.length) : ∃ ad, A = some ad ∧ ∀ j v, (flat ys)[j]? = some v → w.cell? (ad.add j) = some v := by
  obtain ⟨ad, e, hc⟩ := h.2.2 h0
  refine ⟨ad, e, fun j v hv => ?_⟩
  have hj : j < ys.length * 2 := by rw [← flat_len]; exact (List.getElem?_eq_some_iff.1 hv).1
  have hq : j / 2 < ys.length := by omega
  obtain ⟨c, hcl, hK, hcell⟩ := hc (j / 2) _ (List.getElem?_eq_getElem hq)
  rw [k42_open hK] at hcell
  have e1 : j = j / 2 * 2 + j % 2 := by omega
  have e2 : (flat ys)[j]? = [Value.string ys[j / 2].f0, .string ys[j / 2].f1][j % 2]? := by
    have h3 : (flat ys)[j]? = ((flat ys).drop (j / 2 * 2))[j % 2]? := by rw [List.getElem?_drop]; congr 1
    rw [h3, flat_drop, List.drop_eq_getElem_cons hq, show flat (ys[j / 2] :: ys.drop (j / 2 + 1)) = [Value.string ys[j / 2].f0, .string ys[j / 2].f1] ++ flat (ys.drop (j / 2 + 1)) from rfl, List.getElem?_append_left (by simp; omega)]
  have h4 := hcell (j % 2) v (by rw [← e2]; exact hv)
  rw [e1]
  exact h4
theorem copy_cells {ops : Array Oper} {rest : List Oper} {o : Oper} {a : Act} {Q : Exit → Act → World → Prop} {w0 W : World} (base : Nat) (hgd : o.guard = none) (d s : Operand)
    (ho : o.op = .call { callee := .builtin .copy, args := #[d, s], argTypes := #[22, 22] }) (v : Value) (xs ys : List S42) (A : Option Addr) (c : Nat) (hd : a.eval d = v) (hs : a.eval s = .slice A ys.length c)
    (HO : Kd.R k42 42 W base (fun _ => True) v xs) (HR : Kd.C k42 W A ys.length ys) (hle : xs.length = ys.length) (HB : Below base w0 W)
    (h : ∀ w1, Kd.R k42 42 w1 base (fun _ => True) v ys → Below base w0 w1 → wpList Try.prog ops Q rest (a.put o.dst (goInt ys.length)) w1) : wpList Try.prog ops Q (o :: rest) a W := by
  obtain ⟨i0, hi, hzz⟩ := Option.map_eq_some_iff.1 info42
  simp only [Prod.mk.injEq] at hzz
  obtain ⟨_, hz1, _⟩ := hzz
  have fin : ∀ w1, (Builtin.copy_ #[22, 22] o.type #[v, .slice A ys.length c]).run Try.prog W = .ok (goInt ys.length) w1 → wpList Try.prog ops Q rest (a.put o.dst (goInt ys.length)) w1 → wpList Try.prog ops Q (o :: rest) a W := fun w1 hr hn => by
    refine wpList_plain hgd fun K hK => ?_
    unfold Oper.wp
    simp [execOp, ho, resolve, invoke, builtin, hd, hs, hr, Result.andThen]
    exact hK _ _ hn
  obtain ⟨h0, inner, ⟨hl, hown⟩, hreps⟩ := HO
  rcases hown with ⟨rfl, hn⟩ | ⟨g, cap, cur, rfl, hg, hh, hnc, hcm, hcs, htake⟩
  · have hy : ys = [] := List.eq_nil_of_length_eq_zero (by omega)
    subst hy
    refine fin W ?_ (h W (Kd.R_nil _ _ _ _ _) HB)
    have hl0 : ∀ (x : Addr), (loadCells x 0).run Try.prog W = .ok #[] W := fun x => by simpa using run_loadCells_list (P := Try.prog) W x [] (by simp)
    cases A <;> simp [Builtin.copy_, run_underlying Try.underlying22, Builtin.lenOf, Builtin.firstCells, sizeOf, typeInfo, hi, storeCells, hl0]
  · rcases Nat.eq_zero_or_pos ys.length with hy0 | hy0
    · have hy : ys = [] := List.eq_nil_of_length_eq_zero hy0
      subst hy
      have hx : xs = [] := List.eq_nil_of_length_eq_zero (by simpa using hle)
      subst hx
      refine fin W ?_ (h W ⟨h0, inner, ⟨hl, .inr ⟨g, cap, cur, rfl, hg, hh, hnc, hcm, hcs, htake⟩⟩, hreps⟩ HB)
      have hl0 : ∀ (x : Addr), (loadCells x 0).run Try.prog W = .ok #[] W := fun x => by simpa using run_loadCells_list (P := Try.prog) W x [] (by simp)
      cases A <;> simp [Builtin.copy_, run_underlying Try.underlying22, Builtin.lenOf, Builtin.firstCells, sizeOf, typeInfo, hi, storeCells, hl0]
    · obtain ⟨ad, rfl, hcell⟩ := flat_cells HR hy0
      have esz : k42.sz = 2 := rfl
      rw [esz] at hcs htake hl hreps
      have hfl := flat_len ys
      have hload := run_loadCells_list (P := Try.prog) W ad (flat ys) hcell
      have hone : ∀ v ∈ flat ys, v.oneCell' = true := fun v hv => by
        obtain ⟨y, _, hy⟩ := List.mem_flatMap.1 hv
        simp at hy
        rcases hy with rfl | rfl <;> rfl
      have hst := run_storeCells_at Try.prog g 0 42 (flat ys) 0 cur W hh (by rw [hfl, hcs]; omega) hone
      refine fin (W.setRow g (cur.toList.take (0 + 0) ++ flat ys ++ cur.toList.drop (0 + 0 + (flat ys).length)).toArray) ?_ ?_
      · have e2 : i0.size = 2 := by rw [hz1]
        rw [hfl] at hload
        simp [Builtin.copy_, run_underlying Try.underlying22, Builtin.lenOf, Builtin.firstCells, sizeOf, typeInfo, hi, e2, hle, hload]
        have h9 := hst
        simp at h9
        rw [h9]
        rfl
      · refine h _ ⟨h0, flat ys, ⟨by rw [flat_len]; rfl, .inr ⟨g, cap, _, by rw [hle], hg, setRow_heap W g cur _ 42 (0, 0) hh, by omega, hcm, ?_, ?_⟩⟩, flat_reps _ _ _ ys⟩ (below_setRow HB hg _)
        · rw [List.size_toArray, List.length_append, List.length_append, List.length_take, List.length_drop, hfl, Array.length_toList, hcs]
          show _ = cap * 2
          omega
        · show ((cur.toList.take (0 + 0) ++ flat ys ++ cur.toList.drop (0 + 0 + (flat ys).length))).take (ys.length * 2) = flat ys
          rw [Nat.add_zero, List.take_zero, List.nil_append]
          exact List.take_left' hfl
theorem do_results (tmps : Array Value) (w : World) (go gr : Nat) (v0 : Value) (cs : Array Value) (h4 : tmps.getD 4 undef = .pointer (some ⟨go, 0, none⟩)) (h5 : tmps.getD 5 undef = .pointer (some ⟨gr, 0, none⟩)) (ho : w.heap[go]? = some (.cells #[v0] 22 (0, 0))) (hr : w.heap[gr]? = some (.cells cs 33 (0, 0))) (hs : cs.size = 7) : (results Try.f12 tmps).run Try.prog w = .ok (.tuple #[v0, .agg cs]) w := by
  have hres : Try.f12.results = #[.cell 4 22, .cell 5 33] := by kernel_rfl
  have h4' : tmps[4]?.getD undef = .pointer (some ⟨go, 0, none⟩) := by simpa using h4
  have h5' : tmps[5]?.getD undef = .pointer (some ⟨gr, 0, none⟩) := by simpa using h5
  have hc := (blk_cell ho 0).trans rfl
  have e1 := run_loadVar_row (P := Try.prog) w gr 33 33 cs (0, 0) _ hr Try.underlying33 rfl (by rw [hs]; kernel_rfl)
  have e0 : (loadVar 22 ⟨go, 0, none⟩).run Try.prog w = .ok v0 w := by simp [loadVar, isAgg, run_underlying Try.underlying22, hc]
  simp [results, hres, h4', h5', asAddr, e1, e0]

/-- Do: the document's map and reply. -/
def model_Do.f (k : Nat) (l0 : List S42) (a1_0 : Int) (a1_1 a1_2 a1_3 a1_4 : ByteArray) (a1_5 : Bool) (a1_6 : Int) : Option (List S42 × Int × Int × Int × Int × Bool × ByteArray × List S42) :=
  (cells_Right.f k l0).bind fun rt => if rt = true then (if l0.length < 4398046511104 then
    ((model_key.f a1_0 a1_1 a1_2 a1_3 a1_4 a1_5 a1_6).bind fun hm => if hm.1 = true ∧ hm.2 = false then some (l0, 0, a1_0, 3, 0, false, ⟨#[]⟩, [])
      else (cells_Find.f k l0 a1_1).bind fun vi =>
        if a1_0 = 2 then some (l0, 0, a1_0, 0, 0, vi.2, vi.1, [])
        else if a1_0 = 3 then (if vi.2 = true then some (l0, 0, a1_0, 8, 0, false, ⟨#[]⟩, []) else (cells_Put.f k l0 a1_1 a1_2).bind fun p => some (p.1, 0, a1_0, 0, 0, false, ⟨#[]⟩, []))
        else if a1_0 = 4 then (if vi.2 = true then (cells_Put.f k l0 a1_1 a1_2).bind fun p => some (p.1, 0, a1_0, 0, 0, false, ⟨#[]⟩, []) else some (l0, 0, a1_0, 7, 0, false, ⟨#[]⟩, []))
        else if a1_0 = 5 then (if vi.2 = true then (cells_Delete.f k l0 a1_1).bind fun p => some (p.1, 0, a1_0, 0, 0, false, ⟨#[]⟩, []) else some (l0, 0, a1_0, 7, 0, false, ⟨#[]⟩, []))
        else if a1_0 = 6 then (span_Right.f k a1_3 a1_4 a1_5).bind fun s => if s = true ∧ 1 ≤ a1_6 then (cells_Part.f k l0 a1_3 a1_4 a1_5).bind fun all => some (l0, 0, a1_0, 0, 0, decide (mn (all.length : Int) a1_6 < (all.length : Int)), ⟨#[]⟩, all.take a1_6.toNat) else some (l0, 0, a1_0, 2, 0, false, ⟨#[]⟩, [])
        else some (l0, 0, a1_0, 2, 0, false, ⟨#[]⟩, [])) else none)
  else some ([], 0, a1_0, 100, 0, false, ⟨#[]⟩, [])
theorem LeO.if_ {α : Type} {c : Prop} [Decidable c] {a b a' b' : Option α} (h1 : LeO a a') (h2 : LeO b b') : LeO (if c then a else b) (if c then a' else b') := by split <;> assumption
theorem model_Do.mono : ∀ a0 a1 a2 a3 a4 a5 a6 a7 k, LeO (model_Do.f k a0 a1 a2 a3 a4 a5 a6 a7) (model_Do.f (k + 1) a0 a1 a2 a3 a4 a5 a6 a7) := by
  intro a0 a1 a2 a3 a4 a5 a6 a7 k
  unfold model_Do.f
  exact LeO.bind (cells_Right.mono _ _) fun _ => LeO.if_ (LeO.if_ (LeO.bind (LeO.refl _) fun _ => LeO.if_ (LeO.refl _) (LeO.bind (cells_Find.mono _ _ _) fun _ => LeO.if_ (LeO.refl _) (LeO.if_ (LeO.if_ (LeO.refl _) (LeO.bind (cells_Put.mono _ _ _ _) fun _ => LeO.refl _)) (LeO.if_ (LeO.if_ (LeO.bind (cells_Put.mono _ _ _ _) fun _ => LeO.refl _) (LeO.refl _)) (LeO.if_ (LeO.if_ (LeO.bind (cells_Delete.mono _ _ _) fun _ => LeO.refl _) (LeO.refl _)) (LeO.if_ (LeO.bind (span_Right.mono _ _ _ _) fun _ => LeO.if_ (LeO.bind (cells_Part.mono _ _ _ _ _) fun _ => LeO.refl _) (LeO.refl _)) (LeO.refl _))))))) (LeO.refl _)) (LeO.refl _)
/-- What Do's walk ends with. -/
def DoPost (w : World) (r1 : List S42) (r2 r3 r4 r5 : Int) (r6 : Bool) (r7 : ByteArray) (r8 : List S42) (e : Ending) (w' : World) : Prop :=
  ∃ v0_ v1_ : Value, e = .returned (.tuple #[v0_, .agg #[.int .i64 r2, .int .u8 r3, .int .i64 r4, .int .u64 r5, .bool r6, .string r7, v1_]]) ∧ Kd.R k42 42 w' w.heap.size (fun k_ => some k_ ≠ v1_.ownBlock) v0_ r1 ∧ Kd.Q k42 42 w' w.heap.size (fun k_ => some k_ ≠ v0_.ownBlock) v1_ r8 ∧ Below w.heap.size w w'
theorem R_ok {w : World} {b : Nat} {v : Value} {xs : List S42} {ok' : Nat → Prop} (h : Kd.R k42 42 w b (fun _ => True) v xs) (ho : ∀ j, v.ownBlock = some j → ok' j) : Kd.R k42 42 w b ok' v xs := by
  obtain ⟨_, inner, hs, hr⟩ := h
  exact ⟨ho, inner, hs, hr.imp_ (fun p c hp => by rw [k42_openM hp]; exact k42_mkM _ _ _ _)⟩
theorem Q_ok {w : World} {b : Nat} {v : Value} {xs : List S42} {ok' : Nat → Prop} (h : Kd.Q k42 42 w b (fun _ => True) v xs) (ho : ∀ j, v.ownBlock = some j → ok' j) : Kd.Q k42 42 w b ok' v xs := by
  obtain ⟨_, inner, hs, hr⟩ := h
  exact ⟨ho, inner, hs, hr.imp_ (fun p c hp => by rw [k42_openM hp]; exact k42_mkM _ _ _ _)⟩
theorem R_nn {w : World} {b : Nat} {v : Value} {xs : List S42} (h : Kd.R k42 42 w b (fun _ => True) v xs) : Kd.R k42 42 w b (fun k_ => some k_ ≠ (Value.slice none 0 0).ownBlock) v xs :=
  Kd.R_mono h (fun _ _ => by simp [Value.ownBlock])
section
variable (A0 : Option Addr) (c0 : Nat) (l0 : List S42) (wh : Int) (key val fr tt : ByteArray) (en : Bool) (mo : Int) (w : World)
def doW : World := (((w.alloc (.cells #[.slice A0 l0.length c0] 22)).alloc (.cells #[.int .u8 wh, .string key, .string val, .string fr, .string tt, .bool en, .int .i64 mo] 26)).alloc (.cells #[.slice none 0 0] 22)).alloc (.cells #[.int .i64 0, .int .u8 wh, .int .i64 0, .int .u64 0, .bool false, .string ⟨#[]⟩, .slice none 0 0] 33)
theorem doW_facts (hr : Kd.C k42 w A0 l0.length l0) (hc : l0.length ≤ c0) :
    Held (doW A0 c0 l0 wh key val fr tt en mo w) w.heap.size (w.heap.size + 1) A0 c0 l0 wh key val fr tt en mo ∧
    (doW A0 c0 l0 wh key val fr tt en mo w).heap[w.heap.size + 1 + 1]? = some (.cells #[.slice none 0 0] 22 (0, 0)) ∧
    (doW A0 c0 l0 wh key val fr tt en mo w).heap[w.heap.size + 1 + 1 + 1]? = some (.cells #[.int .i64 0, .int .u8 wh, .int .i64 0, .int .u64 0, .bool false, .string ⟨#[]⟩, .slice none 0 0] 33 (0, 0)) ∧
    Below w.heap.size w (doW A0 c0 l0 wh key val fr tt en mo w) ∧ (doW A0 c0 l0 wh key val fr tt en mo w).heap.size = w.heap.size + 1 + 1 + 1 + 1 := by
  have hB : Below w.heap.size w (doW A0 c0 l0 wh key val fr tt en mo w) := by
    unfold doW
    exact below_alloc (below_alloc (below_alloc (below_alloc (Below.refl _ _) _) _) _) _
  have b1 := blk_new w (.cells #[.slice A0 l0.length c0] 22)
  have b2 := blk_new (w.alloc (.cells #[.slice A0 l0.length c0] 22)) (.cells #[.int .u8 wh, .string key, .string val, .string fr, .string tt, .bool en, .int .i64 mo] 26)
  have b3 := blk_new ((w.alloc (.cells #[.slice A0 l0.length c0] 22)).alloc (.cells #[.int .u8 wh, .string key, .string val, .string fr, .string tt, .bool en, .int .i64 mo] 26)) (.cells #[.slice none 0 0] 22)
  have b4 := blk_new (((w.alloc (.cells #[.slice A0 l0.length c0] 22)).alloc (.cells #[.int .u8 wh, .string key, .string val, .string fr, .string tt, .bool en, .int .i64 mo] 26)).alloc (.cells #[.slice none 0 0] 22)) (.cells #[.int .i64 0, .int .u8 wh, .int .i64 0, .int .u64 0, .bool false, .string ⟨#[]⟩, .slice none 0 0] 33)
  simp only [World.size_alloc] at b2 b3 b4
  refine ⟨⟨?_, ?_, Kd.C_below hr hB, hc⟩, ?_, ?_, hB, ?_⟩
  · exact blk_alloc (blk_alloc (blk_alloc b1 _) _) _
  · exact blk_alloc (blk_alloc b2 _) _
  · exact blk_alloc b3 _
  · exact b4
  · simp [doW, World.size_alloc]
end
/-! ### the end: what is told is laid once more over itself; the deferred call -/
def selfW (w3 : World) (go gr : Nat) (vo x0 x1 x2 x3 x4 x5 x6 : Value) : World :=
  ((((((((w3.setCell ⟨go, 0, none⟩ vo).setCell ⟨gr, 0, none⟩ x0).setCell ⟨gr, 1, none⟩ x1).setCell ⟨gr, 2, none⟩ x2).setCell ⟨gr, 3, none⟩ x3).setCell ⟨gr, 4, none⟩ x4).setCell ⟨gr, 5, none⟩ x5).setCell ⟨gr, 6, none⟩ x6).drew
section
variable {w w3 : World} {go gr : Nat} {vo vn x0 x1 x2 x3 x4 x5 x6 : Value}
theorem selfW_out (h : w3.heap[go]? = some (.cells #[vn] 22 (0, 0))) (hn : go ≠ gr) : (selfW w3 go gr vo x0 x1 x2 x3 x4 x5 x6).heap[go]? = some (.cells #[vo] 22 (0, 0)) := by
  unfold selfW
  refine blk_drew ?_
  iterate 7 refine blk_far ?_ hn _
  exact blk_put h 0 vo rfl
theorem selfW_r (h : w3.heap[gr]? = some (.cells #[x0, x1, x2, x3, x4, x5, x6] 33 (0, 0))) (hn : go ≠ gr) : (selfW w3 go gr vo x0 x1 x2 x3 x4 x5 x6).heap[gr]? = some (.cells #[x0, x1, x2, x3, x4, x5, x6] 33 (0, 0)) := by
  unfold selfW
  refine blk_drew ?_
  refine blk_put (cs := #[x0, x1, x2, x3, x4, x5, x6]) ?_ 6 _ rfl
  refine blk_put (cs := #[x0, x1, x2, x3, x4, x5, x6]) ?_ 5 _ rfl
  refine blk_put (cs := #[x0, x1, x2, x3, x4, x5, x6]) ?_ 4 _ rfl
  refine blk_put (cs := #[x0, x1, x2, x3, x4, x5, x6]) ?_ 3 _ rfl
  refine blk_put (cs := #[x0, x1, x2, x3, x4, x5, x6]) ?_ 2 _ rfl
  refine blk_put (cs := #[x0, x1, x2, x3, x4, x5, x6]) ?_ 1 _ rfl
  refine blk_put (cs := #[x0, x1, x2, x3, x4, x5, x6]) ?_ 0 _ rfl
  exact blk_far h (Ne.symm hn) _
theorem selfW_below (h : Below w.heap.size w w3) (ho : w.heap.size ≤ go) (hr : w.heap.size ≤ gr) : Below w.heap.size w (selfW w3 go gr vo x0 x1 x2 x3 x4 x5 x6) :=
  below_drew1 (below_set (below_set (below_set (below_set (below_set (below_set (below_set (below_set h ho) hr) hr) hr) hr) hr) hr) hr)
theorem selfW_R {b : Nat} {v : Value} {xs : List S42} (h : Kd.R k42 42 w3 b (fun _ => True) v xs) (ho : go < b) (hr : gr < b) : Kd.R k42 42 (selfW w3 go gr vo x0 x1 x2 x3 x4 x5 x6) b (fun _ => True) v xs := by
  unfold selfW
  refine Kd.R_drew ?_
  iterate 7 refine R_keepB ?_ hr _ _
  exact R_keepB h ho _ _
theorem selfW_Q {b : Nat} {v : Value} {xs : List S42} (h : Kd.Q k42 42 w3 b (fun _ => True) v xs) (ho : go < b) (hr : gr < b) : Kd.Q k42 42 (selfW w3 go gr vo x0 x1 x2 x3 x4 x5 x6) b (fun _ => True) v xs := by
  unfold selfW
  refine Kd.Q_drew ?_
  iterate 7 refine Q_keepB ?_ hr _ _
  exact Q_keepB h ho _ _
end
theorem do_ret {R : Ending → World → Prop} (tmps : Array Value) (w : World) (go gr : Nat) (v0 : Value) (cs : Array Value) (h4 : tmps.getD 4 undef = .pointer (some ⟨go, 0, none⟩)) (h5 : tmps.getD 5 undef = .pointer (some ⟨gr, 0, none⟩)) (ho : w.heap[go]? = some (.cells #[v0] 22 (0, 0))) (hr : w.heap[gr]? = some (.cells cs 33 (0, 0))) (hs : cs.size = 7) (hR : R (.returned (.tuple #[v0, .agg cs])) w) :
    Leaves Try.prog Try.f12 tmps R [] .returning w := ⟨_, do_results tmps w go gr v0 cs h4 h5 ho hr hs, hR⟩
theorem do_idle {R : Ending → World → Prop} (tmps : Array Value) (w : World) (gx go gr : Nat) (v0 : Value) (cs : Array Value) (h4 : tmps.getD 4 undef = .pointer (some ⟨go, 0, none⟩)) (h5 : tmps.getD 5 undef = .pointer (some ⟨gr, 0, none⟩)) (ho : w.heap[go]? = some (.cells #[v0] 22 (0, 0))) (hr : w.heap[gr]? = some (.cells cs 33 (0, 0))) (hs : cs.size = 7) (hR : R (.returned (.tuple #[v0, .agg cs])) w) :
    Leaves Try.prog Try.f12 tmps R [{ target := .fn (.func 29) #[.pointer (some ⟨gx, 0, none⟩), .pointer (some ⟨gr, 0, none⟩)], args := #[] }] .returning w := by
  refine leaves_cons (f := 29) (args := #[.pointer (some ⟨gx, 0, none⟩), .pointer (some ⟨gr, 0, none⟩)]) (by simp) (by simp [go_sem]) ?_
  refine (d1_idle gx gr w).mono ?_
  rintro e u' w'' ⟨rfl, rfl, rfl⟩
  exact do_ret tmps _ go gr v0 cs h4 h5 ho hr hs hR
theorem do_catch {R : Ending → World → Prop} (tmps : Array Value) (w : World) (gx go gr : Nat) (n wh : Int) (v0 : Value) (h4 : tmps.getD 4 undef = .pointer (some ⟨go, 0, none⟩)) (h5 : tmps.getD 5 undef = .pointer (some ⟨gr, 0, none⟩)) (hx : w.cell? ⟨gx, 0, none⟩ = some (.int .u8 wh)) (hgo : go ≠ gr) (ho : w.heap[go]? = some (.cells #[v0] 22 (0, 0))) (hr : w.heap[gr]? = some (.cells #[.int .i64 0, .int .u8 wh, .int .i64 0, .int .u64 0, .bool false, .string ⟨#[]⟩, .slice none 0 0] 33 (0, 0)))
    (hR : ∀ w', Ch w w' gr → R (.returned (.tuple #[v0, .agg #[.int .i64 0, .int .u8 wh, .int .i64 n, .int .u64 0, .bool false, .string ⟨#[]⟩, .slice none 0 0]])) w') :
    Leaves Try.prog Try.f12 tmps R [{ target := .fn (.func 29) #[.pointer (some ⟨gx, 0, none⟩), .pointer (some ⟨gr, 0, none⟩)], args := #[] }] (.panicking [{ v := .iface 30 (.int .i64 n), recovered := false }]) w := by
  refine leaves_cons (f := 29) (args := #[.pointer (some ⟨gx, 0, none⟩), .pointer (some ⟨gr, 0, none⟩)]) (by simp) (by simp [go_sem]) ?_
  refine (d1_catch gx gr n wh #[] w hx hr).mono ?_
  rintro e u' w'' ⟨rfl, rfl, hc, hb⟩
  exact do_ret tmps w'' go gr v0 _ h4 h5 (hc.blk ho hgo) hb rfl (hR w'' hc)
theorem Held.set {w' : World} {gl gx go : Nat} {A0 : Option Addr} {c0 : Nat} {l0 : List S42} {wh : Int} {key val fr tt : ByteArray} {en : Bool} {mo : Int} {v : Value} (h : Held w' gl gx A0 c0 l0 wh key val fr tt en mo) (hC : Kd.C k42 (w'.setCell ⟨go, 0, none⟩ v) A0 l0.length l0) (h1 : gl ≠ go) (h2 : gx ≠ go) :
    Held (w'.setCell ⟨go, 0, none⟩ v) gl gx A0 c0 l0 wh key val fr tt en mo := ⟨blk_far h.l h1 _, blk_far h.x h2 _, hC, h.c⟩
theorem blk_belowB {w w' : World} {b g : Nat} {o : Obj} (h : w.heap[g]? = some o) (hb : Below b w w') (hg : g < b) : w'.heap[g]? = some o := (hb.block g hg).trans h
theorem Held.belowB {w w' : World} {b gl gx : Nat} {A0 : Option Addr} {c0 : Nat} {l0 : List S42} {wh : Int} {key val fr tt : ByteArray} {en : Bool} {mo : Int} (h : Held w gl gx A0 c0 l0 wh key val fr tt en mo) (hb : Below b w w') (hC : Kd.C k42 w' A0 l0.length l0) (h1 : gl < b) (h2 : gx < b) : Held w' gl gx A0 c0 l0 wh key val fr tt en mo :=
  ⟨blk_belowB h.l hb h1, blk_belowB h.x hb h2, hC, h.c⟩
theorem below_ext {w w3 w' : World} {b : Nat} (h : Below w.heap.size w w3) (hb : Below b w3 w') (hle : w.heap.size ≤ b) : Below w.heap.size w w' :=
  ⟨hb.os.trans h.os, hb.tape.trans h.tape, hb.output.trans h.output, Nat.le_trans h.size hb.size, fun k hk => (hb.block k (by omega)).trans (h.block k hk)⟩
theorem R_ch {w w' : World} {b g : Nat} {v : Value} {xs : List S42} (h : Kd.R k42 42 w b (fun _ => True) v xs) (hc : Ch w w' g) (hg : g < b) : Kd.R k42 42 w' b (fun _ => True) v xs :=
  Kd.R_mono (Kd.R_step (Kd.R_bound h) (fun k ho hlt => hc.block k hlt (by have := ho.2.1; omega))) (fun _ _ => trivial)
/-! ### the map of what is done -/
theorem chk_key (b : Bool) (m : Nat) (n : Int) (W : World) : (Instr.checkKey b (m + 1) 5 (.int .u8 n)).run Try.prog W = .ok () W := by
  simp [Instr.checkKey, run_underlying Try.underlying5]
theorem get_obj (W : World) (r : Nat) (es : Array MapEntry) (c : Nat) (hb : W.heap[r]? = some (.map es c)) : (getObj r).run Try.prog W = .ok (.map es c) W := by
  unfold getObj
  simp only [Sem.run, hb]
theorem set_obj (W : World) (es es' : Array MapEntry) (c c' : Nat) : (setObj W.heap.size (.map es' c')).run Try.prog (W.alloc (.map es c)) = .ok () (W.alloc (.map es' c')) := by
  have hb : (W.alloc (.map es c)).heap[W.heap.size]? = some (.map es c) := blk_new W _
  unfold setObj
  simp only [Sem.run, hb]
  have h : (W.alloc (.map es c)).heap.setIfInBounds W.heap.size (.map es' c') = (W.alloc (.map es' c')).heap := by
    show (W.heap.push (.map es c)).setIfInBounds W.heap.size (.map es' c') = W.heap.push (.map es' c')
    apply Array.ext
    · simp
    · intro j h1 h2
      have e1 := h2
      rw [Array.size_push] at e1
      rw [Array.getElem_setIfInBounds (by simpa using h2)]
      by_cases hj : j < W.heap.size
      · rw [if_neg (by omega), Array.getElem_push_lt hj, Array.getElem_push_lt hj]
      · have hj' : j = W.heap.size := by omega
        subst hj'
        rw [if_pos rfl, Array.getElem_push_eq]
  rw [h]
  rfl
theorem map_ins (W : World) (es : Array MapEntry) (c : Nat) (n : Int) (v : Value) (hn : Instr.findNow (.int .u8) (.int .u8 n) es.toList 0 = some none) :
    (Instr.mapUpdate 72 (.map (some W.heap.size)) (.int .u8 n) v).run Try.prog (W.alloc (.map es c)) = .ok () (W.alloc (.map (es.push ⟨.int .u8 n, v, c⟩) (c + 1))) := by
  have hg := get_obj (W.alloc (.map es c)) W.heap.size es c (blk_new W _)
  have hc := chk_key false 9999 n (W.alloc (.map es c))
  have hf : (Instr.findKey 5 (.int .u8 n) es.toList).run Try.prog (W.alloc (.map es c)) = .ok none (W.alloc (.map es c)) := by
    simp [Instr.findKey, run_underlying Try.underlying5, hn]
  have hs := set_obj W es (es.push ⟨.int .u8 n, v, c⟩) c (c + 1)
  simp only [Instr.mapUpdate, Sem.run_bind, run_underlying Try.underlying72, Result.andThen_ok, hg]
  rw [hc]
  simp only [Result.andThen_ok, hf, Sem.run_bind]
  exact hs
theorem map_get (W : World) (es : Array MapEntry) (c : Nat) (n : Int) (i : Nat) (v : Value) (hn : Instr.findNow (.int .u8) (.int .u8 n) es.toList 0 = some (some (i, v))) :
    (Instr.lookup 72 (.map (some W.heap.size)) (.int .u8 n) false).run Try.prog (W.alloc (.map es c)) = .ok v (W.alloc (.map es c)) := by
  have hg := get_obj (W.alloc (.map es c)) W.heap.size es c (blk_new W _)
  have hc := chk_key es.isEmpty 9999 n (W.alloc (.map es c))
  have hf : (Instr.findKey 5 (.int .u8 n) es.toList).run Try.prog (W.alloc (.map es c)) = .ok (some (i, v)) (W.alloc (.map es c)) := by
    simp [Instr.findKey, run_underlying Try.underlying5, hn]
  simp only [Instr.lookup, Sem.run_bind, run_underlying Try.underlying72, Result.andThen_ok, hg, Sem.run_pure]
  rw [hc]
  simp only [Result.andThen_ok, hf, Sem.run_pure]
  rfl
theorem map_none (W : World) (es : Array MapEntry) (c : Nat) (n : Int) (hn : Instr.findNow (.int .u8) (.int .u8 n) es.toList 0 = some none) :
    (Instr.lookup 72 (.map (some W.heap.size)) (.int .u8 n) false).run Try.prog (W.alloc (.map es c)) = .ok .nilFunc (W.alloc (.map es c)) := by
  have hg := get_obj (W.alloc (.map es c)) W.heap.size es c (blk_new W _)
  have hc := chk_key es.isEmpty 9999 n (W.alloc (.map es c))
  have hf : (Instr.findKey 5 (.int .u8 n) es.toList).run Try.prog (W.alloc (.map es c)) = .ok none (W.alloc (.map es c)) := by
    simp [Instr.findKey, run_underlying Try.underlying5, hn]
  have hz : ∀ W : World, (zeroValue 1).run Try.prog W = .ok .nilFunc W := fun W => by kernel_rfl
  simp only [Instr.lookup, Sem.run_bind, run_underlying Try.underlying72, Result.andThen_ok, hg, Sem.run_pure]
  rw [hc]
  simp only [Result.andThen_ok, hf, Sem.run_bind, hz, Sem.run_pure]
  rfl
set_option maxHeartbeats 8000000 in
set_option maxRecDepth 100000 in
theorem do_wrong (k : Nat) (A0 : Option Addr) (c0 : Nat) (l0 : List S42) (wh : Int) (key val fr tt : ByteArray) (en : Bool) (mo : Int) (w : World) (hr0 : Kd.C k42 w A0 l0.length l0) (hc0 : l0.length ≤ c0) (hR : cells_Right.f k l0 = some false) :
    Calls Try.prog 12 #[.slice A0 l0.length c0, .agg #[.int .u8 wh, .string key, .string val, .string fr, .string tt, .bool en, .int .i64 mo]] w (DoPost w [] 0 wh 100 0 false ⟨#[]⟩ []) := by
  obtain ⟨rt, hrt⟩ : ∃ rt, rt = false := ⟨_, rfl⟩
  rw [← hrt] at hR
  obtain ⟨f1, f2, f3, f4, f5⟩ := doW_facts A0 c0 l0 wh key val fr tt en mo w hr0 hc0
  have hmf_ : ∀ (fn : Fn) (first cap : Array Value) (w : World), (Instr.makeFunc fn first cap).run Try.prog w = .ok (.func fn first cap) w := fun _ _ _ _ => rfl
  have hu26 := Try.underlying26
  have hu33 := Try.underlying33
  have hW : doW A0 c0 l0 wh key val fr tt en mo w = (((w.alloc (.cells #[.slice A0 l0.length c0] 22)).alloc (.cells #[.int .u8 wh, .string key, .string val, .string fr, .string tt, .bool en, .int .i64 mo] 26)).alloc (.cells #[.slice none 0 0] 22)).alloc (.cells #[.int .i64 0, .int .u8 wh, .int .i64 0, .int .u64 0, .bool false, .string ⟨#[]⟩, .slice none 0 0] 33) := rfl
  generalize doW A0 c0 l0 wh key val fr tt en mo w = W1 at hW f1 f2 f3 f4 f5
  have hRT := cells_Right.calls k A0 c0 l0 rt W1 f1.r f1.c hR
  have HRT := Aside0.mk hRT; have H1 := Aside0.mk f1; have O1 := Aside0.mk f2; have R1 := Aside0.mk f3; have B1 := Aside0.mk f4; have S1 := Aside0.mk f5
  clear hR hRT f1 f2 f3 f4 f5 hr0
  subst hrt
  go_enter_defers Try.func12, Try.ntmps12
  go_upto_region 3 with (go_at_call 28; rw [← hW]; refine HRT.out.mono ?_; rintro e w2 ⟨rfl, hb⟩; have H2 := Aside0.mk (H1.out.below hb); have O2 := Aside0.mk (blk_below O1.out hb); have R2 := Aside0.mk (blk_below R1.out hb); have B2 := Aside0.mk (below_step B1.out hb); have S2 := Aside0.mk (Nat.le_trans (Nat.le_of_eq S1.out.symm) hb.size); clear hb; have q2 := (blk_cell R2.out 2).trans rfl; have g2 := blk_frozen R2.out 2)
  go_upto_region 4 with (fail)
  have P2 := Aside0.mk (blk_put R2.out 2 (.int .i64 100) rfl)
  have HB3 := Aside0.mk (below_set (g := w.heap.size + 1 + 1 + 1) (j := 2) (v := .int .i64 100) B2.out (by omega))
  have O3 := Aside0.mk (blk_far O2.out (p := ⟨w.heap.size + 1 + 1 + 1, 2, none⟩) (by show _ ≠ _; simp) (.int .i64 100))
  clear q2 g2
  revert P2 HB3 O3
  generalize w2.setCell ⟨w.heap.size + 1 + 1 + 1, 2, none⟩ (.int .i64 100) = w3
  intro P2 HB3 O3
  have q0 := (blk_cell P2.out 0).trans rfl; have q1 := (blk_cell P2.out 1).trans rfl; have q2 := (blk_cell P2.out 2).trans rfl; have q3 := (blk_cell P2.out 3).trans rfl; have q4 := (blk_cell P2.out 4).trans rfl; have q5 := (blk_cell P2.out 5).trans rfl; have q6 := (blk_cell P2.out 6).trans rfl
  have g0 := blk_frozen P2.out 0; have g1 := blk_frozen P2.out 1; have g2 := blk_frozen P2.out 2; have g3 := blk_frozen P2.out 3; have g4 := blk_frozen P2.out 4; have g5 := blk_frozen P2.out 5; have g6 := blk_frozen P2.out 6
  have o0 := (blk_cell O3.out 0).trans rfl; have go0 := blk_frozen O3.out 0
  go_region
  all_goals go_wp2
  exact do_ret _ (selfW w3 (w.heap.size + 1 + 1) (w.heap.size + 1 + 1 + 1) (.slice none 0 0) (.int .i64 0) (.int .u8 wh) (.int .i64 100) (.int .u64 0) (.bool false) (.string ⟨#[]⟩) (.slice none 0 0)) (w.heap.size + 1 + 1) (w.heap.size + 1 + 1 + 1) _ _ rfl rfl (selfW_out O3.out (by omega)) (selfW_r P2.out (by omega)) rfl
    ⟨_, _, rfl, Kd.R_nil _ _ _ _ _, Kd.Q_nil _ _ _ _ _, selfW_below HB3.out (by omega) (by omega)⟩
set_option maxHeartbeats 8000000 in
set_option maxRecDepth 100000 in
theorem do_long (k : Nat) (A0 : Option Addr) (c0 : Nat) (l0 : List S42) (wh : Int) (key val fr tt : ByteArray) (en : Bool) (mo : Int) (w : World) (hr0 : Kd.C k42 w A0 l0.length l0) (hc0 : l0.length ≤ c0) (hR : cells_Right.f k l0 = some true) (hl : l0.length < 4398046511104) (hk : model_key.f wh key val fr tt en mo = some (true, false)) :
    Calls Try.prog 12 #[.slice A0 l0.length c0, .agg #[.int .u8 wh, .string key, .string val, .string fr, .string tt, .bool en, .int .i64 mo]] w (DoPost w l0 0 wh 3 0 false ⟨#[]⟩ []) := by
  obtain ⟨f1, f2, f3, f4, f5⟩ := doW_facts A0 c0 l0 wh key val fr tt en mo w hr0 hc0
  have hmf_ : ∀ (fn : Fn) (first cap : Array Value) (w : World), (Instr.makeFunc fn first cap).run Try.prog w = .ok (.func fn first cap) w := fun _ _ _ _ => rfl
  have hu26 := Try.underlying26
  have hu33 := Try.underlying33
  have hW : doW A0 c0 l0 wh key val fr tt en mo w = (((w.alloc (.cells #[.slice A0 l0.length c0] 22)).alloc (.cells #[.int .u8 wh, .string key, .string val, .string fr, .string tt, .bool en, .int .i64 mo] 26)).alloc (.cells #[.slice none 0 0] 22)).alloc (.cells #[.int .i64 0, .int .u8 wh, .int .i64 0, .int .u64 0, .bool false, .string ⟨#[]⟩, .slice none 0 0] 33) := rfl
  generalize doW A0 c0 l0 wh key val fr tt en mo w = W1 at hW f1 f2 f3 f4 f5
  have hRT := cells_Right.calls k A0 c0 l0 true W1 f1.r f1.c hR
  have HRT := Aside0.mk hRT; have H1 := Aside0.mk f1; have O1 := Aside0.mk f2; have R1 := Aside0.mk f3; have B1 := Aside0.mk f4; have S1 := Aside0.mk f5; have HC0 := Aside0.mk hr0; have HL := Aside0.mk hl
  clear hR hRT f1 f2 f3 f4 f5 hr0 hl
  have HK := Aside0.mk hk
  clear hk
  go_enter_defers Try.func12, Try.ntmps12
  go_upto_region 6 with (first | (go_at_call 28; rw [← hW]; clear hW; refine HRT.out.mono ?_; rintro e w2 ⟨rfl, hb⟩; have H2 := Aside0.mk (H1.out.below hb); have O2 := Aside0.mk (blk_below O1.out hb); have R2 := Aside0.mk (blk_below R1.out hb); have B2 := Aside0.mk (below_step B1.out hb); have S2 := Aside0.mk (Nat.le_trans (Nat.le_of_eq S1.out.symm) hb.size); clear hb; have l0c := (blk_cell H2.out.l 0).trans rfl) | ((with_reducible refine gate_dst (N := 22) rfl ?_); refine Kd.R_make k42 (w0 := w2) w2.heap.size 42 rfl (N := 22) rfl 22 (.tmp 21) (.tmp 21) rfl (l0.length : Int) rfl rfl Try.underlying22 (.agg #[(.string ⟨#[]⟩), (.string ⟨#[]⟩)]) 32 info42 rfl (by decide) (by decide) z42 (ok := fun _ => True) (okp := fun _ => True) (k42_mkM _ _ _ _) (fun _ h => h) trivial (by omega) (by have := HL.out; rw [Int.toNat_natCast]; omega) (Below.refl _ _) (Nat.le_refl _) ?_; rw [Int.toNat_natCast]; intro v w3 hr hb hgb hnb; clear hgb hnb; obtain ⟨Av, cv, rfl⟩ := cells_slice hr; rw [List.length_replicate] at hr ⊢; have RV := Aside0.mk hr; have BV := Aside0.mk hb; have O3 := Aside0.mk (blk_below O2.out hb); have R3 := Aside0.mk (blk_below R2.out hb); have H3 := Aside0.mk (H2.out.below hb); have B3 := Aside0.mk (below_step B2.out hb); clear hr hb; have o0 := (blk_cell O3.out 0).trans rfl; have f0 := blk_frozen O3.out 0))
  clear l0c o0 f0
  have S2' := S2.out
  have RV4 := Aside0.mk (R_keepB RV.out (g := w.heap.size + 1 + 1) (by omega) 0 (.slice Av l0.length cv))
  have O4 := Aside0.mk (blk_put O3.out 0 (.slice Av l0.length cv) rfl)
  have R4 := Aside0.mk (blk_far R3.out (p := ⟨w.heap.size + 1 + 1, 0, none⟩) (by show _ ≠ _; simp) (.slice Av l0.length cv))
  have B4 := Aside0.mk (below_set (g := w.heap.size + 1 + 1) (j := 0) (v := .slice Av l0.length cv) B3.out (by omega))
  have H4 := Aside0.mk (H3.out.set (go := w.heap.size + 1 + 1) (v := .slice Av l0.length cv) (Kd.C_below HC0.out B4.out) (by simp; omega) (by simp))
  clear S2'
  revert RV4 O4 R4 B4 H4
  generalize (w3.setCell ⟨w.heap.size + 1 + 1, 0, none⟩ (.slice Av l0.length cv)) = w4
  intro RV4 O4 R4 B4 H4
  clear RV O3 R3 B3 H3
  have o4 := (blk_cell O4.out 0).trans rfl
  have l4 := (blk_cell H4.out.l 0).trans rfl
  go_upto_region 8 with ((with_reducible refine gate_dst (N := 25) rfl ?_); refine copy_cells (w0 := w4) w2.heap.size rfl (.tmp 23) (.tmp 24) rfl (.slice Av l0.length cv) (List.replicate l0.length z42) l0 A0 c0 rfl rfl RV4.out H4.out.r (by simp) (Below.refl _ _) ?_; intro w5 hr hb; have HS := Aside0.mk (show w.heap.size + 1 + 1 + 1 < w2.heap.size by have := S2.out; omega); have RV5 := Aside0.mk hr; have O5 := Aside0.mk (blk_belowB O4.out hb (by have := S2.out; omega)); have R5 := Aside0.mk (blk_belowB R4.out hb (by have := S2.out; omega)); have B5 := Aside0.mk (below_ext B4.out hb (by have := S2.out; omega)); have H5 := Aside0.mk (H4.out.belowB hb (Kd.C_below HC0.out B5.out) (by have := S2.out; omega) (by have := S2.out; omega)); clear hr hb o4 l4; have x0 := (blk_cell H5.out.x 0).trans rfl; have x1 := (blk_cell H5.out.x 1).trans rfl; have x2 := (blk_cell H5.out.x 2).trans rfl; have x3 := (blk_cell H5.out.x 3).trans rfl; have x4 := (blk_cell H5.out.x 4).trans rfl; have x5 := (blk_cell H5.out.x 5).trans rfl; have x6 := (blk_cell H5.out.x 6).trans rfl)
  go_wp2_with (first | (go_at_call 30; refine (model_key.calls wh key val fr tt en mo true false _ HK.out).mono ?_; rintro e w6 ⟨rfl, hb⟩; have RV6 := Aside0.mk (Kd.R_below RV5.out hb); have O6 := Aside0.mk (blk_below O5.out hb); have R6 := Aside0.mk (blk_below R5.out hb); have B6 := Aside0.mk (below_step B5.out hb); have H6 := Aside0.mk (H5.out.below hb); clear hb x0 x1 x2 x3 x4 x5 x6; have y0 := (blk_cell H6.out.x 0).trans rfl; have y1 := (blk_cell H6.out.x 1).trans rfl; have yl := (blk_cell H6.out.l 0).trans rfl) | (go_at_call 31; refine (must_no _ _).mono ?_; rintro e w' ⟨rfl, rfl⟩))
  exact do_catch _ _ (w.heap.size + 1) (w.heap.size + 1 + 1) (w.heap.size + 1 + 1 + 1) 3 wh _ rfl rfl ((blk_cell H6.out.x 0).trans rfl) (by simp) O6.out R6.out (fun w'' hc => ⟨_, _, rfl, R_nn (Kd.R_lower (R_ch RV6.out hc HS.out) (by have := HS.out; omega)), Kd.Q_nil _ _ _ _ _, hc.below B6.out B6.out.size (by omega)⟩)
/-- The map of what is done, with its first n entries. -/
def dM0 (gi gv gl gx go gr : Nat) : Array MapEntry := #[]
def dM1 (gi gv gl gx go gr : Nat) : Array MapEntry := (dM0 gi gv gl gx go gr).push ⟨.int .u8 2, .func (.func 33) #[] #[.pointer (some ⟨gi, 0, none⟩), .pointer (some ⟨gv, 0, none⟩), .pointer (some ⟨gr, 0, none⟩)], 0⟩
def dM2 (gi gv gl gx go gr : Nat) : Array MapEntry := (dM1 gi gv gl gx go gr).push ⟨.int .u8 3, .func (.func 34) #[] #[.pointer (some ⟨gi, 0, none⟩), .pointer (some ⟨gl, 0, none⟩), .pointer (some ⟨gx, 0, none⟩), .pointer (some ⟨go, 0, none⟩)], 1⟩
def dM3 (gi gv gl gx go gr : Nat) : Array MapEntry := (dM2 gi gv gl gx go gr).push ⟨.int .u8 4, .func (.func 36) #[] #[.pointer (some ⟨gi, 0, none⟩), .pointer (some ⟨gl, 0, none⟩), .pointer (some ⟨gx, 0, none⟩), .pointer (some ⟨go, 0, none⟩)], 2⟩
def dM4 (gi gv gl gx go gr : Nat) : Array MapEntry := (dM3 gi gv gl gx go gr).push ⟨.int .u8 5, .func (.func 37) #[] #[.pointer (some ⟨gi, 0, none⟩), .pointer (some ⟨gl, 0, none⟩), .pointer (some ⟨gx, 0, none⟩), .pointer (some ⟨go, 0, none⟩)], 3⟩
def dM5 (gi gv gl gx go gr : Nat) : Array MapEntry := (dM4 gi gv gl gx go gr).push ⟨.int .u8 6, .func (.func 39) #[] #[.pointer (some ⟨gx, 0, none⟩), .pointer (some ⟨gl, 0, none⟩), .pointer (some ⟨gr, 0, none⟩)], 4⟩
theorem dI0 (gi gv gl gx go gr : Nat) (W : World) : (Instr.makeMap 72 none).run Try.prog W = .ok (.map (some W.heap.size)) (W.alloc (.map (dM0 gi gv gl gx go gr) 0)) := rfl
theorem dI2 (gi gv gl gx go gr : Nat) (W : World) : (Instr.mapUpdate 72 (.map (some W.heap.size)) (.int .u8 2) (.func (.func 33) #[] #[.pointer (some ⟨gi, 0, none⟩), .pointer (some ⟨gv, 0, none⟩), .pointer (some ⟨gr, 0, none⟩)])).run Try.prog (W.alloc (.map (dM0 gi gv gl gx go gr) 0)) = .ok () (W.alloc (.map (dM1 gi gv gl gx go gr) 1)) := map_ins W (dM0 gi gv gl gx go gr) 0 2 _ (by rfl)
theorem dI3 (gi gv gl gx go gr : Nat) (W : World) : (Instr.mapUpdate 72 (.map (some W.heap.size)) (.int .u8 3) (.func (.func 34) #[] #[.pointer (some ⟨gi, 0, none⟩), .pointer (some ⟨gl, 0, none⟩), .pointer (some ⟨gx, 0, none⟩), .pointer (some ⟨go, 0, none⟩)])).run Try.prog (W.alloc (.map (dM1 gi gv gl gx go gr) 1)) = .ok () (W.alloc (.map (dM2 gi gv gl gx go gr) 2)) := map_ins W (dM1 gi gv gl gx go gr) 1 3 _ (by rfl)
theorem dI4 (gi gv gl gx go gr : Nat) (W : World) : (Instr.mapUpdate 72 (.map (some W.heap.size)) (.int .u8 4) (.func (.func 36) #[] #[.pointer (some ⟨gi, 0, none⟩), .pointer (some ⟨gl, 0, none⟩), .pointer (some ⟨gx, 0, none⟩), .pointer (some ⟨go, 0, none⟩)])).run Try.prog (W.alloc (.map (dM2 gi gv gl gx go gr) 2)) = .ok () (W.alloc (.map (dM3 gi gv gl gx go gr) 3)) := map_ins W (dM2 gi gv gl gx go gr) 2 4 _ (by rfl)
theorem dI5 (gi gv gl gx go gr : Nat) (W : World) : (Instr.mapUpdate 72 (.map (some W.heap.size)) (.int .u8 5) (.func (.func 37) #[] #[.pointer (some ⟨gi, 0, none⟩), .pointer (some ⟨gl, 0, none⟩), .pointer (some ⟨gx, 0, none⟩), .pointer (some ⟨go, 0, none⟩)])).run Try.prog (W.alloc (.map (dM3 gi gv gl gx go gr) 3)) = .ok () (W.alloc (.map (dM4 gi gv gl gx go gr) 4)) := map_ins W (dM3 gi gv gl gx go gr) 3 5 _ (by rfl)
theorem dI6 (gi gv gl gx go gr : Nat) (W : World) : (Instr.mapUpdate 72 (.map (some W.heap.size)) (.int .u8 6) (.func (.func 39) #[] #[.pointer (some ⟨gx, 0, none⟩), .pointer (some ⟨gl, 0, none⟩), .pointer (some ⟨gr, 0, none⟩)])).run Try.prog (W.alloc (.map (dM4 gi gv gl gx go gr) 4)) = .ok () (W.alloc (.map (dM5 gi gv gl gx go gr) 5)) := map_ins W (dM4 gi gv gl gx go gr) 4 6 _ (by rfl)
theorem dG2 (gi gv gl gx go gr : Nat) (W : World) : (Instr.lookup 72 (.map (some W.heap.size)) (.int .u8 2) false).run Try.prog (W.alloc (.map (dM5 gi gv gl gx go gr) 5)) = .ok (.func (.func 33) #[] #[.pointer (some ⟨gi, 0, none⟩), .pointer (some ⟨gv, 0, none⟩), .pointer (some ⟨gr, 0, none⟩)]) (W.alloc (.map (dM5 gi gv gl gx go gr) 5)) := map_get W (dM5 gi gv gl gx go gr) 5 2 0 _ (by rfl)
theorem dG3 (gi gv gl gx go gr : Nat) (W : World) : (Instr.lookup 72 (.map (some W.heap.size)) (.int .u8 3) false).run Try.prog (W.alloc (.map (dM5 gi gv gl gx go gr) 5)) = .ok (.func (.func 34) #[] #[.pointer (some ⟨gi, 0, none⟩), .pointer (some ⟨gl, 0, none⟩), .pointer (some ⟨gx, 0, none⟩), .pointer (some ⟨go, 0, none⟩)]) (W.alloc (.map (dM5 gi gv gl gx go gr) 5)) := map_get W (dM5 gi gv gl gx go gr) 5 3 1 _ (by rfl)
theorem dG4 (gi gv gl gx go gr : Nat) (W : World) : (Instr.lookup 72 (.map (some W.heap.size)) (.int .u8 4) false).run Try.prog (W.alloc (.map (dM5 gi gv gl gx go gr) 5)) = .ok (.func (.func 36) #[] #[.pointer (some ⟨gi, 0, none⟩), .pointer (some ⟨gl, 0, none⟩), .pointer (some ⟨gx, 0, none⟩), .pointer (some ⟨go, 0, none⟩)]) (W.alloc (.map (dM5 gi gv gl gx go gr) 5)) := map_get W (dM5 gi gv gl gx go gr) 5 4 2 _ (by rfl)
theorem dG5 (gi gv gl gx go gr : Nat) (W : World) : (Instr.lookup 72 (.map (some W.heap.size)) (.int .u8 5) false).run Try.prog (W.alloc (.map (dM5 gi gv gl gx go gr) 5)) = .ok (.func (.func 37) #[] #[.pointer (some ⟨gi, 0, none⟩), .pointer (some ⟨gl, 0, none⟩), .pointer (some ⟨gx, 0, none⟩), .pointer (some ⟨go, 0, none⟩)]) (W.alloc (.map (dM5 gi gv gl gx go gr) 5)) := map_get W (dM5 gi gv gl gx go gr) 5 5 3 _ (by rfl)
theorem dG6 (gi gv gl gx go gr : Nat) (W : World) : (Instr.lookup 72 (.map (some W.heap.size)) (.int .u8 6) false).run Try.prog (W.alloc (.map (dM5 gi gv gl gx go gr) 5)) = .ok (.func (.func 39) #[] #[.pointer (some ⟨gx, 0, none⟩), .pointer (some ⟨gl, 0, none⟩), .pointer (some ⟨gr, 0, none⟩)]) (W.alloc (.map (dM5 gi gv gl gx go gr) 5)) := map_get W (dM5 gi gv gl gx go gr) 5 6 4 _ (by rfl)
theorem dG0 (gi gv gl gx go gr : Nat) (W : World) (wh : Int) (h2 : wh ≠ 2) (h3 : wh ≠ 3) (h4 : wh ≠ 4) (h5 : wh ≠ 5) (h6 : wh ≠ 6) : (Instr.lookup 72 (.map (some W.heap.size)) (.int .u8 wh) false).run Try.prog (W.alloc (.map (dM5 gi gv gl gx go gr) 5)) = .ok .nilFunc (W.alloc (.map (dM5 gi gv gl gx go gr) 5)) :=
  map_none W (dM5 gi gv gl gx go gr) 5 wh (by simp [dM0, dM1, dM2, dM3, dM4, dM5, Instr.findNow, Instr.sameNow, beq_eq_false_iff_ne.2 h2, beq_eq_false_iff_ne.2 h3, beq_eq_false_iff_ne.2 h4, beq_eq_false_iff_ne.2 h5, beq_eq_false_iff_ne.2 h6])
set_option maxHeartbeats 40000000 in
set_option maxRecDepth 100000 in
theorem do_keyed (k : Nat) (A0 : Option Addr) (c0 : Nat) (l0 : List S42) (wh : Int) (key val fr tt : ByteArray) (en : Bool) (mo : Int) (w : World) (hr0 : Kd.C k42 w A0 l0.length l0) (hc0 : l0.length ≤ c0) (hR : cells_Right.f k l0 = some true) (hl : l0.length < 4398046511104) (fv : ByteArray) (fi : Bool) (hwh : wh = 2 ∨ wh = 3 ∨ wh = 4 ∨ wh = 5) (hk : model_key.f wh key val fr tt en mo = some (true, true)) (hf : cells_Find.f k l0 key = some (fv, fi)) (r1 : List S42) (r2 r3 r4 r5 : Int) (r6 : Bool) (r7 : ByteArray) (r8 : List S42)
    (ht : (if wh = 2 then some (l0, 0, wh, 0, 0, fi, fv, [])
        else if wh = 3 then (if fi = true then some (l0, 0, wh, 8, 0, false, ⟨#[]⟩, []) else (cells_Put.f k l0 key val).bind fun p => some (p.1, 0, wh, 0, 0, false, ⟨#[]⟩, []))
        else if wh = 4 then (if fi = true then (cells_Put.f k l0 key val).bind fun p => some (p.1, 0, wh, 0, 0, false, ⟨#[]⟩, []) else some (l0, 0, wh, 7, 0, false, ⟨#[]⟩, []))
        else if wh = 5 then (if fi = true then (cells_Delete.f k l0 key).bind fun p => some (p.1, 0, wh, 0, 0, false, ⟨#[]⟩, []) else some (l0, 0, wh, 7, 0, false, ⟨#[]⟩, []))
        else if wh = 6 then (span_Right.f k fr tt en).bind fun s => if s = true ∧ 1 ≤ mo then (cells_Part.f k l0 fr tt en).bind fun all => some (l0, 0, wh, 0, 0, decide (mn (all.length : Int) mo < (all.length : Int)), ⟨#[]⟩, all.take mo.toNat) else some (l0, 0, wh, 2, 0, false, ⟨#[]⟩, [])
        else some (l0, 0, wh, 2, 0, false, ⟨#[]⟩, [])) = some (r1, r2, r3, r4, r5, r6, r7, r8)) :
    Calls Try.prog 12 #[.slice A0 l0.length c0, .agg #[.int .u8 wh, .string key, .string val, .string fr, .string tt, .bool en, .int .i64 mo]] w (DoPost w r1 r2 r3 r4 r5 r6 r7 r8) := by
  have HT := Aside0.mk ht
  have HW := Aside0.mk hwh
  clear ht hwh
  obtain ⟨f1, f2, f3, f4, f5⟩ := doW_facts A0 c0 l0 wh key val fr tt en mo w hr0 hc0
  have hmf_ : ∀ (fn : Fn) (first cap : Array Value) (w : World), (Instr.makeFunc fn first cap).run Try.prog w = .ok (.func fn first cap) w := fun _ _ _ _ => rfl
  have hu26 := Try.underlying26
  have hu33 := Try.underlying33
  have hW : doW A0 c0 l0 wh key val fr tt en mo w = (((w.alloc (.cells #[.slice A0 l0.length c0] 22)).alloc (.cells #[.int .u8 wh, .string key, .string val, .string fr, .string tt, .bool en, .int .i64 mo] 26)).alloc (.cells #[.slice none 0 0] 22)).alloc (.cells #[.int .i64 0, .int .u8 wh, .int .i64 0, .int .u64 0, .bool false, .string ⟨#[]⟩, .slice none 0 0] 33) := rfl
  generalize doW A0 c0 l0 wh key val fr tt en mo w = W1 at hW f1 f2 f3 f4 f5
  have hRT := cells_Right.calls k A0 c0 l0 true W1 f1.r f1.c hR
  have HRT := Aside0.mk hRT; have H1 := Aside0.mk f1; have O1 := Aside0.mk f2; have R1 := Aside0.mk f3; have B1 := Aside0.mk f4; have S1 := Aside0.mk f5; have HC0 := Aside0.mk hr0; have HL := Aside0.mk hl
  clear hR hRT f1 f2 f3 f4 f5 hr0 hl
  have HK := Aside0.mk hk
  have HF := Aside0.mk hf
  clear hk hf
  go_enter_defers Try.func12, Try.ntmps12
  go_upto_region 6 with (first | (go_at_call 28; rw [← hW]; clear hW; refine HRT.out.mono ?_; rintro e w2 ⟨rfl, hb⟩; have H2 := Aside0.mk (H1.out.below hb); have O2 := Aside0.mk (blk_below O1.out hb); have R2 := Aside0.mk (blk_below R1.out hb); have B2 := Aside0.mk (below_step B1.out hb); have S2 := Aside0.mk (Nat.le_trans (Nat.le_of_eq S1.out.symm) hb.size); clear hb; have l0c := (blk_cell H2.out.l 0).trans rfl) | ((with_reducible refine gate_dst (N := 22) rfl ?_); refine Kd.R_make k42 (w0 := w2) w2.heap.size 42 rfl (N := 22) rfl 22 (.tmp 21) (.tmp 21) rfl (l0.length : Int) rfl rfl Try.underlying22 (.agg #[(.string ⟨#[]⟩), (.string ⟨#[]⟩)]) 32 info42 rfl (by decide) (by decide) z42 (ok := fun _ => True) (okp := fun _ => True) (k42_mkM _ _ _ _) (fun _ h => h) trivial (by omega) (by have := HL.out; rw [Int.toNat_natCast]; omega) (Below.refl _ _) (Nat.le_refl _) ?_; rw [Int.toNat_natCast]; intro v w3 hr hb hgb hnb; clear hgb hnb; obtain ⟨Av, cv, rfl⟩ := cells_slice hr; rw [List.length_replicate] at hr ⊢; have RV := Aside0.mk hr; have BV := Aside0.mk hb; have O3 := Aside0.mk (blk_below O2.out hb); have R3 := Aside0.mk (blk_below R2.out hb); have H3 := Aside0.mk (H2.out.below hb); have B3 := Aside0.mk (below_step B2.out hb); clear hr hb; have o0 := (blk_cell O3.out 0).trans rfl; have f0 := blk_frozen O3.out 0))
  clear l0c o0 f0
  have S2' := S2.out
  have RV4 := Aside0.mk (R_keepB RV.out (g := w.heap.size + 1 + 1) (by omega) 0 (.slice Av l0.length cv))
  have O4 := Aside0.mk (blk_put O3.out 0 (.slice Av l0.length cv) rfl)
  have R4 := Aside0.mk (blk_far R3.out (p := ⟨w.heap.size + 1 + 1, 0, none⟩) (by show _ ≠ _; simp) (.slice Av l0.length cv))
  have B4 := Aside0.mk (below_set (g := w.heap.size + 1 + 1) (j := 0) (v := .slice Av l0.length cv) B3.out (by omega))
  have H4 := Aside0.mk (H3.out.set (go := w.heap.size + 1 + 1) (v := .slice Av l0.length cv) (Kd.C_below HC0.out B4.out) (by simp; omega) (by simp))
  clear S2'
  revert RV4 O4 R4 B4 H4
  generalize (w3.setCell ⟨w.heap.size + 1 + 1, 0, none⟩ (.slice Av l0.length cv)) = w4
  intro RV4 O4 R4 B4 H4
  clear RV O3 R3 B3 H3
  have o4 := (blk_cell O4.out 0).trans rfl
  have l4 := (blk_cell H4.out.l 0).trans rfl
  go_upto_region 8 with ((with_reducible refine gate_dst (N := 25) rfl ?_); refine copy_cells (w0 := w4) w2.heap.size rfl (.tmp 23) (.tmp 24) rfl (.slice Av l0.length cv) (List.replicate l0.length z42) l0 A0 c0 rfl rfl RV4.out H4.out.r (by simp) (Below.refl _ _) ?_; intro w5 hr hb; have HS := Aside0.mk (show w.heap.size + 1 + 1 + 1 < w2.heap.size by have := S2.out; omega); have RV5 := Aside0.mk hr; have O5 := Aside0.mk (blk_belowB O4.out hb (by have := S2.out; omega)); have R5 := Aside0.mk (blk_belowB R4.out hb (by have := S2.out; omega)); have B5 := Aside0.mk (below_ext B4.out hb (by have := S2.out; omega)); have H5 := Aside0.mk (H4.out.belowB hb (Kd.C_below HC0.out B5.out) (by have := S2.out; omega) (by have := S2.out; omega)); clear hr hb o4 l4; have x0 := (blk_cell H5.out.x 0).trans rfl; have x1 := (blk_cell H5.out.x 1).trans rfl; have x2 := (blk_cell H5.out.x 2).trans rfl; have x3 := (blk_cell H5.out.x 3).trans rfl; have x4 := (blk_cell H5.out.x 4).trans rfl; have x5 := (blk_cell H5.out.x 5).trans rfl; have x6 := (blk_cell H5.out.x 6).trans rfl)
  go_upto_region 12 with (first | (go_at_call 30; refine (model_key.calls wh key val fr tt en mo true true _ HK.out).mono ?_; rintro e w6 ⟨rfl, hb⟩; have RV6 := Aside0.mk (Kd.R_below RV5.out hb); have O6 := Aside0.mk (blk_below O5.out hb); have R6 := Aside0.mk (blk_below R5.out hb); have B6 := Aside0.mk (below_step B5.out hb); have H6 := Aside0.mk (H5.out.below hb); clear hb x0 x1 x2 x3 x4 x5 x6; have y0 := (blk_cell H6.out.x 0).trans rfl; have y1 := (blk_cell H6.out.x 1).trans rfl; have yl := (blk_cell H6.out.l 0).trans rfl) | (go_at_call 31; refine (must_yes _ _).mono ?_; rintro e w' ⟨rfl, rfl⟩) | (go_at_call 32; refine (cells_Find.calls k A0 c0 l0 key fv fi _ H6.out.r H6.out.c HF.out).mono ?_; rintro e w7 ⟨rfl, hb⟩; have RV7 := Aside0.mk (Kd.R_below RV6.out hb); have O7 := Aside0.mk (blk_below O6.out hb); have R7 := Aside0.mk (blk_below R6.out hb); have B7 := Aside0.mk (below_step B6.out hb); have H7 := Aside0.mk (H6.out.below hb); clear hb y0 y1 yl))
  have n1 := blk_new w7 (.cells #[.string fv] 9)
  have n2 := blk_new (w7.alloc (.cells #[.string fv] 9)) (.cells #[.bool fi] 4)
  rw [World.size_alloc] at n2
  have V8 := Aside0.mk (blk_alloc n1 (.cells #[.bool fi] 4))
  have I8 := Aside0.mk n2
  have hb8 : Below w7.heap.size w7 ((w7.alloc (.cells #[.string fv] 9)).alloc (.cells #[.bool fi] 4)) := below_alloc (below_alloc (Below.refl _ _) _) _
  have RV8 := Aside0.mk (Kd.R_below RV7.out hb8)
  have O8 := Aside0.mk (blk_below O7.out hb8)
  have R8 := Aside0.mk (blk_below R7.out hb8)
  have B8 := Aside0.mk (below_step B7.out hb8)
  have H8 := Aside0.mk (H7.out.below hb8)
  have S8 := Aside0.mk (Nat.le_trans (blk_lt R7.out) (Nat.le_refl _))
  clear n1 n2 hb8
  revert V8 I8 RV8 O8 R8 B8 H8
  generalize (w7.alloc (.cells #[.string fv] 9)).alloc (.cells #[.bool fi] 4) = w8
  intro V8 I8 RV8 O8 R8 B8 H8
  clear RV7 O7 R7 B7 H7 RV6 O6 R6 B6 H6 RV5 O5 R5 B5 H5 RV4 O4 R4 B4 H4
  have hne_ : ∀ (fn : Fn) (first cap : Array Value) (W : World), (binOp .neq 1 (.func fn first cap) .nilFunc).run Try.prog W = .ok (.bool true) W := fun _ _ _ W => by kernel_rfl
  have hnn_ : ∀ W : World, (binOp .neq 1 .nilFunc .nilFunc).run Try.prog W = .ok (.bool false) W := fun W => by kernel_rfl
  have hmk := dI0 (w7.heap.size + 1) (w7.heap.size) (w.heap.size) (w.heap.size + 1) (w.heap.size + 1 + 1) (w.heap.size + 1 + 1 + 1)
  have hi2 := dI2 (w7.heap.size + 1) (w7.heap.size) (w.heap.size) (w.heap.size + 1) (w.heap.size + 1 + 1) (w.heap.size + 1 + 1 + 1) w8
  have hi3 := dI3 (w7.heap.size + 1) (w7.heap.size) (w.heap.size) (w.heap.size + 1) (w.heap.size + 1 + 1) (w.heap.size + 1 + 1 + 1) w8
  have hi4 := dI4 (w7.heap.size + 1) (w7.heap.size) (w.heap.size) (w.heap.size + 1) (w.heap.size + 1 + 1) (w.heap.size + 1 + 1 + 1) w8
  have hi5 := dI5 (w7.heap.size + 1) (w7.heap.size) (w.heap.size) (w.heap.size + 1) (w.heap.size + 1 + 1) (w.heap.size + 1 + 1 + 1) w8
  have hi6 := dI6 (w7.heap.size + 1) (w7.heap.size) (w.heap.size) (w.heap.size + 1) (w.heap.size + 1 + 1) (w.heap.size + 1 + 1 + 1) w8
  have hb9 : Below w8.heap.size w8 (w8.alloc (.map (dM5 (w7.heap.size + 1) (w7.heap.size) (w.heap.size) (w.heap.size + 1) (w.heap.size + 1 + 1) (w.heap.size + 1 + 1 + 1)) 5)) := below_alloc (Below.refl _ _) _
  have HB9 := Aside0.mk hb9
  clear hb9
  rcases HW.out with rfl | rfl | rfl | rfl
  · have h := HT.out
    clear HT
    rw [if_pos rfl] at h
    cases h
    have hget := dG2 (w7.heap.size + 1) (w7.heap.size) (w.heap.size) (w.heap.size + 1) (w.heap.size + 1 + 1) (w.heap.size + 1 + 1 + 1) w8
    have x9 := (blk_cell (blk_alloc H8.out.x (.map (dM5 (w7.heap.size + 1) (w7.heap.size) (w.heap.size) (w.heap.size + 1) (w.heap.size + 1 + 1) (w.heap.size + 1 + 1 + 1)) 5)) 0).trans rfl
    go_upto_region 14 with (fail)
    clear hmk hi2 hi3 hi4 hi5 hi6 hget x9
    have V9 := Aside0.mk (blk_below V8.out HB9.out)
    have I9 := Aside0.mk (blk_below I8.out HB9.out)
    have RV9 := Aside0.mk (Kd.R_below RV8.out HB9.out)
    have O9 := Aside0.mk (blk_below O8.out HB9.out)
    have R9 := Aside0.mk (blk_below R8.out HB9.out)
    have B9 := Aside0.mk (below_step B8.out HB9.out)
    have H9 := Aside0.mk (H8.out.below HB9.out)
    revert V9 I9 RV9 O9 R9 B9 H9
    clear HB9
    generalize w8.alloc (.map (dM5 (w7.heap.size + 1) (w7.heap.size) (w.heap.size) (w.heap.size + 1) (w.heap.size + 1 + 1) (w.heap.size + 1 + 1 + 1)) 5) = w9
    intro V9 I9 RV9 O9 R9 B9 H9
    clear V8 I8 RV8 O8 R8 B8 H8
    go_upto_region 16 with (first | (go_at_call 31; refine (must_yes _ _).mono ?_; rintro e w' ⟨rfl, rfl⟩) | (go_at_call 33; refine (c2_calls (w7.heap.size + 1) (w7.heap.size) (w.heap.size + 1 + 1 + 1) 2 fi fv _ ((blk_cell I9.out 0).trans rfl) ((blk_cell V9.out 0).trans rfl) (by have := S8.out; omega) (by have := S8.out; omega) R9.out).mono ?_; rintro e w10 ⟨rfl, hch, hr⟩; have R10 := Aside0.mk hr; have O10 := Aside0.mk (hch.blk O9.out (by simp)); have RV10 := Aside0.mk (R_ch RV9.out hch HS.out); have B10 := Aside0.mk (hch.below B9.out B9.out.size (by omega)); clear hr hch))
    have q0 := (blk_cell R10.out 0).trans rfl; have q1 := (blk_cell R10.out 1).trans rfl; have q2 := (blk_cell R10.out 2).trans rfl; have q3 := (blk_cell R10.out 3).trans rfl; have q4 := (blk_cell R10.out 4).trans rfl; have q5 := (blk_cell R10.out 5).trans rfl; have q6 := (blk_cell R10.out 6).trans rfl
    have g0 := blk_frozen R10.out 0; have g1 := blk_frozen R10.out 1; have g2 := blk_frozen R10.out 2; have g3 := blk_frozen R10.out 3; have g4 := blk_frozen R10.out 4; have g5 := blk_frozen R10.out 5; have g6 := blk_frozen R10.out 6
    have o0 := (blk_cell O10.out 0).trans rfl; have go0 := blk_frozen O10.out 0
    go_region
    all_goals go_wp2
    have hs := HS.out
    exact do_idle _ (selfW w10 (w.heap.size + 1 + 1) (w.heap.size + 1 + 1 + 1) (.slice Av l0.length cv) (.int .i64 0) (.int .u8 2) (.int .i64 0) (.int .u64 0) (.bool fi) (.string fv) (.slice none 0 0)) (w.heap.size + 1) (w.heap.size + 1 + 1) (w.heap.size + 1 + 1 + 1) _ _ rfl rfl (selfW_out O10.out (by omega)) (selfW_r R10.out (by omega)) rfl
      ⟨_, _, rfl, R_nn (Kd.R_lower (selfW_R RV10.out (by omega) (by omega)) (by omega)), Kd.Q_nil _ _ _ _ _, selfW_below B10.out (by omega) (by omega)⟩
  · have h := HT.out
    clear HT
    rw [if_neg (by decide), if_pos rfl] at h
    cases fi
    · rw [if_neg (by simp)] at h
      obtain ⟨⟨p1, p2⟩, hp, h⟩ := Option.bind_eq_some_iff.1 h
      cases h
      have HP := Aside0.mk hp
      clear hp
      have hget := dG3 (w7.heap.size + 1) (w7.heap.size) (w.heap.size) (w.heap.size + 1) (w.heap.size + 1 + 1) (w.heap.size + 1 + 1 + 1) w8
      have x9 := (blk_cell (blk_alloc H8.out.x (.map (dM5 (w7.heap.size + 1) (w7.heap.size) (w.heap.size) (w.heap.size + 1) (w.heap.size + 1 + 1) (w.heap.size + 1 + 1 + 1)) 5)) 0).trans rfl
      go_upto_region 14 with (fail)
      clear hmk hi2 hi3 hi4 hi5 hi6 hget x9
      have V9 := Aside0.mk (blk_below V8.out HB9.out)
      have I9 := Aside0.mk (blk_below I8.out HB9.out)
      have RV9 := Aside0.mk (Kd.R_below RV8.out HB9.out)
      have O9 := Aside0.mk (blk_below O8.out HB9.out)
      have R9 := Aside0.mk (blk_below R8.out HB9.out)
      have B9 := Aside0.mk (below_step B8.out HB9.out)
      have H9 := Aside0.mk (H8.out.below HB9.out)
      revert V9 I9 RV9 O9 R9 B9 H9
      clear HB9
      generalize w8.alloc (.map (dM5 (w7.heap.size + 1) (w7.heap.size) (w.heap.size) (w.heap.size + 1) (w.heap.size + 1 + 1) (w.heap.size + 1 + 1 + 1)) 5) = w9
      intro V9 I9 RV9 O9 R9 B9 H9
      clear V8 I8 RV8 O8 R8 B8 H8
      go_upto_region 16 with (first | (go_at_call 31; refine (must_yes _ _).mono ?_; rintro e w' ⟨rfl, rfl⟩) | (go_at_call 34; refine (c3_yes (w7.heap.size + 1) (w.heap.size) (w.heap.size + 1) (w.heap.size + 1 + 1) (.slice Av l0.length cv) k p1 p2 _ ((blk_cell I9.out 0).trans rfl) H9.out O9.out HP.out).mono ?_; rintro e w10 ⟨rfl, hch, v, ho, hr⟩; obtain ⟨Ax, cx, rfl⟩ := cells_slice hr; have R10 := Aside0.mk (hch.blk R9.out (by simp)); have O10 := Aside0.mk ho; have RV10 := Aside0.mk hr; have B10 := Aside0.mk (hch.below B9.out B9.out.size (by omega)); replace HS := Aside0.mk (blk_lt R9.out); clear hr hch ho))
      have q0 := (blk_cell R10.out 0).trans rfl; have q1 := (blk_cell R10.out 1).trans rfl; have q2 := (blk_cell R10.out 2).trans rfl; have q3 := (blk_cell R10.out 3).trans rfl; have q4 := (blk_cell R10.out 4).trans rfl; have q5 := (blk_cell R10.out 5).trans rfl; have q6 := (blk_cell R10.out 6).trans rfl
      have g0 := blk_frozen R10.out 0; have g1 := blk_frozen R10.out 1; have g2 := blk_frozen R10.out 2; have g3 := blk_frozen R10.out 3; have g4 := blk_frozen R10.out 4; have g5 := blk_frozen R10.out 5; have g6 := blk_frozen R10.out 6
      have o0 := (blk_cell O10.out 0).trans rfl; have go0 := blk_frozen O10.out 0
      go_region
      all_goals go_wp2
      have hs := HS.out
      have hb9 := B9.out.size
      exact do_idle _ (selfW w10 (w.heap.size + 1 + 1) (w.heap.size + 1 + 1 + 1) (.slice Ax p1.length cx) (.int .i64 0) (.int .u8 3) (.int .i64 0) (.int .u64 0) (.bool false) (.string ⟨#[]⟩) (.slice none 0 0)) (w.heap.size + 1) (w.heap.size + 1 + 1) (w.heap.size + 1 + 1 + 1) _ _ rfl rfl (selfW_out O10.out (by omega)) (selfW_r R10.out (by omega)) rfl
        ⟨_, _, rfl, R_nn (Kd.R_lower (selfW_R RV10.out (by omega) (by omega)) (by omega)), Kd.Q_nil _ _ _ _ _, selfW_below B10.out (by omega) (by omega)⟩
    · rw [if_pos rfl] at h
      cases h
      have hget := dG3 (w7.heap.size + 1) (w7.heap.size) (w.heap.size) (w.heap.size + 1) (w.heap.size + 1 + 1) (w.heap.size + 1 + 1 + 1) w8
      have x9 := (blk_cell (blk_alloc H8.out.x (.map (dM5 (w7.heap.size + 1) (w7.heap.size) (w.heap.size) (w.heap.size + 1) (w.heap.size + 1 + 1) (w.heap.size + 1 + 1 + 1)) 5)) 0).trans rfl
      go_upto_region 14 with (fail)
      clear hmk hi2 hi3 hi4 hi5 hi6 hget x9
      have V9 := Aside0.mk (blk_below V8.out HB9.out)
      have I9 := Aside0.mk (blk_below I8.out HB9.out)
      have RV9 := Aside0.mk (Kd.R_below RV8.out HB9.out)
      have O9 := Aside0.mk (blk_below O8.out HB9.out)
      have R9 := Aside0.mk (blk_below R8.out HB9.out)
      have B9 := Aside0.mk (below_step B8.out HB9.out)
      have H9 := Aside0.mk (H8.out.below HB9.out)
      revert V9 I9 RV9 O9 R9 B9 H9
      clear HB9
      generalize w8.alloc (.map (dM5 (w7.heap.size + 1) (w7.heap.size) (w.heap.size) (w.heap.size + 1) (w.heap.size + 1 + 1) (w.heap.size + 1 + 1 + 1)) 5) = w9
      intro V9 I9 RV9 O9 R9 B9 H9
      clear V8 I8 RV8 O8 R8 B8 H8
      go_wp2_with (first | (go_at_call 31; refine (must_yes _ _).mono ?_; rintro e w' ⟨rfl, rfl⟩) | (go_at_call 34; refine (c3_no (w7.heap.size + 1) (w.heap.size) (w.heap.size + 1) (w.heap.size + 1 + 1) _ ((blk_cell I9.out 0).trans rfl)).mono ?_; rintro e w' ⟨rfl, rfl⟩))
      exact do_catch _ _ (w.heap.size + 1) (w.heap.size + 1 + 1) (w.heap.size + 1 + 1 + 1) 8 3 _ rfl rfl ((blk_cell H9.out.x 0).trans rfl) (by simp) O9.out R9.out (fun w'' hc => ⟨_, _, rfl, R_nn (Kd.R_lower (R_ch RV9.out hc HS.out) (by have := HS.out; omega)), Kd.Q_nil _ _ _ _ _, hc.below B9.out B9.out.size (by omega)⟩)
  · have h := HT.out
    clear HT
    rw [if_neg (by decide), if_neg (by decide), if_pos rfl] at h
    cases fi
    · rw [if_neg (by simp)] at h
      cases h
      have hget := dG4 (w7.heap.size + 1) (w7.heap.size) (w.heap.size) (w.heap.size + 1) (w.heap.size + 1 + 1) (w.heap.size + 1 + 1 + 1) w8
      have x9 := (blk_cell (blk_alloc H8.out.x (.map (dM5 (w7.heap.size + 1) (w7.heap.size) (w.heap.size) (w.heap.size + 1) (w.heap.size + 1 + 1) (w.heap.size + 1 + 1 + 1)) 5)) 0).trans rfl
      go_upto_region 14 with (fail)
      clear hmk hi2 hi3 hi4 hi5 hi6 hget x9
      have V9 := Aside0.mk (blk_below V8.out HB9.out)
      have I9 := Aside0.mk (blk_below I8.out HB9.out)
      have RV9 := Aside0.mk (Kd.R_below RV8.out HB9.out)
      have O9 := Aside0.mk (blk_below O8.out HB9.out)
      have R9 := Aside0.mk (blk_below R8.out HB9.out)
      have B9 := Aside0.mk (below_step B8.out HB9.out)
      have H9 := Aside0.mk (H8.out.below HB9.out)
      revert V9 I9 RV9 O9 R9 B9 H9
      clear HB9
      generalize w8.alloc (.map (dM5 (w7.heap.size + 1) (w7.heap.size) (w.heap.size) (w.heap.size + 1) (w.heap.size + 1 + 1) (w.heap.size + 1 + 1 + 1)) 5) = w9
      intro V9 I9 RV9 O9 R9 B9 H9
      clear V8 I8 RV8 O8 R8 B8 H8
      go_wp2_with (first | (go_at_call 31; refine (must_yes _ _).mono ?_; rintro e w' ⟨rfl, rfl⟩) | (go_at_call 36; refine (c4_no (w7.heap.size + 1) (w.heap.size) (w.heap.size + 1) (w.heap.size + 1 + 1) _ ((blk_cell I9.out 0).trans rfl)).mono ?_; rintro e w' ⟨rfl, rfl⟩))
      exact do_catch _ _ (w.heap.size + 1) (w.heap.size + 1 + 1) (w.heap.size + 1 + 1 + 1) 7 4 _ rfl rfl ((blk_cell H9.out.x 0).trans rfl) (by simp) O9.out R9.out (fun w'' hc => ⟨_, _, rfl, R_nn (Kd.R_lower (R_ch RV9.out hc HS.out) (by have := HS.out; omega)), Kd.Q_nil _ _ _ _ _, hc.below B9.out B9.out.size (by omega)⟩)
    · rw [if_pos rfl] at h
      obtain ⟨⟨p1, p2⟩, hp, h⟩ := Option.bind_eq_some_iff.1 h
      cases h
      have HP := Aside0.mk hp
      clear hp
      have hget := dG4 (w7.heap.size + 1) (w7.heap.size) (w.heap.size) (w.heap.size + 1) (w.heap.size + 1 + 1) (w.heap.size + 1 + 1 + 1) w8
      have x9 := (blk_cell (blk_alloc H8.out.x (.map (dM5 (w7.heap.size + 1) (w7.heap.size) (w.heap.size) (w.heap.size + 1) (w.heap.size + 1 + 1) (w.heap.size + 1 + 1 + 1)) 5)) 0).trans rfl
      go_upto_region 14 with (fail)
      clear hmk hi2 hi3 hi4 hi5 hi6 hget x9
      have V9 := Aside0.mk (blk_below V8.out HB9.out)
      have I9 := Aside0.mk (blk_below I8.out HB9.out)
      have RV9 := Aside0.mk (Kd.R_below RV8.out HB9.out)
      have O9 := Aside0.mk (blk_below O8.out HB9.out)
      have R9 := Aside0.mk (blk_below R8.out HB9.out)
      have B9 := Aside0.mk (below_step B8.out HB9.out)
      have H9 := Aside0.mk (H8.out.below HB9.out)
      revert V9 I9 RV9 O9 R9 B9 H9
      clear HB9
      generalize w8.alloc (.map (dM5 (w7.heap.size + 1) (w7.heap.size) (w.heap.size) (w.heap.size + 1) (w.heap.size + 1 + 1) (w.heap.size + 1 + 1 + 1)) 5) = w9
      intro V9 I9 RV9 O9 R9 B9 H9
      clear V8 I8 RV8 O8 R8 B8 H8
      go_upto_region 16 with (first | (go_at_call 31; refine (must_yes _ _).mono ?_; rintro e w' ⟨rfl, rfl⟩) | (go_at_call 36; refine (c4_yes (w7.heap.size + 1) (w.heap.size) (w.heap.size + 1) (w.heap.size + 1 + 1) (.slice Av l0.length cv) k p1 p2 _ ((blk_cell I9.out 0).trans rfl) H9.out O9.out HP.out).mono ?_; rintro e w10 ⟨rfl, hch, v, ho, hr⟩; obtain ⟨Ax, cx, rfl⟩ := cells_slice hr; have R10 := Aside0.mk (hch.blk R9.out (by simp)); have O10 := Aside0.mk ho; have RV10 := Aside0.mk hr; have B10 := Aside0.mk (hch.below B9.out B9.out.size (by omega)); replace HS := Aside0.mk (blk_lt R9.out); clear hr hch ho))
      have q0 := (blk_cell R10.out 0).trans rfl; have q1 := (blk_cell R10.out 1).trans rfl; have q2 := (blk_cell R10.out 2).trans rfl; have q3 := (blk_cell R10.out 3).trans rfl; have q4 := (blk_cell R10.out 4).trans rfl; have q5 := (blk_cell R10.out 5).trans rfl; have q6 := (blk_cell R10.out 6).trans rfl
      have g0 := blk_frozen R10.out 0; have g1 := blk_frozen R10.out 1; have g2 := blk_frozen R10.out 2; have g3 := blk_frozen R10.out 3; have g4 := blk_frozen R10.out 4; have g5 := blk_frozen R10.out 5; have g6 := blk_frozen R10.out 6
      have o0 := (blk_cell O10.out 0).trans rfl; have go0 := blk_frozen O10.out 0
      go_region
      all_goals go_wp2
      have hs := HS.out
      have hb9 := B9.out.size
      exact do_idle _ (selfW w10 (w.heap.size + 1 + 1) (w.heap.size + 1 + 1 + 1) (.slice Ax p1.length cx) (.int .i64 0) (.int .u8 4) (.int .i64 0) (.int .u64 0) (.bool false) (.string ⟨#[]⟩) (.slice none 0 0)) (w.heap.size + 1) (w.heap.size + 1 + 1) (w.heap.size + 1 + 1 + 1) _ _ rfl rfl (selfW_out O10.out (by omega)) (selfW_r R10.out (by omega)) rfl
        ⟨_, _, rfl, R_nn (Kd.R_lower (selfW_R RV10.out (by omega) (by omega)) (by omega)), Kd.Q_nil _ _ _ _ _, selfW_below B10.out (by omega) (by omega)⟩
  · have h := HT.out
    clear HT
    rw [if_neg (by decide), if_neg (by decide), if_neg (by decide), if_pos rfl] at h
    cases fi
    · rw [if_neg (by simp)] at h
      cases h
      have hget := dG5 (w7.heap.size + 1) (w7.heap.size) (w.heap.size) (w.heap.size + 1) (w.heap.size + 1 + 1) (w.heap.size + 1 + 1 + 1) w8
      have x9 := (blk_cell (blk_alloc H8.out.x (.map (dM5 (w7.heap.size + 1) (w7.heap.size) (w.heap.size) (w.heap.size + 1) (w.heap.size + 1 + 1) (w.heap.size + 1 + 1 + 1)) 5)) 0).trans rfl
      go_upto_region 14 with (fail)
      clear hmk hi2 hi3 hi4 hi5 hi6 hget x9
      have V9 := Aside0.mk (blk_below V8.out HB9.out)
      have I9 := Aside0.mk (blk_below I8.out HB9.out)
      have RV9 := Aside0.mk (Kd.R_below RV8.out HB9.out)
      have O9 := Aside0.mk (blk_below O8.out HB9.out)
      have R9 := Aside0.mk (blk_below R8.out HB9.out)
      have B9 := Aside0.mk (below_step B8.out HB9.out)
      have H9 := Aside0.mk (H8.out.below HB9.out)
      revert V9 I9 RV9 O9 R9 B9 H9
      clear HB9
      generalize w8.alloc (.map (dM5 (w7.heap.size + 1) (w7.heap.size) (w.heap.size) (w.heap.size + 1) (w.heap.size + 1 + 1) (w.heap.size + 1 + 1 + 1)) 5) = w9
      intro V9 I9 RV9 O9 R9 B9 H9
      clear V8 I8 RV8 O8 R8 B8 H8
      go_wp2_with (first | (go_at_call 31; refine (must_yes _ _).mono ?_; rintro e w' ⟨rfl, rfl⟩) | (go_at_call 37; refine (c5_no (w7.heap.size + 1) (w.heap.size) (w.heap.size + 1) (w.heap.size + 1 + 1) _ ((blk_cell I9.out 0).trans rfl)).mono ?_; rintro e w' ⟨rfl, rfl⟩))
      exact do_catch _ _ (w.heap.size + 1) (w.heap.size + 1 + 1) (w.heap.size + 1 + 1 + 1) 7 5 _ rfl rfl ((blk_cell H9.out.x 0).trans rfl) (by simp) O9.out R9.out (fun w'' hc => ⟨_, _, rfl, R_nn (Kd.R_lower (R_ch RV9.out hc HS.out) (by have := HS.out; omega)), Kd.Q_nil _ _ _ _ _, hc.below B9.out B9.out.size (by omega)⟩)
    · rw [if_pos rfl] at h
      obtain ⟨⟨p1, p2⟩, hp, h⟩ := Option.bind_eq_some_iff.1 h
      cases h
      have HP := Aside0.mk hp
      clear hp
      have hget := dG5 (w7.heap.size + 1) (w7.heap.size) (w.heap.size) (w.heap.size + 1) (w.heap.size + 1 + 1) (w.heap.size + 1 + 1 + 1) w8
      have x9 := (blk_cell (blk_alloc H8.out.x (.map (dM5 (w7.heap.size + 1) (w7.heap.size) (w.heap.size) (w.heap.size + 1) (w.heap.size + 1 + 1) (w.heap.size + 1 + 1 + 1)) 5)) 0).trans rfl
      go_upto_region 14 with (fail)
      clear hmk hi2 hi3 hi4 hi5 hi6 hget x9
      have V9 := Aside0.mk (blk_below V8.out HB9.out)
      have I9 := Aside0.mk (blk_below I8.out HB9.out)
      have RV9 := Aside0.mk (Kd.R_below RV8.out HB9.out)
      have O9 := Aside0.mk (blk_below O8.out HB9.out)
      have R9 := Aside0.mk (blk_below R8.out HB9.out)
      have B9 := Aside0.mk (below_step B8.out HB9.out)
      have H9 := Aside0.mk (H8.out.below HB9.out)
      revert V9 I9 RV9 O9 R9 B9 H9
      clear HB9
      generalize w8.alloc (.map (dM5 (w7.heap.size + 1) (w7.heap.size) (w.heap.size) (w.heap.size + 1) (w.heap.size + 1 + 1) (w.heap.size + 1 + 1 + 1)) 5) = w9
      intro V9 I9 RV9 O9 R9 B9 H9
      clear V8 I8 RV8 O8 R8 B8 H8
      go_upto_region 16 with (first | (go_at_call 31; refine (must_yes _ _).mono ?_; rintro e w' ⟨rfl, rfl⟩) | (go_at_call 37; refine (c5_yes (w7.heap.size + 1) (w.heap.size) (w.heap.size + 1) (w.heap.size + 1 + 1) (.slice Av l0.length cv) k p1 p2 _ ((blk_cell I9.out 0).trans rfl) H9.out O9.out HP.out).mono ?_; rintro e w10 ⟨rfl, hch, v, ho, hr⟩; obtain ⟨Ax, cx, rfl⟩ := cells_slice hr; have R10 := Aside0.mk (hch.blk R9.out (by simp)); have O10 := Aside0.mk ho; have RV10 := Aside0.mk hr; have B10 := Aside0.mk (hch.below B9.out B9.out.size (by omega)); replace HS := Aside0.mk (blk_lt R9.out); clear hr hch ho))
      have q0 := (blk_cell R10.out 0).trans rfl; have q1 := (blk_cell R10.out 1).trans rfl; have q2 := (blk_cell R10.out 2).trans rfl; have q3 := (blk_cell R10.out 3).trans rfl; have q4 := (blk_cell R10.out 4).trans rfl; have q5 := (blk_cell R10.out 5).trans rfl; have q6 := (blk_cell R10.out 6).trans rfl
      have g0 := blk_frozen R10.out 0; have g1 := blk_frozen R10.out 1; have g2 := blk_frozen R10.out 2; have g3 := blk_frozen R10.out 3; have g4 := blk_frozen R10.out 4; have g5 := blk_frozen R10.out 5; have g6 := blk_frozen R10.out 6
      have o0 := (blk_cell O10.out 0).trans rfl; have go0 := blk_frozen O10.out 0
      go_region
      all_goals go_wp2
      have hs := HS.out
      have hb9 := B9.out.size
      exact do_idle _ (selfW w10 (w.heap.size + 1 + 1) (w.heap.size + 1 + 1 + 1) (.slice Ax p1.length cx) (.int .i64 0) (.int .u8 5) (.int .i64 0) (.int .u64 0) (.bool false) (.string ⟨#[]⟩) (.slice none 0 0)) (w.heap.size + 1) (w.heap.size + 1 + 1) (w.heap.size + 1 + 1 + 1) _ _ rfl rfl (selfW_out O10.out (by omega)) (selfW_r R10.out (by omega)) rfl
        ⟨_, _, rfl, R_nn (Kd.R_lower (selfW_R RV10.out (by omega) (by omega)) (by omega)), Kd.Q_nil _ _ _ _ _, selfW_below B10.out (by omega) (by omega)⟩
theorem cells_sliceQ {w : World} {b : Nat} {ok : Nat → Prop} {v : Value} {xs : List S42} (h : Kd.Q k42 42 w b ok v xs) : ∃ A n c, v = .slice A n c := by
  obtain ⟨_, inner, hq, _⟩ := h
  obtain ⟨A, c, hv, _⟩ := q_slice hq
  exact ⟨A, _, c, hv⟩
theorem apart_ab {w9 w10 : World} {b : Nat} {v u : Value} {xs ys : List S42} (h : Kd.R k42 42 w9 b (fun _ => True) v xs) (hq : Kd.Q k42 42 w10 w9.heap.size (fun _ => True) u ys) : ∀ j, v.ownBlock = some j → some j ≠ u.ownBlock := fun j e1 e2 => by
  have a := ((Kd.R_bound h).1 j e1).2.2.1
  have b := ((Kd.Q_bound hq).1 j e2.symm).2.1
  omega
theorem apart_ba {w9 w10 : World} {b : Nat} {v u : Value} {xs ys : List S42} (h : Kd.R k42 42 w9 b (fun _ => True) v xs) (hq : Kd.Q k42 42 w10 w9.heap.size (fun _ => True) u ys) : ∀ j, u.ownBlock = some j → some j ≠ v.ownBlock := fun j e1 e2 => apart_ab h hq j e2.symm e1.symm
theorem part_len {k : Nat} {l0 all : List S42} {fr tt : ByteArray} {en : Bool} (hR : cells_Right.f k l0 = some true) (hs : span_Right.f k fr tt en = some true) (hl : l0.length < 4398046511104) (hp : cells_Part.f k l0 fr tt en = some all) : all.length < 4398046511104 := by
  unfold cells_Part.f at hp
  rw [hR] at hp
  simp only [Option.bind_some, if_true] at hp
  rw [hs] at hp
  simp only [Option.bind_some] at hp
  rw [if_pos hl] at hp
  cases hp
  exact Nat.lt_of_le_of_lt (List.length_filter_le _ _) hl
set_option maxHeartbeats 40000000 in
set_option maxRecDepth 100000 in
theorem do_unkeyed (k : Nat) (A0 : Option Addr) (c0 : Nat) (l0 : List S42) (wh : Int) (key val fr tt : ByteArray) (en : Bool) (mo : Int) (w : World) (hr0 : Kd.C k42 w A0 l0.length l0) (hc0 : l0.length ≤ c0) (hR : cells_Right.f k l0 = some true) (hl : l0.length < 4398046511104) (fv : ByteArray) (fi : Bool) (m : Bool) (hwh : wh ≠ 2 ∧ wh ≠ 3 ∧ wh ≠ 4 ∧ wh ≠ 5) (hk : model_key.f wh key val fr tt en mo = some (false, m)) (hf : cells_Find.f k l0 key = some (fv, fi)) (r1 : List S42) (r2 r3 r4 r5 : Int) (r6 : Bool) (r7 : ByteArray) (r8 : List S42)
    (ht : (if wh = 2 then some (l0, 0, wh, 0, 0, fi, fv, [])
        else if wh = 3 then (if fi = true then some (l0, 0, wh, 8, 0, false, ⟨#[]⟩, []) else (cells_Put.f k l0 key val).bind fun p => some (p.1, 0, wh, 0, 0, false, ⟨#[]⟩, []))
        else if wh = 4 then (if fi = true then (cells_Put.f k l0 key val).bind fun p => some (p.1, 0, wh, 0, 0, false, ⟨#[]⟩, []) else some (l0, 0, wh, 7, 0, false, ⟨#[]⟩, []))
        else if wh = 5 then (if fi = true then (cells_Delete.f k l0 key).bind fun p => some (p.1, 0, wh, 0, 0, false, ⟨#[]⟩, []) else some (l0, 0, wh, 7, 0, false, ⟨#[]⟩, []))
        else if wh = 6 then (span_Right.f k fr tt en).bind fun s => if s = true ∧ 1 ≤ mo then (cells_Part.f k l0 fr tt en).bind fun all => some (l0, 0, wh, 0, 0, decide (mn (all.length : Int) mo < (all.length : Int)), ⟨#[]⟩, all.take mo.toNat) else some (l0, 0, wh, 2, 0, false, ⟨#[]⟩, [])
        else some (l0, 0, wh, 2, 0, false, ⟨#[]⟩, [])) = some (r1, r2, r3, r4, r5, r6, r7, r8)) :
    Calls Try.prog 12 #[.slice A0 l0.length c0, .agg #[.int .u8 wh, .string key, .string val, .string fr, .string tt, .bool en, .int .i64 mo]] w (DoPost w r1 r2 r3 r4 r5 r6 r7 r8) := by
  have HT := Aside0.mk ht
  have HW := Aside0.mk hwh
  have HR0 := Aside0.mk hR
  clear ht hwh
  obtain ⟨f1, f2, f3, f4, f5⟩ := doW_facts A0 c0 l0 wh key val fr tt en mo w hr0 hc0
  have hmf_ : ∀ (fn : Fn) (first cap : Array Value) (w : World), (Instr.makeFunc fn first cap).run Try.prog w = .ok (.func fn first cap) w := fun _ _ _ _ => rfl
  have hu26 := Try.underlying26
  have hu33 := Try.underlying33
  have hW : doW A0 c0 l0 wh key val fr tt en mo w = (((w.alloc (.cells #[.slice A0 l0.length c0] 22)).alloc (.cells #[.int .u8 wh, .string key, .string val, .string fr, .string tt, .bool en, .int .i64 mo] 26)).alloc (.cells #[.slice none 0 0] 22)).alloc (.cells #[.int .i64 0, .int .u8 wh, .int .i64 0, .int .u64 0, .bool false, .string ⟨#[]⟩, .slice none 0 0] 33) := rfl
  generalize doW A0 c0 l0 wh key val fr tt en mo w = W1 at hW f1 f2 f3 f4 f5
  have hRT := cells_Right.calls k A0 c0 l0 true W1 f1.r f1.c hR
  have HRT := Aside0.mk hRT; have H1 := Aside0.mk f1; have O1 := Aside0.mk f2; have R1 := Aside0.mk f3; have B1 := Aside0.mk f4; have S1 := Aside0.mk f5; have HC0 := Aside0.mk hr0; have HL := Aside0.mk hl
  clear hR hRT f1 f2 f3 f4 f5 hr0 hl
  have HK := Aside0.mk hk
  have HF := Aside0.mk hf
  clear hk hf
  go_enter_defers Try.func12, Try.ntmps12
  go_upto_region 6 with (first | (go_at_call 28; rw [← hW]; clear hW; refine HRT.out.mono ?_; rintro e w2 ⟨rfl, hb⟩; have H2 := Aside0.mk (H1.out.below hb); have O2 := Aside0.mk (blk_below O1.out hb); have R2 := Aside0.mk (blk_below R1.out hb); have B2 := Aside0.mk (below_step B1.out hb); have S2 := Aside0.mk (Nat.le_trans (Nat.le_of_eq S1.out.symm) hb.size); clear hb; have l0c := (blk_cell H2.out.l 0).trans rfl) | ((with_reducible refine gate_dst (N := 22) rfl ?_); refine Kd.R_make k42 (w0 := w2) w2.heap.size 42 rfl (N := 22) rfl 22 (.tmp 21) (.tmp 21) rfl (l0.length : Int) rfl rfl Try.underlying22 (.agg #[(.string ⟨#[]⟩), (.string ⟨#[]⟩)]) 32 info42 rfl (by decide) (by decide) z42 (ok := fun _ => True) (okp := fun _ => True) (k42_mkM _ _ _ _) (fun _ h => h) trivial (by omega) (by have := HL.out; rw [Int.toNat_natCast]; omega) (Below.refl _ _) (Nat.le_refl _) ?_; rw [Int.toNat_natCast]; intro v w3 hr hb hgb hnb; clear hgb hnb; obtain ⟨Av, cv, rfl⟩ := cells_slice hr; rw [List.length_replicate] at hr ⊢; have RV := Aside0.mk hr; have BV := Aside0.mk hb; have O3 := Aside0.mk (blk_below O2.out hb); have R3 := Aside0.mk (blk_below R2.out hb); have H3 := Aside0.mk (H2.out.below hb); have B3 := Aside0.mk (below_step B2.out hb); clear hr hb; have o0 := (blk_cell O3.out 0).trans rfl; have f0 := blk_frozen O3.out 0))
  clear l0c o0 f0
  have S2' := S2.out
  have RV4 := Aside0.mk (R_keepB RV.out (g := w.heap.size + 1 + 1) (by omega) 0 (.slice Av l0.length cv))
  have O4 := Aside0.mk (blk_put O3.out 0 (.slice Av l0.length cv) rfl)
  have R4 := Aside0.mk (blk_far R3.out (p := ⟨w.heap.size + 1 + 1, 0, none⟩) (by show _ ≠ _; simp) (.slice Av l0.length cv))
  have B4 := Aside0.mk (below_set (g := w.heap.size + 1 + 1) (j := 0) (v := .slice Av l0.length cv) B3.out (by omega))
  have H4 := Aside0.mk (H3.out.set (go := w.heap.size + 1 + 1) (v := .slice Av l0.length cv) (Kd.C_below HC0.out B4.out) (by simp; omega) (by simp))
  clear S2'
  revert RV4 O4 R4 B4 H4
  generalize (w3.setCell ⟨w.heap.size + 1 + 1, 0, none⟩ (.slice Av l0.length cv)) = w4
  intro RV4 O4 R4 B4 H4
  clear RV O3 R3 B3 H3
  have o4 := (blk_cell O4.out 0).trans rfl
  have l4 := (blk_cell H4.out.l 0).trans rfl
  go_upto_region 8 with ((with_reducible refine gate_dst (N := 25) rfl ?_); refine copy_cells (w0 := w4) w2.heap.size rfl (.tmp 23) (.tmp 24) rfl (.slice Av l0.length cv) (List.replicate l0.length z42) l0 A0 c0 rfl rfl RV4.out H4.out.r (by simp) (Below.refl _ _) ?_; intro w5 hr hb; have HS := Aside0.mk (show w.heap.size + 1 + 1 + 1 < w2.heap.size by have := S2.out; omega); have RV5 := Aside0.mk hr; have O5 := Aside0.mk (blk_belowB O4.out hb (by have := S2.out; omega)); have R5 := Aside0.mk (blk_belowB R4.out hb (by have := S2.out; omega)); have B5 := Aside0.mk (below_ext B4.out hb (by have := S2.out; omega)); have H5 := Aside0.mk (H4.out.belowB hb (Kd.C_below HC0.out B5.out) (by have := S2.out; omega) (by have := S2.out; omega)); clear hr hb o4 l4; have x0 := (blk_cell H5.out.x 0).trans rfl; have x1 := (blk_cell H5.out.x 1).trans rfl; have x2 := (blk_cell H5.out.x 2).trans rfl; have x3 := (blk_cell H5.out.x 3).trans rfl; have x4 := (blk_cell H5.out.x 4).trans rfl; have x5 := (blk_cell H5.out.x 5).trans rfl; have x6 := (blk_cell H5.out.x 6).trans rfl)
  go_upto_region 12 with (first | (go_at_call 30; refine (model_key.calls wh key val fr tt en mo false m _ HK.out).mono ?_; rintro e w6 ⟨rfl, hb⟩; have RV6 := Aside0.mk (Kd.R_below RV5.out hb); have O6 := Aside0.mk (blk_below O5.out hb); have R6 := Aside0.mk (blk_below R5.out hb); have B6 := Aside0.mk (below_step B5.out hb); have H6 := Aside0.mk (H5.out.below hb); clear hb x0 x1 x2 x3 x4 x5 x6; have y0 := (blk_cell H6.out.x 0).trans rfl; have y1 := (blk_cell H6.out.x 1).trans rfl; have yl := (blk_cell H6.out.l 0).trans rfl) | (go_at_call 31; refine (must_yes _ _).mono ?_; rintro e w' ⟨rfl, rfl⟩) | (go_at_call 32; refine (cells_Find.calls k A0 c0 l0 key fv fi _ H6.out.r H6.out.c HF.out).mono ?_; rintro e w7 ⟨rfl, hb⟩; have RV7 := Aside0.mk (Kd.R_below RV6.out hb); have O7 := Aside0.mk (blk_below O6.out hb); have R7 := Aside0.mk (blk_below R6.out hb); have B7 := Aside0.mk (below_step B6.out hb); have H7 := Aside0.mk (H6.out.below hb); clear hb y0 y1 yl))
  have n1 := blk_new w7 (.cells #[.string fv] 9)
  have n2 := blk_new (w7.alloc (.cells #[.string fv] 9)) (.cells #[.bool fi] 4)
  rw [World.size_alloc] at n2
  have V8 := Aside0.mk (blk_alloc n1 (.cells #[.bool fi] 4))
  have I8 := Aside0.mk n2
  have hb8 : Below w7.heap.size w7 ((w7.alloc (.cells #[.string fv] 9)).alloc (.cells #[.bool fi] 4)) := below_alloc (below_alloc (Below.refl _ _) _) _
  have RV8 := Aside0.mk (Kd.R_below RV7.out hb8)
  have O8 := Aside0.mk (blk_below O7.out hb8)
  have R8 := Aside0.mk (blk_below R7.out hb8)
  have B8 := Aside0.mk (below_step B7.out hb8)
  have H8 := Aside0.mk (H7.out.below hb8)
  have S8 := Aside0.mk (Nat.le_trans (blk_lt R7.out) (Nat.le_refl _))
  clear n1 n2 hb8
  revert V8 I8 RV8 O8 R8 B8 H8
  generalize (w7.alloc (.cells #[.string fv] 9)).alloc (.cells #[.bool fi] 4) = w8
  intro V8 I8 RV8 O8 R8 B8 H8
  clear RV7 O7 R7 B7 H7 RV6 O6 R6 B6 H6 RV5 O5 R5 B5 H5 RV4 O4 R4 B4 H4
  have hne_ : ∀ (fn : Fn) (first cap : Array Value) (W : World), (binOp .neq 1 (.func fn first cap) .nilFunc).run Try.prog W = .ok (.bool true) W := fun _ _ _ W => by kernel_rfl
  have hnn_ : ∀ W : World, (binOp .neq 1 .nilFunc .nilFunc).run Try.prog W = .ok (.bool false) W := fun W => by kernel_rfl
  have hmk := dI0 (w7.heap.size + 1) (w7.heap.size) (w.heap.size) (w.heap.size + 1) (w.heap.size + 1 + 1) (w.heap.size + 1 + 1 + 1)
  have hi2 := dI2 (w7.heap.size + 1) (w7.heap.size) (w.heap.size) (w.heap.size + 1) (w.heap.size + 1 + 1) (w.heap.size + 1 + 1 + 1) w8
  have hi3 := dI3 (w7.heap.size + 1) (w7.heap.size) (w.heap.size) (w.heap.size + 1) (w.heap.size + 1 + 1) (w.heap.size + 1 + 1 + 1) w8
  have hi4 := dI4 (w7.heap.size + 1) (w7.heap.size) (w.heap.size) (w.heap.size + 1) (w.heap.size + 1 + 1) (w.heap.size + 1 + 1 + 1) w8
  have hi5 := dI5 (w7.heap.size + 1) (w7.heap.size) (w.heap.size) (w.heap.size + 1) (w.heap.size + 1 + 1) (w.heap.size + 1 + 1 + 1) w8
  have hi6 := dI6 (w7.heap.size + 1) (w7.heap.size) (w.heap.size) (w.heap.size + 1) (w.heap.size + 1 + 1) (w.heap.size + 1 + 1 + 1) w8
  have hb9 : Below w8.heap.size w8 (w8.alloc (.map (dM5 (w7.heap.size + 1) (w7.heap.size) (w.heap.size) (w.heap.size + 1) (w.heap.size + 1 + 1) (w.heap.size + 1 + 1 + 1)) 5)) := below_alloc (Below.refl _ _) _
  have HB9 := Aside0.mk hb9
  clear hb9
  have h := HT.out
  clear HT
  rw [if_neg HW.out.1, if_neg HW.out.2.1, if_neg HW.out.2.2.1, if_neg HW.out.2.2.2] at h
  by_cases h6 : wh = 6
  · subst h6
    rw [if_pos rfl] at h
    obtain ⟨s, hs, h⟩ := Option.bind_eq_some_iff.1 h
    have HP := Aside0.mk hs
    clear hs
    by_cases hsm : s = true ∧ 1 ≤ mo
    · rw [if_pos hsm] at h
      obtain ⟨rfl, hm⟩ := hsm
      obtain ⟨all, hp, h⟩ := Option.bind_eq_some_iff.1 h
      obtain ⟨bq, hbq⟩ : ∃ bq, bq = decide (mn (all.length : Int) mo < (all.length : Int)) := ⟨_, rfl⟩
      rw [← hbq] at h
      have HBQ := Aside0.mk hbq
      clear hbq
      simp only [Option.some.injEq, Prod.mk.injEq] at h
      obtain ⟨rfl, rfl, rfl, rfl, rfl, h6, rfl, rfl⟩ := h
      subst r6
      have HM := Aside0.mk hm
      have HQ := Aside0.mk hp
      have HA := Aside0.mk (part_len HR0.out HP.out HL.out hp)
      clear hm hp
      have hget := dG6 (w7.heap.size + 1) (w7.heap.size) (w.heap.size) (w.heap.size + 1) (w.heap.size + 1 + 1) (w.heap.size + 1 + 1 + 1) w8
      have x9 := (blk_cell (blk_alloc H8.out.x (.map (dM5 (w7.heap.size + 1) (w7.heap.size) (w.heap.size) (w.heap.size + 1) (w.heap.size + 1 + 1) (w.heap.size + 1 + 1 + 1)) 5)) 0).trans rfl
      go_upto_region 14 with (fail)
      clear hmk hi2 hi3 hi4 hi5 hi6 hget x9
      have V9 := Aside0.mk (blk_below V8.out HB9.out)
      have I9 := Aside0.mk (blk_below I8.out HB9.out)
      have RV9 := Aside0.mk (Kd.R_below RV8.out HB9.out)
      have O9 := Aside0.mk (blk_below O8.out HB9.out)
      have R9 := Aside0.mk (blk_below R8.out HB9.out)
      have B9 := Aside0.mk (below_step B8.out HB9.out)
      have H9 := Aside0.mk (H8.out.below HB9.out)
      revert V9 I9 RV9 O9 R9 B9 H9
      clear HB9
      generalize w8.alloc (.map (dM5 (w7.heap.size + 1) (w7.heap.size) (w.heap.size) (w.heap.size + 1) (w.heap.size + 1 + 1) (w.heap.size + 1 + 1 + 1)) 5) = w9
      intro V9 I9 RV9 O9 R9 B9 H9
      clear V8 I8 RV8 O8 R8 B8 H8
      go_upto_region 16 with (first | (go_at_call 31; refine (must_yes _ _).mono ?_; rintro e w' ⟨rfl, rfl⟩) | (go_at_call 39; refine (c6_yes (w.heap.size) (w.heap.size + 1) (w.heap.size + 1 + 1 + 1) k all _ H9.out HP.out HM.out HQ.out HA.out (by simp) (by simp; omega) R9.out).mono ?_; rintro e w10 ⟨rfl, hch, v, hr, hq⟩; obtain ⟨Ax, nx, cx, rfl⟩ := cells_sliceQ hq; rw [← HBQ.out] at hr; have R10 := Aside0.mk hr; have O10 := Aside0.mk (hch.blk O9.out (by simp)); have RV10 := Aside0.mk (R_ch RV9.out hch HS.out); have QV10 := Aside0.mk hq; have HAB := Aside0.mk (apart_ab RV9.out hq); have HBA := Aside0.mk (apart_ba RV9.out hq); have HS9 := Aside0.mk (blk_lt R9.out); have B10 := Aside0.mk (hch.below B9.out B9.out.size (by omega)); clear hr hch hq))
      have q0 := (blk_cell R10.out 0).trans rfl; have q1 := (blk_cell R10.out 1).trans rfl; have q2 := (blk_cell R10.out 2).trans rfl; have q3 := (blk_cell R10.out 3).trans rfl; have q4 := (blk_cell R10.out 4).trans rfl; have q5 := (blk_cell R10.out 5).trans rfl; have q6 := (blk_cell R10.out 6).trans rfl
      have g0 := blk_frozen R10.out 0; have g1 := blk_frozen R10.out 1; have g2 := blk_frozen R10.out 2; have g3 := blk_frozen R10.out 3; have g4 := blk_frozen R10.out 4; have g5 := blk_frozen R10.out 5; have g6 := blk_frozen R10.out 6
      have o0 := (blk_cell O10.out 0).trans rfl; have go0 := blk_frozen O10.out 0
      go_region
      all_goals go_wp2
      have hs := HS.out
      have hs9 := HS9.out
      have hb9 := B9.out.size
      exact do_idle _ (selfW w10 (w.heap.size + 1 + 1) (w.heap.size + 1 + 1 + 1) (.slice Av l0.length cv) (.int .i64 0) (.int .u8 6) (.int .i64 0) (.int .u64 0) (.bool bq) (.string ⟨#[]⟩) (.slice Ax nx cx)) (w.heap.size + 1) (w.heap.size + 1 + 1) (w.heap.size + 1 + 1 + 1) _ _ rfl rfl (selfW_out O10.out (by omega)) (selfW_r R10.out (by omega)) rfl
        ⟨_, _, rfl, R_ok (Kd.R_lower (selfW_R RV10.out (by omega) (by omega)) (by omega)) HAB.out, Q_ok (Kd.Q_lower (selfW_Q QV10.out (by omega) (by omega)) (by omega)) HBA.out, selfW_below B10.out (by omega) (by omega)⟩
    · rw [if_neg hsm] at h
      cases h
      have HM := Aside0.mk hsm
      clear hsm
      have hget := dG6 (w7.heap.size + 1) (w7.heap.size) (w.heap.size) (w.heap.size + 1) (w.heap.size + 1 + 1) (w.heap.size + 1 + 1 + 1) w8
      have x9 := (blk_cell (blk_alloc H8.out.x (.map (dM5 (w7.heap.size + 1) (w7.heap.size) (w.heap.size) (w.heap.size + 1) (w.heap.size + 1 + 1) (w.heap.size + 1 + 1 + 1)) 5)) 0).trans rfl
      go_upto_region 14 with (fail)
      clear hmk hi2 hi3 hi4 hi5 hi6 hget x9
      have V9 := Aside0.mk (blk_below V8.out HB9.out)
      have I9 := Aside0.mk (blk_below I8.out HB9.out)
      have RV9 := Aside0.mk (Kd.R_below RV8.out HB9.out)
      have O9 := Aside0.mk (blk_below O8.out HB9.out)
      have R9 := Aside0.mk (blk_below R8.out HB9.out)
      have B9 := Aside0.mk (below_step B8.out HB9.out)
      have H9 := Aside0.mk (H8.out.below HB9.out)
      revert V9 I9 RV9 O9 R9 B9 H9
      clear HB9
      generalize w8.alloc (.map (dM5 (w7.heap.size + 1) (w7.heap.size) (w.heap.size) (w.heap.size + 1) (w.heap.size + 1 + 1) (w.heap.size + 1 + 1 + 1)) 5) = w9
      intro V9 I9 RV9 O9 R9 B9 H9
      clear V8 I8 RV8 O8 R8 B8 H8
      go_wp2_with (first | (go_at_call 31; refine (must_yes _ _).mono ?_; rintro e w' ⟨rfl, rfl⟩) | (go_at_call 39; refine (c6_no (w.heap.size) (w.heap.size + 1) (w.heap.size + 1 + 1 + 1) k s _ H9.out HP.out HM.out).mono ?_; rintro e w10 ⟨rfl, hb⟩; have RV10 := Aside0.mk (Kd.R_below RV9.out hb); have O10 := Aside0.mk (blk_below O9.out hb); have R10 := Aside0.mk (blk_below R9.out hb); have B10 := Aside0.mk (below_step B9.out hb); have H10 := Aside0.mk (H9.out.below hb); clear hb))
      exact do_catch _ _ (w.heap.size + 1) (w.heap.size + 1 + 1) (w.heap.size + 1 + 1 + 1) 2 6 _ rfl rfl ((blk_cell H10.out.x 0).trans rfl) (by simp) O10.out R10.out (fun w'' hc => ⟨_, _, rfl, R_nn (Kd.R_lower (R_ch RV10.out hc HS.out) (by have := HS.out; omega)), Kd.Q_nil _ _ _ _ _, hc.below B10.out B10.out.size (by omega)⟩)
  · rw [if_neg h6] at h
    cases h
    have HN := Aside0.mk (⟨HW.out.1, HW.out.2.1, HW.out.2.2.1, HW.out.2.2.2, h6⟩ : wh ≠ 2 ∧ wh ≠ 3 ∧ wh ≠ 4 ∧ wh ≠ 5 ∧ wh ≠ 6)
    clear h6
    have hget := dG0 (w7.heap.size + 1) (w7.heap.size) (w.heap.size) (w.heap.size + 1) (w.heap.size + 1 + 1) (w.heap.size + 1 + 1 + 1) w8 wh HN.out.1 HN.out.2.1 HN.out.2.2.1 HN.out.2.2.2.1 HN.out.2.2.2.2
    have x9 := (blk_cell (blk_alloc H8.out.x (.map (dM5 (w7.heap.size + 1) (w7.heap.size) (w.heap.size) (w.heap.size + 1) (w.heap.size + 1 + 1) (w.heap.size + 1 + 1 + 1)) 5)) 0).trans rfl
    go_upto_region 14 with (fail)
    clear hmk hi2 hi3 hi4 hi5 hi6 hget x9
    have V9 := Aside0.mk (blk_below V8.out HB9.out)
    have I9 := Aside0.mk (blk_below I8.out HB9.out)
    have RV9 := Aside0.mk (Kd.R_below RV8.out HB9.out)
    have O9 := Aside0.mk (blk_below O8.out HB9.out)
    have R9 := Aside0.mk (blk_below R8.out HB9.out)
    have B9 := Aside0.mk (below_step B8.out HB9.out)
    have H9 := Aside0.mk (H8.out.below HB9.out)
    revert V9 I9 RV9 O9 R9 B9 H9
    clear HB9
    generalize w8.alloc (.map (dM5 (w7.heap.size + 1) (w7.heap.size) (w.heap.size) (w.heap.size + 1) (w.heap.size + 1 + 1) (w.heap.size + 1 + 1 + 1)) 5) = w9
    intro V9 I9 RV9 O9 R9 B9 H9
    clear V8 I8 RV8 O8 R8 B8 H8
    go_wp2_with (go_at_call 31; refine (must_no _ _).mono ?_; rintro e w' ⟨rfl, rfl⟩)
    exact do_catch _ _ (w.heap.size + 1) (w.heap.size + 1 + 1) (w.heap.size + 1 + 1 + 1) 2 wh _ rfl rfl ((blk_cell H9.out.x 0).trans rfl) (by simp) O9.out R9.out (fun w'' hc => ⟨_, _, rfl, R_nn (Kd.R_lower (R_ch RV9.out hc HS.out) (by have := HS.out; omega)), Kd.Q_nil _ _ _ _ _, hc.below B9.out B9.out.size (by omega)⟩)
theorem key_has {a : Int} {key val fr tt : ByteArray} {en : Bool} {mo : Int} {x y : Bool} (h : model_key.f a key val fr tt en mo = some (x, y)) : x = decide (2 ≤ a ∧ a ≤ 5) := by
  unfold model_key.f at h
  by_cases h2 : a ≥ 2
  · rw [if_pos h2] at h
    have e : decide (2 ≤ a ∧ a ≤ 5) = decide (a ≤ 5) := by
      by_cases h5 : a ≤ 5
      · rw [decide_eq_true h5, decide_eq_true ⟨h2, h5⟩]
      · rw [decide_eq_false h5, decide_eq_false (fun q => h5 q.2)]
    rw [e]
    split at h
    · cases h; rfl
    · split at h <;> (cases h; rfl)
  · rw [if_neg h2] at h
    rw [decide_eq_false (fun q => h2 q.1)]
    split at h
    · cases h; rfl
    · split at h <;> (cases h; rfl)
theorem model_Do.callsQ (k : Nat) (A0 : Option Addr) (c0 : Nat) (l0 : List S42) (a1_0 : Int) (a1_1 : ByteArray) (a1_2 : ByteArray) (a1_3 : ByteArray) (a1_4 : ByteArray) (a1_5 : Bool) (a1_6 : Int) (r1 : List S42) (r2 : Int) (r3 : Int) (r4 : Int) (r5 : Int) (r6 : Bool) (r7 : ByteArray) (r8 : List S42) (w : World) (hr0 : Kd.C k42 w A0 l0.length l0) (hc0 : l0.length ≤ c0) (h : model_Do.f k l0 a1_0 a1_1 a1_2 a1_3 a1_4 a1_5 a1_6 = some (r1, r2, r3, r4, r5, r6, r7, r8)) :
    Calls Try.prog 12 #[.slice A0 l0.length c0, .agg #[.int .u8 a1_0, .string a1_1, .string a1_2, .string a1_3, .string a1_4, .bool a1_5, .int .i64 a1_6]] w fun e w' => ∃ v0_ v1_ : Value, e = .returned (.tuple #[v0_, .agg #[.int .i64 r2, .int .u8 r3, .int .i64 r4, .int .u64 r5, .bool r6, .string r7, v1_]]) ∧ Kd.R k42 42 w' w.heap.size (fun k_ => some k_ ≠ v1_.ownBlock) v0_ r1 ∧ Kd.Q k42 42 w' w.heap.size (fun k_ => some k_ ≠ v0_.ownBlock) v1_ r8 ∧ Below w.heap.size w w' := by
  show Calls Try.prog 12 _ w (DoPost w r1 r2 r3 r4 r5 r6 r7 r8)
  unfold model_Do.f at h
  obtain ⟨rt, hR, h⟩ := Option.bind_eq_some_iff.1 h
  have go : ∀ {x : List S42 × Int × Int × Int × Int × Bool × ByteArray × List S42}, some x = some (r1, r2, r3, r4, r5, r6, r7, r8) → x = (r1, r2, r3, r4, r5, r6, r7, r8) := fun h => Option.some.inj h
  cases rt
  · rw [if_neg (by simp)] at h
    cases h
    exact do_wrong k A0 c0 l0 a1_0 a1_1 a1_2 a1_3 a1_4 a1_5 a1_6 w hr0 hc0 hR
  rw [if_pos rfl] at h
  by_cases hl : l0.length < 4398046511104
  case neg => rw [if_neg hl] at h; cases h
  rw [if_pos hl] at h
  obtain ⟨⟨hm, mm⟩, hk, h⟩ := Option.bind_eq_some_iff.1 h
  have hh := key_has hk
  by_cases hlong : hm = true ∧ mm = false
  · rw [if_pos hlong] at h
    obtain ⟨e1, e2⟩ := hlong
    subst e1 e2
    cases h
    exact do_long k A0 c0 l0 a1_0 a1_1 a1_2 a1_3 a1_4 a1_5 a1_6 w hr0 hc0 hR hl hk
  rw [if_neg hlong] at h
  obtain ⟨⟨fv, fi⟩, hf, h⟩ := Option.bind_eq_some_iff.1 h
  by_cases hin : 2 ≤ a1_0 ∧ a1_0 ≤ 5
  · rw [decide_eq_true hin] at hh
    subst hh
    cases mm
    · exact absurd ⟨rfl, rfl⟩ hlong
    exact do_keyed k A0 c0 l0 a1_0 a1_1 a1_2 a1_3 a1_4 a1_5 a1_6 w hr0 hc0 hR hl fv fi (by omega) hk hf r1 r2 r3 r4 r5 r6 r7 r8 h
  · rw [decide_eq_false hin] at hh
    subst hh
    exact do_unkeyed k A0 c0 l0 a1_0 a1_1 a1_2 a1_3 a1_4 a1_5 a1_6 w hr0 hc0 hR hl fv fi mm (by omega) hk hf r1 r2 r3 r4 r5 r6 r7 r8 h
/-- Do's contract, the reply's cells told as what is only read. -/
theorem model_Do.calls (k : Nat) (A0 : Option Addr) (c0 : Nat) (l0 : List S42) (a1_0 : Int) (a1_1 : ByteArray) (a1_2 : ByteArray) (a1_3 : ByteArray) (a1_4 : ByteArray) (a1_5 : Bool) (a1_6 : Int) (r1 : List S42) (r2 : Int) (r3 : Int) (r4 : Int) (r5 : Int) (r6 : Bool) (r7 : ByteArray) (r8 : List S42) (w : World) (hr0 : Kd.C k42 w A0 l0.length l0) (hc0 : l0.length ≤ c0) (h : model_Do.f k l0 a1_0 a1_1 a1_2 a1_3 a1_4 a1_5 a1_6 = some (r1, r2, r3, r4, r5, r6, r7, r8)) :
    Calls Try.prog 12 #[.slice A0 l0.length c0, .agg #[.int .u8 a1_0, .string a1_1, .string a1_2, .string a1_3, .string a1_4, .bool a1_5, .int .i64 a1_6]] w fun e w' => ∃ v0_ v7_ : Value, e = .returned (.tuple #[v0_, .agg #[.int .i64 r2, .int .u8 r3, .int .i64 r4, .int .u64 r5, .bool r6, .string r7, v7_]]) ∧ Kd.R k42 42 w' w.heap.size (fun k_ => (w.heap.size ≤ k_)) v0_ r1 ∧ Kd.V k42 42 w' w.heap.size (fun k_ => (w.heap.size ≤ k_) ∧ some k_ ≠ (v0_ : Value).ownBlock) v7_ r8 ∧ Below w.heap.size w w' :=
  (model_Do.callsQ k A0 c0 l0 a1_0 a1_1 a1_2 a1_3 a1_4 a1_5 a1_6 r1 r2 r3 r4 r5 r6 r7 r8 w hr0 hc0 h).mono fun _ _ ⟨v0_, v7_, he, h0, h1, hb⟩ =>
    ⟨v0_, v7_, he, Kd.R_mono (Kd.R_bound h0) (fun _ hk => hk.2.1), Kd.Q_V (Kd.Q_mono (Kd.Q_bound h1) (fun _ hk => ⟨hk.2.1, hk.1⟩)), hb⟩

/-! ### api_Cell_42: function 42 -/
section
open Go.Shelf Go.Lib
def api_Cell_42_ren : Go.Shelf.Ren := ⟨fun | 4 => 58 | n => n, fun | 22 => 22 | 25 => 42 | n => n, fun n => n⟩
theorem api_Cell_42_lays : Lays8.n4 Try.prog api_Cell_42_ren where
  mixed := by kernel_rfl
  f4 := ⟨Try.f58.name, by kernel_rfl, Try.func58.trans (congrArg some (by kernel_rfl))⟩
  t0 := Try.underlying0
  a0 := Try.isAgg0
  z0 := Try.sizeOf0
  v0 := Try.zeroValue0
  t3 := Try.underlying3
  a3 := Try.isAgg3
  z3 := Try.sizeOf3
  v3 := Try.zeroValue3
  t4 := Try.underlying4
  a4 := Try.isAgg4
  z4 := Try.sizeOf4
  v4 := Try.zeroValue4
  t9 := Try.underlying9
  a9 := Try.isAgg9
  z9 := Try.sizeOf9
  v9 := Try.zeroValue9
  t20 := Try.underlying20
  a20 := Try.isAgg20
  z20 := Try.sizeOf20
  v20 := Try.zeroValue20
  t22 := Try.underlying22
  a22 := Try.isAgg22
  z22 := Try.sizeOf22
  v22 := Try.zeroValue22
theorem api_Cell_42_grow (n : Nat) (hn : n * 32 ≤ 140737488355328) (w : World) : Calls Try.prog 58 #[.slice none 0 0, .int .i64 (n : Int)] w fun e w' =>
    ∃ v : Value, e = .returned v ∧ Kd.R k42 42 w' w.heap.size (fun _ => True) v [] ∧ Below w.heap.size w w' := by
  rcases Nat.eq_zero_or_pos n with rfl | h0
  · refine (Any8.slices_Grow_room api_Cell_42_lays none 0 0 0 w (Nat.le_refl _) (by decide) (by decide) (by decide)).mono ?_
    rintro e w' ⟨rfl, rfl⟩
    exact ⟨_, rfl, Kd.R_nil _ _ _ _ _, Below.refl _ _⟩
  · obtain ⟨i0, hi, hzz⟩ := Option.map_eq_some_iff.1 info42
    simp only [Prod.mk.injEq] at hzz
    obtain ⟨hz0, hz1, hz2⟩ := hzz
    refine (Any8.slices_Grow_grow api_Cell_42_lays i0 (.agg #[.string ⟨#[]⟩, .string ⟨#[]⟩]) hi hz0 (by rw [hz1]; decide) none 0 0 n [] w (Nat.le_refl _) (by omega) (by rw [hz2]; omega) (by omega) (by simp) (fun _ => rfl) (fun a h => by cases h)).mono ?_
    rintro e w' ⟨rfl, rfl⟩
    have e1 : api_Cell_42_ren.t 25 = 42 := rfl
    have hc := grownCap_le_maxLen w n 0 42 (by unfold maxLen; omega)
    have hg := grownCap_ge w n 0 42
    rw [e1, Nat.zero_add]
    refine ⟨_, rfl, own_fresh trivial (Nat.le_refl _) (by have h := blk_new w.drew (.cells (([] : List Value).toArray ++ Builtin.zeroCells (Value.agg #[.string ⟨#[]⟩, .string ⟨#[]⟩]).cells (n - 0) ++ Builtin.zeroCells (Value.agg #[.string ⟨#[]⟩, .string ⟨#[]⟩]).cells (grownCap w n 0 42 - n)) 42); exact h) hc ?_, below_alloc (below_drew1 (Below.refl _ _)) _⟩
    have es : (Value.agg #[.string ⟨#[]⟩, .string ⟨#[]⟩]).cells.size = 2 := by kernel_rfl
    have ed : (k42).sz = 2 := rfl
    rw [Array.size_append, Array.size_append, size_zeroCells, size_zeroCells, es, ed]
    simp
    omega
end
/-- Concat of two rows of cells: both, one behind the other, in a row of its own. -/
def api_Cell_42.f (k : Nat) (l0 : List S42) (l1 : List S42) : Option (List S42) := if l0.length + l1.length < 4398046511104 then some (l0 ++ l1) else none
set_option maxHeartbeats 4000000 in
set_option maxRecDepth 100000 in
theorem api_Cell_42.calls (k : Nat) (A0 : Option Addr) (c0 : Nat) (l0 : List S42) (A1 : Option Addr) (c1 : Nat) (l1 : List S42) (r : List S42) (w : World) (hA : Kd.C k42 w A0 l0.length l0) (hc0 : l0.length ≤ c0) (hB : Kd.C k42 w A1 l1.length l1) (hc1 : l1.length ≤ c1) (h : api_Cell_42.f k l0 l1 = some r) (b : Nat) (hb : w.heap[b]? = some (.cells #[.slice A0 l0.length c0, .slice A1 l1.length c1] 22 (0, 0))) :
    Calls Try.prog 42 #[.slice (some ⟨b, 0, none⟩) 2 2] w fun e w' => ∃ v : Value, e = .returned v ∧ Kd.R k42 42 w' w.heap.size (fun _ => True) v r ∧ Below w.heap.size w w' := by
  unfold api_Cell_42.f at h
  by_cases hl : l0.length + l1.length < 4398046511104
  case neg => rw [if_neg hl] at h; cases h
  rw [if_pos hl] at h
  obtain rfl := Option.some.inj h
  have HA := Aside0.mk hA
  have HB' := Aside0.mk hB
  have HL := Aside0.mk hl
  have BL := Aside0.mk hb
  have h0 := (blk_cell hb 0).trans rfl
  have h1 := (blk_cell hb 1).trans rfl
  clear hA hB hb h
  have e1 : wrap64 (l0.length : Int) = l0.length := by unfold wrap64; omega
  have e2 : wrap64 ((l0.length : Int) + (l1.length : Int)) = ((l0.length + l1.length : Nat) : Int) := by unfold wrap64; omega
  have hG : ∀ W, Calls Try.prog 58 #[.slice none 0 0, .int .i64 (wrap64 ((l0.length : Int) + (l1.length : Int)))] W fun e w' => ∃ v : Value, e = .returned v ∧ Kd.R k42 42 w' W.heap.size (fun _ => True) v [] ∧ Below W.heap.size W w' := fun W => by
    rw [e2]; exact api_Cell_42_grow (l0.length + l1.length) (by omega) W
  have hd : decide (wrap64 ((l0.length : Int) + (l1.length : Int)) < 0) = false := decide_eq_false (by rw [e2]; omega)
  have hd1 : decide (wrap64 (l0.length : Int) < 0) = false := decide_eq_false (by rw [e1]; omega)
  have HG := Aside0.mk hG
  clear hl e2 hG
  go_enter Try.func42, Try.ntmps42
  go_wp2
  refine wp_loop_rounds 3 ?_
  rw [rounds_succ]
  go_wp2
  rw [rounds_succ]
  go_wp2
  rw [rounds_succ]
  go_wp2_with (go_at_call 58; refine (HG.out _).mono ?_; rintro e w1 ⟨v, rfl, hr, hbb⟩; have HR := Aside0.mk hr; have HB := Aside0.mk hbb; have B1 := Aside0.mk (blk_below BL.out hbb); clear hr hbb; have g0 := (blk_cell B1.out 0).trans rfl; have g1 := (blk_cell B1.out 1).trans rfl)
  refine wp_loop_rounds 3 ?_
  rw [rounds_succ]
  go_wp2_with ((with_reducible refine gate_builtin (b := .append) (xs := #[.tmp 31, .tmp 32]) rfl ?_); at_builtin; (refine Kd.R_append_rows k42 (w0 := w) w.heap.size rfl (.tmp 31) (.tmp 32) 22 42 (.agg #[(.string ⟨#[]⟩), (.string ⟨#[]⟩)]) 32 rfl Try.underlying22 info42 rfl (by decide) (by omega) v [] l0 A0 l0.length c0 (fun _ => True) (fun _ => False) rfl rfl ?aO ?aR (fun _ _ h => h) (fun _ h => h.elim) ?aF ?aB ?aS ?aL ?_; (case aR => exact Kd.C_below HA.out HB.out); (case aB => exact HB.out); (case aF => exact fun _ _ => trivial); (case aO => exact HR.out); (case aS => exact below_size HB.out); (case aL => have := HL.out; simp; omega); intro v1 w2 ho hb hg hat; have HO1 := Aside0.mk ho; have HB1 := Aside0.mk hb; have B2 := Aside0.mk (blk_below BL.out hb); have k1 := (blk_cell B2.out 1).trans rfl; clear ho hb hg hat))
  rw [rounds_succ]
  go_wp2_with ((with_reducible refine gate_builtin (b := .append) (xs := #[.tmp 31, .tmp 32]) rfl ?_); at_builtin; (refine Kd.R_append_rows k42 (w0 := w) w.heap.size rfl (.tmp 31) (.tmp 32) 22 42 (.agg #[(.string ⟨#[]⟩), (.string ⟨#[]⟩)]) 32 rfl Try.underlying22 info42 rfl (by decide) (by omega) v1 ([] ++ l0) l1 A1 l1.length c1 (fun _ => True) (fun _ => False) rfl rfl ?aO ?aR (fun _ _ h => h) (fun _ h => h.elim) ?aF ?aB ?aS ?aL ?_; (case aR => exact Kd.C_below HB'.out HB1.out); (case aB => exact HB1.out); (case aF => exact fun _ _ => trivial); (case aO => exact HO1.out); (case aS => exact below_size HB1.out); (case aL => have := HL.out; simp; omega); intro v2 w3 ho hb hg hat; have HO2 := Aside0.mk ho; have HB2 := Aside0.mk hb; clear ho hb hg hat))
  rw [rounds_succ]
  go_wp2
  go_ret
  exact ⟨_, rfl, HO2.out, HB2.out⟩

/-! ### model_Diff: function 13 -/
/-- What Diff gathers, cell by cell. -/
def model_Diff_l (k : Nat) (l0 l1 : List S42) : List S42 → List ByteArray → Option (List ByteArray)
  | [], o => some o
  | c :: t, o => (cells_Find.f k l0 c.f0).bind fun v => (cells_Find.f k l1 c.f0).bind fun u => model_Diff_l k l0 l1 t (if v.1.toList = u.1.toList ∧ v.2 = u.2 then o else o ++ [c.f0])
/-- Diff: the keys that are not told alike, sorted, each once. -/
def model_Diff.f (k : Nat) (l0 l1 : List S42) : Option (List ByteArray) :=
  (cells_Right.f k l0).bind fun a => if a = true then (cells_Right.f k l1).bind fun b => if b = true then (if l0.length + l1.length < 4398046511104 then (model_Diff_l k l0 l1 (l0 ++ l1) []).bind fun o => some (Go.Lib.compact (sortB o)) else none) else some [] else some []
theorem model_Diff_len {k : Nat} {l0 l1 : List S42} : ∀ (l : List S42) (o r : List ByteArray), model_Diff_l k l0 l1 l o = some r → r.length ≤ o.length + l.length
  | [], o, r, h => by cases h; simp
  | c :: t, o, r, h => by
    obtain ⟨v, _, h⟩ := Option.bind_eq_some_iff.1 h
    obtain ⟨u, _, h⟩ := Option.bind_eq_some_iff.1 h
    have := model_Diff_len t _ r h
    have e : (if v.1.toList = u.1.toList ∧ v.2 = u.2 then o else o ++ [c.f0]).length ≤ o.length + 1 := by split <;> simp
    simp only [List.length_cons]
    omega
set_option maxHeartbeats 1000000 in
set_option maxRecDepth 100000 in
theorem model_Diff.calls (k : Nat) (A0 : Option Addr) (c0 : Nat) (l0 : List S42) (A1 : Option Addr) (c1 : Nat) (l1 : List S42) (r : List ByteArray) (w : World) (hr0 : Kd.C k42 w A0 l0.length l0) (hc0 : l0.length ≤ c0) (hr1 : Kd.C k42 w A1 l1.length l1) (hc1 : l1.length ≤ c1) (h : model_Diff.f k l0 l1 = some r) :
    Calls Try.prog 13 #[.slice A0 l0.length c0, .slice A1 l1.length c1] w fun e w' => ∃ v0_ : Value, e = .returned v0_ ∧ Kd.R Kd.string 9 w' w.heap.size (fun _ => True) v0_ r ∧ Below w.heap.size w w' := by
  obtain ⟨a, ha, h1⟩ := Option.bind_eq_some_iff.1 h
  clear h
  have HR := Aside0.mk hr0
  have HR2 := Aside0.mk hr1
  have HA := Aside0.mk ha
  have hu42 := Try.underlying42
  clear hr0 hr1 ha
  cases a
  · rw [if_neg (by simp)] at h1
    cases h1
    go_enter Try.func13, Try.ntmps13
    go_wp2_with (go_at_call 28; refine (cells_Right.calls k A0 c0 l0 false _ HR.out hc0 HA.out).mono ?_; rintro e w1 ⟨rfl, hb⟩; have HB1 := Aside0.mk hb; clear hb)
    go_ret
    exact ⟨_, rfl, Kd.R_nil _ _ _ _ _, HB1.out⟩
  rw [if_pos rfl] at h1
  obtain ⟨b, hb, h2⟩ := Option.bind_eq_some_iff.1 h1
  have HB := Aside0.mk hb
  clear hb h1
  cases b
  · rw [if_neg (by simp)] at h2
    cases h2
    go_enter Try.func13, Try.ntmps13
    go_wp2_with (first | (have hq1 := HB1.out; go_at_call 28; refine (cells_Right.calls k A1 c1 l1 false _ (Kd.C_below HR2.out HB1.out) hc1 HB.out).mono ?_; rintro e w2 ⟨rfl, hb⟩; have HB2 := Aside0.mk (below_step HB1.out hb); clear hb hq1) | (go_at_call 28; refine (cells_Right.calls k A0 c0 l0 true _ HR.out hc0 HA.out).mono ?_; rintro e w1 ⟨rfl, hb⟩; have HB1 := Aside0.mk hb; clear hb))
    go_ret
    exact ⟨_, rfl, Kd.R_nil _ _ _ _ _, HB2.out⟩
  rw [if_pos rfl] at h2
  by_cases hl : l0.length + l1.length < 4398046511104
  case neg => rw [if_neg hl] at h2; cases h2
  rw [if_pos hl] at h2
  obtain ⟨o, ho, h3⟩ := Option.bind_eq_some_iff.1 h2
  obtain rfl := Option.some.inj h3
  clear h2 h3
  have HO := Aside0.mk ho
  have HL := Aside0.mk hl
  have hol := model_Diff_len _ _ _ ho
  rw [List.length_nil, Nat.zero_add, List.length_append] at hol
  have HOL := Aside0.mk hol
  have hcc : ∀ (b : Nat) (W : World), Below w.heap.size w W → W.heap[b]? = some (.cells #[.slice A0 l0.length c0, .slice A1 l1.length c1] 22 (0, 0)) → Calls Try.prog 42 #[.slice (some ⟨b, 0, none⟩) 2 2] W fun e w' => ∃ v : Value, e = .returned v ∧ Kd.R k42 42 w' W.heap.size (fun _ => True) v (l0 ++ l1) ∧ Below W.heap.size W w' := fun b W hB hb =>
    api_Cell_42.calls k A0 c0 l0 A1 c1 l1 (l0 ++ l1) W (Kd.C_below HR.out hB) hc0 (Kd.C_below HR2.out hB) hc1 (if_pos HL.out) b hb
  have HCC := Aside0.mk hcc
  have hll : (l0 ++ l1).length < 4398046511104 := by rw [List.length_append]; exact hl
  have HLL := Aside0.mk hll
  clear ho hl hol hcc hll
  revert HO HCC HLL
  generalize hx : l0 ++ l1 = xs
  intro HO HCC HLL
  clear hx
  go_enter Try.func13, Try.ntmps13
  go_wp2_with (first | (have hq1 := HB1.out; go_at_call 28; refine (cells_Right.calls k A1 c1 l1 true _ (Kd.C_below HR2.out HB1.out) hc1 HB.out).mono ?_; rintro e w2 ⟨rfl, hb⟩; have HB2 := Aside0.mk (below_step HB1.out hb); clear hb hq1) | (go_at_call 28; refine (cells_Right.calls k A0 c0 l0 true _ HR.out hc0 HA.out).mono ?_; rintro e w1 ⟨rfl, hb⟩; have HB1 := Aside0.mk hb; clear hb) | (go_at_call 42; refine (HCC.out _ _ (below_alloc HB2.out _) (blk_new w2 _)).mono ?_; rintro e w3 ⟨v3, rfl, ho3, hb3⟩; have HO3 := Aside0.mk (Kd.R_lower ho3 (Nat.le_trans HB2.out.size (by rw [World.size_alloc]; omega))); have HB3 := Aside0.mk (below_step (below_alloc HB2.out _) hb3); obtain ⟨Ax, cx, rfl⟩ := cells_slice ho3; clear ho3 hb3))
  have HX := Aside0.mk (Kd.R_reads' HO3.out).2.2
  clear HO3
  go_loopg [5, 25] xs.length (fun kx s5 s25 wr => ∃ (j : Nat) (acc : List ByteArray), s25 = .int .i64 j ∧ j ≤ xs.length ∧ xs.length - j ≤ kx ∧ Aside0 (acc.length ≤ j) ∧ Aside0 (model_Diff_l k l0 l1 (xs.drop j) acc = some o) ∧ Aside0 (Below w3.heap.size w3 wr) ∧ Aside0 (Kd.R Kd.string 9 wr w3.heap.size (fun _ => True) s5 acc))
  case atStart => exact ⟨0, [], rfl, Nat.zero_le _, Nat.le_refl _, ⟨Nat.le_refl _⟩, HO, ⟨Below.refl _ _⟩, ⟨Kd.R_nil _ _ _ _ _⟩⟩
  case round =>
    obtain ⟨j, acc, rfl, hj, hg, HJ, HF, HY, HZ⟩ := hrel
    by_cases hlt : j < xs.length
    · have hlt' : (j : Int) < (xs.length : Int) := by omega
      obtain ⟨ad, e, hx, hy⟩ := at_T42 (Kd.C_below HX.out HY.out) (j : Int) (by omega) hlt'
      cases e
      rw [Int.toNat_natCast] at hx hy
      have hd : xs.drop j = rd_T42 xs (j : Int) :: xs.drop (j + 1) := by
        rw [List.drop_eq_getElem_cons hlt]
        unfold rd_T42
        simp [hlt]
      have hf := HF.out
      rw [hd] at hf
      obtain ⟨⟨v1, v2⟩, hv, hf⟩ := Option.bind_eq_some_iff.1 hf
      obtain ⟨⟨u1, u2⟩, hu, hf⟩ := Option.bind_eq_some_iff.1 hf
      have HV := Aside0.mk hv
      have HU := Aside0.mk hu
      have HG := Aside0.mk hf
      have hj1 : wrap64 ((j : Int) + 1) = ((j + 1 : Nat) : Int) := by have := HLL.out; unfold wrap64; omega
      clear hd hv hu hf HF
      revert hx hy HV HU HG
      generalize rd_T42 xs (j : Int) = x
      intro hx hy HV HU HG
      by_cases hs : v1.toList = u1.toList
      · by_cases hv : v2 = u2
        · have HM := Aside0.mk (show model_Diff_l k l0 l1 (xs.drop (j + 1)) acc = some o by have h := HG.out; rw [if_pos ⟨hs, hv⟩] at h; exact h)
          have hs0 : (v1.toList == u1.toList) = true := beq_iff_eq.2 hs
          have hs1 : (v1.toList != u1.toList) = false := by rw [hs]; simp
          have hv0 : (v2 == u2) = true := beq_iff_eq.2 hv
          have hv1 : (v2 != u2) = false := by rw [hv]; simp
          clear HG hs hv
          go_wp2_with (first | (have hq1 := HY1.out; go_at_call 32; refine (cells_Find.calls k A1 c1 l1 x.f0 u1 u2 _ (Kd.C_below HR2.out (below_step HB3.out hq1)) hc1 HU.out).mono ?_; rintro e w5 ⟨rfl, hb⟩; have HY2 := Aside0.mk (below_step HY1.out hb); have HZ2 := Aside0.mk (Kd.R_below HZ1.out hb); have BL := Aside0.mk (blk_below BK.out hb); clear hb hq1 z0 z1; have z0 := (blk_cell BL.out 0).trans rfl; have z1 := (blk_cell BL.out 1).trans rfl) | (go_at_call 32; refine (cells_Find.calls k A0 c0 l0 x.f0 v1 v2 _ (Kd.C_below HR.out (below_step HB3.out (below_alloc HY.out _))) hc0 HV.out).mono ?_; rintro e w4 ⟨rfl, hb⟩; have HY1 := Aside0.mk (below_step (below_alloc HY.out _) hb); have HZ1 := Aside0.mk (Kd.R_below (Kd.R_alloc HZ.out _) hb); have BK := Aside0.mk (blk_below (blk_new wr (.cells #[.string x.f0, .string x.f1] 42)) hb); clear hb; have z0 := (blk_cell BK.out 0).trans rfl; have z1 := (blk_cell BK.out 1).trans rfl))
          go_roundg (xs.length - (j + 1))
          case measure => omega
          case rel => exact ⟨j + 1, acc, by rw [hj1], by omega, Nat.le_refl _, ⟨by have := HJ.out; omega⟩, ⟨HM.out⟩, HY2, HZ2⟩
        · have HM := Aside0.mk (show model_Diff_l k l0 l1 (xs.drop (j + 1)) (acc ++ [x.f0]) = some o by have h := HG.out; rw [if_neg (fun q => hv q.2)] at h; exact h)
          have hs0 : (v1.toList == u1.toList) = true := beq_iff_eq.2 hs
          have hs1 : (v1.toList != u1.toList) = false := by rw [hs]; simp
          have hv0 : (v2 == u2) = false := beq_eq_false_iff_ne.2 hv
          have hv1 : (v2 != u2) = true := bne_iff_ne.2 hv
          clear HG hs hv
          go_wp2_with (first | (have hq1 := HY1.out; go_at_call 32; refine (cells_Find.calls k A1 c1 l1 x.f0 u1 u2 _ (Kd.C_below HR2.out (below_step HB3.out hq1)) hc1 HU.out).mono ?_; rintro e w5 ⟨rfl, hb⟩; have HY2 := Aside0.mk (below_step HY1.out hb); have HZ2 := Aside0.mk (Kd.R_below HZ1.out hb); have BL := Aside0.mk (blk_below BK.out hb); clear hb hq1 z0 z1; have z0 := (blk_cell BL.out 0).trans rfl; have z1 := (blk_cell BL.out 1).trans rfl) | (go_at_call 32; refine (cells_Find.calls k A0 c0 l0 x.f0 v1 v2 _ (Kd.C_below HR.out (below_step HB3.out (below_alloc HY.out _))) hc0 HV.out).mono ?_; rintro e w4 ⟨rfl, hb⟩; have HY1 := Aside0.mk (below_step (below_alloc HY.out _) hb); have HZ1 := Aside0.mk (Kd.R_below (Kd.R_alloc HZ.out _) hb); have BK := Aside0.mk (blk_below (blk_new wr (.cells #[.string x.f0, .string x.f1] 42)) hb); clear hb; have z0 := (blk_cell BK.out 0).trans rfl; have z1 := (blk_cell BK.out 1).trans rfl) | ((with_reducible refine gate_builtin (b := .append) (xs := #[.tmp 51, .tmp 54]) rfl ?_); at_builtin; refine Kd.R_append Kd.string (w0 := w3) w3.heap.size rfl (.tmp 51) (.tmp 54) 36 9 (.string ⟨#[]⟩) 16 rfl Try.underlying36 info9 rfl (by decide) (by omega) u5 acc x.f0 [.string x.f0] (fun _ => True) (fun _ => False) rfl rfl ?aP (fun _ hk => hk.elim) ?aF ?aO ?aB ?aS ?aL ?_; (case aP => exact rfl); (case aB => exact HY2.out); (case aF => exact fun _ _ => trivial); (case aO => exact HZ2.out); (case aS => exact below_size HY2.out); (case aL => have := HLL.out; have := HJ.out; omega); intro v2_ w2_ ho2 hb2 hg2 hat2; clear hg2 hat2; have HZ3 := Aside0.mk ho2; have HY3 := Aside0.mk hb2; clear ho2 hb2))
          go_roundg (xs.length - (j + 1))
          case measure => omega
          case rel => exact ⟨j + 1, acc ++ [x.f0], by rw [hj1], by omega, Nat.le_refl _, ⟨by have := HJ.out; simp; omega⟩, ⟨HM.out⟩, ⟨HY3.out⟩, ⟨HZ3.out⟩⟩
      · have HM := Aside0.mk (show model_Diff_l k l0 l1 (xs.drop (j + 1)) (acc ++ [x.f0]) = some o by have h := HG.out; rw [if_neg (fun q => hs q.1)] at h; exact h)
        have hs0 : (v1.toList == u1.toList) = false := beq_eq_false_iff_ne.2 hs
        have hs1 : (v1.toList != u1.toList) = true := bne_iff_ne.2 hs
        clear HG hs
        go_wp2_with (first | (have hq1 := HY1.out; go_at_call 32; refine (cells_Find.calls k A1 c1 l1 x.f0 u1 u2 _ (Kd.C_below HR2.out (below_step HB3.out hq1)) hc1 HU.out).mono ?_; rintro e w5 ⟨rfl, hb⟩; have HY2 := Aside0.mk (below_step HY1.out hb); have HZ2 := Aside0.mk (Kd.R_below HZ1.out hb); have BL := Aside0.mk (blk_below BK.out hb); clear hb hq1 z0 z1; have z0 := (blk_cell BL.out 0).trans rfl; have z1 := (blk_cell BL.out 1).trans rfl) | (go_at_call 32; refine (cells_Find.calls k A0 c0 l0 x.f0 v1 v2 _ (Kd.C_below HR.out (below_step HB3.out (below_alloc HY.out _))) hc0 HV.out).mono ?_; rintro e w4 ⟨rfl, hb⟩; have HY1 := Aside0.mk (below_step (below_alloc HY.out _) hb); have HZ1 := Aside0.mk (Kd.R_below (Kd.R_alloc HZ.out _) hb); have BK := Aside0.mk (blk_below (blk_new wr (.cells #[.string x.f0, .string x.f1] 42)) hb); clear hb; have z0 := (blk_cell BK.out 0).trans rfl; have z1 := (blk_cell BK.out 1).trans rfl) | ((with_reducible refine gate_builtin (b := .append) (xs := #[.tmp 51, .tmp 54]) rfl ?_); at_builtin; refine Kd.R_append Kd.string (w0 := w3) w3.heap.size rfl (.tmp 51) (.tmp 54) 36 9 (.string ⟨#[]⟩) 16 rfl Try.underlying36 info9 rfl (by decide) (by omega) u5 acc x.f0 [.string x.f0] (fun _ => True) (fun _ => False) rfl rfl ?aP (fun _ hk => hk.elim) ?aF ?aO ?aB ?aS ?aL ?_; (case aP => exact rfl); (case aB => exact HY2.out); (case aF => exact fun _ _ => trivial); (case aO => exact HZ2.out); (case aS => exact below_size HY2.out); (case aL => have := HLL.out; have := HJ.out; omega); intro v2_ w2_ ho2 hb2 hg2 hat2; clear hg2 hat2; have HZ3 := Aside0.mk ho2; have HY3 := Aside0.mk hb2; clear ho2 hb2))
        go_roundg (xs.length - (j + 1))
        case measure => omega
        case rel => exact ⟨j + 1, acc ++ [x.f0], by rw [hj1], by omega, Nat.le_refl _, ⟨by have := HJ.out; simp; omega⟩, ⟨HM.out⟩, ⟨HY3.out⟩, ⟨HZ3.out⟩⟩
    · obtain rfl : j = xs.length := by omega
      have hf := HF.out
      rw [List.drop_length] at hf
      obtain rfl := Option.some.inj hf
      clear hf HF
      go_wp2_with (first | (go_at_call 43; refine (sortT_R (fun _ => True) u5 acc w3 wr HY.out (by have := HLL.out; have := HJ.out; omega) HZ.out).mono ?_; rintro e w4 ⟨rfl, ho4, hb4⟩; have HZ4 := Aside0.mk ho4; have HY4 := Aside0.mk hb4; clear ho4 hb4) | (go_at_call 44; refine (compactT_R (by have := HLL.out; have := HJ.out; rw [sortB_length]; omega) HY4.out.size HZ4.out).mono ?_; rintro e w5 ⟨v5, rfl, ho5, hb5⟩; have HZ5 := Aside0.mk ho5; have HY5 := Aside0.mk (HY4.out.trans hb5); clear ho5 hb5))
      go_ret
      exact ⟨_, rfl, Kd.R_lower HZ5.out HB3.out.size, below_step HB3.out HY5.out⟩

end Go.Proofs.Ytoggblomknemoaa.S
