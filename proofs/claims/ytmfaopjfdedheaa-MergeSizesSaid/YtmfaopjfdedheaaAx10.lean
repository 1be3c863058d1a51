-- PRINTED by print.py (a twelfth state) out of the translation. Not trusted: Lean checks it.
import Derived.Test.YtmfaopjfdedheaaAx0
import Derived.Test.YtmfaopjfdedheaaAx1
import Derived.Test.YtmfaopjfdedheaaAx2
import Derived.Test.YtmfaopjfdedheaaAx4
import Derived.Test.YtmfaopjfdedheaaAx5
import Derived.Test.YtmfaopjfdedheaaAx6
import Derived.Test.YtmfaopjfdedheaaAx7
import Derived.Test.YtmfaopjfdedheaaAx9
namespace Go.Proofs.Ytmfaopjfdedheaa.A
open Go.RowKit Go.Proofs.YtmfaopjfdedheaaW Go.Proofs.YtmfaopjfdedheaaW.PrintWords Go.Proofs.YtmfaopjfdedheaaW.PrintLast Go.Proofs.YtmfaopjfdedheaaW.PrintMore
attribute [local go_sem] max2_int min2_int max_two min_two max_three min_three max_four min_four   -- for this text's walks alone
set_option linter.unusedVariables false
set_option linter.unusedSimpArgs false

attribute [local go_sem high] eqA42
/-! ### lockkeeperlaw16_head: function 5 -/
def lockkeeperlaw16_head.f (k : Nat) : Option Bool := if 40 ≤ k then some true else none
theorem lockkeeperlaw16_head.mono : ∀ k, LeO (lockkeeperlaw16_head.f k) (lockkeeperlaw16_head.f (k + 1)) := by
  intro k r h
  unfold lockkeeperlaw16_head.f at h ⊢
  by_cases hk : 40 ≤ k
  · rw [if_pos hk] at h; rw [if_pos (by omega)]; exact h
  · rw [if_neg hk] at h; cases h
theorem lockkeeperlaw16_head_c1 {W : World} {g : Nat} {x y : ByteArray} (h : W.heap[g]? = some (.cells #[.string x, .string y] 42 (0, 0))) : Kd.C k42 W (some ⟨g, 0, none⟩) ([(⟨x, y⟩ : S42)] : List S42).length [⟨x, y⟩] := by
  refine ⟨rfl, by simp, fun _ => ⟨_, rfl, fun j p hj => ?_⟩⟩
  match j, hj with
  | 0, hj =>
    obtain rfl := Option.some.inj hj
    refine ⟨[.string x, .string y], rfl, k42_mk W _, fun i u hu => ?_⟩
    match i, hu with
    | 0, hu => obtain rfl := Option.some.inj hu; exact (blk_cell h 0).trans rfl
    | 1, hu => obtain rfl := Option.some.inj hu; exact (blk_cell h 1).trans rfl
theorem lockkeeperlaw16_head_c2 {W : World} {g : Nat} {x y x' y' : ByteArray} (h : W.heap[g]? = some (.cells #[.string x, .string y, .string x', .string y'] 42 (0, 0))) : Kd.C k42 W (some ⟨g, 0, none⟩) ([(⟨x, y⟩ : S42), ⟨x', y'⟩] : List S42).length [⟨x, y⟩, ⟨x', y'⟩] := by
  refine ⟨rfl, by simp, fun _ => ⟨_, rfl, fun j p hj => ?_⟩⟩
  match j, hj with
  | 0, hj =>
    obtain rfl := Option.some.inj hj
    refine ⟨[.string x, .string y], rfl, k42_mk W _, fun i u hu => ?_⟩
    match i, hu with
    | 0, hu => obtain rfl := Option.some.inj hu; exact (blk_cell h 0).trans rfl
    | 1, hu => obtain rfl := Option.some.inj hu; exact (blk_cell h 1).trans rfl
  | 1, hj =>
    obtain rfl := Option.some.inj hj
    refine ⟨[.string x', .string y'], rfl, k42_mk W _, fun i u hu => ?_⟩
    match i, hu with
    | 0, hu => obtain rfl := Option.some.inj hu; exact (blk_cell h 2).trans rfl
    | 1, hu => obtain rfl := Option.some.inj hu; exact (blk_cell h 3).trans rfl
theorem lockkeeperlaw16_head_new (W : World) (o : Obj) (g : Nat) (h : g = W.heap.size) : (W.alloc o).heap[g]? = some o := h ▸ blk_new W o
theorem lockkeeperlaw16_head_known : ∃ s1 s2 : ByteArray, page_Kid.f 40 1 = some (s1, 0) ∧ page_Kid.f 40 2 = some (s2, 0) ∧ merge_Unpost.f 40 3 0 1 (⟨#[]⟩ : ByteArray) (⟨#[]⟩ : ByteArray) false 0 0 ([] : List Int) [(⟨(⟨#[]⟩ : ByteArray), s1⟩ : S42), (⟨(⟨#[98]⟩ : ByteArray), s2⟩ : S42)] 2 0 0 (⟨#[98]⟩ : ByteArray) (⟨#[]⟩ : ByteArray) false 0 5 ([] : List Int) [(⟨(⟨#[99]⟩ : ByteArray), (⟨#[50]⟩ : ByteArray)⟩ : S42)] 7 = some (3, 0, 1, (⟨#[]⟩ : ByteArray), (⟨#[]⟩ : ByteArray), false, 7, 0, ([] : List Int), [(⟨(⟨#[]⟩ : ByteArray), s1⟩ : S42)], 0) ∧ merge_Unpost.f 40 3 0 1 (⟨#[]⟩ : ByteArray) (⟨#[]⟩ : ByteArray) false 0 0 ([] : List Int) [(⟨(⟨#[]⟩ : ByteArray), s1⟩ : S42), (⟨(⟨#[98]⟩ : ByteArray), s2⟩ : S42)] 1 2 0 (⟨#[]⟩ : ByteArray) (⟨#[98]⟩ : ByteArray) true 0 0 ([] : List Int) [(⟨(⟨#[97]⟩ : ByteArray), (⟨#[49]⟩ : ByteArray)⟩ : S42)] 7 = some (0, 0, 0, (⟨#[]⟩ : ByteArray), (⟨#[]⟩ : ByteArray), false, 0, 0, ([] : List Int), ([] : List S42), 9) :=
  ⟨strOfNums [0, 0, 0, 0, 0, 0, 0, 1], strOfNums [0, 0, 0, 0, 0, 0, 0, 2], by kernel_rfl, by kernel_rfl, by kernel_rfl, by kernel_rfl⟩
set_option maxHeartbeats 8000000 in
set_option maxRecDepth 100000 in
theorem lockkeeperlaw16_head.calls (k : Nat) (r : Bool) (w : World) (h : lockkeeperlaw16_head.f k = some r) :
    Calls Try.prog 5 #[] w fun e w' => e = .returned (.bool r) ∧ Below w.heap.size w w' := by
  have hr : r = true := by
    unfold lockkeeperlaw16_head.f at h
    by_cases hk : 40 ≤ k
    · rw [if_pos hk] at h; exact (Option.some.inj h).symm
    · rw [if_neg hk] at h; cases h
  subst hr
  clear h
  obtain ⟨s1, s2, hK1, hK2, hU1, hU2⟩ := lockkeeperlaw16_head_known
  have K1 := Aside0.mk hK1; have K2 := Aside0.mk hK2; have Q1 := Aside0.mk hU1; have Q2 := Aside0.mk hU2
  clear hK1 hK2 hU1 hU2
  have hu42 := Try.underlying42; have hu28 := Try.underlying28; have hu25 := Try.underlying25
  have HB := Aside0.mk (Below.refl w.heap.size w)
  go_enter Try.func5, Try.ntmps5
  go_upto_region 2 with (fail)
  obtain ⟨W2, hW2⟩ : ∃ W_, W_ = ((w.alloc (.cells #[.string (⟨#[97]⟩ : ByteArray), .string (⟨#[49]⟩ : ByteArray)] 42)).alloc (.cells #[.int .u64 1, .int .u64 2, .int .u8 0, .string (⟨#[]⟩ : ByteArray), .string (⟨#[98]⟩ : ByteArray), .bool true, .int .u64 0, .int .u64 0, .slice none 0 0, .slice (some ⟨w.heap.size, 0, none⟩) 1 1] 28)) := ⟨_, rfl⟩
  rw [← hW2]
  have A : Aside0 (W2.heap[w.heap.size]? = some (.cells #[.string (⟨#[97]⟩ : ByteArray), .string (⟨#[49]⟩ : ByteArray)] 42 (0, 0))) := ⟨by rw [hW2]; exact mvB (lockkeeperlaw16_head_new w _ _ (by simp only [World.size_alloc]))⟩
  have KA : Aside0 (W2.heap[w.heap.size + 1]? = some (.cells #[.int .u64 1, .int .u64 2, .int .u8 0, .string (⟨#[]⟩ : ByteArray), .string (⟨#[98]⟩ : ByteArray), .bool true, .int .u64 0, .int .u64 0, .slice none 0 0, .slice (some ⟨w.heap.size, 0, none⟩) 1 1] 28 (0, 0))) := ⟨by rw [hW2]; exact mvB (lockkeeperlaw16_head_new (w.alloc (.cells #[.string (⟨#[97]⟩ : ByteArray), .string (⟨#[49]⟩ : ByteArray)] 42)) _ _ (by simp only [World.size_alloc]))⟩
  replace HB : Aside0 (Below w.heap.size w W2) := ⟨by rw [hW2]; exact mvW HB.out⟩
  clear hW2
  go_upto_region 3 with (fail)
  obtain ⟨W3, hW3⟩ : ∃ W_, W_ = ((W2.alloc (.cells #[.string (⟨#[99]⟩ : ByteArray), .string (⟨#[50]⟩ : ByteArray)] 42)).alloc (.cells #[.int .u64 2, .int .u64 0, .int .u8 0, .string (⟨#[98]⟩ : ByteArray), .string (⟨#[]⟩ : ByteArray), .bool false, .int .u64 0, .int .u64 5, .slice none 0 0, .slice (some ⟨W2.heap.size, 0, none⟩) 1 1] 28)) := ⟨_, rfl⟩
  rw [← hW3]
  replace A : Aside0 (W3.heap[w.heap.size]? = some (.cells #[.string (⟨#[97]⟩ : ByteArray), .string (⟨#[49]⟩ : ByteArray)] 42 (0, 0))) := ⟨by rw [hW3]; exact mvB A.out⟩
  replace KA : Aside0 (W3.heap[w.heap.size + 1]? = some (.cells #[.int .u64 1, .int .u64 2, .int .u8 0, .string (⟨#[]⟩ : ByteArray), .string (⟨#[98]⟩ : ByteArray), .bool true, .int .u64 0, .int .u64 0, .slice none 0 0, .slice (some ⟨w.heap.size, 0, none⟩) 1 1] 28 (0, 0))) := ⟨by rw [hW3]; exact mvB KA.out⟩
  have B : Aside0 (W3.heap[W2.heap.size]? = some (.cells #[.string (⟨#[99]⟩ : ByteArray), .string (⟨#[50]⟩ : ByteArray)] 42 (0, 0))) := ⟨by rw [hW3]; exact mvB (lockkeeperlaw16_head_new W2 _ _ (by simp only [World.size_alloc]))⟩
  have KB : Aside0 (W3.heap[W2.heap.size + 1]? = some (.cells #[.int .u64 2, .int .u64 0, .int .u8 0, .string (⟨#[98]⟩ : ByteArray), .string (⟨#[]⟩ : ByteArray), .bool false, .int .u64 0, .int .u64 5, .slice none 0 0, .slice (some ⟨W2.heap.size, 0, none⟩) 1 1] 28 (0, 0))) := ⟨by rw [hW3]; exact mvB (lockkeeperlaw16_head_new (W2.alloc (.cells #[.string (⟨#[99]⟩ : ByteArray), .string (⟨#[50]⟩ : ByteArray)] 42)) _ _ (by simp only [World.size_alloc]))⟩
  replace HB : Aside0 (Below w.heap.size w W3) := ⟨by rw [hW3]; exact mvW HB.out⟩
  clear hW3
  (obtain ⟨_, _, _, _, _, _, _, _, _, _⟩ := bc10 KA.out)
  (obtain ⟨_, _, _, _, _, _, _, _, _, _⟩ := bc10 KB.out)
  go_upto_region 4 with ((with_reducible refine gate_callee (f := 9) rfl ?_); refine goesL_ (some 26) rfl rfl Try.func9 (by kernel_rfl) rfl #[.agg #[.int .u64 1, .int .u64 2, .int .u8 0, .string (⟨#[]⟩ : ByteArray), .string (⟨#[98]⟩ : ByteArray), .bool true, .int .u64 0, .int .u64 0, .slice none 0 0, .slice (some ⟨w.heap.size, 0, none⟩) 1 1], .agg #[.int .u64 2, .int .u64 0, .int .u8 0, .string (⟨#[98]⟩ : ByteArray), .string (⟨#[]⟩ : ByteArray), .bool false, .int .u64 0, .int .u64 5, .slice none 0 0, .slice (some ⟨W2.heap.size, 0, none⟩) 1 1], .int .u64 4, .int .u64 9] rfl (by (try simp only [List.map_toArray, List.map_cons, List.map_nil]); first | done | rfl) ?_; (refine (merge_Join.calls 40 1 2 0 (⟨#[]⟩ : ByteArray) (⟨#[98]⟩ : ByteArray) true 0 0 none 0 ([] : List Int) (some ⟨w.heap.size, 0, none⟩) 1 [(⟨(⟨#[97]⟩ : ByteArray), (⟨#[49]⟩ : ByteArray)⟩ : S42)] 2 0 0 (⟨#[98]⟩ : ByteArray) (⟨#[]⟩ : ByteArray) false 0 5 none 0 ([] : List Int) (some ⟨W2.heap.size, 0, none⟩) 1 [(⟨(⟨#[99]⟩ : ByteArray), (⟨#[50]⟩ : ByteArray)⟩ : S42)] 4 9 0 0 0 (⟨#[]⟩ : ByteArray) (⟨#[]⟩ : ByteArray) false 0 0 ([] : List Int) ([] : List S42) 9 _ (Kd.C_nil _ _) (Nat.le_refl _) (lockkeeperlaw16_head_c1 A.out) (Nat.le_refl _) (Kd.C_nil _ _) (Nat.le_refl _) (lockkeeperlaw16_head_c1 B.out) (Nat.le_refl _) (by kernel_rfl)).mono ?_); rintro e j1 ⟨v8, v9, rfl, h8, h9, hb⟩; (refine ⟨_, rfl, ?_⟩); obtain ⟨Aj, cj, e8⟩ := Kd.R_slice h8; obtain ⟨Bj, dj, e9⟩ := Kd.R_slice h9; clear h8 h9; replace e8 : v8 = .slice Aj 0 cj := e8; replace e9 : v9 = .slice Bj 0 dj := e9; subst e8 e9; replace A := Aside0.mk (blk_below A.out hb); replace KA := Aside0.mk (blk_below KA.out hb); replace B := Aside0.mk (blk_below B.out hb); replace KB := Aside0.mk (blk_below KB.out hb); replace HB := Aside0.mk (below_step HB.out hb); clear hb)
  obtain ⟨W4, hW4⟩ : ∃ W_, W_ = (j1.alloc (.cells #[.int .u64 0, .int .u64 0, .int .u8 0, .string (⟨#[]⟩ : ByteArray), .string (⟨#[]⟩ : ByteArray), .bool false, .int .u64 0, .int .u64 0, .slice Aj 0 cj, .slice Bj 0 dj] 28)) := ⟨_, rfl⟩
  rw [← hW4]
  replace A : Aside0 (W4.heap[w.heap.size]? = some (.cells #[.string (⟨#[97]⟩ : ByteArray), .string (⟨#[49]⟩ : ByteArray)] 42 (0, 0))) := ⟨by rw [hW4]; exact mvB A.out⟩
  replace KA : Aside0 (W4.heap[w.heap.size + 1]? = some (.cells #[.int .u64 1, .int .u64 2, .int .u8 0, .string (⟨#[]⟩ : ByteArray), .string (⟨#[98]⟩ : ByteArray), .bool true, .int .u64 0, .int .u64 0, .slice none 0 0, .slice (some ⟨w.heap.size, 0, none⟩) 1 1] 28 (0, 0))) := ⟨by rw [hW4]; exact mvB KA.out⟩
  replace B : Aside0 (W4.heap[W2.heap.size]? = some (.cells #[.string (⟨#[99]⟩ : ByteArray), .string (⟨#[50]⟩ : ByteArray)] 42 (0, 0))) := ⟨by rw [hW4]; exact mvB B.out⟩
  replace KB : Aside0 (W4.heap[W2.heap.size + 1]? = some (.cells #[.int .u64 2, .int .u64 0, .int .u8 0, .string (⟨#[98]⟩ : ByteArray), .string (⟨#[]⟩ : ByteArray), .bool false, .int .u64 0, .int .u64 5, .slice none 0 0, .slice (some ⟨W2.heap.size, 0, none⟩) 1 1] 28 (0, 0))) := ⟨by rw [hW4]; exact mvB KB.out⟩
  replace HB : Aside0 (Below w.heap.size w W4) := ⟨by rw [hW4]; exact mvW HB.out⟩
  clear hW4
  (obtain ⟨_, _, _, _, _, _, _, _, _, _⟩ := bc10 KA.out)
  (obtain ⟨_, _, _, _, _, _, _, _, _, _⟩ := bc10 KB.out)
  go_upto_region 5 with ((with_reducible refine gate_callee (f := 9) rfl ?_); refine goesL_ (some 32) rfl rfl Try.func9 (by kernel_rfl) rfl #[.agg #[.int .u64 1, .int .u64 2, .int .u8 0, .string (⟨#[]⟩ : ByteArray), .string (⟨#[98]⟩ : ByteArray), .bool true, .int .u64 0, .int .u64 0, .slice none 0 0, .slice (some ⟨w.heap.size, 0, none⟩) 1 1], .agg #[.int .u64 2, .int .u64 0, .int .u8 0, .string (⟨#[98]⟩ : ByteArray), .string (⟨#[]⟩ : ByteArray), .bool false, .int .u64 0, .int .u64 5, .slice none 0 0, .slice (some ⟨W2.heap.size, 0, none⟩) 1 1], .int .u64 5, .int .u64 9] rfl (by (try simp only [List.map_toArray, List.map_cons, List.map_nil]); first | done | rfl) ?_; (refine (merge_Join.calls 40 1 2 0 (⟨#[]⟩ : ByteArray) (⟨#[98]⟩ : ByteArray) true 0 0 none 0 ([] : List Int) (some ⟨w.heap.size, 0, none⟩) 1 [(⟨(⟨#[97]⟩ : ByteArray), (⟨#[49]⟩ : ByteArray)⟩ : S42)] 2 0 0 (⟨#[98]⟩ : ByteArray) (⟨#[]⟩ : ByteArray) false 0 5 none 0 ([] : List Int) (some ⟨W2.heap.size, 0, none⟩) 1 [(⟨(⟨#[99]⟩ : ByteArray), (⟨#[50]⟩ : ByteArray)⟩ : S42)] 5 9 1 0 0 (⟨#[]⟩ : ByteArray) (⟨#[]⟩ : ByteArray) false 9 5 ([] : List Int) [(⟨(⟨#[97]⟩ : ByteArray), (⟨#[49]⟩ : ByteArray)⟩ : S42), (⟨(⟨#[99]⟩ : ByteArray), (⟨#[50]⟩ : ByteArray)⟩ : S42)] 0 _ (Kd.C_nil _ _) (Nat.le_refl _) (lockkeeperlaw16_head_c1 A.out) (Nat.le_refl _) (Kd.C_nil _ _) (Nat.le_refl _) (lockkeeperlaw16_head_c1 B.out) (Nat.le_refl _) (by kernel_rfl)).mono ?_); rintro e j2 ⟨v8, v9, rfl, h8, h9, hb⟩; (refine ⟨_, rfl, ?_⟩); obtain ⟨Ap, cp, e8⟩ := Kd.R_slice h8; obtain ⟨Bp, dp, e9⟩ := Kd.R_slice h9; clear h8 h9; replace e8 : v8 = .slice Ap 0 cp := e8; replace e9 : v9 = .slice Bp 2 dp := e9; subst e8 e9; replace A := Aside0.mk (blk_below A.out hb); replace KA := Aside0.mk (blk_below KA.out hb); replace B := Aside0.mk (blk_below B.out hb); replace KB := Aside0.mk (blk_below KB.out hb); replace HB := Aside0.mk (below_step HB.out hb); clear hb)
  obtain ⟨W5, hW5⟩ : ∃ W_, W_ = (j2.alloc (.cells #[.int .u64 1, .int .u64 0, .int .u8 0, .string (⟨#[]⟩ : ByteArray), .string (⟨#[]⟩ : ByteArray), .bool false, .int .u64 9, .int .u64 5, .slice Ap 0 cp, .slice Bp 2 dp] 28)) := ⟨_, rfl⟩
  rw [← hW5]
  replace A : Aside0 (W5.heap[w.heap.size]? = some (.cells #[.string (⟨#[97]⟩ : ByteArray), .string (⟨#[49]⟩ : ByteArray)] 42 (0, 0))) := ⟨by rw [hW5]; exact mvB A.out⟩
  replace KA : Aside0 (W5.heap[w.heap.size + 1]? = some (.cells #[.int .u64 1, .int .u64 2, .int .u8 0, .string (⟨#[]⟩ : ByteArray), .string (⟨#[98]⟩ : ByteArray), .bool true, .int .u64 0, .int .u64 0, .slice none 0 0, .slice (some ⟨w.heap.size, 0, none⟩) 1 1] 28 (0, 0))) := ⟨by rw [hW5]; exact mvB KA.out⟩
  replace B : Aside0 (W5.heap[W2.heap.size]? = some (.cells #[.string (⟨#[99]⟩ : ByteArray), .string (⟨#[50]⟩ : ByteArray)] 42 (0, 0))) := ⟨by rw [hW5]; exact mvB B.out⟩
  replace KB : Aside0 (W5.heap[W2.heap.size + 1]? = some (.cells #[.int .u64 2, .int .u64 0, .int .u8 0, .string (⟨#[98]⟩ : ByteArray), .string (⟨#[]⟩ : ByteArray), .bool false, .int .u64 0, .int .u64 5, .slice none 0 0, .slice (some ⟨W2.heap.size, 0, none⟩) 1 1] 28 (0, 0))) := ⟨by rw [hW5]; exact mvB KB.out⟩
  have P : Aside0 (W5.heap[j2.heap.size]? = some (.cells #[.int .u64 1, .int .u64 0, .int .u8 0, .string (⟨#[]⟩ : ByteArray), .string (⟨#[]⟩ : ByteArray), .bool false, .int .u64 9, .int .u64 5, .slice Ap 0 cp, .slice Bp 2 dp] 28 (0, 0))) := ⟨by rw [hW5]; exact mvB (lockkeeperlaw16_head_new j2 _ _ (by simp only [World.size_alloc]))⟩
  replace HB : Aside0 (Below w.heap.size w W5) := ⟨by rw [hW5]; exact mvW HB.out⟩
  clear hW5
  go_upto_region 7 with (first | ((with_reducible refine gate_callee (f := 11) rfl ?_); refine goesL_ (some 36) rfl rfl Try.func11 (by kernel_rfl) rfl #[.int .u64 1] rfl (by (try simp only [List.map_toArray, List.map_cons, List.map_nil]); first | done | rfl) ?_; (refine (page_Kid.calls 40 1 s1 0 _ K1.out).mono ?_); rintro e k1 ⟨rfl, hb⟩; (refine ⟨_, rfl, ?_⟩); replace A := Aside0.mk (blk_below A.out hb); replace KA := Aside0.mk (blk_below KA.out hb); replace B := Aside0.mk (blk_below B.out hb); replace KB := Aside0.mk (blk_below KB.out hb); replace P := Aside0.mk (blk_below P.out hb); replace HB := Aside0.mk (below_step HB.out hb); clear hb) | ((with_reducible refine gate_callee (f := 11) rfl ?_); refine goesL_ (some 40) rfl rfl Try.func11 (by kernel_rfl) rfl #[.int .u64 2] rfl (by (try simp only [List.map_toArray, List.map_cons, List.map_nil]); first | done | rfl) ?_; (refine (page_Kid.calls 40 2 s2 0 _ K2.out).mono ?_); rintro e k2 ⟨rfl, hb⟩; (refine ⟨_, rfl, ?_⟩); replace A := Aside0.mk (blk_below A.out hb); replace KA := Aside0.mk (blk_below KA.out hb); replace B := Aside0.mk (blk_below B.out hb); replace KB := Aside0.mk (blk_below KB.out hb); replace P := Aside0.mk (blk_below P.out hb); replace HB := Aside0.mk (below_step HB.out hb); clear hb))
  go_upto_region 8 with (fail)
  obtain ⟨W6, hW6⟩ : ∃ W_, W_ = ((k2.alloc (.cells #[.string (⟨#[]⟩ : ByteArray), .string s1, .string (⟨#[98]⟩ : ByteArray), .string s2] 42)).alloc (.cells #[.int .u64 3, .int .u64 0, .int .u8 1, .string (⟨#[]⟩ : ByteArray), .string (⟨#[]⟩ : ByteArray), .bool false, .int .u64 0, .int .u64 0, .slice none 0 0, .slice (some ⟨k2.heap.size, 0, none⟩) 2 2] 28)) := ⟨_, rfl⟩
  rw [← hW6]
  replace A : Aside0 (W6.heap[w.heap.size]? = some (.cells #[.string (⟨#[97]⟩ : ByteArray), .string (⟨#[49]⟩ : ByteArray)] 42 (0, 0))) := ⟨by rw [hW6]; exact mvB A.out⟩
  replace KA : Aside0 (W6.heap[w.heap.size + 1]? = some (.cells #[.int .u64 1, .int .u64 2, .int .u8 0, .string (⟨#[]⟩ : ByteArray), .string (⟨#[98]⟩ : ByteArray), .bool true, .int .u64 0, .int .u64 0, .slice none 0 0, .slice (some ⟨w.heap.size, 0, none⟩) 1 1] 28 (0, 0))) := ⟨by rw [hW6]; exact mvB KA.out⟩
  replace B : Aside0 (W6.heap[W2.heap.size]? = some (.cells #[.string (⟨#[99]⟩ : ByteArray), .string (⟨#[50]⟩ : ByteArray)] 42 (0, 0))) := ⟨by rw [hW6]; exact mvB B.out⟩
  replace KB : Aside0 (W6.heap[W2.heap.size + 1]? = some (.cells #[.int .u64 2, .int .u64 0, .int .u8 0, .string (⟨#[98]⟩ : ByteArray), .string (⟨#[]⟩ : ByteArray), .bool false, .int .u64 0, .int .u64 5, .slice none 0 0, .slice (some ⟨W2.heap.size, 0, none⟩) 1 1] 28 (0, 0))) := ⟨by rw [hW6]; exact mvB KB.out⟩
  replace P : Aside0 (W6.heap[j2.heap.size]? = some (.cells #[.int .u64 1, .int .u64 0, .int .u8 0, .string (⟨#[]⟩ : ByteArray), .string (⟨#[]⟩ : ByteArray), .bool false, .int .u64 9, .int .u64 5, .slice Ap 0 cp, .slice Bp 2 dp] 28 (0, 0))) := ⟨by rw [hW6]; exact mvB P.out⟩
  have U : Aside0 (W6.heap[k2.heap.size]? = some (.cells #[.string (⟨#[]⟩ : ByteArray), .string s1, .string (⟨#[98]⟩ : ByteArray), .string s2] 42 (0, 0))) := ⟨by rw [hW6]; exact mvB (lockkeeperlaw16_head_new k2 _ _ (by simp only [World.size_alloc]))⟩
  have KU : Aside0 (W6.heap[k2.heap.size + 1]? = some (.cells #[.int .u64 3, .int .u64 0, .int .u8 1, .string (⟨#[]⟩ : ByteArray), .string (⟨#[]⟩ : ByteArray), .bool false, .int .u64 0, .int .u64 0, .slice none 0 0, .slice (some ⟨k2.heap.size, 0, none⟩) 2 2] 28 (0, 0))) := ⟨by rw [hW6]; exact mvB (lockkeeperlaw16_head_new (k2.alloc (.cells #[.string (⟨#[]⟩ : ByteArray), .string s1, .string (⟨#[98]⟩ : ByteArray), .string s2] 42)) _ _ (by simp only [World.size_alloc]))⟩
  replace HB : Aside0 (Below w.heap.size w W6) := ⟨by rw [hW6]; exact mvW HB.out⟩
  clear hW6
  (obtain ⟨_, _, _, _, _, _, _, _, _, _⟩ := bc10 KU.out)
  (obtain ⟨_, _, _, _, _, _, _, _, _, _⟩ := bc10 KB.out)
  go_upto_region 9 with ((with_reducible refine gate_callee (f := 12) rfl ?_); refine goesL_ (some 52) rfl rfl Try.func12 (by kernel_rfl) rfl #[.agg #[.int .u64 3, .int .u64 0, .int .u8 1, .string (⟨#[]⟩ : ByteArray), .string (⟨#[]⟩ : ByteArray), .bool false, .int .u64 0, .int .u64 0, .slice none 0 0, .slice (some ⟨k2.heap.size, 0, none⟩) 2 2], .agg #[.int .u64 2, .int .u64 0, .int .u8 0, .string (⟨#[98]⟩ : ByteArray), .string (⟨#[]⟩ : ByteArray), .bool false, .int .u64 0, .int .u64 5, .slice none 0 0, .slice (some ⟨W2.heap.size, 0, none⟩) 1 1], .int .u64 7] rfl (by (try simp only [List.map_toArray, List.map_cons, List.map_nil]); first | done | rfl) ?_; (refine (merge_Unpost.calls 40 3 0 1 (⟨#[]⟩ : ByteArray) (⟨#[]⟩ : ByteArray) false 0 0 (fun _ => False) (.slice none 0 0) ([] : List Int) (some ⟨k2.heap.size, 0, none⟩) 2 [(⟨(⟨#[]⟩ : ByteArray), s1⟩ : S42), (⟨(⟨#[98]⟩ : ByteArray), s2⟩ : S42)] 2 0 0 (⟨#[98]⟩ : ByteArray) (⟨#[]⟩ : ByteArray) false 0 5 none 0 ([] : List Int) (some ⟨W2.heap.size, 0, none⟩) 1 [(⟨(⟨#[99]⟩ : ByteArray), (⟨#[50]⟩ : ByteArray)⟩ : S42)] 7 3 0 1 (⟨#[]⟩ : ByteArray) (⟨#[]⟩ : ByteArray) false 7 0 ([] : List Int) [(⟨(⟨#[]⟩ : ByteArray), s1⟩ : S42)] 0 _ _ (Below.refl _ _) (Kd.R_nil _ _ _ _ _) (fun W_ hk => lockkeeperlaw16_head_c2 ((hk.2 _ (blk_lt U.out) id).trans U.out)) (Nat.le_refl _) (fun _ _ => Kd.C_nil _ _) (Nat.le_refl _) (fun W_ hk => lockkeeperlaw16_head_c1 ((hk.2 _ (blk_lt B.out) id).trans B.out)) (Nat.le_refl _) Q1.out).mono ?_); rintro e u1 ⟨v8, v9, rfl, h8, h9, hb, _⟩; (refine ⟨_, rfl, ?_⟩); obtain ⟨Aq, cq, e8⟩ := Kd.R_slice h8; obtain ⟨Bq, dq, e9⟩ := Kd.R_slice h9; clear h8 h9; replace e8 : v8 = .slice Aq 0 cq := e8; replace e9 : v9 = .slice Bq 1 dq := e9; subst e8 e9; replace A := Aside0.mk (blk_below A.out hb); replace KA := Aside0.mk (blk_below KA.out hb); replace B := Aside0.mk (blk_below B.out hb); replace KB := Aside0.mk (blk_below KB.out hb); replace P := Aside0.mk (blk_below P.out hb); replace U := Aside0.mk (blk_below U.out hb); replace KU := Aside0.mk (blk_below KU.out hb); replace HB := Aside0.mk (below_step HB.out hb); clear hb)
  obtain ⟨W7, hW7⟩ : ∃ W_, W_ = (u1.alloc (.cells #[.int .u64 3, .int .u64 0, .int .u8 1, .string (⟨#[]⟩ : ByteArray), .string (⟨#[]⟩ : ByteArray), .bool false, .int .u64 7, .int .u64 0, .slice Aq 0 cq, .slice Bq 1 dq] 28)) := ⟨_, rfl⟩
  rw [← hW7]
  replace A : Aside0 (W7.heap[w.heap.size]? = some (.cells #[.string (⟨#[97]⟩ : ByteArray), .string (⟨#[49]⟩ : ByteArray)] 42 (0, 0))) := ⟨by rw [hW7]; exact mvB A.out⟩
  replace KA : Aside0 (W7.heap[w.heap.size + 1]? = some (.cells #[.int .u64 1, .int .u64 2, .int .u8 0, .string (⟨#[]⟩ : ByteArray), .string (⟨#[98]⟩ : ByteArray), .bool true, .int .u64 0, .int .u64 0, .slice none 0 0, .slice (some ⟨w.heap.size, 0, none⟩) 1 1] 28 (0, 0))) := ⟨by rw [hW7]; exact mvB KA.out⟩
  replace B : Aside0 (W7.heap[W2.heap.size]? = some (.cells #[.string (⟨#[99]⟩ : ByteArray), .string (⟨#[50]⟩ : ByteArray)] 42 (0, 0))) := ⟨by rw [hW7]; exact mvB B.out⟩
  replace KB : Aside0 (W7.heap[W2.heap.size + 1]? = some (.cells #[.int .u64 2, .int .u64 0, .int .u8 0, .string (⟨#[98]⟩ : ByteArray), .string (⟨#[]⟩ : ByteArray), .bool false, .int .u64 0, .int .u64 5, .slice none 0 0, .slice (some ⟨W2.heap.size, 0, none⟩) 1 1] 28 (0, 0))) := ⟨by rw [hW7]; exact mvB KB.out⟩
  replace P : Aside0 (W7.heap[j2.heap.size]? = some (.cells #[.int .u64 1, .int .u64 0, .int .u8 0, .string (⟨#[]⟩ : ByteArray), .string (⟨#[]⟩ : ByteArray), .bool false, .int .u64 9, .int .u64 5, .slice Ap 0 cp, .slice Bp 2 dp] 28 (0, 0))) := ⟨by rw [hW7]; exact mvB P.out⟩
  replace U : Aside0 (W7.heap[k2.heap.size]? = some (.cells #[.string (⟨#[]⟩ : ByteArray), .string s1, .string (⟨#[98]⟩ : ByteArray), .string s2] 42 (0, 0))) := ⟨by rw [hW7]; exact mvB U.out⟩
  replace KU : Aside0 (W7.heap[k2.heap.size + 1]? = some (.cells #[.int .u64 3, .int .u64 0, .int .u8 1, .string (⟨#[]⟩ : ByteArray), .string (⟨#[]⟩ : ByteArray), .bool false, .int .u64 0, .int .u64 0, .slice none 0 0, .slice (some ⟨k2.heap.size, 0, none⟩) 2 2] 28 (0, 0))) := ⟨by rw [hW7]; exact mvB KU.out⟩
  have Q : Aside0 (W7.heap[u1.heap.size]? = some (.cells #[.int .u64 3, .int .u64 0, .int .u8 1, .string (⟨#[]⟩ : ByteArray), .string (⟨#[]⟩ : ByteArray), .bool false, .int .u64 7, .int .u64 0, .slice Aq 0 cq, .slice Bq 1 dq] 28 (0, 0))) := ⟨by rw [hW7]; exact mvB (lockkeeperlaw16_head_new u1 _ _ (by simp only [World.size_alloc]))⟩
  replace HB : Aside0 (Below w.heap.size w W7) := ⟨by rw [hW7]; exact mvW HB.out⟩
  clear hW7
  (obtain ⟨_, _, _, _, _, _, _, _, _, _⟩ := bc10 KU.out)
  (obtain ⟨_, _, _, _, _, _, _, _, _, _⟩ := bc10 KA.out)
  go_upto_region 10 with ((with_reducible refine gate_callee (f := 12) rfl ?_); refine goesL_ (some 58) rfl rfl Try.func12 (by kernel_rfl) rfl #[.agg #[.int .u64 3, .int .u64 0, .int .u8 1, .string (⟨#[]⟩ : ByteArray), .string (⟨#[]⟩ : ByteArray), .bool false, .int .u64 0, .int .u64 0, .slice none 0 0, .slice (some ⟨k2.heap.size, 0, none⟩) 2 2], .agg #[.int .u64 1, .int .u64 2, .int .u8 0, .string (⟨#[]⟩ : ByteArray), .string (⟨#[98]⟩ : ByteArray), .bool true, .int .u64 0, .int .u64 0, .slice none 0 0, .slice (some ⟨w.heap.size, 0, none⟩) 1 1], .int .u64 7] rfl (by (try simp only [List.map_toArray, List.map_cons, List.map_nil]); first | done | rfl) ?_; (refine (merge_Unpost.calls 40 3 0 1 (⟨#[]⟩ : ByteArray) (⟨#[]⟩ : ByteArray) false 0 0 (fun _ => False) (.slice none 0 0) ([] : List Int) (some ⟨k2.heap.size, 0, none⟩) 2 [(⟨(⟨#[]⟩ : ByteArray), s1⟩ : S42), (⟨(⟨#[98]⟩ : ByteArray), s2⟩ : S42)] 1 2 0 (⟨#[]⟩ : ByteArray) (⟨#[98]⟩ : ByteArray) true 0 0 none 0 ([] : List Int) (some ⟨w.heap.size, 0, none⟩) 1 [(⟨(⟨#[97]⟩ : ByteArray), (⟨#[49]⟩ : ByteArray)⟩ : S42)] 7 0 0 0 (⟨#[]⟩ : ByteArray) (⟨#[]⟩ : ByteArray) false 0 0 ([] : List Int) ([] : List S42) 9 _ _ (Below.refl _ _) (Kd.R_nil _ _ _ _ _) (fun W_ hk => lockkeeperlaw16_head_c2 ((hk.2 _ (blk_lt U.out) id).trans U.out)) (Nat.le_refl _) (fun _ _ => Kd.C_nil _ _) (Nat.le_refl _) (fun W_ hk => lockkeeperlaw16_head_c1 ((hk.2 _ (blk_lt A.out) id).trans A.out)) (Nat.le_refl _) Q2.out).mono ?_); rintro e u2 ⟨v8, v9, rfl, h8, h9, hb, _⟩; (refine ⟨_, rfl, ?_⟩); obtain ⟨Ah, ch, e8⟩ := Kd.R_slice h8; obtain ⟨Bh, dh, e9⟩ := Kd.R_slice h9; clear h8 h9; replace e8 : v8 = .slice Ah 0 ch := e8; replace e9 : v9 = .slice Bh 0 dh := e9; subst e8 e9; replace A := Aside0.mk (blk_below A.out hb); replace KA := Aside0.mk (blk_below KA.out hb); replace B := Aside0.mk (blk_below B.out hb); replace KB := Aside0.mk (blk_below KB.out hb); replace P := Aside0.mk (blk_below P.out hb); replace U := Aside0.mk (blk_below U.out hb); replace KU := Aside0.mk (blk_below KU.out hb); replace Q := Aside0.mk (blk_below Q.out hb); replace HB := Aside0.mk (below_step HB.out hb); clear hb)
  obtain ⟨W8, hW8⟩ : ∃ W_, W_ = (u2.alloc (.cells #[.int .u64 0, .int .u64 0, .int .u8 0, .string (⟨#[]⟩ : ByteArray), .string (⟨#[]⟩ : ByteArray), .bool false, .int .u64 0, .int .u64 0, .slice Ah 0 ch, .slice Bh 0 dh] 28)) := ⟨_, rfl⟩
  rw [← hW8]
  replace A : Aside0 (W8.heap[w.heap.size]? = some (.cells #[.string (⟨#[97]⟩ : ByteArray), .string (⟨#[49]⟩ : ByteArray)] 42 (0, 0))) := ⟨by rw [hW8]; exact mvB A.out⟩
  replace KA : Aside0 (W8.heap[w.heap.size + 1]? = some (.cells #[.int .u64 1, .int .u64 2, .int .u8 0, .string (⟨#[]⟩ : ByteArray), .string (⟨#[98]⟩ : ByteArray), .bool true, .int .u64 0, .int .u64 0, .slice none 0 0, .slice (some ⟨w.heap.size, 0, none⟩) 1 1] 28 (0, 0))) := ⟨by rw [hW8]; exact mvB KA.out⟩
  replace B : Aside0 (W8.heap[W2.heap.size]? = some (.cells #[.string (⟨#[99]⟩ : ByteArray), .string (⟨#[50]⟩ : ByteArray)] 42 (0, 0))) := ⟨by rw [hW8]; exact mvB B.out⟩
  replace KB : Aside0 (W8.heap[W2.heap.size + 1]? = some (.cells #[.int .u64 2, .int .u64 0, .int .u8 0, .string (⟨#[98]⟩ : ByteArray), .string (⟨#[]⟩ : ByteArray), .bool false, .int .u64 0, .int .u64 5, .slice none 0 0, .slice (some ⟨W2.heap.size, 0, none⟩) 1 1] 28 (0, 0))) := ⟨by rw [hW8]; exact mvB KB.out⟩
  replace P : Aside0 (W8.heap[j2.heap.size]? = some (.cells #[.int .u64 1, .int .u64 0, .int .u8 0, .string (⟨#[]⟩ : ByteArray), .string (⟨#[]⟩ : ByteArray), .bool false, .int .u64 9, .int .u64 5, .slice Ap 0 cp, .slice Bp 2 dp] 28 (0, 0))) := ⟨by rw [hW8]; exact mvB P.out⟩
  replace Q : Aside0 (W8.heap[u1.heap.size]? = some (.cells #[.int .u64 3, .int .u64 0, .int .u8 1, .string (⟨#[]⟩ : ByteArray), .string (⟨#[]⟩ : ByteArray), .bool false, .int .u64 7, .int .u64 0, .slice Aq 0 cq, .slice Bq 1 dq] 28 (0, 0))) := ⟨by rw [hW8]; exact mvB Q.out⟩
  replace HB : Aside0 (Below w.heap.size w W8) := ⟨by rw [hW8]; exact mvW HB.out⟩
  clear hW8
  (obtain ⟨_, _, _, _, _, _, _, _, _, _⟩ := bc10 P.out)
  (obtain ⟨_, _, _, _, _, _, _, _, _, _⟩ := bc10 Q.out)
  (obtain ⟨_, _, _, _, _, _, _, _, _, _⟩ := bc10 KA.out)
  (obtain ⟨_, _, _, _, _, _, _, _, _, _⟩ := bc10 KB.out)
  go_wp2_with (first | ((with_reducible refine gate_callee (f := 8) rfl ?_); (try (refine gate_guard (by rfl) ?_; dsimp only)); refine goesL_ (some 121) rfl rfl Try.func8 (by kernel_rfl) rfl #[.agg #[.int .u64 1, .int .u64 2, .int .u8 0, .string (⟨#[]⟩ : ByteArray), .string (⟨#[98]⟩ : ByteArray), .bool true, .int .u64 0, .int .u64 0, .slice none 0 0, .slice (some ⟨w.heap.size, 0, none⟩) 1 1], .agg #[.int .u64 2, .int .u64 0, .int .u8 0, .string (⟨#[98]⟩ : ByteArray), .string (⟨#[]⟩ : ByteArray), .bool false, .int .u64 0, .int .u64 5, .slice none 0 0, .slice (some ⟨W2.heap.size, 0, none⟩) 1 1], .int .i64 12] rfl (by (try simp only [List.map_toArray, List.map_cons, List.map_nil]); first | done | rfl) ?_; (refine (merge_Under.calls 40 1 2 0 (⟨#[]⟩ : ByteArray) (⟨#[98]⟩ : ByteArray) true 0 0 none 0 ([] : List Int) (some ⟨w.heap.size, 0, none⟩) 1 [(⟨(⟨#[97]⟩ : ByteArray), (⟨#[49]⟩ : ByteArray)⟩ : S42)] 2 0 0 (⟨#[98]⟩ : ByteArray) (⟨#[]⟩ : ByteArray) false 0 5 none 0 ([] : List Int) (some ⟨W2.heap.size, 0, none⟩) 1 [(⟨(⟨#[99]⟩ : ByteArray), (⟨#[50]⟩ : ByteArray)⟩ : S42)] 12 true _ (Kd.C_nil _ _) (Nat.le_refl _) (lockkeeperlaw16_head_c1 A.out) (Nat.le_refl _) (Kd.C_nil _ _) (Nat.le_refl _) (lockkeeperlaw16_head_c1 B.out) (Nat.le_refl _) (by kernel_rfl)).mono ?_); rintro e b1 ⟨rfl, hb⟩; (refine ⟨_, rfl, ?_⟩); replace A := Aside0.mk (blk_below A.out hb); replace KA := Aside0.mk (blk_below KA.out hb); replace B := Aside0.mk (blk_below B.out hb); replace KB := Aside0.mk (blk_below KB.out hb); replace HB := Aside0.mk (below_step HB.out hb); clear hb; (obtain ⟨_, _, _, _, _, _, _, _, _, _⟩ := bc10 KA.out); (obtain ⟨_, _, _, _, _, _, _, _, _, _⟩ := bc10 KB.out)) | ((with_reducible refine gate_callee (f := 8) rfl ?_); (try (refine gate_guard (by rfl) ?_; dsimp only)); refine goesL_ (some 126) rfl rfl Try.func8 (by kernel_rfl) rfl #[.agg #[.int .u64 1, .int .u64 2, .int .u8 0, .string (⟨#[]⟩ : ByteArray), .string (⟨#[98]⟩ : ByteArray), .bool true, .int .u64 0, .int .u64 0, .slice none 0 0, .slice (some ⟨w.heap.size, 0, none⟩) 1 1], .agg #[.int .u64 2, .int .u64 0, .int .u8 0, .string (⟨#[98]⟩ : ByteArray), .string (⟨#[]⟩ : ByteArray), .bool false, .int .u64 0, .int .u64 5, .slice none 0 0, .slice (some ⟨W2.heap.size, 0, none⟩) 1 1], .int .i64 11] rfl (by (try simp only [List.map_toArray, List.map_cons, List.map_nil]); first | done | rfl) ?_; (refine (merge_Under.calls 40 1 2 0 (⟨#[]⟩ : ByteArray) (⟨#[98]⟩ : ByteArray) true 0 0 none 0 ([] : List Int) (some ⟨w.heap.size, 0, none⟩) 1 [(⟨(⟨#[97]⟩ : ByteArray), (⟨#[49]⟩ : ByteArray)⟩ : S42)] 2 0 0 (⟨#[98]⟩ : ByteArray) (⟨#[]⟩ : ByteArray) false 0 5 none 0 ([] : List Int) (some ⟨W2.heap.size, 0, none⟩) 1 [(⟨(⟨#[99]⟩ : ByteArray), (⟨#[50]⟩ : ByteArray)⟩ : S42)] 11 false _ (Kd.C_nil _ _) (Nat.le_refl _) (lockkeeperlaw16_head_c1 A.out) (Nat.le_refl _) (Kd.C_nil _ _) (Nat.le_refl _) (lockkeeperlaw16_head_c1 B.out) (Nat.le_refl _) (by kernel_rfl)).mono ?_); rintro e b2 ⟨rfl, hb⟩; (refine ⟨_, rfl, ?_⟩); replace A := Aside0.mk (blk_below A.out hb); replace KA := Aside0.mk (blk_below KA.out hb); replace B := Aside0.mk (blk_below B.out hb); replace KB := Aside0.mk (blk_below KB.out hb); replace HB := Aside0.mk (below_step HB.out hb); clear hb; (obtain ⟨_, _, _, _, _, _, _, _, _, _⟩ := bc10 KA.out); (obtain ⟨_, _, _, _, _, _, _, _, _, _⟩ := bc10 KB.out)) | ((with_reducible refine gate_callee (f := 7) rfl ?_); (try (refine gate_guard (by rfl) ?_; dsimp only)); refine goesL_ (some 132) rfl rfl Try.func7 (by kernel_rfl) rfl #[.agg #[.int .u64 2, .int .u64 0, .int .u8 0, .string (⟨#[98]⟩ : ByteArray), .string (⟨#[]⟩ : ByteArray), .bool false, .int .u64 0, .int .u64 5, .slice none 0 0, .slice (some ⟨W2.heap.size, 0, none⟩) 1 1], .agg #[.int .u64 1, .int .u64 2, .int .u8 0, .string (⟨#[]⟩ : ByteArray), .string (⟨#[98]⟩ : ByteArray), .bool true, .int .u64 0, .int .u64 0, .slice none 0 0, .slice (some ⟨w.heap.size, 0, none⟩) 1 1]] rfl (by (try simp only [List.map_toArray, List.map_cons, List.map_nil]); first | done | rfl) ?_; (refine (merge_Beside.calls 40 2 0 0 (⟨#[98]⟩ : ByteArray) (⟨#[]⟩ : ByteArray) false 0 5 none 0 ([] : List Int) (some ⟨W2.heap.size, 0, none⟩) 1 [(⟨(⟨#[99]⟩ : ByteArray), (⟨#[50]⟩ : ByteArray)⟩ : S42)] 1 2 0 (⟨#[]⟩ : ByteArray) (⟨#[98]⟩ : ByteArray) true 0 0 none 0 ([] : List Int) (some ⟨w.heap.size, 0, none⟩) 1 [(⟨(⟨#[97]⟩ : ByteArray), (⟨#[49]⟩ : ByteArray)⟩ : S42)] false _ (Kd.C_nil _ _) (Nat.le_refl _) (lockkeeperlaw16_head_c1 B.out) (Nat.le_refl _) (Kd.C_nil _ _) (Nat.le_refl _) (lockkeeperlaw16_head_c1 A.out) (Nat.le_refl _) (by kernel_rfl)).mono ?_); rintro e b3 ⟨rfl, hb⟩; (refine ⟨_, rfl, ?_⟩); replace HB := Aside0.mk (below_step HB.out hb); clear hb))
  go_ret
  exact ⟨rfl, HB.out⟩

/-! ### lockkeeperref10_Size: function 6 -/
def lockkeeperref10_Size.l0 : Nat → List (S42) → Int → Int → Option (Int)
  | 0, _, _, _ => none
  | k + 1, x0, x3, x4 => if x4 < (x0.length : Int) then (if 0 ≤ x4 then (lockkeeperref10_Size.l0 k x0 (wrap64 ((wrap64 ((wrap64 (x3 + 4)) + (((rd_T42 x0 x4).f0).size : Int))) + (((rd_T42 x0 x4).f1).size : Int))) (wrap64 (x4 + 1))) else (none)) else (some x3)
def lockkeeperref10_Size.f (k : Nat) (l0 : List (S42)) : Option (Int) := lockkeeperref10_Size.l0 k l0 0 0
theorem lockkeeperref10_Size.mono_l : ∀ k, (∀ y0 y1 y2, LeO (lockkeeperref10_Size.l0 k y0 y1 y2) (lockkeeperref10_Size.l0 (k + 1) y0 y1 y2))
  | 0 => fun _ _ _ r h => by simp [lockkeeperref10_Size.l0] at h
  | k + 1 => by
    have ih0 := lockkeeperref10_Size.mono_l k
    · intro y0 y1 y2
      unfold lockkeeperref10_Size.l0
      repeat' first
      | (with_reducible exact ih0 _ _ _)
      | (with_reducible exact LeO.refl _)
      | (with_reducible exact LeO.none _)
      | (with_reducible refine LeO.ite ?_ ?_)
      | (with_reducible refine LeO.bind ?_ (fun _ => ?_))
      | exact ih0 _ _ _
      | exact LeO.none _
      | refine LeO.ite ?_ ?_
      | refine LeO.bind ?_ (fun _ => ?_)
theorem lockkeeperref10_Size.mono : ∀ a0 k, LeO (lockkeeperref10_Size.f k a0) (lockkeeperref10_Size.f (k + 1) a0) := by
  intro a0 k
  have ih0 := lockkeeperref10_Size.mono_l k
  unfold lockkeeperref10_Size.f
  repeat' first
      | (with_reducible exact ih0 _ _ _)
      | (with_reducible exact LeO.refl _)
      | (with_reducible exact LeO.none _)
      | (with_reducible refine LeO.ite ?_ ?_)
      | (with_reducible refine LeO.bind ?_ (fun _ => ?_))
      | exact ih0 _ _ _
      | exact LeO.none _
      | refine LeO.ite ?_ ?_
      | refine LeO.bind ?_ (fun _ => ?_)
set_option maxHeartbeats 8000000 in
set_option maxRecDepth 100000 in
theorem lockkeeperref10_Size.calls (k : Nat) (A0 : Option Addr) (c0 : Nat) (l0 : List (S42)) (r : Int) (w : World) (hr0 : Kd.C k42 w A0 l0.length l0) (hc0 : l0.length ≤ c0) (h : lockkeeperref10_Size.f k l0 = some r) :
    Calls Try.prog 6 #[.slice A0 l0.length c0] w fun e w' => e = .returned (.int .i64 r) ∧ Drawn0 w w' := by
  (have HR0 := Aside0.mk hr0); (have HC0 := Aside0.mk hc0); (clear hr0 hc0); (have H : (lockkeeperref10_Size.l0 k l0 0 0) = some r := h); (clear h); (have H' := Aside0.mk H); (clear H); (go_enter Try.func6, Try.ntmps6); (go_wp2); (repeat (go_quiet (fail); try go_wp2)); (go_loopg [3, 4] k (fun kq v3 v4 w' => ∃ (x3_1 : Int) (x4_1 : Int), v3 = .int .i64 x3_1 ∧ v4 = .int .i64 x4_1 ∧ Aside0 (lockkeeperref10_Size.l0 kq l0 x3_1 x4_1 = some r) ∧ Aside0 (kq ≤ k) ∧ Drawn0 w w'))
  case atStart => exact ⟨(0), (0), (by first | rfl | (simp; done) | (simp [*]; done)), (by first | rfl | (simp; done) | (simp [*]; done)), H', ⟨Nat.le_refl _⟩, by repeat (first | exact Drawn0.refl _ | apply Drawn0.step)⟩
  case round =>
    (clear H'); (obtain ⟨x3_1, x4_1, rfl, rfl, HA, HK1, ⟨m1, rfl⟩⟩ := hrel)
    cases gk with
    | zero => exact absurd HA.out (by simp [lockkeeperref10_Size.l0])
    | succ k1 =>
      (have H := HA.out); (clear HA); (simp only [lockkeeperref10_Size.l0] at H); (by_cases c2 : x4_1 < (l0.length : Int))
      · (rw [if_pos c2] at H); (have c2b0 : decide (x4_1 < (l0.length : Int)) = true := decide_eq_true c2); (clear c2); (by_cases c3 : 0 ≤ x4_1)
        · (rw [if_pos c3] at H); (have c3b0 : decide (0 ≤ x4_1) = true := decide_eq_true c3); (clear c3); (have H' := Aside0.mk H); (clear H); (have p227 : 0 ≤ (x4_1 : Int) := of_decide_eq_true (by first | (with_reducible assumption) | assumption)); (have q227 : x4_1 < (l0.length : Int) := of_decide_eq_true (by first | (with_reducible assumption) | assumption)); (obtain ⟨ad227, e227, hx227_0, hx227_1⟩ := at_T42 HR0.out x4_1 p227 q227); (cases e227); (replace p227 := eq_true p227); (replace q227 := eq_true q227); (have p228 : 0 ≤ (x4_1 : Int) := of_decide_eq_true (by first | (with_reducible assumption) | assumption)); (have q228 : x4_1 < (l0.length : Int) := of_decide_eq_true (by first | (with_reducible assumption) | assumption)); (obtain ⟨ad228, e228, hx228_0, hx228_1⟩ := at_T42 HR0.out x4_1 p228 q228); (obtain rfl : ad227 = ad228 := (by injection e228)); (replace p228 := eq_true p228); (replace q228 := eq_true q228); (go_wp2); (repeat (go_quiet (fail); try go_wp2)); (go_roundg k1)
          case measure => have := HK1.out; omega
          case rel => exact ⟨(wrap64 ((wrap64 ((wrap64 (x3_1 + 4)) + (((rd_T42 l0 x4_1).f0).size : Int))) + (((rd_T42 l0 x4_1).f1).size : Int))), (wrap64 (x4_1 + 1)), (by first | rfl | (simp; done) | (simp [*]; done)), (by first | rfl | (simp; done) | (simp [*]; done)), H', ⟨by have := HK1.out; omega⟩, by repeat (first | exact Drawn0.refl _ | apply Drawn0.step)⟩
        · (rw [if_neg c3] at H); (exact absurd H (by simp))
      · (rw [if_neg c2] at H); (have c2b0 : decide (x4_1 < (l0.length : Int)) = false := decide_eq_false c2); (clear c2); (obtain rfl := Option.some.inj H); (go_wp2); (repeat (go_quiet (fail); try go_wp2)); (go_ret); (exact ⟨by first | rfl | (simp; done) | (simp [*]; done), by repeat (first | exact Drawn0.refl _ | apply Drawn0.step)⟩)

/-! ### lockkeeperref10_Same: function 10 -/
def lockkeeperref10_Same.l0 : Nat → List (S42) → List (S42) → Int → Option (Bool)
  | 0, _, _, _ => none
  | k + 1, x0, x1, x5 => if x5 < (x0.length : Int) then (if 0 ≤ x5 then (if x5 < (x1.length : Int) then (if (!((((rd_T42 x0 x5).f0).toList) == (((rd_T42 x1 x5).f0).toList)) || (!((((rd_T42 x0 x5).f1).toList) == (((rd_T42 x1 x5).f1).toList)))) = true then (some false) else (lockkeeperref10_Same.l0 k x0 x1 (wrap64 (x5 + 1)))) else (none)) else (none)) else (some true)
def lockkeeperref10_Same.f (k : Nat) (l0 : List (S42)) (l1 : List (S42)) : Option (Bool) := if (l0.length : Int) = (l1.length : Int) then (lockkeeperref10_Same.l0 k l0 l1 0) else (some false)
theorem lockkeeperref10_Same.mono_l : ∀ k, (∀ y0 y1 y2, LeO (lockkeeperref10_Same.l0 k y0 y1 y2) (lockkeeperref10_Same.l0 (k + 1) y0 y1 y2))
  | 0 => fun _ _ _ r h => by simp [lockkeeperref10_Same.l0] at h
  | k + 1 => by
    have ih0 := lockkeeperref10_Same.mono_l k
    · intro y0 y1 y2
      unfold lockkeeperref10_Same.l0
      repeat' first
      | (with_reducible exact ih0 _ _ _)
      | (with_reducible exact LeO.refl _)
      | (with_reducible exact LeO.none _)
      | (with_reducible refine LeO.ite ?_ ?_)
      | (with_reducible refine LeO.bind ?_ (fun _ => ?_))
      | exact ih0 _ _ _
      | exact LeO.none _
      | refine LeO.ite ?_ ?_
      | refine LeO.bind ?_ (fun _ => ?_)
theorem lockkeeperref10_Same.mono : ∀ a0 a1 k, LeO (lockkeeperref10_Same.f k a0 a1) (lockkeeperref10_Same.f (k + 1) a0 a1) := by
  intro a0 a1 k
  have ih0 := lockkeeperref10_Same.mono_l k
  unfold lockkeeperref10_Same.f
  repeat' first
      | (with_reducible exact ih0 _ _ _)
      | (with_reducible exact LeO.refl _)
      | (with_reducible exact LeO.none _)
      | (with_reducible refine LeO.ite ?_ ?_)
      | (with_reducible refine LeO.bind ?_ (fun _ => ?_))
      | exact ih0 _ _ _
      | exact LeO.none _
      | refine LeO.ite ?_ ?_
      | refine LeO.bind ?_ (fun _ => ?_)
set_option maxHeartbeats 8000000 in
set_option maxRecDepth 100000 in
theorem lockkeeperref10_Same.calls (k : Nat) (A0 : Option Addr) (c0 : Nat) (l0 : List (S42)) (A1 : Option Addr) (c1 : Nat) (l1 : List (S42)) (r : Bool) (w : World) (hr0 : Kd.C k42 w A0 l0.length l0) (hc0 : l0.length ≤ c0) (hr1 : Kd.C k42 w A1 l1.length l1) (hc1 : l1.length ≤ c1) (h : lockkeeperref10_Same.f k l0 l1 = some r) :
    Calls Try.prog 10 #[.slice A0 l0.length c0, .slice A1 l1.length c1] w fun e w' => e = .returned (.bool r) ∧ Drawn0 w w' := by
  (have hu42 := Try.underlying42); (have HR0 := Aside0.mk hr0); (have HC0 := Aside0.mk hc0); (clear hr0 hc0); (have HR1 := Aside0.mk hr1); (have HC1 := Aside0.mk hc1); (clear hr1 hc1); (have H : (if (l0.length : Int) = (l1.length : Int) then (lockkeeperref10_Same.l0 k l0 l1 0) else (some false)) = some r := h); (clear h); (by_cases c3 : (l0.length : Int) = (l1.length : Int))
  · (rw [if_pos c3] at H); (have c3b0 : ((l0.length : Int) == (l1.length : Int)) = true := beq_iff_eq.mpr c3); (have c3b1 : ((l0.length : Int) != (l1.length : Int)) = false := bne_eq_false_iff_eq.mpr c3); (have c3b2 : (l0.length == l1.length) = true := by first | simpa using c3 | (simp at c3 ⊢; omega)); (clear c3); (have H' := Aside0.mk H); (clear H); (go_enter Try.func10, Try.ntmps10); (go_wp2); (repeat (go_quiet (fail); try go_wp2)); (go_loopg [5] k (fun kq v5 w' => ∃ (x5_1 : Int), v5 = .int .i64 x5_1 ∧ Aside0 (lockkeeperref10_Same.l0 kq l0 l1 x5_1 = some r) ∧ Aside0 (kq ≤ k) ∧ Drawn0 w w'))
    case atStart => exact ⟨(0), (by first | rfl | (simp; done) | (simp [*]; done)), H', ⟨Nat.le_refl _⟩, by repeat (first | exact Drawn0.refl _ | apply Drawn0.step)⟩
    case round =>
      (clear H'); (try clear c1); (try clear p2); (try clear c3); (try clear c3b0); (try clear c3b1); (try clear c3b2); (obtain ⟨x5_1, rfl, HA, HK1, ⟨m1, rfl⟩⟩ := hrel)
      cases gk with
      | zero => exact absurd HA.out (by simp [lockkeeperref10_Same.l0])
      | succ k1 =>
        (have H := HA.out); (clear HA); (simp only [lockkeeperref10_Same.l0] at H); (by_cases c4 : x5_1 < (l0.length : Int))
        · (rw [if_pos c4] at H); (have c4b0 : decide (x5_1 < (l0.length : Int)) = true := decide_eq_true c4); (clear c4); (by_cases c5 : 0 ≤ x5_1)
          · (rw [if_pos c5] at H); (have c5b0 : decide (0 ≤ x5_1) = true := decide_eq_true c5); (clear c5); (by_cases c6 : x5_1 < (l1.length : Int))
            · (rw [if_pos c6] at H); (have c6b0 : decide (x5_1 < (l1.length : Int)) = true := decide_eq_true c6); (clear c6); (by_cases c7 : (!((((rd_T42 l0 x5_1).f0).toList) == (((rd_T42 l1 x5_1).f0).toList)) || (!((((rd_T42 l0 x5_1).f1).toList) == (((rd_T42 l1 x5_1).f1).toList)))) = true)
              · (rw [if_pos c7] at H); (have c7b0 : (!((((rd_T42 l0 x5_1).f0).toList) == (((rd_T42 l1 x5_1).f0).toList)) || (!((((rd_T42 l0 x5_1).f1).toList) == (((rd_T42 l1 x5_1).f1).toList)))) = true := c7); (clear c7); (obtain rfl := Option.some.inj H); (have p229 : 0 ≤ (x5_1 : Int) := of_decide_eq_true (by first | (with_reducible assumption) | assumption)); (have q229 : x5_1 < (l0.length : Int) := of_decide_eq_true (by first | (with_reducible assumption) | assumption)); (obtain ⟨ad229, e229, hx229_0, hx229_1⟩ := at_T42 HR0.out x5_1 p229 q229); (cases e229); (replace p229 := eq_true p229); (replace q229 := eq_true q229); (have p230 : 0 ≤ (x5_1 : Int) := of_decide_eq_true (by first | (with_reducible assumption) | assumption)); (have q230 : x5_1 < (l1.length : Int) := of_decide_eq_true (by first | (with_reducible assumption) | assumption)); (obtain ⟨ad230, e230, hx230_0, hx230_1⟩ := at_T42 HR1.out x5_1 p230 q230); (cases e230); (replace p230 := eq_true p230); (replace q230 := eq_true q230); (go_wp2); (repeat (go_quiet (fail); try go_wp2)); (go_ret); (exact ⟨by first | rfl | (simp; done) | (simp [*]; done), by repeat (first | exact Drawn0.refl _ | apply Drawn0.step)⟩)
              · (rw [if_neg c7] at H); (have c7b0 : (!((((rd_T42 l0 x5_1).f0).toList) == (((rd_T42 l1 x5_1).f0).toList)) || (!((((rd_T42 l0 x5_1).f1).toList) == (((rd_T42 l1 x5_1).f1).toList)))) = false := by simpa using c7); (clear c7); (have H' := Aside0.mk H); (clear H); (have p229 : 0 ≤ (x5_1 : Int) := of_decide_eq_true (by first | (with_reducible assumption) | assumption)); (have q229 : x5_1 < (l0.length : Int) := of_decide_eq_true (by first | (with_reducible assumption) | assumption)); (obtain ⟨ad229, e229, hx229_0, hx229_1⟩ := at_T42 HR0.out x5_1 p229 q229); (cases e229); (replace p229 := eq_true p229); (replace q229 := eq_true q229); (have p230 : 0 ≤ (x5_1 : Int) := of_decide_eq_true (by first | (with_reducible assumption) | assumption)); (have q230 : x5_1 < (l1.length : Int) := of_decide_eq_true (by first | (with_reducible assumption) | assumption)); (obtain ⟨ad230, e230, hx230_0, hx230_1⟩ := at_T42 HR1.out x5_1 p230 q230); (cases e230); (replace p230 := eq_true p230); (replace q230 := eq_true q230); (go_wp2); (repeat (go_quiet (fail); try go_wp2)); (go_roundg k1)
                case measure => have := HK1.out; omega
                case rel => exact ⟨(wrap64 (x5_1 + 1)), (by first | rfl | (simp; done) | (simp [*]; done)), H', ⟨by have := HK1.out; omega⟩, by repeat (first | exact Drawn0.refl _ | apply Drawn0.step)⟩
            · (rw [if_neg c6] at H); (exact absurd H (by simp))
          · (rw [if_neg c5] at H); (exact absurd H (by simp))
        · (rw [if_neg c4] at H); (have c4b0 : decide (x5_1 < (l0.length : Int)) = false := decide_eq_false c4); (clear c4); (obtain rfl := Option.some.inj H); (go_wp2); (repeat (go_quiet (fail); try go_wp2)); (go_ret); (exact ⟨by first | rfl | (simp; done) | (simp [*]; done), by repeat (first | exact Drawn0.refl _ | apply Drawn0.step)⟩)
  · (rw [if_neg c3] at H); (have c3b0 : ((l0.length : Int) == (l1.length : Int)) = false := beq_eq_false_iff_ne.mpr c3); (have c3b1 : ((l0.length : Int) != (l1.length : Int)) = true := bne_iff_ne.mpr c3); (have c3b2 : (l0.length == l1.length) = false := by first | simpa using c3 | (simp at c3 ⊢; omega)); (obtain rfl := Option.some.inj H); (go_enter Try.func10, Try.ntmps10); (go_wp2); (repeat (go_quiet (fail); try go_wp2)); (go_ret); (exact ⟨by first | rfl | (simp; done) | (simp [*]; done), by repeat (first | exact Drawn0.refl _ | apply Drawn0.step)⟩)

def ok25 (x : S25) : Prop := ((Lit.int .u64 x.f0).wf = true) ∧ (x.f1.length * 8 ≤ 140737488351232 ∧ ∀ e0 ∈ x.f1, (Lit.int .u64 e0).wf = true)
theorem opn25 {H : Type} {enc : TypeId × Value → H} : Open.Opn enc Try.prog 25 k25 ok25 := Open.opn_struct (fun p => ⟨p.1, p.2⟩) (fun _ => rfl) Try.underlying25 (by kernel_rfl) (Open.opnFs_cons (off := 0) (off' := 1) (tot := 2) rfl (by kernel_rfl) (Open.opn_int Try.underlying22) (Open.opnFs_one (off := 1) (tot := 2) rfl (by kernel_rfl) (Open.opn_slice (B := 8) Try.underlying23 (by kernel_rfl) (by kernel_rfl) (Open.opn_int Try.underlying22))))

def ok42 (x : S42) : Prop := (x.f0.size ≤ 140737488351232) ∧ (x.f1.size ≤ 140737488351232)
theorem opn42 {H : Type} {enc : TypeId × Value → H} : Open.Opn enc Try.prog 42 k42 ok42 := Open.opn_struct (fun p => ⟨p.1, p.2⟩) (fun _ => rfl) Try.underlying42 (by kernel_rfl) (Open.opnFs_cons (off := 0) (off' := 1) (tot := 2) rfl (by kernel_rfl) (Open.opn_string Try.underlying9) (Open.opnFs_one (off := 1) (tot := 2) rfl (by kernel_rfl) (Open.opn_string Try.underlying9)))

def ok28 (x : S28) : Prop := ((Lit.int .u64 x.f0).wf = true) ∧ (((Lit.int .u64 x.f1).wf = true) ∧ (((Lit.int .u8 x.f2).wf = true) ∧ ((x.f3.size ≤ 140737488351232) ∧ ((x.f4.size ≤ 140737488351232) ∧ ((True) ∧ (((Lit.int .u64 x.f6).wf = true) ∧ ((ok25 x.f7) ∧ (x.f8.length * 32 ≤ 140737488351232 ∧ ∀ e0 ∈ x.f8, ok42 e0))))))))
theorem opn28 {H : Type} {enc : TypeId × Value → H} : Open.Opn enc Try.prog 28 k28 ok28 := Open.opn_struct (fun p => ⟨p.1, p.2.1, p.2.2.1, p.2.2.2.1, p.2.2.2.2.1, p.2.2.2.2.2.1, p.2.2.2.2.2.2.1, p.2.2.2.2.2.2.2.1, p.2.2.2.2.2.2.2.2⟩) (fun _ => rfl) Try.underlying28 (by kernel_rfl) (Open.opnFs_cons (off := 0) (off' := 1) (tot := 10) rfl (by kernel_rfl) (Open.opn_int Try.underlying22) (Open.opnFs_cons (off := 1) (off' := 2) (tot := 10) rfl (by kernel_rfl) (Open.opn_int Try.underlying22) (Open.opnFs_cons (off := 2) (off' := 3) (tot := 10) rfl (by kernel_rfl) (Open.opn_int Try.underlying5) (Open.opnFs_cons (off := 3) (off' := 4) (tot := 10) rfl (by kernel_rfl) (Open.opn_string Try.underlying9) (Open.opnFs_cons (off := 4) (off' := 5) (tot := 10) rfl (by kernel_rfl) (Open.opn_string Try.underlying9) (Open.opnFs_cons (off := 5) (off' := 6) (tot := 10) rfl (by kernel_rfl) (Open.opn_bool Try.underlying4) (Open.opnFs_cons (off := 6) (off' := 7) (tot := 10) rfl (by kernel_rfl) (Open.opn_int Try.underlying22) (Open.opnFs_cons (off := 7) (off' := 9) (tot := 10) rfl (by kernel_rfl) opn25 (Open.opnFs_one (off := 9) (tot := 10) rfl (by kernel_rfl) (Open.opn_slice (B := 32) Try.underlying26 (by kernel_rfl) (by kernel_rfl) opn42))))))))))

def ok30 (x : S30) : Prop := ((Lit.int .u64 x.f0).wf = true) ∧ (((Lit.int .u64 x.f1).wf = true) ∧ ((Lit.int .i64 x.f2).wf = true))
theorem opn30 {H : Type} {enc : TypeId × Value → H} : Open.Opn enc Try.prog 30 k30 ok30 := Open.opn_struct (fun p => ⟨p.1, p.2.1, p.2.2⟩) (fun _ => rfl) Try.underlying30 (by kernel_rfl) (Open.opnFs_cons (off := 0) (off' := 1) (tot := 3) rfl (by kernel_rfl) (Open.opn_int Try.underlying22) (Open.opnFs_cons (off := 1) (off' := 2) (tot := 3) rfl (by kernel_rfl) (Open.opn_int Try.underlying22) (Open.opnFs_one (off := 2) (tot := 3) rfl (by kernel_rfl) (Open.opn_int Try.underlying3))))

/-! ### lockkeeperlaw16_MergeSizes: function 3 -/
mutual
def lockkeeperlaw16_MergeSizes.j0 : Nat → Bool → Int → Int → Int → ByteArray → ByteArray → Bool → Int → Int → List Int → List (S42) → Int → Int → Int → ByteArray → ByteArray → Bool → Int → Int → List Int → List (S42) → Int → Int → Int → Option (Bool)
  | 0, _, _, _, _, _, _, _, _, _, _, _, _, _, _, _, _, _, _, _, _, _, _, _, _ => none
  | k + 1, x19, x232000, x232001, x232002, x232003, x232004, x232005, x232006, x232007, x232008, x232009, x233000, x233001, x233002, x233003, x233004, x233005, x233006, x233007, x233008, x233009, x234000, x234001, x234002 => if x19 = true then ((lockkeeperlaw16_head.f k).bind fun t236 => (some t236)) else ((lockkeeperref10_Size.f k x232009).bind fun t237 => ((lockkeeperref10_Size.f k x233009).bind fun t238 => ((merge_Beside.f k x232000 x232001 x232002 x232003 x232004 x232005 x232006 x232007 x232008 x232009 x233000 x233001 x233002 x233003 x233004 x233005 x233006 x233007 x233008 x233009).bind fun t239 => ((merge_Under.f k x232000 x232001 x232002 x232003 x232004 x232005 x232006 x232007 x232008 x232009 x233000 x233001 x233002 x233003 x233004 x233005 x233006 x233007 x233008 x233009 (wrap64 (t237 + t238))).bind fun t240 => (if (t240 != t239) = true then (none) else ((merge_Under.f k x232000 x232001 x232002 x232003 x232004 x232005 x232006 x232007 x232008 x232009 x233000 x233001 x233002 x233003 x233004 x233005 x233006 x233007 x233008 x233009 (wrap64 ((wrap64 (t237 + t238)) - 1))).bind fun t241 => (if t241 = true then (none) else (if t239 = true then ((merge_Under.f k x232000 x232001 x232002 x232003 x232004 x232005 x232006 x232007 x232008 x232009 x233000 x233001 x233002 x233003 x233004 x233005 x233006 x233007 x233008 x233009 x234002).bind fun t242 => (lockkeeperlaw16_MergeSizes.j1 k t239 (t242 != (decide (x234002 ≥ (wrap64 (t237 + t238))))) x232000 x232001 x232002 x232003 x232004 x232005 x232006 x232007 x232008 x232009 x233000 x233001 x233002 x233003 x233004 x233005 x233006 x233007 x233008 x233009 x234000 x234001 x234002)) else (lockkeeperlaw16_MergeSizes.j1 k t239 false x232000 x232001 x232002 x232003 x232004 x232005 x232006 x232007 x232008 x232009 x233000 x233001 x233002 x233003 x233004 x233005 x233006 x233007 x233008 x233009 x234000 x234001 x234002)))))))))
def lockkeeperlaw16_MergeSizes.j1 : Nat → Bool → Bool → Int → Int → Int → ByteArray → ByteArray → Bool → Int → Int → List Int → List (S42) → Int → Int → Int → ByteArray → ByteArray → Bool → Int → Int → List Int → List (S42) → Int → Int → Int → Option (Bool)
  | 0, _, _, _, _, _, _, _, _, _, _, _, _, _, _, _, _, _, _, _, _, _, _, _, _, _ => none
  | k + 1, x8, x58, x232000, x232001, x232002, x232003, x232004, x232005, x232006, x232007, x232008, x232009, x233000, x233001, x233002, x233003, x233004, x233005, x233006, x233007, x233008, x233009, x234000, x234001, x234002 => if x58 = true then (none) else ((merge_Join.f k x232000 x232001 x232002 x232003 x232004 x232005 x232006 x232007 x232008 x232009 x233000 x233001 x233002 x233003 x233004 x233005 x233006 x233007 x233008 x233009 x234000 x234001).bind fun bt243 => (if bt243.2.2.2.2.2.2.2.2.2.2 = 0 then (if ([] : List (S42)).length + x232009.length < 4398046511104 then ((some (([] : List (S42)) ++ x232009 : List (S42))).bind fun y259 => (if y259.length + x233009.length < 4398046511104 then (if x8 = true then ((lockkeeperref10_Same.f k bt243.2.2.2.2.2.2.2.2.2.1 (y259 ++ x233009)).bind fun t265 => (if t265 = true then (if bt243.1 = x232000 then (if bt243.2.2.2.1.toList = x232003.toList then (if bt243.2.1 = x233001 then (if bt243.2.2.2.2.1.toList = x233004.toList then (if (bt243.2.2.2.2.2.1 == x233005) = true then (if bt243.2.2.1 = x232002 then (if bt243.2.2.2.2.2.2.1 = x234001 then ((lockkeeperlaw16_head.f k).bind fun t266 => (some t266)) else (none)) else (none)) else (none)) else (none)) else (none)) else (none)) else (none)) else (none))) else (none)) else (none))) else (none)) else ((lockkeeperlaw16_head.f k).bind fun t267 => (some t267))))
end
def lockkeeperlaw16_MergeSizes.f (k : Nat) (a0_0 : Int) (a0_1 : Int) (a0_2 : Int) (a0_3 : ByteArray) (a0_4 : ByteArray) (a0_5 : Bool) (a0_6 : Int) (a0_7 : Int) (l0_8 : List Int) (l0_9 : List (S42)) (a1_0 : Int) (a1_1 : Int) (a1_2 : Int) (a1_3 : ByteArray) (a1_4 : ByteArray) (a1_5 : Bool) (a1_6 : Int) (a1_7 : Int) (l1_8 : List Int) (l1_9 : List (S42)) (a2_0 : Int) (a2_1 : Int) (a2_2 : Int) : Option (Bool) := (lockkeeperref11_Small.f k a0_0 a0_1 a0_2 a0_3 a0_4 a0_5 a0_6 a0_7 l0_8 l0_9).bind fun t234 => (if t234 = true then ((lockkeeperref11_Small.f k a1_0 a1_1 a1_2 a1_3 a1_4 a1_5 a1_6 a1_7 l1_8 l1_9).bind fun t235 => (lockkeeperlaw16_MergeSizes.j0 k (!t235) a0_0 a0_1 a0_2 a0_3 a0_4 a0_5 a0_6 a0_7 l0_8 l0_9 a1_0 a1_1 a1_2 a1_3 a1_4 a1_5 a1_6 a1_7 l1_8 l1_9 a2_0 a2_1 a2_2)) else (lockkeeperlaw16_MergeSizes.j0 k true a0_0 a0_1 a0_2 a0_3 a0_4 a0_5 a0_6 a0_7 l0_8 l0_9 a1_0 a1_1 a1_2 a1_3 a1_4 a1_5 a1_6 a1_7 l1_8 l1_9 a2_0 a2_1 a2_2))
theorem lockkeeperlaw16_MergeSizes.mono_l : ∀ k, (∀ y0 y1 y2 y3 y4 y5 y6 y7 y8 y9 y10 y11 y12 y13 y14 y15 y16 y17 y18 y19 y20 y21 y22 y23, LeO (lockkeeperlaw16_MergeSizes.j0 k y0 y1 y2 y3 y4 y5 y6 y7 y8 y9 y10 y11 y12 y13 y14 y15 y16 y17 y18 y19 y20 y21 y22 y23) (lockkeeperlaw16_MergeSizes.j0 (k + 1) y0 y1 y2 y3 y4 y5 y6 y7 y8 y9 y10 y11 y12 y13 y14 y15 y16 y17 y18 y19 y20 y21 y22 y23)) ∧ (∀ y0 y1 y2 y3 y4 y5 y6 y7 y8 y9 y10 y11 y12 y13 y14 y15 y16 y17 y18 y19 y20 y21 y22 y23 y24, LeO (lockkeeperlaw16_MergeSizes.j1 k y0 y1 y2 y3 y4 y5 y6 y7 y8 y9 y10 y11 y12 y13 y14 y15 y16 y17 y18 y19 y20 y21 y22 y23 y24) (lockkeeperlaw16_MergeSizes.j1 (k + 1) y0 y1 y2 y3 y4 y5 y6 y7 y8 y9 y10 y11 y12 y13 y14 y15 y16 y17 y18 y19 y20 y21 y22 y23 y24))
  | 0 => ⟨fun _ _ _ _ _ _ _ _ _ _ _ _ _ _ _ _ _ _ _ _ _ _ _ _ r h => by simp [lockkeeperlaw16_MergeSizes.j0] at h, fun _ _ _ _ _ _ _ _ _ _ _ _ _ _ _ _ _ _ _ _ _ _ _ _ _ r h => by simp [lockkeeperlaw16_MergeSizes.j1] at h⟩
  | k + 1 => by
    obtain ⟨ih0, ih1⟩ := lockkeeperlaw16_MergeSizes.mono_l k
    refine ⟨?_, ?_⟩
    · intro y0 y1 y2 y3 y4 y5 y6 y7 y8 y9 y10 y11 y12 y13 y14 y15 y16 y17 y18 y19 y20 y21 y22 y23
      unfold lockkeeperlaw16_MergeSizes.j0
      repeat' first
      | (with_reducible exact ih0 _ _ _ _ _ _ _ _ _ _ _ _ _ _ _ _ _ _ _ _ _ _ _ _)
      | (with_reducible exact ih1 _ _ _ _ _ _ _ _ _ _ _ _ _ _ _ _ _ _ _ _ _ _ _ _ _)
      | (with_reducible exact lockkeeperlaw16_head.mono _)
      | (with_reducible exact lockkeeperref10_Same.mono _ _ _)
      | (with_reducible exact lockkeeperref10_Size.mono _ _)
      | (with_reducible exact lockkeeperref11_Small.mono _ _ _ _ _ _ _ _ _ _ _)
      | (with_reducible exact merge_Beside.mono _ _ _ _ _ _ _ _ _ _ _ _ _ _ _ _ _ _ _ _ _)
      | (with_reducible exact merge_Join.mono _ _ _ _ _ _ _ _ _ _ _ _ _ _ _ _ _ _ _ _ _ _ _)
      | (with_reducible exact merge_Under.mono _ _ _ _ _ _ _ _ _ _ _ _ _ _ _ _ _ _ _ _ _ _)
      | (with_reducible exact LeO.refl _)
      | (with_reducible exact LeO.none _)
      | (with_reducible refine LeO.ite ?_ ?_)
      | (with_reducible refine LeO.bind ?_ (fun _ => ?_))
      | exact ih0 _ _ _ _ _ _ _ _ _ _ _ _ _ _ _ _ _ _ _ _ _ _ _ _
      | exact ih1 _ _ _ _ _ _ _ _ _ _ _ _ _ _ _ _ _ _ _ _ _ _ _ _ _
      | exact lockkeeperlaw16_head.mono _
      | exact lockkeeperref10_Same.mono _ _ _
      | exact lockkeeperref10_Size.mono _ _
      | exact lockkeeperref11_Small.mono _ _ _ _ _ _ _ _ _ _ _
      | exact merge_Beside.mono _ _ _ _ _ _ _ _ _ _ _ _ _ _ _ _ _ _ _ _ _
      | exact merge_Join.mono _ _ _ _ _ _ _ _ _ _ _ _ _ _ _ _ _ _ _ _ _ _ _
      | exact merge_Under.mono _ _ _ _ _ _ _ _ _ _ _ _ _ _ _ _ _ _ _ _ _ _
      | exact LeO.none _
      | refine LeO.ite ?_ ?_
      | refine LeO.bind ?_ (fun _ => ?_)
    · intro y0 y1 y2 y3 y4 y5 y6 y7 y8 y9 y10 y11 y12 y13 y14 y15 y16 y17 y18 y19 y20 y21 y22 y23 y24
      unfold lockkeeperlaw16_MergeSizes.j1
      repeat' first
      | (with_reducible exact ih0 _ _ _ _ _ _ _ _ _ _ _ _ _ _ _ _ _ _ _ _ _ _ _ _)
      | (with_reducible exact ih1 _ _ _ _ _ _ _ _ _ _ _ _ _ _ _ _ _ _ _ _ _ _ _ _ _)
      | (with_reducible exact lockkeeperlaw16_head.mono _)
      | (with_reducible exact lockkeeperref10_Same.mono _ _ _)
      | (with_reducible exact lockkeeperref10_Size.mono _ _)
      | (with_reducible exact lockkeeperref11_Small.mono _ _ _ _ _ _ _ _ _ _ _)
      | (with_reducible exact merge_Beside.mono _ _ _ _ _ _ _ _ _ _ _ _ _ _ _ _ _ _ _ _ _)
      | (with_reducible exact merge_Join.mono _ _ _ _ _ _ _ _ _ _ _ _ _ _ _ _ _ _ _ _ _ _ _)
      | (with_reducible exact merge_Under.mono _ _ _ _ _ _ _ _ _ _ _ _ _ _ _ _ _ _ _ _ _ _)
      | (with_reducible exact LeO.refl _)
      | (with_reducible exact LeO.none _)
      | (with_reducible refine LeO.ite ?_ ?_)
      | (with_reducible refine LeO.bind ?_ (fun _ => ?_))
      | exact ih0 _ _ _ _ _ _ _ _ _ _ _ _ _ _ _ _ _ _ _ _ _ _ _ _
      | exact ih1 _ _ _ _ _ _ _ _ _ _ _ _ _ _ _ _ _ _ _ _ _ _ _ _ _
      | exact lockkeeperlaw16_head.mono _
      | exact lockkeeperref10_Same.mono _ _ _
      | exact lockkeeperref10_Size.mono _ _
      | exact lockkeeperref11_Small.mono _ _ _ _ _ _ _ _ _ _ _
      | exact merge_Beside.mono _ _ _ _ _ _ _ _ _ _ _ _ _ _ _ _ _ _ _ _ _
      | exact merge_Join.mono _ _ _ _ _ _ _ _ _ _ _ _ _ _ _ _ _ _ _ _ _ _ _
      | exact merge_Under.mono _ _ _ _ _ _ _ _ _ _ _ _ _ _ _ _ _ _ _ _ _ _
      | exact LeO.none _
      | refine LeO.ite ?_ ?_
      | refine LeO.bind ?_ (fun _ => ?_)
theorem lockkeeperlaw16_MergeSizes.mono : ∀ a0 a1 a2 a3 a4 a5 a6 a7 a8 a9 a10 a11 a12 a13 a14 a15 a16 a17 a18 a19 a20 a21 a22 k, LeO (lockkeeperlaw16_MergeSizes.f k a0 a1 a2 a3 a4 a5 a6 a7 a8 a9 a10 a11 a12 a13 a14 a15 a16 a17 a18 a19 a20 a21 a22) (lockkeeperlaw16_MergeSizes.f (k + 1) a0 a1 a2 a3 a4 a5 a6 a7 a8 a9 a10 a11 a12 a13 a14 a15 a16 a17 a18 a19 a20 a21 a22) := by
  intro a0 a1 a2 a3 a4 a5 a6 a7 a8 a9 a10 a11 a12 a13 a14 a15 a16 a17 a18 a19 a20 a21 a22 k
  obtain ⟨ih0, ih1⟩ := lockkeeperlaw16_MergeSizes.mono_l k
  unfold lockkeeperlaw16_MergeSizes.f
  repeat' first
      | (with_reducible exact ih0 _ _ _ _ _ _ _ _ _ _ _ _ _ _ _ _ _ _ _ _ _ _ _ _)
      | (with_reducible exact ih1 _ _ _ _ _ _ _ _ _ _ _ _ _ _ _ _ _ _ _ _ _ _ _ _ _)
      | (with_reducible exact lockkeeperlaw16_head.mono _)
      | (with_reducible exact lockkeeperref10_Same.mono _ _ _)
      | (with_reducible exact lockkeeperref10_Size.mono _ _)
      | (with_reducible exact lockkeeperref11_Small.mono _ _ _ _ _ _ _ _ _ _ _)
      | (with_reducible exact merge_Beside.mono _ _ _ _ _ _ _ _ _ _ _ _ _ _ _ _ _ _ _ _ _)
      | (with_reducible exact merge_Join.mono _ _ _ _ _ _ _ _ _ _ _ _ _ _ _ _ _ _ _ _ _ _ _)
      | (with_reducible exact merge_Under.mono _ _ _ _ _ _ _ _ _ _ _ _ _ _ _ _ _ _ _ _ _ _)
      | (with_reducible exact LeO.refl _)
      | (with_reducible exact LeO.none _)
      | (with_reducible refine LeO.ite ?_ ?_)
      | (with_reducible refine LeO.bind ?_ (fun _ => ?_))
      | exact ih0 _ _ _ _ _ _ _ _ _ _ _ _ _ _ _ _ _ _ _ _ _ _ _ _
      | exact ih1 _ _ _ _ _ _ _ _ _ _ _ _ _ _ _ _ _ _ _ _ _ _ _ _ _
      | exact lockkeeperlaw16_head.mono _
      | exact lockkeeperref10_Same.mono _ _ _
      | exact lockkeeperref10_Size.mono _ _
      | exact lockkeeperref11_Small.mono _ _ _ _ _ _ _ _ _ _ _
      | exact merge_Beside.mono _ _ _ _ _ _ _ _ _ _ _ _ _ _ _ _ _ _ _ _ _
      | exact merge_Join.mono _ _ _ _ _ _ _ _ _ _ _ _ _ _ _ _ _ _ _ _ _ _ _
      | exact merge_Under.mono _ _ _ _ _ _ _ _ _ _ _ _ _ _ _ _ _ _ _ _ _ _
      | exact LeO.none _
      | refine LeO.ite ?_ ?_
      | refine LeO.bind ?_ (fun _ => ?_)

end Go.Proofs.Ytmfaopjfdedheaa.A
