/- LsnsBytes's plain law: what Put and Get tell is the document's bytes and set; Get of Put is the set. -/
import Derived.Test.YtebmpoonkmcjfaaPlainB
import Derived.Test.YtebmpoonkmcjfaaBx5
namespace Go.Proofs.Ytebmpoonkmcjfaa.Pure
set_option linter.unusedVariables false
set_option linter.unusedSimpArgs false
open Go.RowKit Go.Proofs.Ytebmpoonkmcjfaa.B Go.Proofs.YtebmpoonkmcjfaaW.PrintWords Go.Proofs.YtebmpoonkmcjfaaW.PrintLast Go.Proofs.YtebmpoonkmcjfaaW.PrintMore

/-! ### Put -/
theorem wide_8 (k : Nat) (hk : 10 ≤ k) : octet_wide.f k 8 8 = some true := by
  obtain ⟨d, rfl⟩ : ∃ d, k = 10 + d := ⟨k - 10, by omega⟩
  induction d with
  | zero => kernel_rfl
  | succ d ih => exact octet_wide.mono _ _ _ _ (ih (by omega))
theorem wide_2 (k : Nat) (hk : 10 ≤ k) : octet_wide.f k 2 8 = some true := by
  obtain ⟨d, rfl⟩ : ∃ d, k = 10 + d := ⟨k - 10, by omega⟩
  induction d with
  | zero => kernel_rfl
  | succ d ih => exact octet_wide.mono _ _ _ _ (ih (by omega))
theorem shr_byte (x : Int) (i : Nat) (hi : i < 8) : shr .u64 x (wrap64 (8 * (i : Int))) % 256 = x / 256 ^ i % 256 := by
  unfold shr
  rw [w64 (by omega) (by omega)]
  have h : (2 : Int) ^ min (8 * (i : Int)).toNat IntKind.u64.bits = 256 ^ i := by
    obtain rfl | rfl | rfl | rfl | rfl | rfl | rfl | rfl : i = 0 ∨ i = 1 ∨ i = 2 ∨ i = 3 ∨ i = 4 ∨ i = 5 ∨ i = 6 ∨ i = 7 := by omega
    all_goals rfl
  rw [h]
theorem lay_l0 (x : Int) (p : List Int) (w : Nat) (hw : w ≤ 8) (hp : p.length < 140737488355328) : ∀ (d k i : Nat) (z : List Int), w - i = d → i ≤ w → z.length = w - i → d < k →
    octet_lay.l0 k (p ++ z ++ be i x) x w i = some (p ++ be w x) := by
  intro d
  induction d with
  | zero =>
    intro k i z hd hi hz hk
    obtain ⟨k, rfl⟩ : ∃ m, k = m + 1 := ⟨k - 1, by omega⟩
    obtain rfl : i = w := by omega
    obtain rfl : z = [] := List.length_eq_zero_iff.1 (by omega)
    simp only [octet_lay.l0]
    rw [if_neg (by omega), List.append_nil]
  | succ d ih =>
    intro k i z hd hi hz hk
    obtain ⟨k, rfl⟩ : ∃ m, k = m + 1 := ⟨k - 1, by omega⟩
    obtain ⟨y, t, rfl⟩ : ∃ y t, z = y ++ [t] := ⟨z.dropLast, z.getLast (by rintro rfl; simp at hz; omega), (List.dropLast_concat_getLast _).symm⟩
    have hl : (p ++ (y ++ [t]) ++ be i x).length = p.length + w := by
      simp only [List.length_append, be_length, List.length_singleton] at hz ⊢; omega
    have hy : y.length = w - i - 1 := by simp only [List.length_append, List.length_singleton] at hz; omega
    have e : wrap64 (wrap64 (((p ++ (y ++ [t]) ++ be i x).length : Int) - 1) - (i : Int)) = ((p.length + y.length : Nat) : Int) := by
      rw [hl, w64 (i := ((p.length + w : Nat) : Int) - 1) (by omega) (by omega), w64 (by omega) (by omega)]; omega
    simp only [octet_lay.l0]
    rw [if_pos (by omega), if_pos (by rw [w64 (by omega) (by omega)]; omega), e, if_pos (by omega), if_pos (by rw [hl]; omega), shr_byte x i (by omega), w64 (by omega) (by omega), Int.toNat_natCast, show (i : Int) + 1 = ((i + 1 : Nat) : Int) by omega]
    have e2 : (p ++ (y ++ [t]) ++ be i x).set (p.length + y.length) (x / 256 ^ i % 256) = p ++ y ++ be (i + 1) x := by
      rw [be_front, ← List.append_assoc, List.append_assoc (p ++ y), List.set_append_right _ _ (by rw [List.length_append]; omega), List.length_append, Nat.sub_self]
      rfl
    rw [e2]
    exact ih k (i + 1) y (by omega) (by omega) (by omega) (by omega)
theorem oput_eq (k : Nat) (l : List Int) (x : Int) (w : Nat) (hw : w = 8 ∨ w = 2) (hl : l.length < 100000000000000) (hk : 10 ≤ k) : octet_Put.f k l x w = some (l ++ be w x) := by
  have h1 : octet_wide.f k w 8 = some true := by
    rcases hw with rfl | rfl
    · exact wide_8 k hk
    · exact wide_2 k hk
  unfold octet_Put.f
  rw [h1]
  simp only [Option.bind_some, if_true]
  unfold octet_grown.f octet_lay.f
  rw [if_pos (by omega), if_pos (by omega), Int.toNat_natCast]
  simp only [Option.bind_some]
  have h := lay_l0 x l w (by omega) (by omega) w k 0 (List.replicate w 0) (by omega) (by omega) (by simp) (by omega)
  rw [be, List.append_nil, show ((0 : Nat) : Int) = 0 from rfl] at h
  rw [h]
  rfl
theorem put_l0 (l : List Int) (hl : l.length ≤ 1000) : ∀ (d k i : Nat) (p : List Int), l.length - i = d → i ≤ l.length → d + 10 < k → p.length ≤ 10 + 8 * i →
    lsns_Put.l0 k p l l.length i = some (p ++ (l.drop i).flatMap (be 8), 0) := by
  intro d
  induction d with
  | zero =>
    intro k i p hd hi hk hp
    obtain ⟨k, rfl⟩ : ∃ m, k = m + 1 := ⟨k - 1, by omega⟩
    obtain rfl : i = l.length := by omega
    simp only [lsns_Put.l0]
    rw [if_neg (by omega), List.drop_length, List.flatMap_nil, List.append_nil]
  | succ d ih =>
    intro k i p hd hi hk hp
    obtain ⟨k, rfl⟩ : ∃ m, k = m + 1 := ⟨k - 1, by omega⟩
    have ho := oput_eq k p (rd l i) 8 (.inl rfl) (by omega) (by omega)
    rw [show ((8 : Nat) : Int) = 8 from rfl] at ho
    simp only [lsns_Put.l0]
    rw [if_pos (by omega), if_pos (by omega), if_pos (by omega), ho, w64 (by omega) (by omega), show (i : Int) + 1 = ((i + 1 : Nat) : Int) by omega]
    simp only [Option.bind_some]
    rw [ih k (i + 1) _ (by omega) (by omega) (by omega) (by rw [List.length_append, be_length]; omega), drop_rd l i (by omega), List.flatMap_cons, List.append_assoc]
def put_ (low : Int) (l : List Int) : List Int × Int := if B.Good low l then (putB low l, 0) else ([], 40)
theorem put_eq (low : Int) (l : List Int) (k : Nat) (hn : l.length ≤ 1100) (hk : 1200 < k) : lsns_Put.f k low l = some (put_ low l) := by
  unfold lsns_Put.f put_
  rw [right_eq low l k (by omega) (by omega)]
  simp only [Option.bind_some, decide_eq_true_eq]
  by_cases hg : B.Good low l
  · have h1 := oput_eq k [] low 8 (.inl rfl) (by simp) (by omega)
    have h2 := oput_eq k (be 8 low) l.length 2 (.inr rfl) (by rw [be_length]; omega) (by omega)
    rw [List.nil_append, show ((8 : Nat) : Int) = 8 from rfl] at h1
    rw [show ((2 : Nat) : Int) = 2 from rfl] at h2
    rw [if_pos hg, if_pos hg, h1, wu64 (by omega) (by omega)]
    simp only [Option.bind_some]
    rw [h2]
    simp only [Option.bind_some]
    have h := put_l0 l hg.2 l.length k 0 (be 8 low ++ be 2 l.length) (by omega) (by omega) (by have := hg.2; omega) (by rw [List.length_append, be_length, be_length]; omega)
    rw [List.drop_zero] at h
    exact h
  · rw [if_neg hg, if_neg hg]
theorem rnum_l0 : ∀ (j k : Nat) (x : Int) (l : List Int), j ≤ l.length → l.length < 1000 → j < k → 0 ≤ x → x < 18446744073709551616 →
    lockkeeperref04_number.l0 k x l (((j : Nat) : Int) - 1) = some (be j x ++ l.drop j) := by
  intro j
  induction j with
  | zero =>
    intro k x l hj hl hk h0 h1
    obtain ⟨k, rfl⟩ : ∃ m, k = m + 1 := ⟨k - 1, by omega⟩
    simp only [lockkeeperref04_number.l0]
    rw [if_neg (by omega)]
    rfl
  | succ j ih =>
    intro k x l hj hl hk h0 h1
    obtain ⟨k, rfl⟩ : ∃ m, k = m + 1 := ⟨k - 1, by omega⟩
    have e : ((j + 1 : Nat) : Int) - 1 = (j : Int) := by omega
    simp only [lockkeeperref04_number.l0]
    rw [e, if_pos (by omega), if_pos (by omega), if_pos (by omega), w64 (by omega) (by omega), Int.tdiv_eq_ediv_of_nonneg h0, Int.tmod_eq_emod_of_nonneg h0, wu64 (by omega) (by omega), Int.emod_emod_of_dvd _ (Int.dvd_refl 256), Int.toNat_natCast]
    rw [ih k (x / 256) _ (by rw [List.length_set]; omega) (by rw [List.length_set]; omega) (by omega) (by omega) (by omega), be, List.append_assoc]
    congr 2
    rw [List.drop_eq_getElem_cons (by rw [List.length_set]; omega), List.getElem_set_self, List.drop_set_of_lt (by omega)]
    rfl
theorem rnum_eq (k : Nat) (x : Int) (w : Nat) (hw : w ≤ 8) (hk : 10 ≤ k) (h0 : 0 ≤ x) (h1 : x < 18446744073709551616) : lockkeeperref04_number.f k x w = some (be w x) := by
  unfold lockkeeperref04_number.f
  rw [if_pos (by omega), if_pos (by omega), w64 (by omega) (by omega), Int.toNat_natCast]
  have h := rnum_l0 w k x (List.replicate w 0) (by simp) (by simp; omega) (by omega) h0 h1
  rw [h]
  simp
theorem rput_l0 (low : Int) (l : List Int) (hl : l.length ≤ 1000) (hw : ∀ x ∈ l, 0 ≤ x ∧ x < 18446744073709551616) : ∀ (d k i : Nat) (p : List Int), l.length - i = d → i ≤ l.length → d + 10 < k → p.length ≤ 10 + 8 * i →
    lockkeeperref04_Put.l0 k p i low l = some (p ++ (l.drop i).flatMap (be 8), 0) := by
  intro d
  induction d with
  | zero =>
    intro k i p hd hi hk hp
    obtain ⟨k, rfl⟩ : ∃ m, k = m + 1 := ⟨k - 1, by omega⟩
    obtain rfl : i = l.length := by omega
    simp only [lockkeeperref04_Put.l0]
    rw [if_neg (by omega), List.drop_length, List.flatMap_nil, List.append_nil]
  | succ d ih =>
    intro k i p hd hi hk hp
    obtain ⟨k, rfl⟩ : ∃ m, k = m + 1 := ⟨k - 1, by omega⟩
    have hx := hw (rd l i) (by rw [rd_get l i (by omega)]; exact List.getElem_mem _)
    have ho := rnum_eq k (rd l i) 8 (by omega) (by omega) hx.1 hx.2
    rw [show ((8 : Nat) : Int) = 8 from rfl] at ho
    simp only [lockkeeperref04_Put.l0]
    rw [if_pos (by omega), if_pos (by omega), ho, w64 (by omega) (by omega), show (i : Int) + 1 = ((i + 1 : Nat) : Int) by omega]
    simp only [Option.bind_some]
    rw [if_pos (by rw [be_length]; omega), ih k (i + 1) _ (by omega) (by omega) (by omega) (by rw [List.length_append, be_length]; omega), drop_rd l i (by omega), List.flatMap_cons, List.append_assoc]
theorem rput_eq (low : Int) (l : List Int) (k : Nat) (hn : l.length ≤ 1100) (hk : 1200 < k) (h0 : 0 ≤ low ∧ low < 18446744073709551616) (hw : ∀ x ∈ l, 0 ≤ x ∧ x < 18446744073709551616) : lockkeeperref04_Put.f k low l = some (put_ low l) := by
  unfold lockkeeperref04_Put.f put_
  rw [rright_eq low l k (by omega) (by omega)]
  simp only [Option.bind_some, decide_eq_true_eq]
  by_cases hg : B.Good low l
  · have h1 := rnum_eq k low 8 (by omega) (by omega) h0.1 h0.2
    have h2 := rnum_eq k l.length 2 (by omega) (by omega) (by omega) (by omega)
    rw [show ((8 : Nat) : Int) = 8 from rfl] at h1
    rw [show ((2 : Nat) : Int) = 2 from rfl] at h2
    rw [if_pos hg, if_pos hg, h1, wu64 (by omega) (by omega)]
    simp only [Option.bind_some]
    rw [h2]
    simp only [Option.bind_some]
    rw [if_pos (by rw [be_length, be_length]; omega)]
    have h := rput_l0 low l hg.2 hw l.length k 0 (be 8 low ++ be 2 l.length) (by omega) (by omega) (by have := hg.2; omega) (by rw [List.length_append, be_length, be_length]; omega)
    rw [List.drop_zero] at h
    exact h
  · rw [if_neg hg, if_neg hg]

/-! ### Get -/
def get_ (l : List Int) : Int × List Int × Int × Int :=
  if l.length < 10 then (0, [], 0, 4)
  else if val ((l.take 10).drop 8) > 1000 then (0, [], 0, 40)
  else if (l.length : Int) < 10 + 8 * val ((l.take 10).drop 8) then (0, [], 0, 4)
  else if B.Good (val (l.take 8)) (inB l (val ((l.take 10).drop 8)).toNat) then (val (l.take 8), inB l (val ((l.take 10).drop 8)).toNat, 10 + 8 * val ((l.take 10).drop 8), 0)
  else (0, [], 0, 40)
theorem bt_nums {l : List Int} (hb : byt l) (j : Nat) (hj : j < l.length) : bt (strOfNums l) j = rd l j := by
  have hs : j < (strOfNums l).size := by rw [B.strOfNums_size]; exact hj
  unfold bt
  rw [Int.toNat_natCast, dif_pos hs, rd_get l j hj]
  have := hb l[j] (List.getElem_mem hj)
  have e : (strOfNums l)[j] = UInt8.ofNat l[j].toNat := by
    have h9 : ∀ (h : j < ((l.map fun n => UInt8.ofNat n.toNat).toArray).size), ((l.map fun n => UInt8.ofNat n.toNat).toArray)[j] = UInt8.ofNat l[j].toNat := fun h => by simp
    exact h9 _
  rw [e, UInt8.toNat_ofNat']
  omega
theorem extract_nums (l : List Int) (a b : Nat) : (strOfNums l).extract a b = strOfNums ((l.take b).drop a) := by
  apply ByteArray.ext
  unfold strOfNums
  rw [ByteArray.data_extract]
  simp [List.map_drop, List.map_take, List.drop_take]
theorem nx_eq (a b : Int) (h0 : 0 ≤ a) (h1 : a < 256 ^ 7) (h2 : 0 ≤ b) (h3 : b < 256) : nx a b = a * 256 + b := by
  unfold nx
  rw [wu64 (by omega) (by omega), wu64 (by omega) (by omega)]
  exact bits_join .u64 64 (by decide) (fun n h h' => wu64 h (by omega)) 8 (a * 256) b (by omega) (by omega) (by omega) h2 (by omega) (by omega)
theorem take_succ_rd (l : List Int) (j : Nat) (h : j < l.length) : l.take (j + 1) = l.take j ++ [rd l j] := by rw [List.take_succ_eq_append_getElem h, rd_get l j h]
theorem val_small {l : List Int} (hb : byt l) {m : Nat} (hm : l.length ≤ m) : 0 ≤ val l ∧ val l < 256 ^ m := by
  have h := val_range l.length l rfl hb
  have h2 : (256 : Nat) ^ l.length ≤ 256 ^ m := Nat.pow_le_pow_right (by omega) hm
  have h3 : (256 : Int) ^ l.length ≤ 256 ^ m := by
    have h4 := Int.ofNat_le.2 h2
    rw [Int.natCast_pow, Int.natCast_pow] at h4
    exact h4
  omega
theorem numOf_eq {l : List Int} (hb : byt l) : ∀ j : Nat, j ≤ l.length → j ≤ 8 → numOf (strOfNums l) 0 j = val (l.take j)
  | 0, _, _ => by simp [numOf, val]
  | j + 1, h, h8 => by
    rw [numOf, numOf_eq hb j (by omega) (by omega), bt_nums hb j h, take_succ_rd l j h, val_append]
    have h1 := val_small (byt_take hb j) (m := 7) (by rw [List.length_take]; omega)
    have h2 := hb (rd l j) (by rw [rd_get l j h]; exact List.getElem_mem _)
    exact nx_eq _ _ h1.1 h1.2 h2.1 h2.2
theorem rdN_eq {l : List Int} (hb : byt l) (p n : Nat) (hn : n ≤ 8) (h : p + n ≤ l.length) : rdN (strOfNums l) p false n = val ((l.drop p).take n) := by
  unfold rdN
  rw [if_neg (by rw [B.strOfNums_size]; simp; omega), Int.toNat_natCast, Int.toNat_natCast, B.strOfNums_size, extract_nums, extract_nums, List.take_length, List.drop_zero]
  rw [numOf_eq (byt_take (byt_drop hb p) n) n (by rw [List.length_take, List.length_drop]; omega) hn, List.take_take, Nat.min_self]
theorem worth_l0 {l : List Int} (hb : byt l) (h8 : l.length ≤ 8) : ∀ (d k i : Nat), l.length - i = d → i ≤ l.length → d < k → lockkeeperref04_worth.l0 k l (val (l.take i)) i = some (val l) := by
  intro d
  induction d with
  | zero =>
    intro k i hd hi hk
    obtain ⟨k, rfl⟩ : ∃ m, k = m + 1 := ⟨k - 1, by omega⟩
    obtain rfl : i = l.length := by omega
    simp only [lockkeeperref04_worth.l0]
    rw [if_neg (by omega), List.take_length]
  | succ d ih =>
    intro k i hd hi hk
    obtain ⟨k, rfl⟩ : ∃ m, k = m + 1 := ⟨k - 1, by omega⟩
    have h1 := val_small (byt_take hb i) (m := 7) (by rw [List.length_take]; omega)
    have h2 := hb (rd l i) (by rw [rd_get l i (by omega)]; exact List.getElem_mem _)
    simp only [lockkeeperref04_worth.l0]
    rw [if_pos (by omega), if_pos (by omega), wu64 (i := 256 * val (l.take i)) (by omega) (by omega), wu64 (i := rd l i) (by omega) (by omega), wu64 (by omega) (by omega), w64 (by omega) (by omega), show (i : Int) + 1 = ((i + 1 : Nat) : Int) by omega]
    have e : 256 * val (l.take i) + rd l i = val (l.take (i + 1)) := by rw [take_succ_rd l i (by omega), val_append]; omega
    rw [e]
    exact ih k (i + 1) (by omega) (by omega) (by omega)
theorem worth_eq {l : List Int} (hb : byt l) (h8 : l.length ≤ 8) (k : Nat) (hk : 10 ≤ k) : lockkeeperref04_worth.f k l = some (val l) := by
  have h := worth_l0 hb h8 l.length k 0 (by omega) (by omega) (by omega)
  exact h
theorem rget_l0 {l : List Int} (hb : byt l) (low : Int) (n : Nat) (hn : n ≤ 1000) (hl : 10 + 8 * n ≤ l.length) (hl2 : l.length < 140737488355328) : ∀ (d k i : Nat), n - i = d → i ≤ n → d + 1100 < k →
    lockkeeperref04_Get.l0 k l n i low (inB l i) = some (if B.Good low (inB l n) then (low, inB l n, 10 + 8 * (n : Int), 0) else (0, [], 0, 40)) := by
  have hlen : ∀ i, (inB l i).length = i := fun i => by unfold inB; simp
  intro d
  induction d with
  | zero =>
    intro k i hd hi hk
    obtain ⟨k, rfl⟩ : ∃ m, k = m + 1 := ⟨k - 1, by omega⟩
    obtain rfl : i = n := by omega
    simp only [lockkeeperref04_Get.l0]
    rw [if_neg (by omega), rright_eq low _ k (by rw [hlen]; omega) (by rw [hlen]; omega), w64 (i := 8 * (i : Int)) (by omega) (by omega), w64 (by omega) (by omega)]
    simp only [Option.bind_some, decide_eq_true_eq]
    by_cases hg : B.Good low (inB l i)
    · rw [if_pos hg, if_pos hg]
    · rw [if_neg hg, if_neg hg]
  | succ d ih =>
    intro k i hd hi hk
    obtain ⟨k, rfl⟩ : ∃ m, k = m + 1 := ⟨k - 1, by omega⟩
    have e1 : wrap64 (10 + wrap64 (8 * (i : Int))) = ((10 + 8 * i : Nat) : Int) := by rw [w64 (i := 8 * (i : Int)) (by omega) (by omega), w64 (by omega) (by omega)]; omega
    have e2 : wrap64 (18 + wrap64 (8 * (i : Int))) = ((18 + 8 * i : Nat) : Int) := by rw [w64 (i := 8 * (i : Int)) (by omega) (by omega), w64 (by omega) (by omega)]; omega
    have e3 : (l.take (18 + 8 * i)).drop (10 + 8 * i) = (l.drop (10 + 8 * i)).take 8 := by rw [List.drop_take, show 18 + 8 * i - (10 + 8 * i) = 8 by omega]
    simp only [lockkeeperref04_Get.l0]
    rw [if_pos (by omega), e1, e2, if_pos (by omega), if_pos (by omega), if_pos (by omega), Int.toNat_natCast, Int.toNat_natCast, e3, worth_eq (byt_take (byt_drop hb _) 8) (by rw [List.length_take]; omega) k (by omega)]
    simp only [Option.bind_some]
    rw [if_pos (by rw [hlen]; omega), w64 (by omega) (by omega), show (i : Int) + 1 = ((i + 1 : Nat) : Int) by omega]
    have e4 : inB l i ++ [val ((l.drop (10 + 8 * i)).take 8)] = inB l (i + 1) := by unfold inB; rw [List.range_succ, List.map_append]; rfl
    rw [e4]
    exact ih k (i + 1) (by omega) (by omega) (by omega)
theorem n_range {l : List Int} (hb : byt l) : 0 ≤ val ((l.take 10).drop 8) ∧ val ((l.take 10).drop 8) < 65536 := by
  have h := val_small (byt_drop (byt_take hb 10) 8) (m := 2) (by rw [List.length_drop, List.length_take]; omega)
  exact h
theorem rget_eq {l : List Int} (hb : byt l) (hl : l.length < 140737488355328) (k : Nat) (hk : 2200 < k) : lockkeeperref04_Get.f k l = some (get_ l) := by
  unfold lockkeeperref04_Get.f get_
  have hr := n_range hb
  by_cases h1 : l.length < 10
  · rw [if_pos (by omega), if_pos h1]
  · rw [if_neg (by omega), if_neg h1, if_pos (by omega), if_pos (by omega), worth_eq (byt_drop (byt_take hb 10) 8) (by rw [List.length_drop, List.length_take]; omega) k (by omega)]
    simp only [Option.bind_some]
    rw [w64 (by omega) (by omega)]
    by_cases h2 : val ((l.take 10).drop 8) > 1000
    · rw [if_pos h2, if_pos h2]
    · rw [if_neg h2, if_neg h2, w64 (i := 8 * _) (by omega) (by omega), w64 (by omega) (by omega)]
      by_cases h3 : (l.length : Int) < 10 + 8 * val ((l.take 10).drop 8)
      · rw [if_pos h3, if_pos h3]
      · rw [if_neg h3, if_neg h3, if_pos (by omega), worth_eq (byt_take hb 8) (by rw [List.length_take]; omega) k (by omega)]
        simp only [Option.bind_some]
        have h := rget_l0 hb (val (l.take 8)) (val ((l.take 10).drop 8)).toNat (by omega) (by omega) hl _ k 0 rfl (by omega) (by omega)
        rw [show ((val ((l.take 10).drop 8)).toNat : Int) = val ((l.take 10).drop 8) by omega] at h
        rw [show ([] : List Int) = inB l 0 from rfl]
        rw [show ((0 : Nat) : Int) = 0 from rfl] at h
        exact h
theorem get_eq {l : List Int} (hb : byt l) (hl : l.length < 140737488355328) (k : Nat) (hk : 2200 < k) : lsns_Get.f k l = some (get_ l) := by
  unfold lsns_Get.f get_
  have hr := n_range hb
  rw [if_pos ⟨hl, wide_8 k (by omega), wide_2 k (by omega)⟩]
  have hsz : (strOfNums l).size = l.length := B.strOfNums_size l
  by_cases h8 : l.length < 8
  · have e1 : rdL (strOfNums l) 0 false 8 = true := by unfold rdL; rw [hsz]; simp; omega
    have e2 : ∀ p, rdL (strOfNums l) p true 2 = true := fun p => by unfold rdL; rfl
    have e3 : ∀ p, rdN (strOfNums l) p true 2 = 0 := fun p => by unfold rdN; rw [if_pos (.inl rfl)]
    simp only [e1, e2, e3]
    rw [if_neg (by omega), if_pos trivial, if_pos (by omega)]
  · have e1 : rdL (strOfNums l) 0 false 8 = false := by unfold rdL; rw [hsz]; simp; omega
    have e2 : rdP (strOfNums l) 0 false 8 = 8 := by unfold rdP; rw [if_neg (by rw [hsz]; simp; omega)]; rfl
    simp only [e1, e2]
    by_cases h10 : l.length < 10
    · have e3 : rdL (strOfNums l) 8 false 2 = true := by unfold rdL; rw [hsz]; simp; omega
      have e4 : rdN (strOfNums l) 8 false 2 = 0 := by unfold rdN; rw [if_pos (.inr (by rw [hsz]; omega))]
      simp only [e3, e4]
      rw [if_neg (by omega), if_pos trivial, if_pos h10]
    · have e3 : rdL (strOfNums l) 8 false 2 = false := by unfold rdL; rw [hsz]; simp; omega
      have e4 : rdP (strOfNums l) 8 false 2 = 10 := by unfold rdP; rw [if_neg (by rw [hsz]; simp; omega)]; rfl
      have e5 : rdN (strOfNums l) 8 false 2 = val ((l.take 10).drop 8) := by
        have h := rdN_eq hb 8 2 (by omega) (by omega)
        rw [List.drop_take]
        exact h
      have e6 : rdN (strOfNums l) 0 false 8 = val (l.take 8) := by
        have h := rdN_eq hb 0 8 (by omega) (by omega)
        rw [List.drop_zero] at h
        exact h
      simp only [e3, e4, e5, e6]
      rw [if_neg (by omega), if_neg (by decide), if_neg h10]
      by_cases h2 : val ((l.take 10).drop 8) > 1000
      · rw [if_pos h2, if_pos h2]
      · rw [if_neg h2, if_neg h2, hsz]
        by_cases h3 : (l.length : Int) < 10 + 8 * val ((l.take 10).drop 8)
        · rw [if_pos (by omega), if_pos h3]
        · have e7 : getIn (strOfNums l) 10 (val ((l.take 10).drop 8)) = inB l (val ((l.take 10).drop 8)).toNat := by
            unfold getIn inB
            refine List.map_congr_left (fun i hi => ?_)
            rw [List.mem_range] at hi
            have h := rdN_eq hb (10 + 8 * i) 8 (by omega) (by omega)
            rw [← h]
            rfl
          rw [if_neg (by omega), if_neg h3, e7, right_eq _ _ k (by unfold inB; simp; omega) (by unfold inB; simp; omega)]
          simp only [Option.bind_some, decide_eq_true_eq]
          split
          · rfl
          · rfl
theorem get_put {low : Int} {l b : List Int} (hg : B.Good low l) (h0 : 0 ≤ low ∧ low < 18446744073709551616) (hw : ∀ x ∈ l, 0 ≤ x ∧ x < 18446744073709551616) : get_ (putB low l ++ b) = (low, l, ((putB low l).length : Int), 0) := by
  have hn := hg.2
  have e1 : val (((putB low l ++ b).take 10).drop 8) = (l.length : Int) := by rw [putB_n]; exact val_be 2 _ (by omega) (by omega)
  have e2 : val ((putB low l ++ b).take 8) = low := by rw [putB_low]; exact val_be 8 _ h0.1 (by omega)
  unfold get_
  rw [e1, e2, Int.toNat_natCast, putB_in low l b (fun x hx => ⟨(hw x hx).1, by have := (hw x hx).2; omega⟩), if_neg (by rw [List.length_append, putB_length]; omega), if_neg (by omega), if_neg (by rw [List.length_append, putB_length]; omega), if_pos hg, putB_length]
  rfl

/-! ### the law -/
theorem LsnsBytes : lockkeeperlaw04_LsnsBytes.Pure := by
  intro low l b h0 _ hl _ hb
  have hb' : byt b := fun x hx => by have := hb x hx; simp [Lit.wf, IntKind.min, IntKind.max, IntKind.signed, IntKind.bits] at this; omega
  have h0' : 0 ≤ low ∧ low < 18446744073709551616 := by simp [Lit.wf, IntKind.min, IntKind.max, IntKind.signed, IntKind.bits] at h0; omega
  have hw : ∀ x ∈ l, 0 ≤ x ∧ x < 18446744073709551616 := fun x hx => by have := hl x hx; simp [Lit.wf, IntKind.min, IntKind.max, IntKind.signed, IntKind.bits] at this; omega
  refine ⟨5000, ?_⟩
  generalize hk : 5000 = k
  obtain ⟨k, rfl⟩ : ∃ m, k = m + 1 := ⟨k - 1, by omega⟩
  unfold lockkeeperlaw04_LsnsBytes.f lockkeeperlaw04_great.f
  simp only [Option.bind_some, decide_eq_true_eq]
  by_cases h1 : l.length ≤ 1100
  · rw [if_neg (by omega)]
    by_cases h2 : b.length ≤ 20000
    · rw [decide_eq_false (by omega)]
      simp only [lockkeeperlaw04_LsnsBytes.j0]
      rw [if_neg (by simp), put_eq low l k h1 (by omega), rput_eq low l k h1 (by omega) h0' hw, get_eq hb' (by omega) k (by omega), rget_eq hb' (by omega) k (by omega), right_eq low l k (by omega) (by omega), head_eq k (by omega)]
      simp only [Option.bind_some, if_true]
      have hgl : (get_ b).2.1.length ≤ 1000 := by
        unfold get_
        split
        · simp
        · split
          · simp
          · split
            · simp
            · split
              · have := n_range hb'
                simp [inB]; omega
              · simp
      rw [rsame_eq _ _ _ _ k (by omega) (by omega), decide_eq_true ⟨rfl, rfl⟩]
      simp only [Option.bind_some, if_true, decide_eq_true_eq]
      by_cases hg : B.Good low l
      · have hp : put_ low l = (putB low l, 0) := if_pos hg
        rw [if_pos hg, hp]
        have hpl := putB_length low l
        have hbp : byt (putB low l ++ b) := byt_app (byt_app (byt_app (be_byt _ _) (be_byt _ _)) (byt_flat l)) hb'
        rw [if_pos (by simp; omega)]
        simp only [Option.bind_some, List.nil_append]
        rw [if_pos (by omega), get_eq hbp (by rw [List.length_append]; omega) k (by omega), get_put hg h0' hw]
        simp only [Option.bind_some, if_true]
        rw [rsame_eq _ _ _ _ k (by omega) (by omega), decide_eq_true ⟨rfl, rfl⟩]
        simp
      · rw [if_neg hg]
    · rw [decide_eq_true (by omega)]
      simp only [lockkeeperlaw04_LsnsBytes.j0]
      rw [if_pos trivial, head_eq k (by omega)]
      rfl
  · rw [if_pos (by omega)]
    simp only [lockkeeperlaw04_LsnsBytes.j0]
    rw [if_pos trivial, head_eq k (by omega)]
    rfl
end Go.Proofs.Ytebmpoonkmcjfaa.Pure
