/- Rows of strings of a slice's own; slices.Sort and slices.Compact at []string, told of them. -/
import Derived.Test.YtoggblomknemoaaStrtB
import Derived.Test.YtoggblomknemoaaStrtC
import Derived.Test.YtoggblomknemoaaStrtD
import Derived.Test.YtoggblomknemoaaStrtE
import Derived.Test.YtoggblomknemoaaWMore
import Derived.Sort.Row
import Derived.Sort.Grow
import Derived.Shelf.SlicesE.Compact
namespace Go.Proofs.Ytoggblomknemoaa
set_option linter.unusedVariables false
set_option linter.unusedSimpArgs false
section
open Go.Sort Go.RowKit Go.Proofs.YtoggblomknemoaaW Go.Proofs.YtoggblomknemoaaW.PrintWords Go.Proofs.YtoggblomknemoaaW.PrintLast Go.Proofs.YtoggblomknemoaaW.PrintMore
/-! ### rows of its own -/
theorem sown_opened {e : Nat} {w : World} {base : Nat} {ok : Nat → Prop} {v : Value} {xs : List ByteArray} (h : Kd.R Kd.string e w base ok v xs) :
    (v = .slice none 0 0 ∧ xs = []) ∨ ∃ g cap cur, v = .slice (some ⟨g, 0, none⟩) xs.length cap ∧ ok g ∧ base ≤ g ∧ w.heap[g]? = some (.cells cur e (0, 0)) ∧ xs.length ≤ cap ∧ cap ≤ maxLen ∧ cur.size = cap ∧ cur.toList.take xs.length = xs.map Value.string := by
  obtain ⟨hok, inner, ⟨hl, ho⟩, hr⟩ := h
  have e1 : Kd.string.sz = 1 := rfl
  have hin : inner = xs.map Value.string := by
    refine List.ext_getElem (by rw [hr.1, e1, List.length_map]; omega) (fun j h1 h2 => ?_)
    have h3 : j < xs.length := by rw [List.length_map] at h2; exact h2
    have h4 := hr.2 j xs[j] (List.getElem?_eq_getElem h3)
    rw [e1, Nat.mul_one, List.drop_eq_getElem_cons h1, List.take_succ_cons, List.take_zero] at h4
    have h5 : [inner[j]] = [Value.string xs[j]] := h4
    rw [List.getElem_map]
    exact (List.cons.inj h5).1
  rcases ho with ⟨rfl, h0⟩ | ⟨g, cap, cur, rfl, hb, hg, h1, h2, h3, h4⟩
  · exact .inl ⟨rfl, List.length_eq_zero_iff.1 h0⟩
  · rw [e1] at h3 h4
    exact .inr ⟨g, cap, cur, rfl, hok g rfl, hb, hg, h1, h2, by omega, by rw [← hin, ← h4, Nat.mul_one]⟩
theorem sown_closed {e : Nat} {w : World} {base : Nat} {ok : Nat → Prop} {g cap : Nat} {cur : Array Value} (xs : List ByteArray) (hok : ok g) (hb : base ≤ g) (hg : w.heap[g]? = some (.cells cur e (0, 0))) (h1 : xs.length ≤ cap) (h2 : cap ≤ maxLen) (h3 : cur.size = cap) (h4 : cur.toList.take xs.length = xs.map Value.string) :
    Kd.R Kd.string e w base ok (.slice (some ⟨g, 0, none⟩) xs.length cap) xs := by
  have e1 : Kd.string.sz = 1 := rfl
  refine ⟨fun j hj => ?_, xs.map Value.string, ⟨by rw [e1, List.length_map]; omega, .inr ⟨g, cap, cur, rfl, hb, hg, h1, h2, by rw [e1]; omega, by rw [e1, Nat.mul_one, h4]⟩⟩, by rw [e1, List.length_map]; omega, fun j p hp => ?_⟩
  · have : g = j := by simpa [Value.ownBlock] using hj
    rw [← this]; exact hok
  · obtain ⟨hj, rfl⟩ := List.getElem?_eq_some_iff.1 hp
    rw [e1, Nat.mul_one, List.drop_eq_getElem_cons (by rw [List.length_map]; exact hj), List.take_succ_cons, List.take_zero, List.getElem_map]
    exact rfl
theorem sown_holds {α : Type} [Inhabited α] {enc : α → Value} {e : Nat} {w : World} {g : Nat} {cur : Array Value} {xs : List α} (hg : w.heap[g]? = some (.cells cur e (0, 0))) (h1 : xs.length ≤ cur.size) (h4 : cur.toList.take xs.length = xs.map enc) : Holds enc w g 0 xs.toArray := by
  intro j hj
  have hj' : j < xs.length := by simpa using hj
  rw [Nat.zero_add]
  refine ⟨?_, blk_frozen hg j⟩
  have h5 : cur[j]? = some (enc xs[j]) := by
    have h6 : (cur.toList.take xs.length)[j]? = some (enc xs[j]) := by rw [h4, List.getElem?_map, List.getElem?_eq_getElem hj']; rfl
    rw [List.getElem?_take_of_lt hj'] at h6
    simpa using h6
  rw [blk_cell hg j, h5]
  congr 2
  simp [hj']
theorem sown_put {α : Type} [Inhabited α] {enc : α → Value} {e : Nat} {w : World} {g : Nat} {cur : Array Value} (hg : w.heap[g]? = some (.cells cur e (0, 0))) (n : Nat) (ys : List α) (h1 : ys.length ≤ cur.size) (os : Array Obj) :
    ∃ cur' : Array Value, (grow (putRow enc (Sort.ahead w n) g 0 ys.toArray) os).heap[g]? = some (.cells cur' e (0, 0)) ∧ cur'.size = cur.size ∧ cur'.toList.take ys.length = ys.map enc := by
  have hlt : g < w.heap.size := (Array.getElem?_eq_some_iff.1 hg).1
  refine ⟨putCells enc 0 ys.toArray cur, ?_, by simp [putCells], ?_⟩
  · show ((putRow enc (Sort.ahead w n) g 0 ys.toArray).heap ++ os)[g]? = _
    rw [Array.getElem?_append_left (by unfold putRow mapBlock; simp [Sort.ahead]; exact hlt)]
    unfold putRow mapBlock
    have hg2 : w.heap[g] = .cells cur e (0, 0) := by rw [Array.getElem?_eq_getElem hlt] at hg; exact Option.some.inj hg
    simp [Sort.ahead, hlt, Array.getElem_modify, hg2, onCells]
  · refine List.ext_getElem (by simp [putCells]; omega) (fun j h2 h3 => ?_)
    have hj : j < ys.length := by simpa using h3
    simp [putCells, hj]
theorem sput_size {α : Type} [Inhabited α] (enc : α → Value) (w : World) (g n : Nat) (ys : List α) (os : Array Obj) : w.heap.size ≤ (grow (putRow enc (Sort.ahead w n) g 0 ys.toArray) os).heap.size := by
  show _ ≤ ((putRow enc (Sort.ahead w n) g 0 ys.toArray).heap ++ os).size
  unfold putRow mapBlock
  simp [Sort.ahead]
theorem sput_other {α : Type} [Inhabited α] (enc : α → Value) (w : World) (g n : Nat) (ys : List α) (os : Array Obj) (j : Nat) (hj : j < w.heap.size) (hne : j ≠ g) : (grow (putRow enc (Sort.ahead w n) g 0 ys.toArray) os).heap[j]? = w.heap[j]? := by
  show ((putRow enc (Sort.ahead w n) g 0 ys.toArray).heap ++ os)[j]? = _
  rw [Array.getElem?_append_left (by unfold putRow mapBlock; simp [Sort.ahead]; exact hj)]
  unfold putRow mapBlock
  simp [Sort.ahead, Array.getElem?_modify, Ne.symm hne]
theorem sown_below {α : Type} [Inhabited α] {enc : α → Value} {w : World} {g n : Nat} {ys : List α} {os : Array Obj} {base : Nat} (hbase : base ≤ g) (hsz : base ≤ w.heap.size) : Below base w (grow (putRow enc (Sort.ahead w n) g 0 ys.toArray) os) :=
  ⟨rfl, rfl, rfl, sput_size enc w g n ys os, fun j hj => sput_other enc w g n ys os j (by omega) (by omega)⟩
theorem callees13t : Callees13ut where
  ins := SoS.insertionSort_str
  brk := SoS.breakPatterns_str
  piv := SoS.choosePivot_str
  par := SoS.partialInsertionSort_str
  peq := SoS.partitionEqualOrdered_string
  prt := SoS.partitionOrdered_string
theorem plain13t : Plain13s where
  swo := swo_ltStr
  ins := insertionSort_holds
  par := partialInsertionSort_holds
  prt := partition_holds _
  peq := partitionEqual_holds _
  pdq := pdq_sorts _
theorem pdqWalkT : pdqWalk_t := fun blk off cap a b limit d w hH hb hab hbd hsz hl hB =>
  SoS.pdqsort_string callees13t plain13t (b - a + 1) blk off cap a b limit d w (by omega) hH hb hab hbd hsz hl hB
def bl (b : ByteArray) : List UInt8 := b.data.toList
def lb (l : List UInt8) : ByteArray := ⟨l.toArray⟩
theorem lb_bl (b : ByteArray) : lb (bl b) = b := by unfold lb bl; rw [Array.toArray_toList]
theorem map_encStr (l : List (List UInt8)) : l.map encStr = (l.map lb).map Value.string := by
  rw [List.map_map]; rfl
theorem map_bl (l : List ByteArray) : (l.map bl).map lb = l := by
  rw [List.map_map]
  conv => rhs; rw [← List.map_id l]
  exact List.map_congr_left fun b _ => lb_bl b
/-- The strings, sorted by their bytes. -/
def sortB (l : List ByteArray) : List ByteArray := ((l.map bl).mergeSort fun x y => decide (x ≤ y)).map lb
theorem sortB_length (l : List ByteArray) : (sortB l).length = l.length := by unfold sortB; rw [List.length_map, List.length_mergeSort, List.length_map]
theorem SoS.sort (blk off cap : Nat) (zs : List (List UInt8)) (w : World) (hH : Holds encStr w blk off zs.toArray) (hblk : blk < w.heap.size) (hsz : zs.length < 4611686018427387904) :
    Calls Try.prog 43 #[.slice (some ⟨blk, off, none⟩) zs.length cap] w fun e w' => e = .returned (.tuple #[]) ∧ ∃ n os, w' = grow (putRow encStr (Sort.ahead w n) blk off (zs.mergeSort fun x y => decide (x ≤ y)).toArray) os := by
  have h := SoS.Sort_str pdqWalkT blk off cap zs.toArray w hH hblk (by simpa using hsz)
  rw [show Sort.sort ltStr zs.toArray = (zs.mergeSort fun x y => decide (x ≤ y)).toArray by rw [← sortStr zs]] at h
  simpa using h
theorem sortT_R (P0_ : Nat → Prop) (v : Value) (l0 : List ByteArray) (w0 w : World) (hB : Below w0.heap.size w0 w) (hl : l0.length < 4611686018427387904) (ho0 : Kd.R Kd.string 9 w w0.heap.size P0_ v l0) :
    Calls Try.prog 43 #[v] w fun e w' => e = .returned (.tuple #[]) ∧ Kd.R Kd.string 9 w' w0.heap.size P0_ v (sortB l0) ∧ Below w0.heap.size w0 w' := by
  rcases sown_opened ho0 with ⟨rfl, rfl⟩ | ⟨g, cap, cur, rfl, hok, hb, hg, h1, h2, h3, h4⟩
  · refine (SoS.Sort_str_nil none 0 w).mono ?_
    rintro e w' ⟨rfl, rfl⟩
    have e1 : sortB [] = [] := by unfold sortB; simp
    rw [e1]
    exact ⟨rfl, Kd.R_nil _ _ _ _ _, hB⟩
  · have hlt : g < w.heap.size := (Array.getElem?_eq_some_iff.1 hg).1
    have hz : (l0.map bl).map encStr = l0.map Value.string := by rw [map_encStr, map_bl]
    have hc := SoS.sort g 0 cap (l0.map bl) w (sown_holds hg (by rw [List.length_map]; omega) (by rw [List.length_map, hz]; exact h4)) hlt (by rw [List.length_map]; exact hl)
    rw [List.length_map] at hc
    refine hc.mono ?_
    rintro e w' ⟨rfl, n, os, rfl⟩
    obtain ⟨cur', hg', hs', ht'⟩ := sown_put (enc := encStr) hg n ((l0.map bl).mergeSort fun x y => decide (x ≤ y)) (by rw [List.length_mergeSort, List.length_map]; omega) os
    rw [map_encStr, List.length_mergeSort, List.length_map] at ht'
    have ht2 : cur'.toList.take (sortB l0).length = (sortB l0).map Value.string := by rw [sortB_length]; exact ht'
    have hr := sown_closed (base := w0.heap.size) (ok := P0_) (cap := cap) (sortB l0) hok hb hg' (by rw [sortB_length]; omega) h2 (by omega) ht2
    rw [sortB_length] at hr
    exact ⟨rfl, hr, ⟨hB.os, hB.tape, hB.output, Nat.le_trans hB.size (sput_size _ _ _ _ _ _), fun j hj => (sput_other _ _ _ _ _ _ j (Nat.lt_of_lt_of_le hj hB.size) (by omega)).trans (hB.block j hj)⟩⟩
end
section
open Go.Shelf Go.Lib Go.Sort
def compactT_ren : Go.Shelf.Ren := ⟨fun | 43 => 44 | n => n, fun | 22 => 36 | 23 => 9 | n => n, fun n => n⟩
theorem compactT : SlLaysE.n43 Try.prog compactT_ren where
  mixed := by kernel_rfl
  f43 := ⟨Try.f44.name, by kernel_rfl, Try.func44.trans (congrArg some (by kernel_rfl))⟩
  t0 := Try.underlying0
  a0 := Try.isAgg0
  z0 := Try.sizeOf0
  v0 := Try.zeroValue0
  t3 := Try.underlying3
  a3 := Try.isAgg3
  z3 := Try.sizeOf3
  v3 := Try.zeroValue3
  t4 := Try.underlying4
  a4 := Try.isAgg4
  z4 := Try.sizeOf4
  v4 := Try.zeroValue4
  t22 := Try.underlying36
  a22 := Try.isAgg36
  z22 := Try.sizeOf36
  v22 := Try.zeroValue36
  a23 := Try.isAgg9
  z23 := Try.sizeOf9
theorem bytes_dec (x y : ByteArray) : (x.toList == y.toList) = decide (x = y) := by
  rw [toList_data, toList_data]
  by_cases h : x = y
  · rw [h]; simp
  · rw [decide_eq_false h, beq_eq_false_iff_ne]
    exact fun e => h (ByteArray.ext (Array.toList_inj.1 e))
theorem eqlS (T : TypeId) : EqlAt Try.prog T Value.string (fun x y => decide (x = y)) := ⟨fun x y w => by rw [(EqlAt.string Try.prog T).1 x y w]; simp only [bytes_dec], (EqlAt.string Try.prog T).2⟩
theorem neqS (T : TypeId) : NeqAt Try.prog T Value.string (fun x y => decide (x = y)) := ⟨fun x y w => by rw [(NeqAt.string Try.prog T).1 x y w]; simp only [bytes_dec], (NeqAt.string Try.prog T).2⟩
theorem SoS.compact (blk off cap : Nat) (d : Array ByteArray) (w : World) (hH : Holds Value.string w blk off d) (hsz : d.size ≤ 9223372036854775807) (hcap : d.size ≤ cap) :
    Calls Try.prog 44 #[.slice (some ⟨blk, off, none⟩) d.size cap] w fun e w' => e = .returned (.slice (some ⟨blk, off, none⟩) (compactUpTo d d.size).length cap) ∧ ∃ q, w' = putRow Value.string (Sort.ahead w q) blk off (compactUpTo d d.size ++ List.replicate (d.size - (compactUpTo d d.size).length) (⟨#[]⟩ : ByteArray)).toArray :=
  AnyE.slices_Compact compactT Value.string (fun _ => rfl) (eqlS _) (neqS _) ⟨#[]⟩ Try.zeroValue9 blk off cap d w hH hsz hcap
end
open Go.Sort Go.RowKit Go.Proofs.YtoggblomknemoaaW Go.Proofs.YtoggblomknemoaaW.PrintWords Go.Proofs.YtoggblomknemoaaW.PrintLast Go.Proofs.YtoggblomknemoaaW.PrintMore
theorem SoS.compact_nil (w : World) : Calls Try.prog 44 #[.slice none 0 0] w fun e w' => e = .returned (.slice none 0 0) ∧ w' = w := by
  go_enter Try.func44, Try.ntmps44
  go_wp2
  go_ret
  exact ⟨rfl, rfl⟩
theorem compactB_length (l : List ByteArray) : (Lib.compact l).length ≤ l.length := by
  unfold Lib.compact Lib.compactUpTo
  rw [List.length_map]
  exact Nat.le_trans (List.length_filter_le _ _) (by simp)
theorem compactT_R {base : Nat} {ok : Nat → Prop} {v : Value} {l : List ByteArray} {w : World} (hl : l.length < 4611686018427387904) (hbs : base ≤ w.heap.size) (ho : Kd.R Kd.string 9 w base ok v l) :
    Calls Try.prog 44 #[v] w fun e w' => ∃ v', e = .returned v' ∧ Kd.R Kd.string 9 w' base ok v' (Lib.compact l) ∧ Below base w w' := by
  rcases sown_opened ho with ⟨rfl, rfl⟩ | ⟨g, cap, cur, rfl, hok, hb, hg, h1, h2, h3, h4⟩
  · refine (SoS.compact_nil w).mono ?_
    rintro e w' ⟨rfl, rfl⟩
    exact ⟨_, rfl, Kd.R_nil _ _ _ _ _, Below.refl _ _⟩
  · have hc := SoS.compact g 0 cap l.toArray w (sown_holds hg (by omega) h4) (by simp; omega) (by simpa using h1)
    rw [List.size_toArray, show Lib.compactUpTo l.toArray l.length = Lib.compact l from rfl] at hc
    refine hc.mono ?_
    rintro e w' ⟨rfl, q, hw⟩
    have hle := compactB_length l
    generalize Lib.compact l = m at hw hle
    obtain ⟨cur', hg', hs', ht'⟩ := sown_put (enc := Value.string) hg q (m ++ List.replicate (l.length - m.length) (⟨#[]⟩ : ByteArray)) (by simp; omega) #[]
    have e0 : grow (putRow Value.string (Sort.ahead w q) g 0 (m ++ List.replicate (l.length - m.length) (⟨#[]⟩ : ByteArray)).toArray) #[] = w' := by rw [hw, grow_empty]
    rw [e0] at hg'
    have hbb := sown_below (enc := Value.string) (n := q) (ys := m ++ List.replicate (l.length - m.length) (⟨#[]⟩ : ByteArray)) (os := #[]) hb hbs
    rw [e0] at hbb
    refine ⟨_, rfl, sown_closed m hok hb hg' (by omega) h2 (by omega) ?_, hbb⟩
    have h5 : (cur'.toList.take (m ++ List.replicate (l.length - m.length) (⟨#[]⟩ : ByteArray)).length).take m.length = m.map Value.string := by
      rw [ht', ← List.map_take, List.take_left']
      rfl
    rw [List.take_take, Nat.min_eq_left (by simp)] at h5
    exact h5
end Go.Proofs.Ytoggblomknemoaa
