/- The plain law behind ModelMeans: the map stays right, a call changes no key but its own, and what was put is told. Conditions: none beyond the row's own. -/
import Derived.Test.YtoggblomknemoaaMPh
namespace Go.Proofs.Ytoggblomknemoaa.Pure
open Go.Sort Go.RowKit Go.Proofs.Ytoggblomknemoaa.M Go.Proofs.YtoggblomknemoaaW.PrintWords Go.Proofs.YtoggblomknemoaaW.PrintLast
set_option linter.unusedVariables false
set_option linter.unusedSimpArgs false
theorem rfind_l0 {l : List S42} (h : RightP l) (hn : l.length < 4611686018427387904) (a : ByteArray) : ∀ (d k i : Nat), l.length - i = d → i ≤ l.length → 2 * d + l.length + 2 < k → (∀ t, t < i → (rd_T42 l (t : Int)).f0.toList ≠ a.toList) → lockkeeperref10_Find.l0 k l a (i : Int) = some ((look l a).getD ⟨#[]⟩, (look l a).isSome)
  | 0, k + 2, i, hd, hi, hk, hb => by
    rw [look_no fun t ht => hb t (by omega)]
    unfold lockkeeperref10_Find.l0
    rw [if_neg (by omega)]
    unfold lockkeeperref10_Find.j1
    rfl
  | d + 1, k + 2, i, hd, hi, hk, hb => by
    have hlt : i < l.length := by omega
    have e1 : wrap64 ((i : Int) + 1) = ((i + 1 : Nat) : Int) := by rw [w64 (by omega) (by omega)]; omega
    unfold lockkeeperref10_Find.l0
    rw [if_pos (by omega), rright_yes h (k + 1) hn (by omega)]
    simp only [Option.bind_some]
    unfold lockkeeperref10_Find.j1
    rw [if_pos rfl, if_pos (by omega), if_pos (by omega)]
    by_cases hq : (rd_T42 l (i : Int)).f0.toList = a.toList
    · rw [if_pos hq, look_at h hlt hq]; rfl
    · rw [if_neg hq, e1]
      refine rfind_l0 h hn a d k (i + 1) (by omega) (by omega) (by omega) fun t ht => ?_
      by_cases e : t = i
      · subst e; exact hq
      · exact hb t (by omega)
theorem rfind_eq {l : List S42} (h : RightP l) (k : Nat) (hn : l.length < 4611686018427387904) (hk : 3 * l.length + 2 < k) (a : ByteArray) : lockkeeperref10_Find.f k l a = some ((look l a).getD ⟨#[]⟩, (look l a).isSome) :=
  rfind_l0 h hn a l.length k 0 (by omega) (by omega) (by omega) (fun t ht => by omega)
theorem filter_point {n : List S42} (hn : RightP n) {key val : ByteArray} (hl : look n key = some val) : n.filter (fun y => inside key (key ++ (⟨#[0]⟩ : ByteArray)) true y.f0) = [⟨key, val⟩] := by
  obtain ⟨c, h1, h2, h3⟩ := (look_iff hn key val).1 hl
  have e : c = ⟨key, val⟩ := by cases c; simp only at h2 h3; rw [h2, h3]
  subst e
  have hf := (rightP_iff.1 hn).1 _ h1
  refine right_ext (rightP_iff.2 ⟨fun x hx => ?_, List.pairwise_singleton _ _⟩) (filter_right hn _) fun x => ?_
  · rw [List.mem_singleton] at hx; rw [hx]; exact hf
  · rw [List.mem_filter, inside_point, List.mem_singleton]
    constructor
    · rintro ⟨q1, q2⟩
      have r := (look_iff hn key x.f1).2 ⟨x, q1, q2, rfl⟩
      rw [hl] at r
      cases x
      simp only at q2 r
      rw [q2, Option.some.inj r]
    · rintro rfl
      exact ⟨h1, rfl⟩
theorem mj3 {n : List S42} (hn : RightP n) (k : Nat) (hnl : n.length < 4398046511103) (hk : n.length + 20 < k) (wh : Int) (key val fr tt : ByteArray) (en : Bool) (mo : Int) (hks : may key val = true) (hl : look n key = some val) :
    lockkeeperlaw30_ModelMeans.j3 k n false wh key val fr tt en mo = some true := by
  obtain ⟨k, rfl⟩ : ∃ j, k = j + 1 := ⟨k - 1, by omega⟩
  have hm := hks
  unfold may at hm
  simp only [Bool.and_eq_true, decide_eq_true_eq] at hm
  rw [lockkeeperlaw30_ModelMeans.j3, if_neg (by simp)]
  obtain ⟨n1, e1, -⟩ := do_eq hn k hnl (by omega) 2 key ⟨#[]⟩ ⟨#[]⟩ ⟨#[]⟩ false 0 (by decide)
  have s1 : step 2 key ⟨#[]⟩ (look n key) = (some val, 0, true, val) := by
    rw [hl]; unfold step
    rw [show may key ⟨#[]⟩ = true by unfold may; simp only [Bool.and_eq_true, decide_eq_true_eq]; exact ⟨hm.1, hm.2.1, by show 0 ≤ 2048; decide⟩, if_neg (by simp), if_pos rfl]; rfl
  rw [s1] at e1
  rw [e1, Option.bind_some]
  have ep : lockkeeperref03_Point.f key = some (key, key ++ (⟨#[0]⟩ : ByteArray), true) := by
    unfold lockkeeperref03_Point.f
    rw [if_neg (by omega), if_pos (by omega)]
  have e2 := do_scan hn k hnl (by omega) ⟨#[]⟩ ⟨#[]⟩ key (key ++ (⟨#[0]⟩ : ByteArray)) true 2
  have hs : spanB key (key ++ (⟨#[0]⟩ : ByteArray)) true = true := by
    have a := span_eq (0 + 2) (by omega) key (key ++ (⟨#[0]⟩ : ByteArray)) true
    rw [span_point key hm.2.1 0] at a
    exact (Option.some.inj a).symm
  have s2 : scan n key (key ++ (⟨#[0]⟩ : ByteArray)) true 2 = ([⟨key, val⟩], 0, false) := by
    unfold scan
    rw [if_pos ⟨hs, by decide⟩, filter_point hn hl]
    rfl
  rw [s2] at e2
  rw [ep, Option.bind_some, e2, Option.bind_some]
  have r0 : rd_T42 [⟨key, val⟩] 0 = ⟨key, val⟩ := rfl
  simp only [if_true, r0, List.length_singleton]
  rw [head_eq k (by omega)]
  rfl
theorem mj3t (n : List S42) (k : Nat) (hk : 20 < k) (wh : Int) (key val fr tt : ByteArray) (en : Bool) (mo : Int) :
    lockkeeperlaw30_ModelMeans.j3 k n true wh key val fr tt en mo = some true := by
  obtain ⟨k, rfl⟩ : ∃ j, k = j + 1 := ⟨k - 1, by omega⟩
  rw [lockkeeperlaw30_ModelMeans.j3, if_pos rfl, head_eq k (by omega)]
  rfl
theorem mj0t (l : List S42) (k : Nat) (hk : 20 < k) (a2 : ByteArray) (wh : Int) (key val fr tt : ByteArray) (en : Bool) (mo : Int) :
    lockkeeperlaw30_ModelMeans.j0 k l a2 true wh key val fr tt en mo = some true := by
  obtain ⟨k, rfl⟩ : ∃ j, k = j + 1 := ⟨k - 1, by omega⟩
  rw [lockkeeperlaw30_ModelMeans.j0, if_pos rfl, head_eq k (by omega)]
  rfl
/-- A call, told of its answer: an error leaves the map, a put tells its value. -/
theorem do_any {l : List S42} (h : RightP l) (k : Nat) (hn : l.length < 4398046511103) (hk : l.length + 1 < k) (wh : Int) (key val fr tt : ByteArray) (en : Bool) (mo : Int) :
    ∃ n e is v cs, model_Do.f k l wh key val fr tt en mo = some (n, 0, wh, e, 0, is, v, cs) ∧ RightP n ∧ n.length ≤ l.length + 1 ∧ (∀ a, a ≠ key → look n a = look l a) ∧ (e ≠ 0 → look n key = look l key) ∧ (e = 0 → (wh = 3 ∨ wh = 4) → may key val = true ∧ look n key = some val) := by
  by_cases h6 : wh = 6
  · subst h6
    exact ⟨l, _, _, _, _, do_scan h k hn hk key val fr tt en mo, h, by omega, fun _ _ => rfl, fun _ => rfl, fun _ q => by omega⟩
  · obtain ⟨n, e, h1, h2, h3, h4⟩ := do_eq h k hn hk wh key val fr tt en mo h6
    refine ⟨n, _, _, _, _, e, h1, h2, h4, fun q => ?_, fun q q2 => ?_⟩
    · rw [h3]
      revert q
      unfold step
      by_cases g0 : (2 ≤ wh ∧ wh ≤ 5) ∧ may key val = false
      · rw [if_pos g0]; exact fun _ => rfl
      rw [if_neg g0]
      repeat' split
      all_goals first | exact fun _ => rfl | exact fun q => absurd rfl q
    · rw [h3]
      revert q
      unfold step
      by_cases g0 : (2 ≤ wh ∧ wh ≤ 5) ∧ may key val = false
      · rw [if_pos g0]; intro q; cases q
      have hm : may key val = true := by
        cases hq : may key val
        · exact absurd ⟨by omega, hq⟩ g0
        · rfl
      rw [if_neg g0, if_neg (by omega)]
      rcases q2 with rfl | rfl
      · rw [if_pos rfl]
        split
        · intro q; cases q
        · exact fun _ => ⟨hm, rfl⟩
      · rw [if_neg (by decide), if_pos rfl]
        split
        · exact fun _ => ⟨hm, rfl⟩
        · intro q; cases q
theorem mj2 {n : List S42} (g1 : RightP n) (k : Nat) (hn : n.length < 1000000000001) (hk : n.length + 30 < k) (wh : Int) (key val fr tt : ByteArray) (en : Bool) (mo e : Int) (is : Bool) (v : ByteArray) (cs : List S42)
    (g5 : e = 0 → (wh = 3 ∨ wh = 4) → may key val = true ∧ look n key = some val) : lockkeeperlaw30_ModelMeans.j2 k n false wh key val fr tt en mo 0 wh e 0 is v cs = some true := by
  obtain ⟨k, rfl⟩ : ∃ j, k = j + 1 := ⟨k - 1, by omega⟩
  rw [lockkeeperlaw30_ModelMeans.j2, if_neg (by simp)]
  by_cases he : e = 0
  · rw [if_pos he]
    by_cases hw : wh = 3
    · rw [if_pos hw]
      obtain ⟨q1, q2⟩ := g5 he (.inl hw)
      exact mj3 g1 k (by omega) (by omega) wh key val fr tt en mo q1 q2
    · rw [if_neg hw]
      by_cases hw4 : wh = 4
      · obtain ⟨q1, q2⟩ := g5 he (.inr hw4)
        rw [show (wh != 4) = false by rw [hw4]; rfl]
        exact mj3 g1 k (by omega) (by omega) wh key val fr tt en mo q1 q2
      · rw [show (wh != 4) = true by simpa using hw4]
        exact mj3t n k (by omega) wh key val fr tt en mo
  · rw [if_neg he]
    exact mj3t n k (by omega) wh key val fr tt en mo
theorem mj1 {l n : List S42} (h : RightP l) (g1 : RightP n) (k : Nat) (hl : l.length < 1000000000000) (hn : n.length < 1000000000001) (hkl : 3 * l.length + 40 < k) (hk : 3 * n.length + 40 < k) (a2 : ByteArray) (wh : Int) (key val fr tt : ByteArray) (en : Bool) (mo e : Int) (is : Bool) (v : ByteArray) (cs : List S42)
    (g3 : ∀ a, a ≠ key → look n a = look l a) (g5 : e = 0 → (wh = 3 ∨ wh = 4) → may key val = true ∧ look n key = some val) : lockkeeperlaw30_ModelMeans.j1 k l a2 n false wh key val fr tt en mo 0 wh e 0 is v cs = some true := by
  obtain ⟨k, rfl⟩ : ∃ j, k = j + 1 := ⟨k - 1, by omega⟩
  rw [lockkeeperlaw30_ModelMeans.j1, if_neg (by simp), rfind_eq h k (by omega) (by omega), Option.bind_some, rfind_eq g1 k (by omega) (by omega), Option.bind_some]
  by_cases q : a2.toList = key.toList
  · rw [if_pos q]
    exact mj2 g1 k hn (by omega) wh key val fr tt en mo e is v cs g5
  · rw [if_neg q, g3 a2 (fun e => q (by rw [e])), if_pos rfl, bne_self_eq_false]
    exact mj2 g1 k hn (by omega) wh key val fr tt en mo e is v cs g5
theorem mj0 {l : List S42} (h : RightP l) (k : Nat) (hn : l.length < 1000000000000) (hk : 3 * l.length + 100 < k) (a2 : ByteArray) (wh : Int) (key val fr tt : ByteArray) (en : Bool) (mo : Int) :
    lockkeeperlaw30_ModelMeans.j0 k l a2 false wh key val fr tt en mo = some true := by
  obtain ⟨k, rfl⟩ : ∃ j, k = j + 1 := ⟨k - 1, by omega⟩
  obtain ⟨n, e, is, v, cs, ed, g1, g2, g3, g4, g5⟩ := do_any h k (by omega) (by omega) wh key val fr tt en mo
  rw [lockkeeperlaw30_ModelMeans.j0, if_neg (by simp), ed, Option.bind_some, rright_yes g1 k (by omega) (by omega), Option.bind_some, if_pos rfl]
  rcases diff_one h g1 k (by omega) (by omega) (by omega) (by omega) key (fun a ha => (g3 a ha).symm) with ⟨q, _⟩ | ⟨q, q2⟩
  · rw [q, Option.bind_some, if_neg (by decide), if_neg (by decide)]
    exact mj1 h g1 k hn (by omega) (by omega) (by omega) a2 wh key val fr tt en mo e is v cs g3 g5
  · have he : e = 0 := by
      by_cases he : e = 0
      · exact he
      · exact absurd (g4 he).symm q2
    subst he
    have r0 : rdOf ByteArray.empty [key] 0 = key := rfl
    rw [q, Option.bind_some, if_neg (by simp), if_pos (by simp), if_pos (by simp), r0, if_pos rfl]
    exact mj1 h g1 k hn (by omega) (by omega) (by omega) a2 wh key val fr tt en mo 0 is v cs g3 g5
theorem ModelMeans : lockkeeperlaw30_ModelMeans.Pure := by
  intro l wh key val fr tt en mo a2 hl hok h1 h2 h3 h4 h5 h6 h7
  refine ⟨3 * l.length + 200, ?_⟩
  unfold lockkeeperlaw30_ModelMeans.f
  obtain ⟨b, hb, hg⟩ := great_eq l (3 * l.length + 200) (by omega)
  rw [hb, Option.bind_some]
  cases b
  · rw [if_neg (by simp)]
    have hl40 := hg rfl
    unfold lockkeeperref30_Small.f
    rw [Option.bind_some]
    split
    · obtain ⟨r, hr, hri⟩ := rright_eq l (3 * l.length + 200) (by omega) (by omega)
      rw [hr, Option.bind_some]
      cases r
      · rw [if_neg (by simp)]
        exact mj0t l _ (by omega) a2 wh key val fr tt en mo
      · rw [if_pos rfl]
        cases decide ((a2.size : Int) > 600)
        · exact mj0 (hri.1 rfl) _ (by omega) (by omega) a2 wh key val fr tt en mo
        · exact mj0t l _ (by omega) a2 wh key val fr tt en mo
    · exact mj0t l _ (by omega) a2 wh key val fr tt en mo
  · rw [if_pos rfl]
    exact mj0t l _ (by omega) a2 wh key val fr tt en mo
end Go.Proofs.Ytoggblomknemoaa.Pure
