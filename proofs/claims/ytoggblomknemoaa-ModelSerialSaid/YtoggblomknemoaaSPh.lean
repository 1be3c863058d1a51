/- Plain words of the model's law: the document's head. -/
import Derived.Test.YtoggblomknemoaaSPm
namespace Go.Proofs.Ytoggblomknemoaa.Pure
open Go.Sort Go.RowKit Go.Proofs.Ytoggblomknemoaa.S Go.Proofs.YtoggblomknemoaaW.PrintWords Go.Proofs.YtoggblomknemoaaW.PrintLast
set_option linter.unusedVariables false
set_option linter.unusedSimpArgs false
theorem right_look {l n : List S42} (hl : RightP l) (hn : RightP n) (h : ∀ a, look n a = look l a) : n = l := by
  refine right_ext hl hn fun x => ?_
  have q : ∀ {l n : List S42}, RightP l → RightP n → (∀ a, look n a = look l a) → x ∈ n → x ∈ l := fun {l n} hl hn h q => by
    have r := (look_iff hn x.f0 x.f1).2 ⟨x, q, rfl, rfl⟩
    rw [h] at r
    obtain ⟨c, h1, h2, h3⟩ := (look_iff hl x.f0 x.f1).1 r
    have e : c = x := by cases c; cases x; simp only at h2 h3; rw [h2, h3]
    rw [← e]; exact h1
  exact ⟨q hl hn h, q hn hl fun a => (h a).symm⟩
theorem look_cons (c : S42) (t : List S42) (a : ByteArray) : look (c :: t) a = if c.f0 = a then some c.f1 else look t a := by
  unfold look
  by_cases h : c.f0 = a
  · rw [if_pos h, List.find?_cons_of_pos (by rw [h]; simp)]; rfl
  · rw [if_neg h, List.find?_cons_of_neg (by simp only [beq_iff_eq]; exact fun q => h (tl_inj q))]
theorem look_nil (a : ByteArray) : look [] a = none := rfl
theorem tl1 (a : UInt8) : (⟨#[a]⟩ : ByteArray).toList = [a] := by rw [Go.Lib.toList_data]
theorem tl0 : (⟨#[]⟩ : ByteArray).toList = [] := by rw [Go.Lib.toList_data]
theorem ne1 {a b : UInt8} (h : a ≠ b) : (⟨#[a]⟩ : ByteArray) ≠ ⟨#[b]⟩ := fun q => by
  have e := congrArg ByteArray.toList q
  rw [tl1, tl1] at e
  exact h (List.cons.inj e).1
def hl : List S42 := [(⟨(⟨#[97]⟩ : ByteArray), (⟨#[49]⟩ : ByteArray)⟩ : S42), (⟨(⟨#[99]⟩ : ByteArray), (⟨#[51]⟩ : ByteArray)⟩ : S42)]
def hm : List S42 := [(⟨(⟨#[97]⟩ : ByteArray), (⟨#[50]⟩ : ByteArray)⟩ : S42), (⟨(⟨#[98]⟩ : ByteArray), (⟨#[49]⟩ : ByteArray)⟩ : S42), (⟨(⟨#[99]⟩ : ByteArray), (⟨#[51]⟩ : ByteArray)⟩ : S42)]
def hb : List S42 := [(⟨(⟨#[97]⟩ : ByteArray), (⟨#[49]⟩ : ByteArray)⟩ : S42), (⟨(⟨#[98]⟩ : ByteArray), (⟨#[50]⟩ : ByteArray)⟩ : S42), (⟨(⟨#[99]⟩ : ByteArray), (⟨#[51]⟩ : ByteArray)⟩ : S42)]
theorem fit1 (a b : UInt8) : fits ⟨⟨#[a]⟩, ⟨#[b]⟩⟩ := by
  constructor
  · show 1 ≤ 513
    decide
  · show 1 ≤ 2048
    decide
theorem lt1 {a b : UInt8} (h : a < b) : ([a] : List UInt8) < [b] := List.cons_lt_cons_iff.2 (.inl h)
theorem right2 {a b x y : UInt8} (h : a < b) : RightP [⟨⟨#[a]⟩, ⟨#[x]⟩⟩, ⟨⟨#[b]⟩, ⟨#[y]⟩⟩] := by
  refine rightP_iff.2 ⟨fun c hc => ?_, ?_⟩
  · simp only [List.mem_cons, List.not_mem_nil, or_false] at hc
    rcases hc with rfl | rfl <;> exact fit1 _ _
  · simp only [List.pairwise_cons, List.mem_cons, List.not_mem_nil, or_false, forall_eq, tl1, false_imp_iff, implies_true, List.Pairwise.nil, and_true]
    exact lt1 h
theorem right3 {a b c x y z : UInt8} (h : a < b) (h2 : b < c) : RightP [⟨⟨#[a]⟩, ⟨#[x]⟩⟩, ⟨⟨#[b]⟩, ⟨#[y]⟩⟩, ⟨⟨#[c]⟩, ⟨#[z]⟩⟩] := by
  refine rightP_iff.2 ⟨fun c hc => ?_, ?_⟩
  · simp only [List.mem_cons, List.not_mem_nil, or_false] at hc
    rcases hc with rfl | rfl | rfl <;> exact fit1 _ _
  · simp only [List.pairwise_cons, List.mem_cons, List.not_mem_nil, or_false, forall_eq_or_imp, forall_eq, tl1, false_imp_iff, implies_true, List.Pairwise.nil, and_true]
    exact ⟨⟨lt1 h, lt_tr (lt1 h) (lt1 h2)⟩, lt1 h2⟩
theorem hl_right : RightP hl := right2 (by decide)
theorem hm_right : RightP hm := right3 (by decide) (by decide)
theorem hb_right : RightP hb := right3 (by decide) (by decide)
theorem hl_a : look hl ⟨#[97]⟩ = some ⟨#[49]⟩ := by unfold hl; rw [look_cons, if_pos rfl]
theorem hl_b : look hl ⟨#[98]⟩ = none := by unfold hl; rw [look_cons, if_neg (ne1 (by decide)), look_cons, if_neg (ne1 (by decide))]; rfl
theorem hl_c : look hl ⟨#[99]⟩ = some ⟨#[51]⟩ := by unfold hl; rw [look_cons, if_neg (ne1 (by decide)), look_cons, if_pos rfl]
theorem hm_a : look hm ⟨#[97]⟩ = some ⟨#[50]⟩ := by unfold hm; rw [look_cons, if_pos rfl]
theorem hm_b : look hm ⟨#[98]⟩ = some ⟨#[49]⟩ := by unfold hm; rw [look_cons, if_neg (ne1 (by decide)), look_cons, if_pos rfl]
theorem hm_c : look hm ⟨#[99]⟩ = some ⟨#[51]⟩ := by unfold hm; rw [look_cons, if_neg (ne1 (by decide)), look_cons, if_neg (ne1 (by decide)), look_cons, if_pos rfl]
theorem so1 {a b : UInt8} (h : a ≠ b) : (some (⟨#[a]⟩ : ByteArray)) ≠ some ⟨#[b]⟩ := fun q => ne1 h (Option.some.inj q)
theorem may1 (a : UInt8) (v : ByteArray) (h : v.size ≤ 2048) : may ⟨#[a]⟩ v = true := by
  unfold may
  rw [tl1, decide_eq_true h, decide_eq_true (show (⟨#[a]⟩ : ByteArray).size ≤ 512 by show 1 ≤ 512; decide), decide_eq_true (by simp)]
  rfl
theorem hdiff (k : Nat) (hk : 10 < k) : model_Diff.f k hl hm = some [⟨#[97]⟩, ⟨#[98]⟩] := by
  have e1 : hl.length = 2 := rfl
  have e2 : hm.length = 3 := rfl
  rw [diff_eq hl_right hm_right k (by omega) (by omega) (by omega) (by omega)]
  have e : ((hl ++ hm).filter (fun c => decide (look hl c.f0 ≠ look hm c.f0))).map (·.f0) = [⟨#[97]⟩, ⟨#[97]⟩, ⟨#[98]⟩] := by
    have d1 : decide (look hl ⟨#[97]⟩ ≠ look hm ⟨#[97]⟩) = true := decide_eq_true (by rw [hl_a, hm_a]; exact so1 (by decide))
    have d2 : decide (look hl ⟨#[98]⟩ ≠ look hm ⟨#[98]⟩) = true := decide_eq_true (by rw [hl_b, hm_b]; simp)
    have d3 : decide (look hl ⟨#[99]⟩ ≠ look hm ⟨#[99]⟩) = false := decide_eq_false (by rw [hl_c, hm_c]; simp)
    have eq : hl ++ hm = [⟨⟨#[97]⟩, ⟨#[49]⟩⟩, ⟨⟨#[99]⟩, ⟨#[51]⟩⟩, ⟨⟨#[97]⟩, ⟨#[50]⟩⟩, ⟨⟨#[98]⟩, ⟨#[49]⟩⟩, ⟨⟨#[99]⟩, ⟨#[51]⟩⟩] := rfl
    rw [eq]
    simp only [List.filter_cons, d1, d2, d3]
    rfl
  rw [e]
  have es : sortB [⟨#[97]⟩, ⟨#[97]⟩, ⟨#[98]⟩] = [⟨#[97]⟩, ⟨#[97]⟩, ⟨#[98]⟩] := by
    unfold sortB
    rw [List.mergeSort_of_pairwise]
    · simp only [List.map_map, List.map_cons, List.map_nil, Function.comp, lb_bl]
    · have b1 : ∀ a : UInt8, bl ⟨#[a]⟩ = [a] := fun a => by
        first | exact tl1 a | (unfold bl; exact tl1 a) | rfl
      simp only [List.map_cons, List.map_nil, b1]
      decide
  rw [es]
  have ec : Go.Lib.compact [(⟨#[97]⟩ : ByteArray), ⟨#[97]⟩, ⟨#[98]⟩] = [⟨#[97]⟩, ⟨#[98]⟩] := by
    decide +kernel
  rw [ec]
theorem hinside (x : ByteArray) : inside ⟨#[]⟩ ⟨#[]⟩ false x = true := by
  unfold inside
  rw [tl0, Bool.false_and, Bool.not_false, Bool.and_true, Bool.not_eq_true', ← Bool.not_eq_true, ← tl0, lss_iff, tl0]
  simp
theorem head_eq (k : Nat) (hk : 10 < k) : lockkeeperlaw30_head.f k = some true := by
  have e1 : hl.length = 2 := rfl
  have ef : List.filter (fun y => inside ⟨#[]⟩ ⟨#[]⟩ false y.f0) hl = hl := List.filter_eq_self.2 fun c _ => hinside _
  unfold lockkeeperlaw30_head.f
  show (some hl).bind _ = _
  rw [Option.bind_some]
  obtain ⟨na, ea, -⟩ := do_eq hl_right k (by omega) (by omega) 2 ⟨#[97]⟩ ⟨#[]⟩ ⟨#[]⟩ ⟨#[]⟩ false 0 (by decide)
  obtain ⟨nb, eb, -⟩ := do_eq hl_right k (by omega) (by omega) 3 ⟨#[97]⟩ ⟨#[50]⟩ ⟨#[]⟩ ⟨#[]⟩ false 0 (by decide)
  obtain ⟨nc, ec, hc1, hc2, hc3, hc4⟩ := do_eq hl_right k (by omega) (by omega) 3 ⟨#[98]⟩ ⟨#[50]⟩ ⟨#[]⟩ ⟨#[]⟩ false 0 (by decide)
  obtain ⟨ne, ee, -⟩ := do_eq hl_right k (by omega) (by omega) 7 ⟨#[]⟩ ⟨#[]⟩ ⟨#[]⟩ ⟨#[]⟩ false 0 (by decide)
  have sa : step 2 ⟨#[97]⟩ ⟨#[]⟩ (look hl ⟨#[97]⟩) = (some ⟨#[49]⟩, 0, true, ⟨#[49]⟩) := by
    rw [hl_a]; unfold step; rw [may1 _ _ (by decide), if_neg (by simp), if_pos rfl]; rfl
  have sb : step 3 ⟨#[97]⟩ ⟨#[50]⟩ (look hl ⟨#[97]⟩) = (some ⟨#[49]⟩, 8, false, ⟨#[]⟩) := by
    rw [hl_a]; unfold step; rw [may1 _ _ (by decide), if_neg (by simp), if_neg (by decide), if_pos rfl]; rfl
  have sc : step 3 ⟨#[98]⟩ ⟨#[50]⟩ (look hl ⟨#[98]⟩) = (some ⟨#[50]⟩, 0, false, ⟨#[]⟩) := by
    rw [hl_b]; unfold step; rw [may1 _ _ (by decide), if_neg (by simp), if_neg (by decide), if_pos rfl, if_neg (by simp)]
  have se : step 7 ⟨#[]⟩ ⟨#[]⟩ (look hl ⟨#[]⟩) = (look hl ⟨#[]⟩, 2, false, ⟨#[]⟩) := by
    unfold step; rw [if_neg (by omega), if_neg (by decide), if_neg (by decide), if_neg (by decide), if_neg (by decide)]
  rw [sa] at ea
  rw [sb] at eb
  rw [sc] at ec hc3
  rw [se] at ee
  have enc : nc = hb := by
    refine right_look hb_right hc1 fun a => ?_
    by_cases q : a = ⟨#[98]⟩
    · subst q
      rw [hc3]; unfold hb
      rw [look_cons, if_neg (ne1 (by decide)), look_cons, if_pos rfl]
    · rw [hc4 a q]; unfold hl hb
      rw [look_cons, look_cons, look_cons, look_cons, look_cons]
      rw [if_neg (c := (⟨#[98]⟩ : ByteArray) = a) (fun e => q e.symm)]
  subst enc
  have esc : scan hl ⟨#[]⟩ ⟨#[]⟩ false 1 = ([⟨⟨#[97]⟩, ⟨#[49]⟩⟩], 0, true) := by
    have hs : spanB ⟨#[]⟩ ⟨#[]⟩ false = true := by
      unfold spanB
      rw [tl0]; decide
    unfold scan
    rw [if_pos ⟨hs, by decide⟩, ef]
    rfl
  have ed := do_scan hl_right k (by omega) (by omega) ⟨#[]⟩ ⟨#[]⟩ ⟨#[]⟩ ⟨#[]⟩ false 1
  rw [esc] at ed
  have eh : model_Diff.f k hl [(⟨(⟨#[97]⟩ : ByteArray), (⟨#[50]⟩ : ByteArray)⟩ : S42), (⟨(⟨#[98]⟩ : ByteArray), (⟨#[49]⟩ : ByteArray)⟩ : S42), (⟨(⟨#[99]⟩ : ByteArray), (⟨#[51]⟩ : ByteArray)⟩ : S42)] = some [⟨#[97]⟩, ⟨#[98]⟩] := hdiff k hk
  rw [ea, Option.bind_some, eb, Option.bind_some, ec, Option.bind_some, ed, Option.bind_some, eh, Option.bind_some, ee, Option.bind_some]
  have b1 : (rd_T42 hb 1).f0.toList = [98] := tl1 98
  have r0 : (rdOf ByteArray.empty [(⟨#[97]⟩ : ByteArray), ⟨#[98]⟩] 0).toList = [97] := tl1 97
  have r1 : (rdOf ByteArray.empty [(⟨#[97]⟩ : ByteArray), ⟨#[98]⟩] 1).toList = [98] := tl1 98
  simp only [tl1, b1, r0, r1, if_true]
  rfl
end Go.Proofs.Ytoggblomknemoaa.Pure
