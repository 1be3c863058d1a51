-- PRINTED by print.py (a twelfth state) out of the translation. Not trusted: Lean checks it.
import Derived.Test.YtmfaopjfdedheaaGreatSh
import Derived.Test.YtmfaopjfdedheaaGreatUx0
import Derived.Test.YtmfaopjfdedheaaGreatUx2
import Derived.Test.YtmfaopjfdedheaaGreatUx4
import Derived.Test.YtmfaopjfdedheaaGreatUx5
namespace Go.Proofs.YtmfaopjfdedheaaGreat.U
open Go.RowKit Go.Proofs.YtmfaopjfdedheaaGreatW Go.Proofs.YtmfaopjfdedheaaGreatW.PrintWords Go.Proofs.YtmfaopjfdedheaaGreatW.PrintLast Go.Proofs.YtmfaopjfdedheaaGreatW.PrintMore
attribute [local go_sem] GpMore.bytes_le max2_int min2_int max_two min_two max_three min_three max_four min_four   -- for this text's walks alone
set_option linter.unusedVariables false
set_option linter.unusedSimpArgs false

/-! ### merge_Join: function 10 -/
theorem blk_new_at {w : World} {o : Obj} {b : Nat} (h : b = w.heap.size) : (w.alloc o).heap[b]? = some o := h ▸ blk_new w o
/-- A call of a function value that is bound to its first arguments, in a plain region. -/
theorem goesF_ {P : Program} {ops : Array Oper} {Q : Exit → Act → World → Prop} {rest : List Oper} {oi : Oper} {a : Act} {w : World} (N : Option Tmp) (hd : oi.dst = N) (hg : oi.guard = none) {f : FuncId} {fn : Func} {as_ : Array Operand} {ts : Array TypeId} {j : Tmp} {first : Array Value} (hf : P.funcs[f]? = some fn) (hname : (fn.name == "runtime.NumGoroutine") = false) (hb : fn.body.isSome = true) (args : Array Value)
    (hop : oi.op = .call { callee := .value (.tmp j), args := as_, argTypes := ts }) (hv : a.eval (.tmp j) = .func (.func f) first #[]) (hargs : first ++ as_.map a.eval = args)
    (h : Calls P f args w fun e w' => ∃ v, e = .returned v ∧ wpList P ops Q rest (a.put N v) w') : wpList P ops Q (oi :: rest) a w := by
  refine wpList_plain hg fun K hK => ?_
  have he := enters_ hf hname hb args w
  have hrun : (execOp a.eval oi).run P w = .ok (.enter f args) w := by
    unfold execOp
    simp [hop, resolve, Deferred.ofValue, invoke, hv, hargs, he]
  unfold Oper.wp
  rw [hrun, Oper.upon_enter]
  refine h.mono fun e w'' hh => ?_
  obtain ⟨v, rfl, hk⟩ := hh
  subst hd
  exact hK _ _ hk
mutual
def merge_Join.j0 : Nat → Int → Int → Bool → Int → Int → Int → ByteArray → ByteArray → Bool → Int → Int → List Int → List (S42) → Int → Int → Int → ByteArray → ByteArray → Bool → Int → Int → List Int → List (S42) → Option (Int × Int × Int × ByteArray × ByteArray × Bool × Int × Int × List Int × (List (S42)) × Int)
  | 0, _, _, _, _, _, _, _, _, _, _, _, _, _, _, _, _, _, _, _, _, _, _, _ => none
  | k + 1, x2, x3, x15, x167000, x167001, x167002, x167003, x167004, x167005, x167006, x167007, x167008, x167009, x168000, x168001, x168002, x168003, x168004, x168005, x168006, x168007, x168008, x168009 => if x15 = true then (some (0, 0, 0, (⟨#[]⟩ : ByteArray), (⟨#[]⟩ : ByteArray), false, 0, 0, ([] : List Int), ([] : List (S42)), 110)) else ((merge_Beside.f k x167000 x167001 x167002 x167003 x167004 x167005 x167006 x167007 x167008 x167009 x168000 x168001 x168002 x168003 x168004 x168005 x168006 x168007 x168008 x168009).bind fun t175 => (if t175 = true then ((slices_Clone_uint64_uint64.f x167008).bind fun t177 => ((api_Cell.f k x167009 x168009).bind fun t180 => (if x167002 > 0 then (some (x167000, x168001, x167002, x167003, x168004, x168005, x3, x167007, t177, t180, 0)) else (if x167007 > x2 then (merge_Join.j1 k x2 true x167000 x167001 x167002 x167003 x167004 x167005 x167006 x167007 x167008 x167009 x168000 x168001 x168002 x168003 x168004 x168005 x168006 x168007 x168008 x168009 x167000 x168001 x167002 x167003 x168004 x168005 x3 x167007 t177 t180) else (merge_Join.j1 k x2 (decide (x168007 > x2)) x167000 x167001 x167002 x167003 x167004 x167005 x167006 x167007 x167008 x167009 x168000 x168001 x168002 x168003 x168004 x168005 x168006 x168007 x168008 x168009 x167000 x168001 x167002 x167003 x168004 x168005 x3 x167007 t177 t180))))) else (some (0, 0, 0, (⟨#[]⟩ : ByteArray), (⟨#[]⟩ : ByteArray), false, 0, 0, ([] : List Int), ([] : List (S42)), 140))))
def merge_Join.j1 : Nat → Int → Bool → Int → Int → Int → ByteArray → ByteArray → Bool → Int → Int → List Int → List (S42) → Int → Int → Int → ByteArray → ByteArray → Bool → Int → Int → List Int → List (S42) → Int → Int → Int → ByteArray → ByteArray → Bool → Int → Int → List Int → List (S42) → Option (Int × Int × Int × ByteArray × ByteArray × Bool × Int × Int × List Int × (List (S42)) × Int)
  | 0, _, _, _, _, _, _, _, _, _, _, _, _, _, _, _, _, _, _, _, _, _, _, _, _, _, _, _, _, _, _, _, _ => none
  | k + 1, x2, x78, x167000, x167001, x167002, x167003, x167004, x167005, x167006, x167007, x167008, x167009, x168000, x168001, x168002, x168003, x168004, x168005, x168006, x168007, x168008, x168009, x177000, x177001, x177002, x177003, x177004, x177005, x177006, x177007, x177008, x177009 => if x78 = true then (some (0, 0, 0, (⟨#[]⟩ : ByteArray), (⟨#[]⟩ : ByteArray), false, 0, 0, ([] : List Int), ([] : List (S42)), 9)) else ((merge_set_raised.f k x167007 x167008 x2).bind fun bt183 => ((merge_set_raised.f k x168007 x168008 x2).bind fun bt187 => ((lsns_Join.f k bt183.1 bt183.2 bt187.1 bt187.2).bind fun bt191 => (if bt191.2.2 = 0 then (some (x177000, x177001, x177002, x177003, x177004, x177005, x177006, bt191.1, bt191.2.1, x177009, 0)) else (some (0, 0, 0, (⟨#[]⟩ : ByteArray), (⟨#[]⟩ : ByteArray), false, 0, 0, ([] : List Int), ([] : List (S42)), bt191.2.2))))))
end
def merge_Join.f (k : Nat) (a0_0 : Int) (a0_1 : Int) (a0_2 : Int) (a0_3 : ByteArray) (a0_4 : ByteArray) (a0_5 : Bool) (a0_6 : Int) (a0_7 : Int) (l0_8 : List Int) (l0_9 : List (S42)) (a1_0 : Int) (a1_1 : Int) (a1_2 : Int) (a1_3 : ByteArray) (a1_4 : ByteArray) (a1_5 : Bool) (a1_6 : Int) (a1_7 : Int) (l1_8 : List Int) (l1_9 : List (S42)) (a2 : Int) (a3 : Int) : Option (Int × Int × Int × ByteArray × ByteArray × Bool × Int × Int × List Int × (List (S42)) × Int) := (page_Check.f k a0_0 a0_1 a0_2 a0_3 a0_4 a0_5 a0_6 a0_7 l0_8 l0_9).bind fun t169 => ((page_Check.f k a1_0 a1_1 a1_2 a1_3 a1_4 a1_5 a1_6 a1_7 l1_8 l1_9).bind fun t170 => ((api_Errno.f k 0 (([t169, t170] : List Int))).bind fun t174 => (if t174 = true then (if a3 > 281474976710656 then (merge_Join.j0 k a2 a3 true a0_0 a0_1 a0_2 a0_3 a0_4 a0_5 a0_6 a0_7 l0_8 l0_9 a1_0 a1_1 a1_2 a1_3 a1_4 a1_5 a1_6 a1_7 l1_8 l1_9) else (merge_Join.j0 k a2 a3 (decide (a2 > 281474976710656)) a0_0 a0_1 a0_2 a0_3 a0_4 a0_5 a0_6 a0_7 l0_8 l0_9 a1_0 a1_1 a1_2 a1_3 a1_4 a1_5 a1_6 a1_7 l1_8 l1_9)) else (merge_Join.j0 k a2 a3 true a0_0 a0_1 a0_2 a0_3 a0_4 a0_5 a0_6 a0_7 l0_8 l0_9 a1_0 a1_1 a1_2 a1_3 a1_4 a1_5 a1_6 a1_7 l1_8 l1_9))))
end Go.Proofs.YtmfaopjfdedheaaGreat.U
