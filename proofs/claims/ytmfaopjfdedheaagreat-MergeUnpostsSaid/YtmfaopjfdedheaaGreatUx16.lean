-- PRINTED by print.py (a twelfth state) out of the translation. Not trusted: Lean checks it.
import Derived.Test.YtmfaopjfdedheaaGreatUx0
namespace Go.Proofs.YtmfaopjfdedheaaGreat.U
open Go.RowKit Go.Proofs.YtmfaopjfdedheaaGreatW Go.Proofs.YtmfaopjfdedheaaGreatW.PrintWords Go.Proofs.YtmfaopjfdedheaaGreatW.PrintLast Go.Proofs.YtmfaopjfdedheaaGreatW.PrintMore
attribute [local go_sem] GpMore.bytes_le max2_int min2_int max_two min_two max_three min_three max_four min_four   -- for this text's walks alone
set_option linter.unusedVariables false
set_option linter.unusedSimpArgs false

def ok25 (x : S25) : Prop := ((Lit.int .u64 x.f0).wf = true) ∧ (x.f1.length * 8 ≤ 140737488351232 ∧ ∀ e0 ∈ x.f1, (Lit.int .u64 e0).wf = true)
theorem opn25 {H : Type} {enc : TypeId × Value → H} : Open.Opn enc Tryz.prog 25 k25 ok25 := Open.opn_struct (fun p => ⟨p.1, p.2⟩) (fun _ => rfl) Tryz.underlying25 (by kernel_rfl) (Open.opnFs_cons (off := 0) (off' := 1) (tot := 2) rfl (by kernel_rfl) (Open.opn_int Tryz.underlying22) (Open.opnFs_one (off := 1) (tot := 2) rfl (by kernel_rfl) (Open.opn_slice (B := 8) Tryz.underlying23 (by kernel_rfl) (by kernel_rfl) (Open.opn_int Tryz.underlying22))))

def ok42 (x : S42) : Prop := (x.f0.size ≤ 140737488351232) ∧ (x.f1.size ≤ 140737488351232)
theorem opn42 {H : Type} {enc : TypeId × Value → H} : Open.Opn enc Tryz.prog 42 k42 ok42 := Open.opn_struct (fun p => ⟨p.1, p.2⟩) (fun _ => rfl) Tryz.underlying42 (by kernel_rfl) (Open.opnFs_cons (off := 0) (off' := 1) (tot := 2) rfl (by kernel_rfl) (Open.opn_string Tryz.underlying9) (Open.opnFs_one (off := 1) (tot := 2) rfl (by kernel_rfl) (Open.opn_string Tryz.underlying9)))

def ok28 (x : S28) : Prop := ((Lit.int .u64 x.f0).wf = true) ∧ (((Lit.int .u64 x.f1).wf = true) ∧ (((Lit.int .u8 x.f2).wf = true) ∧ ((x.f3.size ≤ 140737488351232) ∧ ((x.f4.size ≤ 140737488351232) ∧ ((True) ∧ (((Lit.int .u64 x.f6).wf = true) ∧ ((ok25 x.f7) ∧ (x.f8.length * 32 ≤ 140737488351232 ∧ ∀ e0 ∈ x.f8, ok42 e0))))))))
theorem opn28 {H : Type} {enc : TypeId × Value → H} : Open.Opn enc Tryz.prog 28 k28 ok28 := Open.opn_struct (fun p => ⟨p.1, p.2.1, p.2.2.1, p.2.2.2.1, p.2.2.2.2.1, p.2.2.2.2.2.1, p.2.2.2.2.2.2.1, p.2.2.2.2.2.2.2.1, p.2.2.2.2.2.2.2.2⟩) (fun _ => rfl) Tryz.underlying28 (by kernel_rfl) (Open.opnFs_cons (off := 0) (off' := 1) (tot := 10) rfl (by kernel_rfl) (Open.opn_int Tryz.underlying22) (Open.opnFs_cons (off := 1) (off' := 2) (tot := 10) rfl (by kernel_rfl) (Open.opn_int Tryz.underlying22) (Open.opnFs_cons (off := 2) (off' := 3) (tot := 10) rfl (by kernel_rfl) (Open.opn_int Tryz.underlying5) (Open.opnFs_cons (off := 3) (off' := 4) (tot := 10) rfl (by kernel_rfl) (Open.opn_string Tryz.underlying9) (Open.opnFs_cons (off := 4) (off' := 5) (tot := 10) rfl (by kernel_rfl) (Open.opn_string Tryz.underlying9) (Open.opnFs_cons (off := 5) (off' := 6) (tot := 10) rfl (by kernel_rfl) (Open.opn_bool Tryz.underlying4) (Open.opnFs_cons (off := 6) (off' := 7) (tot := 10) rfl (by kernel_rfl) (Open.opn_int Tryz.underlying22) (Open.opnFs_cons (off := 7) (off' := 9) (tot := 10) rfl (by kernel_rfl) opn25 (Open.opnFs_one (off := 9) (tot := 10) rfl (by kernel_rfl) (Open.opn_slice (B := 32) Tryz.underlying26 (by kernel_rfl) (by kernel_rfl) opn42))))))))))

end Go.Proofs.YtmfaopjfdedheaaGreat.U
