import Derived.Test.YtbpkepcbmenbcaaAr0
import Derived.Test.YtbpkepcbmenbcaaOpen
namespace Go.Proofs.Ytbpkepcbmenbcaa.Ar
open Go.RowKit Go.Proofs.YtbpkepcbmenbcaaW.PrintWords Go.Proofs.YtbpkepcbmenbcaaW.PrintLast Go.Proofs.YtbpkepcbmenbcaaW.PrintMore Go.Proofs.Ytbpkepcbmenbcaa.Open
set_option linter.unusedVariables false
def wfPair (p : SPair) : Prop := (0 ≤ p.key ∧ p.key < 18446744073709551616) ∧ (0 ≤ p.value ∧ p.value < 18446744073709551616)
def BPair : SPair → Nat := fun x => 1 + 1 + 1
theorem opensPair : Opens Try.prog kPair 35 BPair wfPair := by
  intro H enc w base held fuel cs x h
  obtain ⟨a, h1, h2, h3⟩ := opens_struct (g := fun x : SPair => (x.key, x.value)) (fun a => ⟨a.1, a.2⟩) (fun _ => rfl) Try.underlying35 (by kernel_rfl) (opens_cons (opens_int Try.underlying33) rfl (by kernel_rfl) (opens_last (opens_int Try.underlying33) rfl (by kernel_rfl))) h
  refine ⟨a, h1, h2, ?_⟩
  have h4 : (Lit.int .u64 a.key).wf = true ∧ (Lit.int .u64 a.value).wf = true := h3
  simp [Lit.wf, IntKind.min, IntKind.max, IntKind.signed, IntKind.bits] at h4
  unfold wfPair
  omega
end Go.Proofs.Ytbpkepcbmenbcaa.Ar
