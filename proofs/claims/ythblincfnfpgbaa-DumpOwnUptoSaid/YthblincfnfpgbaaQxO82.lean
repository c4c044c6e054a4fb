import Derived.Test.YthblincfnfpgbaaQxN
import Derived.Test.YthblincfnfpgbaaOpen
namespace Go.Proofs.Ythblincfnfpgbaa.Q
open Go.RowKit Go.Proofs.YthblincfnfpgbaaW.PrintWords Go.Proofs.YthblincfnfpgbaaW.PrintLast Go.Proofs.YthblincfnfpgbaaW.PrintMore Go.Proofs.Ythblincfnfpgbaa.Open
set_option linter.unusedVariables false
def B82 : S82 → Nat := fun x => 1 + 1 + 1
theorem opens82 : Opens Try.prog k82 82 B82 wfP := by
  intro H enc w base held fuel cs x h
  obtain ⟨a, h1, h2, h3⟩ := opens_struct (g := fun x : S82 => (x.f0, x.f1)) (fun a => ⟨a.1, a.2⟩) (fun _ => rfl) Try.underlying82 (by kernel_rfl) (opens_cons (opens_int Try.underlying28) rfl (by kernel_rfl) (opens_last (opens_int Try.underlying28) rfl (by kernel_rfl))) h
  refine ⟨a, h1, h2, ?_⟩
  have h4 : (Lit.int .u64 a.f0).wf = true ∧ (Lit.int .u64 a.f1).wf = true := h3
  simp [Lit.wf, IntKind.min, IntKind.max, IntKind.signed, IntKind.bits] at h4
  unfold wfP
  omega
theorem sum82 (l : List S82) : l.length ≤ (l.map B82).sum := by
  induction l with
  | nil => simp
  | cons a l ih => simp [B82]; omega
end Go.Proofs.Ythblincfnfpgbaa.Q
