import Derived.Test.YthblincfnfpgbaaQxPTurned
import Derived.Test.YthblincfnfpgbaaOpen
namespace Go.Proofs.Ythblincfnfpgbaa.Q
open Go.RowKit Go.Proofs.YthblincfnfpgbaaW.PrintWords Go.Proofs.YthblincfnfpgbaaW.PrintLast Go.Proofs.YthblincfnfpgbaaW.PrintMore Go.Proofs.Ythblincfnfpgbaa.Open
set_option linter.unusedVariables false
def B82 : S82 → Nat := fun x => 1 + 1 + 1
theorem opens82 : Opens Try.prog k82 82 B82 wfP := by
  intro H enc w base held fuel cs x h
  obtain ⟨a, h1, h2, h3⟩ := opens_struct (g := fun x : S82 => (x.f0, x.f1)) (fun a => ⟨a.1, a.2⟩) (fun _ => rfl) Try.underlying82 (by kernel_rfl) (opens_cons (opens_int Try.underlying28) rfl (by kernel_rfl) (opens_last (opens_int Try.underlying28) rfl (by kernel_rfl))) h
  refine ⟨a, h1, h2, ?_⟩
  have h4 : (Lit.int .u64 a.f0).wf = true ∧ (Lit.int .u64 a.f1).wf = true := h3
  simp [Lit.wf, IntKind.min, IntKind.max, IntKind.signed, IntKind.bits] at h4
  unfold wfP
  omega
theorem sum82 (l : List S82) : l.length ≤ (l.map B82).sum := by
  induction l with
  | nil => simp
  | cons a l ih => simp [B82]; omega
theorem turned_walk (W : World) (a0 : Option Addr) (c0 : Nat) (x0 : List S82) (h0 : Kd.C k82 W a0 x0.length x0) (l0 : x0.length ≤ c0) {H : Type} {d0 d1 : DataW H} (b0 : (x0.map B82).sum + 1 ≤ Rows.uptoBulk d0) (w0 : ∀ x ∈ x0, wfP x)
    (a1 : Option Addr) (c1 : Nat) (x1 : List S82) (h1 : Kd.C k82 W a1 x1.length x1) (l1 : x1.length ≤ c1) (b1 : (x1.map B82).sum + 1 ≤ Rows.uptoBulk d1) (w1 : ∀ x ∈ x1, wfP x) (hb : Rows.uptoBulk d0 + (Rows.uptoBulk d1 + 0) ≤ 1048576) :
    Calls Try.prog 3 #[.slice a0 x0.length c0, .slice a1 x1.length c1] W fun e W' => e = .returned (.bool true) ∧ Below W.heap.size W W' := by
  have s0 := sum82 x0
  have s1 := sum82 x1
  obtain ⟨k, hk⟩ := turned x0 x1 (by omega)
  exact shutterlaw27_DumpTurned.calls k a0 c0 x0 a1 c1 x1 true W h0 l0 h1 l1 hk
end Go.Proofs.Ythblincfnfpgbaa.Q
