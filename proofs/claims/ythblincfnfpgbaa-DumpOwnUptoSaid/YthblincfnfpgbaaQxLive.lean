import Derived.Test.YthblincfnfpgbaaQx15
namespace Go.Proofs.Ythblincfnfpgbaa.Q
open Go.RowKit Go.Proofs.YthblincfnfpgbaaW.PrintWords Go.Proofs.YthblincfnfpgbaaW.PrintLast Go.Proofs.YthblincfnfpgbaaW.PrintMore
set_option linter.unusedVariables false
theorem live_f : shutterlaw27_live.f = some true := by
  unfold shutterlaw27_live.f
  have e1 : dump_Encode.f [(⟨7, 1⟩ : S82)] = some ([83, 72, 85, 49, 1, 7, 1] ++ fixedS (sumS 2166136261 [83, 72, 85, 49, 1, 7, 1]), 0) := by decide
  have e2 : dump_Encode.f [(⟨7, 0⟩ : S82), (⟨7, 0⟩ : S82)] = some ([], 52) := by decide
  rw [e1, e2]
  rfl
end Go.Proofs.Ythblincfnfpgbaa.Q
