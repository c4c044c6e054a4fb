import Derived.Test.YthblincfnfpgbaaQxRf
namespace Go.Proofs.Ythblincfnfpgbaa.Q
open Go.RowKit Go.Proofs.YthblincfnfpgbaaW.PrintWords Go.Proofs.YthblincfnfpgbaaW.PrintLast Go.Proofs.YthblincfnfpgbaaW.PrintMore
set_option linter.unusedVariables false
/-- Decode of so many bytes as fit. -/
def dump_Decode.f (l : List Int) : Option (List S82 × Int × Int) := if l.length < 4398046511104 ∧ ∀ c ∈ l, 0 ≤ c ∧ c < 256 then some (decX l) else none
theorem dump_Decode.calls (A0 : Option Addr) (c0 : Nat) (l0 : List Int) (r1 : List S82) (r2 r3 : Int) (w : World) (hr0 : Kd.C (Kd.int .u8) w A0 l0.length l0) (hc0 : l0.length ≤ c0) (h : dump_Decode.f l0 = some (r1, r2, r3)) :
    Calls Try.prog 30 #[.slice A0 l0.length c0] w fun e w' => ∃ v0_ : Value, e = .returned (.tuple #[v0_, .int .i64 r2, .int .i64 r3]) ∧ Kd.R k82 82 w' w.heap.size (fun _ => True) v0_ r1 ∧ Below w.heap.size w w' := by
  unfold dump_Decode.f at h
  split at h
  case isFalse => exact absurd h (by simp)
  rename_i hl
  have h := Option.some.inj h
  have e := decode_c A0 c0 l0 w hr0 hc0 hl.1 hl.2
  rw [h] at e
  exact e
end Go.Proofs.Ythblincfnfpgbaa.Q
