/-
  No cell of these rows narrows 'for every input' (looked for: loops, veiled, ifaces, maps, wideKeys, modest, calm, conditions, laid).
  DERIVED. THE GIVEN ROWS OF THIS SEAT. 8 by the template 'for every input the law returns true; each argument reads behind the call as it read before'; 0 by the template 'total and deterministic' (their statements: YthblincfnfpgbaaTotals.lean).
  GIVEN WITH THE SEED: the statements are not yours to turn. If you find one false, say at which input.
  Laid BY PROGRAM, IN A SANDBOX (cutbox-rows.mjs): the forced cells as the released guide's own fill.sh prints them over the translation ef255f14187bc27a… (all of the seat's roots in one cut). By AI agents, Wed Nov 11 2026. No macro, syntax, notation, axiom, sorry.
-/
import Derived.Test.YthblincfnfpgbaaChecked
import GoSem.Claim
import GoSem.ClaimJoined
import GoSem.ClaimMapViews
import Derived.JoinedTies
import Derived.KernelRfl
namespace Go.Proofs.Ythblincfnfpgbaa
/- THE CELL 'sum', in the pinned program and in every row, IS THE sha256 OF THE DUMP (.gsa) THAT YthblincfnfpgbaaProg.lean LOADS. Nothing in Lean hashes anything: it is a label: what it is worth is what the hold of that sum in a sandbox is worth. -/
noncomputable def Try.pinned : Pinned := { name := "ythblincfnfpgbaa", sum := "ef255f14187bc27afb73e6de5c64a9f70b76ca866a1f0664809cac1e1526a46e", checked := Try.checked }
namespace Rows
def none {H : Type} : Left H := { results := [], args := [] }

/-- 'shutterlaw27.DumpTurned': WHATEVER THE INPUT: true; the input reads as it did. -/
def dumpTurnedSpec : ChangeSpec := { name := "dumpTurned", fn := fun _ => fun
  | [d1, d2] => { results := [.lit (.bool true)], args := [d1, d2] }
  | _ => none }
def dumpTurnedRow : OpenClaim := { program := "ythblincfnfpgbaa", sum := "ef255f14187bc27afb73e6de5c64a9f70b76ca866a1f0664809cac1e1526a46e", func := "shutter/shutterlaw27.DumpTurned", spec := "dumpTurned", unfollowed := true, recurses := true, apart := false }
def DumpTurnedSaid : Prop := dumpTurnedRow.holds Try.pinned (OpenSpec.ofChange dumpTurnedSpec)

/-- ITS FALSE NEIGHBOUR: 'it returns false'. Refute it at one input. -/
def dumpTurnedWrong : ChangeSpec := { name := "dumpTurned", fn := fun _ => fun
  | [d1, d2] => { results := [.lit (.bool false)], args := [d1, d2] }
  | _ => none }
def DumpTurnedWrongFalsely : Prop := dumpTurnedRow.holds Try.pinned (OpenSpec.ofChange dumpTurnedWrong)

/-- 'shutterlaw27.DumpPatches': WHATEVER THE INPUT: true; the input reads as it did. -/
def dumpPatchesSpec : ChangeSpec := { name := "dumpPatches", fn := fun _ => fun
  | [d1, d2] => { results := [.lit (.bool true)], args := [d1, d2] }
  | _ => none }
def dumpPatchesRow : OpenClaim := { program := "ythblincfnfpgbaa", sum := "ef255f14187bc27afb73e6de5c64a9f70b76ca866a1f0664809cac1e1526a46e", func := "shutter/shutterlaw27.DumpPatches", spec := "dumpPatches", unfollowed := true, recurses := true, apart := false }
def DumpPatchesSaid : Prop := dumpPatchesRow.holds Try.pinned (OpenSpec.ofChange dumpPatchesSpec)

/-- ITS FALSE NEIGHBOUR: 'it returns false'. Refute it at one input. -/
def dumpPatchesWrong : ChangeSpec := { name := "dumpPatches", fn := fun _ => fun
  | [d1, d2] => { results := [.lit (.bool false)], args := [d1, d2] }
  | _ => none }
def DumpPatchesWrongFalsely : Prop := dumpPatchesRow.holds Try.pinned (OpenSpec.ofChange dumpPatchesWrong)

/-- 'shutterlaw27.DumpDiffs': WHATEVER THE INPUT: true; the input reads as it did. -/
def dumpDiffsSpec : ChangeSpec := { name := "dumpDiffs", fn := fun _ => fun
  | [d1, d2] => { results := [.lit (.bool true)], args := [d1, d2] }
  | _ => none }
def dumpDiffsRow : OpenClaim := { program := "ythblincfnfpgbaa", sum := "ef255f14187bc27afb73e6de5c64a9f70b76ca866a1f0664809cac1e1526a46e", func := "shutter/shutterlaw27.DumpDiffs", spec := "dumpDiffs", unfollowed := true, recurses := true, apart := false }
def DumpDiffsSaid : Prop := dumpDiffsRow.holds Try.pinned (OpenSpec.ofChange dumpDiffsSpec)

/-- ITS FALSE NEIGHBOUR: 'it returns false'. Refute it at one input. -/
def dumpDiffsWrong : ChangeSpec := { name := "dumpDiffs", fn := fun _ => fun
  | [d1, d2] => { results := [.lit (.bool false)], args := [d1, d2] }
  | _ => none }
def DumpDiffsWrongFalsely : Prop := dumpDiffsRow.holds Try.pinned (OpenSpec.ofChange dumpDiffsWrong)

/-- 'shutterlaw27.DumpCodes': WHATEVER THE INPUT: true; the input reads as it did. -/
def dumpCodesSpec : ChangeSpec := { name := "dumpCodes", fn := fun _ => fun
  | [d1, d2] => { results := [.lit (.bool true)], args := [d1, d2] }
  | _ => none }
def dumpCodesRow : OpenClaim := { program := "ythblincfnfpgbaa", sum := "ef255f14187bc27afb73e6de5c64a9f70b76ca866a1f0664809cac1e1526a46e", func := "shutter/shutterlaw27.DumpCodes", spec := "dumpCodes", unfollowed := true, recurses := true, apart := false }
def DumpCodesSaid : Prop := dumpCodesRow.holds Try.pinned (OpenSpec.ofChange dumpCodesSpec)

/-- ITS FALSE NEIGHBOUR: 'it returns false'. Refute it at one input. -/
def dumpCodesWrong : ChangeSpec := { name := "dumpCodes", fn := fun _ => fun
  | [d1, d2] => { results := [.lit (.bool false)], args := [d1, d2] }
  | _ => none }
def DumpCodesWrongFalsely : Prop := dumpCodesRow.holds Try.pinned (OpenSpec.ofChange dumpCodesWrong)

/-- 'shutterlaw27.DumpHurt': WHATEVER THE INPUT: true; the input reads as it did. -/
def dumpHurtSpec : ChangeSpec := { name := "dumpHurt", fn := fun _ => fun
  | [d1, d2, d3] => { results := [.lit (.bool true)], args := [d1, d2, d3] }
  | _ => none }
def dumpHurtRow : OpenClaim := { program := "ythblincfnfpgbaa", sum := "ef255f14187bc27afb73e6de5c64a9f70b76ca866a1f0664809cac1e1526a46e", func := "shutter/shutterlaw27.DumpHurt", spec := "dumpHurt", unfollowed := true, recurses := true, apart := false }
def DumpHurtSaid : Prop := dumpHurtRow.holds Try.pinned (OpenSpec.ofChange dumpHurtSpec)

/-- ITS FALSE NEIGHBOUR: 'it returns false'. Refute it at one input. -/
def dumpHurtWrong : ChangeSpec := { name := "dumpHurt", fn := fun _ => fun
  | [d1, d2, d3] => { results := [.lit (.bool false)], args := [d1, d2, d3] }
  | _ => none }
def DumpHurtWrongFalsely : Prop := dumpHurtRow.holds Try.pinned (OpenSpec.ofChange dumpHurtWrong)

/-- 'shutterlaw27.DumpOwn': WHATEVER THE INPUT: true; the input reads as it did. -/
def dumpOwnSpec : ChangeSpec := { name := "dumpOwn", fn := fun _ => fun
  | [d1, d2] => { results := [.lit (.bool true)], args := [d1, d2] }
  | _ => none }
def dumpOwnRow : OpenClaim := { program := "ythblincfnfpgbaa", sum := "ef255f14187bc27afb73e6de5c64a9f70b76ca866a1f0664809cac1e1526a46e", func := "shutter/shutterlaw27.DumpOwn", spec := "dumpOwn", unfollowed := true, recurses := true, apart := false }
def DumpOwnSaid : Prop := dumpOwnRow.holds Try.pinned (OpenSpec.ofChange dumpOwnSpec)

/-- ITS FALSE NEIGHBOUR: 'it returns false'. Refute it at one input. -/
def dumpOwnWrong : ChangeSpec := { name := "dumpOwn", fn := fun _ => fun
  | [d1, d2] => { results := [.lit (.bool false)], args := [d1, d2] }
  | _ => none }
def DumpOwnWrongFalsely : Prop := dumpOwnRow.holds Try.pinned (OpenSpec.ofChange dumpOwnWrong)

/-- 'shutterlaw27.DumpBack': WHATEVER THE INPUT: true; the input reads as it did. -/
def dumpBackSpec : ChangeSpec := { name := "dumpBack", fn := fun _ => fun
  | [d1, d2, d3] => { results := [.lit (.bool true)], args := [d1, d2, d3] }
  | _ => none }
def dumpBackRow : OpenClaim := { program := "ythblincfnfpgbaa", sum := "ef255f14187bc27afb73e6de5c64a9f70b76ca866a1f0664809cac1e1526a46e", func := "shutter/shutterlaw27.DumpBack", spec := "dumpBack", unfollowed := true, recurses := true, apart := false }
def DumpBackSaid : Prop := dumpBackRow.holds Try.pinned (OpenSpec.ofChange dumpBackSpec)

/-- ITS FALSE NEIGHBOUR: 'it returns false'. Refute it at one input. -/
def dumpBackWrong : ChangeSpec := { name := "dumpBack", fn := fun _ => fun
  | [d1, d2, d3] => { results := [.lit (.bool false)], args := [d1, d2, d3] }
  | _ => none }
def DumpBackWrongFalsely : Prop := dumpBackRow.holds Try.pinned (OpenSpec.ofChange dumpBackWrong)

/-- 'shutterlaw27.DumpLeads': WHATEVER THE INPUT: true; the input reads as it did. -/
def dumpLeadsSpec : ChangeSpec := { name := "dumpLeads", fn := fun _ => fun
  | [d1, d2] => { results := [.lit (.bool true)], args := [d1, d2] }
  | _ => none }
def dumpLeadsRow : OpenClaim := { program := "ythblincfnfpgbaa", sum := "ef255f14187bc27afb73e6de5c64a9f70b76ca866a1f0664809cac1e1526a46e", func := "shutter/shutterlaw27.DumpLeads", spec := "dumpLeads", inPlace := ["maps.clone"], unfollowed := true, recurses := true, apart := false }
def DumpLeadsSaid : Prop := dumpLeadsRow.holds Try.pinned (OpenSpec.ofChange dumpLeadsSpec)

/-- ITS FALSE NEIGHBOUR: 'it returns false'. Refute it at one input. -/
def dumpLeadsWrong : ChangeSpec := { name := "dumpLeads", fn := fun _ => fun
  | [d1, d2] => { results := [.lit (.bool false)], args := [d1, d2] }
  | _ => none }
def DumpLeadsWrongFalsely : Prop := dumpLeadsRow.holds Try.pinned (OpenSpec.ofChange dumpLeadsWrong)

/- THE SECOND FORM. 'bulk': how many values and letters a reading holds, each counted each time it is reached (what is shared counts as often as it is met; a slice's spare places count too). A statement '..UptoSaid' is the law's where the arguments, and the package variables that the reading takes, are together of bulk at most 1048576: NARROWER than '..Said'. Prove '..Said' where nothing that the law and all that it calls make is longer than what came in: it says more and counts as full. Else prove '..UptoSaid'. A law counts once. -/
mutual
def uptoBulk {H : Type} : DataW H → Nat
  | .lit (.string bytes) => bytes.length + 1
  | .lit _ => 1
  | .nil => 1
  | .ptr d => uptoBulk d + 1
  | .slice elems spare => uptoBulkAll elems + uptoBulkAll spare + 1
  | .agg parts => uptoBulkAll parts + 1
  | .iface _ d => uptoBulk d + 1
  | .map entries => uptoBulkEntries entries + 1
  | .held _ => 1
def uptoBulkAll {H : Type} : List (DataW H) → Nat
  | [] => 0
  | d :: r => uptoBulk d + uptoBulkAll r
def uptoBulkEntries {H : Type} : List (Lit × DataW H) → Nat
  | [] => 0
  | x :: r => uptoBulkEntry x + uptoBulkEntries r
def uptoBulkEntry {H : Type} : Lit × DataW H → Nat
  | (.string bytes, d) => bytes.length + uptoBulk d + 1
  | (_, d) => uptoBulk d + 1
 end
def uptoSmall : (H : Type) → List (DataW H) → Bool := fun _ ds => decide (uptoBulkAll ds ≤ 1048576)
def OpenSpec.upto (s : _root_.Go.ChangeSpec) : _root_.Go.OpenSpec := { _root_.Go.OpenSpec.ofChange s with cond := some uptoSmall }

/-- 'shutterlaw27.DumpTurned', WHERE WHAT IT READS IS OF BULK AT MOST 1048576: true; the input reads as it did. -/
def dumpTurnedUptoRow : OpenClaim := { program := "ythblincfnfpgbaa", sum := "ef255f14187bc27afb73e6de5c64a9f70b76ca866a1f0664809cac1e1526a46e", func := "shutter/shutterlaw27.DumpTurned", spec := "dumpTurned", unfollowed := true, recurses := true, apart := false, narrowed := true }
def DumpTurnedUptoSaid : Prop := dumpTurnedUptoRow.holds Try.pinned (OpenSpec.upto dumpTurnedSpec)

/-- 'shutterlaw27.DumpPatches', WHERE WHAT IT READS IS OF BULK AT MOST 1048576: true; the input reads as it did. -/
def dumpPatchesUptoRow : OpenClaim := { program := "ythblincfnfpgbaa", sum := "ef255f14187bc27afb73e6de5c64a9f70b76ca866a1f0664809cac1e1526a46e", func := "shutter/shutterlaw27.DumpPatches", spec := "dumpPatches", unfollowed := true, recurses := true, apart := false, narrowed := true }
def DumpPatchesUptoSaid : Prop := dumpPatchesUptoRow.holds Try.pinned (OpenSpec.upto dumpPatchesSpec)

/-- 'shutterlaw27.DumpDiffs', WHERE WHAT IT READS IS OF BULK AT MOST 1048576: true; the input reads as it did. -/
def dumpDiffsUptoRow : OpenClaim := { program := "ythblincfnfpgbaa", sum := "ef255f14187bc27afb73e6de5c64a9f70b76ca866a1f0664809cac1e1526a46e", func := "shutter/shutterlaw27.DumpDiffs", spec := "dumpDiffs", unfollowed := true, recurses := true, apart := false, narrowed := true }
def DumpDiffsUptoSaid : Prop := dumpDiffsUptoRow.holds Try.pinned (OpenSpec.upto dumpDiffsSpec)

/-- 'shutterlaw27.DumpCodes', WHERE WHAT IT READS IS OF BULK AT MOST 1048576: true; the input reads as it did. -/
def dumpCodesUptoRow : OpenClaim := { program := "ythblincfnfpgbaa", sum := "ef255f14187bc27afb73e6de5c64a9f70b76ca866a1f0664809cac1e1526a46e", func := "shutter/shutterlaw27.DumpCodes", spec := "dumpCodes", unfollowed := true, recurses := true, apart := false, narrowed := true }
def DumpCodesUptoSaid : Prop := dumpCodesUptoRow.holds Try.pinned (OpenSpec.upto dumpCodesSpec)

/-- 'shutterlaw27.DumpHurt', WHERE WHAT IT READS IS OF BULK AT MOST 1048576: true; the input reads as it did. -/
def dumpHurtUptoRow : OpenClaim := { program := "ythblincfnfpgbaa", sum := "ef255f14187bc27afb73e6de5c64a9f70b76ca866a1f0664809cac1e1526a46e", func := "shutter/shutterlaw27.DumpHurt", spec := "dumpHurt", unfollowed := true, recurses := true, apart := false, narrowed := true }
def DumpHurtUptoSaid : Prop := dumpHurtUptoRow.holds Try.pinned (OpenSpec.upto dumpHurtSpec)

/-- 'shutterlaw27.DumpOwn', WHERE WHAT IT READS IS OF BULK AT MOST 1048576: true; the input reads as it did. -/
def dumpOwnUptoRow : OpenClaim := { program := "ythblincfnfpgbaa", sum := "ef255f14187bc27afb73e6de5c64a9f70b76ca866a1f0664809cac1e1526a46e", func := "shutter/shutterlaw27.DumpOwn", spec := "dumpOwn", unfollowed := true, recurses := true, apart := false, narrowed := true }
def DumpOwnUptoSaid : Prop := dumpOwnUptoRow.holds Try.pinned (OpenSpec.upto dumpOwnSpec)

/-- 'shutterlaw27.DumpBack', WHERE WHAT IT READS IS OF BULK AT MOST 1048576: true; the input reads as it did. -/
def dumpBackUptoRow : OpenClaim := { program := "ythblincfnfpgbaa", sum := "ef255f14187bc27afb73e6de5c64a9f70b76ca866a1f0664809cac1e1526a46e", func := "shutter/shutterlaw27.DumpBack", spec := "dumpBack", unfollowed := true, recurses := true, apart := false, narrowed := true }
def DumpBackUptoSaid : Prop := dumpBackUptoRow.holds Try.pinned (OpenSpec.upto dumpBackSpec)

/-- 'shutterlaw27.DumpLeads', WHERE WHAT IT READS IS OF BULK AT MOST 1048576: true; the input reads as it did. -/
def dumpLeadsUptoRow : OpenClaim := { program := "ythblincfnfpgbaa", sum := "ef255f14187bc27afb73e6de5c64a9f70b76ca866a1f0664809cac1e1526a46e", func := "shutter/shutterlaw27.DumpLeads", spec := "dumpLeads", inPlace := ["maps.clone"], unfollowed := true, recurses := true, apart := false, narrowed := true }
def DumpLeadsUptoSaid : Prop := dumpLeadsUptoRow.holds Try.pinned (OpenSpec.upto dumpLeadsSpec)

end Rows
end Go.Proofs.Ythblincfnfpgbaa
