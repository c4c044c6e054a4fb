/-
  No cell of these rows narrows 'for every input' (looked for: loops, veiled, ifaces, maps, wideKeys, modest, calm, conditions, laid).
  DERIVED. THE GIVEN ROWS OF THIS SEAT. 8 by the template 'for every input the law returns true; each argument reads behind the call as it read before'; 0 by the template 'total and deterministic' (their statements: YtngocadnbpdnoaaTotals.lean).
  GIVEN WITH THE SEED: the statements are not yours to turn. If you find one false, say at which input.
  Laid BY PROGRAM, IN A SANDBOX (cutbox-rows.mjs): the forced cells as the released guide's own fill.sh prints them over the translation 20fde215e5cae515… (all of the seat's roots in one cut). By AI agents, Wed Nov 11 2026. No macro, syntax, notation, axiom, sorry.
-/
import Derived.Test.YtngocadnbpdnoaaChecked
import GoSem.Claim
import GoSem.ClaimJoined
import GoSem.ClaimMapViews
import Derived.JoinedTies
import Derived.KernelRfl
namespace Go.Proofs.Ytngocadnbpdnoaa
/- THE CELL 'sum', in the pinned program and in every row, IS THE sha256 OF THE DUMP (.gsa) THAT YtngocadnbpdnoaaProg.lean LOADS. Nothing in Lean hashes anything: it is a label: what it is worth is what the hold of that sum in a sandbox is worth. -/
noncomputable def Try.pinned : Pinned := { name := "ytngocadnbpdnoaa", sum := "20fde215e5cae515b740b6e3b71d3fc30d19644f3c099cd1a2c6d646513440fc", checked := Try.checked }
namespace Rows
def none {H : Type} : Left H := { results := [], args := [] }

/-- 'shutterlaw06.ModelSames': WHATEVER THE INPUT: true; the input reads as it did. -/
def modelSamesSpec : ChangeSpec := { name := "modelSames", fn := fun _ => fun
  | [d1, d2] => { results := [.lit (.bool true)], args := [d1, d2] }
  | _ => none }
def modelSamesRow : OpenClaim := { program := "ytngocadnbpdnoaa", sum := "20fde215e5cae515b740b6e3b71d3fc30d19644f3c099cd1a2c6d646513440fc", func := "shutter/shutterlaw06.ModelSames", spec := "modelSames", inPlace := ["maps.clone"], unfollowed := true, recurses := true, apart := false }
def ModelSamesSaid : Prop := modelSamesRow.holds Try.pinned (OpenSpec.ofChange modelSamesSpec)

/-- ITS FALSE NEIGHBOUR: 'it returns false'. Refute it at one input. -/
def modelSamesWrong : ChangeSpec := { name := "modelSames", fn := fun _ => fun
  | [d1, d2] => { results := [.lit (.bool false)], args := [d1, d2] }
  | _ => none }
def ModelSamesWrongFalsely : Prop := modelSamesRow.holds Try.pinned (OpenSpec.ofChange modelSamesWrong)

/-- 'shutterlaw06.ModelHeld': WHATEVER THE INPUT: true; the input reads as it did. -/
def modelHeldSpec : ChangeSpec := { name := "modelHeld", fn := fun _ => fun
  | [d1, d2, d3] => { results := [.lit (.bool true)], args := [d1, d2, d3] }
  | _ => none }
def modelHeldRow : OpenClaim := { program := "ytngocadnbpdnoaa", sum := "20fde215e5cae515b740b6e3b71d3fc30d19644f3c099cd1a2c6d646513440fc", func := "shutter/shutterlaw06.ModelHeld", spec := "modelHeld", inPlace := ["maps.clone"], unfollowed := true, recurses := true, apart := false }
def ModelHeldSaid : Prop := modelHeldRow.holds Try.pinned (OpenSpec.ofChange modelHeldSpec)

/-- ITS FALSE NEIGHBOUR: 'it returns false'. Refute it at one input. -/
def modelHeldWrong : ChangeSpec := { name := "modelHeld", fn := fun _ => fun
  | [d1, d2, d3] => { results := [.lit (.bool false)], args := [d1, d2, d3] }
  | _ => none }
def ModelHeldWrongFalsely : Prop := modelHeldRow.holds Try.pinned (OpenSpec.ofChange modelHeldWrong)

/-- 'shutterlaw06.ModelPlays': WHATEVER THE INPUT: true; the input reads as it did. -/
def modelPlaysSpec : ChangeSpec := { name := "modelPlays", fn := fun _ => fun
  | [d1, d2] => { results := [.lit (.bool true)], args := [d1, d2] }
  | _ => none }
def modelPlaysRow : OpenClaim := { program := "ytngocadnbpdnoaa", sum := "20fde215e5cae515b740b6e3b71d3fc30d19644f3c099cd1a2c6d646513440fc", func := "shutter/shutterlaw06.ModelPlays", spec := "modelPlays", inPlace := ["maps.clone"], unfollowed := true, recurses := true, apart := false }
def ModelPlaysSaid : Prop := modelPlaysRow.holds Try.pinned (OpenSpec.ofChange modelPlaysSpec)

/-- ITS FALSE NEIGHBOUR: 'it returns false'. Refute it at one input. -/
def modelPlaysWrong : ChangeSpec := { name := "modelPlays", fn := fun _ => fun
  | [d1, d2] => { results := [.lit (.bool false)], args := [d1, d2] }
  | _ => none }
def ModelPlaysWrongFalsely : Prop := modelPlaysRow.holds Try.pinned (OpenSpec.ofChange modelPlaysWrong)

/-- 'shutterlaw06.ModelOwn': WHATEVER THE INPUT: true; the input reads as it did. -/
def modelOwnSpec : ChangeSpec := { name := "modelOwn", fn := fun _ => fun
  | [d1, d2] => { results := [.lit (.bool true)], args := [d1, d2] }
  | _ => none }
def modelOwnRow : OpenClaim := { program := "ytngocadnbpdnoaa", sum := "20fde215e5cae515b740b6e3b71d3fc30d19644f3c099cd1a2c6d646513440fc", func := "shutter/shutterlaw06.ModelOwn", spec := "modelOwn", inPlace := ["maps.clone"], unfollowed := true, recurses := true, apart := false }
def ModelOwnSaid : Prop := modelOwnRow.holds Try.pinned (OpenSpec.ofChange modelOwnSpec)

/-- ITS FALSE NEIGHBOUR: 'it returns false'. Refute it at one input. -/
def modelOwnWrong : ChangeSpec := { name := "modelOwn", fn := fun _ => fun
  | [d1, d2] => { results := [.lit (.bool false)], args := [d1, d2] }
  | _ => none }
def ModelOwnWrongFalsely : Prop := modelOwnRow.holds Try.pinned (OpenSpec.ofChange modelOwnWrong)

/-- 'shutterlaw06.ModelTakes': WHATEVER THE INPUT: true; the input reads as it did. -/
def modelTakesSpec : ChangeSpec := { name := "modelTakes", fn := fun _ => fun
  | [d] => { results := [.lit (.bool true)], args := [d] }
  | _ => none }
def modelTakesRow : OpenClaim := { program := "ytngocadnbpdnoaa", sum := "20fde215e5cae515b740b6e3b71d3fc30d19644f3c099cd1a2c6d646513440fc", func := "shutter/shutterlaw06.ModelTakes", spec := "modelTakes", inPlace := ["maps.clone"], unfollowed := true, recurses := true, apart := false }
def ModelTakesSaid : Prop := modelTakesRow.holds Try.pinned (OpenSpec.ofChange modelTakesSpec)

/-- ITS FALSE NEIGHBOUR: 'it returns false'. Refute it at one input. -/
def modelTakesWrong : ChangeSpec := { name := "modelTakes", fn := fun _ => fun
  | [d] => { results := [.lit (.bool false)], args := [d] }
  | _ => none }
def ModelTakesWrongFalsely : Prop := modelTakesRow.holds Try.pinned (OpenSpec.ofChange modelTakesWrong)

/-- 'shutterlaw06.ModelKeys': WHATEVER THE INPUT: true; the input reads as it did. -/
def modelKeysSpec : ChangeSpec := { name := "modelKeys", fn := fun _ => fun
  | [d] => { results := [.lit (.bool true)], args := [d] }
  | _ => none }
def modelKeysRow : OpenClaim := { program := "ytngocadnbpdnoaa", sum := "20fde215e5cae515b740b6e3b71d3fc30d19644f3c099cd1a2c6d646513440fc", func := "shutter/shutterlaw06.ModelKeys", spec := "modelKeys", inPlace := ["maps.clone"], unfollowed := true, recurses := true, apart := false }
def ModelKeysSaid : Prop := modelKeysRow.holds Try.pinned (OpenSpec.ofChange modelKeysSpec)

/-- ITS FALSE NEIGHBOUR: 'it returns false'. Refute it at one input. -/
def modelKeysWrong : ChangeSpec := { name := "modelKeys", fn := fun _ => fun
  | [d] => { results := [.lit (.bool false)], args := [d] }
  | _ => none }
def ModelKeysWrongFalsely : Prop := modelKeysRow.holds Try.pinned (OpenSpec.ofChange modelKeysWrong)

/-- 'shutterlaw06.ModelFork': WHATEVER THE INPUT: true; the input reads as it did. -/
def modelForkSpec : ChangeSpec := { name := "modelFork", fn := fun _ => fun
  | [d1, d2, d3] => { results := [.lit (.bool true)], args := [d1, d2, d3] }
  | _ => none }
def modelForkRow : OpenClaim := { program := "ytngocadnbpdnoaa", sum := "20fde215e5cae515b740b6e3b71d3fc30d19644f3c099cd1a2c6d646513440fc", func := "shutter/shutterlaw06.ModelFork", spec := "modelFork", inPlace := ["maps.clone"], unfollowed := true, recurses := true, apart := false }
def ModelForkSaid : Prop := modelForkRow.holds Try.pinned (OpenSpec.ofChange modelForkSpec)

/-- ITS FALSE NEIGHBOUR: 'it returns false'. Refute it at one input. -/
def modelForkWrong : ChangeSpec := { name := "modelFork", fn := fun _ => fun
  | [d1, d2, d3] => { results := [.lit (.bool false)], args := [d1, d2, d3] }
  | _ => none }
def ModelForkWrongFalsely : Prop := modelForkRow.holds Try.pinned (OpenSpec.ofChange modelForkWrong)

/-- 'shutterlaw06.ModelNone': WHATEVER THE INPUT: true; the input reads as it did. -/
def modelNoneSpec : ChangeSpec := { name := "modelNone", fn := fun _ => fun
  | [d] => { results := [.lit (.bool true)], args := [d] }
  | _ => none }
def modelNoneRow : OpenClaim := { program := "ytngocadnbpdnoaa", sum := "20fde215e5cae515b740b6e3b71d3fc30d19644f3c099cd1a2c6d646513440fc", func := "shutter/shutterlaw06.ModelNone", spec := "modelNone", inPlace := ["maps.clone"], unfollowed := true, recurses := true, apart := false }
def ModelNoneSaid : Prop := modelNoneRow.holds Try.pinned (OpenSpec.ofChange modelNoneSpec)

/-- ITS FALSE NEIGHBOUR: 'it returns false'. Refute it at one input. -/
def modelNoneWrong : ChangeSpec := { name := "modelNone", fn := fun _ => fun
  | [d] => { results := [.lit (.bool false)], args := [d] }
  | _ => none }
def ModelNoneWrongFalsely : Prop := modelNoneRow.holds Try.pinned (OpenSpec.ofChange modelNoneWrong)

/- THE SECOND FORM. 'bulk': how many values and letters a reading holds, each counted each time it is reached (what is shared counts as often as it is met; a slice's spare places count too). A statement '..UptoSaid' is the law's where the arguments, and the package variables that the reading takes, are together of bulk at most 1048576: NARROWER than '..Said'. Prove '..Said' where nothing that the law and all that it calls make is longer than what came in: it says more and counts as full. Else prove '..UptoSaid'. A law counts once. -/
mutual
def uptoBulk {H : Type} : DataW H → Nat
  | .lit (.string bytes) => bytes.length + 1
  | .lit _ => 1
  | .nil => 1
  | .ptr d => uptoBulk d + 1
  | .slice elems spare => uptoBulkAll elems + uptoBulkAll spare + 1
  | .agg parts => uptoBulkAll parts + 1
  | .iface _ d => uptoBulk d + 1
  | .map entries => uptoBulkEntries entries + 1
  | .held _ => 1
def uptoBulkAll {H : Type} : List (DataW H) → Nat
  | [] => 0
  | d :: r => uptoBulk d + uptoBulkAll r
def uptoBulkEntries {H : Type} : List (Lit × DataW H) → Nat
  | [] => 0
  | x :: r => uptoBulkEntry x + uptoBulkEntries r
def uptoBulkEntry {H : Type} : Lit × DataW H → Nat
  | (.string bytes, d) => bytes.length + uptoBulk d + 1
  | (_, d) => uptoBulk d + 1
 end
def uptoSmall : (H : Type) → List (DataW H) → Bool := fun _ ds => decide (uptoBulkAll ds ≤ 1048576)
def OpenSpec.upto (s : _root_.Go.ChangeSpec) : _root_.Go.OpenSpec := { _root_.Go.OpenSpec.ofChange s with cond := some uptoSmall }

/-- 'shutterlaw06.ModelSames', WHERE WHAT IT READS IS OF BULK AT MOST 1048576: true; the input reads as it did. -/
def modelSamesUptoRow : OpenClaim := { program := "ytngocadnbpdnoaa", sum := "20fde215e5cae515b740b6e3b71d3fc30d19644f3c099cd1a2c6d646513440fc", func := "shutter/shutterlaw06.ModelSames", spec := "modelSames", inPlace := ["maps.clone"], unfollowed := true, recurses := true, apart := false, narrowed := true }
def ModelSamesUptoSaid : Prop := modelSamesUptoRow.holds Try.pinned (OpenSpec.upto modelSamesSpec)

/-- 'shutterlaw06.ModelHeld', WHERE WHAT IT READS IS OF BULK AT MOST 1048576: true; the input reads as it did. -/
def modelHeldUptoRow : OpenClaim := { program := "ytngocadnbpdnoaa", sum := "20fde215e5cae515b740b6e3b71d3fc30d19644f3c099cd1a2c6d646513440fc", func := "shutter/shutterlaw06.ModelHeld", spec := "modelHeld", inPlace := ["maps.clone"], unfollowed := true, recurses := true, apart := false, narrowed := true }
def ModelHeldUptoSaid : Prop := modelHeldUptoRow.holds Try.pinned (OpenSpec.upto modelHeldSpec)

/-- 'shutterlaw06.ModelPlays', WHERE WHAT IT READS IS OF BULK AT MOST 1048576: true; the input reads as it did. -/
def modelPlaysUptoRow : OpenClaim := { program := "ytngocadnbpdnoaa", sum := "20fde215e5cae515b740b6e3b71d3fc30d19644f3c099cd1a2c6d646513440fc", func := "shutter/shutterlaw06.ModelPlays", spec := "modelPlays", inPlace := ["maps.clone"], unfollowed := true, recurses := true, apart := false, narrowed := true }
def ModelPlaysUptoSaid : Prop := modelPlaysUptoRow.holds Try.pinned (OpenSpec.upto modelPlaysSpec)

/-- 'shutterlaw06.ModelOwn', WHERE WHAT IT READS IS OF BULK AT MOST 1048576: true; the input reads as it did. -/
def modelOwnUptoRow : OpenClaim := { program := "ytngocadnbpdnoaa", sum := "20fde215e5cae515b740b6e3b71d3fc30d19644f3c099cd1a2c6d646513440fc", func := "shutter/shutterlaw06.ModelOwn", spec := "modelOwn", inPlace := ["maps.clone"], unfollowed := true, recurses := true, apart := false, narrowed := true }
def ModelOwnUptoSaid : Prop := modelOwnUptoRow.holds Try.pinned (OpenSpec.upto modelOwnSpec)

/-- 'shutterlaw06.ModelTakes', WHERE WHAT IT READS IS OF BULK AT MOST 1048576: true; the input reads as it did. -/
def modelTakesUptoRow : OpenClaim := { program := "ytngocadnbpdnoaa", sum := "20fde215e5cae515b740b6e3b71d3fc30d19644f3c099cd1a2c6d646513440fc", func := "shutter/shutterlaw06.ModelTakes", spec := "modelTakes", inPlace := ["maps.clone"], unfollowed := true, recurses := true, apart := false, narrowed := true }
def ModelTakesUptoSaid : Prop := modelTakesUptoRow.holds Try.pinned (OpenSpec.upto modelTakesSpec)

/-- 'shutterlaw06.ModelKeys', WHERE WHAT IT READS IS OF BULK AT MOST 1048576: true; the input reads as it did. -/
def modelKeysUptoRow : OpenClaim := { program := "ytngocadnbpdnoaa", sum := "20fde215e5cae515b740b6e3b71d3fc30d19644f3c099cd1a2c6d646513440fc", func := "shutter/shutterlaw06.ModelKeys", spec := "modelKeys", inPlace := ["maps.clone"], unfollowed := true, recurses := true, apart := false, narrowed := true }
def ModelKeysUptoSaid : Prop := modelKeysUptoRow.holds Try.pinned (OpenSpec.upto modelKeysSpec)

/-- 'shutterlaw06.ModelFork', WHERE WHAT IT READS IS OF BULK AT MOST 1048576: true; the input reads as it did. -/
def modelForkUptoRow : OpenClaim := { program := "ytngocadnbpdnoaa", sum := "20fde215e5cae515b740b6e3b71d3fc30d19644f3c099cd1a2c6d646513440fc", func := "shutter/shutterlaw06.ModelFork", spec := "modelFork", inPlace := ["maps.clone"], unfollowed := true, recurses := true, apart := false, narrowed := true }
def ModelForkUptoSaid : Prop := modelForkUptoRow.holds Try.pinned (OpenSpec.upto modelForkSpec)

/-- 'shutterlaw06.ModelNone', WHERE WHAT IT READS IS OF BULK AT MOST 1048576: true; the input reads as it did. -/
def modelNoneUptoRow : OpenClaim := { program := "ytngocadnbpdnoaa", sum := "20fde215e5cae515b740b6e3b71d3fc30d19644f3c099cd1a2c6d646513440fc", func := "shutter/shutterlaw06.ModelNone", spec := "modelNone", inPlace := ["maps.clone"], unfollowed := true, recurses := true, apart := false, narrowed := true }
def ModelNoneUptoSaid : Prop := modelNoneUptoRow.holds Try.pinned (OpenSpec.upto modelNoneSpec)

end Rows
end Go.Proofs.Ytngocadnbpdnoaa
