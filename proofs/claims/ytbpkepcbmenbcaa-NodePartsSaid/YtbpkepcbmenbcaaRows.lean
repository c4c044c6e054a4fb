/-
  No cell of these rows narrows 'for every input' (looked for: loops, veiled, ifaces, maps, wideKeys, modest, calm, conditions, laid).
  DERIVED. THE GIVEN ROWS OF THIS SEAT. 4 by the template 'for every input the law returns true; each argument reads behind the call as it read before'; 0 by the template 'total and deterministic' (their statements: YtbpkepcbmenbcaaTotals.lean).
  GIVEN WITH THE SEED: the statements are not yours to turn. If you find one false, say at which input.
  Laid BY PROGRAM, IN A SANDBOX (cutbox-rows.mjs): the forced cells as the released guide's own fill.sh prints them over the translation 83c3e0b3fe303631… (all of the seat's roots in one cut). By AI agents, Wed Nov 11 2026. No macro, syntax, notation, axiom, sorry.
-/
import Derived.Test.YtbpkepcbmenbcaaChecked
import GoSem.Claim
import GoSem.ClaimJoined
import GoSem.ClaimMapViews
import Derived.JoinedTies
import Derived.KernelRfl
namespace Go.Proofs.Ytbpkepcbmenbcaa
/- THE CELL 'sum', in the pinned program and in every row, IS THE sha256 OF THE DUMP (.gsa) THAT YtbpkepcbmenbcaaProg.lean LOADS. Nothing in Lean hashes anything: it is a label: what it is worth is what the hold of that sum in a sandbox is worth. -/
noncomputable def Try.pinned : Pinned := { name := "ytbpkepcbmenbcaa", sum := "83c3e0b3fe303631ff85b4a10736180c508374b3ce0403a20bfc505c46f5ef02", checked := Try.checked }
namespace Rows
def none {H : Type} : Left H := { results := [], args := [] }

/-- 'shutterlaw10.NodeBack': WHATEVER THE INPUT: true; the input reads as it did. -/
def nodeBackSpec : ChangeSpec := { name := "nodeBack", fn := fun _ => fun
  | [d] => { results := [.lit (.bool true)], args := [d] }
  | _ => none }
def nodeBackRow : OpenClaim := { program := "ytbpkepcbmenbcaa", sum := "83c3e0b3fe303631ff85b4a10736180c508374b3ce0403a20bfc505c46f5ef02", func := "shutter/shutterlaw10.NodeBack", spec := "nodeBack", inPlace := ["sync/atomic.StoreInt64"], unfollowed := true, recurses := true, apart := false }
def NodeBackSaid : Prop := nodeBackRow.holds Try.pinned (OpenSpec.ofChange nodeBackSpec)

/-- ITS FALSE NEIGHBOUR: 'it returns false'. Refute it at one input. -/
def nodeBackWrong : ChangeSpec := { name := "nodeBack", fn := fun _ => fun
  | [d] => { results := [.lit (.bool false)], args := [d] }
  | _ => none }
def NodeBackWrongFalsely : Prop := nodeBackRow.holds Try.pinned (OpenSpec.ofChange nodeBackWrong)

/-- 'shutterlaw10.NodeNone': WHATEVER THE INPUT: true; the input reads as it did. -/
def nodeNoneSpec : ChangeSpec := { name := "nodeNone", fn := fun _ => fun
  | [d1, d2, d3] => { results := [.lit (.bool true)], args := [d1, d2, d3] }
  | _ => none }
def nodeNoneRow : OpenClaim := { program := "ytbpkepcbmenbcaa", sum := "83c3e0b3fe303631ff85b4a10736180c508374b3ce0403a20bfc505c46f5ef02", func := "shutter/shutterlaw10.NodeNone", spec := "nodeNone", inPlace := ["sync/atomic.StoreInt64"], unfollowed := true, recurses := true, apart := false }
def NodeNoneSaid : Prop := nodeNoneRow.holds Try.pinned (OpenSpec.ofChange nodeNoneSpec)

/-- ITS FALSE NEIGHBOUR: 'it returns false'. Refute it at one input. -/
def nodeNoneWrong : ChangeSpec := { name := "nodeNone", fn := fun _ => fun
  | [d1, d2, d3] => { results := [.lit (.bool false)], args := [d1, d2, d3] }
  | _ => none }
def NodeNoneWrongFalsely : Prop := nodeNoneRow.holds Try.pinned (OpenSpec.ofChange nodeNoneWrong)

/-- 'shutterlaw10.NodeRuns': WHATEVER THE INPUT: true; the input reads as it did. -/
def nodeRunsSpec : ChangeSpec := { name := "nodeRuns", fn := fun _ => fun
  | [d] => { results := [.lit (.bool true)], args := [d] }
  | _ => none }
def nodeRunsRow : OpenClaim := { program := "ytbpkepcbmenbcaa", sum := "83c3e0b3fe303631ff85b4a10736180c508374b3ce0403a20bfc505c46f5ef02", func := "shutter/shutterlaw10.NodeRuns", spec := "nodeRuns", inPlace := ["sync/atomic.StoreInt64"], unfollowed := true, recurses := true, apart := false }
def NodeRunsSaid : Prop := nodeRunsRow.holds Try.pinned (OpenSpec.ofChange nodeRunsSpec)

/-- ITS FALSE NEIGHBOUR: 'it returns false'. Refute it at one input. -/
def nodeRunsWrong : ChangeSpec := { name := "nodeRuns", fn := fun _ => fun
  | [d] => { results := [.lit (.bool false)], args := [d] }
  | _ => none }
def NodeRunsWrongFalsely : Prop := nodeRunsRow.holds Try.pinned (OpenSpec.ofChange nodeRunsWrong)

/-- 'shutterlaw10.NodeParts': WHATEVER THE INPUT: true; the input reads as it did. -/
def nodePartsSpec : ChangeSpec := { name := "nodeParts", fn := fun _ => fun
  | [d] => { results := [.lit (.bool true)], args := [d] }
  | _ => none }
def nodePartsRow : OpenClaim := { program := "ytbpkepcbmenbcaa", sum := "83c3e0b3fe303631ff85b4a10736180c508374b3ce0403a20bfc505c46f5ef02", func := "shutter/shutterlaw10.NodeParts", spec := "nodeParts", inPlace := ["sync/atomic.StoreInt64"], unfollowed := true, recurses := true, apart := false }
def NodePartsSaid : Prop := nodePartsRow.holds Try.pinned (OpenSpec.ofChange nodePartsSpec)

/-- ITS FALSE NEIGHBOUR: 'it returns false'. Refute it at one input. -/
def nodePartsWrong : ChangeSpec := { name := "nodeParts", fn := fun _ => fun
  | [d] => { results := [.lit (.bool false)], args := [d] }
  | _ => none }
def NodePartsWrongFalsely : Prop := nodePartsRow.holds Try.pinned (OpenSpec.ofChange nodePartsWrong)

/- THE SECOND FORM. 'bulk': how many values and letters a reading holds, each counted each time it is reached (what is shared counts as often as it is met; a slice's spare places count too). A statement '..UptoSaid' is the law's where the arguments, and the package variables that the reading takes, are together of bulk at most 1048576: NARROWER than '..Said'. Prove '..Said' where nothing that the law and all that it calls make is longer than what came in: it says more and counts as full. Else prove '..UptoSaid'. A law counts once. -/
mutual
def uptoBulk {H : Type} : DataW H → Nat
  | .lit (.string bytes) => bytes.length + 1
  | .lit _ => 1
  | .nil => 1
  | .ptr d => uptoBulk d + 1
  | .slice elems spare => uptoBulkAll elems + uptoBulkAll spare + 1
  | .agg parts => uptoBulkAll parts + 1
  | .iface _ d => uptoBulk d + 1
  | .map entries => uptoBulkEntries entries + 1
  | .held _ => 1
def uptoBulkAll {H : Type} : List (DataW H) → Nat
  | [] => 0
  | d :: r => uptoBulk d + uptoBulkAll r
def uptoBulkEntries {H : Type} : List (Lit × DataW H) → Nat
  | [] => 0
  | x :: r => uptoBulkEntry x + uptoBulkEntries r
def uptoBulkEntry {H : Type} : Lit × DataW H → Nat
  | (.string bytes, d) => bytes.length + uptoBulk d + 1
  | (_, d) => uptoBulk d + 1
 end
def uptoSmall : (H : Type) → List (DataW H) → Bool := fun _ ds => decide (uptoBulkAll ds ≤ 1048576)
def OpenSpec.upto (s : _root_.Go.ChangeSpec) : _root_.Go.OpenSpec := { _root_.Go.OpenSpec.ofChange s with cond := some uptoSmall }

/-- 'shutterlaw10.NodeBack', WHERE WHAT IT READS IS OF BULK AT MOST 1048576: true; the input reads as it did. -/
def nodeBackUptoRow : OpenClaim := { program := "ytbpkepcbmenbcaa", sum := "83c3e0b3fe303631ff85b4a10736180c508374b3ce0403a20bfc505c46f5ef02", func := "shutter/shutterlaw10.NodeBack", spec := "nodeBack", inPlace := ["sync/atomic.StoreInt64"], unfollowed := true, recurses := true, apart := false, narrowed := true }
def NodeBackUptoSaid : Prop := nodeBackUptoRow.holds Try.pinned (OpenSpec.upto nodeBackSpec)

/-- 'shutterlaw10.NodeNone', WHERE WHAT IT READS IS OF BULK AT MOST 1048576: true; the input reads as it did. -/
def nodeNoneUptoRow : OpenClaim := { program := "ytbpkepcbmenbcaa", sum := "83c3e0b3fe303631ff85b4a10736180c508374b3ce0403a20bfc505c46f5ef02", func := "shutter/shutterlaw10.NodeNone", spec := "nodeNone", inPlace := ["sync/atomic.StoreInt64"], unfollowed := true, recurses := true, apart := false, narrowed := true }
def NodeNoneUptoSaid : Prop := nodeNoneUptoRow.holds Try.pinned (OpenSpec.upto nodeNoneSpec)

/-- 'shutterlaw10.NodeRuns', WHERE WHAT IT READS IS OF BULK AT MOST 1048576: true; the input reads as it did. -/
def nodeRunsUptoRow : OpenClaim := { program := "ytbpkepcbmenbcaa", sum := "83c3e0b3fe303631ff85b4a10736180c508374b3ce0403a20bfc505c46f5ef02", func := "shutter/shutterlaw10.NodeRuns", spec := "nodeRuns", inPlace := ["sync/atomic.StoreInt64"], unfollowed := true, recurses := true, apart := false, narrowed := true }
def NodeRunsUptoSaid : Prop := nodeRunsUptoRow.holds Try.pinned (OpenSpec.upto nodeRunsSpec)

/-- 'shutterlaw10.NodeParts', WHERE WHAT IT READS IS OF BULK AT MOST 1048576: true; the input reads as it did. -/
def nodePartsUptoRow : OpenClaim := { program := "ytbpkepcbmenbcaa", sum := "83c3e0b3fe303631ff85b4a10736180c508374b3ce0403a20bfc505c46f5ef02", func := "shutter/shutterlaw10.NodeParts", spec := "nodeParts", inPlace := ["sync/atomic.StoreInt64"], unfollowed := true, recurses := true, apart := false, narrowed := true }
def NodePartsUptoSaid : Prop := nodePartsUptoRow.holds Try.pinned (OpenSpec.upto nodePartsSpec)

end Rows
end Go.Proofs.Ytbpkepcbmenbcaa
