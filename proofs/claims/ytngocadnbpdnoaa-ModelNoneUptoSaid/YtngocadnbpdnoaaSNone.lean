import Derived.Test.YtngocadnbpdnoaaSma
import Derived.Test.YtngocadnbpdnoaaSmb
import Derived.Test.YtngocadnbpdnoaaSmc
import Derived.Test.YtngocadnbpdnoaaSmd
import Derived.WalkKit
import Derived.ProofKit
import Derived.OpenShut
import Derived.ShutString
import Derived.ChangeOld
import Derived.Below
import Derived.SizedLaws
import Derived.JoinedCond
import Derived.Maps.Own
import Derived.Maps.OwnSet
import Derived.Maps.Views
import Derived.Maps.Ext
import Derived.Lib.SlMapEqual
import Derived.Lib.SlKeysI
import Derived.Shelf.SlLaysM
import Derived.Sort.WalkD1
import Derived.Sort.WalkB12
import Derived.Shelf.SlBodiesZ
import Derived.Shelf.SlGeneric
import Derived.Test.YtngocadnbpdnoaaProg
import Derived.Shelf.SlMaps.Clone
import Derived.Shelf.SlMaps.Equal
import Derived.Shelf.SlicesQ.IndexFunc
import Derived.Sort.KeysCollected
import Derived.Sort.OwnSorted
import Derived.Shelf.SlIter.Keys
import Derived.Shelf.AbstractIn
import Derived.RangeFuncSeq
import Derived.Sort.MapsRangeIn
import Derived.OwnWalkIn
import Derived.TacticsInMore
import Derived.RegionIn
import Derived.LoopNIn
import Derived.LoopIn
import Derived.Shelf.SlIter.Collect
import Derived.RangeFuncGives
import Derived.Maps.AppendAt
import Derived.Shelf.Abstract
import Derived.Shelf.SlIter.Sorted
import Derived.RangeFuncBound
import Derived.Shelf.SlIter.Nil
import Derived.Sort.Walk0
import Derived.Sort.CutIn
import Derived.Sort.QuietIn
import Derived.Sort.AtCallIn
import Derived.Shelf.RegionOpen
import Derived.Sort.WalkA
import Derived.Sort.BigQuietIn
import Derived.Sort.WalkA6
import Derived.Shelf.SortM.WalkA6In
import Derived.Sort.Walk7a
import Derived.Shelf.SortM.So_math_bits_LenIn
import Derived.Sort.Walk7
import Derived.Sort.WalkD2
import Derived.Sort.Walk11
import Derived.Shelf.SortM.PlainT
import Derived.Sort.WalkC
import Derived.Sort.WalkC4
import Derived.Sort.WalkB2
import Derived.Sort.WalkB3
import Derived.Sort.Walk13
import Derived.Sort.LotD6
import Derived.Sort.WalkA14
import Derived.Sort.LotD7
import Derived.Sort.AssemblyPlain
import Derived.Sort.EveryDepth
import Derived.Sort.LoopGhostIn
import Derived.Deep.Draws
import Derived.Deep.AppendLies
import Derived.OwnWalk
import Derived.Laws.BytesArg
import Derived.Laws.MakeOwn
import Derived.Laws.OwnMore
import Derived.Deep.OwnRows
import Derived.Tactics
import Derived.Lib.ConvBytes
import Derived.Laws.Slices
import Derived.KernelRfl
import Derived.RowKit3
import Derived.Deep.LoopGhost
import Derived.Deep.QuietTactic
import Derived.BigQuiet
import Derived.WideLaws
import Derived.Deep.DeepCutAuto
import Derived.Deep.CutBlock
import Derived.Deep.RegionHeld3
import Derived.Laws.Rows
import Derived.Lib.AppendStr
import Derived.ArgAppend
import Derived.Laws.IdiomCopy
import Derived.RowKit
import Derived.OrdersHeld
import Derived.Laws.BitsLemmas
import Derived.Laws.StructEq
import Derived.Lib.Hide
import Derived.Maps.OwnOps
import Derived.Maps.RangeWalk
import Derived.Laws.Pointers
import Derived.Shelf.SlicesE.Equal
import Derived.BigRegion
import Derived.Laws.CopyRow
import Derived.StillTailTactics
import Derived.Deep.RegionLaw
import Derived.Test.YtngocadnbpdnoaaRows
import Derived.Deep.Slices
import Derived.Deep.CondSized
-- from Bn0
namespace Go.Proofs.Ytngocadnbpdnoaa.Mo
open Go Go.Maps Go.RowKit Go.Proofs.Ytngocadnbpdnoaa.Srt Go.Proofs.Ytngocadnbpdnoaa.Q Go.Proofs.YtngocadnbpdnoaaW.PrintWords Go.Proofs.YtngocadnbpdnoaaW.PrintLast Go.Proofs.YtngocadnbpdnoaaW.PrintMore Go.Proofs.Ytngocadnbpdnoaa.Open
set_option linter.unusedVariables false
set_option linter.unusedSimpArgs false
set_option maxRecDepth 100000 in
set_option maxHeartbeats 4000000 in
theorem nilTakeM (u v : Array Value) (w : World) : Calls Try.prog 22 #[.pointer none, .agg u, .agg v] w fun e w' => e = .returned (.bool false) ∧ Below w.heap.size w w' := by
  skip
  go_enter Try.func22, Try.ntmps22
  go_wp2
  go_ret
  exact ⟨rfl, by first | exact Below.refl _ _ | exact below_alloc (Below.refl _ _) _ | exact below_alloc (below_alloc (Below.refl _ _) _) _ | exact pw_below_drewN (Below.refl _ _) _⟩
set_option maxRecDepth 100000 in
set_option maxHeartbeats 4000000 in
theorem nilTakeR (u v : Array Value) (w : World) : Calls Try.prog 23 #[.pointer none, .agg u, .agg v] w fun e w' => e = .returned (.bool false) ∧ Below w.heap.size w w' := by
  skip
  go_enter Try.func23, Try.ntmps23
  go_wp2
  go_ret
  exact ⟨rfl, by first | exact Below.refl _ _ | exact below_alloc (Below.refl _ _) _ | exact below_alloc (below_alloc (Below.refl _ _) _) _ | exact pw_below_drewN (Below.refl _ _) _⟩
set_option maxRecDepth 100000 in
set_option maxHeartbeats 4000000 in
theorem nilContM  (w : World) : Calls Try.prog 17 #[.pointer none] w fun e w' => e = .returned (.slice none 0 0) ∧ Below w.heap.size w w' := by
  skip
  go_enter Try.func17, Try.ntmps17
  go_wp2
  go_ret
  exact ⟨rfl, by first | exact Below.refl _ _ | exact below_alloc (Below.refl _ _) _ | exact below_alloc (below_alloc (Below.refl _ _) _) _ | exact pw_below_drewN (Below.refl _ _) _⟩
set_option maxRecDepth 100000 in
set_option maxHeartbeats 4000000 in
theorem nilContR  (w : World) : Calls Try.prog 45 #[.pointer none] w fun e w' => e = .returned (.slice none 0 0) ∧ Below w.heap.size w w' := by
  skip
  go_enter Try.func45, Try.ntmps45
  go_wp2
  go_ret
  exact ⟨rfl, by first | exact Below.refl _ _ | exact below_alloc (Below.refl _ _) _ | exact below_alloc (below_alloc (Below.refl _ _) _) _ | exact pw_below_drewN (Below.refl _ _) _⟩
set_option maxRecDepth 100000 in
set_option maxHeartbeats 4000000 in
theorem nilHandM  (w : World) : Calls Try.prog 27 #[.pointer none] w fun e w' => e = .returned (.slice none 0 0) ∧ Below w.heap.size w w' := by
  skip
  go_enter Try.func27, Try.ntmps27
  go_wp2
  go_ret
  exact ⟨rfl, by first | exact Below.refl _ _ | exact below_alloc (Below.refl _ _) _ | exact below_alloc (below_alloc (Below.refl _ _) _) _ | exact pw_below_drewN (Below.refl _ _) _⟩
set_option maxRecDepth 100000 in
set_option maxHeartbeats 4000000 in
theorem nilHeldM (k : Int) (w : World) : Calls Try.prog 16 #[.pointer none, .int .u64 k] w fun e w' => e = .returned (.tuple #[.slice none 0 0, .bool false]) ∧ Below w.heap.size w w' := by
  skip
  go_enter Try.func16, Try.ntmps16
  go_wp2
  go_ret2
  exact ⟨rfl, by first | exact Below.refl _ _ | exact below_alloc (Below.refl _ _) _ | exact below_alloc (below_alloc (Below.refl _ _) _) _ | exact pw_below_drewN (Below.refl _ _) _⟩
set_option maxRecDepth 100000 in
set_option maxHeartbeats 4000000 in
theorem nilForkM  (w : World) : Calls Try.prog 30 #[.pointer none] w fun e w' => e = .returned (.pointer none) ∧ Below w.heap.size w w' := by
  skip
  go_enter Try.func30, Try.ntmps30
  go_wp2
  go_ret
  exact ⟨rfl, by first | exact Below.refl _ _ | exact below_alloc (Below.refl _ _) _ | exact below_alloc (below_alloc (Below.refl _ _) _) _ | exact pw_below_drewN (Below.refl _ _) _⟩
set_option maxRecDepth 100000 in
set_option maxHeartbeats 4000000 in
theorem nilSameM  (w : World) : Calls Try.prog 31 #[.pointer none, .pointer none] w fun e w' => e = .returned (.bool true) ∧ Below w.heap.size w w' := by
  skip
  go_enter Try.func31, Try.ntmps31
  go_wp2
  go_ret
  exact ⟨rfl, by first | exact Below.refl _ _ | exact below_alloc (Below.refl _ _) _ | exact below_alloc (below_alloc (Below.refl _ _) _) _ | exact pw_below_drewN (Below.refl _ _) _⟩
set_option maxRecDepth 100000 in
set_option maxHeartbeats 4000000 in
theorem nilSame1 (g : Nat) (w : World) : Calls Try.prog 31 #[.pointer none, .pointer (some ⟨g, 0, none⟩)] w fun e w' => e = .returned (.bool false) ∧ Below w.heap.size w w' := by
  have hu : ∀ W : World, (binOp BinOp.eql 30 (.pointer none) (.pointer (some ⟨g, 0, none⟩))).run Try.prog W = .ok (.bool false) W := fun W => by kernel_rfl
  go_enter Try.func31, Try.ntmps31
  go_wp2
  go_ret
  exact ⟨rfl, by first | exact Below.refl _ _ | exact below_alloc (Below.refl _ _) _ | exact below_alloc (below_alloc (Below.refl _ _) _) _ | exact pw_below_drewN (Below.refl _ _) _⟩
set_option maxRecDepth 100000 in
set_option maxHeartbeats 4000000 in
theorem nilSame2 (g : Nat) (w : World) : Calls Try.prog 31 #[.pointer (some ⟨g, 0, none⟩), .pointer none] w fun e w' => e = .returned (.bool false) ∧ Below w.heap.size w w' := by
  skip
  go_enter Try.func31, Try.ntmps31
  go_wp2
  go_ret
  exact ⟨rfl, by first | exact Below.refl _ _ | exact below_alloc (Below.refl _ _) _ | exact below_alloc (below_alloc (Below.refl _ _) _) _ | exact pw_below_drewN (Below.refl _ _) _⟩
set_option maxRecDepth 100000 in
set_option maxHeartbeats 4000000 in
theorem nilDoM (u : Array Value) (h : Int) (w : World) : Calls Try.prog 15 #[.pointer none, .agg u, .int .u64 h] w fun e w' => e = .returned (.agg #[.int .i64 1, .bool false, .int .u64 0, .bool false, .int .u64 0, .slice none 0 0, .int .u64 0]) ∧ Below w.heap.size w w' := by
  go_enter Try.func15, Try.ntmps15
  go_wp2
  exact bodyPost_ret (v := (.agg #[.int .i64 1, .bool false, .int .u64 0, .bool false, .int .u64 0, .slice none 0 0, .int .u64 0])) (by simp [results, Try.results15, go_sem]) rfl ⟨rfl, by first | exact below_alloc (below_alloc (Below.refl _ _) _) _ | exact below_alloc (Below.refl _ _) _⟩
set_option maxRecDepth 100000 in
set_option maxHeartbeats 4000000 in
theorem nilDoR (u : Array Value) (h : Int) (w : World) : Calls Try.prog 24 #[.pointer none, .agg u, .int .u64 h] w fun e w' => e = .returned (.agg #[.int .i64 1, .bool false, .int .u64 0, .bool false, .int .u64 0, .slice none 0 0, .int .u64 0]) ∧ Below w.heap.size w w' := by
  go_enter Try.func24, Try.ntmps24
  go_wp2
  exact bodyPost_ret (v := (.agg #[.int .i64 1, .bool false, .int .u64 0, .bool false, .int .u64 0, .slice none 0 0, .int .u64 0])) (by simp [results, Try.results24, go_sem]) rfl ⟨rfl, by first | exact below_alloc (below_alloc (Below.refl _ _) _) _ | exact below_alloc (Below.refl _ _) _⟩
set_option maxRecDepth 100000 in
set_option maxHeartbeats 4000000 in
theorem nilHandR (w : World) : Calls Try.prog 28 #[.pointer none] w fun e w' => e = .returned (.slice none 0 0) ∧ Below w.heap.size w w' := by
  go_enter Try.func28, Try.ntmps28
  go_wp2
  go_loopw [3, 4] (fun v3 v4 wr => v3 = .slice none 0 0 ∧ v4 = .int .i64 0 ∧ Hid (Below w.heap.size w wr)) (fun _ v4 _ => 0)
  case atStart => exact ⟨rfl, rfl, Lib.hid (Below.refl _ _)⟩
  case round =>
    obtain ⟨rfl, rfl, HB⟩ := hrel
    go_wp2
    go_ret
    exact ⟨rfl, HB.out⟩
end Go.Proofs.Ytngocadnbpdnoaa.Mo

-- from Bn1
namespace Go.Proofs.Ytngocadnbpdnoaa.Mo
open Go Go.Maps Go.RowKit Go.Proofs.Ytngocadnbpdnoaa.Srt Go.Proofs.Ytngocadnbpdnoaa.Q Go.Proofs.YtngocadnbpdnoaaW.PrintWords Go.Proofs.YtngocadnbpdnoaaW.PrintLast Go.Proofs.YtngocadnbpdnoaaW.PrintMore Go.Proofs.Ytngocadnbpdnoaa.Open
set_option linter.unusedVariables false
set_option linter.unusedSimpArgs false
def bothN : Array Value := #[.pointer none, .pointer none]
theorem cells_box0 {W : World} {pb : Nat} (h : W.heap[pb]? = some (.cells bothN 77 (0, 0))) : W.cell? ⟨pb, 0, none⟩ = some (.pointer none) ∧ W.cell? ⟨pb, 1, none⟩ = some (.pointer none) := by
  refine ⟨?_, ?_⟩ <;> (rw [blk_cell h]; rfl)
theorem cells_take0 {W : World} {pb gc gi ga g2 c2 h2 d2 : Nat} {x : CallS} {A B : Option Addr} {c d : Nat} (h1 : W.heap[pb]? = some (.cells bothN 77 (0, 0))) (h2' : W.heap[gc]? = some (.cells (callC x A c B d) 41 (0, 0))) (h3 : Kd.C (kRaw 11) W (some ⟨gi, 0, none⟩) 10 (rawO x.op (some ⟨g2, 0, none⟩) c2 :: marksO)) (h4 : Kd.C (kRaw 7) W (some ⟨ga, 0, none⟩) 10 (rawA x.an (some ⟨h2, 0, none⟩) d2 :: marksA)) : W.cell? ⟨pb, 0, none⟩ = some (.pointer none) ∧ W.cell? ⟨pb, 1, none⟩ = some (.pointer none) ∧ W.cell? ⟨gc, 0, none⟩ = some (.bool x.tk) ∧ W.cell? ⟨gc, 1, none⟩ = some (.int .u8 x.op.f0) ∧ W.cell? ⟨gc, 2, none⟩ = some (.int .u64 x.op.f1) ∧ W.cell? ⟨gc, 3, none⟩ = some (.int .u64 x.op.f2) ∧ W.cell? ⟨gc, 4, none⟩ = some (.int .u64 x.op.f3) ∧ W.cell? ⟨gc, 5, none⟩ = some (.int .u64 x.op.f4) ∧ W.cell? ⟨gc, 6, none⟩ = some (.bool x.op.f5.f0) ∧ W.cell? ⟨gc, 7, none⟩ = some (.int .i64 x.op.f5.f1) ∧ W.cell? ⟨gc, 8, none⟩ = some (.int .i64 x.op.f5.f2) ∧ W.cell? ⟨gc, 9, none⟩ = some (.slice A x.op.f6.length c) ∧ W.cell? ⟨gc, 10, none⟩ = some (.int .u64 x.op.f7) ∧ W.cell? ⟨gc, 11, none⟩ = some (.int .u64 x.op.f8) ∧ W.cell? ⟨gc, 12, none⟩ = some (.int .i64 x.an.f0) ∧ W.cell? ⟨gc, 13, none⟩ = some (.bool x.an.f1) ∧ W.cell? ⟨gc, 14, none⟩ = some (.int .u64 x.an.f2) ∧ W.cell? ⟨gc, 15, none⟩ = some (.bool x.an.f3) ∧ W.cell? ⟨gc, 16, none⟩ = some (.int .u64 x.an.f4) ∧ W.cell? ⟨gc, 17, none⟩ = some (.slice B x.an.f5.length d) ∧ W.cell? ⟨gc, 18, none⟩ = some (.int .u64 x.an.f6) ∧ W.cell? ⟨gc, 19, none⟩ = some (.int .u64 x.hd) ∧ W.cell? ⟨gi, 0, none⟩ = some (.int .u8 x.op.f0) ∧ W.cell? ⟨gi, 1, none⟩ = some (.int .u64 x.op.f1) ∧ W.cell? ⟨gi, 2, none⟩ = some (.int .u64 x.op.f2) ∧ W.cell? ⟨gi, 3, none⟩ = some (.int .u64 x.op.f3) ∧ W.cell? ⟨gi, 4, none⟩ = some (.int .u64 x.op.f4) ∧ W.cell? ⟨gi, 5, none⟩ = some (.bool x.op.f5.f0) ∧ W.cell? ⟨gi, 6, none⟩ = some (.int .i64 x.op.f5.f1) ∧ W.cell? ⟨gi, 7, none⟩ = some (.int .i64 x.op.f5.f2) ∧ W.cell? ⟨gi, 8, none⟩ = some (.slice (some ⟨g2, 0, none⟩) x.op.f6.length c2) ∧ W.cell? ⟨gi, 9, none⟩ = some (.int .u64 x.op.f7) ∧ W.cell? ⟨gi, 10, none⟩ = some (.int .u64 x.op.f8) ∧ W.cell? ⟨ga, 0, none⟩ = some (.int .i64 x.an.f0) ∧ W.cell? ⟨ga, 1, none⟩ = some (.bool x.an.f1) ∧ W.cell? ⟨ga, 2, none⟩ = some (.int .u64 x.an.f2) ∧ W.cell? ⟨ga, 3, none⟩ = some (.bool x.an.f3) ∧ W.cell? ⟨ga, 4, none⟩ = some (.int .u64 x.an.f4) ∧ W.cell? ⟨ga, 5, none⟩ = some (.slice (some ⟨h2, 0, none⟩) x.an.f5.length d2) ∧ W.cell? ⟨ga, 6, none⟩ = some (.int .u64 x.an.f6) := by
  have a := cells_box0 h1
  have b := cells_call h2'
  have c := cells_inO h3
  have d := cells_inA h4
  simp only [a, b, c, d, and_self]
theorem cells_do0 {W : World} {pb gc gi g2 c2 : Nat} {x : CallS} {A B : Option Addr} {c d : Nat} (h1 : W.heap[pb]? = some (.cells bothN 77 (0, 0))) (h2' : W.heap[gc]? = some (.cells (callC x A c B d) 41 (0, 0))) (h3 : Kd.C (kRaw 11) W (some ⟨gi, 0, none⟩) 10 (rawO x.op (some ⟨g2, 0, none⟩) c2 :: marksO)) : W.cell? ⟨pb, 0, none⟩ = some (.pointer none) ∧ W.cell? ⟨pb, 1, none⟩ = some (.pointer none) ∧ W.cell? ⟨gc, 0, none⟩ = some (.bool x.tk) ∧ W.cell? ⟨gc, 1, none⟩ = some (.int .u8 x.op.f0) ∧ W.cell? ⟨gc, 2, none⟩ = some (.int .u64 x.op.f1) ∧ W.cell? ⟨gc, 3, none⟩ = some (.int .u64 x.op.f2) ∧ W.cell? ⟨gc, 4, none⟩ = some (.int .u64 x.op.f3) ∧ W.cell? ⟨gc, 5, none⟩ = some (.int .u64 x.op.f4) ∧ W.cell? ⟨gc, 6, none⟩ = some (.bool x.op.f5.f0) ∧ W.cell? ⟨gc, 7, none⟩ = some (.int .i64 x.op.f5.f1) ∧ W.cell? ⟨gc, 8, none⟩ = some (.int .i64 x.op.f5.f2) ∧ W.cell? ⟨gc, 9, none⟩ = some (.slice A x.op.f6.length c) ∧ W.cell? ⟨gc, 10, none⟩ = some (.int .u64 x.op.f7) ∧ W.cell? ⟨gc, 11, none⟩ = some (.int .u64 x.op.f8) ∧ W.cell? ⟨gc, 12, none⟩ = some (.int .i64 x.an.f0) ∧ W.cell? ⟨gc, 13, none⟩ = some (.bool x.an.f1) ∧ W.cell? ⟨gc, 14, none⟩ = some (.int .u64 x.an.f2) ∧ W.cell? ⟨gc, 15, none⟩ = some (.bool x.an.f3) ∧ W.cell? ⟨gc, 16, none⟩ = some (.int .u64 x.an.f4) ∧ W.cell? ⟨gc, 17, none⟩ = some (.slice B x.an.f5.length d) ∧ W.cell? ⟨gc, 18, none⟩ = some (.int .u64 x.an.f6) ∧ W.cell? ⟨gc, 19, none⟩ = some (.int .u64 x.hd) ∧ W.cell? ⟨gi, 0, none⟩ = some (.int .u8 x.op.f0) ∧ W.cell? ⟨gi, 1, none⟩ = some (.int .u64 x.op.f1) ∧ W.cell? ⟨gi, 2, none⟩ = some (.int .u64 x.op.f2) ∧ W.cell? ⟨gi, 3, none⟩ = some (.int .u64 x.op.f3) ∧ W.cell? ⟨gi, 4, none⟩ = some (.int .u64 x.op.f4) ∧ W.cell? ⟨gi, 5, none⟩ = some (.bool x.op.f5.f0) ∧ W.cell? ⟨gi, 6, none⟩ = some (.int .i64 x.op.f5.f1) ∧ W.cell? ⟨gi, 7, none⟩ = some (.int .i64 x.op.f5.f2) ∧ W.cell? ⟨gi, 8, none⟩ = some (.slice (some ⟨g2, 0, none⟩) x.op.f6.length c2) ∧ W.cell? ⟨gi, 9, none⟩ = some (.int .u64 x.op.f7) ∧ W.cell? ⟨gi, 10, none⟩ = some (.int .u64 x.op.f8) := by
  have a := cells_box0 h1
  have b := cells_call h2'
  have c := cells_inO h3
  simp only [a, b, c, and_self]
theorem cells_do20 {W : World} {pb gc gi g2 c2 : Nat} {x : CallS} {A B : Option Addr} {c d : Nat} (h1 : W.heap[pb]? = some (.cells bothN 77 (0, 0))) (h2' : W.heap[gc]? = some (.cells (callC x A c B d) 41 (0, 0))) (h3 : Kd.C (kRaw 11) W (some ⟨gi, 0, none⟩) 10 (rawO x.op (some ⟨g2, 0, none⟩) c2 :: marksO)) {g8 : Nat} (h4 : W.heap[g8]? = some (.cells #[.int .i64 1, .bool false, .int .u64 0, .bool false, .int .u64 0, .slice none 0 0, .int .u64 0] 26 (0, 0))) : W.cell? ⟨pb, 0, none⟩ = some (.pointer none) ∧ W.cell? ⟨pb, 1, none⟩ = some (.pointer none) ∧ W.cell? ⟨gc, 0, none⟩ = some (.bool x.tk) ∧ W.cell? ⟨gc, 1, none⟩ = some (.int .u8 x.op.f0) ∧ W.cell? ⟨gc, 2, none⟩ = some (.int .u64 x.op.f1) ∧ W.cell? ⟨gc, 3, none⟩ = some (.int .u64 x.op.f2) ∧ W.cell? ⟨gc, 4, none⟩ = some (.int .u64 x.op.f3) ∧ W.cell? ⟨gc, 5, none⟩ = some (.int .u64 x.op.f4) ∧ W.cell? ⟨gc, 6, none⟩ = some (.bool x.op.f5.f0) ∧ W.cell? ⟨gc, 7, none⟩ = some (.int .i64 x.op.f5.f1) ∧ W.cell? ⟨gc, 8, none⟩ = some (.int .i64 x.op.f5.f2) ∧ W.cell? ⟨gc, 9, none⟩ = some (.slice A x.op.f6.length c) ∧ W.cell? ⟨gc, 10, none⟩ = some (.int .u64 x.op.f7) ∧ W.cell? ⟨gc, 11, none⟩ = some (.int .u64 x.op.f8) ∧ W.cell? ⟨gc, 12, none⟩ = some (.int .i64 x.an.f0) ∧ W.cell? ⟨gc, 13, none⟩ = some (.bool x.an.f1) ∧ W.cell? ⟨gc, 14, none⟩ = some (.int .u64 x.an.f2) ∧ W.cell? ⟨gc, 15, none⟩ = some (.bool x.an.f3) ∧ W.cell? ⟨gc, 16, none⟩ = some (.int .u64 x.an.f4) ∧ W.cell? ⟨gc, 17, none⟩ = some (.slice B x.an.f5.length d) ∧ W.cell? ⟨gc, 18, none⟩ = some (.int .u64 x.an.f6) ∧ W.cell? ⟨gc, 19, none⟩ = some (.int .u64 x.hd) ∧ W.cell? ⟨gi, 0, none⟩ = some (.int .u8 x.op.f0) ∧ W.cell? ⟨gi, 1, none⟩ = some (.int .u64 x.op.f1) ∧ W.cell? ⟨gi, 2, none⟩ = some (.int .u64 x.op.f2) ∧ W.cell? ⟨gi, 3, none⟩ = some (.int .u64 x.op.f3) ∧ W.cell? ⟨gi, 4, none⟩ = some (.int .u64 x.op.f4) ∧ W.cell? ⟨gi, 5, none⟩ = some (.bool x.op.f5.f0) ∧ W.cell? ⟨gi, 6, none⟩ = some (.int .i64 x.op.f5.f1) ∧ W.cell? ⟨gi, 7, none⟩ = some (.int .i64 x.op.f5.f2) ∧ W.cell? ⟨gi, 8, none⟩ = some (.slice (some ⟨g2, 0, none⟩) x.op.f6.length c2) ∧ W.cell? ⟨gi, 9, none⟩ = some (.int .u64 x.op.f7) ∧ W.cell? ⟨gi, 10, none⟩ = some (.int .u64 x.op.f8) ∧ W.cell? ⟨g8, 0, none⟩ = some (.int .i64 1) ∧ W.cell? ⟨g8, 1, none⟩ = some (.bool false) ∧ W.cell? ⟨g8, 2, none⟩ = some (.int .u64 0) ∧ W.cell? ⟨g8, 3, none⟩ = some (.bool false) ∧ W.cell? ⟨g8, 4, none⟩ = some (.int .u64 0) ∧ W.cell? ⟨g8, 5, none⟩ = some (.slice none 0 0) ∧ W.cell? ⟨g8, 6, none⟩ = some (.int .u64 0) := by
  have a := cells_box0 h1
  have b := cells_call h2'
  have c := cells_inO h3
  have d : W.cell? ⟨g8, 0, none⟩ = some (.int .i64 1) ∧ W.cell? ⟨g8, 1, none⟩ = some (.bool false) ∧ W.cell? ⟨g8, 2, none⟩ = some (.int .u64 0) ∧ W.cell? ⟨g8, 3, none⟩ = some (.bool false) ∧ W.cell? ⟨g8, 4, none⟩ = some (.int .u64 0) ∧ W.cell? ⟨g8, 5, none⟩ = some (.slice none 0 0) ∧ W.cell? ⟨g8, 6, none⟩ = some (.int .u64 0) := by refine ⟨?_, ?_, ?_, ?_, ?_, ?_, ?_⟩ <;> (rw [blk_cell h4]; rfl)
  simp only [a, b, c, d, and_self]
set_option maxRecDepth 100000 in
set_option maxHeartbeats 16000000 in
theorem calln_take {ws : World} (pb : Nat) (hbox : ws.heap[pb]? = some (.cells bothN 77 (0, 0))) (x : CallS) (A : Option Addr) (c : Nat) (B : Option Addr) (d : Nat)
    (hA : Kd.C (Kd.int .u64) ws A x.op.f6.length x.op.f6) (hAc : x.op.f6.length ≤ c) (hAn : x.op.f6.length ≤ 1099511627776) (hB : Kd.C kSP ws B x.an.f5.length x.an.f5) (hBd : x.an.f5.length ≤ d) (hBn : x.an.f5.length ≤ 1099511627776) (htk : x.tk = true) :
    Calls Try.prog 20 #[.pointer (some ⟨pb, 0, none⟩), .agg (callC x A c B d)] ws (fun e w1 => e = .returned (.bool true) ∧ Below ws.heap.size ws w1) := by
  have HBOX := Lib.hid hbox
  have HA := Lib.hid hA
  have HB := Lib.hid hB
  have HAC := Lib.hid hAc
  have HAN := Lib.hid hAn
  have HBD := Lib.hid hBd
  have HBN := Lib.hid hBn
  clear hbox hA hB hAc hAn hBd hBn
  obtain ⟨gc, hgc⟩ : ∃ gc, gc = ws.heap.size := ⟨_, rfl⟩
  have HGC := Lib.hid hgc
  obtain ⟨W0, hW0⟩ : ∃ W0, W0 = ws.alloc (.cells (callC x A c B d) 41) := ⟨_, rfl⟩
  have HW0 := Lib.hid hW0
  have hb0 : Below ws.heap.size ws W0 := by rw [hW0]; exact below_alloc (Below.refl _ _) _
  have hc0 : W0.heap[gc]? = some (.cells (callC x A c B d) 41 (0, 0)) := by rw [hW0, hgc]; exact heap_alloc_new ws _
  have HB0 := Lib.hid hb0
  have HC0 := Lib.hid hc0
  clear hgc hW0 hb0 hc0
  go_enter Try.func20, Try.ntmps20
  go_upto_region 1 with fail
  change Code.wp _ _ _ _ (ws.alloc (.cells (callC x A c B d) 41))
  rw [← HW0.out, ← HGC.out]
  obtain ⟨k0, k1, k2, k3, k4, k5, k6, k7, k8, k9, k10, k11, k12, k13, k14, k15, k16, k17, k18, k19⟩ := cells_call HC0.out
  go_wp2_with fail
  go_at_call 40
  have hz0 := HB0.out.size
  have hbl := below_alloc (Below.refl _ W0) (.cells (opC x.op A c) 39)
  refine (handO_c W0.heap.size x.op A c _ (heap_alloc_new W0 _) (Kd.C_below HA.out (HB0.out.trans (hbl.mono hz0))) HAC.out HAN.out).mono ?_
  rintro e w2 ⟨gi, cpi, g2, c2, rfl, ⟨hcpi, hgi, hg2, hc2, hRI, hRJ⟩, hB2⟩
  have hbw2 : Below ws.heap.size ws w2 := (HB0.out.trans (hbl.mono hz0)).trans (hB2.mono (Nat.le_trans hz0 hbl.size))
  have HI := Lib.hid (by have h := Kd.R_reads' hRI; have h2 := h.2.2; rw [← h.1] at h2; exact h2)
  have HIJ := Lib.hid (by have h := Kd.R_reads' hRJ; have h2 := h.2.2; rw [← h.1] at h2; exact h2)
  have HCPI := Lib.hid hcpi
  have HCP2 := Lib.hid hc2
  have HB2 := Lib.hid hbw2
  have HC2 := Lib.hid (blk_below (blk_below HC0.out hbl) (hB2.mono (by simp)))
  have HX2 := Lib.hid (blk_below HBOX.out hbw2)
  clear hcpi hgi hg2 hc2 hRI hRJ hB2 hbw2 hz0 hbl k0 k1 k2 k3 k4 k5 k6 k7 k8 k9 k10 k11 k12 k13 k14 k15 k16 k17 k18 k19
  obtain ⟨k0, k1, k2, k3, k4, k5, k6, k7, k8, k9, k10, k11, k12, k13, k14, k15, k16, k17, k18, k19⟩ := cells_call HC2.out
  rw [htk] at k0
  go_wp2_with fail
  go_at_call 41
  have hz2 := HB2.out.size
  have hbl := below_alloc (Below.refl _ w2) (.cells (ansC x.an.f0 x.an.f1 x.an.f2 x.an.f3 x.an.f4 (.slice B x.an.f5.length d) x.an.f6) 26)
  refine (handA_c w2.heap.size x.an B d _ (heap_alloc_new w2 _) (Kd.C_below HB.out (HB2.out.trans (hbl.mono hz2))) HBD.out HBN.out).mono ?_
  rintro e w4 ⟨ga, cpa, h2, d2, rfl, ⟨hcpa, hga, hh2, hd2, hRA, hRB⟩, hB4⟩
  have HIA := Lib.hid (by have h := Kd.R_reads' hRA; have h2 := h.2.2; rw [← h.1] at h2; exact h2)
  have HIB := Lib.hid (by have h := Kd.R_reads' hRB; have h2 := h.2.2; rw [← h.1] at h2; exact h2)
  have HB24 := Lib.hid (hbl.trans (hB4.mono hbl.size))
  have HCPA := Lib.hid hcpa
  have HD2 := Lib.hid hd2
  clear hcpa hga hh2 hd2 hRA hRB hB4 hz2 hbl k0 k1 k2 k3 k4 k5 k6 k7 k8 k9 k10 k11 k12 k13 k14 k15 k16 k17 k18 k19
  have HF : Hid (∀ W, Below w4.heap.size w4 W → W.cell? ⟨pb, 0, none⟩ = some (.pointer none) ∧ W.cell? ⟨pb, 1, none⟩ = some (.pointer none) ∧ W.cell? ⟨gc, 0, none⟩ = some (.bool x.tk) ∧ W.cell? ⟨gc, 1, none⟩ = some (.int .u8 x.op.f0) ∧ W.cell? ⟨gc, 2, none⟩ = some (.int .u64 x.op.f1) ∧ W.cell? ⟨gc, 3, none⟩ = some (.int .u64 x.op.f2) ∧ W.cell? ⟨gc, 4, none⟩ = some (.int .u64 x.op.f3) ∧ W.cell? ⟨gc, 5, none⟩ = some (.int .u64 x.op.f4) ∧ W.cell? ⟨gc, 6, none⟩ = some (.bool x.op.f5.f0) ∧ W.cell? ⟨gc, 7, none⟩ = some (.int .i64 x.op.f5.f1) ∧ W.cell? ⟨gc, 8, none⟩ = some (.int .i64 x.op.f5.f2) ∧ W.cell? ⟨gc, 9, none⟩ = some (.slice A x.op.f6.length c) ∧ W.cell? ⟨gc, 10, none⟩ = some (.int .u64 x.op.f7) ∧ W.cell? ⟨gc, 11, none⟩ = some (.int .u64 x.op.f8) ∧ W.cell? ⟨gc, 12, none⟩ = some (.int .i64 x.an.f0) ∧ W.cell? ⟨gc, 13, none⟩ = some (.bool x.an.f1) ∧ W.cell? ⟨gc, 14, none⟩ = some (.int .u64 x.an.f2) ∧ W.cell? ⟨gc, 15, none⟩ = some (.bool x.an.f3) ∧ W.cell? ⟨gc, 16, none⟩ = some (.int .u64 x.an.f4) ∧ W.cell? ⟨gc, 17, none⟩ = some (.slice B x.an.f5.length d) ∧ W.cell? ⟨gc, 18, none⟩ = some (.int .u64 x.an.f6) ∧ W.cell? ⟨gc, 19, none⟩ = some (.int .u64 x.hd) ∧ W.cell? ⟨gi, 0, none⟩ = some (.int .u8 x.op.f0) ∧ W.cell? ⟨gi, 1, none⟩ = some (.int .u64 x.op.f1) ∧ W.cell? ⟨gi, 2, none⟩ = some (.int .u64 x.op.f2) ∧ W.cell? ⟨gi, 3, none⟩ = some (.int .u64 x.op.f3) ∧ W.cell? ⟨gi, 4, none⟩ = some (.int .u64 x.op.f4) ∧ W.cell? ⟨gi, 5, none⟩ = some (.bool x.op.f5.f0) ∧ W.cell? ⟨gi, 6, none⟩ = some (.int .i64 x.op.f5.f1) ∧ W.cell? ⟨gi, 7, none⟩ = some (.int .i64 x.op.f5.f2) ∧ W.cell? ⟨gi, 8, none⟩ = some (.slice (some ⟨g2, 0, none⟩) x.op.f6.length c2) ∧ W.cell? ⟨gi, 9, none⟩ = some (.int .u64 x.op.f7) ∧ W.cell? ⟨gi, 10, none⟩ = some (.int .u64 x.op.f8) ∧ W.cell? ⟨ga, 0, none⟩ = some (.int .i64 x.an.f0) ∧ W.cell? ⟨ga, 1, none⟩ = some (.bool x.an.f1) ∧ W.cell? ⟨ga, 2, none⟩ = some (.int .u64 x.an.f2) ∧ W.cell? ⟨ga, 3, none⟩ = some (.bool x.an.f3) ∧ W.cell? ⟨ga, 4, none⟩ = some (.int .u64 x.an.f4) ∧ W.cell? ⟨ga, 5, none⟩ = some (.slice (some ⟨h2, 0, none⟩) x.an.f5.length d2) ∧ W.cell? ⟨ga, 6, none⟩ = some (.int .u64 x.an.f6)) := Lib.hid (fun W hW => by
    have h2w : Below w2.heap.size w2 W := HB24.out.trans (hW.mono HB24.out.size)
    exact cells_take0 (blk_below HX2.out h2w) (blk_below HC2.out h2w) (Kd.C_below HI.out h2w) (Kd.C_below HIA.out hW))
  have HD4 := Lib.hid (below_drew (Below.refl w4.heap.size w4))
  have hS4 := HF.out _ HD4.out
  go_upto_region 5 with fail
  go_region_held3 (fun w' => w'.cell? ⟨pb, 0, none⟩ = some (.pointer none) ∧ w'.cell? ⟨pb, 1, none⟩ = some (.pointer none) ∧ w'.cell? ⟨gc, 0, none⟩ = some (.bool x.tk) ∧ w'.cell? ⟨gc, 1, none⟩ = some (.int .u8 x.op.f0) ∧ w'.cell? ⟨gc, 2, none⟩ = some (.int .u64 x.op.f1) ∧ w'.cell? ⟨gc, 3, none⟩ = some (.int .u64 x.op.f2) ∧ w'.cell? ⟨gc, 4, none⟩ = some (.int .u64 x.op.f3) ∧ w'.cell? ⟨gc, 5, none⟩ = some (.int .u64 x.op.f4) ∧ w'.cell? ⟨gc, 6, none⟩ = some (.bool x.op.f5.f0) ∧ w'.cell? ⟨gc, 7, none⟩ = some (.int .i64 x.op.f5.f1) ∧ w'.cell? ⟨gc, 8, none⟩ = some (.int .i64 x.op.f5.f2) ∧ w'.cell? ⟨gc, 9, none⟩ = some (.slice A x.op.f6.length c) ∧ w'.cell? ⟨gc, 10, none⟩ = some (.int .u64 x.op.f7) ∧ w'.cell? ⟨gc, 11, none⟩ = some (.int .u64 x.op.f8) ∧ w'.cell? ⟨gc, 12, none⟩ = some (.int .i64 x.an.f0) ∧ w'.cell? ⟨gc, 13, none⟩ = some (.bool x.an.f1) ∧ w'.cell? ⟨gc, 14, none⟩ = some (.int .u64 x.an.f2) ∧ w'.cell? ⟨gc, 15, none⟩ = some (.bool x.an.f3) ∧ w'.cell? ⟨gc, 16, none⟩ = some (.int .u64 x.an.f4) ∧ w'.cell? ⟨gc, 17, none⟩ = some (.slice B x.an.f5.length d) ∧ w'.cell? ⟨gc, 18, none⟩ = some (.int .u64 x.an.f6) ∧ w'.cell? ⟨gc, 19, none⟩ = some (.int .u64 x.hd) ∧ w'.cell? ⟨gi, 0, none⟩ = some (.int .u8 x.op.f0) ∧ w'.cell? ⟨gi, 1, none⟩ = some (.int .u64 x.op.f1) ∧ w'.cell? ⟨gi, 2, none⟩ = some (.int .u64 x.op.f2) ∧ w'.cell? ⟨gi, 3, none⟩ = some (.int .u64 x.op.f3) ∧ w'.cell? ⟨gi, 4, none⟩ = some (.int .u64 x.op.f4) ∧ w'.cell? ⟨gi, 5, none⟩ = some (.bool x.op.f5.f0) ∧ w'.cell? ⟨gi, 6, none⟩ = some (.int .i64 x.op.f5.f1) ∧ w'.cell? ⟨gi, 7, none⟩ = some (.int .i64 x.op.f5.f2) ∧ w'.cell? ⟨gi, 8, none⟩ = some (.slice (some ⟨g2, 0, none⟩) x.op.f6.length c2) ∧ w'.cell? ⟨gi, 9, none⟩ = some (.int .u64 x.op.f7) ∧ w'.cell? ⟨gi, 10, none⟩ = some (.int .u64 x.op.f8) ∧ w'.cell? ⟨ga, 0, none⟩ = some (.int .i64 x.an.f0) ∧ w'.cell? ⟨ga, 1, none⟩ = some (.bool x.an.f1) ∧ w'.cell? ⟨ga, 2, none⟩ = some (.int .u64 x.an.f2) ∧ w'.cell? ⟨ga, 3, none⟩ = some (.bool x.an.f3) ∧ w'.cell? ⟨ga, 4, none⟩ = some (.int .u64 x.an.f4) ∧ w'.cell? ⟨ga, 5, none⟩ = some (.slice (some ⟨h2, 0, none⟩) x.an.f5.length d2) ∧ w'.cell? ⟨ga, 6, none⟩ = some (.int .u64 x.an.f6))
    (first | go_keep | exact hS4 | exact hS5 | exact hS6 | exact hS7)
    (first
      | (go_at_call 22; refine (nilTakeM (opC x.op (some ⟨g2, 0, none⟩) c2) (ansC x.an.f0 x.an.f1 x.an.f2 x.an.f3 x.an.f4 (.slice (some ⟨h2, 0, none⟩) x.an.f5.length d2) x.an.f6) w4.drew).mono ?_
         rintro e w5 ⟨rfl, hB5⟩
         have HB5 := Lib.hid (HD4.out.trans (hB5.mono HD4.out.size))
         have hS5 := HF.out _ HB5.out
         clear hB5)
      | (go_at_call 23; refine (nilTakeR (opC x.op A c) (ansC x.an.f0 x.an.f1 x.an.f2 x.an.f3 x.an.f4 (.slice B x.an.f5.length d) x.an.f6) w5).mono ?_
         rintro e w6 ⟨rfl, hB6⟩
         have HB6 := Lib.hid (HB5.out.trans (hB6.mono HB5.out.size))
         have hS6 := HF.out _ HB6.out
         clear hB6)
      | (go_at_call 42
         have hbl := below_alloc (Below.refl _ w6) (.cells (ansC x.an.f0 x.an.f1 x.an.f2 x.an.f3 x.an.f4 (.slice B x.an.f5.length d) x.an.f6) 26)
         have h4l := HB6.out.trans (hbl.mono HB6.out.size)
         have hsl := HB2.out.trans ((HB24.out.trans (h4l.mono HB24.out.size)).mono HB2.out.size)
         refine (keepsA_c w6.heap.size ga cpa h2 d2 x.an B d _ (heap_alloc_new w6 _) (Kd.C_below HB.out hsl) HBD.out HBN.out HCPA.out HD2.out (Kd.C_below HIA.out h4l) (Kd.C_below HIB.out h4l)).mono ?_
         rintro e w7 ⟨rfl, hB7⟩
         have HB7 := Lib.hid (h4l.trans (hB7.mono h4l.size))
         have hS7 := HF.out _ HB7.out
         clear hbl h4l hsl hB7))
  clear hS4 hS5 hS6 hS7
  obtain ⟨wz, hwz⟩ : ∃ wz, wz = w7 := ⟨_, rfl⟩
  rw [← hwz] at HB7 ⊢
  clear hwz
  have HBz : Hid (Below w2.heap.size w2 wz) := Lib.hid (HB24.out.trans (HB7.out.mono HB24.out.size))
  have HCz := Lib.hid (blk_below HC2.out HBz.out)
  obtain ⟨k0, k1, k2, k3, k4, k5, k6, k7, k8, k9, k10, k11, k12, k13, k14, k15, k16, k17, k18, k19⟩ := cells_call HCz.out
  go_wp2_with fail
  go_at_call 44
  have hbl := below_alloc (Below.refl _ wz) (.cells (opC x.op A c) 39)
  have hb2l : Below w2.heap.size w2 _ := HBz.out.trans (hbl.mono HBz.out.size)
  refine (keepsO_c wz.heap.size gi cpi g2 c2 x.op A c _ (heap_alloc_new wz _) (Kd.C_below HA.out (HB2.out.trans (hb2l.mono HB2.out.size))) HAC.out HAN.out HCPI.out HCP2.out (Kd.C_below HI.out hb2l) (Kd.C_below HIJ.out hb2l)).mono ?_
  rintro e w8 ⟨rfl, hB8⟩
  have hb78 : Below w2.heap.size w2 w8 := hb2l.trans (hB8.mono hb2l.size)
  go_wp2_with fail
  go_ret
  exact ⟨rfl, HB2.out.trans (hb78.mono HB2.out.size)⟩
set_option maxRecDepth 100000 in
set_option maxHeartbeats 16000000 in
theorem calln_do {ws : World} (pb : Nat) (hbox : ws.heap[pb]? = some (.cells bothN 77 (0, 0))) (x : CallS) (A : Option Addr) (c : Nat) (B : Option Addr) (d : Nat)
    (hA : Kd.C (Kd.int .u64) ws A x.op.f6.length x.op.f6) (hAc : x.op.f6.length ≤ c) (hAn : x.op.f6.length ≤ 1099511627776) (hB : Kd.C kSP ws B x.an.f5.length x.an.f5) (hBd : x.an.f5.length ≤ d) (hBn : x.an.f5.length ≤ 1099511627776) (htk : x.tk = false) :
    Calls Try.prog 20 #[.pointer (some ⟨pb, 0, none⟩), .agg (callC x A c B d)] ws (fun e w1 => e = .returned (.bool true) ∧ Below ws.heap.size ws w1) := by
  have HBOX := Lib.hid hbox
  have HA := Lib.hid hA
  have HB := Lib.hid hB
  have HAC := Lib.hid hAc
  have HAN := Lib.hid hAn
  have HBD := Lib.hid hBd
  have HBN := Lib.hid hBn
  clear hbox hA hB hAc hAn hBd hBn
  obtain ⟨gc, hgc⟩ : ∃ gc, gc = ws.heap.size := ⟨_, rfl⟩
  have HGC := Lib.hid hgc
  obtain ⟨W0, hW0⟩ : ∃ W0, W0 = ws.alloc (.cells (callC x A c B d) 41) := ⟨_, rfl⟩
  have HW0 := Lib.hid hW0
  have hb0 : Below ws.heap.size ws W0 := by rw [hW0]; exact below_alloc (Below.refl _ _) _
  have hc0 : W0.heap[gc]? = some (.cells (callC x A c B d) 41 (0, 0)) := by rw [hW0, hgc]; exact heap_alloc_new ws _
  have HB0 := Lib.hid hb0
  have HC0 := Lib.hid hc0
  clear hgc hW0 hb0 hc0
  go_enter Try.func20, Try.ntmps20
  go_upto_region 1 with fail
  change Code.wp _ _ _ _ (ws.alloc (.cells (callC x A c B d) 41))
  rw [← HW0.out, ← HGC.out]
  obtain ⟨k0, k1, k2, k3, k4, k5, k6, k7, k8, k9, k10, k11, k12, k13, k14, k15, k16, k17, k18, k19⟩ := cells_call HC0.out
  go_wp2_with fail
  go_at_call 40
  have hz0 := HB0.out.size
  have hbl := below_alloc (Below.refl _ W0) (.cells (opC x.op A c) 39)
  refine (handO_c W0.heap.size x.op A c _ (heap_alloc_new W0 _) (Kd.C_below HA.out (HB0.out.trans (hbl.mono hz0))) HAC.out HAN.out).mono ?_
  rintro e w2 ⟨gi, cpi, g2, c2, rfl, ⟨hcpi, hgi, hg2, hc2, hRI, hRJ⟩, hB2⟩
  have hbw2 : Below ws.heap.size ws w2 := (HB0.out.trans (hbl.mono hz0)).trans (hB2.mono (Nat.le_trans hz0 hbl.size))
  have HI := Lib.hid (by have h := Kd.R_reads' hRI; have h2 := h.2.2; rw [← h.1] at h2; exact h2)
  have HIJ := Lib.hid (by have h := Kd.R_reads' hRJ; have h2 := h.2.2; rw [← h.1] at h2; exact h2)
  have HCPI := Lib.hid hcpi
  have HCP2 := Lib.hid hc2
  have HB2 := Lib.hid hbw2
  have HC2 := Lib.hid (blk_below (blk_below HC0.out hbl) (hB2.mono (by simp)))
  have HX2 := Lib.hid (blk_below HBOX.out hbw2)
  clear hcpi hgi hg2 hc2 hRI hRJ hB2 hbw2 hz0 hbl k0 k1 k2 k3 k4 k5 k6 k7 k8 k9 k10 k11 k12 k13 k14 k15 k16 k17 k18 k19
  obtain ⟨k0, k1, k2, k3, k4, k5, k6, k7, k8, k9, k10, k11, k12, k13, k14, k15, k16, k17, k18, k19⟩ := cells_call HC2.out
  rw [htk] at k0
  go_upto_region 6 with fail
  have HF : Hid (∀ W, Below w2.heap.size w2 W → W.cell? ⟨pb, 0, none⟩ = some (.pointer none) ∧ W.cell? ⟨pb, 1, none⟩ = some (.pointer none) ∧ W.cell? ⟨gc, 0, none⟩ = some (.bool x.tk) ∧ W.cell? ⟨gc, 1, none⟩ = some (.int .u8 x.op.f0) ∧ W.cell? ⟨gc, 2, none⟩ = some (.int .u64 x.op.f1) ∧ W.cell? ⟨gc, 3, none⟩ = some (.int .u64 x.op.f2) ∧ W.cell? ⟨gc, 4, none⟩ = some (.int .u64 x.op.f3) ∧ W.cell? ⟨gc, 5, none⟩ = some (.int .u64 x.op.f4) ∧ W.cell? ⟨gc, 6, none⟩ = some (.bool x.op.f5.f0) ∧ W.cell? ⟨gc, 7, none⟩ = some (.int .i64 x.op.f5.f1) ∧ W.cell? ⟨gc, 8, none⟩ = some (.int .i64 x.op.f5.f2) ∧ W.cell? ⟨gc, 9, none⟩ = some (.slice A x.op.f6.length c) ∧ W.cell? ⟨gc, 10, none⟩ = some (.int .u64 x.op.f7) ∧ W.cell? ⟨gc, 11, none⟩ = some (.int .u64 x.op.f8) ∧ W.cell? ⟨gc, 12, none⟩ = some (.int .i64 x.an.f0) ∧ W.cell? ⟨gc, 13, none⟩ = some (.bool x.an.f1) ∧ W.cell? ⟨gc, 14, none⟩ = some (.int .u64 x.an.f2) ∧ W.cell? ⟨gc, 15, none⟩ = some (.bool x.an.f3) ∧ W.cell? ⟨gc, 16, none⟩ = some (.int .u64 x.an.f4) ∧ W.cell? ⟨gc, 17, none⟩ = some (.slice B x.an.f5.length d) ∧ W.cell? ⟨gc, 18, none⟩ = some (.int .u64 x.an.f6) ∧ W.cell? ⟨gc, 19, none⟩ = some (.int .u64 x.hd) ∧ W.cell? ⟨gi, 0, none⟩ = some (.int .u8 x.op.f0) ∧ W.cell? ⟨gi, 1, none⟩ = some (.int .u64 x.op.f1) ∧ W.cell? ⟨gi, 2, none⟩ = some (.int .u64 x.op.f2) ∧ W.cell? ⟨gi, 3, none⟩ = some (.int .u64 x.op.f3) ∧ W.cell? ⟨gi, 4, none⟩ = some (.int .u64 x.op.f4) ∧ W.cell? ⟨gi, 5, none⟩ = some (.bool x.op.f5.f0) ∧ W.cell? ⟨gi, 6, none⟩ = some (.int .i64 x.op.f5.f1) ∧ W.cell? ⟨gi, 7, none⟩ = some (.int .i64 x.op.f5.f2) ∧ W.cell? ⟨gi, 8, none⟩ = some (.slice (some ⟨g2, 0, none⟩) x.op.f6.length c2) ∧ W.cell? ⟨gi, 9, none⟩ = some (.int .u64 x.op.f7) ∧ W.cell? ⟨gi, 10, none⟩ = some (.int .u64 x.op.f8)) := Lib.hid (fun W hW => cells_do0 (blk_below HX2.out hW) (blk_below HC2.out hW) (Kd.C_below HI.out hW))
  have HD2 := Lib.hid (below_drew (Below.refl w2.heap.size w2))
  have HD2a := Lib.hid (below_drew (below_alloc (Below.refl w2.heap.size w2) (.cells #[.int .i64 0, .bool false, .int .u64 0, .bool false, .int .u64 0, .slice none 0 0, .int .u64 0] 26)))
  have HN4 : Hid ((w2.alloc (.cells #[.int .i64 0, .bool false, .int .u64 0, .bool false, .int .u64 0, .slice none 0 0, .int .u64 0] 26)).drew.heap[w2.heap.size]? = some (.cells (ansC 0 false 0 false 0 (.slice none 0 0) 0) 26 (0, 0))) := Lib.hid (heap_alloc_new w2 _)
  clear k0 k1 k2 k3 k4 k5 k6 k7 k8 k9 k10 k11 k12 k13 k14 k15 k16 k17 k18 k19
  have hS4 := HF.out _ HD2.out
  have hS4a := HF.out _ HD2a.out
  go_region_held3 (fun w' => w'.cell? ⟨pb, 0, none⟩ = some (.pointer none) ∧ w'.cell? ⟨pb, 1, none⟩ = some (.pointer none) ∧ w'.cell? ⟨gc, 0, none⟩ = some (.bool x.tk) ∧ w'.cell? ⟨gc, 1, none⟩ = some (.int .u8 x.op.f0) ∧ w'.cell? ⟨gc, 2, none⟩ = some (.int .u64 x.op.f1) ∧ w'.cell? ⟨gc, 3, none⟩ = some (.int .u64 x.op.f2) ∧ w'.cell? ⟨gc, 4, none⟩ = some (.int .u64 x.op.f3) ∧ w'.cell? ⟨gc, 5, none⟩ = some (.int .u64 x.op.f4) ∧ w'.cell? ⟨gc, 6, none⟩ = some (.bool x.op.f5.f0) ∧ w'.cell? ⟨gc, 7, none⟩ = some (.int .i64 x.op.f5.f1) ∧ w'.cell? ⟨gc, 8, none⟩ = some (.int .i64 x.op.f5.f2) ∧ w'.cell? ⟨gc, 9, none⟩ = some (.slice A x.op.f6.length c) ∧ w'.cell? ⟨gc, 10, none⟩ = some (.int .u64 x.op.f7) ∧ w'.cell? ⟨gc, 11, none⟩ = some (.int .u64 x.op.f8) ∧ w'.cell? ⟨gc, 12, none⟩ = some (.int .i64 x.an.f0) ∧ w'.cell? ⟨gc, 13, none⟩ = some (.bool x.an.f1) ∧ w'.cell? ⟨gc, 14, none⟩ = some (.int .u64 x.an.f2) ∧ w'.cell? ⟨gc, 15, none⟩ = some (.bool x.an.f3) ∧ w'.cell? ⟨gc, 16, none⟩ = some (.int .u64 x.an.f4) ∧ w'.cell? ⟨gc, 17, none⟩ = some (.slice B x.an.f5.length d) ∧ w'.cell? ⟨gc, 18, none⟩ = some (.int .u64 x.an.f6) ∧ w'.cell? ⟨gc, 19, none⟩ = some (.int .u64 x.hd) ∧ w'.cell? ⟨gi, 0, none⟩ = some (.int .u8 x.op.f0) ∧ w'.cell? ⟨gi, 1, none⟩ = some (.int .u64 x.op.f1) ∧ w'.cell? ⟨gi, 2, none⟩ = some (.int .u64 x.op.f2) ∧ w'.cell? ⟨gi, 3, none⟩ = some (.int .u64 x.op.f3) ∧ w'.cell? ⟨gi, 4, none⟩ = some (.int .u64 x.op.f4) ∧ w'.cell? ⟨gi, 5, none⟩ = some (.bool x.op.f5.f0) ∧ w'.cell? ⟨gi, 6, none⟩ = some (.int .i64 x.op.f5.f1) ∧ w'.cell? ⟨gi, 7, none⟩ = some (.int .i64 x.op.f5.f2) ∧ w'.cell? ⟨gi, 8, none⟩ = some (.slice (some ⟨g2, 0, none⟩) x.op.f6.length c2) ∧ w'.cell? ⟨gi, 9, none⟩ = some (.int .u64 x.op.f7) ∧ w'.cell? ⟨gi, 10, none⟩ = some (.int .u64 x.op.f8))
    (first | go_keep | exact hS4 | exact hS4a | exact hS5 | exact hS5a | exact hS6)
    (first
      | (go_at_call 15
         have hc := nilDoM (opC x.op (some ⟨g2, 0, none⟩) c2) x.hd (w2.drew)
         unfold opC at hc
         (with_reducible refine hc.mono ?_)
         clear hc
         rintro e w5 ⟨rfl, hB5⟩
         have HB5 := Lib.hid (HD2.out.trans (hB5.mono HD2.out.size))
         have hS5 := HF.out _ HB5.out
         have hba5 := below_alloc (Below.refl _ w5) (.cells #[.int .i64 0, .bool false, .int .u64 0, .bool false, .int .u64 0, .slice none 0 0, .int .u64 0] 26)
         have hS5a := HF.out _ (HB5.out.trans (hba5.mono HB5.out.size))
         have hba6 := below_alloc (Below.refl _ w5) (.cells #[.int .i64 1, .bool false, .int .u64 0, .bool false, .int .u64 0, .slice none 0 0, .int .u64 0] 26)
         have HN6 := Lib.hid (heap_alloc_new w5 (.cells #[.int .i64 1, .bool false, .int .u64 0, .bool false, .int .u64 0, .slice none 0 0, .int .u64 0] 26))
         have HB6 := Lib.hid (HB5.out.trans (hba6.mono HB5.out.size))
         have hS6 := HF.out _ HB6.out
         obtain ⟨W6, hW6⟩ : ∃ W6, W6 = w5.alloc (.cells #[.int .i64 1, .bool false, .int .u64 0, .bool false, .int .u64 0, .slice none 0 0, .int .u64 0] 26) := ⟨_, rfl⟩
         obtain ⟨g8, hg8⟩ : ∃ g8, g8 = w5.heap.size := ⟨_, rfl⟩
         have HW6 := Lib.hid hW6
         have Hg8 := Lib.hid hg8
         clear hW6 hg8 hba5 hba6 hB5)
      | (go_at_call 15
         have hc := nilDoM (opC x.op (some ⟨g2, 0, none⟩) c2) x.hd ((w2.alloc (.cells #[.int .i64 0, .bool false, .int .u64 0, .bool false, .int .u64 0, .slice none 0 0, .int .u64 0] 26)).drew)
         unfold opC at hc
         (with_reducible refine hc.mono ?_)
         clear hc
         rintro e w5 ⟨rfl, hB5⟩
         have HB5 := Lib.hid (HD2a.out.trans (hB5.mono HD2a.out.size))
         have hS5 := HF.out _ HB5.out
         have hba5 := below_alloc (Below.refl _ w5) (.cells #[.int .i64 0, .bool false, .int .u64 0, .bool false, .int .u64 0, .slice none 0 0, .int .u64 0] 26)
         have hS5a := HF.out _ (HB5.out.trans (hba5.mono HB5.out.size))
         have HN5 := Lib.hid (blk_below HN4.out hB5)
         obtain ⟨l0, l1, l2, l3, l4, l5, l6⟩ := ans_cells HN5.out
         have fz0 := blk_frozen HN5.out 0
         have fz1 := blk_frozen HN5.out 1
         have fz2 := blk_frozen HN5.out 2
         have fz3 := blk_frozen HN5.out 3
         have fz4 := blk_frozen HN5.out 4
         have fz5 := blk_frozen HN5.out 5
         have fz6 := blk_frozen HN5.out 6
         have s7 := set7 HN5.out (.int .i64 1) (.bool false) (.int .u64 0) (.bool false) (.int .u64 0) (.slice none 0 0) (.int .u64 0)
         have HN6 := Lib.hid s7.1
         have HB6 : Hid (Below w2.heap.size w2 (((((((w5.setCell ⟨w2.heap.size, 0, none⟩ (.int .i64 1)).setCell ⟨w2.heap.size, 1, none⟩ (.bool false)).setCell ⟨w2.heap.size, 2, none⟩ (.int .u64 0)).setCell ⟨w2.heap.size, 3, none⟩ (.bool false)).setCell ⟨w2.heap.size, 4, none⟩ (.int .u64 0)).setCell ⟨w2.heap.size, 5, none⟩ (.slice none 0 0)).setCell ⟨w2.heap.size, 6, none⟩ (.int .u64 0))) := Lib.hid (((KO.of_below HB5.out (fun _ => False)).then_ s7.2 (fun k e => .inr (by omega))).below_of (fun k e => e.elim))
         have hS6 := HF.out _ HB6.out
         obtain ⟨W6, hW6⟩ : ∃ W6, W6 = (((((((w5.setCell ⟨w2.heap.size, 0, none⟩ (.int .i64 1)).setCell ⟨w2.heap.size, 1, none⟩ (.bool false)).setCell ⟨w2.heap.size, 2, none⟩ (.int .u64 0)).setCell ⟨w2.heap.size, 3, none⟩ (.bool false)).setCell ⟨w2.heap.size, 4, none⟩ (.int .u64 0)).setCell ⟨w2.heap.size, 5, none⟩ (.slice none 0 0)).setCell ⟨w2.heap.size, 6, none⟩ (.int .u64 0)) := ⟨_, rfl⟩
         obtain ⟨g8, hg8⟩ : ∃ g8, g8 = w2.heap.size := ⟨_, rfl⟩
         have HW6 := Lib.hid hW6
         have Hg8 := Lib.hid hg8
         clear hW6 hg8 s7 hba5 hB5))
  all_goals
    rw [← HW6.out, ← Hg8.out] at HN6
    rw [← HW6.out] at HB6
    rw [← HW6.out, ← Hg8.out]
    clear HW6 Hg8 hS4 hS4a hS5 hS5a hS6
  all_goals
    go_upto_region 7 with fail
    have HD6 := Lib.hid (below_drew (Below.refl W6.heap.size W6))
    have HB6d := Lib.hid (HB6.out.trans (HD6.out.mono HB6.out.size))
    have HFF : Hid (∀ W, Below W6.heap.size W6 W → W.cell? ⟨pb, 0, none⟩ = some (.pointer none) ∧ W.cell? ⟨pb, 1, none⟩ = some (.pointer none) ∧ W.cell? ⟨gc, 0, none⟩ = some (.bool x.tk) ∧ W.cell? ⟨gc, 1, none⟩ = some (.int .u8 x.op.f0) ∧ W.cell? ⟨gc, 2, none⟩ = some (.int .u64 x.op.f1) ∧ W.cell? ⟨gc, 3, none⟩ = some (.int .u64 x.op.f2) ∧ W.cell? ⟨gc, 4, none⟩ = some (.int .u64 x.op.f3) ∧ W.cell? ⟨gc, 5, none⟩ = some (.int .u64 x.op.f4) ∧ W.cell? ⟨gc, 6, none⟩ = some (.bool x.op.f5.f0) ∧ W.cell? ⟨gc, 7, none⟩ = some (.int .i64 x.op.f5.f1) ∧ W.cell? ⟨gc, 8, none⟩ = some (.int .i64 x.op.f5.f2) ∧ W.cell? ⟨gc, 9, none⟩ = some (.slice A x.op.f6.length c) ∧ W.cell? ⟨gc, 10, none⟩ = some (.int .u64 x.op.f7) ∧ W.cell? ⟨gc, 11, none⟩ = some (.int .u64 x.op.f8) ∧ W.cell? ⟨gc, 12, none⟩ = some (.int .i64 x.an.f0) ∧ W.cell? ⟨gc, 13, none⟩ = some (.bool x.an.f1) ∧ W.cell? ⟨gc, 14, none⟩ = some (.int .u64 x.an.f2) ∧ W.cell? ⟨gc, 15, none⟩ = some (.bool x.an.f3) ∧ W.cell? ⟨gc, 16, none⟩ = some (.int .u64 x.an.f4) ∧ W.cell? ⟨gc, 17, none⟩ = some (.slice B x.an.f5.length d) ∧ W.cell? ⟨gc, 18, none⟩ = some (.int .u64 x.an.f6) ∧ W.cell? ⟨gc, 19, none⟩ = some (.int .u64 x.hd) ∧ W.cell? ⟨gi, 0, none⟩ = some (.int .u8 x.op.f0) ∧ W.cell? ⟨gi, 1, none⟩ = some (.int .u64 x.op.f1) ∧ W.cell? ⟨gi, 2, none⟩ = some (.int .u64 x.op.f2) ∧ W.cell? ⟨gi, 3, none⟩ = some (.int .u64 x.op.f3) ∧ W.cell? ⟨gi, 4, none⟩ = some (.int .u64 x.op.f4) ∧ W.cell? ⟨gi, 5, none⟩ = some (.bool x.op.f5.f0) ∧ W.cell? ⟨gi, 6, none⟩ = some (.int .i64 x.op.f5.f1) ∧ W.cell? ⟨gi, 7, none⟩ = some (.int .i64 x.op.f5.f2) ∧ W.cell? ⟨gi, 8, none⟩ = some (.slice (some ⟨g2, 0, none⟩) x.op.f6.length c2) ∧ W.cell? ⟨gi, 9, none⟩ = some (.int .u64 x.op.f7) ∧ W.cell? ⟨gi, 10, none⟩ = some (.int .u64 x.op.f8) ∧ W.cell? ⟨g8, 0, none⟩ = some (.int .i64 1) ∧ W.cell? ⟨g8, 1, none⟩ = some (.bool false) ∧ W.cell? ⟨g8, 2, none⟩ = some (.int .u64 0) ∧ W.cell? ⟨g8, 3, none⟩ = some (.bool false) ∧ W.cell? ⟨g8, 4, none⟩ = some (.int .u64 0) ∧ W.cell? ⟨g8, 5, none⟩ = some (.slice none 0 0) ∧ W.cell? ⟨g8, 6, none⟩ = some (.int .u64 0)) := Lib.hid (fun W hW => by
      have h := HB6.out.trans (hW.mono HB6.out.size)
      exact cells_do20 (blk_below HX2.out h) (blk_below HC2.out h) (Kd.C_below HI.out h) (blk_below HN6.out hW))
    have hS6 := HFF.out _ HD6.out
    go_region_held3 (fun w' => w'.cell? ⟨pb, 0, none⟩ = some (.pointer none) ∧ w'.cell? ⟨pb, 1, none⟩ = some (.pointer none) ∧ w'.cell? ⟨gc, 0, none⟩ = some (.bool x.tk) ∧ w'.cell? ⟨gc, 1, none⟩ = some (.int .u8 x.op.f0) ∧ w'.cell? ⟨gc, 2, none⟩ = some (.int .u64 x.op.f1) ∧ w'.cell? ⟨gc, 3, none⟩ = some (.int .u64 x.op.f2) ∧ w'.cell? ⟨gc, 4, none⟩ = some (.int .u64 x.op.f3) ∧ w'.cell? ⟨gc, 5, none⟩ = some (.int .u64 x.op.f4) ∧ w'.cell? ⟨gc, 6, none⟩ = some (.bool x.op.f5.f0) ∧ w'.cell? ⟨gc, 7, none⟩ = some (.int .i64 x.op.f5.f1) ∧ w'.cell? ⟨gc, 8, none⟩ = some (.int .i64 x.op.f5.f2) ∧ w'.cell? ⟨gc, 9, none⟩ = some (.slice A x.op.f6.length c) ∧ w'.cell? ⟨gc, 10, none⟩ = some (.int .u64 x.op.f7) ∧ w'.cell? ⟨gc, 11, none⟩ = some (.int .u64 x.op.f8) ∧ w'.cell? ⟨gc, 12, none⟩ = some (.int .i64 x.an.f0) ∧ w'.cell? ⟨gc, 13, none⟩ = some (.bool x.an.f1) ∧ w'.cell? ⟨gc, 14, none⟩ = some (.int .u64 x.an.f2) ∧ w'.cell? ⟨gc, 15, none⟩ = some (.bool x.an.f3) ∧ w'.cell? ⟨gc, 16, none⟩ = some (.int .u64 x.an.f4) ∧ w'.cell? ⟨gc, 17, none⟩ = some (.slice B x.an.f5.length d) ∧ w'.cell? ⟨gc, 18, none⟩ = some (.int .u64 x.an.f6) ∧ w'.cell? ⟨gc, 19, none⟩ = some (.int .u64 x.hd) ∧ w'.cell? ⟨gi, 0, none⟩ = some (.int .u8 x.op.f0) ∧ w'.cell? ⟨gi, 1, none⟩ = some (.int .u64 x.op.f1) ∧ w'.cell? ⟨gi, 2, none⟩ = some (.int .u64 x.op.f2) ∧ w'.cell? ⟨gi, 3, none⟩ = some (.int .u64 x.op.f3) ∧ w'.cell? ⟨gi, 4, none⟩ = some (.int .u64 x.op.f4) ∧ w'.cell? ⟨gi, 5, none⟩ = some (.bool x.op.f5.f0) ∧ w'.cell? ⟨gi, 6, none⟩ = some (.int .i64 x.op.f5.f1) ∧ w'.cell? ⟨gi, 7, none⟩ = some (.int .i64 x.op.f5.f2) ∧ w'.cell? ⟨gi, 8, none⟩ = some (.slice (some ⟨g2, 0, none⟩) x.op.f6.length c2) ∧ w'.cell? ⟨gi, 9, none⟩ = some (.int .u64 x.op.f7) ∧ w'.cell? ⟨gi, 10, none⟩ = some (.int .u64 x.op.f8) ∧ w'.cell? ⟨g8, 0, none⟩ = some (.int .i64 1) ∧ w'.cell? ⟨g8, 1, none⟩ = some (.bool false) ∧ w'.cell? ⟨g8, 2, none⟩ = some (.int .u64 0) ∧ w'.cell? ⟨g8, 3, none⟩ = some (.bool false) ∧ w'.cell? ⟨g8, 4, none⟩ = some (.int .u64 0) ∧ w'.cell? ⟨g8, 5, none⟩ = some (.slice none 0 0) ∧ w'.cell? ⟨g8, 6, none⟩ = some (.int .u64 0))
      (first | go_keep | exact hS6 | exact hS7 | exact hS8)
      (first
        | (go_at_call 24; refine (nilDoR (opC x.op A c) x.hd W6.drew).mono ?_
           rintro e w7 ⟨rfl, hB7⟩
           have HB7 := Lib.hid (HD6.out.trans (hB7.mono HD6.out.size))
           have hS7 := HFF.out _ HB7.out
           clear hB7)
        | (go_at_call 43; refine (memA_c (errS 1) (errS 1) none none 0 0 w7 (Kd.C_nil _ _) (Nat.le_refl _) (Kd.C_nil _ _) (Nat.le_refl _) (Nat.zero_le _)).mono ?_
           rw [anEq_self]
           rintro e w8 ⟨rfl, hB8⟩
           have HB8 := Lib.hid (HB7.out.trans (hB8.mono HB7.out.size))
           have hS8 := HFF.out _ HB8.out
           clear hB8))
  all_goals
    clear hS6 hS7 hS8
    go_wp2_with fail
    go_loopw [9] (fun v9 wl => v9 = .int .i64 0 ∧ Hid (Below W6.heap.size W6 wl)) (fun v9 _ => 0)
    case atStart => exact ⟨rfl, HB8⟩
    case round =>
      clear HB8 HB7
      obtain ⟨rfl, HBL⟩ := hrel
      obtain ⟨wz, hwz⟩ : ∃ wz, wz = wr := ⟨_, rfl⟩
      rw [← hwz] at HBL ⊢
      clear hwz
      have l5 : wz.cell? ⟨g8, 5, none⟩ = some (.slice none 0 0) := by rw [blk_cell (blk_below HN6.out HBL.out)]; rfl
      have HBz : Hid (Below w2.heap.size w2 wz) := Lib.hid (HB6.out.trans (HBL.out.mono HB6.out.size))
      have HCz := Lib.hid (blk_below HC2.out HBz.out)
      obtain ⟨k0, k1, k2, k3, k4, k5, k6, k7, k8, k9, k10, k11, k12, k13, k14, k15, k16, k17, k18, k19⟩ := cells_call HCz.out
      go_wp2_with fail
      go_at_call 44
      have hbl := below_alloc (Below.refl _ wz) (.cells (opC x.op A c) 39)
      have hb2l : Below w2.heap.size w2 _ := HBz.out.trans (hbl.mono HBz.out.size)
      refine (keepsO_c wz.heap.size gi cpi g2 c2 x.op A c _ (heap_alloc_new wz _) (Kd.C_below HA.out (HB2.out.trans (hb2l.mono HB2.out.size))) HAC.out HAN.out HCPI.out HCP2.out (Kd.C_below HI.out hb2l) (Kd.C_below HIJ.out hb2l)).mono ?_
      rintro e w8 ⟨rfl, hB8⟩
      have hb78 : Below w2.heap.size w2 w8 := hb2l.trans (hB8.mono hb2l.size)
      go_wp2_with fail
      go_ret
      exact ⟨rfl, HB2.out.trans (hb78.mono HB2.out.size)⟩
end Go.Proofs.Ytngocadnbpdnoaa.Mo

-- from Bn2
namespace Go.Proofs.Ytngocadnbpdnoaa.Mo
open Go Go.Maps Go.RowKit Go.Proofs.Ytngocadnbpdnoaa.Srt Go.Proofs.Ytngocadnbpdnoaa.Q Go.Proofs.YtngocadnbpdnoaaW.PrintWords Go.Proofs.YtngocadnbpdnoaaW.PrintLast Go.Proofs.YtngocadnbpdnoaaW.PrintMore Go.Proofs.Ytngocadnbpdnoaa.Open
set_option linter.unusedVariables false
set_option linter.unusedSimpArgs false
set_option maxRecDepth 100000 in
set_option maxHeartbeats 16000000 in
theorem alike_none {ws : World} (pb : Nat) (hbox : ws.heap[pb]? = some (.cells bothN 77 (0, 0))) :
    Calls Try.prog 21 #[.pointer (some ⟨pb, 0, none⟩)] ws fun e w1 => e = .returned (.bool true) ∧ Below ws.heap.size ws w1 := by
  have HBOX := Lib.hid hbox
  obtain ⟨p0, p1⟩ := cells_box0 hbox
  clear hbox
  go_enter Try.func21, Try.ntmps21
  go_upto_region 2 with (go_at_call 28; refine (nilHandR ws).mono ?_; rintro e w1 ⟨rfl, hB1⟩; have HB1 := Lib.hid hB1; clear hB1)
  clear p0 p1
  have HB2 := Lib.hid (below_drew HB1.out)
  have HF : Hid (∀ W, Below ws.heap.size ws W → W.cell? ⟨pb, 0, none⟩ = some (.pointer none) ∧ W.cell? ⟨pb, 1, none⟩ = some (.pointer none)) := Lib.hid (fun W h => cells_box0 (blk_below HBOX.out h))
  have hS1 := HF.out _ HB2.out
  go_region_held3 (fun w' => w'.cell? ⟨pb, 0, none⟩ = some (.pointer none) ∧ w'.cell? ⟨pb, 1, none⟩ = some (.pointer none))
    (first | go_keep | exact hS1 | exact hS2 | exact hS3 | exact hS4 | exact hS5 | exact hS6)
    (first
      | (go_at_call 17; refine (nilContM w1.drew).mono ?_
         rintro e w2 ⟨rfl, hB⟩
         have HB3 := Lib.hid (HB2.out.trans (hB.mono HB2.out.size))
         have hS2 := HF.out _ HB3.out
         clear hB)
      | (go_at_call 45; refine (nilContR w2).mono ?_
         rintro e w3 ⟨rfl, hB⟩
         have HB4 := Lib.hid (HB3.out.trans (hB.mono HB3.out.size))
         have hS3 := HF.out _ HB4.out
         clear hB)
      | (go_at_call 18; refine (memP_c [] [] none none 0 0 w3 (Kd.C_nil _ _) (Nat.le_refl _) (Kd.C_nil _ _) (Nat.le_refl _) (Nat.zero_le _) true (decide_eq_true rfl).symm).mono ?_
         rintro e w4 ⟨rfl, hB⟩
         have HB5 := Lib.hid (HB4.out.trans (hB.below.mono HB4.out.size))
         have hS4 := HF.out _ HB5.out
         clear hB)
      | (go_at_call 27; refine (nilHandM w4).mono ?_
         rintro e w5 ⟨rfl, hB⟩
         have HB6 := Lib.hid (HB5.out.trans (hB.mono HB5.out.size))
         have hS5 := HF.out _ HB6.out
         clear hB)
      | (go_at_call 46; refine (memU_c [] [] none none 0 0 w5 (Kd.C_nil _ _) (Nat.le_refl _) (Kd.C_nil _ _) (Nat.le_refl _) (Nat.zero_le _) true (decide_eq_true rfl).symm).mono ?_
         rintro e w6 ⟨rfl, hB⟩
         have HB7 := Lib.hid (HB6.out.trans (hB.below.mono HB6.out.size))
         have hS6 := HF.out _ HB7.out
         clear hB))
  all_goals
    clear hS1 hS2 hS3 hS4 hS5 hS6
    go_wp2_with fail
    go_loopw [4] (fun v4 wr => v4 = .int .i64 0 ∧ Hid (Below ws.heap.size ws wr)) (fun v4 _ => 0)
    case atStart => exact ⟨rfl, HB7⟩
    case round =>
      clear HB7 HB6 HB5 HB4 HB3
      obtain ⟨rfl, HB⟩ := hrel
      obtain ⟨p0, p1⟩ := HF.out _ HB.out
      go_wp2_with (go_at_call 16; refine (nilHeldM 0 wr).mono ?_; rintro e w9 ⟨rfl, hB9⟩)
      go_ret
      exact ⟨rfl, HB.out.trans (hB9.mono HB.out.size)⟩
theorem call_none {ws : World} (pb : Nat) (hbox : ws.heap[pb]? = some (.cells bothN 77 (0, 0))) (x : CallS) (A : Option Addr) (c : Nat) (B : Option Addr) (d : Nat)
    (hA : Kd.C (Kd.int .u64) ws A x.op.f6.length x.op.f6) (hAc : x.op.f6.length ≤ c) (hAn : x.op.f6.length ≤ 1099511627776) (hB : Kd.C kSP ws B x.an.f5.length x.an.f5) (hBd : x.an.f5.length ≤ d) (hBn : x.an.f5.length ≤ 1099511627776) :
    Calls Try.prog 20 #[.pointer (some ⟨pb, 0, none⟩), .agg #[.bool x.tk, .int .u8 x.op.f0, .int .u64 x.op.f1, .int .u64 x.op.f2, .int .u64 x.op.f3, .int .u64 x.op.f4, .bool x.op.f5.f0, .int .i64 x.op.f5.f1, .int .i64 x.op.f5.f2, .slice A x.op.f6.length c, .int .u64 x.op.f7, .int .u64 x.op.f8, .int .i64 x.an.f0, .bool x.an.f1, .int .u64 x.an.f2, .bool x.an.f3, .int .u64 x.an.f4, .slice B x.an.f5.length d, .int .u64 x.an.f6, .int .u64 x.hd]] ws (fun e w1 => e = .returned (.bool true) ∧ Below ws.heap.size ws w1) := by
  show Calls _ _ #[_, .agg (callC x A c B d)] ws _
  cases ht : x.tk with
  | true => exact calln_take pb hbox x A c B d hA hAc hAn hB hBd hBn ht
  | false => exact calln_do pb hbox x A c B d hA hAc hAn hB hBd hBn ht
set_option maxRecDepth 100000 in
set_option maxHeartbeats 16000000 in
theorem none_law (w : World) (A : Option Addr) (c : Nat) (l : List CallS) (hC0 : Kd.C kCall w A l.length l) (hc : l.length ≤ c) (hn : l.length ≤ 1048576) (hkl : ∀ x ∈ l, x.op.f6.length ≤ 1048576 ∧ x.an.f5.length ≤ 1048576) :
    Calls Try.prog 10 #[.slice A l.length c] w fun e w' => e = .returned (.bool true) ∧ Below w.heap.size w w' := by
  have cL := live_c w
  have HC0 := Lib.hid hC0
  have HKL := Lib.hid hkl
  clear hC0 hkl
  go_enter Try.func10, Try.ntmps10
  go_upto_region 3 with (go_at_call 11; refine cL.mono ?_; rintro e w0 ⟨rfl, hB0⟩; have HB0 := Lib.hid hB0; clear hB0)
  clear cL
  go_upto_region 4 with fail
  change Code.wp _ _ _ _ (w0.alloc (.cells bothN 77))
  have hbl := below_alloc (Below.refl _ w0) (.cells bothN 77)
  have hnl := heap_alloc_new w0 (.cells bothN 77)
  obtain ⟨W1, hW1⟩ : ∃ W1, W1 = w0.alloc (.cells bothN 77) := ⟨_, rfl⟩
  obtain ⟨pb, hpb⟩ : ∃ pb, pb = w0.heap.size := ⟨_, rfl⟩
  rw [← hW1] at hbl hnl ⊢
  rw [← hpb] at hnl ⊢
  have HB1 := Lib.hid (HB0.out.trans (hbl.mono HB0.out.size))
  have HX1 := Lib.hid hnl
  clear hW1 hpb hbl hnl HB0
  go_wp2_with fail
  go_loopw [4] (fun v4 wr => ∃ i : Nat, v4 = .int .i64 i ∧ i ≤ l.length ∧ Hid (Below w.heap.size w wr) ∧ Hid (wr.heap[pb]? = some (.cells bothN 77 (0, 0)))) (fun v4 _ => l.length - (intOf v4).toNat)
  case atStart => exact ⟨0, rfl, Nat.zero_le _, HB1, HX1⟩
  case round =>
    clear HB1 HX1
    obtain ⟨i, rfl, hi, HB, HX⟩ := hrel
    by_cases hlt : i < l.length
    · obtain ⟨ad, A1, c1, B1, d1, rfl, hcell0, g1, hd1, g2, hc1⟩ := at_call2 HC0.out i hlt hlt
      obtain ⟨x, hx⟩ : ∃ x, x = l[i] := ⟨_, rfl⟩
      rw [← hx] at hcell0 g1 hd1 g2 hc1
      have HKN : Hid (x.op.f6.length ≤ 1048576 ∧ x.an.f5.length ≤ 1048576) := Lib.hid (HKL.out x (by rw [hx]; exact List.getElem_mem hlt))
      have HG1 := Lib.hid g1
      have HG2 := Lib.hid g2
      have HCELL0 := Lib.hid hcell0
      have HKE := Lib.hid (Kept.of_below HB.out (fun _ => False))
      have HD1 := Lib.hid hd1
      have HCC1 := Lib.hid hc1
      clear hx hcell0 g1 g2 hd1 hc1
      go_wp2_with (first | ((with_reducible refine gate_ (.load 41 (.tmp 20)) rfl ?_); refine wpList_load_any rfl 41 (.tmp 20) rfl (ad.add (i * 20)) rfl [.bool x.tk, .int .u8 x.op.f0, .int .u64 x.op.f1, .int .u64 x.op.f2, .int .u64 x.op.f3, .int .u64 x.op.f4, .bool x.op.f5.f0, .int .i64 x.op.f5.f1, .int .i64 x.op.f5.f2, .slice A1 x.op.f6.length c1, .int .u64 x.op.f7, .int .u64 x.op.f8, .int .i64 x.an.f0, .bool x.an.f1, .int .u64 x.an.f2, .bool x.an.f3, .int .u64 x.an.f4, .slice B1 x.an.f5.length d1, .int .u64 x.an.f6, .int .u64 x.hd] _ (fun j u hj => by rw [add_add]; exact cell_kept (HCELL0.out j u hj) HKE.out (fun e => e)) Try.underlying41 rfl (by kernel_rfl) ?_))
      go_at_call 20
      refine (call_none pb HX.out x A1 c1 B1 d1 (Kd.C_below HG1.out HB.out) HCC1.out (by have := HKN.out; omega) (Kd.C_below HG2.out HB.out) HD1.out (by have := HKN.out; omega)).mono ?_
      rintro e w3 ⟨rfl, hB3⟩
      have HB3 := Lib.hid (HB.out.trans (hB3.mono HB.out.size))
      have HX3 := Lib.hid (blk_below HX.out hB3)
      clear hB3
      go_wp2_with fail
      go_roundw
      case rel => exact ⟨i + 1, by go_num, by omega, HB3, HX3⟩
      case measure => simp [intOf]; omega
    · obtain rfl : i = l.length := by omega
      go_upto_region 10 with (go_at_call 14; refine (newMJ (KO.of_below HB.out (fun _ => False)) 1 (by decide) (by decide)).mono ?_; rintro e w4 ⟨gp, bn, bh, rfl, -, hB4⟩; have HB4 := Lib.hid (HB.out.trans (hB4.mono HB.out.size)); have HX4 := Lib.hid (blk_below HX.out hB4); clear hB4)
      go_wp2_with (first
        | (go_at_call 21; refine (alike_none pb HX4.out).mono ?_; rintro e w5 ⟨rfl, hB5⟩; have HB5 := Lib.hid (HB4.out.trans (hB5.mono HB4.out.size)); have HX5 := Lib.hid (blk_below HX4.out hB5); obtain ⟨p0, p1⟩ := cells_box0 HX5.out; clear hB5)
        | (go_at_call 30; refine (nilForkM w5).mono ?_; rintro e w6 ⟨rfl, hB6⟩; have HB6 := Lib.hid (HB5.out.trans (hB6.mono HB5.out.size)); have HX6 := Lib.hid (blk_below HX5.out hB6); obtain ⟨r0, r1⟩ := cells_box0 HX6.out; clear hB6)
        | (go_at_call 31; (first
            | (have hq := nilSameM w6; (with_reducible refine hq.mono ?_); clear hq; rintro e w7 ⟨rfl, hB7⟩; have HB7 := Lib.hid (HB6.out.trans (hB7.mono HB6.out.size)); have HX7 := Lib.hid (blk_below HX6.out hB7); obtain ⟨s0, s1⟩ := cells_box0 HX7.out; clear hB7)
            | (have hq := nilSame1 gp w7; (with_reducible refine hq.mono ?_); clear hq; rintro e w8 ⟨rfl, hB8⟩; have HB8 := Lib.hid (HB7.out.trans (hB8.mono HB7.out.size)); clear hB8)
            | (have hq := nilSame2 gp w8; (with_reducible refine hq.mono ?_); clear hq; rintro e w9 ⟨rfl, hB9⟩; have HB9 := Lib.hid (HB8.out.trans (hB9.mono HB8.out.size)); clear hB9))))
      go_ret
      exact ⟨rfl, HB9.out⟩
theorem none_walk (W : World) (a0 : Option Addr) (c0 : Nat) (x0 : List CallS) (h0 : Kd.C kCall W a0 x0.length x0) (l0 : x0.length ≤ c0) {H : Type} {d0 : DataW H} (b0 : (x0.map BC).sum + 1 ≤ Rows.uptoBulk d0) (w0 : ∀ x ∈ x0, wfC x) (hb : Rows.uptoBulk d0 + 0 ≤ 1048576) :
    Calls Try.prog 10 #[.slice a0 x0.length c0] W fun e W' => e = .returned (.bool true) ∧ Below W.heap.size W W' :=
  none_law W a0 c0 x0 h0 l0 (by have := BC_len x0; omega) (fun x hx => ⟨by have := BC_mem hx; omega, by have := BC_memA hx; omega⟩)
end Go.Proofs.Ytngocadnbpdnoaa.Mo
