import Derived.Test.YtngocadnbpdnoaaSMo0
import Derived.Test.YtngocadnbpdnoaaSMoL
import Derived.Test.YtngocadnbpdnoaaSXi4
import Derived.Test.YtngocadnbpdnoaaSXi3
import Derived.Test.YtngocadnbpdnoaaSXuN
import Derived.Test.YtngocadnbpdnoaaSQx0
import Derived.Sort.EveryDepth
import Derived.Lib.Hide
import Derived.Maps.OwnOps
import Derived.Maps.OwnSet
import Derived.Maps.RangeWalk
import Derived.Shelf.SlIter.Sorted
namespace Go.Proofs.Ytngocadnbpdnoaa.Mo
open Go Go.Maps Go.RowKit Go.Sort Go.Shelf Go.Proofs.Ytngocadnbpdnoaa.Srt Go.Proofs.Ytngocadnbpdnoaa.Q Go.Proofs.YtngocadnbpdnoaaW.PrintWords Go.Proofs.YtngocadnbpdnoaaW.PrintLast Go.Proofs.YtngocadnbpdnoaaW.PrintMore
set_option linter.unusedVariables false
set_option linter.unusedSimpArgs false
/-- A map of at most n entries that reads as l. -/
def MapN (w : World) (b n : Nat) (l : PL) : Prop := w.ownsMap Try.prog 23 (plainElem (H := Unit) Try.prog 23) b n (dmap l) ∧ Asc l
/-- How the held maps read: by a ghost table of blocks. -/
def RH (f : Nat → Option PL) : Value → Option (DataW Unit × List MemPlace)
  | .map none => some (.nil, [])
  | .map (some b) => (f b).map fun l => (dmap l, [])
  | _ => none
def HeldN (w : World) (f : Nat → Option PL) (b n : Nat) (hs : List (Int × PL)) : Prop := w.ownsMap Try.prog 23 (RH f) b n (mp dmap hs) ∧ Asc hs
theorem lawU : Keyed Try.prog 23 := int_keyed Try.underlying23
theorem zeroU (w : World) : (zeroValue 23).run Try.prog w = .ok (.int .u64 0) w := by kernel_rfl
theorem sortsA (m : Nat) : AnyZU.SortsIn Try.prog SortedA_ren Fence.wide m :=
  ⟨fun blk off cap ss W hH hblk hsz => callsIn_wide.2 (calls_of_every_depth fun D => AnyU.slices_Sort_int_in SortA D blk off cap ss W hH hblk hsz),
   fun p cap W => callsIn_wide.2 (calls_of_every_depth fun D => AnyU.slices_Sort_int_none_in SortA D p cap W)⟩
theorem keysA_c (mb : Option Nat) (w : World) :
    Calls Try.prog 85 #[.map mb] w fun e w' => e = .returned (.func (.func 100) #[] #[.pointer (some ⟨w.heap.size, 0, none⟩)]) ∧ w' = w.alloc (.cells #[.map mb] 97) :=
  (callsIn_wide (n := 5)).1 (AnyZU.keys_in KeysA Fence.wide 5 trivial rfl mb w)
theorem keysB_c (mb : Option Nat) (w : World) :
    Calls Try.prog 58 #[.map mb] w fun e w' => e = .returned (.func (.func 96) #[] #[.pointer (some ⟨w.heap.size, 0, none⟩)]) ∧ w' = w.alloc (.cells #[.map mb] 98) :=
  (callsIn_wide (n := 5)).1 (AnyZU.keys_in KeysB Fence.wide 5 trivial rfl mb w)
theorem own_alloc_u {w : World} {R : Value → Option (DataW Unit × List MemPlace)} {b n : Nat} {D : DataW Unit} (h : w.ownsMap Try.prog 23 R b n D) {W : World} (hb : Below w.heap.size w W) : W.ownsMap Try.prog 23 R b n D := by
  have hl := h.lt
  obtain ⟨es, clock, hb', F, hs, hD⟩ := h
  exact ⟨es, clock, (hb.block b hl).trans hb', F, hs, hD⟩
/-- slices.Sorted of a map's keys. -/
theorem sortedA_c {β : Type} {d : β → DataW Unit} (Bm b n : Nat) (l : List (Int × β)) (R : Value → Option (DataW Unit × List MemPlace)) (w : World) (hBm : Bm < w.heap.size) (hm : w.cell? ⟨Bm, 0, none⟩ = some (.map (some b))) (hown : w.ownsMap Try.prog 23 R b n (mp d l)) (ha : Asc l) (hn : l.length ≤ 1099511627776) :
    Calls Try.prog 57 #[.func (.func 100) #[] #[.pointer (some ⟨Bm, 0, none⟩)]] w fun e w' => ∃ v : Value, e = .returned v ∧
      (Kd.int .u64).R 23 w' w.heap.size (fun _ => True) v (l.map (·.1)) ∧ Below w.heap.size w w' := by
  have hsz : Maps.size (mp d l) = l.length := size_mp l
  have hseq : SeqGives Fence.wide 2 Try.prog 100 #[.pointer (some ⟨Bm, 0, none⟩)] encV (fun ss => ss.Perm (Go.intKeys (mp d l))) (Maps.size (mp d l)) w :=
    AnyZU.keys_gives (ρ := KeysA_ren) { KeysA with } Fence.wide _ trivial rfl (by omega) Bm b n (mp d l) w hBm hm hown
  have cS := AnyZU.sorted_in SortedA Fence.wide 5 trivial trivial trivial trivial rfl (by omega) (sortsA _) (enters_of Try.func95 (by kernel_rfl) rfl) 100 #[.pointer (some ⟨Bm, 0, none⟩)] trivial (enters_of Try.func100 (by kernel_rfl) rfl) _ _ (by rw [hsz]; unfold maxLen; omega) (by rw [hsz]; omega) _ hseq
  change CallsIn _ _ Try.prog 57 _ _ _ at cS
  refine ((callsIn_wide).1 cS).mono ?_
  rintro e w' ⟨v, ss, rfl, hS, hrow, hnil, hb⟩
  rw [intKeys_mp] at hS
  rw [sort_keys ha hS] at hrow
  have hlen : ss.length = (l.map (·.1)).length := hS.length_eq
  rw [hlen] at hrow
  exact ⟨v, rfl, Kd.R_of_own hrow (fun _ _ => trivial), hb⟩
theorem sortedB_c {β : Type} {d : β → DataW Unit} (Bm b n : Nat) (l : List (Int × β)) (R : Value → Option (DataW Unit × List MemPlace)) (w : World) (hBm : Bm < w.heap.size) (hm : w.cell? ⟨Bm, 0, none⟩ = some (.map (some b))) (hown : w.ownsMap Try.prog 23 R b n (mp d l)) (ha : Asc l) (hn : l.length ≤ 1099511627776) :
    Calls Try.prog 57 #[.func (.func 96) #[] #[.pointer (some ⟨Bm, 0, none⟩)]] w fun e w' => ∃ v : Value, e = .returned v ∧
      (Kd.int .u64).R 23 w' w.heap.size (fun _ => True) v (l.map (·.1)) ∧ Below w.heap.size w w' := by
  have hsz : Maps.size (mp d l) = l.length := size_mp l
  have hseq : SeqGives Fence.wide 2 Try.prog 96 #[.pointer (some ⟨Bm, 0, none⟩)] encV (fun ss => ss.Perm (Go.intKeys (mp d l))) (Maps.size (mp d l)) w :=
    AnyZU.keys_gives (ρ := KeysB_ren) { KeysB with } Fence.wide _ trivial rfl (by omega) Bm b n (mp d l) w hBm hm hown
  have cS := AnyZU.sorted_in SortedA Fence.wide 5 trivial trivial trivial trivial rfl (by omega) (sortsA _) (enters_of Try.func95 (by kernel_rfl) rfl) 96 #[.pointer (some ⟨Bm, 0, none⟩)] trivial (enters_of Try.func96 (by kernel_rfl) rfl) _ _ (by rw [hsz]; unfold maxLen; omega) (by rw [hsz]; omega) _ hseq
  change CallsIn _ _ Try.prog 57 _ _ _ at cS
  refine ((callsIn_wide).1 cS).mono ?_
  rintro e w' ⟨v, ss, rfl, hS, hrow, hnil, hb⟩
  rw [intKeys_mp] at hS
  rw [sort_keys ha hS] at hrow
  have hlen : ss.length = (l.map (·.1)).length := hS.length_eq
  rw [hlen] at hrow
  exact ⟨v, rfl, Kd.R_of_own hrow (fun _ _ => trivial), hb⟩
end Go.Proofs.Ytngocadnbpdnoaa.Mo
