import Derived.Test.YtngocadnbpdnoaaSXuL
import Derived.Sort.AssemblyPlain
import Derived.Test.YtngocadnbpdnoaaSXuA
import Derived.Test.YtngocadnbpdnoaaSXuA6
import Derived.Test.YtngocadnbpdnoaaSXu7
import Derived.Test.YtngocadnbpdnoaaSXu11
import Derived.Test.YtngocadnbpdnoaaSXuC
import Derived.Test.YtngocadnbpdnoaaSXuC4
import Derived.Test.YtngocadnbpdnoaaSXuB3
import Derived.Test.YtngocadnbpdnoaaSXu13
import Derived.Test.YtngocadnbpdnoaaSXuT
import Derived.Shelf.SortM.So_math_bits_LenIn
import Derived.Shelf.RegionOpen
import Derived.Shelf.AbstractIn
namespace Go.Proofs.Ytngocadnbpdnoaa.Srt
open Go.Shelf Go.Proofs
variable {P : Program} {ρ : Ren}

open Go.Sort

theorem callees13InM (Ly : SlLaysU.n7 P ρ) (D : Nat) : Callees13InM P ρ D where
  heap := AnyU.heapSort_intIn { Ly with } D
  rev := AnyU.reverseRange_intIn { Ly with } D
  ins := AnyU.insertionSort_intIn { Ly with } D
  brk := AnyU.breakPatterns_intIn { Ly with } D
  piv := AnyU.choosePivot_intIn { Ly with } D
  par := AnyU.partialInsertionSort_intIn { Ly with } D
  peq := AnyU.partitionEqualOrdered_intIn { Ly with } D
  prt := AnyU.partitionOrdered_intIn { Ly with } D

theorem plain13DM : Plain13 where
  swo := swo_ltInt
  ins := insertionSort_holds
  par := partialInsertionSort_holds
  prt := partition_holds _
  peq := partitionEqual_holds _
  pdq := pdq_sorts _

theorem pdqWalkInIntM (Ly : SlLaysU.n7 P ρ) (D : Nat) : pdqWalkIn_intM P ρ D := fun rm blk off cap a b limit d w hrm hH hb hab hbd hsz hl hB =>
  AnyU.pdqsort_intIn { Ly with } D (callees13InM { Ly with } D) plain13DM (b - a + 1) rm blk off cap a b limit d w (by omega) hrm hH hb hab hbd hsz hl hB

theorem lenWalkInAllM (Ly : SlLaysM.n8 P ρ) (D : Nat) : lenWalkInM P ρ D := fun n w hn => by
  have h := AnySM.bits_LenIn { Ly with } D (n : Int) w (by omega) (by omega)
  rwa [Int.toNat_natCast, bitLen_eq _ (by omega)] at h

theorem sort_int_eqDM (zs : List Int) : Sort.sort ltInt zs.toArray = (zs.mergeSort fun x y => decide (x ≤ y)).toArray := by
  rw [← sortInt zs]


theorem AnyU.slices_Sort_int_in (Ly : SlLaysU.n5 P ρ) (D blk off cap : Nat) (zs : List Int) (w : World) (hH : Holds (Value.int .u64) w blk off zs.toArray) (hblk : blk < w.heap.size) (hsz : zs.length < 4611686018427387904) :
    CallsIn (Fence.list [ρ.f 5, ρ.f 7, ρ.f 8, ρ.f 10, ρ.f 11, ρ.f 12, ρ.f 13, ρ.f 14, ρ.f 15, ρ.f 16, ρ.f 17, ρ.f 18, ρ.f 20, ρ.f 30, ρ.f 31, ρ.f 32, ρ.f 33, ρ.f 34, ρ.f 35, ρ.f 40] (some D)) 66 P (ρ.f 5) #[.slice (some ⟨blk, off, none⟩) zs.length cap] w fun e w' =>
      e = .returned (.tuple #[]) ∧ ∃ n os, w' = grow (putRow (Value.int .u64) (Sort.ahead w n) blk off (zs.mergeSort fun x y => decide (x ≤ y)).toArray) os := by
  have h := AnyU.Sort_intIn { Ly with } D (pdqWalkInIntM { Ly with } D) (lenWalkInAllM { Ly with } D) blk off cap zs.toArray w hH hblk (by simpa using hsz)
  rw [sort_int_eqDM] at h
  simpa using h


end Go.Proofs.Ytngocadnbpdnoaa.Srt
