import Derived.Test.YtngocadnbpdnoaaSXiL
import Derived.Test.YtngocadnbpdnoaaSXiK
import Derived.Shelf.SlIter.Keys
import Derived.Shelf.AbstractIn
import Derived.RangeFuncSeq
import Derived.Sort.MapsRangeIn
import Derived.Sort.KeysCollected
import Derived.WalkKit
import Derived.OwnWalkIn
import Derived.TacticsInMore
import Derived.RegionIn
import Derived.LoopNIn
import Derived.LoopIn
namespace Go.Proofs.Ytngocadnbpdnoaa.Srt
open Go Go.Proofs
open Go.RowKit Go.Maps Go.Sort Go.Shelf
variable {P : Program} {ρ : Ren}

set_option maxHeartbeats 1000000 in

theorem AnyZU.keys_in (L : SlLaysZU.n7 P ρ) (F : Fence) (n : Nat) (h7 : F.fn (ρ.f 7)) (hro : F.round = none) (mb : Option Nat) (w : World) :
    CallsIn F n P (ρ.f 7) #[.map mb] w fun e w' => e = .returned (.func (.func (ρ.f 10)) #[] #[.pointer (some ⟨w.heap.size, 0, none⟩)]) ∧ w' = w.alloc (.cells #[.map mb] (ρ.t 23)) := by
  have mixed := L.mixed; have t0 := L.t0; have a0 := L.a0; have z0 := L.z0; have v0 := L.v0; have t4 := L.t4; have a4 := L.a4; have z4 := L.z4; have v4 := L.v4; have t23 := L.t23; have a23 := L.a23; have z23 := L.z23; have v23 := L.v23; have t26 := L.t26; have a26 := L.a26; have z26 := L.z26; have v26 := L.v26; have t27 := L.t27; have a27 := L.a27; have z27 := L.z27; have v27 := L.v27; have t28 := L.t28; have a28 := L.a28; have z28 := L.z28; have v28 := L.v28; have t33 := L.t33; have a33 := L.a33; have z33 := L.z33; have v33 := L.v33
  have u0 := run_underlying L.t0; have u4 := run_underlying L.t4; have u23 := run_underlying L.t23; have u26 := run_underlying L.t26; have u27 := run_underlying L.t27; have u28 := run_underlying L.t28; have u33 := run_underlying L.t33
  obtain ⟨_, _, FG⟩ := L.f7
  refine callsIn_of_wp FG rfl h7 ?_ hro
  simp only [SlBodyZ.n7_ntmps ρ, List.size_toArray, List.length_cons, List.length_nil, Nat.reduceAdd, Nat.reduceSub, Array.replicate_succ, Array.replicate_zero, List.push_toArray, List.append_toArray, List.nil_append, List.cons_append]
  gi_wp2
  go_ret
  exact ⟨rfl, rfl⟩

end Go.Proofs.Ytngocadnbpdnoaa.Srt
