import Derived.Test.YtngocadnbpdnoaaSXuL
import Derived.Sort.Walk0
import Derived.OwnWalkIn
import Derived.TacticsInMore
import Derived.RegionIn
import Derived.LoopNIn
import Derived.LoopIn
import Derived.Sort.CutIn
import Derived.Sort.QuietIn
import Derived.Sort.AtCallIn
import Derived.Shelf.RegionOpen
import Derived.Shelf.AbstractIn
namespace Go.Proofs.Ytngocadnbpdnoaa.Srt
open Go.Shelf Go.Proofs
variable {P : Program} {ρ : Ren}

set_option maxHeartbeats 1000000 in
theorem AnyU.cmp_isNaN_intIn (Ly : SlLaysU.n35 P ρ) (D : Nat) (x : Int) (w : World) : CallsIn (Fence.list [ρ.f 5, ρ.f 7, ρ.f 8, ρ.f 10, ρ.f 11, ρ.f 12, ρ.f 13, ρ.f 14, ρ.f 15, ρ.f 16, ρ.f 17, ρ.f 18, ρ.f 20, ρ.f 30, ρ.f 31, ρ.f 32, ρ.f 33, ρ.f 34, ρ.f 35, ρ.f 40] (some D)) 0 P (ρ.f 35) #[.int .u64 x] w fun e w' => e = .returned (.bool false) ∧ w' = w := by
  have mixed := Ly.mixed
  have t4 := Ly.t4; have a4 := Ly.a4; have z4 := Ly.z4; have v4 := Ly.v4; have t25 := Ly.t25; have a25 := Ly.a25; have z25 := Ly.z25; have v25 := Ly.v25
  obtain ⟨_, _, FG⟩ := Ly.f35
  gi_enter FG, SlBodyM.n35_ntmps ρ
  gi_wp2
  go_ret
  exact ⟨by simp, rfl⟩

set_option maxHeartbeats 1000000 in

theorem AnyU.cmp_Less_intIn (Ly : SlLaysU.n16 P ρ) (D : Nat) (x y : Int) (w : World) : CallsIn (Fence.list [ρ.f 5, ρ.f 7, ρ.f 8, ρ.f 10, ρ.f 11, ρ.f 12, ρ.f 13, ρ.f 14, ρ.f 15, ρ.f 16, ρ.f 17, ρ.f 18, ρ.f 20, ρ.f 30, ρ.f 31, ρ.f 32, ρ.f 33, ρ.f 34, ρ.f 35, ρ.f 40] (some D)) 1 P (ρ.f 16) #[.int .u64 x, .int .u64 y] w fun e w' => e = .returned (.bool (Sort.ltInt x y)) ∧ w' = w := by
  have mixed := Ly.mixed
  have t4 := Ly.t4; have a4 := Ly.a4; have z4 := Ly.z4; have v4 := Ly.v4; have t25 := Ly.t25; have a25 := Ly.a25; have z25 := Ly.z25; have v25 := Ly.v25
  have e215 : ∀ args w, (callFunc (ρ.f 35) args).run P w = .ok (.enter (ρ.f 35) args) w := Ly.f35.enters rfl
  obtain ⟨_, _, FG⟩ := Ly.f16
  gi_enter FG, SlBodyM.n16_ntmps ρ
  gi_wp2_with (gi_at_fn (ρ.f 35); refine (AnyU.cmp_isNaN_intIn { Ly with } D _ _).mono ?_; rintro e w' ⟨rfl, rfl⟩)
  go_ret
  exact ⟨rfl, rfl⟩

end Go.Proofs.Ytngocadnbpdnoaa.Srt
