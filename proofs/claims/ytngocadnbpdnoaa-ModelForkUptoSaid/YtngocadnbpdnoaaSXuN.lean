import Derived.Test.YtngocadnbpdnoaaSXuAs
import Derived.Sort.EveryDepth
import Derived.Shelf.SortM.So_math_bits_LenIn
import Derived.WalkKit
import Derived.OwnWalkIn
import Derived.TacticsInMore
import Derived.RegionIn
import Derived.LoopNIn
import Derived.LoopIn
import Derived.Sort.LoopGhostIn
import Derived.Sort.CutIn
import Derived.Sort.QuietIn
import Derived.Shelf.RegionOpen
import Derived.Shelf.AbstractIn
namespace Go.Proofs.Ytngocadnbpdnoaa.Srt
open Go.Shelf Go.RowKit Go.Sort
variable {P : Program} {ρ : Ren}

set_option maxHeartbeats 1000000 in

set_option maxHeartbeats 2000000 in
set_option maxRecDepth 100000 in

set_option maxHeartbeats 2000000 in
set_option maxRecDepth 100000 in

set_option maxHeartbeats 1000000 in

theorem AnyU.insertionSort_int_none_in (L : SlLaysU.n10 P ρ) (D : Nat) (p : Option Addr) (cap : Nat) (w : World) :
    CallsIn (Fence.list [ρ.f 5, ρ.f 7, ρ.f 8, ρ.f 10, ρ.f 11, ρ.f 12, ρ.f 13, ρ.f 14, ρ.f 15, ρ.f 16, ρ.f 17, ρ.f 18, ρ.f 20, ρ.f 30, ρ.f 31, ρ.f 32, ρ.f 33, ρ.f 34, ρ.f 35, ρ.f 40] (some D)) 0 P (ρ.f 10) #[.slice p 0 cap, .int .i64 0, .int .i64 0] w fun e w' => e = .returned (.tuple #[]) ∧ w' = w := by
  have mixed := L.mixed; have t0 := L.t0; have a0 := L.a0; have z0 := L.z0; have v0 := L.v0; have t3 := L.t3; have a3 := L.a3; have z3 := L.z3; have v3 := L.v3; have t4 := L.t4; have a4 := L.a4; have z4 := L.z4; have v4 := L.v4; have t22 := L.t22; have a22 := L.a22; have z22 := L.z22; have v22 := L.v22; have t25 := L.t25; have a25 := L.a25; have z25 := L.z25; have v25 := L.v25
  obtain ⟨_, _, FG⟩ := L.f10
  gi_enter FG, SlBodyM.n10_ntmps ρ
  gi_wp2
  refine wpIn_loop_rounds 1 ?_
  rw [roundsIn_succ]
  gi_wp2
  go_end0
  exact ⟨rfl, rfl⟩

set_option maxHeartbeats 2000000 in
set_option maxRecDepth 100000 in

theorem AnyU.pdqsort_int_none_in (L : SlLaysU.n7 P ρ) (D : Nat) (p : Option Addr) (cap : Nat) (w : World) :
    CallsIn (Fence.list [ρ.f 5, ρ.f 7, ρ.f 8, ρ.f 10, ρ.f 11, ρ.f 12, ρ.f 13, ρ.f 14, ρ.f 15, ρ.f 16, ρ.f 17, ρ.f 18, ρ.f 20, ρ.f 30, ρ.f 31, ρ.f 32, ρ.f 33, ρ.f 34, ρ.f 35, ρ.f 40] (some D)) 1 P (ρ.f 7) #[.slice p 0 cap, .int .i64 0, .int .i64 0, .int .i64 0] w fun e w' => e = .returned (.tuple #[]) ∧ w' = w := by
  have mixed := L.mixed; have t0 := L.t0; have a0 := L.a0; have z0 := L.z0; have v0 := L.v0; have t3 := L.t3; have a3 := L.a3; have z3 := L.z3; have v3 := L.v3; have t4 := L.t4; have a4 := L.a4; have z4 := L.z4; have v4 := L.v4; have t5 := L.t5; have a5 := L.a5; have z5 := L.z5; have v5 := L.v5; have t9 := L.t9; have a9 := L.a9; have z9 := L.z9; have v9 := L.v9; have t22 := L.t22; have a22 := L.a22; have z22 := L.z22; have v22 := L.v22; have t25 := L.t25; have a25 := L.a25; have z25 := L.z25; have v25 := L.v25; have t32 := L.t32; have a32 := L.a32; have z32 := L.z32; have v32 := L.v32; have t35 := L.t35; have a35 := L.a35; have z35 := L.z35; have v35 := L.v35; have t36 := L.t36; have a36 := L.a36; have z36 := L.z36; have v36 := L.v36; have t41 := L.t41; have a41 := L.a41; have z41 := L.z41; have v41 := L.v41; have t44 := L.t44; have a44 := L.a44; have z44 := L.z44; have v44 := L.v44; have t46 := L.t46; have a46 := L.a46; have z46 := L.z46; have v46 := L.v46; have t53 := L.t53; have a53 := L.a53; have z53 := L.z53; have v53 := L.v53; have t57 := L.t57; have a57 := L.a57; have z57 := L.z57; have v57 := L.v57; have t63 := L.t63; have a63 := L.a63; have z63 := L.z63; have v63 := L.v63; have t64 := L.t64; have a64 := L.a64; have z64 := L.z64; have v64 := L.v64
  have e294 : ∀ args w, (callFunc (ρ.f 10) args).run P w = .ok (.enter (ρ.f 10) args) w := L.f10.enters rfl
  obtain ⟨_, _, FG⟩ := L.f7
  gi_enter FG, SlBodyM.n7_ntmps ρ
  gi_wp2
  refine wpIn_loop_rounds 1 ?_
  rw [roundsIn_succ]
  gi_wp2_with (gi_at_fn (ρ.f 10); refine (AnyU.insertionSort_int_none_in { L with } D p cap _).mono ?_; rintro e w' ⟨rfl, rfl⟩)
  (try simp only [Exit.inBlock, Exit.then]); refine bodyPost_ret (results_none rfl _ _ _) rfl ?_
  exact ⟨rfl, rfl⟩

set_option maxHeartbeats 2000000 in
set_option maxRecDepth 100000 in

theorem AnyU.slices_Sort_int_none_in (L : SlLaysU.n5 P ρ) (D : Nat) (p : Option Addr) (cap : Nat) (w : World) :
    CallsIn (Fence.list [ρ.f 5, ρ.f 7, ρ.f 8, ρ.f 10, ρ.f 11, ρ.f 12, ρ.f 13, ρ.f 14, ρ.f 15, ρ.f 16, ρ.f 17, ρ.f 18, ρ.f 20, ρ.f 30, ρ.f 31, ρ.f 32, ρ.f 33, ρ.f 34, ρ.f 35, ρ.f 40] (some D)) 2 P (ρ.f 5) #[.slice p 0 cap] w fun e w' => e = .returned (.tuple #[]) ∧ w' = w := by
  have hLen : ∀ w, CallsIn (Fence.list [ρ.f 5, ρ.f 7, ρ.f 8, ρ.f 10, ρ.f 11, ρ.f 12, ρ.f 13, ρ.f 14, ρ.f 15, ρ.f 16, ρ.f 17, ρ.f 18, ρ.f 20, ρ.f 30, ρ.f 31, ρ.f 32, ρ.f 33, ρ.f 34, ρ.f 35, ρ.f 40] (some D)) 1 P (ρ.f 8) #[.int .u64 0] w fun e w' => e = .returned (.int .i64 0) ∧ w' = w := fun w => AnySM.bits_LenIn { L with } D 0 w (by omega) (by omega)
  have mixed := L.mixed; have t0 := L.t0; have a0 := L.a0; have z0 := L.z0; have v0 := L.v0; have t3 := L.t3; have a3 := L.a3; have z3 := L.z3; have v3 := L.v3; have t4 := L.t4; have a4 := L.a4; have z4 := L.z4; have v4 := L.v4; have t5 := L.t5; have a5 := L.a5; have z5 := L.z5; have v5 := L.v5; have t9 := L.t9; have a9 := L.a9; have z9 := L.z9; have v9 := L.v9; have t22 := L.t22; have a22 := L.a22; have z22 := L.z22; have v22 := L.v22; have t23 := L.t23; have a23 := L.a23; have z23 := L.z23; have v23 := L.v23; have t25 := L.t25; have a25 := L.a25; have z25 := L.z25; have v25 := L.v25; have t32 := L.t32; have a32 := L.a32; have z32 := L.z32; have v32 := L.v32; have t35 := L.t35; have a35 := L.a35; have z35 := L.z35; have v35 := L.v35; have t36 := L.t36; have a36 := L.a36; have z36 := L.z36; have v36 := L.v36; have t41 := L.t41; have a41 := L.a41; have z41 := L.z41; have v41 := L.v41; have t44 := L.t44; have a44 := L.a44; have z44 := L.z44; have v44 := L.v44; have t46 := L.t46; have a46 := L.a46; have z46 := L.z46; have v46 := L.v46; have t53 := L.t53; have a53 := L.a53; have z53 := L.z53; have v53 := L.v53; have t57 := L.t57; have a57 := L.a57; have z57 := L.z57; have v57 := L.v57; have t63 := L.t63; have a63 := L.a63; have z63 := L.z63; have v63 := L.v63; have t64 := L.t64; have a64 := L.a64; have z64 := L.z64; have v64 := L.v64
  have e125 : ∀ args w, (callFunc (ρ.f 8) args).run P w = .ok (.enter (ρ.f 8) args) w := enters_of L.f8 (by kernel_rfl) rfl
  have e257 : ∀ args w, (callFunc (ρ.f 7) args).run P w = .ok (.enter (ρ.f 7) args) w := L.f7.enters rfl
  obtain ⟨_, _, FG⟩ := L.f5
  gi_enter FG, SlBodyM.n5_ntmps ρ
  gi_wp2_with (first
    | (gi_at_fn (ρ.f 8); refine (hLen _).mono ?_; rintro e w' ⟨rfl, rfl⟩)
    | (gi_at_fn (ρ.f 7); refine (AnyU.pdqsort_int_none_in { L with } D p cap _).mono ?_; rintro e w' ⟨rfl, rfl⟩))
  go_end0
  exact ⟨rfl, rfl⟩


