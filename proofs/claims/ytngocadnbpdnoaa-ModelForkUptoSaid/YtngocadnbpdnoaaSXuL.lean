import Derived.Shelf.SlLaysM
import Derived.Sort.WalkD1
import Derived.Sort.WalkB12
namespace Go.Proofs.Ytngocadnbpdnoaa.Srt
open Go.Shelf
structure SlLaysU.n5 (P : Program) (ρ : Ren) : Prop where
  mixed : P.follows .mixedOrders = true
  f5 : Bears P (ρ.f 5) (SlBodyM.n5 ρ)
  f7 : Bears P (ρ.f 7) (SlBodyM.n7 ρ)
  f8 : P.funcs[ρ.f 8]? = some (SlBodyM.n8 ρ)
  f10 : Bears P (ρ.f 10) (SlBodyM.n10 ρ)
  f11 : Bears P (ρ.f 11) (SlBodyM.n11 ρ)
  f12 : Bears P (ρ.f 12) (SlBodyM.n12 ρ)
  f13 : Bears P (ρ.f 13) (SlBodyM.n13 ρ)
  f14 : Bears P (ρ.f 14) (SlBodyM.n14 ρ)
  f15 : Bears P (ρ.f 15) (SlBodyM.n15 ρ)
  f16 : Bears P (ρ.f 16) (SlBodyM.n16 ρ)
  f17 : Bears P (ρ.f 17) (SlBodyM.n17 ρ)
  f18 : Bears P (ρ.f 18) (SlBodyM.n18 ρ)
  f19 : P.funcs[ρ.f 19]? = some (SlBodyM.n19 ρ)
  f20 : P.funcs[ρ.f 20]? = some (SlBodyM.n20 ρ)
  f30 : Bears P (ρ.f 30) (SlBodyM.n30 ρ)
  f31 : P.funcs[ρ.f 31]? = some (SlBodyM.n31 ρ)
  f32 : P.funcs[ρ.f 32]? = some (SlBodyM.n32 ρ)
  f33 : Bears P (ρ.f 33) (SlBodyM.n33 ρ)
  f34 : Bears P (ρ.f 34) (SlBodyM.n34 ρ)
  f35 : Bears P (ρ.f 35) (SlBodyM.n35 ρ)
  f40 : Bears P (ρ.f 40) (SlBodyM.n40 ρ)
  t0 : P.underlying (ρ.t 0) = some (TypeDesc.tuple #[])
  a0 : ∀ w, (isAgg (ρ.t 0)).run P w = .ok false w
  z0 : ∀ w, (Go.sizeOf (ρ.t 0)).run P w = .ok 1 w
  v0 : ∀ w, (zeroValue (ρ.t 0)).run P w = .ok (Value.tuple #[]) w
  t3 : P.underlying (ρ.t 3) = some (TypeDesc.int IntKind.i64)
  a3 : ∀ w, (isAgg (ρ.t 3)).run P w = .ok false w
  z3 : ∀ w, (Go.sizeOf (ρ.t 3)).run P w = .ok 1 w
  v3 : ∀ w, (zeroValue (ρ.t 3)).run P w = .ok (Value.int IntKind.i64 0) w
  t4 : P.underlying (ρ.t 4) = some (TypeDesc.bool)
  a4 : ∀ w, (isAgg (ρ.t 4)).run P w = .ok false w
  z4 : ∀ w, (Go.sizeOf (ρ.t 4)).run P w = .ok 1 w
  v4 : ∀ w, (zeroValue (ρ.t 4)).run P w = .ok (Value.bool false) w
  t5 : P.underlying (ρ.t 5) = some (TypeDesc.int IntKind.u8)
  a5 : ∀ w, (isAgg (ρ.t 5)).run P w = .ok false w
  z5 : ∀ w, (Go.sizeOf (ρ.t 5)).run P w = .ok 1 w
  v5 : ∀ w, (zeroValue (ρ.t 5)).run P w = .ok (Value.int IntKind.u8 0) w
  t9 : P.underlying (ρ.t 9) = some (TypeDesc.string)
  a9 : ∀ w, (isAgg (ρ.t 9)).run P w = .ok false w
  z9 : ∀ w, (Go.sizeOf (ρ.t 9)).run P w = .ok 1 w
  v9 : ∀ w, (zeroValue (ρ.t 9)).run P w = .ok (Value.string { data := #[] }) w
  t22 : P.underlying (ρ.t 22) = some (TypeDesc.slice (ρ.t 25))
  a22 : ∀ w, (isAgg (ρ.t 22)).run P w = .ok false w
  z22 : ∀ w, (Go.sizeOf (ρ.t 22)).run P w = .ok 1 w
  v22 : ∀ w, (zeroValue (ρ.t 22)).run P w = .ok (Value.slice none 0 0) w
  t23 : P.underlying (ρ.t 23) = some (TypeDesc.slice (ρ.t 25))
  a23 : ∀ w, (isAgg (ρ.t 23)).run P w = .ok false w
  z23 : ∀ w, (Go.sizeOf (ρ.t 23)).run P w = .ok 1 w
  v23 : ∀ w, (zeroValue (ρ.t 23)).run P w = .ok (Value.slice none 0 0) w
  t25 : P.underlying (ρ.t 25) = some (TypeDesc.int IntKind.u64)
  a25 : ∀ w, (isAgg (ρ.t 25)).run P w = .ok false w
  z25 : ∀ w, (Go.sizeOf (ρ.t 25)).run P w = .ok 1 w
  v25 : ∀ w, (zeroValue (ρ.t 25)).run P w = .ok (Value.int IntKind.u64 0) w
  t32 : P.underlying (ρ.t 32) = some (TypeDesc.int IntKind.u64)
  a32 : ∀ w, (isAgg (ρ.t 32)).run P w = .ok false w
  z32 : ∀ w, (Go.sizeOf (ρ.t 32)).run P w = .ok 1 w
  v32 : ∀ w, (zeroValue (ρ.t 32)).run P w = .ok (Value.int IntKind.u64 0) w
  t35 : P.underlying (ρ.t 35) = some (TypeDesc.int IntKind.i64)
  a35 : ∀ w, (isAgg (ρ.t 35)).run P w = .ok false w
  z35 : ∀ w, (Go.sizeOf (ρ.t 35)).run P w = .ok 1 w
  v35 : ∀ w, (zeroValue (ρ.t 35)).run P w = .ok (Value.int IntKind.i64 0) w
  t36 : P.underlying (ρ.t 36) = some (TypeDesc.tuple #[ρ.t 3, ρ.t 35])
  a36 : ∀ w, (isAgg (ρ.t 36)).run P w = .ok false w
  z36 : ∀ w, (Go.sizeOf (ρ.t 36)).run P w = .ok 1 w
  v36 : ∀ w, (zeroValue (ρ.t 36)).run P w = .ok (Value.tuple #[Value.int IntKind.i64 0, Value.int IntKind.i64 0]) w
  t41 : P.underlying (ρ.t 41) = some (TypeDesc.tuple #[ρ.t 3, ρ.t 4])
  a41 : ∀ w, (isAgg (ρ.t 41)).run P w = .ok false w
  z41 : ∀ w, (Go.sizeOf (ρ.t 41)).run P w = .ok 1 w
  v41 : ∀ w, (zeroValue (ρ.t 41)).run P w = .ok (Value.tuple #[Value.int IntKind.i64 0, Value.bool false]) w
  t44 : P.underlying (ρ.t 44) = some (TypeDesc.int IntKind.u32)
  a44 : ∀ w, (isAgg (ρ.t 44)).run P w = .ok false w
  z44 : ∀ w, (Go.sizeOf (ρ.t 44)).run P w = .ok 1 w
  v44 : ∀ w, (zeroValue (ρ.t 44)).run P w = .ok (Value.int IntKind.u32 0) w
  t46 : P.underlying (ρ.t 46) = some (TypeDesc.int IntKind.u64)
  a46 : ∀ w, (isAgg (ρ.t 46)).run P w = .ok false w
  z46 : ∀ w, (Go.sizeOf (ρ.t 46)).run P w = .ok 1 w
  v46 : ∀ w, (zeroValue (ρ.t 46)).run P w = .ok (Value.int IntKind.u64 0) w
  t53 : P.underlying (ρ.t 53) = some (TypeDesc.int IntKind.u64)
  a53 : ∀ w, (isAgg (ρ.t 53)).run P w = .ok false w
  z53 : ∀ w, (Go.sizeOf (ρ.t 53)).run P w = .ok 1 w
  v53 : ∀ w, (zeroValue (ρ.t 53)).run P w = .ok (Value.int IntKind.u64 0) w
  t57 : P.underlying (ρ.t 57) = some (TypeDesc.pointer (ρ.t 3))
  a57 : ∀ w, (isAgg (ρ.t 57)).run P w = .ok false w
  z57 : ∀ w, (Go.sizeOf (ρ.t 57)).run P w = .ok 1 w
  v57 : ∀ w, (zeroValue (ρ.t 57)).run P w = .ok (Value.pointer none) w
  t63 : P.underlying (ρ.t 63) = some (TypeDesc.pointer (ρ.t 53))
  a63 : ∀ w, (isAgg (ρ.t 63)).run P w = .ok false w
  z63 : ∀ w, (Go.sizeOf (ρ.t 63)).run P w = .ok 1 w
  v63 : ∀ w, (zeroValue (ρ.t 63)).run P w = .ok (Value.pointer none) w
  t64 : P.underlying (ρ.t 64) = some (TypeDesc.tuple #[ρ.t 3, ρ.t 3])
  a64 : ∀ w, (isAgg (ρ.t 64)).run P w = .ok false w
  z64 : ∀ w, (Go.sizeOf (ρ.t 64)).run P w = .ok 1 w
  v64 : ∀ w, (zeroValue (ρ.t 64)).run P w = .ok (Value.tuple #[Value.int IntKind.i64 0, Value.int IntKind.i64 0]) w
structure SlLaysU.n7 (P : Program) (ρ : Ren) : Prop where
  mixed : P.follows .mixedOrders = true
  f7 : Bears P (ρ.f 7) (SlBodyM.n7 ρ)
  f8 : P.funcs[ρ.f 8]? = some (SlBodyM.n8 ρ)
  f10 : Bears P (ρ.f 10) (SlBodyM.n10 ρ)
  f11 : Bears P (ρ.f 11) (SlBodyM.n11 ρ)
  f12 : Bears P (ρ.f 12) (SlBodyM.n12 ρ)
  f13 : Bears P (ρ.f 13) (SlBodyM.n13 ρ)
  f14 : Bears P (ρ.f 14) (SlBodyM.n14 ρ)
  f15 : Bears P (ρ.f 15) (SlBodyM.n15 ρ)
  f16 : Bears P (ρ.f 16) (SlBodyM.n16 ρ)
  f17 : Bears P (ρ.f 17) (SlBodyM.n17 ρ)
  f18 : Bears P (ρ.f 18) (SlBodyM.n18 ρ)
  f19 : P.funcs[ρ.f 19]? = some (SlBodyM.n19 ρ)
  f20 : P.funcs[ρ.f 20]? = some (SlBodyM.n20 ρ)
  f30 : Bears P (ρ.f 30) (SlBodyM.n30 ρ)
  f31 : P.funcs[ρ.f 31]? = some (SlBodyM.n31 ρ)
  f32 : P.funcs[ρ.f 32]? = some (SlBodyM.n32 ρ)
  f33 : Bears P (ρ.f 33) (SlBodyM.n33 ρ)
  f34 : Bears P (ρ.f 34) (SlBodyM.n34 ρ)
  f35 : Bears P (ρ.f 35) (SlBodyM.n35 ρ)
  f40 : Bears P (ρ.f 40) (SlBodyM.n40 ρ)
  t0 : P.underlying (ρ.t 0) = some (TypeDesc.tuple #[])
  a0 : ∀ w, (isAgg (ρ.t 0)).run P w = .ok false w
  z0 : ∀ w, (Go.sizeOf (ρ.t 0)).run P w = .ok 1 w
  v0 : ∀ w, (zeroValue (ρ.t 0)).run P w = .ok (Value.tuple #[]) w
  t3 : P.underlying (ρ.t 3) = some (TypeDesc.int IntKind.i64)
  a3 : ∀ w, (isAgg (ρ.t 3)).run P w = .ok false w
  z3 : ∀ w, (Go.sizeOf (ρ.t 3)).run P w = .ok 1 w
  v3 : ∀ w, (zeroValue (ρ.t 3)).run P w = .ok (Value.int IntKind.i64 0) w
  t4 : P.underlying (ρ.t 4) = some (TypeDesc.bool)
  a4 : ∀ w, (isAgg (ρ.t 4)).run P w = .ok false w
  z4 : ∀ w, (Go.sizeOf (ρ.t 4)).run P w = .ok 1 w
  v4 : ∀ w, (zeroValue (ρ.t 4)).run P w = .ok (Value.bool false) w
  t5 : P.underlying (ρ.t 5) = some (TypeDesc.int IntKind.u8)
  a5 : ∀ w, (isAgg (ρ.t 5)).run P w = .ok false w
  z5 : ∀ w, (Go.sizeOf (ρ.t 5)).run P w = .ok 1 w
  v5 : ∀ w, (zeroValue (ρ.t 5)).run P w = .ok (Value.int IntKind.u8 0) w
  t9 : P.underlying (ρ.t 9) = some (TypeDesc.string)
  a9 : ∀ w, (isAgg (ρ.t 9)).run P w = .ok false w
  z9 : ∀ w, (Go.sizeOf (ρ.t 9)).run P w = .ok 1 w
  v9 : ∀ w, (zeroValue (ρ.t 9)).run P w = .ok (Value.string { data := #[] }) w
  t22 : P.underlying (ρ.t 22) = some (TypeDesc.slice (ρ.t 25))
  a22 : ∀ w, (isAgg (ρ.t 22)).run P w = .ok false w
  z22 : ∀ w, (Go.sizeOf (ρ.t 22)).run P w = .ok 1 w
  v22 : ∀ w, (zeroValue (ρ.t 22)).run P w = .ok (Value.slice none 0 0) w
  t25 : P.underlying (ρ.t 25) = some (TypeDesc.int IntKind.u64)
  a25 : ∀ w, (isAgg (ρ.t 25)).run P w = .ok false w
  z25 : ∀ w, (Go.sizeOf (ρ.t 25)).run P w = .ok 1 w
  v25 : ∀ w, (zeroValue (ρ.t 25)).run P w = .ok (Value.int IntKind.u64 0) w
  t32 : P.underlying (ρ.t 32) = some (TypeDesc.int IntKind.u64)
  a32 : ∀ w, (isAgg (ρ.t 32)).run P w = .ok false w
  z32 : ∀ w, (Go.sizeOf (ρ.t 32)).run P w = .ok 1 w
  v32 : ∀ w, (zeroValue (ρ.t 32)).run P w = .ok (Value.int IntKind.u64 0) w
  t35 : P.underlying (ρ.t 35) = some (TypeDesc.int IntKind.i64)
  a35 : ∀ w, (isAgg (ρ.t 35)).run P w = .ok false w
  z35 : ∀ w, (Go.sizeOf (ρ.t 35)).run P w = .ok 1 w
  v35 : ∀ w, (zeroValue (ρ.t 35)).run P w = .ok (Value.int IntKind.i64 0) w
  t36 : P.underlying (ρ.t 36) = some (TypeDesc.tuple #[ρ.t 3, ρ.t 35])
  a36 : ∀ w, (isAgg (ρ.t 36)).run P w = .ok false w
  z36 : ∀ w, (Go.sizeOf (ρ.t 36)).run P w = .ok 1 w
  v36 : ∀ w, (zeroValue (ρ.t 36)).run P w = .ok (Value.tuple #[Value.int IntKind.i64 0, Value.int IntKind.i64 0]) w
  t41 : P.underlying (ρ.t 41) = some (TypeDesc.tuple #[ρ.t 3, ρ.t 4])
  a41 : ∀ w, (isAgg (ρ.t 41)).run P w = .ok false w
  z41 : ∀ w, (Go.sizeOf (ρ.t 41)).run P w = .ok 1 w
  v41 : ∀ w, (zeroValue (ρ.t 41)).run P w = .ok (Value.tuple #[Value.int IntKind.i64 0, Value.bool false]) w
  t44 : P.underlying (ρ.t 44) = some (TypeDesc.int IntKind.u32)
  a44 : ∀ w, (isAgg (ρ.t 44)).run P w = .ok false w
  z44 : ∀ w, (Go.sizeOf (ρ.t 44)).run P w = .ok 1 w
  v44 : ∀ w, (zeroValue (ρ.t 44)).run P w = .ok (Value.int IntKind.u32 0) w
  t46 : P.underlying (ρ.t 46) = some (TypeDesc.int IntKind.u64)
  a46 : ∀ w, (isAgg (ρ.t 46)).run P w = .ok false w
  z46 : ∀ w, (Go.sizeOf (ρ.t 46)).run P w = .ok 1 w
  v46 : ∀ w, (zeroValue (ρ.t 46)).run P w = .ok (Value.int IntKind.u64 0) w
  t53 : P.underlying (ρ.t 53) = some (TypeDesc.int IntKind.u64)
  a53 : ∀ w, (isAgg (ρ.t 53)).run P w = .ok false w
  z53 : ∀ w, (Go.sizeOf (ρ.t 53)).run P w = .ok 1 w
  v53 : ∀ w, (zeroValue (ρ.t 53)).run P w = .ok (Value.int IntKind.u64 0) w
  t57 : P.underlying (ρ.t 57) = some (TypeDesc.pointer (ρ.t 3))
  a57 : ∀ w, (isAgg (ρ.t 57)).run P w = .ok false w
  z57 : ∀ w, (Go.sizeOf (ρ.t 57)).run P w = .ok 1 w
  v57 : ∀ w, (zeroValue (ρ.t 57)).run P w = .ok (Value.pointer none) w
  t63 : P.underlying (ρ.t 63) = some (TypeDesc.pointer (ρ.t 53))
  a63 : ∀ w, (isAgg (ρ.t 63)).run P w = .ok false w
  z63 : ∀ w, (Go.sizeOf (ρ.t 63)).run P w = .ok 1 w
  v63 : ∀ w, (zeroValue (ρ.t 63)).run P w = .ok (Value.pointer none) w
  t64 : P.underlying (ρ.t 64) = some (TypeDesc.tuple #[ρ.t 3, ρ.t 3])
  a64 : ∀ w, (isAgg (ρ.t 64)).run P w = .ok false w
  z64 : ∀ w, (Go.sizeOf (ρ.t 64)).run P w = .ok 1 w
  v64 : ∀ w, (zeroValue (ρ.t 64)).run P w = .ok (Value.tuple #[Value.int IntKind.i64 0, Value.int IntKind.i64 0]) w
structure SlLaysU.n10 (P : Program) (ρ : Ren) : Prop where
  mixed : P.follows .mixedOrders = true
  f10 : Bears P (ρ.f 10) (SlBodyM.n10 ρ)
  f16 : Bears P (ρ.f 16) (SlBodyM.n16 ρ)
  f35 : Bears P (ρ.f 35) (SlBodyM.n35 ρ)
  t0 : P.underlying (ρ.t 0) = some (TypeDesc.tuple #[])
  a0 : ∀ w, (isAgg (ρ.t 0)).run P w = .ok false w
  z0 : ∀ w, (Go.sizeOf (ρ.t 0)).run P w = .ok 1 w
  v0 : ∀ w, (zeroValue (ρ.t 0)).run P w = .ok (Value.tuple #[]) w
  t3 : P.underlying (ρ.t 3) = some (TypeDesc.int IntKind.i64)
  a3 : ∀ w, (isAgg (ρ.t 3)).run P w = .ok false w
  z3 : ∀ w, (Go.sizeOf (ρ.t 3)).run P w = .ok 1 w
  v3 : ∀ w, (zeroValue (ρ.t 3)).run P w = .ok (Value.int IntKind.i64 0) w
  t4 : P.underlying (ρ.t 4) = some (TypeDesc.bool)
  a4 : ∀ w, (isAgg (ρ.t 4)).run P w = .ok false w
  z4 : ∀ w, (Go.sizeOf (ρ.t 4)).run P w = .ok 1 w
  v4 : ∀ w, (zeroValue (ρ.t 4)).run P w = .ok (Value.bool false) w
  t22 : P.underlying (ρ.t 22) = some (TypeDesc.slice (ρ.t 25))
  a22 : ∀ w, (isAgg (ρ.t 22)).run P w = .ok false w
  z22 : ∀ w, (Go.sizeOf (ρ.t 22)).run P w = .ok 1 w
  v22 : ∀ w, (zeroValue (ρ.t 22)).run P w = .ok (Value.slice none 0 0) w
  t25 : P.underlying (ρ.t 25) = some (TypeDesc.int IntKind.u64)
  a25 : ∀ w, (isAgg (ρ.t 25)).run P w = .ok false w
  z25 : ∀ w, (Go.sizeOf (ρ.t 25)).run P w = .ok 1 w
  v25 : ∀ w, (zeroValue (ρ.t 25)).run P w = .ok (Value.int IntKind.u64 0) w
structure SlLaysU.n11 (P : Program) (ρ : Ren) : Prop where
  mixed : P.follows .mixedOrders = true
  f11 : Bears P (ρ.f 11) (SlBodyM.n11 ρ)
  f16 : Bears P (ρ.f 16) (SlBodyM.n16 ρ)
  f30 : Bears P (ρ.f 30) (SlBodyM.n30 ρ)
  f35 : Bears P (ρ.f 35) (SlBodyM.n35 ρ)
  t0 : P.underlying (ρ.t 0) = some (TypeDesc.tuple #[])
  a0 : ∀ w, (isAgg (ρ.t 0)).run P w = .ok false w
  z0 : ∀ w, (Go.sizeOf (ρ.t 0)).run P w = .ok 1 w
  v0 : ∀ w, (zeroValue (ρ.t 0)).run P w = .ok (Value.tuple #[]) w
  t3 : P.underlying (ρ.t 3) = some (TypeDesc.int IntKind.i64)
  a3 : ∀ w, (isAgg (ρ.t 3)).run P w = .ok false w
  z3 : ∀ w, (Go.sizeOf (ρ.t 3)).run P w = .ok 1 w
  v3 : ∀ w, (zeroValue (ρ.t 3)).run P w = .ok (Value.int IntKind.i64 0) w
  t4 : P.underlying (ρ.t 4) = some (TypeDesc.bool)
  a4 : ∀ w, (isAgg (ρ.t 4)).run P w = .ok false w
  z4 : ∀ w, (Go.sizeOf (ρ.t 4)).run P w = .ok 1 w
  v4 : ∀ w, (zeroValue (ρ.t 4)).run P w = .ok (Value.bool false) w
  t22 : P.underlying (ρ.t 22) = some (TypeDesc.slice (ρ.t 25))
  a22 : ∀ w, (isAgg (ρ.t 22)).run P w = .ok false w
  z22 : ∀ w, (Go.sizeOf (ρ.t 22)).run P w = .ok 1 w
  v22 : ∀ w, (zeroValue (ρ.t 22)).run P w = .ok (Value.slice none 0 0) w
  t25 : P.underlying (ρ.t 25) = some (TypeDesc.int IntKind.u64)
  a25 : ∀ w, (isAgg (ρ.t 25)).run P w = .ok false w
  z25 : ∀ w, (Go.sizeOf (ρ.t 25)).run P w = .ok 1 w
  v25 : ∀ w, (zeroValue (ρ.t 25)).run P w = .ok (Value.int IntKind.u64 0) w
structure SlLaysU.n12 (P : Program) (ρ : Ren) : Prop where
  mixed : P.follows .mixedOrders = true
  f8 : P.funcs[ρ.f 8]? = some (SlBodyM.n8 ρ)
  f12 : Bears P (ρ.f 12) (SlBodyM.n12 ρ)
  f19 : P.funcs[ρ.f 19]? = some (SlBodyM.n19 ρ)
  f20 : P.funcs[ρ.f 20]? = some (SlBodyM.n20 ρ)
  f31 : P.funcs[ρ.f 31]? = some (SlBodyM.n31 ρ)
  f32 : P.funcs[ρ.f 32]? = some (SlBodyM.n32 ρ)
  t0 : P.underlying (ρ.t 0) = some (TypeDesc.tuple #[])
  a0 : ∀ w, (isAgg (ρ.t 0)).run P w = .ok false w
  z0 : ∀ w, (Go.sizeOf (ρ.t 0)).run P w = .ok 1 w
  v0 : ∀ w, (zeroValue (ρ.t 0)).run P w = .ok (Value.tuple #[]) w
  t3 : P.underlying (ρ.t 3) = some (TypeDesc.int IntKind.i64)
  a3 : ∀ w, (isAgg (ρ.t 3)).run P w = .ok false w
  z3 : ∀ w, (Go.sizeOf (ρ.t 3)).run P w = .ok 1 w
  v3 : ∀ w, (zeroValue (ρ.t 3)).run P w = .ok (Value.int IntKind.i64 0) w
  t4 : P.underlying (ρ.t 4) = some (TypeDesc.bool)
  a4 : ∀ w, (isAgg (ρ.t 4)).run P w = .ok false w
  z4 : ∀ w, (Go.sizeOf (ρ.t 4)).run P w = .ok 1 w
  v4 : ∀ w, (zeroValue (ρ.t 4)).run P w = .ok (Value.bool false) w
  t5 : P.underlying (ρ.t 5) = some (TypeDesc.int IntKind.u8)
  a5 : ∀ w, (isAgg (ρ.t 5)).run P w = .ok false w
  z5 : ∀ w, (Go.sizeOf (ρ.t 5)).run P w = .ok 1 w
  v5 : ∀ w, (zeroValue (ρ.t 5)).run P w = .ok (Value.int IntKind.u8 0) w
  t9 : P.underlying (ρ.t 9) = some (TypeDesc.string)
  a9 : ∀ w, (isAgg (ρ.t 9)).run P w = .ok false w
  z9 : ∀ w, (Go.sizeOf (ρ.t 9)).run P w = .ok 1 w
  v9 : ∀ w, (zeroValue (ρ.t 9)).run P w = .ok (Value.string { data := #[] }) w
  t22 : P.underlying (ρ.t 22) = some (TypeDesc.slice (ρ.t 25))
  a22 : ∀ w, (isAgg (ρ.t 22)).run P w = .ok false w
  z22 : ∀ w, (Go.sizeOf (ρ.t 22)).run P w = .ok 1 w
  v22 : ∀ w, (zeroValue (ρ.t 22)).run P w = .ok (Value.slice none 0 0) w
  t25 : P.underlying (ρ.t 25) = some (TypeDesc.int IntKind.u64)
  a25 : ∀ w, (isAgg (ρ.t 25)).run P w = .ok false w
  z25 : ∀ w, (Go.sizeOf (ρ.t 25)).run P w = .ok 1 w
  v25 : ∀ w, (zeroValue (ρ.t 25)).run P w = .ok (Value.int IntKind.u64 0) w
  t32 : P.underlying (ρ.t 32) = some (TypeDesc.int IntKind.u64)
  a32 : ∀ w, (isAgg (ρ.t 32)).run P w = .ok false w
  z32 : ∀ w, (Go.sizeOf (ρ.t 32)).run P w = .ok 1 w
  v32 : ∀ w, (zeroValue (ρ.t 32)).run P w = .ok (Value.int IntKind.u64 0) w
  t44 : P.underlying (ρ.t 44) = some (TypeDesc.int IntKind.u32)
  a44 : ∀ w, (isAgg (ρ.t 44)).run P w = .ok false w
  z44 : ∀ w, (Go.sizeOf (ρ.t 44)).run P w = .ok 1 w
  v44 : ∀ w, (zeroValue (ρ.t 44)).run P w = .ok (Value.int IntKind.u32 0) w
  t46 : P.underlying (ρ.t 46) = some (TypeDesc.int IntKind.u64)
  a46 : ∀ w, (isAgg (ρ.t 46)).run P w = .ok false w
  z46 : ∀ w, (Go.sizeOf (ρ.t 46)).run P w = .ok 1 w
  v46 : ∀ w, (zeroValue (ρ.t 46)).run P w = .ok (Value.int IntKind.u64 0) w
  t53 : P.underlying (ρ.t 53) = some (TypeDesc.int IntKind.u64)
  a53 : ∀ w, (isAgg (ρ.t 53)).run P w = .ok false w
  z53 : ∀ w, (Go.sizeOf (ρ.t 53)).run P w = .ok 1 w
  v53 : ∀ w, (zeroValue (ρ.t 53)).run P w = .ok (Value.int IntKind.u64 0) w
  t63 : P.underlying (ρ.t 63) = some (TypeDesc.pointer (ρ.t 53))
  a63 : ∀ w, (isAgg (ρ.t 63)).run P w = .ok false w
  z63 : ∀ w, (Go.sizeOf (ρ.t 63)).run P w = .ok 1 w
  v63 : ∀ w, (zeroValue (ρ.t 63)).run P w = .ok (Value.pointer none) w
structure SlLaysU.n13 (P : Program) (ρ : Ren) : Prop where
  mixed : P.follows .mixedOrders = true
  f13 : Bears P (ρ.f 13) (SlBodyM.n13 ρ)
  f16 : Bears P (ρ.f 16) (SlBodyM.n16 ρ)
  f33 : Bears P (ρ.f 33) (SlBodyM.n33 ρ)
  f34 : Bears P (ρ.f 34) (SlBodyM.n34 ρ)
  f35 : Bears P (ρ.f 35) (SlBodyM.n35 ρ)
  f40 : Bears P (ρ.f 40) (SlBodyM.n40 ρ)
  t0 : P.underlying (ρ.t 0) = some (TypeDesc.tuple #[])
  a0 : ∀ w, (isAgg (ρ.t 0)).run P w = .ok false w
  z0 : ∀ w, (Go.sizeOf (ρ.t 0)).run P w = .ok 1 w
  v0 : ∀ w, (zeroValue (ρ.t 0)).run P w = .ok (Value.tuple #[]) w
  t3 : P.underlying (ρ.t 3) = some (TypeDesc.int IntKind.i64)
  a3 : ∀ w, (isAgg (ρ.t 3)).run P w = .ok false w
  z3 : ∀ w, (Go.sizeOf (ρ.t 3)).run P w = .ok 1 w
  v3 : ∀ w, (zeroValue (ρ.t 3)).run P w = .ok (Value.int IntKind.i64 0) w
  t4 : P.underlying (ρ.t 4) = some (TypeDesc.bool)
  a4 : ∀ w, (isAgg (ρ.t 4)).run P w = .ok false w
  z4 : ∀ w, (Go.sizeOf (ρ.t 4)).run P w = .ok 1 w
  v4 : ∀ w, (zeroValue (ρ.t 4)).run P w = .ok (Value.bool false) w
  t22 : P.underlying (ρ.t 22) = some (TypeDesc.slice (ρ.t 25))
  a22 : ∀ w, (isAgg (ρ.t 22)).run P w = .ok false w
  z22 : ∀ w, (Go.sizeOf (ρ.t 22)).run P w = .ok 1 w
  v22 : ∀ w, (zeroValue (ρ.t 22)).run P w = .ok (Value.slice none 0 0) w
  t25 : P.underlying (ρ.t 25) = some (TypeDesc.int IntKind.u64)
  a25 : ∀ w, (isAgg (ρ.t 25)).run P w = .ok false w
  z25 : ∀ w, (Go.sizeOf (ρ.t 25)).run P w = .ok 1 w
  v25 : ∀ w, (zeroValue (ρ.t 25)).run P w = .ok (Value.int IntKind.u64 0) w
  t35 : P.underlying (ρ.t 35) = some (TypeDesc.int IntKind.i64)
  a35 : ∀ w, (isAgg (ρ.t 35)).run P w = .ok false w
  z35 : ∀ w, (Go.sizeOf (ρ.t 35)).run P w = .ok 1 w
  v35 : ∀ w, (zeroValue (ρ.t 35)).run P w = .ok (Value.int IntKind.i64 0) w
  t57 : P.underlying (ρ.t 57) = some (TypeDesc.pointer (ρ.t 3))
  a57 : ∀ w, (isAgg (ρ.t 57)).run P w = .ok false w
  z57 : ∀ w, (Go.sizeOf (ρ.t 57)).run P w = .ok 1 w
  v57 : ∀ w, (zeroValue (ρ.t 57)).run P w = .ok (Value.pointer none) w
  t64 : P.underlying (ρ.t 64) = some (TypeDesc.tuple #[ρ.t 3, ρ.t 3])
  a64 : ∀ w, (isAgg (ρ.t 64)).run P w = .ok false w
  z64 : ∀ w, (Go.sizeOf (ρ.t 64)).run P w = .ok 1 w
  v64 : ∀ w, (zeroValue (ρ.t 64)).run P w = .ok (Value.tuple #[Value.int IntKind.i64 0, Value.int IntKind.i64 0]) w
structure SlLaysU.n14 (P : Program) (ρ : Ren) : Prop where
  mixed : P.follows .mixedOrders = true
  f14 : Bears P (ρ.f 14) (SlBodyM.n14 ρ)
  t0 : P.underlying (ρ.t 0) = some (TypeDesc.tuple #[])
  a0 : ∀ w, (isAgg (ρ.t 0)).run P w = .ok false w
  z0 : ∀ w, (Go.sizeOf (ρ.t 0)).run P w = .ok 1 w
  v0 : ∀ w, (zeroValue (ρ.t 0)).run P w = .ok (Value.tuple #[]) w
  t3 : P.underlying (ρ.t 3) = some (TypeDesc.int IntKind.i64)
  a3 : ∀ w, (isAgg (ρ.t 3)).run P w = .ok false w
  z3 : ∀ w, (Go.sizeOf (ρ.t 3)).run P w = .ok 1 w
  v3 : ∀ w, (zeroValue (ρ.t 3)).run P w = .ok (Value.int IntKind.i64 0) w
  t4 : P.underlying (ρ.t 4) = some (TypeDesc.bool)
  a4 : ∀ w, (isAgg (ρ.t 4)).run P w = .ok false w
  z4 : ∀ w, (Go.sizeOf (ρ.t 4)).run P w = .ok 1 w
  v4 : ∀ w, (zeroValue (ρ.t 4)).run P w = .ok (Value.bool false) w
  t22 : P.underlying (ρ.t 22) = some (TypeDesc.slice (ρ.t 25))
  a22 : ∀ w, (isAgg (ρ.t 22)).run P w = .ok false w
  z22 : ∀ w, (Go.sizeOf (ρ.t 22)).run P w = .ok 1 w
  v22 : ∀ w, (zeroValue (ρ.t 22)).run P w = .ok (Value.slice none 0 0) w
  t25 : P.underlying (ρ.t 25) = some (TypeDesc.int IntKind.u64)
  a25 : ∀ w, (isAgg (ρ.t 25)).run P w = .ok false w
  z25 : ∀ w, (Go.sizeOf (ρ.t 25)).run P w = .ok 1 w
  v25 : ∀ w, (zeroValue (ρ.t 25)).run P w = .ok (Value.int IntKind.u64 0) w
structure SlLaysU.n15 (P : Program) (ρ : Ren) : Prop where
  mixed : P.follows .mixedOrders = true
  f15 : Bears P (ρ.f 15) (SlBodyM.n15 ρ)
  f16 : Bears P (ρ.f 16) (SlBodyM.n16 ρ)
  f35 : Bears P (ρ.f 35) (SlBodyM.n35 ρ)
  t0 : P.underlying (ρ.t 0) = some (TypeDesc.tuple #[])
  a0 : ∀ w, (isAgg (ρ.t 0)).run P w = .ok false w
  z0 : ∀ w, (Go.sizeOf (ρ.t 0)).run P w = .ok 1 w
  v0 : ∀ w, (zeroValue (ρ.t 0)).run P w = .ok (Value.tuple #[]) w
  t3 : P.underlying (ρ.t 3) = some (TypeDesc.int IntKind.i64)
  a3 : ∀ w, (isAgg (ρ.t 3)).run P w = .ok false w
  z3 : ∀ w, (Go.sizeOf (ρ.t 3)).run P w = .ok 1 w
  v3 : ∀ w, (zeroValue (ρ.t 3)).run P w = .ok (Value.int IntKind.i64 0) w
  t4 : P.underlying (ρ.t 4) = some (TypeDesc.bool)
  a4 : ∀ w, (isAgg (ρ.t 4)).run P w = .ok false w
  z4 : ∀ w, (Go.sizeOf (ρ.t 4)).run P w = .ok 1 w
  v4 : ∀ w, (zeroValue (ρ.t 4)).run P w = .ok (Value.bool false) w
  t22 : P.underlying (ρ.t 22) = some (TypeDesc.slice (ρ.t 25))
  a22 : ∀ w, (isAgg (ρ.t 22)).run P w = .ok false w
  z22 : ∀ w, (Go.sizeOf (ρ.t 22)).run P w = .ok 1 w
  v22 : ∀ w, (zeroValue (ρ.t 22)).run P w = .ok (Value.slice none 0 0) w
  t25 : P.underlying (ρ.t 25) = some (TypeDesc.int IntKind.u64)
  a25 : ∀ w, (isAgg (ρ.t 25)).run P w = .ok false w
  z25 : ∀ w, (Go.sizeOf (ρ.t 25)).run P w = .ok 1 w
  v25 : ∀ w, (zeroValue (ρ.t 25)).run P w = .ok (Value.int IntKind.u64 0) w
structure SlLaysU.n16 (P : Program) (ρ : Ren) : Prop where
  mixed : P.follows .mixedOrders = true
  f16 : Bears P (ρ.f 16) (SlBodyM.n16 ρ)
  f35 : Bears P (ρ.f 35) (SlBodyM.n35 ρ)
  t4 : P.underlying (ρ.t 4) = some (TypeDesc.bool)
  a4 : ∀ w, (isAgg (ρ.t 4)).run P w = .ok false w
  z4 : ∀ w, (Go.sizeOf (ρ.t 4)).run P w = .ok 1 w
  v4 : ∀ w, (zeroValue (ρ.t 4)).run P w = .ok (Value.bool false) w
  t25 : P.underlying (ρ.t 25) = some (TypeDesc.int IntKind.u64)
  a25 : ∀ w, (isAgg (ρ.t 25)).run P w = .ok false w
  z25 : ∀ w, (Go.sizeOf (ρ.t 25)).run P w = .ok 1 w
  v25 : ∀ w, (zeroValue (ρ.t 25)).run P w = .ok (Value.int IntKind.u64 0) w
structure SlLaysU.n17 (P : Program) (ρ : Ren) : Prop where
  mixed : P.follows .mixedOrders = true
  f16 : Bears P (ρ.f 16) (SlBodyM.n16 ρ)
  f17 : Bears P (ρ.f 17) (SlBodyM.n17 ρ)
  f35 : Bears P (ρ.f 35) (SlBodyM.n35 ρ)
  t0 : P.underlying (ρ.t 0) = some (TypeDesc.tuple #[])
  a0 : ∀ w, (isAgg (ρ.t 0)).run P w = .ok false w
  z0 : ∀ w, (Go.sizeOf (ρ.t 0)).run P w = .ok 1 w
  v0 : ∀ w, (zeroValue (ρ.t 0)).run P w = .ok (Value.tuple #[]) w
  t3 : P.underlying (ρ.t 3) = some (TypeDesc.int IntKind.i64)
  a3 : ∀ w, (isAgg (ρ.t 3)).run P w = .ok false w
  z3 : ∀ w, (Go.sizeOf (ρ.t 3)).run P w = .ok 1 w
  v3 : ∀ w, (zeroValue (ρ.t 3)).run P w = .ok (Value.int IntKind.i64 0) w
  t4 : P.underlying (ρ.t 4) = some (TypeDesc.bool)
  a4 : ∀ w, (isAgg (ρ.t 4)).run P w = .ok false w
  z4 : ∀ w, (Go.sizeOf (ρ.t 4)).run P w = .ok 1 w
  v4 : ∀ w, (zeroValue (ρ.t 4)).run P w = .ok (Value.bool false) w
  t22 : P.underlying (ρ.t 22) = some (TypeDesc.slice (ρ.t 25))
  a22 : ∀ w, (isAgg (ρ.t 22)).run P w = .ok false w
  z22 : ∀ w, (Go.sizeOf (ρ.t 22)).run P w = .ok 1 w
  v22 : ∀ w, (zeroValue (ρ.t 22)).run P w = .ok (Value.slice none 0 0) w
  t25 : P.underlying (ρ.t 25) = some (TypeDesc.int IntKind.u64)
  a25 : ∀ w, (isAgg (ρ.t 25)).run P w = .ok false w
  z25 : ∀ w, (Go.sizeOf (ρ.t 25)).run P w = .ok 1 w
  v25 : ∀ w, (zeroValue (ρ.t 25)).run P w = .ok (Value.int IntKind.u64 0) w
structure SlLaysU.n18 (P : Program) (ρ : Ren) : Prop where
  mixed : P.follows .mixedOrders = true
  f16 : Bears P (ρ.f 16) (SlBodyM.n16 ρ)
  f18 : Bears P (ρ.f 18) (SlBodyM.n18 ρ)
  f35 : Bears P (ρ.f 35) (SlBodyM.n35 ρ)
  t0 : P.underlying (ρ.t 0) = some (TypeDesc.tuple #[])
  a0 : ∀ w, (isAgg (ρ.t 0)).run P w = .ok false w
  z0 : ∀ w, (Go.sizeOf (ρ.t 0)).run P w = .ok 1 w
  v0 : ∀ w, (zeroValue (ρ.t 0)).run P w = .ok (Value.tuple #[]) w
  t3 : P.underlying (ρ.t 3) = some (TypeDesc.int IntKind.i64)
  a3 : ∀ w, (isAgg (ρ.t 3)).run P w = .ok false w
  z3 : ∀ w, (Go.sizeOf (ρ.t 3)).run P w = .ok 1 w
  v3 : ∀ w, (zeroValue (ρ.t 3)).run P w = .ok (Value.int IntKind.i64 0) w
  t4 : P.underlying (ρ.t 4) = some (TypeDesc.bool)
  a4 : ∀ w, (isAgg (ρ.t 4)).run P w = .ok false w
  z4 : ∀ w, (Go.sizeOf (ρ.t 4)).run P w = .ok 1 w
  v4 : ∀ w, (zeroValue (ρ.t 4)).run P w = .ok (Value.bool false) w
  t22 : P.underlying (ρ.t 22) = some (TypeDesc.slice (ρ.t 25))
  a22 : ∀ w, (isAgg (ρ.t 22)).run P w = .ok false w
  z22 : ∀ w, (Go.sizeOf (ρ.t 22)).run P w = .ok 1 w
  v22 : ∀ w, (zeroValue (ρ.t 22)).run P w = .ok (Value.slice none 0 0) w
  t25 : P.underlying (ρ.t 25) = some (TypeDesc.int IntKind.u64)
  a25 : ∀ w, (isAgg (ρ.t 25)).run P w = .ok false w
  z25 : ∀ w, (Go.sizeOf (ρ.t 25)).run P w = .ok 1 w
  v25 : ∀ w, (zeroValue (ρ.t 25)).run P w = .ok (Value.int IntKind.u64 0) w
structure SlLaysU.n30 (P : Program) (ρ : Ren) : Prop where
  mixed : P.follows .mixedOrders = true
  f16 : Bears P (ρ.f 16) (SlBodyM.n16 ρ)
  f30 : Bears P (ρ.f 30) (SlBodyM.n30 ρ)
  f35 : Bears P (ρ.f 35) (SlBodyM.n35 ρ)
  t0 : P.underlying (ρ.t 0) = some (TypeDesc.tuple #[])
  a0 : ∀ w, (isAgg (ρ.t 0)).run P w = .ok false w
  z0 : ∀ w, (Go.sizeOf (ρ.t 0)).run P w = .ok 1 w
  v0 : ∀ w, (zeroValue (ρ.t 0)).run P w = .ok (Value.tuple #[]) w
  t3 : P.underlying (ρ.t 3) = some (TypeDesc.int IntKind.i64)
  a3 : ∀ w, (isAgg (ρ.t 3)).run P w = .ok false w
  z3 : ∀ w, (Go.sizeOf (ρ.t 3)).run P w = .ok 1 w
  v3 : ∀ w, (zeroValue (ρ.t 3)).run P w = .ok (Value.int IntKind.i64 0) w
  t4 : P.underlying (ρ.t 4) = some (TypeDesc.bool)
  a4 : ∀ w, (isAgg (ρ.t 4)).run P w = .ok false w
  z4 : ∀ w, (Go.sizeOf (ρ.t 4)).run P w = .ok 1 w
  v4 : ∀ w, (zeroValue (ρ.t 4)).run P w = .ok (Value.bool false) w
  t22 : P.underlying (ρ.t 22) = some (TypeDesc.slice (ρ.t 25))
  a22 : ∀ w, (isAgg (ρ.t 22)).run P w = .ok false w
  z22 : ∀ w, (Go.sizeOf (ρ.t 22)).run P w = .ok 1 w
  v22 : ∀ w, (zeroValue (ρ.t 22)).run P w = .ok (Value.slice none 0 0) w
  t25 : P.underlying (ρ.t 25) = some (TypeDesc.int IntKind.u64)
  a25 : ∀ w, (isAgg (ρ.t 25)).run P w = .ok false w
  z25 : ∀ w, (Go.sizeOf (ρ.t 25)).run P w = .ok 1 w
  v25 : ∀ w, (zeroValue (ρ.t 25)).run P w = .ok (Value.int IntKind.u64 0) w
structure SlLaysU.n33 (P : Program) (ρ : Ren) : Prop where
  mixed : P.follows .mixedOrders = true
  f16 : Bears P (ρ.f 16) (SlBodyM.n16 ρ)
  f33 : Bears P (ρ.f 33) (SlBodyM.n33 ρ)
  f34 : Bears P (ρ.f 34) (SlBodyM.n34 ρ)
  f35 : Bears P (ρ.f 35) (SlBodyM.n35 ρ)
  f40 : Bears P (ρ.f 40) (SlBodyM.n40 ρ)
  t0 : P.underlying (ρ.t 0) = some (TypeDesc.tuple #[])
  a0 : ∀ w, (isAgg (ρ.t 0)).run P w = .ok false w
  z0 : ∀ w, (Go.sizeOf (ρ.t 0)).run P w = .ok 1 w
  v0 : ∀ w, (zeroValue (ρ.t 0)).run P w = .ok (Value.tuple #[]) w
  t3 : P.underlying (ρ.t 3) = some (TypeDesc.int IntKind.i64)
  a3 : ∀ w, (isAgg (ρ.t 3)).run P w = .ok false w
  z3 : ∀ w, (Go.sizeOf (ρ.t 3)).run P w = .ok 1 w
  v3 : ∀ w, (zeroValue (ρ.t 3)).run P w = .ok (Value.int IntKind.i64 0) w
  t4 : P.underlying (ρ.t 4) = some (TypeDesc.bool)
  a4 : ∀ w, (isAgg (ρ.t 4)).run P w = .ok false w
  z4 : ∀ w, (Go.sizeOf (ρ.t 4)).run P w = .ok 1 w
  v4 : ∀ w, (zeroValue (ρ.t 4)).run P w = .ok (Value.bool false) w
  t22 : P.underlying (ρ.t 22) = some (TypeDesc.slice (ρ.t 25))
  a22 : ∀ w, (isAgg (ρ.t 22)).run P w = .ok false w
  z22 : ∀ w, (Go.sizeOf (ρ.t 22)).run P w = .ok 1 w
  v22 : ∀ w, (zeroValue (ρ.t 22)).run P w = .ok (Value.slice none 0 0) w
  t25 : P.underlying (ρ.t 25) = some (TypeDesc.int IntKind.u64)
  a25 : ∀ w, (isAgg (ρ.t 25)).run P w = .ok false w
  z25 : ∀ w, (Go.sizeOf (ρ.t 25)).run P w = .ok 1 w
  v25 : ∀ w, (zeroValue (ρ.t 25)).run P w = .ok (Value.int IntKind.u64 0) w
  t57 : P.underlying (ρ.t 57) = some (TypeDesc.pointer (ρ.t 3))
  a57 : ∀ w, (isAgg (ρ.t 57)).run P w = .ok false w
  z57 : ∀ w, (Go.sizeOf (ρ.t 57)).run P w = .ok 1 w
  v57 : ∀ w, (zeroValue (ρ.t 57)).run P w = .ok (Value.pointer none) w
  t64 : P.underlying (ρ.t 64) = some (TypeDesc.tuple #[ρ.t 3, ρ.t 3])
  a64 : ∀ w, (isAgg (ρ.t 64)).run P w = .ok false w
  z64 : ∀ w, (Go.sizeOf (ρ.t 64)).run P w = .ok 1 w
  v64 : ∀ w, (zeroValue (ρ.t 64)).run P w = .ok (Value.tuple #[Value.int IntKind.i64 0, Value.int IntKind.i64 0]) w
structure SlLaysU.n34 (P : Program) (ρ : Ren) : Prop where
  mixed : P.follows .mixedOrders = true
  f16 : Bears P (ρ.f 16) (SlBodyM.n16 ρ)
  f34 : Bears P (ρ.f 34) (SlBodyM.n34 ρ)
  f35 : Bears P (ρ.f 35) (SlBodyM.n35 ρ)
  f40 : Bears P (ρ.f 40) (SlBodyM.n40 ρ)
  t0 : P.underlying (ρ.t 0) = some (TypeDesc.tuple #[])
  a0 : ∀ w, (isAgg (ρ.t 0)).run P w = .ok false w
  z0 : ∀ w, (Go.sizeOf (ρ.t 0)).run P w = .ok 1 w
  v0 : ∀ w, (zeroValue (ρ.t 0)).run P w = .ok (Value.tuple #[]) w
  t3 : P.underlying (ρ.t 3) = some (TypeDesc.int IntKind.i64)
  a3 : ∀ w, (isAgg (ρ.t 3)).run P w = .ok false w
  z3 : ∀ w, (Go.sizeOf (ρ.t 3)).run P w = .ok 1 w
  v3 : ∀ w, (zeroValue (ρ.t 3)).run P w = .ok (Value.int IntKind.i64 0) w
  t4 : P.underlying (ρ.t 4) = some (TypeDesc.bool)
  a4 : ∀ w, (isAgg (ρ.t 4)).run P w = .ok false w
  z4 : ∀ w, (Go.sizeOf (ρ.t 4)).run P w = .ok 1 w
  v4 : ∀ w, (zeroValue (ρ.t 4)).run P w = .ok (Value.bool false) w
  t22 : P.underlying (ρ.t 22) = some (TypeDesc.slice (ρ.t 25))
  a22 : ∀ w, (isAgg (ρ.t 22)).run P w = .ok false w
  z22 : ∀ w, (Go.sizeOf (ρ.t 22)).run P w = .ok 1 w
  v22 : ∀ w, (zeroValue (ρ.t 22)).run P w = .ok (Value.slice none 0 0) w
  t25 : P.underlying (ρ.t 25) = some (TypeDesc.int IntKind.u64)
  a25 : ∀ w, (isAgg (ρ.t 25)).run P w = .ok false w
  z25 : ∀ w, (Go.sizeOf (ρ.t 25)).run P w = .ok 1 w
  v25 : ∀ w, (zeroValue (ρ.t 25)).run P w = .ok (Value.int IntKind.u64 0) w
  t57 : P.underlying (ρ.t 57) = some (TypeDesc.pointer (ρ.t 3))
  a57 : ∀ w, (isAgg (ρ.t 57)).run P w = .ok false w
  z57 : ∀ w, (Go.sizeOf (ρ.t 57)).run P w = .ok 1 w
  v57 : ∀ w, (zeroValue (ρ.t 57)).run P w = .ok (Value.pointer none) w
  t64 : P.underlying (ρ.t 64) = some (TypeDesc.tuple #[ρ.t 3, ρ.t 3])
  a64 : ∀ w, (isAgg (ρ.t 64)).run P w = .ok false w
  z64 : ∀ w, (Go.sizeOf (ρ.t 64)).run P w = .ok 1 w
  v64 : ∀ w, (zeroValue (ρ.t 64)).run P w = .ok (Value.tuple #[Value.int IntKind.i64 0, Value.int IntKind.i64 0]) w
structure SlLaysU.n35 (P : Program) (ρ : Ren) : Prop where
  mixed : P.follows .mixedOrders = true
  f35 : Bears P (ρ.f 35) (SlBodyM.n35 ρ)
  t4 : P.underlying (ρ.t 4) = some (TypeDesc.bool)
  a4 : ∀ w, (isAgg (ρ.t 4)).run P w = .ok false w
  z4 : ∀ w, (Go.sizeOf (ρ.t 4)).run P w = .ok 1 w
  v4 : ∀ w, (zeroValue (ρ.t 4)).run P w = .ok (Value.bool false) w
  t25 : P.underlying (ρ.t 25) = some (TypeDesc.int IntKind.u64)
  a25 : ∀ w, (isAgg (ρ.t 25)).run P w = .ok false w
  z25 : ∀ w, (Go.sizeOf (ρ.t 25)).run P w = .ok 1 w
  v25 : ∀ w, (zeroValue (ρ.t 25)).run P w = .ok (Value.int IntKind.u64 0) w
structure SlLaysU.n40 (P : Program) (ρ : Ren) : Prop where
  mixed : P.follows .mixedOrders = true
  f16 : Bears P (ρ.f 16) (SlBodyM.n16 ρ)
  f35 : Bears P (ρ.f 35) (SlBodyM.n35 ρ)
  f40 : Bears P (ρ.f 40) (SlBodyM.n40 ρ)
  t0 : P.underlying (ρ.t 0) = some (TypeDesc.tuple #[])
  a0 : ∀ w, (isAgg (ρ.t 0)).run P w = .ok false w
  z0 : ∀ w, (Go.sizeOf (ρ.t 0)).run P w = .ok 1 w
  v0 : ∀ w, (zeroValue (ρ.t 0)).run P w = .ok (Value.tuple #[]) w
  t3 : P.underlying (ρ.t 3) = some (TypeDesc.int IntKind.i64)
  a3 : ∀ w, (isAgg (ρ.t 3)).run P w = .ok false w
  z3 : ∀ w, (Go.sizeOf (ρ.t 3)).run P w = .ok 1 w
  v3 : ∀ w, (zeroValue (ρ.t 3)).run P w = .ok (Value.int IntKind.i64 0) w
  t4 : P.underlying (ρ.t 4) = some (TypeDesc.bool)
  a4 : ∀ w, (isAgg (ρ.t 4)).run P w = .ok false w
  z4 : ∀ w, (Go.sizeOf (ρ.t 4)).run P w = .ok 1 w
  v4 : ∀ w, (zeroValue (ρ.t 4)).run P w = .ok (Value.bool false) w
  t22 : P.underlying (ρ.t 22) = some (TypeDesc.slice (ρ.t 25))
  a22 : ∀ w, (isAgg (ρ.t 22)).run P w = .ok false w
  z22 : ∀ w, (Go.sizeOf (ρ.t 22)).run P w = .ok 1 w
  v22 : ∀ w, (zeroValue (ρ.t 22)).run P w = .ok (Value.slice none 0 0) w
  t25 : P.underlying (ρ.t 25) = some (TypeDesc.int IntKind.u64)
  a25 : ∀ w, (isAgg (ρ.t 25)).run P w = .ok false w
  z25 : ∀ w, (Go.sizeOf (ρ.t 25)).run P w = .ok 1 w
  v25 : ∀ w, (zeroValue (ρ.t 25)).run P w = .ok (Value.int IntKind.u64 0) w
  t57 : P.underlying (ρ.t 57) = some (TypeDesc.pointer (ρ.t 3))
  a57 : ∀ w, (isAgg (ρ.t 57)).run P w = .ok false w
  z57 : ∀ w, (Go.sizeOf (ρ.t 57)).run P w = .ok 1 w
  v57 : ∀ w, (zeroValue (ρ.t 57)).run P w = .ok (Value.pointer none) w

open Go.Sort
abbrev encU : Int → Value := Value.int .u64
theorem holds_aside_u {w : World} {blk off sb so n t : Nat} {d : Array Int} (h : Holds (Value.int .u64) w blk off d) (hne : sb ≠ blk) : Holds (Value.int .u64) (putRow (Value.int .i64) (Sort.ahead w n) sb so (one t)) blk off d := fun j hj =>
  ⟨by rw [cell?_putRow_other _ _ _ _ _ _ (Or.inl (Ne.symm hne))]; exact (h j hj).1, by rw [frozen?_putRow]; exact (h j hj).2⟩
end Go.Proofs.Ytngocadnbpdnoaa.Srt
