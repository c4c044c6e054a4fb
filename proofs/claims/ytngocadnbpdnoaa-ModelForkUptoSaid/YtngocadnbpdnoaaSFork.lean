import Derived.Test.YtngocadnbpdnoaaSma
import Derived.Test.YtngocadnbpdnoaaSmb
import Derived.Test.YtngocadnbpdnoaaSmc
import Derived.Test.YtngocadnbpdnoaaSmd
import Derived.WalkKit
import Derived.ProofKit
import Derived.OpenShut
import Derived.ShutString
import Derived.ChangeOld
import Derived.Below
import Derived.SizedLaws
import Derived.JoinedCond
import Derived.Maps.Own
import Derived.Maps.OwnSet
import Derived.Maps.Views
import Derived.Maps.Ext
import Derived.Lib.SlMapEqual
import Derived.Lib.SlKeysI
import Derived.Shelf.SlLaysM
import Derived.Sort.WalkD1
import Derived.Sort.WalkB12
import Derived.Shelf.SlBodiesZ
import Derived.Shelf.SlGeneric
import Derived.Test.YtngocadnbpdnoaaProg
import Derived.Shelf.SlMaps.Clone
import Derived.Shelf.SlMaps.Equal
import Derived.Shelf.SlicesQ.IndexFunc
import Derived.Sort.KeysCollected
import Derived.Sort.OwnSorted
import Derived.Shelf.SlIter.Keys
import Derived.Shelf.AbstractIn
import Derived.RangeFuncSeq
import Derived.Sort.MapsRangeIn
import Derived.OwnWalkIn
import Derived.TacticsInMore
import Derived.RegionIn
import Derived.LoopNIn
import Derived.LoopIn
import Derived.Shelf.SlIter.Collect
import Derived.RangeFuncGives
import Derived.Maps.AppendAt
import Derived.Shelf.Abstract
import Derived.Shelf.SlIter.Sorted
import Derived.RangeFuncBound
import Derived.Shelf.SlIter.Nil
import Derived.Sort.Walk0
import Derived.Sort.CutIn
import Derived.Sort.QuietIn
import Derived.Sort.AtCallIn
import Derived.Shelf.RegionOpen
import Derived.Sort.WalkA
import Derived.Sort.BigQuietIn
import Derived.Sort.WalkA6
import Derived.Shelf.SortM.WalkA6In
import Derived.Sort.Walk7a
import Derived.Shelf.SortM.So_math_bits_LenIn
import Derived.Sort.Walk7
import Derived.Sort.WalkD2
import Derived.Sort.Walk11
import Derived.Shelf.SortM.PlainT
import Derived.Sort.WalkC
import Derived.Sort.WalkC4
import Derived.Sort.WalkB2
import Derived.Sort.WalkB3
import Derived.Sort.Walk13
import Derived.Sort.LotD6
import Derived.Sort.WalkA14
import Derived.Sort.LotD7
import Derived.Sort.AssemblyPlain
import Derived.Sort.EveryDepth
import Derived.Sort.LoopGhostIn
import Derived.Deep.Draws
import Derived.Deep.AppendLies
import Derived.OwnWalk
import Derived.Laws.BytesArg
import Derived.Laws.MakeOwn
import Derived.Laws.OwnMore
import Derived.Deep.OwnRows
import Derived.Tactics
import Derived.Lib.ConvBytes
import Derived.Laws.Slices
import Derived.KernelRfl
import Derived.RowKit3
import Derived.Deep.LoopGhost
import Derived.Deep.QuietTactic
import Derived.BigQuiet
import Derived.WideLaws
import Derived.Deep.DeepCutAuto
import Derived.Deep.CutBlock
import Derived.Deep.RegionHeld3
import Derived.Laws.Rows
import Derived.Lib.AppendStr
import Derived.ArgAppend
import Derived.Laws.IdiomCopy
import Derived.RowKit
import Derived.OrdersHeld
import Derived.Laws.BitsLemmas
import Derived.Laws.StructEq
import Derived.Lib.Hide
import Derived.Maps.OwnOps
import Derived.Maps.RangeWalk
import Derived.Laws.Pointers
import Derived.Shelf.SlicesE.Equal
import Derived.BigRegion
import Derived.Laws.CopyRow
import Derived.StillTailTactics
import Derived.Deep.RegionLaw
import Derived.Test.YtngocadnbpdnoaaRows
import Derived.Deep.Slices
import Derived.Deep.CondSized
-- from Mo0
namespace Go.Proofs.Ytngocadnbpdnoaa.Mo
open Go Go.Maps
set_option linter.unusedSimpArgs false
set_option linter.unusedVariables false
section
variable {β : Type} {d : β → DataW Unit}
end
/-- maps.Equal and EqualFunc at such maps. -/
theorem equal_mpP {β : Type} {d : β → DataW Unit} {eqd : DataW Unit → DataW Unit → Bool} [DecidableEq β] {l l' : List (Int × β)} (heq : ∀ x y, (∃ k, (k, x) ∈ l) → (∃ k, (k, y) ∈ l') → eqd (d x) (d y) = decide (x = y)) (ha : Asc l) (hb : Asc l') :
    Lib.equalFuncD eqd (mp d l) (mp d l') = decide (l = l') := by
  rw [Bool.eq_iff_iff]
  unfold Lib.equalFuncD
  rw [size_mp, size_mp]
  simp only [Bool.and_eq_true, decide_eq_true_eq]
  have hall : (Lib.entriesD (mp d l)).all (Lib.goodD eqd (mp d l')) = true ↔ ∀ q ∈ l, fnd l' q.1 = some q.2 := by
    rw [List.all_eq_true]
    constructor
    · intro h q hq
      have := h (Lit.int .u64 q.1, d q.2) (List.mem_map.2 ⟨q, hq, rfl⟩)
      simp only [Lib.goodD, Bool.and_eq_true] at this
      obtain ⟨h1, h2⟩ := this
      rw [has_mp] at h1
      rw [atKey_mp] at h2
      cases hf : fnd l' q.1 with
      | none => rw [hf] at h1; cases h1
      | some v => rw [hf] at h2; simp only at h2; rw [heq _ _ ⟨q.1, hq⟩ ⟨q.1, fnd_mem hf⟩] at h2; rw [of_decide_eq_true h2]
    · intro h x hx
      obtain ⟨q, hq, rfl⟩ := List.mem_map.1 hx
      simp only [Lib.goodD, Bool.and_eq_true]
      rw [has_mp, atKey_mp, h q hq]
      simp only [Option.isSome_some, true_and]
      rw [heq _ _ ⟨q.1, hq⟩ ⟨q.1, fnd_mem (h q hq)⟩]
      simp
  rw [hall]
  constructor
  · rintro ⟨hlen, hm⟩
    -- l is a sublist in order of l' with the same length
    have key : ∀ (l l' : List (Int × β)), Asc l → Asc l' → (∀ q ∈ l, q ∈ l') → l.length ≤ l'.length ∧ (l.length = l'.length → l = l') := by
      intro l
      induction l with
      | nil => intro l' _ _ _; exact ⟨by simp, fun e => (List.eq_nil_of_length_eq_zero (by simpa using e.symm)).symm⟩
      | cons p r ih =>
        intro l' ha hb hm
        have hp := hm p (by simp)
        obtain ⟨s, t, rfl⟩ := List.append_of_mem hp
        have hbt : Asc t := asc_tail (List.pairwise_append.1 hb).2.1
        have hsp : ∀ a ∈ s, a.1 < p.1 := fun a hs => (List.pairwise_append.1 hb).2.2 a hs p (by simp)
        have hr : ∀ q ∈ r, q ∈ t := by
          intro q hq
          have h1 := hm q (List.mem_cons_of_mem _ hq)
          have h2 := asc_head ha q hq
          rcases List.mem_append.1 h1 with h1 | h1
          · have := hsp q h1; omega
          · rcases List.mem_cons.1 h1 with h1 | h1
            · subst h1; omega
            · exact h1
        obtain ⟨i1, i2⟩ := ih t (asc_tail ha) hbt hr
        refine ⟨by simp; omega, fun e => ?_⟩
        have hs : s = [] := List.eq_nil_of_length_eq_zero (by simp at e; omega)
        subst hs
        rw [i2 (by simp at e; omega)]
        rfl
    exact (key l l' ha hb (fun q hq => fnd_mem (hm q hq))).2 hlen
  · rintro rfl
    exact ⟨rfl, fun q hq => fnd_of_mem ha hq⟩
theorem equal_mp {β : Type} {d : β → DataW Unit} {eqd : DataW Unit → DataW Unit → Bool} [DecidableEq β] (heq : ∀ x y, eqd (d x) (d y) = decide (x = y)) {l l' : List (Int × β)} (ha : Asc l) (hb : Asc l') :
    Lib.equalFuncD eqd (mp d l) (mp d l') = decide (l = l') := equal_mpP (fun x y _ _ => heq x y) ha hb
end Go.Proofs.Ytngocadnbpdnoaa.Mo

-- from MoL
set_option linter.unusedVariables false
namespace Go.Proofs.Ytngocadnbpdnoaa.Srt
open Go Go.Proofs Go.Shelf
def EqualA_ren : Go.Shelf.Ren := ⟨fun | 6 => 80 | n => n, fun | 23 => 97 | 24 => 97 | 26 => 23 | 27 => 23 | 4 => 4 | 3 => 3 | 0 => 0 | 36 => 101 | n => n, fun | n => n⟩
theorem EqualA : Go.Proofs.SlLaysEq.n6 Try.prog EqualA_ren := {
  mixed := by kernel_rfl,
  f6 := ⟨Try.f80.name, by decide, Try.func80.trans (congrArg some (by kernel_rfl))⟩,
  t0 := Try.underlying0,
  a0 := Try.isAgg0,
  z0 := Try.sizeOf0,
  v0 := Try.zeroValue0,
  t3 := Try.underlying3,
  a3 := Try.isAgg3,
  z3 := Try.sizeOf3,
  v3 := Try.zeroValue3,
  t4 := Try.underlying4,
  a4 := Try.isAgg4,
  z4 := Try.sizeOf4,
  v4 := Try.zeroValue4,
  t23 := Try.underlying97,
  a23 := Try.isAgg97,
  z23 := Try.sizeOf97,
  v23 := Try.zeroValue97,
  t24 := Try.underlying97,
  a24 := Try.isAgg97,
  z24 := Try.sizeOf97,
  v24 := Try.zeroValue97,
  a26 := Try.isAgg23,
  z26 := Try.sizeOf23,
  a27 := Try.isAgg23,
  z27 := Try.sizeOf23,
  t36 := Try.underlying101,
  a36 := Try.isAgg101,
  z36 := Try.sizeOf101 }
def EqualFA_ren : Go.Shelf.Ren := ⟨fun | 7 => 81 | n => n, fun | 23 => 98 | 29 => 98 | 26 => 23 | 27 => 97 | 31 => 97 | 32 => 132 | 4 => 4 | 3 => 3 | 0 => 0 | 37 => 102 | n => n, fun | n => n⟩
theorem EqualFA : Go.Proofs.SlLaysEq.n7 Try.prog EqualFA_ren := {
  mixed := by kernel_rfl,
  f7 := ⟨Try.f81.name, by decide, Try.func81.trans (congrArg some (by kernel_rfl))⟩,
  t0 := Try.underlying0,
  a0 := Try.isAgg0,
  z0 := Try.sizeOf0,
  v0 := Try.zeroValue0,
  t3 := Try.underlying3,
  a3 := Try.isAgg3,
  z3 := Try.sizeOf3,
  v3 := Try.zeroValue3,
  t4 := Try.underlying4,
  a4 := Try.isAgg4,
  z4 := Try.sizeOf4,
  v4 := Try.zeroValue4,
  t23 := Try.underlying98,
  a23 := Try.isAgg98,
  z23 := Try.sizeOf98,
  v23 := Try.zeroValue98,
  a26 := Try.isAgg23,
  z26 := Try.sizeOf23,
  a27 := Try.isAgg97,
  z27 := Try.sizeOf97,
  t29 := Try.underlying98,
  a29 := Try.isAgg98,
  z29 := Try.sizeOf98,
  v29 := Try.zeroValue98,
  a31 := Try.isAgg97,
  z31 := Try.sizeOf97,
  t32 := Try.underlying132,
  a32 := Try.isAgg132,
  z32 := Try.sizeOf132,
  v32 := Try.zeroValue132,
  t37 := Try.underlying102,
  a37 := Try.isAgg102,
  z37 := Try.sizeOf102 }
end Go.Proofs.Ytngocadnbpdnoaa.Srt

-- from WGuard
namespace Go.Proofs.YtngocadnbpdnoaaW.PrintWords
open Go.RowKit
section
variable {P : Program} {ops : Array Oper} {rest : List Oper} {o : Oper} {a : Act} {Q : Exit → Act → World → Prop} {W : World}
/-- The gate takes the guard off (hw: 'by rfl', 'by kernel_rfl': the guard's slot holds what is wanted). -/
theorem gate_guard (hw : Region.wanted o (yielded ops a.tmps) = true) (h : wpList P ops Q ({ o with guard := none } :: rest) a W) : wpList P ops Q (o :: rest) a W := by
  have h1 : Region.wanted { o with guard := none } (yielded ops a.tmps) = true := rfl
  unfold wpList at h ⊢
  rw [if_pos h1] at h
  rw [if_pos hw]
  exact h
end
end Go.Proofs.YtngocadnbpdnoaaW.PrintWords

-- from WMore
namespace Go.Proofs.YtngocadnbpdnoaaW.PrintMore
open Go.RowKit Go.Proofs.YtngocadnbpdnoaaW.PrintWords
namespace Kd
open Go.Proofs.YtngocadnbpdnoaaW.PrintWords.Kd
end Kd

namespace Kd
open Go.Proofs.YtngocadnbpdnoaaW.PrintWords.Kd
section
variable {α : Type} {d : Kd α} {e base g N : Nat} {ok : Nat → Prop} {W w1 : World} {u v : Value} {xs : List α}
end
end Kd
end Go.Proofs.YtngocadnbpdnoaaW.PrintMore
namespace Go.Proofs.YtngocadnbpdnoaaW.PrintWords
open Go.RowKit
section
variable {P : Program} {ops : Array Oper} {rest : List Oper} {o : Oper} {a : Act} {Q : Exit → Act → World → Prop} {W : World}
end
/-- A cell of a block that an event leaves alone. -/
theorem cell_grown {W w1 : World} {row : Option Nat} (hg : W.grownBy w1 row) {a : Addr} {v : Value} (h : W.cell? a = some v) (hne : some a.block ≠ row) : w1.cell? a = some v := by
  have := hg.block a.block (World.block_lt_of_cell? W a h) hne
  simpa [World.cell?, this] using h
namespace Kd
section
variable {α : Type} {d : Kd α} {e base : Nat} {ok : Nat → Prop} {W w1 : World} {v : Value} {xs : List α}
end
section
variable {α : Type} {d : Kd α} {e base g n cap : Nat} {ok oki okp : Nat → Prop} {W : World} {xs : List α} {i : Int} {c : List Value}
end
section
variable {α : Type} {d : Kd α} {e base b b' g N : Nat} {ok ok1 : Nat → Prop} {W W2 w1 : World} {u v : Value} {xs ys : List α} {S : Nat → Prop}
end
end Kd
end Go.Proofs.YtngocadnbpdnoaaW.PrintWords
namespace Go.Proofs.YtngocadnbpdnoaaW.PrintWords
open Go.RowKit
namespace Kd
section
variable {α β : Type} {d : Kd α} {e base base' n m c g N' lo hi : Nat} {ok ok' S : Nat → Prop} {w W w1 : World} {A : Option Addr} {ad : Addr} {u v v1 : Value} {xs : List α}
end
end Kd
end Go.Proofs.YtngocadnbpdnoaaW.PrintWords

-- from Mo7
namespace Go.Proofs.Ytngocadnbpdnoaa.Mo
open Go Go.Maps Go.RowKit Go.Proofs.Ytngocadnbpdnoaa.Srt Go.Proofs.Ytngocadnbpdnoaa.Q Go.Proofs.YtngocadnbpdnoaaW.PrintWords Go.Proofs.YtngocadnbpdnoaaW.PrintLast Go.Proofs.YtngocadnbpdnoaaW.PrintMore
set_option linter.unusedVariables false
set_option linter.unusedSimpArgs false
def eq64 : DataW Unit → DataW Unit → Bool
  | .lit (.int _ a), .lit (.int _ b) => a == b
  | _, _ => false
theorem eq64_lit (x y : Int) : eq64 (lit64 x) (lit64 y) = decide (x = y) := by
  simp only [eq64, lit64]
  by_cases h : x = y <;> simp [h]
theorem eqd_dmap {l l' : PL} (ha : Asc l) (hb : Asc l') : Lib.equalFuncD eq64 (dmap l) (dmap l') = decide (l = l') := equal_mp eq64_lit ha hb
theorem equal_c (p1 p2 : Option Nat) (D1 D2 : DataW Unit) (w : World) (h1 : SrcOf Try.prog 23 (plainElem (H := Unit) Try.prog 23) w p1 D1) (h2 : SrcOf Try.prog 23 (plainElem (H := Unit) Try.prog 23) w p2 D2) :
    Calls Try.prog 80 #[.map p1, .map p2] w fun e w' => e = .returned (.bool (Lib.equalFuncD eq64 D1 D2)) ∧ w.grownBy w' none :=
  AnyEq.maps_Equal_opt EqualA lawU _ _ eq64 p1 p2 D1 D2 w h1 h2 (.int .u64 0) zeroU (.lit (.int .u64 0)) [] (plainElem_int Try.underlying23 (by decide)) (fun W x y xd yd xp yp hx hy => by
    obtain ⟨a, rfl, hz, -⟩ := plainElem_int_inv Try.underlying23 hx
    obtain ⟨b, rfl, hz2, -⟩ := plainElem_int_inv Try.underlying23 hy
    obtain ⟨rfl, rfl⟩ := Prod.mk.inj hz
    obtain ⟨rfl, rfl⟩ := Prod.mk.inj hz2
    have h := NeqAt.int Try.prog 23 .u64
    exact ⟨h.1 a b W, fun o o' => h.2 .neq o o' a b W⟩)
theorem same1_c (p1 p2 : Option Nat) (D1 D2 : DataW Unit) (w : World) (h1 : SrcOf Try.prog 23 (plainElem (H := Unit) Try.prog 23) w p1 D1) (h2 : SrcOf Try.prog 23 (plainElem (H := Unit) Try.prog 23) w p2 D2) :
    Calls Try.prog 82 #[.map p1, .map p2] w fun e w' => e = .returned (.bool (Lib.equalFuncD eq64 D1 D2)) ∧ w.grownBy w' none := by
  have c := equal_c p1 p2 D1 D2 w h1 h2
  clear h1 h2
  obtain ⟨r, hr⟩ : ∃ r, r = Lib.equalFuncD eq64 D1 D2 := ⟨_, rfl⟩
  rw [← hr] at c ⊢
  clear hr
  go_enter Try.func82, Try.ntmps82
  go_wp2_with (go_at_call 80; refine c.mono ?_; rintro e w1 ⟨rfl, hg⟩)
  go_ret
  exact ⟨rfl, hg⟩
theorem RH_inv {f : Nat → Option PL} {v : Value} {z : DataW Unit × List MemPlace} (h : RH f v = some z) : (v = .map none ∧ z = (.nil, [])) ∨ ∃ b l, v = .map (some b) ∧ f b = some l ∧ z = (dmap l, []) := by
  unfold RH at h
  split at h
  · left; exact ⟨rfl, (Option.some.inj h).symm⟩
  · rename_i b
    cases hb : f b with
    | none => rw [hb] at h; cases h
    | some l => rw [hb] at h; exact .inr ⟨b, l, rfl, hb, (Option.some.inj h).symm⟩
  · cases h
theorem src_of {w W : World} {f : Nat → Option PL} {N : Nat} (hF : Fro w f N) (hg : w.grownBy W none) {v : Value} {z : DataW Unit × List MemPlace} (h : RH f v = some z) : ∃ p, v = .map p ∧ SrcOf Try.prog 23 (plainElem (H := Unit) Try.prog 23) W p z.1 := by
  rcases RH_inv h with ⟨rfl, rfl⟩ | ⟨b, l, rfl, hb, rfl⟩
  · exact ⟨none, rfl, .inl ⟨rfl, rfl⟩⟩
  · exact ⟨some b, rfl, .inr ⟨b, N, rfl, (hF b l hb).1.kept hg (by simp)⟩⟩
theorem equalF_c (f : Nat → Option PL) (N : Nat) (b1 b2 n1 n2 : Nat) (hs1 hs2 : List (Int × PL)) (w : World) (hF : Fro w f N) (h1 : HeldN w f b1 n1 hs1) (h2 : HeldN w f b2 n2 hs2) :
    Calls Try.prog 81 #[.map (some b1), .map (some b2), .func (.func 82) #[] #[]] w fun e w' => e = .returned (.bool (decide (hs1 = hs2))) ∧ w.grownBy w' none := by
  have c := AnyEq.maps_EqualFunc_opt EqualFA lawU (RH f) (RH f) (Lib.equalFuncD eq64) 82 #[] (some b1) (some b2) (mp dmap hs1) (mp dmap hs2) w (enters_of Try.func82 (by kernel_rfl) rfl) (.inr ⟨b1, n1, rfl, h1.1⟩) (.inr ⟨b2, n2, rfl, h2.1⟩) (.map none) zeroM .nil [] rfl (fun W x y xd yd xp yp hg hx hy => by
    obtain ⟨p1, rfl, s1⟩ := src_of hF hg hx
    obtain ⟨p2, rfl, s2⟩ := src_of hF hg hy
    exact same1_c p1 p2 xd yd W s1 s2)
  refine Calls.mono c ?_
  rintro e w' ⟨rfl, hg⟩
  refine ⟨?_, hg⟩
  have key : Lib.equalFuncD (Lib.equalFuncD eq64) (mp dmap hs1) (mp dmap hs2) = decide (hs1 = hs2) := by
    refine equal_mpP (fun x y hx hy => ?_) h1.2 h2.2
    obtain ⟨k, hx⟩ := hx
    obtain ⟨k', hy⟩ := hy
    obtain ⟨b, hb⟩ := h1.blk hx
    obtain ⟨b', hb'⟩ := h2.blk hy
    exact eqd_dmap (hF b _ hb).2 (hF b' _ hb').2
  rw [key]
end Go.Proofs.Ytngocadnbpdnoaa.Mo

-- from Mo8
namespace Go.Proofs.Ytngocadnbpdnoaa.Mo
open Go Go.Maps Go.RowKit Go.Proofs.Ytngocadnbpdnoaa.Srt Go.Proofs.Ytngocadnbpdnoaa.Q Go.Proofs.YtngocadnbpdnoaaW.PrintWords Go.Proofs.YtngocadnbpdnoaaW.PrintLast Go.Proofs.YtngocadnbpdnoaaW.PrintMore
set_option linter.unusedVariables false
set_option linter.unusedSimpArgs false
def samB (m m2 : Int) (now now2 : PL) (held held2 : List (Int × PL)) : Bool := decide (m = m2) && decide (now = now2) && decide (held = held2)
theorem grown_cell {w W : World} (h : w.grownBy W none) {a : Addr} {v : Value} (hc : w.cell? a = some v) : W.cell? a = some v := cell_grown h hc (by simp)
theorem below_of_grown {w W : World} (h : w.grownBy W none) : Below w.heap.size w W := (Below.refl _ w).grown h (Nat.le_refl _) (fun j hj => by cases hj)
set_option maxRecDepth 100000 in
set_option maxHeartbeats 8000000 in
theorem same_c (f : Nat → Option PL) (N gp bn bh gp2 bn2 bh2 : Nat) (m m2 : Int) (now now2 : PL) (held held2 : List (Int × PL)) (w : World) (hM : PM w f N gp bn bh m now held) (hM2 : PM w f N gp2 bn2 bh2 m2 now2 held2) (hF : Fro w f N) :
    Calls Try.prog 31 #[.pointer (some ⟨gp, 0, none⟩), .pointer (some ⟨gp2, 0, none⟩)] w fun e w' => e = .returned (.bool (samB m m2 now now2 held held2)) ∧ Below w.heap.size w w' := by
  have hgl := hM.gl
  have hgl2 := hM2.gl
  have c0 := hM.c0
  have c1 := hM.c1
  have c2 := hM.c2
  have k0 := hM2.c0
  have k1 := hM2.c1
  have k2 := hM2.c2
  have HM := Lib.hid hM
  have HM2 := Lib.hid hM2
  have HF := Lib.hid hF
  clear hM hM2 hF
  by_cases e0 : m = m2
  · subst e0
    have c80 := equal_c (some bn) (some bn2) (dmap now) (dmap now2) w.drew (.inr ⟨bn, N, rfl, HM.out.now.1.drew⟩) (.inr ⟨bn2, N, rfl, HM2.out.now.1.drew⟩)
    rw [eqd_dmap HM.out.now.2 HM2.out.now.2] at c80
    have HS : (fun w' => w'.cell? ⟨gp, 0, none⟩ = some (.int .i64 m) ∧ w'.cell? ⟨gp, 1, none⟩ = some (.map (some bn)) ∧ w'.cell? ⟨gp, 2, none⟩ = some (.map (some bh)) ∧ w'.cell? ⟨gp2, 0, none⟩ = some (.int .i64 m) ∧ w'.cell? ⟨gp2, 1, none⟩ = some (.map (some bn2)) ∧ w'.cell? ⟨gp2, 2, none⟩ = some (.map (some bh2))) w.drew := ⟨c0, c1, c2, k0, k1, k2⟩
    by_cases e1 : now = now2
    · have hS : samB m m now now2 held held2 = decide (held = held2) := by unfold samB; rw [decide_eq_true rfl, decide_eq_true e1]; rfl
      rw [hS]
      rw [decide_eq_true e1] at c80
      obtain ⟨r, hr⟩ : ∃ r, r = decide (held = held2) := ⟨_, rfl⟩
      have c81 : ∀ W, w.drew.grownBy W none → Calls Try.prog 81 #[.map (some bh), .map (some bh2), .func (.func 82) #[] #[]] W fun e w' => e = .returned (.bool r) ∧ W.grownBy w' none := fun W hg => by
        rw [hr]
        exact equalF_c f N bh bh2 N N held held2 W (fun b l hb => ⟨((HF.out b l hb).1.drew).kept hg (by simp), (HF.out b l hb).2⟩) ⟨HM.out.held.1.drew.kept hg (by simp), HM.out.held.2⟩ ⟨HM2.out.held.1.drew.kept hg (by simp), HM2.out.held.2⟩
      rw [← hr]
      have C81 := Lib.hid c81
      have C80 := Lib.hid c80
      clear hS hr c81 c80 e1 c0 c1 c2 k0 k1 k2
      go_enter Try.func31, Try.ntmps31
      go_wp2_with fail
      refine wp_region_held_drew (S := fun w' => w'.cell? ⟨gp, 0, none⟩ = some (.int .i64 m) ∧ w'.cell? ⟨gp, 1, none⟩ = some (.map (some bn)) ∧ w'.cell? ⟨gp, 2, none⟩ = some (.map (some bh)) ∧ w'.cell? ⟨gp2, 0, none⟩ = some (.int .i64 m) ∧ w'.cell? ⟨gp2, 1, none⟩ = some (.map (some bn2)) ∧ w'.cell? ⟨gp2, 2, none⟩ = some (.map (some bh2))) (by kernel_rfl) HS (fun _ => ?_)
      refine wpAnyH_take (i := 0) (oi := ?oi0) (v := ?v0) ?hi0 (by kernel_rfl) (by kernel_rfl) (by kernel_rfl) ?hq0 (Or.inl ⟨?hw0, ?hy0⟩) HS ?rest0
      case hi0 =>
        simp only [List.getElem?_toArray, List.getElem?_cons_succ, List.getElem?_cons_zero]
        exact rfl
      case hq0 => exact fun _ _ _ h => h
      case hw0 => rfl
      case hy0 =>
        intro w hSw
        obtain ⟨hw0_, hw1_, hw2_, hw3_, hw4_, hw5_⟩ := hSw
        go_simp
        try with_reducible rfl
      try simp only [Act.put, List.setIfInBounds_toArray, List.set_cons_zero, List.set_cons_succ]
      refine wpAnyH_take (i := 1) (oi := ?oi1) (v := ?v1) ?hi1 (by kernel_rfl) (by kernel_rfl) (by kernel_rfl) ?hq1 (Or.inl ⟨?hw1, ?hy1⟩) HS ?rest1
      case hi1 =>
        simp only [List.getElem?_toArray, List.getElem?_cons_succ, List.getElem?_cons_zero]
        exact rfl
      case hq1 => exact fun _ _ _ h => h
      case hw1 => rfl
      case hy1 =>
        intro w hSw
        obtain ⟨hw0_, hw1_, hw2_, hw3_, hw4_, hw5_⟩ := hSw
        go_simp
        try with_reducible rfl
      try simp only [Act.put, List.setIfInBounds_toArray, List.set_cons_zero, List.set_cons_succ]
      refine wpAnyH_take (i := 2) (oi := ?oi2) (v := ?v2) ?hi2 (by kernel_rfl) (by kernel_rfl) (by kernel_rfl) ?hq2 (Or.inl ⟨?hw2, ?hy2⟩) HS ?rest2
      case hi2 =>
        simp only [List.getElem?_toArray, List.getElem?_cons_succ, List.getElem?_cons_zero]
        exact rfl
      case hq2 => exact fun _ _ _ h => h
      case hw2 => rfl
      case hy2 =>
        intro w hSw
        obtain ⟨hw0_, hw1_, hw2_, hw3_, hw4_, hw5_⟩ := hSw
        go_simp
        try with_reducible rfl
      try simp only [Act.put, List.setIfInBounds_toArray, List.set_cons_zero, List.set_cons_succ]
      refine wpAnyH_take (i := 3) (oi := ?oi3) (v := ?v3) ?hi3 (by kernel_rfl) (by kernel_rfl) (by kernel_rfl) ?hq3 (Or.inl ⟨?hw3, ?hy3⟩) HS ?rest3
      case hi3 =>
        simp only [List.getElem?_toArray, List.getElem?_cons_succ, List.getElem?_cons_zero]
        exact rfl
      case hq3 => exact fun _ _ _ h => h
      case hw3 => rfl
      case hy3 =>
        intro w hSw
        obtain ⟨hw0_, hw1_, hw2_, hw3_, hw4_, hw5_⟩ := hSw
        go_simp
        try with_reducible rfl
      try simp only [Act.put, List.setIfInBounds_toArray, List.set_cons_zero, List.set_cons_succ]
      refine wpAnyH_take (i := 4) (oi := ?oi4) (v := ?v4) ?hi4 (by kernel_rfl) (by kernel_rfl) (by kernel_rfl) ?hq4 (Or.inl ⟨?hw4, ?hy4⟩) HS ?rest4
      case hi4 =>
        simp only [List.getElem?_toArray, List.getElem?_cons_succ, List.getElem?_cons_zero]
        exact rfl
      case hq4 => exact fun _ _ _ h => h
      case hw4 => rfl
      case hy4 =>
        intro w hSw
        obtain ⟨hw0_, hw1_, hw2_, hw3_, hw4_, hw5_⟩ := hSw
        go_simp
        try with_reducible rfl
      try simp only [Act.put, List.setIfInBounds_toArray, List.set_cons_zero, List.set_cons_succ]
      refine wpAnyH_take (i := 5) (oi := ?oi5) (v := ?v5) ?hi5 (by kernel_rfl) (by kernel_rfl) (by kernel_rfl) ?hq5 (Or.inl ⟨?hw5, ?hy5⟩) HS ?rest5
      case hi5 =>
        simp only [List.getElem?_toArray, List.getElem?_cons_succ, List.getElem?_cons_zero]
        exact rfl
      case hq5 => exact fun _ _ _ h => h
      case hw5 => rfl
      case hy5 =>
        intro w hSw
        obtain ⟨hw0_, hw1_, hw2_, hw3_, hw4_, hw5_⟩ := hSw
        go_simp
        try with_reducible rfl
      try simp only [Act.put, List.setIfInBounds_toArray, List.set_cons_zero, List.set_cons_succ]
      refine wpAnyH_take (i := 6) (oi := ?oi6) (v := ?v6) ?hi6 (by kernel_rfl) (by kernel_rfl) (by kernel_rfl) ?hq6 (Or.inl ⟨?hw6, ?hy6⟩) HS ?rest6
      case hi6 =>
        simp only [List.getElem?_toArray, List.getElem?_cons_succ, List.getElem?_cons_zero]
        exact rfl
      case hq6 => exact fun _ _ _ h => h
      case hw6 => rfl
      case hy6 =>
        intro w hSw
        obtain ⟨hw0_, hw1_, hw2_, hw3_, hw4_, hw5_⟩ := hSw
        go_simp
        try with_reducible rfl
      try simp only [Act.put, List.setIfInBounds_toArray, List.set_cons_zero, List.set_cons_succ]
      refine wpAnyH_take (i := 7) (oi := ?oi7) (v := ?v7) ?hi7 (by kernel_rfl) (by kernel_rfl) (by kernel_rfl) ?hq7 (Or.inl ⟨?hw7, ?hy7⟩) HS ?rest7
      case hi7 =>
        simp only [List.getElem?_toArray, List.getElem?_cons_succ, List.getElem?_cons_zero]
        exact rfl
      case hq7 => exact fun _ _ _ h => h
      case hw7 => rfl
      case hy7 =>
        intro w hSw
        obtain ⟨hw0_, hw1_, hw2_, hw3_, hw4_, hw5_⟩ := hSw
        go_simp
        try with_reducible rfl
      try simp only [Act.put, List.setIfInBounds_toArray, List.set_cons_zero, List.set_cons_succ]
      refine wpAnyH_take (i := 8) (oi := ?oi8) (v := ?v8) ?hi8 (by kernel_rfl) (by kernel_rfl) (by kernel_rfl) ?hq8 (Or.inl ⟨?hw8, ?hy8⟩) HS ?rest8
      case hi8 =>
        simp only [List.getElem?_toArray, List.getElem?_cons_succ, List.getElem?_cons_zero]
        exact rfl
      case hq8 => exact fun _ _ _ h => h
      case hw8 => rfl
      case hy8 =>
        intro w hSw
        obtain ⟨hw0_, hw1_, hw2_, hw3_, hw4_, hw5_⟩ := hSw
        go_simp
        try with_reducible rfl
      try simp only [Act.put, List.setIfInBounds_toArray, List.set_cons_zero, List.set_cons_succ]
      refine wpAnyH_take (i := 9) (oi := ?oi9) (v := ?v9) ?hi9 (by kernel_rfl) (by kernel_rfl) (by kernel_rfl) ?hq9 (Or.inl ⟨?hw9, ?hy9⟩) HS ?rest9
      case hi9 =>
        simp only [List.getElem?_toArray, List.getElem?_cons_succ, List.getElem?_cons_zero]
        exact rfl
      case hq9 => exact fun _ _ _ h => h
      case hw9 => rfl
      case hy9 =>
        intro w hSw
        obtain ⟨hw0_, hw1_, hw2_, hw3_, hw4_, hw5_⟩ := hSw
        go_simp
        try with_reducible rfl
      try simp only [Act.put, List.setIfInBounds_toArray, List.set_cons_zero, List.set_cons_succ]
      refine wpAnyH_take (i := 10) (oi := ?oi10) (v := ?v10) ?hi10 (by kernel_rfl) (by kernel_rfl) (by kernel_rfl) ?hq10 (Or.inl ⟨?hw10, ?hy10⟩) HS ?rest10
      case hi10 =>
        simp only [List.getElem?_toArray, List.getElem?_cons_succ, List.getElem?_cons_zero]
        exact rfl
      case hq10 => exact fun _ _ _ h => h
      case hw10 => rfl
      case hy10 =>
        intro w hSw
        obtain ⟨hw0_, hw1_, hw2_, hw3_, hw4_, hw5_⟩ := hSw
        go_simp
        try with_reducible rfl
      try simp only [Act.put, List.setIfInBounds_toArray, List.set_cons_zero, List.set_cons_succ]
      refine wpAnyH_take (i := 11) (oi := ?oi11) (v := ?v11) ?hi11 (by kernel_rfl) (by kernel_rfl) (by kernel_rfl) ?hq11 (Or.inl ⟨?hw11, ?hy11⟩) HS ?rest11
      case hi11 =>
        simp only [List.getElem?_toArray, List.getElem?_cons_succ, List.getElem?_cons_zero]
        exact rfl
      case hq11 => exact fun _ _ _ h => h
      case hw11 => rfl
      case hy11 =>
        intro w hSw
        obtain ⟨hw0_, hw1_, hw2_, hw3_, hw4_, hw5_⟩ := hSw
        go_simp
        try with_reducible rfl
      try simp only [Act.put, List.setIfInBounds_toArray, List.set_cons_zero, List.set_cons_succ]
      refine wpAnyH_take (i := 12) (oi := ?oi12) (v := ?v12) ?hi12 (by kernel_rfl) (by kernel_rfl) (by kernel_rfl) ?hq12 (Or.inl ⟨?hw12, ?hy12⟩) HS ?rest12
      case hi12 =>
        simp only [List.getElem?_toArray, List.getElem?_cons_succ, List.getElem?_cons_zero]
        exact rfl
      case hq12 => exact fun _ _ _ h => h
      case hw12 => rfl
      case hy12 =>
        intro w hSw
        obtain ⟨hw0_, hw1_, hw2_, hw3_, hw4_, hw5_⟩ := hSw
        go_simp
        try with_reducible rfl
      try simp only [Act.put, List.setIfInBounds_toArray, List.set_cons_zero, List.set_cons_succ]
      refine wpAnyH_take (i := 13) (oi := ?oi13) (v := ?v13) ?hi13 (by kernel_rfl) (by kernel_rfl) (by kernel_rfl) ?hq13 (Or.inl ⟨?hw13, ?hy13⟩) HS ?rest13
      case hi13 =>
        simp only [List.getElem?_toArray, List.getElem?_cons_succ, List.getElem?_cons_zero]
        exact rfl
      case hq13 => exact fun _ _ _ h => h
      case hw13 => rfl
      case hy13 =>
        intro w hSw
        obtain ⟨hw0_, hw1_, hw2_, hw3_, hw4_, hw5_⟩ := hSw
        go_simp
        try with_reducible rfl
      try simp only [Act.put, List.setIfInBounds_toArray, List.set_cons_zero, List.set_cons_succ]
      refine wpAnyH_take (i := 14) (oi := ?oi14) (v := ?v14) ?hi14 (by kernel_rfl) (by kernel_rfl) (by kernel_rfl) ?hq14 (Or.inl ⟨?hw14, ?hy14⟩) HS ?rest14
      case hi14 =>
        simp only [List.getElem?_toArray, List.getElem?_cons_succ, List.getElem?_cons_zero]
        exact rfl
      case hq14 => exact fun _ _ _ h => h
      case hw14 => rfl
      case hy14 =>
        intro w hSw
        obtain ⟨hw0_, hw1_, hw2_, hw3_, hw4_, hw5_⟩ := hSw
        go_simp
        try with_reducible rfl
      try simp only [Act.put, List.setIfInBounds_toArray, List.set_cons_zero, List.set_cons_succ]
      refine wpAnyH_take (i := 15) (oi := ?oi15) (v := ?v15) ?hi15 (by kernel_rfl) (by kernel_rfl) (by kernel_rfl) ?hq15 (Or.inl ⟨?hw15, ?hy15⟩) HS ?rest15
      case hi15 =>
        simp only [List.getElem?_toArray, List.getElem?_cons_succ, List.getElem?_cons_zero]
        exact rfl
      case hq15 => exact fun _ _ _ h => h
      case hw15 => rfl
      case hy15 =>
        intro w hSw
        obtain ⟨hw0_, hw1_, hw2_, hw3_, hw4_, hw5_⟩ := hSw
        go_simp
        try with_reducible rfl
      try simp only [Act.put, List.setIfInBounds_toArray, List.set_cons_zero, List.set_cons_succ]
      refine wpAnyH_take (i := 16) (oi := ?oi16) (v := ?v16) ?hi16 (by kernel_rfl) (by kernel_rfl) (by kernel_rfl) ?hq16 (Or.inl ⟨?hw16, ?hy16⟩) HS ?rest16
      case hi16 =>
        simp only [List.getElem?_toArray, List.getElem?_cons_succ, List.getElem?_cons_zero]
        exact rfl
      case hq16 => exact fun _ _ _ h => h
      case hw16 => rfl
      case hy16 =>
        intro w hSw
        obtain ⟨hw0_, hw1_, hw2_, hw3_, hw4_, hw5_⟩ := hSw
        go_simp
        try with_reducible rfl
      try simp only [Act.put, List.setIfInBounds_toArray, List.set_cons_zero, List.set_cons_succ]
      refine wpAnyH_take (i := 17) (oi := ?oi17) (v := ?v17) ?hi17 (by kernel_rfl) (by kernel_rfl) (by kernel_rfl) ?hq17 (Or.inl ⟨?hw17, ?hy17⟩) HS ?rest17
      case hi17 =>
        simp only [List.getElem?_toArray, List.getElem?_cons_succ, List.getElem?_cons_zero]
        exact rfl
      case hq17 => exact fun _ _ _ h => h
      case hw17 => rfl
      case hy17 =>
        intro w hSw
        obtain ⟨hw0_, hw1_, hw2_, hw3_, hw4_, hw5_⟩ := hSw
        go_simp
        try with_reducible rfl
      try simp only [Act.put, List.setIfInBounds_toArray, List.set_cons_zero, List.set_cons_succ]
      refine wpAnyH_ready (rs := [18]) (by kernel_rfl) (by simp) ?_
      refine AllReadyH.cons (o := ?oi18) ?hi18 (fun K hK => ?rest18) AllReadyH.nil
      case hi18 =>
        simp only [List.getElem?_toArray, List.getElem?_cons_succ, List.getElem?_cons_zero]
        exact rfl
      go_simp
      go_at_call 80
      refine (C80.out).mono ?_
      rintro e w2 ⟨rfl, hg2⟩
      have HS2 : (fun w' => w'.cell? ⟨gp, 0, none⟩ = some (.int .i64 m) ∧ w'.cell? ⟨gp, 1, none⟩ = some (.map (some bn)) ∧ w'.cell? ⟨gp, 2, none⟩ = some (.map (some bh)) ∧ w'.cell? ⟨gp2, 0, none⟩ = some (.int .i64 m) ∧ w'.cell? ⟨gp2, 1, none⟩ = some (.map (some bn2)) ∧ w'.cell? ⟨gp2, 2, none⟩ = some (.map (some bh2))) w2 := ⟨grown_cell hg2 HS.1, grown_cell hg2 HS.2.1, grown_cell hg2 HS.2.2.1, grown_cell hg2 HS.2.2.2.1, grown_cell hg2 HS.2.2.2.2.1, grown_cell hg2 HS.2.2.2.2.2⟩
      clear HS
      have HS := HS2
      clear HS2
      have HG2 := Lib.hid hg2
      clear hg2
      refine hK.out _ _ HS (fun _ => ?_)
      clear hK K
      try simp only [Act.put, List.setIfInBounds_toArray, List.set_cons_zero, List.set_cons_succ]
      refine wpAnyH_take (i := 19) (oi := ?oi19) (v := ?v19) ?hi19 (by kernel_rfl) (by kernel_rfl) (by kernel_rfl) ?hq19 (Or.inl ⟨?hw19, ?hy19⟩) HS ?rest19
      case hi19 =>
        simp only [List.getElem?_toArray, List.getElem?_cons_succ, List.getElem?_cons_zero]
        exact rfl
      case hq19 => exact fun _ _ _ h => h
      case hw19 => rfl
      case hy19 =>
        intro w hSw
        obtain ⟨hw0_, hw1_, hw2_, hw3_, hw4_, hw5_⟩ := hSw
        go_simp
        try with_reducible rfl
      try simp only [Act.put, List.setIfInBounds_toArray, List.set_cons_zero, List.set_cons_succ]
      refine wpAnyH_take (i := 20) (oi := ?oi20) (v := ?v20) ?hi20 (by kernel_rfl) (by kernel_rfl) (by kernel_rfl) ?hq20 (Or.inl ⟨?hw20, ?hy20⟩) HS ?rest20
      case hi20 =>
        simp only [List.getElem?_toArray, List.getElem?_cons_succ, List.getElem?_cons_zero]
        exact rfl
      case hq20 => exact fun _ _ _ h => h
      case hw20 => rfl
      case hy20 =>
        intro w hSw
        obtain ⟨hw0_, hw1_, hw2_, hw3_, hw4_, hw5_⟩ := hSw
        go_simp
        try with_reducible rfl
      try simp only [Act.put, List.setIfInBounds_toArray, List.set_cons_zero, List.set_cons_succ]
      refine wpAnyH_take (i := 21) (oi := ?oi21) (v := ?v21) ?hi21 (by kernel_rfl) (by kernel_rfl) (by kernel_rfl) ?hq21 (Or.inl ⟨?hw21, ?hy21⟩) HS ?rest21
      case hi21 =>
        simp only [List.getElem?_toArray, List.getElem?_cons_succ, List.getElem?_cons_zero]
        exact rfl
      case hq21 => exact fun _ _ _ h => h
      case hw21 => rfl
      case hy21 =>
        intro w hSw
        obtain ⟨hw0_, hw1_, hw2_, hw3_, hw4_, hw5_⟩ := hSw
        go_simp
        try with_reducible rfl
      try simp only [Act.put, List.setIfInBounds_toArray, List.set_cons_zero, List.set_cons_succ]
      refine wpAnyH_take (i := 22) (oi := ?oi22) (v := ?v22) ?hi22 (by kernel_rfl) (by kernel_rfl) (by kernel_rfl) ?hq22 (Or.inl ⟨?hw22, ?hy22⟩) HS ?rest22
      case hi22 =>
        simp only [List.getElem?_toArray, List.getElem?_cons_succ, List.getElem?_cons_zero]
        exact rfl
      case hq22 => exact fun _ _ _ h => h
      case hw22 => rfl
      case hy22 =>
        intro w hSw
        obtain ⟨hw0_, hw1_, hw2_, hw3_, hw4_, hw5_⟩ := hSw
        go_simp
        try with_reducible rfl
      try simp only [Act.put, List.setIfInBounds_toArray, List.set_cons_zero, List.set_cons_succ]
      refine wpAnyH_take (i := 23) (oi := ?oi23) (v := ?v23) ?hi23 (by kernel_rfl) (by kernel_rfl) (by kernel_rfl) ?hq23 (Or.inl ⟨?hw23, ?hy23⟩) HS ?rest23
      case hi23 =>
        simp only [List.getElem?_toArray, List.getElem?_cons_succ, List.getElem?_cons_zero]
        exact rfl
      case hq23 => exact fun _ _ _ h => h
      case hw23 => rfl
      case hy23 =>
        intro w hSw
        obtain ⟨hw0_, hw1_, hw2_, hw3_, hw4_, hw5_⟩ := hSw
        go_simp
        try with_reducible rfl
      try simp only [Act.put, List.setIfInBounds_toArray, List.set_cons_zero, List.set_cons_succ]
      refine wpAnyH_take (i := 24) (oi := ?oi24) (v := ?v24) ?hi24 (by kernel_rfl) (by kernel_rfl) (by kernel_rfl) ?hq24 (Or.inl ⟨?hw24, ?hy24⟩) HS ?rest24
      case hi24 =>
        simp only [List.getElem?_toArray, List.getElem?_cons_succ, List.getElem?_cons_zero]
        exact rfl
      case hq24 => exact fun _ _ _ h => h
      case hw24 => rfl
      case hy24 =>
        intro w hSw
        obtain ⟨hw0_, hw1_, hw2_, hw3_, hw4_, hw5_⟩ := hSw
        go_simp
        try with_reducible rfl
      try simp only [Act.put, List.setIfInBounds_toArray, List.set_cons_zero, List.set_cons_succ]
      refine wpAnyH_take (i := 25) (oi := ?oi25) (v := ?v25) ?hi25 (by kernel_rfl) (by kernel_rfl) (by kernel_rfl) ?hq25 (Or.inl ⟨?hw25, ?hy25⟩) HS ?rest25
      case hi25 =>
        simp only [List.getElem?_toArray, List.getElem?_cons_succ, List.getElem?_cons_zero]
        exact rfl
      case hq25 => exact fun _ _ _ h => h
      case hw25 => rfl
      case hy25 =>
        intro w hSw
        obtain ⟨hw0_, hw1_, hw2_, hw3_, hw4_, hw5_⟩ := hSw
        go_simp
        try with_reducible rfl
      try simp only [Act.put, List.setIfInBounds_toArray, List.set_cons_zero, List.set_cons_succ]
      refine wpAnyH_take (i := 26) (oi := ?oi26) (v := ?v26) ?hi26 (by kernel_rfl) (by kernel_rfl) (by kernel_rfl) ?hq26 (Or.inl ⟨?hw26, ?hy26⟩) HS ?rest26
      case hi26 =>
        simp only [List.getElem?_toArray, List.getElem?_cons_succ, List.getElem?_cons_zero]
        exact rfl
      case hq26 => exact fun _ _ _ h => h
      case hw26 => rfl
      case hy26 =>
        intro w hSw
        obtain ⟨hw0_, hw1_, hw2_, hw3_, hw4_, hw5_⟩ := hSw
        go_simp
        try with_reducible rfl
      try simp only [Act.put, List.setIfInBounds_toArray, List.set_cons_zero, List.set_cons_succ]
      refine wpAnyH_take (i := 27) (oi := ?oi27) (v := ?v27) ?hi27 (by kernel_rfl) (by kernel_rfl) (by kernel_rfl) ?hq27 (Or.inl ⟨?hw27, ?hy27⟩) HS ?rest27
      case hi27 =>
        simp only [List.getElem?_toArray, List.getElem?_cons_succ, List.getElem?_cons_zero]
        exact rfl
      case hq27 => exact fun _ _ _ h => h
      case hw27 => rfl
      case hy27 =>
        intro w hSw
        obtain ⟨hw0_, hw1_, hw2_, hw3_, hw4_, hw5_⟩ := hSw
        go_simp
        try with_reducible rfl
      try simp only [Act.put, List.setIfInBounds_toArray, List.set_cons_zero, List.set_cons_succ]
      refine wpAnyH_take (i := 28) (oi := ?oi28) (v := ?v28) ?hi28 (by kernel_rfl) (by kernel_rfl) (by kernel_rfl) ?hq28 (Or.inl ⟨?hw28, ?hy28⟩) HS ?rest28
      case hi28 =>
        simp only [List.getElem?_toArray, List.getElem?_cons_succ, List.getElem?_cons_zero]
        exact rfl
      case hq28 => exact fun _ _ _ h => h
      case hw28 => rfl
      case hy28 =>
        intro w hSw
        obtain ⟨hw0_, hw1_, hw2_, hw3_, hw4_, hw5_⟩ := hSw
        go_simp
        try with_reducible rfl
      try simp only [Act.put, List.setIfInBounds_toArray, List.set_cons_zero, List.set_cons_succ]
      refine wpAnyH_ready (rs := [29]) (by kernel_rfl) (by simp) ?_
      refine AllReadyH.cons (o := ?oi29) ?hi29 (fun K hK => ?rest29) AllReadyH.nil
      case hi29 =>
        simp only [List.getElem?_toArray, List.getElem?_cons_succ, List.getElem?_cons_zero]
        exact rfl
      go_simp
      go_at_call 81
      refine (C81.out _ HG2.out).mono ?_
      rintro e w3 ⟨rfl, hg3⟩
      have HS2 : (fun w' => w'.cell? ⟨gp, 0, none⟩ = some (.int .i64 m) ∧ w'.cell? ⟨gp, 1, none⟩ = some (.map (some bn)) ∧ w'.cell? ⟨gp, 2, none⟩ = some (.map (some bh)) ∧ w'.cell? ⟨gp2, 0, none⟩ = some (.int .i64 m) ∧ w'.cell? ⟨gp2, 1, none⟩ = some (.map (some bn2)) ∧ w'.cell? ⟨gp2, 2, none⟩ = some (.map (some bh2))) w3 := ⟨grown_cell hg3 HS.1, grown_cell hg3 HS.2.1, grown_cell hg3 HS.2.2.1, grown_cell hg3 HS.2.2.2.1, grown_cell hg3 HS.2.2.2.2.1, grown_cell hg3 HS.2.2.2.2.2⟩
      clear HS
      have HS := HS2
      clear HS2
      have HG3 := Lib.hid hg3
      clear hg3
      refine hK.out _ _ HS (fun _ => ?_)
      clear hK K
      try simp only [Act.put, List.setIfInBounds_toArray, List.set_cons_zero, List.set_cons_succ]
      refine wpAnyH_take (i := 30) (oi := ?oi30) (v := ?v30) ?hi30 (by kernel_rfl) (by kernel_rfl) (by kernel_rfl) ?hq30 (Or.inl ⟨?hw30, ?hy30⟩) HS ?rest30
      case hi30 =>
        simp only [List.getElem?_toArray, List.getElem?_cons_succ, List.getElem?_cons_zero]
        exact rfl
      case hq30 => exact fun _ _ _ h => h
      case hw30 => rfl
      case hy30 =>
        intro w hSw
        obtain ⟨hw0_, hw1_, hw2_, hw3_, hw4_, hw5_⟩ := hSw
        go_simp
        try with_reducible rfl
      try simp only [Act.put, List.setIfInBounds_toArray, List.set_cons_zero, List.set_cons_succ]
      refine wpAnyH_take (i := 31) (oi := ?oi31) (v := ?v31) ?hi31 (by kernel_rfl) (by kernel_rfl) (by kernel_rfl) ?hq31 (Or.inl ⟨?hw31, ?hy31⟩) HS ?rest31
      case hi31 =>
        simp only [List.getElem?_toArray, List.getElem?_cons_succ, List.getElem?_cons_zero]
        exact rfl
      case hq31 => exact fun _ _ _ h => h
      case hw31 => rfl
      case hy31 =>
        intro w hSw
        obtain ⟨hw0_, hw1_, hw2_, hw3_, hw4_, hw5_⟩ := hSw
        go_simp
        try with_reducible rfl
      try simp only [Act.put, List.setIfInBounds_toArray, List.set_cons_zero, List.set_cons_succ]
      refine wpAnyH_done (by kernel_rfl) ?_ _
      go_wp2_with fail
      go_ret
      exact ⟨rfl, (below_drew (Below.refl w.heap.size w)).trans (below_of_grown (HG2.out.trans HG3.out))⟩
    · have hS : samB m m now now2 held held2 = false := by unfold samB; rw [decide_eq_true rfl, decide_eq_false e1]; rfl
      rw [hS]
      rw [decide_eq_false e1] at c80
      have C80 := Lib.hid c80
      clear hS c80 e1 c0 c1 c2 k0 k1 k2
      go_enter Try.func31, Try.ntmps31
      go_wp2_with fail
      refine wp_region_held_drew (S := fun w' => w'.cell? ⟨gp, 0, none⟩ = some (.int .i64 m) ∧ w'.cell? ⟨gp, 1, none⟩ = some (.map (some bn)) ∧ w'.cell? ⟨gp, 2, none⟩ = some (.map (some bh)) ∧ w'.cell? ⟨gp2, 0, none⟩ = some (.int .i64 m) ∧ w'.cell? ⟨gp2, 1, none⟩ = some (.map (some bn2)) ∧ w'.cell? ⟨gp2, 2, none⟩ = some (.map (some bh2))) (by kernel_rfl) HS (fun _ => ?_)
      refine wpAnyH_take (i := 0) (oi := ?oiz0) (v := ?vz0) ?hiz0 (by kernel_rfl) (by kernel_rfl) (by kernel_rfl) ?hqz0 (Or.inl ⟨?hwz0, ?hyz0⟩) HS ?restz0
      case hiz0 =>
        simp only [List.getElem?_toArray, List.getElem?_cons_succ, List.getElem?_cons_zero]
        exact rfl
      case hqz0 => exact fun _ _ _ h => h
      case hwz0 => rfl
      case hyz0 =>
        intro w hSw
        obtain ⟨hw0_, hw1_, hw2_, hw3_, hw4_, hw5_⟩ := hSw
        go_simp
        try with_reducible rfl
      try simp only [Act.put, List.setIfInBounds_toArray, List.set_cons_zero, List.set_cons_succ]
      refine wpAnyH_take (i := 1) (oi := ?oiz1) (v := ?vz1) ?hiz1 (by kernel_rfl) (by kernel_rfl) (by kernel_rfl) ?hqz1 (Or.inl ⟨?hwz1, ?hyz1⟩) HS ?restz1
      case hiz1 =>
        simp only [List.getElem?_toArray, List.getElem?_cons_succ, List.getElem?_cons_zero]
        exact rfl
      case hqz1 => exact fun _ _ _ h => h
      case hwz1 => rfl
      case hyz1 =>
        intro w hSw
        obtain ⟨hw0_, hw1_, hw2_, hw3_, hw4_, hw5_⟩ := hSw
        go_simp
        try with_reducible rfl
      try simp only [Act.put, List.setIfInBounds_toArray, List.set_cons_zero, List.set_cons_succ]
      refine wpAnyH_take (i := 2) (oi := ?oiz2) (v := ?vz2) ?hiz2 (by kernel_rfl) (by kernel_rfl) (by kernel_rfl) ?hqz2 (Or.inl ⟨?hwz2, ?hyz2⟩) HS ?restz2
      case hiz2 =>
        simp only [List.getElem?_toArray, List.getElem?_cons_succ, List.getElem?_cons_zero]
        exact rfl
      case hqz2 => exact fun _ _ _ h => h
      case hwz2 => rfl
      case hyz2 =>
        intro w hSw
        obtain ⟨hw0_, hw1_, hw2_, hw3_, hw4_, hw5_⟩ := hSw
        go_simp
        try with_reducible rfl
      try simp only [Act.put, List.setIfInBounds_toArray, List.set_cons_zero, List.set_cons_succ]
      refine wpAnyH_take (i := 3) (oi := ?oiz3) (v := ?vz3) ?hiz3 (by kernel_rfl) (by kernel_rfl) (by kernel_rfl) ?hqz3 (Or.inl ⟨?hwz3, ?hyz3⟩) HS ?restz3
      case hiz3 =>
        simp only [List.getElem?_toArray, List.getElem?_cons_succ, List.getElem?_cons_zero]
        exact rfl
      case hqz3 => exact fun _ _ _ h => h
      case hwz3 => rfl
      case hyz3 =>
        intro w hSw
        obtain ⟨hw0_, hw1_, hw2_, hw3_, hw4_, hw5_⟩ := hSw
        go_simp
        try with_reducible rfl
      try simp only [Act.put, List.setIfInBounds_toArray, List.set_cons_zero, List.set_cons_succ]
      refine wpAnyH_take (i := 4) (oi := ?oiz4) (v := ?vz4) ?hiz4 (by kernel_rfl) (by kernel_rfl) (by kernel_rfl) ?hqz4 (Or.inl ⟨?hwz4, ?hyz4⟩) HS ?restz4
      case hiz4 =>
        simp only [List.getElem?_toArray, List.getElem?_cons_succ, List.getElem?_cons_zero]
        exact rfl
      case hqz4 => exact fun _ _ _ h => h
      case hwz4 => rfl
      case hyz4 =>
        intro w hSw
        obtain ⟨hw0_, hw1_, hw2_, hw3_, hw4_, hw5_⟩ := hSw
        go_simp
        try with_reducible rfl
      try simp only [Act.put, List.setIfInBounds_toArray, List.set_cons_zero, List.set_cons_succ]
      refine wpAnyH_take (i := 5) (oi := ?oiz5) (v := ?vz5) ?hiz5 (by kernel_rfl) (by kernel_rfl) (by kernel_rfl) ?hqz5 (Or.inl ⟨?hwz5, ?hyz5⟩) HS ?restz5
      case hiz5 =>
        simp only [List.getElem?_toArray, List.getElem?_cons_succ, List.getElem?_cons_zero]
        exact rfl
      case hqz5 => exact fun _ _ _ h => h
      case hwz5 => rfl
      case hyz5 =>
        intro w hSw
        obtain ⟨hw0_, hw1_, hw2_, hw3_, hw4_, hw5_⟩ := hSw
        go_simp
        try with_reducible rfl
      try simp only [Act.put, List.setIfInBounds_toArray, List.set_cons_zero, List.set_cons_succ]
      refine wpAnyH_take (i := 6) (oi := ?oiz6) (v := ?vz6) ?hiz6 (by kernel_rfl) (by kernel_rfl) (by kernel_rfl) ?hqz6 (Or.inl ⟨?hwz6, ?hyz6⟩) HS ?restz6
      case hiz6 =>
        simp only [List.getElem?_toArray, List.getElem?_cons_succ, List.getElem?_cons_zero]
        exact rfl
      case hqz6 => exact fun _ _ _ h => h
      case hwz6 => rfl
      case hyz6 =>
        intro w hSw
        obtain ⟨hw0_, hw1_, hw2_, hw3_, hw4_, hw5_⟩ := hSw
        go_simp
        try with_reducible rfl
      try simp only [Act.put, List.setIfInBounds_toArray, List.set_cons_zero, List.set_cons_succ]
      refine wpAnyH_take (i := 7) (oi := ?oiz7) (v := ?vz7) ?hiz7 (by kernel_rfl) (by kernel_rfl) (by kernel_rfl) ?hqz7 (Or.inl ⟨?hwz7, ?hyz7⟩) HS ?restz7
      case hiz7 =>
        simp only [List.getElem?_toArray, List.getElem?_cons_succ, List.getElem?_cons_zero]
        exact rfl
      case hqz7 => exact fun _ _ _ h => h
      case hwz7 => rfl
      case hyz7 =>
        intro w hSw
        obtain ⟨hw0_, hw1_, hw2_, hw3_, hw4_, hw5_⟩ := hSw
        go_simp
        try with_reducible rfl
      try simp only [Act.put, List.setIfInBounds_toArray, List.set_cons_zero, List.set_cons_succ]
      refine wpAnyH_take (i := 8) (oi := ?oiz8) (v := ?vz8) ?hiz8 (by kernel_rfl) (by kernel_rfl) (by kernel_rfl) ?hqz8 (Or.inl ⟨?hwz8, ?hyz8⟩) HS ?restz8
      case hiz8 =>
        simp only [List.getElem?_toArray, List.getElem?_cons_succ, List.getElem?_cons_zero]
        exact rfl
      case hqz8 => exact fun _ _ _ h => h
      case hwz8 => rfl
      case hyz8 =>
        intro w hSw
        obtain ⟨hw0_, hw1_, hw2_, hw3_, hw4_, hw5_⟩ := hSw
        go_simp
        try with_reducible rfl
      try simp only [Act.put, List.setIfInBounds_toArray, List.set_cons_zero, List.set_cons_succ]
      refine wpAnyH_take (i := 9) (oi := ?oiz9) (v := ?vz9) ?hiz9 (by kernel_rfl) (by kernel_rfl) (by kernel_rfl) ?hqz9 (Or.inl ⟨?hwz9, ?hyz9⟩) HS ?restz9
      case hiz9 =>
        simp only [List.getElem?_toArray, List.getElem?_cons_succ, List.getElem?_cons_zero]
        exact rfl
      case hqz9 => exact fun _ _ _ h => h
      case hwz9 => rfl
      case hyz9 =>
        intro w hSw
        obtain ⟨hw0_, hw1_, hw2_, hw3_, hw4_, hw5_⟩ := hSw
        go_simp
        try with_reducible rfl
      try simp only [Act.put, List.setIfInBounds_toArray, List.set_cons_zero, List.set_cons_succ]
      refine wpAnyH_take (i := 10) (oi := ?oiz10) (v := ?vz10) ?hiz10 (by kernel_rfl) (by kernel_rfl) (by kernel_rfl) ?hqz10 (Or.inl ⟨?hwz10, ?hyz10⟩) HS ?restz10
      case hiz10 =>
        simp only [List.getElem?_toArray, List.getElem?_cons_succ, List.getElem?_cons_zero]
        exact rfl
      case hqz10 => exact fun _ _ _ h => h
      case hwz10 => rfl
      case hyz10 =>
        intro w hSw
        obtain ⟨hw0_, hw1_, hw2_, hw3_, hw4_, hw5_⟩ := hSw
        go_simp
        try with_reducible rfl
      try simp only [Act.put, List.setIfInBounds_toArray, List.set_cons_zero, List.set_cons_succ]
      refine wpAnyH_take (i := 11) (oi := ?oiz11) (v := ?vz11) ?hiz11 (by kernel_rfl) (by kernel_rfl) (by kernel_rfl) ?hqz11 (Or.inl ⟨?hwz11, ?hyz11⟩) HS ?restz11
      case hiz11 =>
        simp only [List.getElem?_toArray, List.getElem?_cons_succ, List.getElem?_cons_zero]
        exact rfl
      case hqz11 => exact fun _ _ _ h => h
      case hwz11 => rfl
      case hyz11 =>
        intro w hSw
        obtain ⟨hw0_, hw1_, hw2_, hw3_, hw4_, hw5_⟩ := hSw
        go_simp
        try with_reducible rfl
      try simp only [Act.put, List.setIfInBounds_toArray, List.set_cons_zero, List.set_cons_succ]
      refine wpAnyH_take (i := 12) (oi := ?oiz12) (v := ?vz12) ?hiz12 (by kernel_rfl) (by kernel_rfl) (by kernel_rfl) ?hqz12 (Or.inl ⟨?hwz12, ?hyz12⟩) HS ?restz12
      case hiz12 =>
        simp only [List.getElem?_toArray, List.getElem?_cons_succ, List.getElem?_cons_zero]
        exact rfl
      case hqz12 => exact fun _ _ _ h => h
      case hwz12 => rfl
      case hyz12 =>
        intro w hSw
        obtain ⟨hw0_, hw1_, hw2_, hw3_, hw4_, hw5_⟩ := hSw
        go_simp
        try with_reducible rfl
      try simp only [Act.put, List.setIfInBounds_toArray, List.set_cons_zero, List.set_cons_succ]
      refine wpAnyH_take (i := 13) (oi := ?oiz13) (v := ?vz13) ?hiz13 (by kernel_rfl) (by kernel_rfl) (by kernel_rfl) ?hqz13 (Or.inl ⟨?hwz13, ?hyz13⟩) HS ?restz13
      case hiz13 =>
        simp only [List.getElem?_toArray, List.getElem?_cons_succ, List.getElem?_cons_zero]
        exact rfl
      case hqz13 => exact fun _ _ _ h => h
      case hwz13 => rfl
      case hyz13 =>
        intro w hSw
        obtain ⟨hw0_, hw1_, hw2_, hw3_, hw4_, hw5_⟩ := hSw
        go_simp
        try with_reducible rfl
      try simp only [Act.put, List.setIfInBounds_toArray, List.set_cons_zero, List.set_cons_succ]
      refine wpAnyH_take (i := 14) (oi := ?oiz14) (v := ?vz14) ?hiz14 (by kernel_rfl) (by kernel_rfl) (by kernel_rfl) ?hqz14 (Or.inl ⟨?hwz14, ?hyz14⟩) HS ?restz14
      case hiz14 =>
        simp only [List.getElem?_toArray, List.getElem?_cons_succ, List.getElem?_cons_zero]
        exact rfl
      case hqz14 => exact fun _ _ _ h => h
      case hwz14 => rfl
      case hyz14 =>
        intro w hSw
        obtain ⟨hw0_, hw1_, hw2_, hw3_, hw4_, hw5_⟩ := hSw
        go_simp
        try with_reducible rfl
      try simp only [Act.put, List.setIfInBounds_toArray, List.set_cons_zero, List.set_cons_succ]
      refine wpAnyH_take (i := 15) (oi := ?oiz15) (v := ?vz15) ?hiz15 (by kernel_rfl) (by kernel_rfl) (by kernel_rfl) ?hqz15 (Or.inl ⟨?hwz15, ?hyz15⟩) HS ?restz15
      case hiz15 =>
        simp only [List.getElem?_toArray, List.getElem?_cons_succ, List.getElem?_cons_zero]
        exact rfl
      case hqz15 => exact fun _ _ _ h => h
      case hwz15 => rfl
      case hyz15 =>
        intro w hSw
        obtain ⟨hw0_, hw1_, hw2_, hw3_, hw4_, hw5_⟩ := hSw
        go_simp
        try with_reducible rfl
      try simp only [Act.put, List.setIfInBounds_toArray, List.set_cons_zero, List.set_cons_succ]
      refine wpAnyH_take (i := 16) (oi := ?oiz16) (v := ?vz16) ?hiz16 (by kernel_rfl) (by kernel_rfl) (by kernel_rfl) ?hqz16 (Or.inl ⟨?hwz16, ?hyz16⟩) HS ?restz16
      case hiz16 =>
        simp only [List.getElem?_toArray, List.getElem?_cons_succ, List.getElem?_cons_zero]
        exact rfl
      case hqz16 => exact fun _ _ _ h => h
      case hwz16 => rfl
      case hyz16 =>
        intro w hSw
        obtain ⟨hw0_, hw1_, hw2_, hw3_, hw4_, hw5_⟩ := hSw
        go_simp
        try with_reducible rfl
      try simp only [Act.put, List.setIfInBounds_toArray, List.set_cons_zero, List.set_cons_succ]
      refine wpAnyH_take (i := 17) (oi := ?oiz17) (v := ?vz17) ?hiz17 (by kernel_rfl) (by kernel_rfl) (by kernel_rfl) ?hqz17 (Or.inl ⟨?hwz17, ?hyz17⟩) HS ?restz17
      case hiz17 =>
        simp only [List.getElem?_toArray, List.getElem?_cons_succ, List.getElem?_cons_zero]
        exact rfl
      case hqz17 => exact fun _ _ _ h => h
      case hwz17 => rfl
      case hyz17 =>
        intro w hSw
        obtain ⟨hw0_, hw1_, hw2_, hw3_, hw4_, hw5_⟩ := hSw
        go_simp
        try with_reducible rfl
      try simp only [Act.put, List.setIfInBounds_toArray, List.set_cons_zero, List.set_cons_succ]
      refine wpAnyH_ready (rs := [18]) (by kernel_rfl) (by simp) ?_
      refine AllReadyH.cons (o := ?oiz18) ?hiz18 (fun K hK => ?restz18) AllReadyH.nil
      case hiz18 =>
        simp only [List.getElem?_toArray, List.getElem?_cons_succ, List.getElem?_cons_zero]
        exact rfl
      go_simp
      go_at_call 80
      refine (C80.out).mono ?_
      rintro e w2 ⟨rfl, hg2⟩
      have HS2 : (fun w' => w'.cell? ⟨gp, 0, none⟩ = some (.int .i64 m) ∧ w'.cell? ⟨gp, 1, none⟩ = some (.map (some bn)) ∧ w'.cell? ⟨gp, 2, none⟩ = some (.map (some bh)) ∧ w'.cell? ⟨gp2, 0, none⟩ = some (.int .i64 m) ∧ w'.cell? ⟨gp2, 1, none⟩ = some (.map (some bn2)) ∧ w'.cell? ⟨gp2, 2, none⟩ = some (.map (some bh2))) w2 := ⟨grown_cell hg2 HS.1, grown_cell hg2 HS.2.1, grown_cell hg2 HS.2.2.1, grown_cell hg2 HS.2.2.2.1, grown_cell hg2 HS.2.2.2.2.1, grown_cell hg2 HS.2.2.2.2.2⟩
      clear HS
      have HS := HS2
      clear HS2
      have HG2 := Lib.hid hg2
      clear hg2
      refine hK.out _ _ HS (fun _ => ?_)
      clear hK K
      try simp only [Act.put, List.setIfInBounds_toArray, List.set_cons_zero, List.set_cons_succ]
      refine wpAnyH_take (i := 19) (oi := ?oiz19) (v := ?vz19) ?hiz19 (by kernel_rfl) (by kernel_rfl) (by kernel_rfl) ?hqz19 (Or.inl ⟨?hwz19, ?hyz19⟩) HS ?restz19
      case hiz19 =>
        simp only [List.getElem?_toArray, List.getElem?_cons_succ, List.getElem?_cons_zero]
        exact rfl
      case hqz19 => exact fun _ _ _ h => h
      case hwz19 => rfl
      case hyz19 =>
        intro w hSw
        obtain ⟨hw0_, hw1_, hw2_, hw3_, hw4_, hw5_⟩ := hSw
        go_simp
        try with_reducible rfl
      try simp only [Act.put, List.setIfInBounds_toArray, List.set_cons_zero, List.set_cons_succ]
      refine wpAnyH_take (i := 20) (oi := ?oiz20) (v := ?vz20) ?hiz20 (by kernel_rfl) (by kernel_rfl) (by kernel_rfl) ?hqz20 (Or.inl ⟨?hwz20, ?hyz20⟩) HS ?restz20
      case hiz20 =>
        simp only [List.getElem?_toArray, List.getElem?_cons_succ, List.getElem?_cons_zero]
        exact rfl
      case hqz20 => exact fun _ _ _ h => h
      case hwz20 => rfl
      case hyz20 =>
        intro w hSw
        obtain ⟨hw0_, hw1_, hw2_, hw3_, hw4_, hw5_⟩ := hSw
        go_simp
        try with_reducible rfl
      try simp only [Act.put, List.setIfInBounds_toArray, List.set_cons_zero, List.set_cons_succ]
      refine wpAnyH_take (i := 21) (oi := ?oiz21) (v := undef) ?hiz21 (by kernel_rfl) (by kernel_rfl) (by kernel_rfl) ?hqz21 (Or.inr ⟨?hwz21, rfl⟩) HS ?restz21
      case hiz21 =>
        simp only [List.getElem?_toArray, List.getElem?_cons_succ, List.getElem?_cons_zero]
        exact rfl
      case hqz21 => exact fun _ _ _ h => h
      case hwz21 => rfl
      try simp only [Act.put, List.setIfInBounds_toArray, List.set_cons_zero, List.set_cons_succ]
      refine wpAnyH_take (i := 22) (oi := ?oiz22) (v := undef) ?hiz22 (by kernel_rfl) (by kernel_rfl) (by kernel_rfl) ?hqz22 (Or.inr ⟨?hwz22, rfl⟩) HS ?restz22
      case hiz22 =>
        simp only [List.getElem?_toArray, List.getElem?_cons_succ, List.getElem?_cons_zero]
        exact rfl
      case hqz22 => exact fun _ _ _ h => h
      case hwz22 => rfl
      try simp only [Act.put, List.setIfInBounds_toArray, List.set_cons_zero, List.set_cons_succ]
      refine wpAnyH_take (i := 23) (oi := ?oiz23) (v := undef) ?hiz23 (by kernel_rfl) (by kernel_rfl) (by kernel_rfl) ?hqz23 (Or.inr ⟨?hwz23, rfl⟩) HS ?restz23
      case hiz23 =>
        simp only [List.getElem?_toArray, List.getElem?_cons_succ, List.getElem?_cons_zero]
        exact rfl
      case hqz23 => exact fun _ _ _ h => h
      case hwz23 => rfl
      try simp only [Act.put, List.setIfInBounds_toArray, List.set_cons_zero, List.set_cons_succ]
      refine wpAnyH_take (i := 24) (oi := ?oiz24) (v := undef) ?hiz24 (by kernel_rfl) (by kernel_rfl) (by kernel_rfl) ?hqz24 (Or.inr ⟨?hwz24, rfl⟩) HS ?restz24
      case hiz24 =>
        simp only [List.getElem?_toArray, List.getElem?_cons_succ, List.getElem?_cons_zero]
        exact rfl
      case hqz24 => exact fun _ _ _ h => h
      case hwz24 => rfl
      try simp only [Act.put, List.setIfInBounds_toArray, List.set_cons_zero, List.set_cons_succ]
      refine wpAnyH_take (i := 25) (oi := ?oiz25) (v := undef) ?hiz25 (by kernel_rfl) (by kernel_rfl) (by kernel_rfl) ?hqz25 (Or.inr ⟨?hwz25, rfl⟩) HS ?restz25
      case hiz25 =>
        simp only [List.getElem?_toArray, List.getElem?_cons_succ, List.getElem?_cons_zero]
        exact rfl
      case hqz25 => exact fun _ _ _ h => h
      case hwz25 => rfl
      try simp only [Act.put, List.setIfInBounds_toArray, List.set_cons_zero, List.set_cons_succ]
      refine wpAnyH_take (i := 26) (oi := ?oiz26) (v := undef) ?hiz26 (by kernel_rfl) (by kernel_rfl) (by kernel_rfl) ?hqz26 (Or.inr ⟨?hwz26, rfl⟩) HS ?restz26
      case hiz26 =>
        simp only [List.getElem?_toArray, List.getElem?_cons_succ, List.getElem?_cons_zero]
        exact rfl
      case hqz26 => exact fun _ _ _ h => h
      case hwz26 => rfl
      try simp only [Act.put, List.setIfInBounds_toArray, List.set_cons_zero, List.set_cons_succ]
      refine wpAnyH_take (i := 27) (oi := ?oiz27) (v := undef) ?hiz27 (by kernel_rfl) (by kernel_rfl) (by kernel_rfl) ?hqz27 (Or.inr ⟨?hwz27, rfl⟩) HS ?restz27
      case hiz27 =>
        simp only [List.getElem?_toArray, List.getElem?_cons_succ, List.getElem?_cons_zero]
        exact rfl
      case hqz27 => exact fun _ _ _ h => h
      case hwz27 => rfl
      try simp only [Act.put, List.setIfInBounds_toArray, List.set_cons_zero, List.set_cons_succ]
      refine wpAnyH_take (i := 28) (oi := ?oiz28) (v := undef) ?hiz28 (by kernel_rfl) (by kernel_rfl) (by kernel_rfl) ?hqz28 (Or.inr ⟨?hwz28, rfl⟩) HS ?restz28
      case hiz28 =>
        simp only [List.getElem?_toArray, List.getElem?_cons_succ, List.getElem?_cons_zero]
        exact rfl
      case hqz28 => exact fun _ _ _ h => h
      case hwz28 => rfl
      try simp only [Act.put, List.setIfInBounds_toArray, List.set_cons_zero, List.set_cons_succ]
      refine wpAnyH_take (i := 29) (oi := ?oiz29) (v := undef) ?hiz29 (by kernel_rfl) (by kernel_rfl) (by kernel_rfl) ?hqz29 (Or.inr ⟨?hwz29, rfl⟩) HS ?restz29
      case hiz29 =>
        simp only [List.getElem?_toArray, List.getElem?_cons_succ, List.getElem?_cons_zero]
        exact rfl
      case hqz29 => exact fun _ _ _ h => h
      case hwz29 => rfl
      try simp only [Act.put, List.setIfInBounds_toArray, List.set_cons_zero, List.set_cons_succ]
      refine wpAnyH_take (i := 30) (oi := ?oiz30) (v := ?vz30) ?hiz30 (by kernel_rfl) (by kernel_rfl) (by kernel_rfl) ?hqz30 (Or.inl ⟨?hwz30, ?hyz30⟩) HS ?restz30
      case hiz30 =>
        simp only [List.getElem?_toArray, List.getElem?_cons_succ, List.getElem?_cons_zero]
        exact rfl
      case hqz30 => exact fun _ _ _ h => h
      case hwz30 => rfl
      case hyz30 =>
        intro w hSw
        obtain ⟨hw0_, hw1_, hw2_, hw3_, hw4_, hw5_⟩ := hSw
        go_simp
        try with_reducible rfl
      try simp only [Act.put, List.setIfInBounds_toArray, List.set_cons_zero, List.set_cons_succ]
      refine wpAnyH_take (i := 31) (oi := ?oiz31) (v := ?vz31) ?hiz31 (by kernel_rfl) (by kernel_rfl) (by kernel_rfl) ?hqz31 (Or.inl ⟨?hwz31, ?hyz31⟩) HS ?restz31
      case hiz31 =>
        simp only [List.getElem?_toArray, List.getElem?_cons_succ, List.getElem?_cons_zero]
        exact rfl
      case hqz31 => exact fun _ _ _ h => h
      case hwz31 => rfl
      case hyz31 =>
        intro w hSw
        obtain ⟨hw0_, hw1_, hw2_, hw3_, hw4_, hw5_⟩ := hSw
        go_simp
        try with_reducible rfl
      try simp only [Act.put, List.setIfInBounds_toArray, List.set_cons_zero, List.set_cons_succ]
      refine wpAnyH_done (by kernel_rfl) ?_ _
      go_wp2_with fail
      go_ret
      exact ⟨rfl, (below_drew (Below.refl w.heap.size w)).trans (below_of_grown HG2.out)⟩
  · have hq : (m == m2) = false := by simpa using e0
    have hS : samB m m2 now now2 held held2 = false := by unfold samB; rw [decide_eq_false e0]; rfl
    rw [hS]
    clear hS
    go_enter Try.func31, Try.ntmps31
    go_wp2_with fail
    go_quiet (fail)
    go_wp2
    go_ret
    exact ⟨rfl, pw_below_drewN (Below.refl _ _) _⟩
end Go.Proofs.Ytngocadnbpdnoaa.Mo

-- from RmH
namespace Go.Proofs.Ytngocadnbpdnoaa.Mo
open Go Go.Maps Go.RowKit Go.Proofs.Ytngocadnbpdnoaa.Srt Go.Proofs.Ytngocadnbpdnoaa.Q Go.Proofs.YtngocadnbpdnoaaW.PrintWords Go.Proofs.YtngocadnbpdnoaaW.PrintLast Go.Proofs.YtngocadnbpdnoaaW.PrintMore
set_option linter.unusedVariables false
set_option linter.unusedSimpArgs false
theorem toS_inj {a b : PL} (h : toS a = toS b) : a = b := by
  have : (toS a).map (fun p : SP => (p.f0, p.f1)) = (toS b).map (fun p : SP => (p.f0, p.f1)) := by rw [h]
  simpa [toS, List.map_map, Function.comp_def] using this
theorem samR_c (x y : PL) (A B : Option Addr) (c d : Nat) (w : World) (hA : Kd.C kSP w A x.length (toS x)) (hc : x.length ≤ c) (hB : Kd.C kSP w B y.length (toS y)) (hd : y.length ≤ d) (hm : x.length ≤ 4398046511104) (b : Bool) (hb : b = decide (x = y)) :
    Calls Try.prog 35 #[.slice A x.length c, .slice B y.length d] w fun e w' => e = .returned (.bool b) ∧ Drawn0 w w' := by
  obtain ⟨k, hk⟩ := samR_f (toS x) (toS y) (by rw [toS_length]; exact hm)
  have e : decide (toS x = toS y) = b := by rw [hb]; exact decide_eq_decide.2 ⟨toS_inj, fun e => by rw [e]⟩
  rw [e] at hk
  have := shutterref06_SamePairs.calls k A c (toS x) B d (toS y) b w (by rw [toS_length]; exact hA) (by rw [toS_length]; exact hc) (by rw [toS_length]; exact hB) (by rw [toS_length]; exact hd) hk
  rw [toS_length, toS_length] at this
  exact this
theorem heldEq {hs hs' : List HdS} (hl : hs.length = hs'.length) (h : ∀ j (h1 : j < hs.length) (h2 : j < hs'.length), hs[j].h = hs'[j].h ∧ hs[j].l = hs'[j].l) : hs.map (fun x => (x.h, x.l)) = hs'.map (fun x => (x.h, x.l)) := by
  refine List.ext_getElem (by simpa using hl) fun i h1 h2 => ?_
  simp only [List.getElem_map]
  obtain ⟨e1, e2⟩ := h i (by simpa using h1) (by simpa using h2)
  rw [e1, e2]
theorem heldNe {hs hs' : List HdS} (j : Nat) (h1 : j < hs.length) (h2 : j < hs'.length) (h : ¬ (hs[j].h = hs'[j].h ∧ hs[j].l = hs'[j].l)) : ¬ (hs.map (fun x => (x.h, x.l)) = hs'.map (fun x => (x.h, x.l))) := by
  intro e
  have := congrArg (fun l => l[j]?) e
  simp only [List.getElem?_map, List.getElem?_eq_getElem h1, List.getElem?_eq_getElem h2, Option.map_some, Option.some.injEq, Prod.mk.injEq] at this
  exact h this
set_option maxRecDepth 100000 in
set_option maxHeartbeats 16000000 in
theorem sameR_c {w : World} {S : Nat → Prop} {rp N : Nat} {s : MS} {A : Option Addr} {c : Nat} {B : Option Addr} {d : Nat} {hs : List HdS} (h : RMd w S rp N s A c B d hs) {S2 : Nat → Prop} {rq : Nat} {s2 : MS} {A2 : Option Addr} {c2 : Nat} {B2 : Option Addr} {d2 : Nat} {hs2 : List HdS} (h2 : RMd w S2 rq N s2 A2 c2 B2 d2 hs2) (hN : N ≤ 1099511627776) (r : Bool) (hr : r = true ↔ s = s2) :
    Calls Try.prog 33 #[.pointer (some ⟨rp, 0, none⟩), .pointer (some ⟨rq, 0, none⟩)] w fun e w' => e = .returned (.bool r) ∧ Below w.heap.size w w' := by
  have hl := h.hle
  have hl2 := h2.hle
  have HH := Lib.hid h
  have HG := Lib.hid h2
  have HR := Lib.hid hr
  have a0 := h.c0
  have a1 := h.c1
  have a2 := h.c2
  have b0 := h2.c0
  have b1 := h2.c1
  have b2 := h2.c2
  have HN : Hid (s = s2 ↔ s.multi = s2.multi ∧ s.now = s2.now ∧ hs.map (fun x => (x.h, x.l)) = hs2.map (fun x => (x.h, x.l))) := Lib.hid (by
    rw [← h.hd, ← h2.hd]
    cases s; cases s2; simp)
  have hnl := h.nle
  clear h h2 hr
  go_enter Try.func33, Try.ntmps33
  go_upto_region 3 with fail
  by_cases hm : s.multi = s2.multi
  case neg =>
    have hm1 : (s.multi != s2.multi) = true := by simpa using hm
    have hm2 : (s.multi == s2.multi) = false := by simpa using hm
    obtain rfl : r = false := by exact Bool.eq_false_iff.2 (fun e0 => (fun e : s = s2 => hm (HN.out.1 e).1) (HR.out.1 e0))
    clear hm
    go_quiet (fail)
    go_wp2_with fail
    go_ret
    exact ⟨rfl, pw_below_drewN (Below.refl _ _) _⟩
  case pos =>
    have hm1 : (s.multi != s2.multi) = false := by simpa using hm
    have hm2 : (s.multi == s2.multi) = true := by simpa using hm
    by_cases hn : s.now = s2.now
    case neg =>
      obtain rfl : r = false := by exact Bool.eq_false_iff.2 (fun e0 => (fun e : s = s2 => hn (HN.out.1 e).2.1) (HR.out.1 e0))
      have cS : ∀ W, Below w.heap.size w W → _ := fun W hB => samR_c s.now s2.now A A2 c c2 W (HH.out.now W (Kept.of_below hB _)) HH.out.nc (HG.out.now W (Kept.of_below hB _)) HG.out.nc (by omega) false (decide_eq_false hn).symm
      clear hm hn
      go_quiet ((go_at_call 35; exact find_quiet (cS _ (pw_below_drewN (Below.refl _ w) _))))
      go_wp2_with fail
      go_ret
      exact ⟨rfl, pw_below_drewN (Below.refl _ _) _⟩
    case pos =>
      have cS : ∀ W, Below w.heap.size w W → _ := fun W hB => samR_c s.now s2.now A A2 c c2 W (HH.out.now W (Kept.of_below hB _)) HH.out.nc (HG.out.now W (Kept.of_below hB _)) HG.out.nc (by omega) true (decide_eq_true hn).symm
      have HMN := Lib.hid (And.intro hm hn)
      clear hm hn
      by_cases hlen : hs.length = hs2.length
      case neg =>
        obtain rfl : r = false := by exact Bool.eq_false_iff.2 (fun e0 => (fun e : s = s2 => hlen (by simpa using congrArg List.length (HN.out.1 e).2.2)) (HR.out.1 e0))
        have hm3 : ((hs.length : Int) != (hs2.length : Int)) = true := by simp; omega
        have hm4 : ((hs.length : Int) == (hs2.length : Int)) = false := by simp; omega
        clear hlen
        go_quiet ((go_at_call 35; exact find_quiet (cS _ (pw_below_drewN (Below.refl _ w) _))))
        go_wp2_with fail
        go_ret
        exact ⟨rfl, pw_below_drewN (Below.refl _ _) _⟩
      case pos =>
        have hm3 : ((hs.length : Int) != (hs2.length : Int)) = false := by simp; omega
        have hm4 : ((hs.length : Int) == (hs2.length : Int)) = true := by simp; omega
        have HLE := Lib.hid hlen
        clear hlen
        go_quiet ((go_at_call 35; exact find_quiet (cS _ (pw_below_drewN (Below.refl _ w) _))))
        have HB := Lib.hid (pw_below_drewN (Below.refl w.heap.size w) nq)
        obtain ⟨W0, hW0⟩ : ∃ W0, W0 = w.drewN nq := ⟨_, rfl⟩
        rw [← hW0] at HB ⊢
        clear hW0 cS a0 a1 b0 b1 hm1 hm2 hm3 hm4
        have A2_ := Lib.hid a2
        have B2_ := Lib.hid b2
        have hrp := blk_lt HH.out.blk
        have hrq := blk_lt HG.out.blk
        replace a2 : W0.cell? ⟨rp, 2, none⟩ = some (.slice B hs.length d) := by rw [HB.out.cell (p := ⟨rp, 2, none⟩) hrp]; exact A2_.out
        replace b2 : W0.cell? ⟨rq, 2, none⟩ = some (.slice B2 hs2.length d2) := by rw [HB.out.cell (p := ⟨rq, 2, none⟩) hrq]; exact B2_.out
        go_wp2_with fail
        go_loopw [5] (fun v5 wr => ∃ k : Nat, v5 = .int .i64 k ∧ k ≤ hs.length ∧ Hid (∀ j (h1 : j < hs.length) (h2 : j < hs2.length), j < k → hs[j].h = hs2[j].h ∧ hs[j].l = hs2[j].l) ∧ Hid (Below w.heap.size w wr))
          (fun v5 _ => hs.length - (intOf v5).toNat)
        case atStart => exact ⟨0, rfl, Nat.zero_le _, Lib.hid (fun j _ _ e => absurd e (Nat.not_lt_zero _)), HB⟩
        case round =>
          clear HB a2 b2
          obtain ⟨k, rfl, hk, HE, HB⟩ := hrel
          have a2 : wr.cell? ⟨rp, 2, none⟩ = some (.slice B hs.length d) := by rw [HB.out.cell (p := ⟨rp, 2, none⟩) hrp]; exact A2_.out
          have b2 : wr.cell? ⟨rq, 2, none⟩ = some (.slice B2 hs2.length d2) := by rw [HB.out.cell (p := ⟨rq, 2, none⟩) hrq]; exact B2_.out
          by_cases hlt : k < hs.length
          case neg =>
            obtain rfl : k = hs.length := by omega
            obtain rfl : r = true := HR.out.2 (HN.out.2 ⟨HMN.out.1, HMN.out.2, heldEq HLE.out (fun j h1 h2 => HE.out j h1 h2 h1)⟩)
            go_wp2_with fail
            go_ret
            exact ⟨rfl, HB.out⟩
          case pos =>
            have hlt2 : k < hs2.length := by have := HLE.out; omega
            obtain ⟨ad, rfl, y0, y1⟩ := at_hd (Kd.C_below (HH.out.row w (Kept.refl _ _)) HB.out) k hlt
            obtain ⟨ae, rfl, z0, z1⟩ := at_hd (Kd.C_below (HG.out.row w (Kept.refl _ _)) HB.out) k hlt2
            by_cases hq : hs[k].h = hs2[k].h
            case neg =>
              obtain rfl : r = false := by exact Bool.eq_false_iff.2 (fun e0 => (fun e : s = s2 => heldNe k hlt hlt2 (fun e => hq e.1) (HN.out.1 e).2.2) (HR.out.1 e0))
              have q1 : (hs[k].h != hs2[k].h) = true := by simpa using hq
              have q2 : (hs[k].h == hs2[k].h) = false := by simpa using hq
              obtain ⟨u, hu⟩ : ∃ u, u = hs[k].h := ⟨_, rfl⟩
              obtain ⟨v, hv⟩ : ∃ v, v = hs2[k].h := ⟨_, rfl⟩
              rw [← hu] at y0 q1 q2
              rw [← hv] at z0 q1 q2
              clear hq hu hv y1 z1
              go_upto_region 8 with fail
              go_quiet (fail)
              go_wp2_with fail
              go_ret
              exact ⟨rfl, pw_below_drewN HB.out _⟩
            case pos =>
              obtain ⟨b, hb⟩ : ∃ b, b = decide (hs[k].l = hs2[k].l) := ⟨_, rfl⟩
              have e1 := HH.out.each hs[k] (List.getElem_mem hlt)
              have e2 := HG.out.each hs2[k] (List.getElem_mem hlt2)
              have cS : ∀ W, Below wr.heap.size wr W → _ := fun W hB => samR_c hs[k].l hs2[k].l hs[k].A hs2[k].A hs[k].c hs2[k].c W (e1.2.2 W (Kept.of_below (HB.out.trans (hB.mono HB.out.size)) _)) e1.1 (e2.2.2 W (Kept.of_below (HB.out.trans (hB.mono HB.out.size)) _)) e2.1 (by have := e1.2.1; omega) b hb
              have HQ := Lib.hid hq
              have HBB := Lib.hid hb
              have q1 : (hs[k].h != hs2[k].h) = false := by simpa using hq
              have q2 : (hs[k].h == hs2[k].h) = true := by simpa using hq
              obtain ⟨u, hu⟩ : ∃ u, u = hs[k].h := ⟨_, rfl⟩
              obtain ⟨v, hv⟩ : ∃ v, v = hs2[k].h := ⟨_, rfl⟩
              rw [← hu] at y0 q1 q2
              rw [← hv] at z0 q1 q2
              have CS := Lib.hid cS
              clear hq hu hv hb e1 e2 cS
              cases b with
              | false =>
                obtain rfl : r = false := by exact Bool.eq_false_iff.2 (fun e0 => (fun e : s = s2 => heldNe k hlt hlt2 (fun e => (of_decide_eq_false HBB.out.symm) e.2) (HN.out.1 e).2.2) (HR.out.1 e0))
                go_upto_region 8 with fail
                go_quiet ((go_at_call 35; exact find_quiet (CS.out _ (pw_below_drewN (Below.refl _ wr) _))))
                go_wp2_with fail
                go_ret
                exact ⟨rfl, pw_below_drewN HB.out _⟩
              | true =>
                go_upto_region 8 with fail
                go_quiet ((go_at_call 35; exact find_quiet (CS.out _ (pw_below_drewN (Below.refl _ wr) _))))
                go_wp2_with fail
                go_roundw
                case rel => exact ⟨k + 1, by go_num, by omega, Lib.hid (fun j h1 h2 hj => by
                  by_cases e : j = k
                  · subst e; exact ⟨HQ.out, of_decide_eq_true HBB.out.symm⟩
                  · exact HE.out j h1 h2 (by omega)), Lib.hid (pw_below_drewN HB.out _)⟩
                case measure => simp [intOf]; omega
end Go.Proofs.Ytngocadnbpdnoaa.Mo

-- from Bo9
namespace Go.Proofs.Ytngocadnbpdnoaa.Mo
open Go Go.Maps Go.RowKit Go.Proofs.Ytngocadnbpdnoaa.Srt Go.Proofs.Ytngocadnbpdnoaa.Q Go.Proofs.YtngocadnbpdnoaaW.PrintWords Go.Proofs.YtngocadnbpdnoaaW.PrintLast Go.Proofs.YtngocadnbpdnoaaW.PrintMore Go.Proofs.Ytngocadnbpdnoaa.Open
set_option linter.unusedVariables false
set_option linter.unusedSimpArgs false
section
variable {w wr : World} {f : Nat → Option PL} {N : Nat} {R : Nat → Prop} {ms : List Mod} {ds : List (Nat × MS)}
theorem forkMJ (h : J w wr f N R ms ds) (gp bn bh : Nat) (s : MS) (hm : ⟨gp, bn, bh, s⟩ ∈ ms) (hN : N ≤ 1099511627776) :
    Calls Try.prog 30 #[.pointer (some ⟨gp, 0, none⟩)] wr fun e w1 => ∃ f' gq bm bi, e = .returned (.pointer (some ⟨gq, 0, none⟩)) ∧ J w w1 f' N R (⟨gq, bm, bi, s⟩ :: ms) ds ∧ Below wr.heap.size wr w1 := by
  refine (fork_c f N gp bn bh s.multi s.now s.held wr (h.al.pm _ hm).1 h.al.fro hN).mono ?_
  rintro e w1 ⟨gq, bm, bi, he, f', hE, hP, hF, hB, h1, h2, h3⟩
  exact ⟨f', gq, bm, bi, he, h.addM hE hP hF hB h1 h2 h3, hB⟩
theorem forkRJ (h : J w wr f N R ms ds) (rp : Nat) (s : MS) (hd : (rp, s) ∈ ds) (hN : N ≤ 1099511627776) :
    Calls Try.prog 32 #[.pointer (some ⟨rp, 0, none⟩)] wr fun e w1 => ∃ rq R', e = .returned (.pointer (some ⟨rq, 0, none⟩)) ∧ J w w1 f N R' ms ((rq, s) :: ds) ∧ Below wr.heap.size wr w1 := by
  obtain ⟨A, c, B, d, hs, hM⟩ := (h.doc (rp, s) hd).1
  have hM2 := hM.less (S' := fun k => ¬ R k ∧ k < wr.heap.size) (fun k e => e.1) ⟨hM.rp, blk_lt hM.blk⟩
  refine (forkR_c hM2 hN (fun k e => e.2)).mono ?_
  rintro e w1 ⟨rq, A', c', B', d', rfl, hrq, hM3, hB⟩
  obtain ⟨R', hJ, _⟩ := h.addR ⟨_, _, _, _, _, hM3⟩ hB hrq
  exact ⟨rq, R', rfl, hJ, hB⟩
def sB (s t : MS) : Bool := samB s.multi t.multi s.now t.now s.held t.held
theorem sB_iff (s t : MS) : sB s t = true ↔ s = t := by
  unfold sB samB
  cases s; cases t
  simp [and_assoc]
theorem sB_comm (s t : MS) : sB s t = sB t s := by
  rw [Bool.eq_iff_iff, sB_iff, sB_iff]; exact eq_comm
theorem sameMJ (h : J w wr f N R ms ds) (gp bn bh gp2 bn2 bh2 : Nat) (s s2 : MS) (h1 : ⟨gp, bn, bh, s⟩ ∈ ms) (h2 : ⟨gp2, bn2, bh2, s2⟩ ∈ ms) :
    Calls Try.prog 31 #[.pointer (some ⟨gp, 0, none⟩), .pointer (some ⟨gp2, 0, none⟩)] wr fun e w1 => e = .returned (.bool (sB s s2)) ∧ Below wr.heap.size wr w1 :=
  same_c f N gp bn bh gp2 bn2 bh2 s.multi s2.multi s.now s2.now s.held s2.held wr (h.al.pm _ h1).1 (h.al.pm _ h2).1 h.al.fro
theorem sameRJ (h : J w wr f N R ms ds) (rp rq : Nat) (s s2 : MS) (h1 : (rp, s) ∈ ds) (h2 : (rq, s2) ∈ ds) (hN : N ≤ 1099511627776) :
    Calls Try.prog 33 #[.pointer (some ⟨rp, 0, none⟩), .pointer (some ⟨rq, 0, none⟩)] wr fun e w1 => e = .returned (.bool (sB s s2)) ∧ Below wr.heap.size wr w1 := by
  obtain ⟨A, c, B, d, hs, hM⟩ := (h.doc _ h1).1
  obtain ⟨A2, c2, B2, d2, hs2, hM2⟩ := (h.doc _ h2).1
  exact sameR_c hM hM2 hN _ (sB_iff s s2)
end
/-- Calls in a row of rows. -/
def kRows : Kd (List CallS) := Kd.slice 41 kCall
theorem at_rows {w : World} {A : Option Addr} {n : Nat} {xs : List (List CallS)} (h : Kd.C kRows w A n xs) (i : Nat) (hi : i < n) (y : List CallS) (hy : xs[i]? = some y) : ∃ ad A1 c1, A = some ad ∧ w.cell? (ad.add i) = some (.slice A1 y.length c1) ∧ y.length ≤ c1 ∧ Kd.C kCall w A1 y.length y := by
  obtain ⟨ad, c, e, _, hK, hc0⟩ := Kd.C_get h y (i : Int) (by omega) (by omega)
  have hx : xs.getD (i : Int).toNat y = y := by rw [Int.toNat_natCast]; simp [List.getD_eq_getElem?_getD, hy]
  rw [hx] at hK
  obtain ⟨A1, c1, rfl, h1, h2⟩ := hK
  have := hc0 0 _ rfl
  rw [Int.toNat_natCast, show kRows.sz = 1 from rfl, Nat.mul_one] at this
  exact ⟨ad, A1, c1, e, this, h1, h2⟩
theorem runs_next (s : MS) (l : List CallS) (i : Nat) : runs s (l.take (i + 1)) = if h : i < l.length then runC (runs s (l.take i)) l[i] else runs s (l.take i) := by
  by_cases h : i < l.length
  · rw [dif_pos h, runs_succ s l i h]
  · rw [dif_neg h, List.take_of_length_le (by omega), List.take_of_length_le (by omega)]
end Go.Proofs.Ytngocadnbpdnoaa.Mo

-- from BoA
namespace Go.Proofs.Ytngocadnbpdnoaa.Mo
open Go Go.Maps Go.RowKit Go.Proofs.Ytngocadnbpdnoaa.Srt Go.Proofs.Ytngocadnbpdnoaa.Q Go.Proofs.YtngocadnbpdnoaaW.PrintWords Go.Proofs.YtngocadnbpdnoaaW.PrintLast Go.Proofs.YtngocadnbpdnoaaW.PrintMore Go.Proofs.Ytngocadnbpdnoaa.Open
set_option linter.unusedVariables false
set_option linter.unusedSimpArgs false
theorem bothS {w wr : World} {f : Nat → Option PL} {N : Nat} {R : Nat → Prop} {m1 m2 : Mod} {d1 d2 : Nat × MS} (h : J w wr f N R [m1, m2] [d1, d2]) : J w wr f N R [m2, m1] [d2, d1] := h.perm (List.Perm.swap _ _ _) (List.Perm.swap _ _ _)
set_option maxRecDepth 100000 in
set_option maxHeartbeats 32000000 in
theorem fork_law (multi : Int) (w : World) (A : Option Addr) (c : Nat) (l : List CallS) (hC0 : Kd.C kCall w A l.length l) (hc : l.length ≤ c) (hwf : ∀ x ∈ l, wfC x) (hn : l.length ≤ 1048576) (hkl : ∀ x ∈ l, x.op.f6.length ≤ 1048576 ∧ x.an.f5.length ≤ 1048576) (A2 : Option Addr) (c2 : Nat) (two : List (List CallS)) (hC2 : Kd.C kRows w A2 two.length two) (hc2 : two.length ≤ c2) (hn2 : two.length ≤ 1048576) (hwf2 : ∀ y ∈ two, y.length ≤ 1048576 ∧ ∀ x ∈ y, wfC x ∧ x.op.f6.length ≤ 1048576 ∧ x.an.f5.length ≤ 1048576) :
    Calls Try.prog 9 #[.int .i64 multi, .slice A l.length c, .slice A2 two.length c2] w fun e w' => e = .returned (.bool true) ∧ Below w.heap.size w w' := by
  have cL := live_c w
  have HC0 := Lib.hid hC0
  have HWF := Lib.hid hwf
  have HKL := Lib.hid hkl
  have HC2 := Lib.hid hC2
  have HWF2 := Lib.hid hwf2
  clear hC0 hwf hkl hC2 hwf2
  go_enter Try.func9, Try.ntmps9
  go_upto_region 3 with (go_at_call 11; refine cL.mono ?_; rintro e w0 ⟨rfl, hB0⟩; have HB0 := Lib.hid hB0; clear hB0)
  clear cL
  by_cases hm : multi < 1 ∨ 1024 < multi
  · have hb := begun_bad multi w0 hm
    clear hm
    go_wp2_with (go_at_call 19; refine hb.mono ?_; rintro e w1 ⟨rfl, hB1⟩)
    go_ret
    exact ⟨rfl, HB0.out.trans (hB1.mono HB0.out.size)⟩
  have hb := begun_ok (KO.of_below HB0.out (fun _ => False)) multi (by omega) (by omega)
  clear hm
  go_upto_region 4 with (go_at_call 19; refine hb.mono ?_; rintro e w1 ⟨pb, gp, bn, bh, rp, R, rfl, hJ1, hX1, hB1, hpb⟩; have HJ1 := Lib.hid hJ1; have HX1 := Lib.hid hX1; clear hJ1 hX1 hB1 hpb)
  clear hb HB0
  go_wp2_with fail
  go_loopw [9] (fun v9 wr => ∃ (i : Nat) (f : Nat → Option PL) (R : Nat → Prop), v9 = .int .i64 i ∧ i ≤ l.length ∧ Hid (J w wr f (3 * i) R [⟨gp, bn, bh, runs ⟨multi, [], []⟩ (l.take i)⟩] [(rp, runs ⟨multi, [], []⟩ (l.take i))]) ∧ Hid (wr.heap[pb]? = some (.cells (bothC gp rp) 77 (0, 0)))) (fun v9 _ => l.length - (intOf v9).toNat)
  case atStart => exact ⟨0, _, R, rfl, Nat.zero_le _, HJ1, HX1⟩
  case round =>
    clear HJ1 HX1
    obtain ⟨i, f, R, rfl, hi, HJ, HX⟩ := hrel
    by_cases hlt : i < l.length
    · obtain ⟨ad, A1, c1, B1, d1, rfl, hcell0, g1, hd1, g2, hc1⟩ := at_call2 HC0.out i hlt hlt
      obtain ⟨s, hs⟩ : ∃ s, s = runs ⟨multi, [], []⟩ (l.take i) := ⟨_, rfl⟩
      rw [← hs] at HJ
      have hrun := runs_succ ⟨multi, [], []⟩ l i hlt
      rw [← hs] at hrun
      obtain ⟨x, hx⟩ : ∃ x, x = l[i] := ⟨_, rfl⟩
      rw [← hx] at hcell0 g1 hd1 g2 hc1 hrun
      have HRUN := Lib.hid hrun
      have HWX : Hid (wfC x) := Lib.hid (by rw [hx]; exact HWF.out _ (List.getElem_mem hlt))
      have HKN : Hid (x.op.f6.length ≤ 1048576 ∧ x.an.f5.length ≤ 1048576) := Lib.hid (HKL.out x (by rw [hx]; exact List.getElem_mem hlt))
      have HG1 := Lib.hid g1
      have HG2 := Lib.hid g2
      have HCELL0 := Lib.hid hcell0
      have HKE := Lib.hid HJ.out.al.ko.kept
      have HD1 := Lib.hid hd1
      have HCC1 := Lib.hid hc1
      clear hs hrun hx hcell0 g1 g2 hd1 hc1
      go_wp2_with (first | ((with_reducible refine gate_ (.load 41 (.tmp 37)) rfl ?_); refine wpList_load_any rfl 41 (.tmp 37) rfl (ad.add (i * 20)) rfl [.bool x.tk, .int .u8 x.op.f0, .int .u64 x.op.f1, .int .u64 x.op.f2, .int .u64 x.op.f3, .int .u64 x.op.f4, .bool x.op.f5.f0, .int .i64 x.op.f5.f1, .int .i64 x.op.f5.f2, .slice A1 x.op.f6.length c1, .int .u64 x.op.f7, .int .u64 x.op.f8, .int .i64 x.an.f0, .bool x.an.f1, .int .u64 x.an.f2, .bool x.an.f3, .int .u64 x.an.f4, .slice B1 x.an.f5.length d1, .int .u64 x.an.f6, .int .u64 x.hd] _ (fun j u hj => by rw [add_add]; exact cell_kept (HCELL0.out j u hj) HKE.out (fun e => e)) Try.underlying41 rfl (by kernel_rfl) ?_))
      go_at_call 20
      refine (call_c HJ.out pb HX.out x A1 c1 B1 d1 (by omega) (HJ.out.came (Kd.heap_int _) HG1.out) HCC1.out (by have := HKN.out; omega) (HJ.out.came heapP HG2.out) HD1.out (by have := HKN.out; omega) HWX.out).mono ?_
      rintro e w3 ⟨f3, R3, rfl, hJ3, hK3, -⟩
      have HX3 := Lib.hid (HJ.out.boxK HX.out hK3)
      have HJ3 := Lib.hid hJ3
      clear hJ3 hK3
      go_wp2_with fail
      go_roundw
      case rel => exact ⟨i + 1, f3, R3, by go_num, by omega, Lib.hid (by rw [HRUN.out, show 3 * (i + 1) = 3 * i + 3 by omega]; exact HJ3.out), HX3⟩
      case measure => simp [intOf]; omega
    · obtain rfl : i = l.length := by omega
      obtain ⟨s, hs⟩ : ∃ s, s = runs ⟨multi, [], []⟩ (l.take l.length) := ⟨_, rfl⟩
      rw [← hs] at HJ
      obtain ⟨M, hM⟩ : ∃ M, M = 3 * l.length := ⟨_, rfl⟩
      have hM2 : M ≤ 3145728 := by omega
      rw [← hM] at HJ
      clear hs hM
      go_upto_region 11 with fail
      have HD1 := Lib.hid (below_drew (Below.refl wr.heap.size wr))
      have HJ4 := Lib.hid (HJ.out.below HD1.out)
      have HX4 := Lib.hid (blk_below HX.out HD1.out)
      have hS4 := cells_box HX4.out
      go_region_held3 (fun w' => w'.cell? ⟨pb, 0, none⟩ = some (.pointer (some ⟨gp, 0, none⟩)) ∧ w'.cell? ⟨pb, 1, none⟩ = some (.pointer (some ⟨rp, 0, none⟩)))
        (first | go_keep | exact hS4 | exact hS5 | exact hS6 | exact hS7)
        (first
          | (go_at_call 30; refine (forkMJ HJ4.out gp bn bh s (by simp) (by omega)).mono ?_
             rintro e w5 ⟨f5, gq, bm, bi, rfl, hJ5, hB5⟩
             have HX5 := Lib.hid (blk_below HX4.out hB5)
             have HJ5 := Lib.hid hJ5
             have hS5 := cells_box HX5.out
             clear hJ5 hB5)
          | (go_at_call 32; refine (forkRJ HJ5.out rp s (by simp) (by omega)).mono ?_
             rintro e w6 ⟨rq, R6, rfl, hJ6, hB6⟩
             have HX6 := Lib.hid (blk_below HX5.out hB6)
             have HJ6 := Lib.hid hJ6
             have hS6 := cells_box HX6.out
             have hba := below_alloc (Below.refl _ w6) (.cells #[.pointer (some ⟨gq, 0, none⟩), .pointer (some ⟨rq, 0, none⟩)] 77)
             have HJ7 := Lib.hid (hJ6.below hba)
             have HX7 := Lib.hid (blk_below HX6.out hba)
             have HY7 : Hid ((w6.alloc (.cells #[.pointer (some ⟨gq, 0, none⟩), .pointer (some ⟨rq, 0, none⟩)] 77)).heap[w6.heap.size]? = some (.cells (bothC gq rq) 77 (0, 0))) := Lib.hid (heap_alloc_new w6 _)
             have hS7 := cells_box HX7.out
             obtain ⟨W7, hW7⟩ : ∃ W7, W7 = w6.alloc (.cells #[.pointer (some ⟨gq, 0, none⟩), .pointer (some ⟨rq, 0, none⟩)] 77) := ⟨_, rfl⟩
             obtain ⟨qb, hqb⟩ : ∃ qb, qb = w6.heap.size := ⟨_, rfl⟩
             have HW7 := Lib.hid hW7
             have HQB := Lib.hid hqb
             clear hJ6 hB6 hba hW7 hqb))
      all_goals
        rw [← HW7.out] at HJ7 HX7 HY7
        rw [← HQB.out] at HY7
        rw [← HW7.out, ← HQB.out]
        clear HW7 HQB hS4 hS5 hS6 hS7
        go_upto_region 12 with fail
        have HD7 := Lib.hid (below_drew (Below.refl W7.heap.size W7))
        have HF7 : Hid (∀ W, Below W7.heap.size W7 W → W.cell? ⟨pb, 0, none⟩ = some (.pointer (some ⟨gp, 0, none⟩)) ∧ W.cell? ⟨pb, 1, none⟩ = some (.pointer (some ⟨rp, 0, none⟩)) ∧ W.cell? ⟨qb, 0, none⟩ = some (.pointer (some ⟨gq, 0, none⟩)) ∧ W.cell? ⟨qb, 1, none⟩ = some (.pointer (some ⟨rq, 0, none⟩))) := Lib.hid (fun W h => by
          have a := cells_box (blk_below HX7.out h)
          have b := cells_box (blk_below HY7.out h)
          exact ⟨a.1, a.2, b.1, b.2⟩)
        have HSS : Hid (sB s s = true) := Lib.hid ((sB_iff s s).2 rfl)
        have hS8 := HF7.out _ HD7.out
        go_region_held3 (fun w' => w'.cell? ⟨pb, 0, none⟩ = some (.pointer (some ⟨gp, 0, none⟩)) ∧ w'.cell? ⟨pb, 1, none⟩ = some (.pointer (some ⟨rp, 0, none⟩)) ∧ w'.cell? ⟨qb, 0, none⟩ = some (.pointer (some ⟨gq, 0, none⟩)) ∧ w'.cell? ⟨qb, 1, none⟩ = some (.pointer (some ⟨rq, 0, none⟩)))
          (first | go_keep | exact hS8 | exact hS9 | exact hSa)
          (first
            | (go_at_call 31; refine (sameMJ (HJ7.out.below HD7.out) gp bn bh gq bm bi s s (by simp) (by simp)).mono ?_
               rw [HSS.out]
               rintro e w8 ⟨rfl, hB8⟩
               have HB8 := Lib.hid (HD7.out.trans (hB8.mono HD7.out.size))
               have hS9 := HF7.out _ HB8.out
               clear hB8)
            | (go_at_call 21; refine (alike_c (HJ7.out.below HB8.out) qb (blk_below HY7.out HB8.out) (by omega)).mono ?_
               rintro e w9 ⟨rfl, hB9⟩
               have HB9 := Lib.hid (HB8.out.trans (hB9.mono HB8.out.size))
               have hSa := HF7.out _ HB9.out
               clear hB9))
      all_goals
        have HJ9 := Lib.hid (HJ7.out.below HB9.out)
        have HX9 := Lib.hid (blk_below HX7.out HB9.out)
        have HY9 := Lib.hid (blk_below HY7.out HB9.out)
        clear hS8 hS9 hSa HF7 HJ7 HX7 HY7
        obtain ⟨TA, hTA⟩ : ∃ TA, TA = two.getD 0 [] := ⟨_, rfl⟩
        obtain ⟨TB, hTB⟩ : ∃ TB, TB = two.getD 1 [] := ⟨_, rfl⟩
        have HTA := Lib.hid hTA
        have HTB := Lib.hid hTB
        clear hTA hTB
        go_wp2_with fail
        go_loopw [11, 12] (fun v11 v12 wr => ∃ i m : Nat, v12 = .int .i64 i ∧ v11 = .int .i64 m ∧ i ≤ two.length ∧ m ≤ 1048576 ∧ Hid (wr = w9)) (fun _ v12 _ => two.length - (intOf v12).toNat)
        case atStart => exact ⟨0, 0, rfl, rfl, Nat.zero_le _, Nat.zero_le _, Lib.hid rfl⟩
        case round =>
          obtain ⟨i, m, rfl, rfl, hi2, hm2, HW⟩ := hrel
          obtain rfl : wr = w9 := HW.out
          by_cases hlt2 : i < two.length
          · obtain ⟨y, hy⟩ : ∃ y, two[i]? = some y := ⟨_, List.getElem?_eq_getElem hlt2⟩
            obtain ⟨ad, A1, c1, rfl, y0, hy1, hy2⟩ := at_rows HC2.out i hlt2 y hy
            have hyl := (HWF2.out y (List.mem_iff_getElem?.2 ⟨i, hy⟩)).1
            have y1 := cell_kept y0 HJ9.out.al.ko.kept (fun e => e)
            clear hy y0 hy1 hy2
            by_cases hgt : m < y.length
            · have hd : decide ((m : Int) < (y.length : Int)) = true := decide_eq_true (by omega)
              go_wp2_with fail
              go_roundw
              case rel => exact ⟨i + 1, y.length, by go_num, rfl, by omega, hyl, Lib.hid trivial⟩
              case measure => simp [intOf]; omega
            · have hd : decide ((m : Int) < (y.length : Int)) = false := decide_eq_false (by omega)
              go_wp2_with fail
              go_roundw
              case rel => exact ⟨i + 1, m, by go_num, rfl, by omega, hm2, Lib.hid trivial⟩
              case measure => simp [intOf]; omega
          · obtain rfl : i = two.length := by omega
            clear HW
            have HN0 : Hid (∃ R, J w wr f5 (M + 6 * 0) R [⟨gq, bm, bi, runs s (TB.take 0)⟩, ⟨gp, bn, bh, runs s (TA.take 0)⟩] [(rq, runs s (TB.take 0)), (rp, runs s (TA.take 0))]) := Lib.hid ⟨_, HJ9.out⟩
            go_wp2_with fail
            go_loopw [13] (fun v13 wx => ∃ (i : Nat) (f : Nat → Option PL) (R : Nat → Prop), v13 = .int .i64 i ∧ i ≤ m ∧ Hid (J w wx f (M + 6 * i) R [⟨gq, bm, bi, runs s (TB.take i)⟩, ⟨gp, bn, bh, runs s (TA.take i)⟩] [(rq, runs s (TB.take i)), (rp, runs s (TA.take i))]) ∧ Hid (wx.heap[pb]? = some (.cells (bothC gp rp) 77 (0, 0)) ∧ wx.heap[qb]? = some (.cells (bothC gq rq) 77 (0, 0)))) (fun v13 _ => m - (intOf v13).toNat)
            case atStart => exact ⟨0, f5, HN0.out.choose, rfl, Nat.zero_le _, Lib.hid HN0.out.choose_spec, Lib.hid ⟨HX9.out, HY9.out⟩⟩
            case round =>
              obtain ⟨i, f, R, rfl, hi3, HJ, HXY⟩ := hrel
              obtain ⟨s_a, hs_a⟩ : ∃ x, x = runs s (TA.take i) := ⟨_, rfl⟩
              obtain ⟨s_b, hs_b⟩ : ∃ x, x = runs s (TB.take i) := ⟨_, rfl⟩
              rw [← hs_a, ← hs_b] at HJ
              by_cases hlt3 : i < m
              · by_cases h2 : 1 < two.length
                · have e_0 : two[0]? = some TA := by rw [HTA.out]; simp [List.getD_eq_getElem?_getD, show 0 < two.length by omega]
                  have e_1 : two[1]? = some TB := by rw [HTB.out]; simp [List.getD_eq_getElem?_getD, h2]
                  have HMEM_a := Lib.hid (List.mem_iff_getElem?.2 ⟨0, e_0⟩)
                  have HMEM_b := Lib.hid (List.mem_iff_getElem?.2 ⟨1, e_1⟩)
                  obtain ⟨adr, AR_a, cR_a, rfl, ya, hya1, hya2⟩ := at_rows HC2.out 0 (by omega) TA e_0
                  obtain ⟨adr2, AR_b, cR_b, hadr, yb, hyb1, hyb2⟩ := at_rows HC2.out 1 (by omega) TB e_1
                  cases hadr
                  have HRC_a := Lib.hid hya2
                  have HRC_b := Lib.hid hyb2
                  have ya1 : wr.cell? (adr.add 0) = some (.slice AR_a TA.length cR_a) := cell_kept ya HJ.out.al.ko.kept (fun e => e)
                  have ya2 : wr.cell? adr = some (.slice AR_a TA.length cR_a) := by have := ya1; rwa [show adr.add 0 = adr from by simp [Addr.add]] at this
                  have yb0 : wr.cell? ⟨adr.block, adr.off + 1, none⟩ = some (.slice AR_b TB.length cR_b) := cell_kept yb HJ.out.al.ko.kept (fun e => e)
                  have HYB := Lib.hid yb
                  have hg1 : decide (0 < (two.length : Int)) = true := decide_eq_true (by omega)
                  have hg2 : decide (1 < (two.length : Int)) = true := decide_eq_true (by omega)
                  clear ya yb hya1 hya2 hyb1 hyb2 e_0 e_1
                  by_cases hlt_a : i < TA.length
                  · by_cases hlt_b : i < TB.length
                    · obtain ⟨ad_a, A1_a, c1_a, B1_a, d1_a, e_a, hcell_a, g1_a, hd1_a, g2_a, hc1_a⟩ := at_call2 HRC_a.out i hlt_a hlt_a
                      cases e_a
                      obtain ⟨x_a, hx_a⟩ : ∃ x, x = TA[i] := ⟨_, rfl⟩
                      have hr_a := runs_next s TA i
                      rw [dif_pos hlt_a, ← hx_a, ← hs_a] at hr_a
                      rw [← hx_a] at hcell_a g1_a hd1_a g2_a hc1_a
                      have HR_a := Lib.hid hr_a
                      have HWX_a : Hid (wfC x_a ∧ x_a.op.f6.length ≤ 1048576 ∧ x_a.an.f5.length ≤ 1048576) := Lib.hid (by rw [hx_a]; exact (HWF2.out TA HMEM_a.out).2 _ (List.getElem_mem hlt_a))
                      have HG1_a := Lib.hid g1_a
                      have HG2_a := Lib.hid g2_a
                      have HCELL_a := Lib.hid hcell_a
                      have HD1_a := Lib.hid hd1_a
                      have HCC1_a := Lib.hid hc1_a
                      have hdl_a : decide ((i : Int) < (TA.length : Int)) = true := decide_eq_true (by omega)
                      clear hx_a hr_a hcell_a g1_a g2_a hd1_a hc1_a
                      obtain ⟨ad_b, A1_b, c1_b, B1_b, d1_b, e_b, hcell_b, g1_b, hd1_b, g2_b, hc1_b⟩ := at_call2 HRC_b.out i hlt_b hlt_b
                      cases e_b
                      obtain ⟨x_b, hx_b⟩ : ∃ x, x = TB[i] := ⟨_, rfl⟩
                      have hr_b := runs_next s TB i
                      rw [dif_pos hlt_b, ← hx_b, ← hs_b] at hr_b
                      rw [← hx_b] at hcell_b g1_b hd1_b g2_b hc1_b
                      have HR_b := Lib.hid hr_b
                      have HWX_b : Hid (wfC x_b ∧ x_b.op.f6.length ≤ 1048576 ∧ x_b.an.f5.length ≤ 1048576) := Lib.hid (by rw [hx_b]; exact (HWF2.out TB HMEM_b.out).2 _ (List.getElem_mem hlt_b))
                      have HG1_b := Lib.hid g1_b
                      have HG2_b := Lib.hid g2_b
                      have HCELL_b := Lib.hid hcell_b
                      have HD1_b := Lib.hid hd1_b
                      have HCC1_b := Lib.hid hc1_b
                      have hdl_b : decide ((i : Int) < (TB.length : Int)) = true := decide_eq_true (by omega)
                      clear hx_b hr_b hcell_b g1_b g2_b hd1_b hc1_b
                      go_upto_region 25 with (first
                          | ((with_reducible refine gate_ (.load 41 (.tmp 115)) rfl ?_); refine gate_guard (by rfl) ?_; refine wpList_load_any rfl 41 (.tmp 115) rfl (ad_a.add (i * 20)) rfl [.bool x_a.tk, .int .u8 x_a.op.f0, .int .u64 x_a.op.f1, .int .u64 x_a.op.f2, .int .u64 x_a.op.f3, .int .u64 x_a.op.f4, .bool x_a.op.f5.f0, .int .i64 x_a.op.f5.f1, .int .i64 x_a.op.f5.f2, .slice A1_a x_a.op.f6.length c1_a, .int .u64 x_a.op.f7, .int .u64 x_a.op.f8, .int .i64 x_a.an.f0, .bool x_a.an.f1, .int .u64 x_a.an.f2, .bool x_a.an.f3, .int .u64 x_a.an.f4, .slice B1_a x_a.an.f5.length d1_a, .int .u64 x_a.an.f6, .int .u64 x_a.hd] _ (fun j u hj => by rw [add_add]; exact cell_kept (HCELL_a.out j u hj) HJ.out.al.ko.kept (fun e => e)) Try.underlying41 rfl (by kernel_rfl) ?_)
                          | (go_at_call 20
                             have hc := call_c (bothS HJ.out) pb (HXY.out.1) x_a A1_a c1_a B1_a d1_a (by omega) ((bothS HJ.out).came (Kd.heap_int _) HG1_a.out) HCC1_a.out (by have := HWX_a.out.2.1; omega) ((bothS HJ.out).came heapP HG2_a.out) HD1_a.out (by have := HWX_a.out.2.2; omega) HWX_a.out.1
                             (with_reducible refine hc.mono ?_)
                             clear hc
                             rintro e wa ⟨fa, Ra, rfl, hJc, hKc, -⟩
                             have HXa := Lib.hid ((bothS HJ.out).boxK HXY.out.1 hKc)
                             have HYa := Lib.hid ((bothS HJ.out).boxK HXY.out.2 hKc)
                             have HJa := Lib.hid (bothS hJc)
                             have yb1 : wa.cell? ⟨adr.block, adr.off + 1, none⟩ = some (.slice (some ad_b) TB.length cR_b) := cell_kept HYB.out HJa.out.al.ko.kept (fun e => e)
                             clear hJc hKc)
                          | ((with_reducible refine gate_ (.load 41 (.tmp 138)) rfl ?_); refine gate_guard (by rfl) ?_; refine wpList_load_any rfl 41 (.tmp 138) rfl (ad_b.add (i * 20)) rfl [.bool x_b.tk, .int .u8 x_b.op.f0, .int .u64 x_b.op.f1, .int .u64 x_b.op.f2, .int .u64 x_b.op.f3, .int .u64 x_b.op.f4, .bool x_b.op.f5.f0, .int .i64 x_b.op.f5.f1, .int .i64 x_b.op.f5.f2, .slice A1_b x_b.op.f6.length c1_b, .int .u64 x_b.op.f7, .int .u64 x_b.op.f8, .int .i64 x_b.an.f0, .bool x_b.an.f1, .int .u64 x_b.an.f2, .bool x_b.an.f3, .int .u64 x_b.an.f4, .slice B1_b x_b.an.f5.length d1_b, .int .u64 x_b.an.f6, .int .u64 x_b.hd] _ (fun j u hj => by rw [add_add]; exact cell_kept (HCELL_b.out j u hj) HJa.out.al.ko.kept (fun e => e)) Try.underlying41 rfl (by kernel_rfl) ?_)
                          | (go_at_call 20
                             have hc := call_c (HJa.out) qb (HYa.out) x_b A1_b c1_b B1_b d1_b (by omega) ((HJa.out).came (Kd.heap_int _) HG1_b.out) HCC1_b.out (by have := HWX_b.out.2.1; omega) ((HJa.out).came heapP HG2_b.out) HD1_b.out (by have := HWX_b.out.2.2; omega) HWX_b.out.1
                             (with_reducible refine hc.mono ?_)
                             clear hc
                             rintro e wb ⟨fb, Rb, rfl, hJc, hKc, -⟩
                             have HXb := Lib.hid ((HJa.out).boxK HXa.out hKc)
                             have HYb := Lib.hid ((HJa.out).boxK HYa.out hKc)
                             have HJb := Lib.hid hJc
                             clear hJc hKc))
                      obtain ⟨u_a, hu_a⟩ : ∃ u, u = (runC s_a x_a) := ⟨_, rfl⟩
                      obtain ⟨u_b, hu_b⟩ : ∃ u, u = (runC s_b x_b) := ⟨_, rfl⟩
                      have HU_a : Hid (runs s (TA.take (i + 1)) = u_a) := Lib.hid (HR_a.out.trans hu_a.symm)
                      have HU_b : Hid (runs s (TB.take (i + 1)) = u_b) := Lib.hid (HR_b.out.trans hu_b.symm)
                      have HJ5 := HJb.out
                      rw [← hu_a, ← hu_b] at HJ5
                      replace HJ5 := Lib.hid (HJ5.mono (show _ ≤ M + 6 * (i + 1) by omega))
                      have HX5 := Lib.hid (HXb.out)
                      have HY5 := Lib.hid (HYb.out)
                      clear hu_a hu_b
                      obtain ⟨W5, hW5⟩ : ∃ W5, W5 = wb := ⟨_, rfl⟩
                      rw [← hW5] at HJ5 HX5 HY5 ⊢
                      clear hW5
                      have HD5 := Lib.hid (below_drew (Below.refl W5.heap.size W5))
                      have HF5 : Hid (∀ W, Below W5.heap.size W5 W → W.cell? ⟨pb, 0, none⟩ = some (.pointer (some ⟨gp, 0, none⟩)) ∧ W.cell? ⟨pb, 1, none⟩ = some (.pointer (some ⟨rp, 0, none⟩)) ∧ W.cell? ⟨qb, 0, none⟩ = some (.pointer (some ⟨gq, 0, none⟩)) ∧ W.cell? ⟨qb, 1, none⟩ = some (.pointer (some ⟨rq, 0, none⟩))) := Lib.hid (fun W h => by
                        have a := cells_box (blk_below HX5.out h)
                        have b := cells_box (blk_below HY5.out h)
                        exact ⟨a.1, a.2, b.1, b.2⟩)
                      obtain ⟨t, ht⟩ : ∃ t, t = sB u_a u_b := ⟨_, rfl⟩
                      have HT1 := Lib.hid ht
                      have HT2 : Hid (t = sB u_b u_a) := Lib.hid (by rw [ht]; exact sB_comm _ _)
                      clear ht
                      have hT5 := HF5.out _ HD5.out
                      go_region_held3 (fun w' => w'.cell? ⟨pb, 0, none⟩ = some (.pointer (some ⟨gp, 0, none⟩)) ∧ w'.cell? ⟨pb, 1, none⟩ = some (.pointer (some ⟨rp, 0, none⟩)) ∧ w'.cell? ⟨qb, 0, none⟩ = some (.pointer (some ⟨gq, 0, none⟩)) ∧ w'.cell? ⟨qb, 1, none⟩ = some (.pointer (some ⟨rq, 0, none⟩)))
                        (first | go_keep | exact hT5 | exact hT6 | exact hT7 | exact hT8 | exact hT9)
                        (first
                          | (go_at_call 31; have hc := sameMJ (HJ5.out.below HD5.out) gp bn bh gq bm bi u_a u_b (by simp) (by simp); (with_reducible refine hc.mono ?_); clear hc; rw [← HT1.out]; rintro e v6 ⟨rfl, hB⟩; have HB6 := Lib.hid (HD5.out.trans (hB.mono HD5.out.size)); have hT6 := HF5.out _ HB6.out; clear hB)
                          | (go_at_call 33; have hc := sameRJ (HJ5.out.below HB6.out) rp rq u_a u_b (by simp) (by simp) (by omega); (with_reducible refine hc.mono ?_); clear hc; rw [← HT1.out]; rintro e v7 ⟨rfl, hB⟩; have HB7 := Lib.hid (HB6.out.trans (hB.mono HB6.out.size)); have hT7 := HF5.out _ HB7.out; clear hB)
                          | (go_at_call 31; have hc := sameMJ (HJ5.out.below HB7.out) gq bm bi gp bn bh u_b u_a (by simp) (by simp); (with_reducible refine hc.mono ?_); clear hc; rw [← HT2.out]; rintro e v8 ⟨rfl, hB⟩; have HB8' := Lib.hid (HB7.out.trans (hB.mono HB7.out.size)); have hT8 := HF5.out _ HB8'.out; have tt : (t != t) = false := (by cases t <;> rfl); clear hB)
                          | (go_at_call 33; have hc := sameRJ (HJ5.out.below HB8'.out) rp rq u_a u_b (by simp) (by simp) (by omega); (with_reducible refine hc.mono ?_); clear hc; rw [← HT1.out]; rintro e v9 ⟨rfl, hB⟩; have HB9' := Lib.hid (HB8'.out.trans (hB.mono HB8'.out.size)); have hT9 := HF5.out _ HB9'.out; clear hB))
                      all_goals
                        have HJ6 := Lib.hid (HJ5.out.below HB9'.out)
                        have HX6' := Lib.hid (blk_below HX5.out HB9'.out)
                        have HY6' := Lib.hid (blk_below HY5.out HB9'.out)
                        clear hT5 hT6 hT7 hT8 hT9 tt
                        go_wp2_with fail
                        go_roundw
                      all_goals first | exact ⟨i + 1, fb, _, by go_num, by omega, Lib.hid (by rw [HU_a.out, HU_b.out]; exact HJ6.out), Lib.hid ⟨HX6'.out, HY6'.out⟩⟩ | (simp [intOf]; omega)
                    · obtain ⟨ad_a, A1_a, c1_a, B1_a, d1_a, e_a, hcell_a, g1_a, hd1_a, g2_a, hc1_a⟩ := at_call2 HRC_a.out i hlt_a hlt_a
                      cases e_a
                      obtain ⟨x_a, hx_a⟩ : ∃ x, x = TA[i] := ⟨_, rfl⟩
                      have hr_a := runs_next s TA i
                      rw [dif_pos hlt_a, ← hx_a, ← hs_a] at hr_a
                      rw [← hx_a] at hcell_a g1_a hd1_a g2_a hc1_a
                      have HR_a := Lib.hid hr_a
                      have HWX_a : Hid (wfC x_a ∧ x_a.op.f6.length ≤ 1048576 ∧ x_a.an.f5.length ≤ 1048576) := Lib.hid (by rw [hx_a]; exact (HWF2.out TA HMEM_a.out).2 _ (List.getElem_mem hlt_a))
                      have HG1_a := Lib.hid g1_a
                      have HG2_a := Lib.hid g2_a
                      have HCELL_a := Lib.hid hcell_a
                      have HD1_a := Lib.hid hd1_a
                      have HCC1_a := Lib.hid hc1_a
                      have hdl_a : decide ((i : Int) < (TA.length : Int)) = true := decide_eq_true (by omega)
                      clear hx_a hr_a hcell_a g1_a g2_a hd1_a hc1_a
                      have HR_b : Hid (runs s (TB.take (i + 1)) = s_b) := Lib.hid (by rw [runs_next, dif_neg hlt_b, hs_b])
                      have hdl_b : decide ((i : Int) < (TB.length : Int)) = false := decide_eq_false (by omega)
                      go_upto_region 25 with (first
                          | ((with_reducible refine gate_ (.load 41 (.tmp 115)) rfl ?_); refine gate_guard (by rfl) ?_; refine wpList_load_any rfl 41 (.tmp 115) rfl (ad_a.add (i * 20)) rfl [.bool x_a.tk, .int .u8 x_a.op.f0, .int .u64 x_a.op.f1, .int .u64 x_a.op.f2, .int .u64 x_a.op.f3, .int .u64 x_a.op.f4, .bool x_a.op.f5.f0, .int .i64 x_a.op.f5.f1, .int .i64 x_a.op.f5.f2, .slice A1_a x_a.op.f6.length c1_a, .int .u64 x_a.op.f7, .int .u64 x_a.op.f8, .int .i64 x_a.an.f0, .bool x_a.an.f1, .int .u64 x_a.an.f2, .bool x_a.an.f3, .int .u64 x_a.an.f4, .slice B1_a x_a.an.f5.length d1_a, .int .u64 x_a.an.f6, .int .u64 x_a.hd] _ (fun j u hj => by rw [add_add]; exact cell_kept (HCELL_a.out j u hj) HJ.out.al.ko.kept (fun e => e)) Try.underlying41 rfl (by kernel_rfl) ?_)
                          | (go_at_call 20
                             have hc := call_c (bothS HJ.out) pb (HXY.out.1) x_a A1_a c1_a B1_a d1_a (by omega) ((bothS HJ.out).came (Kd.heap_int _) HG1_a.out) HCC1_a.out (by have := HWX_a.out.2.1; omega) ((bothS HJ.out).came heapP HG2_a.out) HD1_a.out (by have := HWX_a.out.2.2; omega) HWX_a.out.1
                             (with_reducible refine hc.mono ?_)
                             clear hc
                             rintro e wa ⟨fa, Ra, rfl, hJc, hKc, -⟩
                             have HXa := Lib.hid ((bothS HJ.out).boxK HXY.out.1 hKc)
                             have HYa := Lib.hid ((bothS HJ.out).boxK HXY.out.2 hKc)
                             have HJa := Lib.hid (bothS hJc)
                             have yb1 : wa.cell? ⟨adr.block, adr.off + 1, none⟩ = some (.slice AR_b TB.length cR_b) := cell_kept HYB.out HJa.out.al.ko.kept (fun e => e)
                             clear hJc hKc))
                      obtain ⟨u_a, hu_a⟩ : ∃ u, u = (runC s_a x_a) := ⟨_, rfl⟩
                      obtain ⟨u_b, hu_b⟩ : ∃ u, u = s_b := ⟨_, rfl⟩
                      have HU_a : Hid (runs s (TA.take (i + 1)) = u_a) := Lib.hid (HR_a.out.trans hu_a.symm)
                      have HU_b : Hid (runs s (TB.take (i + 1)) = u_b) := Lib.hid (HR_b.out.trans hu_b.symm)
                      have HJ5 := HJa.out
                      rw [← hu_a, ← hu_b] at HJ5
                      replace HJ5 := Lib.hid (HJ5.mono (show _ ≤ M + 6 * (i + 1) by omega))
                      have HX5 := Lib.hid (HXa.out)
                      have HY5 := Lib.hid (HYa.out)
                      clear hu_a hu_b
                      obtain ⟨W5, hW5⟩ : ∃ W5, W5 = wa := ⟨_, rfl⟩
                      rw [← hW5] at HJ5 HX5 HY5 ⊢
                      clear hW5
                      have HD5 := Lib.hid (below_drew (Below.refl W5.heap.size W5))
                      have HF5 : Hid (∀ W, Below W5.heap.size W5 W → W.cell? ⟨pb, 0, none⟩ = some (.pointer (some ⟨gp, 0, none⟩)) ∧ W.cell? ⟨pb, 1, none⟩ = some (.pointer (some ⟨rp, 0, none⟩)) ∧ W.cell? ⟨qb, 0, none⟩ = some (.pointer (some ⟨gq, 0, none⟩)) ∧ W.cell? ⟨qb, 1, none⟩ = some (.pointer (some ⟨rq, 0, none⟩))) := Lib.hid (fun W h => by
                        have a := cells_box (blk_below HX5.out h)
                        have b := cells_box (blk_below HY5.out h)
                        exact ⟨a.1, a.2, b.1, b.2⟩)
                      obtain ⟨t, ht⟩ : ∃ t, t = sB u_a u_b := ⟨_, rfl⟩
                      have HT1 := Lib.hid ht
                      have HT2 : Hid (t = sB u_b u_a) := Lib.hid (by rw [ht]; exact sB_comm _ _)
                      clear ht
                      have hT5 := HF5.out _ HD5.out
                      go_region_held3 (fun w' => w'.cell? ⟨pb, 0, none⟩ = some (.pointer (some ⟨gp, 0, none⟩)) ∧ w'.cell? ⟨pb, 1, none⟩ = some (.pointer (some ⟨rp, 0, none⟩)) ∧ w'.cell? ⟨qb, 0, none⟩ = some (.pointer (some ⟨gq, 0, none⟩)) ∧ w'.cell? ⟨qb, 1, none⟩ = some (.pointer (some ⟨rq, 0, none⟩)))
                        (first | go_keep | exact hT5 | exact hT6 | exact hT7 | exact hT8 | exact hT9)
                        (first
                          | (go_at_call 31; have hc := sameMJ (HJ5.out.below HD5.out) gp bn bh gq bm bi u_a u_b (by simp) (by simp); (with_reducible refine hc.mono ?_); clear hc; rw [← HT1.out]; rintro e v6 ⟨rfl, hB⟩; have HB6 := Lib.hid (HD5.out.trans (hB.mono HD5.out.size)); have hT6 := HF5.out _ HB6.out; clear hB)
                          | (go_at_call 33; have hc := sameRJ (HJ5.out.below HB6.out) rp rq u_a u_b (by simp) (by simp) (by omega); (with_reducible refine hc.mono ?_); clear hc; rw [← HT1.out]; rintro e v7 ⟨rfl, hB⟩; have HB7 := Lib.hid (HB6.out.trans (hB.mono HB6.out.size)); have hT7 := HF5.out _ HB7.out; clear hB)
                          | (go_at_call 31; have hc := sameMJ (HJ5.out.below HB7.out) gq bm bi gp bn bh u_b u_a (by simp) (by simp); (with_reducible refine hc.mono ?_); clear hc; rw [← HT2.out]; rintro e v8 ⟨rfl, hB⟩; have HB8' := Lib.hid (HB7.out.trans (hB.mono HB7.out.size)); have hT8 := HF5.out _ HB8'.out; have tt : (t != t) = false := (by cases t <;> rfl); clear hB)
                          | (go_at_call 33; have hc := sameRJ (HJ5.out.below HB8'.out) rp rq u_a u_b (by simp) (by simp) (by omega); (with_reducible refine hc.mono ?_); clear hc; rw [← HT1.out]; rintro e v9 ⟨rfl, hB⟩; have HB9' := Lib.hid (HB8'.out.trans (hB.mono HB8'.out.size)); have hT9 := HF5.out _ HB9'.out; clear hB))
                      all_goals
                        have HJ6 := Lib.hid (HJ5.out.below HB9'.out)
                        have HX6' := Lib.hid (blk_below HX5.out HB9'.out)
                        have HY6' := Lib.hid (blk_below HY5.out HB9'.out)
                        clear hT5 hT6 hT7 hT8 hT9 tt
                        go_wp2_with fail
                        go_roundw
                      all_goals first | exact ⟨i + 1, fa, _, by go_num, by omega, Lib.hid (by rw [HU_a.out, HU_b.out]; exact HJ6.out), Lib.hid ⟨HX6'.out, HY6'.out⟩⟩ | (simp [intOf]; omega)
                  · by_cases hlt_b : i < TB.length
                    · have HR_a : Hid (runs s (TA.take (i + 1)) = s_a) := Lib.hid (by rw [runs_next, dif_neg hlt_a, hs_a])
                      have hdl_a : decide ((i : Int) < (TA.length : Int)) = false := decide_eq_false (by omega)
                      obtain ⟨ad_b, A1_b, c1_b, B1_b, d1_b, e_b, hcell_b, g1_b, hd1_b, g2_b, hc1_b⟩ := at_call2 HRC_b.out i hlt_b hlt_b
                      cases e_b
                      obtain ⟨x_b, hx_b⟩ : ∃ x, x = TB[i] := ⟨_, rfl⟩
                      have hr_b := runs_next s TB i
                      rw [dif_pos hlt_b, ← hx_b, ← hs_b] at hr_b
                      rw [← hx_b] at hcell_b g1_b hd1_b g2_b hc1_b
                      have HR_b := Lib.hid hr_b
                      have HWX_b : Hid (wfC x_b ∧ x_b.op.f6.length ≤ 1048576 ∧ x_b.an.f5.length ≤ 1048576) := Lib.hid (by rw [hx_b]; exact (HWF2.out TB HMEM_b.out).2 _ (List.getElem_mem hlt_b))
                      have HG1_b := Lib.hid g1_b
                      have HG2_b := Lib.hid g2_b
                      have HCELL_b := Lib.hid hcell_b
                      have HD1_b := Lib.hid hd1_b
                      have HCC1_b := Lib.hid hc1_b
                      have hdl_b : decide ((i : Int) < (TB.length : Int)) = true := decide_eq_true (by omega)
                      clear hx_b hr_b hcell_b g1_b g2_b hd1_b hc1_b
                      go_upto_region 25 with (first
                          | ((with_reducible refine gate_ (.load 41 (.tmp 138)) rfl ?_); refine gate_guard (by rfl) ?_; refine wpList_load_any rfl 41 (.tmp 138) rfl (ad_b.add (i * 20)) rfl [.bool x_b.tk, .int .u8 x_b.op.f0, .int .u64 x_b.op.f1, .int .u64 x_b.op.f2, .int .u64 x_b.op.f3, .int .u64 x_b.op.f4, .bool x_b.op.f5.f0, .int .i64 x_b.op.f5.f1, .int .i64 x_b.op.f5.f2, .slice A1_b x_b.op.f6.length c1_b, .int .u64 x_b.op.f7, .int .u64 x_b.op.f8, .int .i64 x_b.an.f0, .bool x_b.an.f1, .int .u64 x_b.an.f2, .bool x_b.an.f3, .int .u64 x_b.an.f4, .slice B1_b x_b.an.f5.length d1_b, .int .u64 x_b.an.f6, .int .u64 x_b.hd] _ (fun j u hj => by rw [add_add]; exact cell_kept (HCELL_b.out j u hj) HJ.out.al.ko.kept (fun e => e)) Try.underlying41 rfl (by kernel_rfl) ?_)
                          | (go_at_call 20
                             have hc := call_c (HJ.out) qb (HXY.out.2) x_b A1_b c1_b B1_b d1_b (by omega) ((HJ.out).came (Kd.heap_int _) HG1_b.out) HCC1_b.out (by have := HWX_b.out.2.1; omega) ((HJ.out).came heapP HG2_b.out) HD1_b.out (by have := HWX_b.out.2.2; omega) HWX_b.out.1
                             (with_reducible refine hc.mono ?_)
                             clear hc
                             rintro e wb ⟨fb, Rb, rfl, hJc, hKc, -⟩
                             have HXb := Lib.hid ((HJ.out).boxK HXY.out.1 hKc)
                             have HYb := Lib.hid ((HJ.out).boxK HXY.out.2 hKc)
                             have HJb := Lib.hid hJc
                             clear hJc hKc))
                      obtain ⟨u_a, hu_a⟩ : ∃ u, u = s_a := ⟨_, rfl⟩
                      obtain ⟨u_b, hu_b⟩ : ∃ u, u = (runC s_b x_b) := ⟨_, rfl⟩
                      have HU_a : Hid (runs s (TA.take (i + 1)) = u_a) := Lib.hid (HR_a.out.trans hu_a.symm)
                      have HU_b : Hid (runs s (TB.take (i + 1)) = u_b) := Lib.hid (HR_b.out.trans hu_b.symm)
                      have HJ5 := HJb.out
                      rw [← hu_a, ← hu_b] at HJ5
                      replace HJ5 := Lib.hid (HJ5.mono (show _ ≤ M + 6 * (i + 1) by omega))
                      have HX5 := Lib.hid (HXb.out)
                      have HY5 := Lib.hid (HYb.out)
                      clear hu_a hu_b
                      obtain ⟨W5, hW5⟩ : ∃ W5, W5 = wb := ⟨_, rfl⟩
                      rw [← hW5] at HJ5 HX5 HY5 ⊢
                      clear hW5
                      have HD5 := Lib.hid (below_drew (Below.refl W5.heap.size W5))
                      have HF5 : Hid (∀ W, Below W5.heap.size W5 W → W.cell? ⟨pb, 0, none⟩ = some (.pointer (some ⟨gp, 0, none⟩)) ∧ W.cell? ⟨pb, 1, none⟩ = some (.pointer (some ⟨rp, 0, none⟩)) ∧ W.cell? ⟨qb, 0, none⟩ = some (.pointer (some ⟨gq, 0, none⟩)) ∧ W.cell? ⟨qb, 1, none⟩ = some (.pointer (some ⟨rq, 0, none⟩))) := Lib.hid (fun W h => by
                        have a := cells_box (blk_below HX5.out h)
                        have b := cells_box (blk_below HY5.out h)
                        exact ⟨a.1, a.2, b.1, b.2⟩)
                      obtain ⟨t, ht⟩ : ∃ t, t = sB u_a u_b := ⟨_, rfl⟩
                      have HT1 := Lib.hid ht
                      have HT2 : Hid (t = sB u_b u_a) := Lib.hid (by rw [ht]; exact sB_comm _ _)
                      clear ht
                      have hT5 := HF5.out _ HD5.out
                      go_region_held3 (fun w' => w'.cell? ⟨pb, 0, none⟩ = some (.pointer (some ⟨gp, 0, none⟩)) ∧ w'.cell? ⟨pb, 1, none⟩ = some (.pointer (some ⟨rp, 0, none⟩)) ∧ w'.cell? ⟨qb, 0, none⟩ = some (.pointer (some ⟨gq, 0, none⟩)) ∧ w'.cell? ⟨qb, 1, none⟩ = some (.pointer (some ⟨rq, 0, none⟩)))
                        (first | go_keep | exact hT5 | exact hT6 | exact hT7 | exact hT8 | exact hT9)
                        (first
                          | (go_at_call 31; have hc := sameMJ (HJ5.out.below HD5.out) gp bn bh gq bm bi u_a u_b (by simp) (by simp); (with_reducible refine hc.mono ?_); clear hc; rw [← HT1.out]; rintro e v6 ⟨rfl, hB⟩; have HB6 := Lib.hid (HD5.out.trans (hB.mono HD5.out.size)); have hT6 := HF5.out _ HB6.out; clear hB)
                          | (go_at_call 33; have hc := sameRJ (HJ5.out.below HB6.out) rp rq u_a u_b (by simp) (by simp) (by omega); (with_reducible refine hc.mono ?_); clear hc; rw [← HT1.out]; rintro e v7 ⟨rfl, hB⟩; have HB7 := Lib.hid (HB6.out.trans (hB.mono HB6.out.size)); have hT7 := HF5.out _ HB7.out; clear hB)
                          | (go_at_call 31; have hc := sameMJ (HJ5.out.below HB7.out) gq bm bi gp bn bh u_b u_a (by simp) (by simp); (with_reducible refine hc.mono ?_); clear hc; rw [← HT2.out]; rintro e v8 ⟨rfl, hB⟩; have HB8' := Lib.hid (HB7.out.trans (hB.mono HB7.out.size)); have hT8 := HF5.out _ HB8'.out; have tt : (t != t) = false := (by cases t <;> rfl); clear hB)
                          | (go_at_call 33; have hc := sameRJ (HJ5.out.below HB8'.out) rp rq u_a u_b (by simp) (by simp) (by omega); (with_reducible refine hc.mono ?_); clear hc; rw [← HT1.out]; rintro e v9 ⟨rfl, hB⟩; have HB9' := Lib.hid (HB8'.out.trans (hB.mono HB8'.out.size)); have hT9 := HF5.out _ HB9'.out; clear hB))
                      all_goals
                        have HJ6 := Lib.hid (HJ5.out.below HB9'.out)
                        have HX6' := Lib.hid (blk_below HX5.out HB9'.out)
                        have HY6' := Lib.hid (blk_below HY5.out HB9'.out)
                        clear hT5 hT6 hT7 hT8 hT9 tt
                        go_wp2_with fail
                        go_roundw
                      all_goals first | exact ⟨i + 1, fb, _, by go_num, by omega, Lib.hid (by rw [HU_a.out, HU_b.out]; exact HJ6.out), Lib.hid ⟨HX6'.out, HY6'.out⟩⟩ | (simp [intOf]; omega)
                    · have HR_a : Hid (runs s (TA.take (i + 1)) = s_a) := Lib.hid (by rw [runs_next, dif_neg hlt_a, hs_a])
                      have hdl_a : decide ((i : Int) < (TA.length : Int)) = false := decide_eq_false (by omega)
                      have HR_b : Hid (runs s (TB.take (i + 1)) = s_b) := Lib.hid (by rw [runs_next, dif_neg hlt_b, hs_b])
                      have hdl_b : decide ((i : Int) < (TB.length : Int)) = false := decide_eq_false (by omega)
                      go_upto_region 25 with fail
                      obtain ⟨u_a, hu_a⟩ : ∃ u, u = s_a := ⟨_, rfl⟩
                      obtain ⟨u_b, hu_b⟩ : ∃ u, u = s_b := ⟨_, rfl⟩
                      have HU_a : Hid (runs s (TA.take (i + 1)) = u_a) := Lib.hid (HR_a.out.trans hu_a.symm)
                      have HU_b : Hid (runs s (TB.take (i + 1)) = u_b) := Lib.hid (HR_b.out.trans hu_b.symm)
                      have HJ5 := HJ.out
                      rw [← hu_a, ← hu_b] at HJ5
                      replace HJ5 := Lib.hid (HJ5.mono (show _ ≤ M + 6 * (i + 1) by omega))
                      have HX5 := Lib.hid (HXY.out.1)
                      have HY5 := Lib.hid (HXY.out.2)
                      clear hu_a hu_b
                      obtain ⟨W5, hW5⟩ : ∃ W5, W5 = wr := ⟨_, rfl⟩
                      rw [← hW5] at HJ5 HX5 HY5 ⊢
                      clear hW5
                      have HD5 := Lib.hid (below_drew (Below.refl W5.heap.size W5))
                      have HF5 : Hid (∀ W, Below W5.heap.size W5 W → W.cell? ⟨pb, 0, none⟩ = some (.pointer (some ⟨gp, 0, none⟩)) ∧ W.cell? ⟨pb, 1, none⟩ = some (.pointer (some ⟨rp, 0, none⟩)) ∧ W.cell? ⟨qb, 0, none⟩ = some (.pointer (some ⟨gq, 0, none⟩)) ∧ W.cell? ⟨qb, 1, none⟩ = some (.pointer (some ⟨rq, 0, none⟩))) := Lib.hid (fun W h => by
                        have a := cells_box (blk_below HX5.out h)
                        have b := cells_box (blk_below HY5.out h)
                        exact ⟨a.1, a.2, b.1, b.2⟩)
                      obtain ⟨t, ht⟩ : ∃ t, t = sB u_a u_b := ⟨_, rfl⟩
                      have HT1 := Lib.hid ht
                      have HT2 : Hid (t = sB u_b u_a) := Lib.hid (by rw [ht]; exact sB_comm _ _)
                      clear ht
                      have hT5 := HF5.out _ HD5.out
                      go_region_held3 (fun w' => w'.cell? ⟨pb, 0, none⟩ = some (.pointer (some ⟨gp, 0, none⟩)) ∧ w'.cell? ⟨pb, 1, none⟩ = some (.pointer (some ⟨rp, 0, none⟩)) ∧ w'.cell? ⟨qb, 0, none⟩ = some (.pointer (some ⟨gq, 0, none⟩)) ∧ w'.cell? ⟨qb, 1, none⟩ = some (.pointer (some ⟨rq, 0, none⟩)))
                        (first | go_keep | exact hT5 | exact hT6 | exact hT7 | exact hT8 | exact hT9)
                        (first
                          | (go_at_call 31; have hc := sameMJ (HJ5.out.below HD5.out) gp bn bh gq bm bi u_a u_b (by simp) (by simp); (with_reducible refine hc.mono ?_); clear hc; rw [← HT1.out]; rintro e v6 ⟨rfl, hB⟩; have HB6 := Lib.hid (HD5.out.trans (hB.mono HD5.out.size)); have hT6 := HF5.out _ HB6.out; clear hB)
                          | (go_at_call 33; have hc := sameRJ (HJ5.out.below HB6.out) rp rq u_a u_b (by simp) (by simp) (by omega); (with_reducible refine hc.mono ?_); clear hc; rw [← HT1.out]; rintro e v7 ⟨rfl, hB⟩; have HB7 := Lib.hid (HB6.out.trans (hB.mono HB6.out.size)); have hT7 := HF5.out _ HB7.out; clear hB)
                          | (go_at_call 31; have hc := sameMJ (HJ5.out.below HB7.out) gq bm bi gp bn bh u_b u_a (by simp) (by simp); (with_reducible refine hc.mono ?_); clear hc; rw [← HT2.out]; rintro e v8 ⟨rfl, hB⟩; have HB8' := Lib.hid (HB7.out.trans (hB.mono HB7.out.size)); have hT8 := HF5.out _ HB8'.out; have tt : (t != t) = false := (by cases t <;> rfl); clear hB)
                          | (go_at_call 33; have hc := sameRJ (HJ5.out.below HB8'.out) rp rq u_a u_b (by simp) (by simp) (by omega); (with_reducible refine hc.mono ?_); clear hc; rw [← HT1.out]; rintro e v9 ⟨rfl, hB⟩; have HB9' := Lib.hid (HB8'.out.trans (hB.mono HB8'.out.size)); have hT9 := HF5.out _ HB9'.out; clear hB))
                      all_goals
                        have HJ6 := Lib.hid (HJ5.out.below HB9'.out)
                        have HX6' := Lib.hid (blk_below HX5.out HB9'.out)
                        have HY6' := Lib.hid (blk_below HY5.out HB9'.out)
                        clear hT5 hT6 hT7 hT8 hT9 tt
                        go_wp2_with fail
                        go_roundw
                      all_goals first | exact ⟨i + 1, f, _, by go_num, by omega, Lib.hid (by rw [HU_a.out, HU_b.out]; exact HJ6.out), Lib.hid ⟨HX6'.out, HY6'.out⟩⟩ | (simp [intOf]; omega)
                · have hlt_b : ¬ i < TB.length := by
                    have : TB = [] := by rw [HTB.out]; simp [List.getD_eq_getElem?_getD, show two.length ≤ 1 by omega]
                    rw [this]; simp
                  have hg2 : decide (1 < (two.length : Int)) = false := decide_eq_false (by omega)
                  by_cases h1 : 0 < two.length
                  · have e_0 : two[0]? = some TA := by rw [HTA.out]; simp [List.getD_eq_getElem?_getD, h1]
                    have HMEM_a := Lib.hid (List.mem_iff_getElem?.2 ⟨0, e_0⟩)
                    obtain ⟨adr, AR_a, cR_a, rfl, ya, hya1, hya2⟩ := at_rows HC2.out 0 (by omega) TA e_0
                    have HRC_a := Lib.hid hya2
                    have ya1 : wr.cell? (adr.add 0) = some (.slice AR_a TA.length cR_a) := cell_kept ya HJ.out.al.ko.kept (fun e => e)
                    have ya2 : wr.cell? adr = some (.slice AR_a TA.length cR_a) := by have := ya1; rwa [show adr.add 0 = adr from by simp [Addr.add]] at this
                    have hg1 : decide (0 < (two.length : Int)) = true := decide_eq_true (by omega)
                    clear ya hya1 hya2 e_0
                    by_cases hlt_a : i < TA.length
                    · obtain ⟨ad_a, A1_a, c1_a, B1_a, d1_a, e_a, hcell_a, g1_a, hd1_a, g2_a, hc1_a⟩ := at_call2 HRC_a.out i hlt_a hlt_a
                      cases e_a
                      obtain ⟨x_a, hx_a⟩ : ∃ x, x = TA[i] := ⟨_, rfl⟩
                      have hr_a := runs_next s TA i
                      rw [dif_pos hlt_a, ← hx_a, ← hs_a] at hr_a
                      rw [← hx_a] at hcell_a g1_a hd1_a g2_a hc1_a
                      have HR_a := Lib.hid hr_a
                      have HWX_a : Hid (wfC x_a ∧ x_a.op.f6.length ≤ 1048576 ∧ x_a.an.f5.length ≤ 1048576) := Lib.hid (by rw [hx_a]; exact (HWF2.out TA HMEM_a.out).2 _ (List.getElem_mem hlt_a))
                      have HG1_a := Lib.hid g1_a
                      have HG2_a := Lib.hid g2_a
                      have HCELL_a := Lib.hid hcell_a
                      have HD1_a := Lib.hid hd1_a
                      have HCC1_a := Lib.hid hc1_a
                      have hdl_a : decide ((i : Int) < (TA.length : Int)) = true := decide_eq_true (by omega)
                      clear hx_a hr_a hcell_a g1_a g2_a hd1_a hc1_a
                      have HR_b : Hid (runs s (TB.take (i + 1)) = s_b) := Lib.hid (by rw [runs_next, dif_neg hlt_b, hs_b])
                      go_upto_region 25 with (first
                          | ((with_reducible refine gate_ (.load 41 (.tmp 115)) rfl ?_); refine gate_guard (by rfl) ?_; refine wpList_load_any rfl 41 (.tmp 115) rfl (ad_a.add (i * 20)) rfl [.bool x_a.tk, .int .u8 x_a.op.f0, .int .u64 x_a.op.f1, .int .u64 x_a.op.f2, .int .u64 x_a.op.f3, .int .u64 x_a.op.f4, .bool x_a.op.f5.f0, .int .i64 x_a.op.f5.f1, .int .i64 x_a.op.f5.f2, .slice A1_a x_a.op.f6.length c1_a, .int .u64 x_a.op.f7, .int .u64 x_a.op.f8, .int .i64 x_a.an.f0, .bool x_a.an.f1, .int .u64 x_a.an.f2, .bool x_a.an.f3, .int .u64 x_a.an.f4, .slice B1_a x_a.an.f5.length d1_a, .int .u64 x_a.an.f6, .int .u64 x_a.hd] _ (fun j u hj => by rw [add_add]; exact cell_kept (HCELL_a.out j u hj) HJ.out.al.ko.kept (fun e => e)) Try.underlying41 rfl (by kernel_rfl) ?_)
                          | (go_at_call 20
                             have hc := call_c (bothS HJ.out) pb (HXY.out.1) x_a A1_a c1_a B1_a d1_a (by omega) ((bothS HJ.out).came (Kd.heap_int _) HG1_a.out) HCC1_a.out (by have := HWX_a.out.2.1; omega) ((bothS HJ.out).came heapP HG2_a.out) HD1_a.out (by have := HWX_a.out.2.2; omega) HWX_a.out.1
                             (with_reducible refine hc.mono ?_)
                             clear hc
                             rintro e wa ⟨fa, Ra, rfl, hJc, hKc, -⟩
                             have HXa := Lib.hid ((bothS HJ.out).boxK HXY.out.1 hKc)
                             have HYa := Lib.hid ((bothS HJ.out).boxK HXY.out.2 hKc)
                             have HJa := Lib.hid (bothS hJc)
                             clear hJc hKc))
                      obtain ⟨u_a, hu_a⟩ : ∃ u, u = (runC s_a x_a) := ⟨_, rfl⟩
                      obtain ⟨u_b, hu_b⟩ : ∃ u, u = s_b := ⟨_, rfl⟩
                      have HU_a : Hid (runs s (TA.take (i + 1)) = u_a) := Lib.hid (HR_a.out.trans hu_a.symm)
                      have HU_b : Hid (runs s (TB.take (i + 1)) = u_b) := Lib.hid (HR_b.out.trans hu_b.symm)
                      have HJ5 := HJa.out
                      rw [← hu_a, ← hu_b] at HJ5
                      replace HJ5 := Lib.hid (HJ5.mono (show _ ≤ M + 6 * (i + 1) by omega))
                      have HX5 := Lib.hid (HXa.out)
                      have HY5 := Lib.hid (HYa.out)
                      clear hu_a hu_b
                      obtain ⟨W5, hW5⟩ : ∃ W5, W5 = wa := ⟨_, rfl⟩
                      rw [← hW5] at HJ5 HX5 HY5 ⊢
                      clear hW5
                      have HD5 := Lib.hid (below_drew (Below.refl W5.heap.size W5))
                      have HF5 : Hid (∀ W, Below W5.heap.size W5 W → W.cell? ⟨pb, 0, none⟩ = some (.pointer (some ⟨gp, 0, none⟩)) ∧ W.cell? ⟨pb, 1, none⟩ = some (.pointer (some ⟨rp, 0, none⟩)) ∧ W.cell? ⟨qb, 0, none⟩ = some (.pointer (some ⟨gq, 0, none⟩)) ∧ W.cell? ⟨qb, 1, none⟩ = some (.pointer (some ⟨rq, 0, none⟩))) := Lib.hid (fun W h => by
                        have a := cells_box (blk_below HX5.out h)
                        have b := cells_box (blk_below HY5.out h)
                        exact ⟨a.1, a.2, b.1, b.2⟩)
                      obtain ⟨t, ht⟩ : ∃ t, t = sB u_a u_b := ⟨_, rfl⟩
                      have HT1 := Lib.hid ht
                      have HT2 : Hid (t = sB u_b u_a) := Lib.hid (by rw [ht]; exact sB_comm _ _)
                      clear ht
                      have hT5 := HF5.out _ HD5.out
                      go_region_held3 (fun w' => w'.cell? ⟨pb, 0, none⟩ = some (.pointer (some ⟨gp, 0, none⟩)) ∧ w'.cell? ⟨pb, 1, none⟩ = some (.pointer (some ⟨rp, 0, none⟩)) ∧ w'.cell? ⟨qb, 0, none⟩ = some (.pointer (some ⟨gq, 0, none⟩)) ∧ w'.cell? ⟨qb, 1, none⟩ = some (.pointer (some ⟨rq, 0, none⟩)))
                        (first | go_keep | exact hT5 | exact hT6 | exact hT7 | exact hT8 | exact hT9)
                        (first
                          | (go_at_call 31; have hc := sameMJ (HJ5.out.below HD5.out) gp bn bh gq bm bi u_a u_b (by simp) (by simp); (with_reducible refine hc.mono ?_); clear hc; rw [← HT1.out]; rintro e v6 ⟨rfl, hB⟩; have HB6 := Lib.hid (HD5.out.trans (hB.mono HD5.out.size)); have hT6 := HF5.out _ HB6.out; clear hB)
                          | (go_at_call 33; have hc := sameRJ (HJ5.out.below HB6.out) rp rq u_a u_b (by simp) (by simp) (by omega); (with_reducible refine hc.mono ?_); clear hc; rw [← HT1.out]; rintro e v7 ⟨rfl, hB⟩; have HB7 := Lib.hid (HB6.out.trans (hB.mono HB6.out.size)); have hT7 := HF5.out _ HB7.out; clear hB)
                          | (go_at_call 31; have hc := sameMJ (HJ5.out.below HB7.out) gq bm bi gp bn bh u_b u_a (by simp) (by simp); (with_reducible refine hc.mono ?_); clear hc; rw [← HT2.out]; rintro e v8 ⟨rfl, hB⟩; have HB8' := Lib.hid (HB7.out.trans (hB.mono HB7.out.size)); have hT8 := HF5.out _ HB8'.out; have tt : (t != t) = false := (by cases t <;> rfl); clear hB)
                          | (go_at_call 33; have hc := sameRJ (HJ5.out.below HB8'.out) rp rq u_a u_b (by simp) (by simp) (by omega); (with_reducible refine hc.mono ?_); clear hc; rw [← HT1.out]; rintro e v9 ⟨rfl, hB⟩; have HB9' := Lib.hid (HB8'.out.trans (hB.mono HB8'.out.size)); have hT9 := HF5.out _ HB9'.out; clear hB))
                      all_goals
                        have HJ6 := Lib.hid (HJ5.out.below HB9'.out)
                        have HX6' := Lib.hid (blk_below HX5.out HB9'.out)
                        have HY6' := Lib.hid (blk_below HY5.out HB9'.out)
                        clear hT5 hT6 hT7 hT8 hT9 tt
                        go_wp2_with fail
                        go_roundw
                      all_goals first | exact ⟨i + 1, fa, _, by go_num, by omega, Lib.hid (by rw [HU_a.out, HU_b.out]; exact HJ6.out), Lib.hid ⟨HX6'.out, HY6'.out⟩⟩ | (simp [intOf]; omega)
                    · have HR_a : Hid (runs s (TA.take (i + 1)) = s_a) := Lib.hid (by rw [runs_next, dif_neg hlt_a, hs_a])
                      have hdl_a : decide ((i : Int) < (TA.length : Int)) = false := decide_eq_false (by omega)
                      have HR_b : Hid (runs s (TB.take (i + 1)) = s_b) := Lib.hid (by rw [runs_next, dif_neg hlt_b, hs_b])
                      go_upto_region 25 with fail
                      obtain ⟨u_a, hu_a⟩ : ∃ u, u = s_a := ⟨_, rfl⟩
                      obtain ⟨u_b, hu_b⟩ : ∃ u, u = s_b := ⟨_, rfl⟩
                      have HU_a : Hid (runs s (TA.take (i + 1)) = u_a) := Lib.hid (HR_a.out.trans hu_a.symm)
                      have HU_b : Hid (runs s (TB.take (i + 1)) = u_b) := Lib.hid (HR_b.out.trans hu_b.symm)
                      have HJ5 := HJ.out
                      rw [← hu_a, ← hu_b] at HJ5
                      replace HJ5 := Lib.hid (HJ5.mono (show _ ≤ M + 6 * (i + 1) by omega))
                      have HX5 := Lib.hid (HXY.out.1)
                      have HY5 := Lib.hid (HXY.out.2)
                      clear hu_a hu_b
                      obtain ⟨W5, hW5⟩ : ∃ W5, W5 = wr := ⟨_, rfl⟩
                      rw [← hW5] at HJ5 HX5 HY5 ⊢
                      clear hW5
                      have HD5 := Lib.hid (below_drew (Below.refl W5.heap.size W5))
                      have HF5 : Hid (∀ W, Below W5.heap.size W5 W → W.cell? ⟨pb, 0, none⟩ = some (.pointer (some ⟨gp, 0, none⟩)) ∧ W.cell? ⟨pb, 1, none⟩ = some (.pointer (some ⟨rp, 0, none⟩)) ∧ W.cell? ⟨qb, 0, none⟩ = some (.pointer (some ⟨gq, 0, none⟩)) ∧ W.cell? ⟨qb, 1, none⟩ = some (.pointer (some ⟨rq, 0, none⟩))) := Lib.hid (fun W h => by
                        have a := cells_box (blk_below HX5.out h)
                        have b := cells_box (blk_below HY5.out h)
                        exact ⟨a.1, a.2, b.1, b.2⟩)
                      obtain ⟨t, ht⟩ : ∃ t, t = sB u_a u_b := ⟨_, rfl⟩
                      have HT1 := Lib.hid ht
                      have HT2 : Hid (t = sB u_b u_a) := Lib.hid (by rw [ht]; exact sB_comm _ _)
                      clear ht
                      have hT5 := HF5.out _ HD5.out
                      go_region_held3 (fun w' => w'.cell? ⟨pb, 0, none⟩ = some (.pointer (some ⟨gp, 0, none⟩)) ∧ w'.cell? ⟨pb, 1, none⟩ = some (.pointer (some ⟨rp, 0, none⟩)) ∧ w'.cell? ⟨qb, 0, none⟩ = some (.pointer (some ⟨gq, 0, none⟩)) ∧ w'.cell? ⟨qb, 1, none⟩ = some (.pointer (some ⟨rq, 0, none⟩)))
                        (first | go_keep | exact hT5 | exact hT6 | exact hT7 | exact hT8 | exact hT9)
                        (first
                          | (go_at_call 31; have hc := sameMJ (HJ5.out.below HD5.out) gp bn bh gq bm bi u_a u_b (by simp) (by simp); (with_reducible refine hc.mono ?_); clear hc; rw [← HT1.out]; rintro e v6 ⟨rfl, hB⟩; have HB6 := Lib.hid (HD5.out.trans (hB.mono HD5.out.size)); have hT6 := HF5.out _ HB6.out; clear hB)
                          | (go_at_call 33; have hc := sameRJ (HJ5.out.below HB6.out) rp rq u_a u_b (by simp) (by simp) (by omega); (with_reducible refine hc.mono ?_); clear hc; rw [← HT1.out]; rintro e v7 ⟨rfl, hB⟩; have HB7 := Lib.hid (HB6.out.trans (hB.mono HB6.out.size)); have hT7 := HF5.out _ HB7.out; clear hB)
                          | (go_at_call 31; have hc := sameMJ (HJ5.out.below HB7.out) gq bm bi gp bn bh u_b u_a (by simp) (by simp); (with_reducible refine hc.mono ?_); clear hc; rw [← HT2.out]; rintro e v8 ⟨rfl, hB⟩; have HB8' := Lib.hid (HB7.out.trans (hB.mono HB7.out.size)); have hT8 := HF5.out _ HB8'.out; have tt : (t != t) = false := (by cases t <;> rfl); clear hB)
                          | (go_at_call 33; have hc := sameRJ (HJ5.out.below HB8'.out) rp rq u_a u_b (by simp) (by simp) (by omega); (with_reducible refine hc.mono ?_); clear hc; rw [← HT1.out]; rintro e v9 ⟨rfl, hB⟩; have HB9' := Lib.hid (HB8'.out.trans (hB.mono HB8'.out.size)); have hT9 := HF5.out _ HB9'.out; clear hB))
                      all_goals
                        have HJ6 := Lib.hid (HJ5.out.below HB9'.out)
                        have HX6' := Lib.hid (blk_below HX5.out HB9'.out)
                        have HY6' := Lib.hid (blk_below HY5.out HB9'.out)
                        clear hT5 hT6 hT7 hT8 hT9 tt
                        go_wp2_with fail
                        go_roundw
                      all_goals first | exact ⟨i + 1, f, _, by go_num, by omega, Lib.hid (by rw [HU_a.out, HU_b.out]; exact HJ6.out), Lib.hid ⟨HX6'.out, HY6'.out⟩⟩ | (simp [intOf]; omega)
                  · have hlt_a : ¬ i < TA.length := by
                      have : TA = [] := by rw [HTA.out]; simp [List.getD_eq_getElem?_getD, show two.length = 0 by omega]
                      rw [this]; simp
                    have hg1 : decide (0 < (two.length : Int)) = false := decide_eq_false (by omega)
                    have HR_a : Hid (runs s (TA.take (i + 1)) = s_a) := Lib.hid (by rw [runs_next, dif_neg hlt_a, hs_a])
                    have HR_b : Hid (runs s (TB.take (i + 1)) = s_b) := Lib.hid (by rw [runs_next, dif_neg hlt_b, hs_b])
                    go_upto_region 25 with fail
                    obtain ⟨u_a, hu_a⟩ : ∃ u, u = s_a := ⟨_, rfl⟩
                    obtain ⟨u_b, hu_b⟩ : ∃ u, u = s_b := ⟨_, rfl⟩
                    have HU_a : Hid (runs s (TA.take (i + 1)) = u_a) := Lib.hid (HR_a.out.trans hu_a.symm)
                    have HU_b : Hid (runs s (TB.take (i + 1)) = u_b) := Lib.hid (HR_b.out.trans hu_b.symm)
                    have HJ5 := HJ.out
                    rw [← hu_a, ← hu_b] at HJ5
                    replace HJ5 := Lib.hid (HJ5.mono (show _ ≤ M + 6 * (i + 1) by omega))
                    have HX5 := Lib.hid (HXY.out.1)
                    have HY5 := Lib.hid (HXY.out.2)
                    clear hu_a hu_b
                    obtain ⟨W5, hW5⟩ : ∃ W5, W5 = wr := ⟨_, rfl⟩
                    rw [← hW5] at HJ5 HX5 HY5 ⊢
                    clear hW5
                    have HD5 := Lib.hid (below_drew (Below.refl W5.heap.size W5))
                    have HF5 : Hid (∀ W, Below W5.heap.size W5 W → W.cell? ⟨pb, 0, none⟩ = some (.pointer (some ⟨gp, 0, none⟩)) ∧ W.cell? ⟨pb, 1, none⟩ = some (.pointer (some ⟨rp, 0, none⟩)) ∧ W.cell? ⟨qb, 0, none⟩ = some (.pointer (some ⟨gq, 0, none⟩)) ∧ W.cell? ⟨qb, 1, none⟩ = some (.pointer (some ⟨rq, 0, none⟩))) := Lib.hid (fun W h => by
                      have a := cells_box (blk_below HX5.out h)
                      have b := cells_box (blk_below HY5.out h)
                      exact ⟨a.1, a.2, b.1, b.2⟩)
                    obtain ⟨t, ht⟩ : ∃ t, t = sB u_a u_b := ⟨_, rfl⟩
                    have HT1 := Lib.hid ht
                    have HT2 : Hid (t = sB u_b u_a) := Lib.hid (by rw [ht]; exact sB_comm _ _)
                    clear ht
                    have hT5 := HF5.out _ HD5.out
                    go_region_held3 (fun w' => w'.cell? ⟨pb, 0, none⟩ = some (.pointer (some ⟨gp, 0, none⟩)) ∧ w'.cell? ⟨pb, 1, none⟩ = some (.pointer (some ⟨rp, 0, none⟩)) ∧ w'.cell? ⟨qb, 0, none⟩ = some (.pointer (some ⟨gq, 0, none⟩)) ∧ w'.cell? ⟨qb, 1, none⟩ = some (.pointer (some ⟨rq, 0, none⟩)))
                      (first | go_keep | exact hT5 | exact hT6 | exact hT7 | exact hT8 | exact hT9)
                      (first
                        | (go_at_call 31; have hc := sameMJ (HJ5.out.below HD5.out) gp bn bh gq bm bi u_a u_b (by simp) (by simp); (with_reducible refine hc.mono ?_); clear hc; rw [← HT1.out]; rintro e v6 ⟨rfl, hB⟩; have HB6 := Lib.hid (HD5.out.trans (hB.mono HD5.out.size)); have hT6 := HF5.out _ HB6.out; clear hB)
                        | (go_at_call 33; have hc := sameRJ (HJ5.out.below HB6.out) rp rq u_a u_b (by simp) (by simp) (by omega); (with_reducible refine hc.mono ?_); clear hc; rw [← HT1.out]; rintro e v7 ⟨rfl, hB⟩; have HB7 := Lib.hid (HB6.out.trans (hB.mono HB6.out.size)); have hT7 := HF5.out _ HB7.out; clear hB)
                        | (go_at_call 31; have hc := sameMJ (HJ5.out.below HB7.out) gq bm bi gp bn bh u_b u_a (by simp) (by simp); (with_reducible refine hc.mono ?_); clear hc; rw [← HT2.out]; rintro e v8 ⟨rfl, hB⟩; have HB8' := Lib.hid (HB7.out.trans (hB.mono HB7.out.size)); have hT8 := HF5.out _ HB8'.out; have tt : (t != t) = false := (by cases t <;> rfl); clear hB)
                        | (go_at_call 33; have hc := sameRJ (HJ5.out.below HB8'.out) rp rq u_a u_b (by simp) (by simp) (by omega); (with_reducible refine hc.mono ?_); clear hc; rw [← HT1.out]; rintro e v9 ⟨rfl, hB⟩; have HB9' := Lib.hid (HB8'.out.trans (hB.mono HB8'.out.size)); have hT9 := HF5.out _ HB9'.out; clear hB))
                    all_goals
                      have HJ6 := Lib.hid (HJ5.out.below HB9'.out)
                      have HX6' := Lib.hid (blk_below HX5.out HB9'.out)
                      have HY6' := Lib.hid (blk_below HY5.out HB9'.out)
                      clear hT5 hT6 hT7 hT8 hT9 tt
                      go_wp2_with fail
                      go_roundw
                    all_goals first | exact ⟨i + 1, f, _, by go_num, by omega, Lib.hid (by rw [HU_a.out, HU_b.out]; exact HJ6.out), Lib.hid ⟨HX6'.out, HY6'.out⟩⟩ | (simp [intOf]; omega)
              · obtain rfl : i = m := by omega
                go_wp2_with (first
                  | (go_at_call 21; have hc := alike_c (bothS HJ.out) pb HXY.out.1 (by omega); (with_reducible refine hc.mono ?_); clear hc; rintro e v6 ⟨rfl, hB⟩; have HB6 := Lib.hid hB; clear hB)
                  | (go_at_call 21; have hc := alike_c (HJ.out.below HB6.out) qb (blk_below HXY.out.2 HB6.out) (by omega); (with_reducible refine hc.mono ?_); clear hc; rintro e v7 ⟨rfl, hB⟩; have HB7 := Lib.hid (HB6.out.trans (hB.mono HB6.out.size)); clear hB))
                go_ret
                exact ⟨rfl, (HJ.out.below HB7.out).al.ko.below_of (fun _ e => e.elim)⟩
end Go.Proofs.Ytngocadnbpdnoaa.Mo

-- from BoB
namespace Go.Proofs.Ytngocadnbpdnoaa.Mo
open Go Go.Maps Go.RowKit Go.Proofs.Ytngocadnbpdnoaa.Srt Go.Proofs.Ytngocadnbpdnoaa.Q Go.Proofs.YtngocadnbpdnoaaW.PrintWords Go.Proofs.YtngocadnbpdnoaaW.PrintLast Go.Proofs.YtngocadnbpdnoaaW.PrintMore Go.Proofs.Ytngocadnbpdnoaa.Open
set_option linter.unusedVariables false
set_option linter.unusedSimpArgs false
def BR (y : List CallS) : Nat := (y.map BC).sum + 1
theorem BR_len (l : List (List CallS)) : l.length ≤ (l.map BR).sum := by
  induction l with
  | nil => simp
  | cons a l ih => simp only [List.map_cons, List.sum_cons, List.length_cons]; unfold BR at ih ⊢; omega
theorem BR_mem {l : List (List CallS)} {y : List CallS} (h : y ∈ l) : (y.map BC).sum ≤ (l.map BR).sum := by
  induction l with
  | nil => cases h
  | cons a l ih =>
    rw [List.map_cons, List.sum_cons]
    have hs : (a.map BC).sum ≤ BR a := by unfold BR; omega
    rcases List.mem_cons.1 h with rfl | h
    · omega
    · have := ih h; omega
theorem fork_walk (W : World) (multi : Int) (wm : (Lit.int .i64 multi).wf = true) (a0 : Option Addr) (c0 : Nat) (x0 : List CallS) (h0 : Kd.C kCall W a0 x0.length x0) (l0 : x0.length ≤ c0) {H : Type} {d1 d0 d2 : DataW H} (b0 : (x0.map BC).sum + 1 ≤ Rows.uptoBulk d0) (w0 : ∀ x ∈ x0, wfC x)
    (a1 : Option Addr) (c1 : Nat) (x1 : List (List CallS)) (h1 : Kd.C kRows W a1 x1.length x1) (l1 : x1.length ≤ c1) (b1 : (x1.map BR).sum + 1 ≤ Rows.uptoBulk d2) (w1 : ∀ y ∈ x1, ∀ x ∈ y, wfC x) (hb : Rows.uptoBulk d1 + (Rows.uptoBulk d0 + (Rows.uptoBulk d2 + 0)) ≤ 1048576) :
    Calls Try.prog 9 #[.int .i64 multi, .slice a0 x0.length c0, .slice a1 x1.length c1] W fun e W' => e = .returned (.bool true) ∧ Below W.heap.size W W' :=
  fork_law multi W a0 c0 x0 h0 l0 w0 (by have := BC_len x0; omega) (fun x hx => ⟨by have := BC_mem hx; omega, by have := BC_memA hx; omega⟩) a1 c1 x1 h1 l1 (by have := BR_len x1; omega)
    (fun y hy => ⟨by have := BR_mem hy; have := BC_len y; omega, fun x hx => ⟨w1 y hy x hx, by have := BR_mem hy; have := BC_mem hx; omega, by have := BR_mem hy; have := BC_memA hx; omega⟩⟩)
end Go.Proofs.Ytngocadnbpdnoaa.Mo
