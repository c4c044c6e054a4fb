import Derived.Test.YtbpkepcbmenbcaaProg
import Derived.Below
import Derived.Deep.Draws
import Derived.Deep.AppendLies
import Derived.Maps.AppendAt
import Derived.OwnWalk
import Derived.Laws.BytesArg
import Derived.Laws.MakeOwn
import Derived.Laws.OwnMore
import Derived.Deep.OwnRows
import Derived.Tactics
import Derived.Lib.ConvBytes
import Derived.Laws.Slices
import Derived.WalkKit
import Derived.KernelRfl
import Derived.RowKit3
import Derived.Deep.LoopGhost
import Derived.Deep.QuietTactic
import Derived.BigQuiet
import Derived.WideLaws
import Derived.Deep.DeepCutAuto
import Derived.Deep.CutBlock
import Derived.Deep.RegionHeld3
import Derived.Laws.Rows
import Derived.Lib.AppendStr
import Derived.ArgAppend
import Derived.Laws.IdiomCopy
import Derived.OrdersHeld
import Derived.Laws.BitsLemmas
import Derived.RowKit
import Derived.Test.YtbpkepcbmenbcaaWWords
import Derived.Test.YtbpkepcbmenbcaaWLast
import Derived.Test.YtbpkepcbmenbcaaWTab
import Derived.Test.YtbpkepcbmenbcaaWFour
import Derived.Test.YtbpkepcbmenbcaaWQPut
import Derived.Test.YtbpkepcbmenbcaaWApart
import Derived.Test.YtbpkepcbmenbcaaWArr
import Derived.Test.YtbpkepcbmenbcaaWZeros
import Derived.Test.YtbpkepcbmenbcaaWFoot
import Derived.Test.YtbpkepcbmenbcaaWKept
import Derived.Test.YtbpkepcbmenbcaaWShare
import Derived.Test.YtbpkepcbmenbcaaWN
import Derived.Test.YtbpkepcbmenbcaaWFootNe
import Derived.Test.YtbpkepcbmenbcaaWAt
import Derived.Test.YtbpkepcbmenbcaaWEqStruct
import Derived.Test.YtbpkepcbmenbcaaWRepsOne
import Derived.Test.YtbpkepcbmenbcaaWInv
import Derived.Test.YtbpkepcbmenbcaaWInvWords
import Derived.Test.YtbpkepcbmenbcaaWGuard
import Derived.Test.YtbpkepcbmenbcaaWNEv
import Derived.Test.YtbpkepcbmenbcaaWMore
import Derived.Lib.Hide
import Derived.Deep.RegionLaw
import Derived.Deep.AppendLies
import Derived.WalkSpells
import Derived.Outline
namespace Go.Proofs.Ytbpkepcbmenbcaa.Ar
open Go.RowKit Go.Proofs.YtbpkepcbmenbcaaW.PrintWords Go.Proofs.YtbpkepcbmenbcaaW.PrintLast Go.Proofs.YtbpkepcbmenbcaaW.PrintMore
set_option linter.unusedVariables false
set_option linter.unusedSimpArgs false
/-! #### struct Pair -/
structure SPair where
  key : Int
  value : Int
def zPair : SPair := ⟨0, 0⟩
def kPair : Kd SPair := Kd.iso (Kd.pair (Kd.int .u64) (Kd.int .u64)) (fun x : SPair => (x.key, x.value))
theorem kPair_open {w : World} {x : SPair} {cs : List Value} (h : kPair.K w x cs) : cs = [.int .u64 x.key, .int .u64 x.value] := by
  obtain ⟨_, _, rfl, rfl, rfl⟩ := h
  exact rfl
theorem kPair_openM {w : World} {base : Nat} {ok : Nat → Prop} {x : SPair} {cs : List Value} (h : kPair.M w base ok x cs) : cs = [.int .u64 x.key, .int .u64 x.value] := by
  obtain ⟨_, _, rfl, rfl, rfl⟩ := h
  exact rfl
theorem kPair_mk (w : World) (x : SPair) : kPair.K w x [.int .u64 x.key, .int .u64 x.value] := ⟨[.int .u64 x.key], [.int .u64 x.value], rfl, rfl, rfl⟩
theorem kPair_mkM (w : World) (base : Nat) (ok : Nat → Prop) (x : SPair) : kPair.M w base ok x [.int .u64 x.key, .int .u64 x.value] := ⟨[.int .u64 x.key], [.int .u64 x.value], rfl, rfl, rfl⟩
def rdPair (xs : List SPair) (i : Int) : SPair := xs.getD i.toNat zPair
theorem atPair {w : World} {A : Option Addr} {n : Nat} {xs : List SPair} (h : Kd.C kPair w A n xs) (i : Int) (h0 : 0 ≤ i) (h1 : i < n) : ∃ ad, A = some ad ∧ w.cell? (ad.add (i.toNat * 2)) = some (.int .u64 (rdPair xs i).key) ∧ w.cell? ⟨(ad.add (i.toNat * 2)).block, (ad.add (i.toNat * 2)).off + 1, none⟩ = some (.int .u64 (rdPair xs i).value) := by
  obtain ⟨ad, c, e, _, hK, hc0⟩ := Kd.C_get h zPair i h0 h1
  have hc : ∀ j u, c[j]? = some u → w.cell? (ad.add (i.toNat * 2 + j)) = some u := hc0
  obtain rfl := kPair_open hK
  exact ⟨ad, e, hc 0 _ rfl, by rw [← add_field _ _ 1 (by omega)]; exact hc 1 _ rfl⟩

/-! #### struct Acc -/
structure SAcc where
  thread : Int
  kind : Int
  addr : Int
  a : Int
  b : Int
  vals : (List Int)
  got : Int
  ok : Bool
def zAcc : SAcc := ⟨0, 0, 0, 0, 0, [], 0, false⟩
def kAcc : Kd SAcc := Kd.iso (Kd.pair (Kd.int .i64) (Kd.pair (Kd.int .u8) (Kd.pair (Kd.int .u64) (Kd.pair (Kd.int .u64) (Kd.pair (Kd.int .u64) (Kd.pair (Kd.slice 33 (Kd.int .u64)) (Kd.pair (Kd.int .u64) Kd.bool))))))) (fun x : SAcc => (x.thread, x.kind, x.addr, x.a, x.b, x.vals, x.got, x.ok))
theorem kAcc_open {w : World} {x : SAcc} {cs : List Value} (h : kAcc.K w x cs) : ∃ A5 c5, cs = [.int .i64 x.thread, .int .u8 x.kind, .int .u64 x.addr, .int .u64 x.a, .int .u64 x.b, .slice A5 x.vals.length c5, .int .u64 x.got, .bool x.ok] ∧ x.vals.length ≤ c5 ∧ (Kd.int .u64).C w A5 x.vals.length x.vals := by
  obtain ⟨_, _, rfl, rfl, ⟨_, _, rfl, rfl, ⟨_, _, rfl, rfl, ⟨_, _, rfl, rfl, ⟨_, _, rfl, rfl, ⟨_, _, rfl, ⟨A5, c5, rfl, l5, g5⟩, ⟨_, _, rfl, rfl, rfl⟩⟩⟩⟩⟩⟩⟩ := h
  exact ⟨A5, c5, rfl, l5, g5⟩
theorem kAcc_openM {w : World} {base : Nat} {ok : Nat → Prop} {x : SAcc} {cs : List Value} (h : kAcc.M w base ok x cs) : ∃ v5, cs = [.int .i64 x.thread, .int .u8 x.kind, .int .u64 x.addr, .int .u64 x.a, .int .u64 x.b, v5, .int .u64 x.got, .bool x.ok] ∧ (Kd.int .u64).R 33 w base ok v5 x.vals := by
  obtain ⟨_, _, rfl, rfl, ⟨_, _, rfl, rfl, ⟨_, _, rfl, rfl, ⟨_, _, rfl, rfl, ⟨_, _, rfl, rfl, ⟨_, _, rfl, ⟨v5, rfl, g5⟩, ⟨_, _, rfl, rfl, rfl⟩⟩⟩⟩⟩⟩⟩ := h
  exact ⟨v5, rfl, g5⟩
theorem kAcc_mk (w : World) (x : SAcc) {A5 : Option Addr} {c5 : Nat} (l5 : x.vals.length ≤ c5) (g5 : (Kd.int .u64).C w A5 x.vals.length x.vals) : kAcc.K w x [.int .i64 x.thread, .int .u8 x.kind, .int .u64 x.addr, .int .u64 x.a, .int .u64 x.b, .slice A5 x.vals.length c5, .int .u64 x.got, .bool x.ok] := ⟨[.int .i64 x.thread], [.int .u8 x.kind, .int .u64 x.addr, .int .u64 x.a, .int .u64 x.b, .slice A5 x.vals.length c5, .int .u64 x.got, .bool x.ok], rfl, rfl, ⟨[.int .u8 x.kind], [.int .u64 x.addr, .int .u64 x.a, .int .u64 x.b, .slice A5 x.vals.length c5, .int .u64 x.got, .bool x.ok], rfl, rfl, ⟨[.int .u64 x.addr], [.int .u64 x.a, .int .u64 x.b, .slice A5 x.vals.length c5, .int .u64 x.got, .bool x.ok], rfl, rfl, ⟨[.int .u64 x.a], [.int .u64 x.b, .slice A5 x.vals.length c5, .int .u64 x.got, .bool x.ok], rfl, rfl, ⟨[.int .u64 x.b], [.slice A5 x.vals.length c5, .int .u64 x.got, .bool x.ok], rfl, rfl, ⟨[.slice A5 x.vals.length c5], [.int .u64 x.got, .bool x.ok], rfl, ⟨A5, c5, rfl, l5, g5⟩, ⟨[.int .u64 x.got], [.bool x.ok], rfl, rfl, rfl⟩⟩⟩⟩⟩⟩⟩
theorem kAcc_mkM (w : World) (base : Nat) (ok : Nat → Prop) (x : SAcc) {v5 : Value} (g5 : (Kd.int .u64).R 33 w base ok v5 x.vals) : kAcc.M w base ok x [.int .i64 x.thread, .int .u8 x.kind, .int .u64 x.addr, .int .u64 x.a, .int .u64 x.b, v5, .int .u64 x.got, .bool x.ok] := ⟨[.int .i64 x.thread], [.int .u8 x.kind, .int .u64 x.addr, .int .u64 x.a, .int .u64 x.b, v5, .int .u64 x.got, .bool x.ok], rfl, rfl, ⟨[.int .u8 x.kind], [.int .u64 x.addr, .int .u64 x.a, .int .u64 x.b, v5, .int .u64 x.got, .bool x.ok], rfl, rfl, ⟨[.int .u64 x.addr], [.int .u64 x.a, .int .u64 x.b, v5, .int .u64 x.got, .bool x.ok], rfl, rfl, ⟨[.int .u64 x.a], [.int .u64 x.b, v5, .int .u64 x.got, .bool x.ok], rfl, rfl, ⟨[.int .u64 x.b], [v5, .int .u64 x.got, .bool x.ok], rfl, rfl, ⟨[v5], [.int .u64 x.got, .bool x.ok], rfl, ⟨v5, rfl, g5⟩, ⟨[.int .u64 x.got], [.bool x.ok], rfl, rfl, rfl⟩⟩⟩⟩⟩⟩⟩
def rdAcc (xs : List SAcc) (i : Int) : SAcc := xs.getD i.toNat zAcc
theorem atAcc {w : World} {A : Option Addr} {n : Nat} {xs : List SAcc} (h : Kd.C kAcc w A n xs) (i : Int) (h0 : 0 ≤ i) (h1 : i < n) : ∃ ad A5 c5, A = some ad ∧ w.cell? (ad.add (i.toNat * 8)) = some (.int .i64 (rdAcc xs i).thread) ∧ w.cell? ⟨(ad.add (i.toNat * 8)).block, (ad.add (i.toNat * 8)).off + 1, none⟩ = some (.int .u8 (rdAcc xs i).kind) ∧ w.cell? ⟨(ad.add (i.toNat * 8)).block, (ad.add (i.toNat * 8)).off + 2, none⟩ = some (.int .u64 (rdAcc xs i).addr) ∧ w.cell? ⟨(ad.add (i.toNat * 8)).block, (ad.add (i.toNat * 8)).off + 3, none⟩ = some (.int .u64 (rdAcc xs i).a) ∧ w.cell? ⟨(ad.add (i.toNat * 8)).block, (ad.add (i.toNat * 8)).off + 4, none⟩ = some (.int .u64 (rdAcc xs i).b) ∧ w.cell? ⟨(ad.add (i.toNat * 8)).block, (ad.add (i.toNat * 8)).off + 5, none⟩ = some (.slice A5 (rdAcc xs i).vals.length c5) ∧ w.cell? ⟨(ad.add (i.toNat * 8)).block, (ad.add (i.toNat * 8)).off + 6, none⟩ = some (.int .u64 (rdAcc xs i).got) ∧ w.cell? ⟨(ad.add (i.toNat * 8)).block, (ad.add (i.toNat * 8)).off + 7, none⟩ = some (.bool (rdAcc xs i).ok) ∧ (rdAcc xs i).vals.length ≤ c5 ∧ (Kd.int .u64).C w A5 (rdAcc xs i).vals.length (rdAcc xs i).vals := by
  obtain ⟨ad, c, e, _, hK, hc0⟩ := Kd.C_get h zAcc i h0 h1
  have hc : ∀ j u, c[j]? = some u → w.cell? (ad.add (i.toNat * 8 + j)) = some u := hc0
  obtain ⟨A5, c5, rfl, l5, g5⟩ := kAcc_open hK
  exact ⟨ad, A5, c5, e, hc 0 _ rfl, by rw [← add_field _ _ 1 (by omega)]; exact hc 1 _ rfl, by rw [← add_field _ _ 2 (by omega)]; exact hc 2 _ rfl, by rw [← add_field _ _ 3 (by omega)]; exact hc 3 _ rfl, by rw [← add_field _ _ 4 (by omega)]; exact hc 4 _ rfl, by rw [← add_field _ _ 5 (by omega)]; exact hc 5 _ rfl, by rw [← add_field _ _ 6 (by omega)]; exact hc 6 _ rfl, by rw [← add_field _ _ 7 (by omega)]; exact hc 7 _ rfl, l5, g5⟩

/-- Kd.R_append at a step of a region that draws its order. -/
theorem step_R {α : Type} {P : Program} {ops : Array Oper} {o : Oper} {a : Act} {K : Act → World → Prop} {Q : Exit → Act → World → Prop} {E : Prop} (d : Kd α) {w0 W : World} (base : Nat) (hgd : o.guard = none) (s x : Operand) (t e : TypeId) (z : Value) (bytes : Nat)
    (ho : o.op = .call { callee := .builtin .append, args := #[s, x], argTypes := #[t, t] })
    (ht : P.underlying t = some (.slice e)) (hinfo : (P.info? e).map (fun i => (i.zero, i.size, i.bytes)) = some (some z, d.sz, bytes)) (hz : z.cells.size = d.sz) (hs0 : 0 < d.sz) (hb0 : 0 < bytes)
    (v : Value) (xs : List α) (p : α) (cs : List Value) (ok okp : Nat → Prop) (hs : a.eval s = v) (hx : a.eval x = .slice (some ⟨W.heap.size, 0, none⟩) 1 1) (hp : d.M W base okp p cs) (hokp : ∀ k, okp k → ok k ∧ some k ≠ v.ownBlock) (hfresh : ∀ k, W.heap.size ≤ k → ok k)
    (HO : d.R e W base ok v xs) (HB : Below base w0 W) (hbase : base ≤ W.heap.size) (hl : (xs.length + 1) * bytes ≤ 140737488355328)
    (h : ∀ v1 w1, d.R e w1 base ok v1 (xs ++ [p]) → Below base w0 w1 → W.grownBy w1 v.ownBlock → (v1.ownBlock = v.ownBlock ∨ ∃ b, v1.ownBlock = some b ∧ W.heap.size ≤ b) → K (a.put o.dst v1) w1) :
    if Region.wanted o (yielded ops a.tmps) = true then Oper.wp P o a (W.alloc (.cells cs.toArray e)).drew K Q else E := by
  have hw : Region.wanted o (yielded ops a.tmps) = true := by simp [Region.wanted, hgd]
  rw [if_pos hw]
  obtain ⟨h0, inner, hown, hr⟩ := HO
  obtain ⟨i0, hi, hzz⟩ := Option.map_eq_some_iff.1 hinfo
  simp only [Prod.mk.injEq] at hzz
  obtain ⟨hz0, hz1, hz2⟩ := hzz
  have hlen : xs.length + 1 ≤ 140737488355328 := Nat.le_trans (Nat.le_mul_of_pos_right _ hb0) hl
  refine wp_append_lies _ s x t ho base e i0 z d.sz bytes ht hi hz0 hz1 hz2 hz hs0 v xs.length inner hs ((hown.alloc _).drew) ⟨W.heap.size, 0, none⟩ 1 1 cs hx (by rw [d.K_len (d.K_of_M hp)]; simp)
    (by simpa using World.news_of_block (w := (W.alloc (.cells cs.toArray e)).drew) (cs := cs.toArray) (t := e) (fr := (0, 0)) (heap_alloc_new W (.cells cs.toArray e))) (d.K_one (d.K_of_M hp)) (by omega) (by simp only [maxLen]; omega) hl (by simp; omega) (W.heap.size + 1) (by simp) ?_
  intro g cap w1 hown1 hg hat hlt
  have hg' : W.grownBy w1 v.ownBlock := World.grownBy.trans (World.grownBy_alloc W _ _) (World.grownBy.trans (b := (W.alloc (.cells cs.toArray e)).drew) ⟨rfl, rfl, rfl, Nat.le_refl _, fun _ _ _ => rfl⟩ hg)
  have hat' : (Value.slice (some ⟨g, 0, none⟩) (xs.length + 1) cap).ownBlock = v.ownBlock ∨ ∃ b, (Value.slice (some ⟨g, 0, none⟩) (xs.length + 1) cap).ownBlock = some b ∧ W.heap.size ≤ b := by
    rcases hat with hat | hat
    · exact .inl hat.symm
    · exact .inr ⟨g, rfl, by omega⟩
  exact h _ w1 (Kd.R_appended h0 hr hp hokp hfresh hown1 hg' hat') ((HB.alloc hbase _).drew.grown hg (by simp; omega) (own_base hown)) hg' hat'
theorem infoU64 : (Try.prog.info? 33).map (fun i => (i.zero, i.size, i.bytes)) = some (some (.int .u64 0), 1, 8) := by kernel_rfl
theorem infoAcc : (Try.prog.info? 122).map (fun i => (i.zero, i.size, i.bytes)) = some (some (.agg #[.int .i64 0, .int .u8 0, .int .u64 0, .int .u64 0, .int .u64 0, .slice none 0 0, .int .u64 0, .bool false]), 8, 80) := by kernel_rfl
theorem calls_q {P : Program} {f : FuncId} {args : Array Value} {w : World} {n : Nat} {v : Value} (h : Calls P f args (w.drewN n) fun e w' => e = .returned v ∧ w.drewN n = w') : Calls P f args (w.drewN n) fun e w'' => e = .returned v ∧ ∃ m, w'' = w.drewN m :=
  h.mono fun _ _ ⟨he, hm⟩ => ⟨he, n, hm.symm⟩
end Go.Proofs.Ytbpkepcbmenbcaa.Ar
