import Derived.Test.YtbpkepcbmenbcaaNoR
import Derived.Test.YtbpkepcbmenbcaaNoO
import Derived.Test.YtbpkepcbmenbcaaNoW2
namespace Go.Proofs.Ytbpkepcbmenbcaa.Ar
open Go.RowKit Go.WideShapes Go.Proofs.YtbpkepcbmenbcaaW.PrintWords Go.Proofs.YtbpkepcbmenbcaaW.PrintLast Go.Proofs.YtbpkepcbmenbcaaW.PrintMore Go.Proofs.Ytbpkepcbmenbcaa.Open
set_option linter.unusedVariables false
/-! #### struct Part -/
structure SPart where
  a : Int
  ha : Int
  b : Int
  hb : Int
  level : Int
def zPart : SPart := ⟨0, 0, 0, 0, 0⟩
def kPart : Kd SPart := Kd.iso (Kd.pair (Kd.int .u64) (Kd.pair (Kd.int .u64) (Kd.pair (Kd.int .u64) (Kd.pair (Kd.int .u64) (Kd.int .i64))))) (fun x : SPart => (x.a, x.ha, x.b, x.hb, x.level))
theorem kPart_open {w : World} {x : SPart} {cs : List Value} (h : kPart.K w x cs) : cs = [.int .u64 x.a, .int .u64 x.ha, .int .u64 x.b, .int .u64 x.hb, .int .i64 x.level] := by
  obtain ⟨_, _, rfl, rfl, ⟨_, _, rfl, rfl, ⟨_, _, rfl, rfl, ⟨_, _, rfl, rfl, rfl⟩⟩⟩⟩ := h
  exact rfl
theorem kPart_openM {w : World} {base : Nat} {ok : Nat → Prop} {x : SPart} {cs : List Value} (h : kPart.M w base ok x cs) : cs = [.int .u64 x.a, .int .u64 x.ha, .int .u64 x.b, .int .u64 x.hb, .int .i64 x.level] := by
  obtain ⟨_, _, rfl, rfl, ⟨_, _, rfl, rfl, ⟨_, _, rfl, rfl, ⟨_, _, rfl, rfl, rfl⟩⟩⟩⟩ := h
  exact rfl
theorem kPart_mk (w : World) (x : SPart) : kPart.K w x [.int .u64 x.a, .int .u64 x.ha, .int .u64 x.b, .int .u64 x.hb, .int .i64 x.level] := ⟨[.int .u64 x.a], [.int .u64 x.ha, .int .u64 x.b, .int .u64 x.hb, .int .i64 x.level], rfl, rfl, ⟨[.int .u64 x.ha], [.int .u64 x.b, .int .u64 x.hb, .int .i64 x.level], rfl, rfl, ⟨[.int .u64 x.b], [.int .u64 x.hb, .int .i64 x.level], rfl, rfl, ⟨[.int .u64 x.hb], [.int .i64 x.level], rfl, rfl, rfl⟩⟩⟩⟩
theorem kPart_mkM (w : World) (base : Nat) (ok : Nat → Prop) (x : SPart) : kPart.M w base ok x [.int .u64 x.a, .int .u64 x.ha, .int .u64 x.b, .int .u64 x.hb, .int .i64 x.level] := ⟨[.int .u64 x.a], [.int .u64 x.ha, .int .u64 x.b, .int .u64 x.hb, .int .i64 x.level], rfl, rfl, ⟨[.int .u64 x.ha], [.int .u64 x.b, .int .u64 x.hb, .int .i64 x.level], rfl, rfl, ⟨[.int .u64 x.b], [.int .u64 x.hb, .int .i64 x.level], rfl, rfl, ⟨[.int .u64 x.hb], [.int .i64 x.level], rfl, rfl, rfl⟩⟩⟩⟩
def rdPart (xs : List SPart) (i : Int) : SPart := xs.getD i.toNat zPart
theorem atPart {w : World} {A : Option Addr} {n : Nat} {xs : List SPart} (h : Kd.C kPart w A n xs) (i : Int) (h0 : 0 ≤ i) (h1 : i < n) : ∃ ad, A = some ad ∧ w.cell? (ad.add (i.toNat * 5)) = some (.int .u64 (rdPart xs i).a) ∧ w.cell? ⟨(ad.add (i.toNat * 5)).block, (ad.add (i.toNat * 5)).off + 1, none⟩ = some (.int .u64 (rdPart xs i).ha) ∧ w.cell? ⟨(ad.add (i.toNat * 5)).block, (ad.add (i.toNat * 5)).off + 2, none⟩ = some (.int .u64 (rdPart xs i).b) ∧ w.cell? ⟨(ad.add (i.toNat * 5)).block, (ad.add (i.toNat * 5)).off + 3, none⟩ = some (.int .u64 (rdPart xs i).hb) ∧ w.cell? ⟨(ad.add (i.toNat * 5)).block, (ad.add (i.toNat * 5)).off + 4, none⟩ = some (.int .i64 (rdPart xs i).level) := by
  obtain ⟨ad, c, e, _, hK, hc0⟩ := Kd.C_get h zPart i h0 h1
  have hc : ∀ j u, c[j]? = some u → w.cell? (ad.add (i.toNat * 5 + j)) = some u := hc0
  obtain rfl := kPart_open hK
  exact ⟨ad, e, hc 0 _ rfl, by rw [← add_field _ _ 1 (by omega)]; exact hc 1 _ rfl, by rw [← add_field _ _ 2 (by omega)]; exact hc 2 _ rfl, by rw [← add_field _ _ 3 (by omega)]; exact hc 3 _ rfl, by rw [← add_field _ _ 4 (by omega)]; exact hc 4 _ rfl⟩

def wfPart (x : SPart) : Prop := (Lit.int .u64 x.a).wf = true ∧ (Lit.int .u64 x.ha).wf = true ∧ (Lit.int .u64 x.b).wf = true ∧ (Lit.int .u64 x.hb).wf = true ∧ (Lit.int .i64 x.level).wf = true
theorem opensPart : Opens Try.prog kPart 81 (fun _ => 1 + (1 + (1 + (1 + 1))) + 1) wfPart := by
  intro H enc w base held fuel cs x h
  obtain ⟨a, h1, h2, h3⟩ := opens_struct (g := fun x : SPart => (x.a, x.ha, x.b, x.hb, x.level)) (fun a => ⟨a.1, a.2.1, a.2.2.1, a.2.2.2.1, a.2.2.2.2⟩) (fun _ => rfl) Try.underlying81 (by kernel_rfl) (opens_cons (opens_int Try.underlying33) rfl (by kernel_rfl) (opens_cons (opens_int Try.underlying33) rfl (by kernel_rfl) (opens_cons (opens_int Try.underlying33) rfl (by kernel_rfl) (opens_cons (opens_int Try.underlying33) rfl (by kernel_rfl) (opens_last (opens_int Try.underlying3) rfl (by kernel_rfl)))))) h
  exact ⟨a, h1, h2, h3⟩
theorem parts_c (a ha b hb level : Int) (w : World) (hua : isU ha) (hub : isU hb) :
    Calls Try.prog 6 #[.agg #[.int .u64 a, .int .u64 ha, .int .u64 b, .int .u64 hb, .int .i64 level]] w fun e w' => e = .returned (.bool true) ∧ Below w.heap.size w w' := by
  by_cases h : 0 ≤ level
  · by_cases h2 : partN 11 ha hb level < 11
    · exact parts_part a ha b hb level w hua hub h h2
    · exact parts_known a ha b hb level w hua hub h (by omega)
  · by_cases h2 : partN 11 ha hb 0 < 11
    · exact parts_partN a ha b hb level w hua hub (by omega) h2
    · exact parts_knownN a ha b hb level w hua hub (by omega) (by omega)
set_option maxRecDepth 100000 in
theorem parts_walk (W : World) (v : Value) (x : SPart) (hK : kPart.K W x v.cells.toList) (hw : wfPart x) {base : Nat} (hv : Value.okWide Try.prog W .any base 81 v) :
    Calls Try.prog 6 #[v] W fun e W' => e = .returned (.bool true) ∧ Below W.heap.size W W' := by
  obtain ⟨cs, rfl, -⟩ := okWide_struct Try.underlying81 hv
  have h1 := kPart_open hK
  have h2 : cs = #[.int .u64 x.a, .int .u64 x.ha, .int .u64 x.b, .int .u64 x.hb, .int .i64 x.level] := by
    have h3 : cs.toList = _ := h1
    exact Array.toList_inj.1 (by rw [h3])
  rw [h2]
  exact parts_c _ _ _ _ _ W (isU_of hw.2.1) (isU_of hw.2.2.2.1)
end Go.Proofs.Ytbpkepcbmenbcaa.Ar
