import Derived.Test.YthblincfnfpgbaaQxH7
import Derived.Test.YthblincfnfpgbaaQx20
namespace Go.Proofs.Ythblincfnfpgbaa.Q
open Go.RowKit Go.Proofs.YthblincfnfpgbaaW.PrintWords Go.Proofs.YthblincfnfpgbaaW.PrintLast Go.Proofs.YthblincfnfpgbaaW.PrintMore
set_option linter.unusedVariables false
/-- Do the changes' keys rise? -/
def risingC : List S30 → Bool
  | a :: b :: l => decide (a.f0 < b.f0) && risingC (b :: l)
  | _ => true
theorem risingC_drop (l : List S30) (i : Nat) (h : i + 1 < l.length) : risingC (l.drop i) = (decide (l[i].f0 < l[i+1].f0) && risingC (l.drop (i+1))) := by
  rw [List.drop_eq_getElem_cons (by omega), List.drop_eq_getElem_cons (by omega : i + 1 < l.length)]
  rfl
theorem risingC_end (l : List S30) (i : Nat) (h : l.length ≤ i + 1) : risingC (l.drop i) = true := by
  have h1 : (l.drop i).length ≤ 1 := by rw [List.length_drop]; omega
  match hd : l.drop i, h1 with
  | [], _ => rfl
  | [x], _ => rfl
theorem changeKey_c (a : Int) (b c : Bool) (d e : Int) (w : World) : Calls Try.prog 46 #[.agg #[.int .u64 a, .bool b, .bool c, .int .u64 d, .int .u64 e]] w fun en w' => en = .returned (.int .u64 a) ∧ Below w.heap.size w w' := dump_changeKey.calls a b c d e a w rfl
theorem keep10 {w w1 w2 : World} {p1 p2 p3 p4 p5 q1 q2 q3 q4 q5 : Addr} {v1 v2 v3 v4 v5 u1 u2 u3 u4 u5 : Value} (h : Below w.heap.size w w1 ∧ w1.cell? p1 = some v1 ∧ w1.cell? p2 = some v2 ∧ w1.cell? p3 = some v3 ∧ w1.cell? p4 = some v4 ∧ w1.cell? p5 = some v5 ∧ w1.cell? q1 = some u1 ∧ w1.cell? q2 = some u2 ∧ w1.cell? q3 = some u3 ∧ w1.cell? q4 = some u4 ∧ w1.cell? q5 = some u5) (hb : Below w1.heap.size w1 w2) :
    Below w.heap.size w w2 ∧ w2.cell? p1 = some v1 ∧ w2.cell? p2 = some v2 ∧ w2.cell? p3 = some v3 ∧ w2.cell? p4 = some v4 ∧ w2.cell? p5 = some v5 ∧ w2.cell? q1 = some u1 ∧ w2.cell? q2 = some u2 ∧ w2.cell? q3 = some u3 ∧ w2.cell? q4 = some u4 ∧ w2.cell? q5 = some u5 :=
  ⟨h.1.trans (hb.mono h.1.size), pw_cell_below hb h.2.1, pw_cell_below hb h.2.2.1, pw_cell_below hb h.2.2.2.1, pw_cell_below hb h.2.2.2.2.1, pw_cell_below hb h.2.2.2.2.2.1, pw_cell_below hb h.2.2.2.2.2.2.1, pw_cell_below hb h.2.2.2.2.2.2.2.1, pw_cell_below hb h.2.2.2.2.2.2.2.2.1, pw_cell_below hb h.2.2.2.2.2.2.2.2.2.1, pw_cell_below hb h.2.2.2.2.2.2.2.2.2.2⟩
theorem rd30 (l : List S30) (i : Int) (k : Nat) (hk : i = k) (h : k < l.length) : rd_T30 l i = l[k] := by
  subst hk; unfold rd_T30; simp [List.getD_eq_getElem?_getD, List.getElem?_eq_getElem h]
set_option maxHeartbeats 4000000 in
set_option maxRecDepth 100000 in
theorem risingC_c (A : Option Addr) (c : Nat) (l : List S30) (w : World) (hA : Kd.C k30 w A l.length l) (hl : l.length < 4398046511104) :
    Calls Try.prog 45 #[.slice A l.length c, .func (.func 46) #[] #[]] w fun e w' => e = .returned (.bool (risingC l)) ∧ Below w.heap.size w w' := by
  have hu30 := Try.underlying30
  have HL := Lib.hid hl
  have HA := Lib.hid hA
  clear hA hl
  go_enter Try.func45, Try.ntmps45
  go_wp2
  go_loopg [5] l.length (fun kq v w' => ∃ x : Int, v = .int .i64 x ∧ Hid (∃ i : Nat, x = i + 1 ∧ i + kq = l.length ∧ risingC l = risingC (l.drop i)) ∧ Hid (Below w.heap.size w w'))
  case atStart => exact ⟨1, rfl, Lib.hid ⟨0, by omega, by omega, rfl⟩, Lib.hid (Below.refl _ _)⟩
  case round =>
    obtain ⟨x, rfl, HI, HB⟩ := hrel
    by_cases hlt : x < (l.length : Int)
    · obtain ⟨j, hj⟩ : ∃ j : Int, j = x - 1 := ⟨_, rfl⟩
      have b1 : 0 ≤ j := by obtain ⟨i, h1, h2, h3⟩ := HI.out; omega
      have b2 : j < (l.length : Int) := by omega
      have b3 : 0 ≤ x := by omega
      obtain ⟨a, rfl, hp1, hp2, hp3, hp4, hp5⟩ := at_T30 (Kd.C_below HA.out HB.out) j b1 b2
      obtain ⟨a', hh, hq1, hq2, hq3, hq4, hq5⟩ := at_T30 (Kd.C_below HA.out HB.out) x b3 hlt
      obtain rfl : a = a' := by injection hh
      clear hh
      have hw : IntKind.i64.wrap (x - 1) = j := by rw [← hj]; exact IntWalk.i64_in _ (by have := HL.out; omega)
      have HJ := Lib.hid hj
      clear hj
      generalize hy : rd_T30 l j = y at *
      generalize hz : rd_T30 l x = z at *
      have HY := Lib.hid hy
      have HZ := Lib.hid hz
      clear hy hz
      obtain ⟨y1, y2, y3, y4, y5⟩ := y
      obtain ⟨z1, z2, z3, z4, z5⟩ := z
      have hlt' := eq_true hlt
      go_wp2
      go_region_held3 (fun w' => Below w.heap.size w w' ∧ w'.cell? (a.add (j.toNat * 5)) = some (.int .u64 y1) ∧ w'.cell? ⟨(a.add (j.toNat * 5)).block, (a.add (j.toNat * 5)).off + 1, none⟩ = some (.bool y2) ∧ w'.cell? ⟨(a.add (j.toNat * 5)).block, (a.add (j.toNat * 5)).off + 2, none⟩ = some (.bool y3) ∧ w'.cell? ⟨(a.add (j.toNat * 5)).block, (a.add (j.toNat * 5)).off + 3, none⟩ = some (.int .u64 y4) ∧ w'.cell? ⟨(a.add (j.toNat * 5)).block, (a.add (j.toNat * 5)).off + 4, none⟩ = some (.int .u64 y5) ∧ w'.cell? (a.add (x.toNat * 5)) = some (.int .u64 z1) ∧ w'.cell? ⟨(a.add (x.toNat * 5)).block, (a.add (x.toNat * 5)).off + 1, none⟩ = some (.bool z2) ∧ w'.cell? ⟨(a.add (x.toNat * 5)).block, (a.add (x.toNat * 5)).off + 2, none⟩ = some (.bool z3) ∧ w'.cell? ⟨(a.add (x.toNat * 5)).block, (a.add (x.toNat * 5)).off + 3, none⟩ = some (.int .u64 z4) ∧ w'.cell? ⟨(a.add (x.toNat * 5)).block, (a.add (x.toNat * 5)).off + 4, none⟩ = some (.int .u64 z5)) (first | exact ⟨HB.out.drew, hp1, hp2, hp3, hp4, hp5, hq1, hq2, hq3, hq4, hq5⟩ | exact keep10 (by assumption) hb) (first | (go_at_call 46; refine (changeKey_c _ _ _ _ _ _).mono ?_; rintro e w' ⟨rfl, hb⟩))
      rename_i hS
      have HB1 := Lib.hid hS.1
      clear hS hb hp1 hp2 hp3 hp4 hp5 hq1 hq2 hq3 hq4 hq5 hw HB b1 b2 hlt'
      have hm : x ≤ 9223372036854775806 := by have := HL.out; omega
      have HLT := Lib.hid hlt
      clear hlt
      by_cases hc : z1 ≤ y1
      · have hcb : decide (z1 ≤ y1) = true := decide_eq_true hc
        go_wp2
        go_ret
        refine ⟨ret_bool (?_ : false = risingC l), HB1.out⟩
        obtain ⟨i, h1, h2, h3⟩ := HI.out
        have h4 := HLT.out
        have h5 := HJ.out
        have e1 := HY.out
        have e2 := HZ.out
        rw [rd30 l j i (by omega) (by omega)] at e1
        rw [rd30 l x (i+1) (by omega) (by omega)] at e2
        rw [h3, risingC_drop l i (by omega), e1, e2, decide_eq_false (show ¬ y1 < z1 by omega)]
        rfl
      · have hcb : decide (z1 ≤ y1) = false := decide_eq_false hc
        go_wp2
        go_roundg (gk - 1)
        case measure => obtain ⟨i, h1, h2, h3⟩ := HI.out; have := HLT.out; omega
        case rel =>
          refine ⟨x + 1, rfl, Lib.hid ?_, HB1⟩
          obtain ⟨i, h1, h2, h3⟩ := HI.out
          have h4 := HLT.out
          have h5 := HJ.out
          have e1 := HY.out
          have e2 := HZ.out
          rw [rd30 l j i (by omega) (by omega)] at e1
          rw [rd30 l x (i+1) (by omega) (by omega)] at e2
          refine ⟨i + 1, by omega, by omega, ?_⟩
          rw [h3, risingC_drop l i (by omega), e1, e2, decide_eq_true (show y1 < z1 by omega)]
          rfl
    · have hlt' := eq_false hlt
      have HLT := Lib.hid hlt
      clear hlt
      go_wp2
      go_ret
      refine ⟨ret_bool (?_ : true = risingC l), HB.out⟩
      obtain ⟨i, h1, h2, h3⟩ := HI.out
      have h4 := HLT.out
      rw [h3, risingC_end l i (by omega)]
end Go.Proofs.Ythblincfnfpgbaa.Q
