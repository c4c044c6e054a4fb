import Derived.Test.YthblincfnfpgbaaQx6
import Derived.Outline
import Derived.IntWalk
import Derived.Lib.Hide
namespace Go.Proofs.Ythblincfnfpgbaa.Q
open Go.RowKit Go.Proofs.YthblincfnfpgbaaW.PrintWords Go.Proofs.YthblincfnfpgbaaW.PrintLast Go.Proofs.YthblincfnfpgbaaW.PrintMore
set_option linter.unusedVariables false
/-- Do the keys rise? -/
def risingS : List S82 → Bool
  | a :: b :: l => decide (a.f0 < b.f0) && risingS (b :: l)
  | _ => true
def dump_right.f (l : List S82) : Option Bool := some (risingS l)

theorem risingS_drop (l : List S82) (i : Nat) (h : i + 1 < l.length) : risingS (l.drop i) = (decide (l[i].f0 < l[i+1].f0) && risingS (l.drop (i+1))) := by
  rw [List.drop_eq_getElem_cons (by omega), List.drop_eq_getElem_cons (by omega : i + 1 < l.length)]
  rfl
theorem risingS_end (l : List S82) (i : Nat) (h : l.length ≤ i + 1) : risingS (l.drop i) = true := by
  have h1 : (l.drop i).length ≤ 1 := by rw [List.length_drop]; omega
  match hd : l.drop i, h1 with
  | [], _ => rfl
  | [x], _ => rfl

theorem pairKey_c (k v : Int) (w : World) : Calls Try.prog 41 #[.agg #[.int .u64 k, .int .u64 v]] w fun e w' => e = .returned (.int .u64 k) ∧ Below w.heap.size w w' := dump_pairKey.calls k v k w rfl

theorem ret_bool {a b : Bool} (h : a = b) : Ending.returned (.bool a) = .returned (.bool b) := by rw [h]
theorem keep4 {w w1 w2 : World} {p1 p2 p3 p4 : Addr} {v1 v2 v3 v4 : Value} (h : Below w.heap.size w w1 ∧ w1.cell? p1 = some v1 ∧ w1.cell? p2 = some v2 ∧ w1.cell? p3 = some v3 ∧ w1.cell? p4 = some v4) (hb : Below w1.heap.size w1 w2) :
    Below w.heap.size w w2 ∧ w2.cell? p1 = some v1 ∧ w2.cell? p2 = some v2 ∧ w2.cell? p3 = some v3 ∧ w2.cell? p4 = some v4 :=
  ⟨h.1.trans (hb.mono h.1.size), pw_cell_below hb h.2.1, pw_cell_below hb h.2.2.1, pw_cell_below hb h.2.2.2.1, pw_cell_below hb h.2.2.2.2⟩
theorem rd82 (l : List S82) (i : Int) (k : Nat) (hk : i = k) (h : k < l.length) : rd_T82 l i = l[k] := by
  subst hk; unfold rd_T82; simp [List.getD_eq_getElem?_getD, List.getElem?_eq_getElem h]
set_option maxHeartbeats 2000000 in
set_option maxRecDepth 100000 in
theorem rising_c (A : Option Addr) (c : Nat) (l : List S82) (w : World) (hA : Kd.C k82 w A l.length l) (hl : l.length ≤ 9223372036854775807) :
    Calls Try.prog 88 #[.slice A l.length c, .func (.func 41) #[] #[]] w fun e w' => e = .returned (.bool (risingS l)) ∧ Below w.heap.size w w' := by
  have hu82 := Try.underlying82
  have HL := Lib.hid hl
  have HA := Lib.hid hA
  clear hA hl
  go_enter Try.func88, Try.ntmps88
  go_wp2
  go_loopg [5] l.length (fun kq v w' => ∃ x : Int, v = .int .i64 x ∧ Hid (∃ i : Nat, x = i + 1 ∧ i + kq = l.length ∧ risingS l = risingS (l.drop i)) ∧ Hid (Below w.heap.size w w'))
  case atStart => exact ⟨1, rfl, Lib.hid ⟨0, by omega, by omega, rfl⟩, Lib.hid (Below.refl _ _)⟩
  case round =>
    obtain ⟨x, rfl, HI, HB⟩ := hrel
    by_cases hlt : x < (l.length : Int)
    · obtain ⟨j, hj⟩ : ∃ j : Int, j = x - 1 := ⟨_, rfl⟩
      have b1 : 0 ≤ j := by obtain ⟨i, h1, h2, h3⟩ := HI.out; omega
      have b2 : j < (l.length : Int) := by omega
      have b3 : 0 ≤ x := by omega
      obtain ⟨a, rfl, hp1, hp2⟩ := at_T82 (Kd.C_below HA.out HB.out) j b1 b2
      obtain ⟨a', hh, hq1, hq2⟩ := at_T82 (Kd.C_below HA.out HB.out) x b3 hlt
      obtain rfl : a = a' := by injection hh
      clear hh
      have hw : IntKind.i64.wrap (x - 1) = j := by rw [← hj]; exact IntWalk.i64_in _ (by have := HL.out; omega)
      have HJ := Lib.hid hj
      clear hj
      generalize hy : rd_T82 l j = y at *
      generalize hz : rd_T82 l x = z at *
      have HY := Lib.hid hy
      have HZ := Lib.hid hz
      clear hy hz
      obtain ⟨y1, y2⟩ := y
      obtain ⟨z1, z2⟩ := z
      have hlt' := eq_true hlt
      go_wp2
      go_region_held3 (fun w' => Below w.heap.size w w' ∧ w'.cell? (a.add (j.toNat * 2)) = some (.int .u64 y1) ∧ w'.cell? ⟨(a.add (j.toNat * 2)).block, (a.add (j.toNat * 2)).off + 1, none⟩ = some (.int .u64 y2) ∧ w'.cell? (a.add (x.toNat * 2)) = some (.int .u64 z1) ∧ w'.cell? ⟨(a.add (x.toNat * 2)).block, (a.add (x.toNat * 2)).off + 1, none⟩ = some (.int .u64 z2)) (first | exact ⟨HB.out.drew, hp1, hp2, hq1, hq2⟩ | exact keep4 (by assumption) hb) (first | (go_at_call 41; refine (pairKey_c _ _ _).mono ?_; rintro e w' ⟨rfl, hb⟩))
      rename_i hS
      have HB1 := Lib.hid hS.1
      clear hS hb hp1 hp2 hq1 hq2 hw HB b1 b2 hlt'
      have hm : x ≤ 9223372036854775806 := by have := HL.out; omega
      have HLT := Lib.hid hlt
      clear hlt
      by_cases hc : z1 ≤ y1
      · have hcb : decide (z1 ≤ y1) = true := decide_eq_true hc
        go_wp2
        go_ret
        refine ⟨ret_bool (?_ : false = risingS l), HB1.out⟩
        obtain ⟨i, h1, h2, h3⟩ := HI.out
        have h4 := HLT.out
        have h5 := HJ.out
        have e1 := HY.out
        have e2 := HZ.out
        rw [rd82 l j i (by omega) (by omega)] at e1
        rw [rd82 l x (i+1) (by omega) (by omega)] at e2
        rw [h3, risingS_drop l i (by omega), e1, e2, decide_eq_false (show ¬ y1 < z1 by omega)]
        rfl
      · have hcb : decide (z1 ≤ y1) = false := decide_eq_false hc
        go_wp2
        go_roundg (gk - 1)
        case measure => obtain ⟨i, h1, h2, h3⟩ := HI.out; have := HLT.out; omega
        case rel =>
          refine ⟨x + 1, rfl, Lib.hid ?_, HB1⟩
          obtain ⟨i, h1, h2, h3⟩ := HI.out
          have h4 := HLT.out
          have h5 := HJ.out
          have e1 := HY.out
          have e2 := HZ.out
          rw [rd82 l j i (by omega) (by omega)] at e1
          rw [rd82 l x (i+1) (by omega) (by omega)] at e2
          refine ⟨i + 1, by omega, by omega, ?_⟩
          rw [h3, risingS_drop l i (by omega), e1, e2, decide_eq_true (show y1 < z1 by omega)]
          rfl
    · have hlt' := eq_false hlt
      have HLT := Lib.hid hlt
      clear hlt
      go_wp2
      go_ret
      refine ⟨ret_bool (?_ : true = risingS l), HB.out⟩
      obtain ⟨i, h1, h2, h3⟩ := HI.out
      have h4 := HLT.out
      rw [h3, risingS_end l i (by omega)]
theorem dump_right.calls (A0 : Option Addr) (c0 : Nat) (l0 : List S82) (r : Bool) (w : World) (hr0 : Kd.C k82 w A0 l0.length l0) (hc0 : l0.length ≤ c0) (h : dump_right.f l0 = some r) :
    Calls Try.prog 39 #[.slice A0 l0.length c0] w fun e w' => e = .returned (.bool r) ∧ Below w.heap.size w w' := by
  obtain rfl := Option.some.inj h
  have HA := Lib.hid hr0
  clear hr0 hc0 h
  go_enter Try.func39, Try.ntmps39
  go_wp2_with (go_at_call 88; refine (rising_c _ _ _ _ HA.out HA.out.2.1).mono ?_; rintro e w' ⟨rfl, hb⟩)
  go_ret
  exact ⟨rfl, hb⟩
end Go.Proofs.Ythblincfnfpgbaa.Q
