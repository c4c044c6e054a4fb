import Derived.Test.YthblincfnfpgbaaQxH4a
namespace Go.Proofs.Ythblincfnfpgbaa.Q
open Go.RowKit Go.Proofs.YthblincfnfpgbaaW.PrintWords Go.Proofs.YthblincfnfpgbaaW.PrintLast Go.Proofs.YthblincfnfpgbaaW.PrintMore
set_option linter.unusedVariables false
set_option maxHeartbeats 4000000 in
set_option maxRecDepth 100000 in
theorem wrong_c (a : Int) (b c : Bool) (d e : Int) (w : World) : Calls Try.prog 44 #[.agg #[.int .u64 a, .bool b, .bool c, .int .u64 d, .int .u64 e]] w fun en w' => en = .returned (.bool (!isRightB ⟨a, b, c, d, e⟩)) ∧ Below w.heap.size w w' := by
  have hu30 := Try.underlying30
  go_enter Try.func44, Try.ntmps44
  go_wp2_with (first | (go_at_call 43; refine (isRight_c _ _ _ _ _ _).mono ?_; rintro en w2 ⟨rfl, hb2⟩; have HB2 := Lib.hid hb2; clear hb2) | ((with_reducible refine gate_dst (N := 1) rfl ?_); refine box_event ?hg (N := 1) ?hd (cs := #[.int .u64 a, .bool b, .bool c, .int .u64 d, .int .u64 e]) (t := 30) ?hr ?_; (case hd => rfl); (case hg => rfl); (case hr => first | (go_simp; done) | (go_simp; rfl)); intro g hg w1 hbox hb; have HB1 := Lib.hid (below_step (Below.refl w.heap.size w) hb); clear hb hg; have c0 : w1.cell? ⟨g, 0, none⟩ = some (.int .u64 a) := (blk_cell hbox 0).trans rfl; have c1 : w1.cell? ⟨g, 1, none⟩ = some (.bool b) := (blk_cell hbox 1).trans rfl; have c2 : w1.cell? ⟨g, 2, none⟩ = some (.bool c) := (blk_cell hbox 2).trans rfl; have c3 : w1.cell? ⟨g, 3, none⟩ = some (.int .u64 d) := (blk_cell hbox 3).trans rfl; have c4 : w1.cell? ⟨g, 4, none⟩ = some (.int .u64 e) := (blk_cell hbox 4).trans rfl; have hfz := blk_frozen hbox; clear hbox))
  go_ret
  exact ⟨rfl, HB1.out.trans (HB2.out.mono HB1.out.size)⟩
set_option maxHeartbeats 4000000 in
set_option maxRecDepth 100000 in
theorem index_c (A : Option Addr) (c : Nat) (l : List S30) (w : World) (hA : Kd.C k30 w A l.length l) (hl : l.length < 4398046511104) :
    Calls Try.prog 89 #[.slice A l.length c, .func (.func 44) #[] #[]] w fun e w' => ∃ i : Int, e = .returned (.int .i64 i) ∧ decide (0 ≤ i) = l.any (fun x => !isRightB x) ∧ Below w.heap.size w w' := by
  have hu30 := Try.underlying30
  have HL := Lib.hid hl
  have HA := Lib.hid hA
  clear hA hl
  go_enter Try.func89, Try.ntmps89
  go_wp2
  go_loopg [8] l.length (fun kq v w' => ∃ i : Nat, v = .int .i64 i ∧ Hid (kq + i = l.length) ∧ Hid (l.any (fun x => !isRightB x) = (l.drop i).any (fun x => !isRightB x)) ∧ Hid (Below w.heap.size w w'))
  case atStart => exact ⟨0, rfl, Lib.hid (by omega), Lib.hid rfl, Lib.hid (Below.refl _ _)⟩
  case round =>
    obtain ⟨i, rfl, HQ, HX, HW⟩ := hrel
    by_cases hlt : i < l.length
    · have hlt1 : (i : Int) < (l.length : Int) := by omega
      obtain ⟨ad, rfl, p1, p2, p3, p4, p5⟩ := at30 (Kd.C_below HA.out HW.out) i hlt
      generalize hx : l[i] = x at p1 p2 p3 p4 p5
      have HY := Lib.hid hx
      clear hx
      obtain ⟨f0, f1, f2, f3, f4⟩ := x
      dsimp only at p1 p2 p3 p4 p5
      go_wp2_with fail
      go_at_call 44
      refine (wrong_c _ _ _ _ _ _).mono ?_
      rintro e w1 ⟨rfl, hb⟩
      have HB1 := Lib.hid (HW.out.trans (hb.mono HW.out.size))
      clear hb p1 p2 p3 p4 p5
      generalize hr : isRightB ⟨f0, f1, f2, f3, f4⟩ = r
      have HR := Lib.hid hr
      clear hr
      cases r
      · go_wp2
        go_ret
        refine ⟨i, rfl, ?_, HB1.out⟩
        rw [HX.out, List.drop_eq_getElem_cons hlt, HY.out, List.any_cons, HR.out]
        simp
      · go_wp2
        go_roundg (gk - 1)
        case measure => have := HQ.out; omega
        case rel =>
          refine ⟨i + 1, wsucc i (by have := HL.out; omega), Lib.hid (by have := HQ.out; omega), Lib.hid ?_, HB1⟩
          rw [HX.out, List.drop_eq_getElem_cons hlt, HY.out, List.any_cons, HR.out]
          rfl
    · have hlt1 : ¬ (i : Int) < (l.length : Int) := by omega
      have he : (l.drop i) = [] := List.drop_of_length_le (by omega)
      have HE := Lib.hid he
      clear he
      go_wp2
      go_ret
      refine ⟨-1, rfl, ?_, HW.out⟩
      rw [HX.out, HE.out]
      rfl
set_option maxHeartbeats 4000000 in
set_option maxRecDepth 100000 in
theorem contains_c (A : Option Addr) (c : Nat) (l : List S30) (w : World) (hA : Kd.C k30 w A l.length l) (hl : l.length < 4398046511104) :
    Calls Try.prog 47 #[.slice A l.length c, .func (.func 44) #[] #[]] w fun e w' => e = .returned (.bool (l.any (fun x => !isRightB x))) ∧ Below w.heap.size w w' := by
  have HL := Lib.hid hl
  have HA := Lib.hid hA
  clear hA hl
  go_enter Try.func47, Try.ntmps47
  go_wp2_with (go_at_call 89; refine (index_c _ _ _ _ HA.out HL.out).mono ?_; rintro e w' ⟨i, rfl, hi, hb⟩)
  go_ret
  first | exact ⟨rfl, hb⟩ | exact ⟨ret_bool hi, hb⟩
end Go.Proofs.Ythblincfnfpgbaa.Q
