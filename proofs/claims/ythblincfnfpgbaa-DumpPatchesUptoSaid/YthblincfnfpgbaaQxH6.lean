import Derived.Test.YthblincfnfpgbaaQxN
import Derived.BigRegion
import Derived.Outline
import Derived.IntWalk
import Derived.BigQuiet
import Derived.Deep.QuietTactic
import Derived.Deep.DeepCutAuto
namespace Go.Proofs.Ythblincfnfpgbaa.Q
open Go.RowKit Go.Proofs.YthblincfnfpgbaaW.PrintWords Go.Proofs.YthblincfnfpgbaaW.PrintLast Go.Proofs.YthblincfnfpgbaaW.PrintMore
set_option linter.unusedVariables false
set_option linter.unusedSimpArgs false
/-- Is a change none? -/
def badX (c : S102) : Bool := (!c.f1 && !c.f2) || (!c.f1 && (c.f3 != 0)) || (!c.f2 && (c.f4 != 0)) || (c.f1 && c.f2 && (c.f3 == c.f4))
def okAt (l : List S102) (i : Int) : Bool := !badX (rd_T102 l i) && (decide (i ≤ 0) || decide ((rd_T102 l (i - 1)).f0 < (rd_T102 l i).f0))
/-- The last n are right. -/
def okN (l : List S102) : Nat → Bool
  | 0 => true
  | n + 1 => okAt l (l.length - (n + 1 : Nat)) && okN l n
def shutterref27_changes.f (l : List S102) : Option Bool := some (okN l l.length)
set_option maxHeartbeats 4000000 in
set_option maxRecDepth 100000 in
theorem changes_c (A : Option Addr) (c : Nat) (l : List S102) (w : World) (hA : Kd.C k102 w A l.length l) :
    Calls Try.prog 51 #[.slice A l.length c] w fun e w' => e = .returned (.bool (okN l l.length)) ∧ Below w.heap.size w w' := by
  have hu102 := Try.underlying102
  have HL := Lib.hid hA.2.1
  have HA := Lib.hid hA
  clear hA
  go_enter Try.func51, Try.ntmps51
  go_wp2
  go_loopg [3] l.length (fun kq v w' => ∃ x : Int, v = .int .i64 x ∧ 0 ≤ x ∧ Hid (x + kq = l.length) ∧ Hid (okN l l.length = okN l kq) ∧ Hid (Below w.heap.size w w'))
  case atStart => exact ⟨0, rfl, by omega, Lib.hid (by omega), Lib.hid rfl, Lib.hid (Below.refl _ _)⟩
  case round =>
    obtain ⟨x, rfl, hx0, HI, HO, HB⟩ := hrel
    by_cases hlt : x < (l.length : Int)
    · have HK : Hid (∃ m, gk = m + 1 ∧ okN l gk = (okAt l x && okN l m)) := Lib.hid (by
        have h1 := HI.out
        obtain ⟨m, rfl⟩ : ∃ m, gk = m + 1 := ⟨gk - 1, by omega⟩
        refine ⟨m, rfl, ?_⟩
        rw [okN, show (l.length : Int) - ((m + 1 : Nat) : Int) = x by omega])
      obtain ⟨a, rfl, q1, q2, q3, q4, q5⟩ := at_T102 (Kd.C_below HA.out HB.out) x hx0 hlt
      have hlt' := eq_true hlt
      have hxl : x ≤ 9223372036854775806 := by have := HL.out; omega
      obtain ⟨r, hr⟩ : ∃ r : Bool, r = !okAt l x := ⟨_, rfl⟩
      have HR := Lib.hid hr
      clear hr
      go_upto_region 5 with fail
      go_cut [72] (fun v wx => v = .bool r ∧ Hid (Below w.heap.size w wx))
      case first =>
        by_cases hp : 0 < x
        · obtain ⟨j, hj⟩ : ∃ j : Int, j = x - 1 := ⟨_, rfl⟩
          have b1 : 0 ≤ j := by omega
          have b2 : j < (l.length : Int) := by omega
          obtain ⟨a', hh, p1, p2, p3, p4, p5⟩ := at_T102 (Kd.C_below HA.out HB.out) j b1 b2
          obtain rfl : a = a' := by injection hh
          have hw : IntKind.i64.wrap (x - 1) = j := by rw [← hj]; exact IntWalk.i64_in _ (by have := HL.out; omega)
          have HQ := Lib.hid (show r = !(!badX (rd_T102 l x) && (decide (x ≤ 0) || decide ((rd_T102 l (x - 1)).f0 < (rd_T102 l x).f0))) from HR.out)
          rw [← hj] at HQ
          clear hh hj p2 p3 p4 p5 HR HK
          generalize rd_T102 l x = y at *
          generalize rd_T102 l j = z at *
          obtain ⟨y1, y2, y3, y4, y5⟩ := y
          obtain ⟨z1, z2, z3, z4, z5⟩ := z
          dsimp only at *
          have d1 : decide (0 < x) = true := decide_eq_true hp
          have hx1 : ¬ x ≤ 0 := by omega
          have hne := World.new_ne wr _ p1
          have hbl := World.block_lt_of_cell? wr _ p1
          cases y2 <;> cases y3
          · go_quiet (fail)
            go_wp2_with fail
            go_meet
            exact ⟨congrArg Value.bool (by rw [HQ.out]; simp [badX]), Lib.hid (pw_below_drewN (HB.out.alloc HB.out.size _) _)⟩
          · cases hb : (y4 != 0)
            · by_cases hk : y1 ≤ z1
              · have hkb : decide (y1 ≤ z1) = true := decide_eq_true hk
                go_quiet (fail)
                go_wp2_with fail
                go_meet
                exact ⟨congrArg Value.bool (by rw [HQ.out]; simp [badX, hb, hk, hx1]), Lib.hid (pw_below_drewN (HB.out.alloc HB.out.size _) _)⟩
              · have hkb : decide (y1 ≤ z1) = false := decide_eq_false hk
                go_quiet (fail)
                go_wp2_with fail
                go_meet
                exact ⟨congrArg Value.bool (by rw [HQ.out]; simp [badX, hb, hk, hx1]), Lib.hid (pw_below_drewN (HB.out.alloc HB.out.size _) _)⟩
            · go_quiet (fail)
              go_wp2_with fail
              go_meet
              exact ⟨congrArg Value.bool (by rw [HQ.out]; simp [badX, hb]), Lib.hid (pw_below_drewN (HB.out.alloc HB.out.size _) _)⟩
          · cases hb : (y5 != 0)
            · by_cases hk : y1 ≤ z1
              · have hkb : decide (y1 ≤ z1) = true := decide_eq_true hk
                go_quiet (fail)
                go_wp2_with fail
                go_meet
                exact ⟨congrArg Value.bool (by rw [HQ.out]; simp [badX, hb, hk, hx1]), Lib.hid (pw_below_drewN (HB.out.alloc HB.out.size _) _)⟩
              · have hkb : decide (y1 ≤ z1) = false := decide_eq_false hk
                go_quiet (fail)
                go_wp2_with fail
                go_meet
                exact ⟨congrArg Value.bool (by rw [HQ.out]; simp [badX, hb, hk, hx1]), Lib.hid (pw_below_drewN (HB.out.alloc HB.out.size _) _)⟩
            · go_quiet (fail)
              go_wp2_with fail
              go_meet
              exact ⟨congrArg Value.bool (by rw [HQ.out]; simp [badX, hb]), Lib.hid (pw_below_drewN (HB.out.alloc HB.out.size _) _)⟩
          · cases hb : (y4 == y5)
            · by_cases hk : y1 ≤ z1
              · have hkb : decide (y1 ≤ z1) = true := decide_eq_true hk
                go_quiet (fail)
                go_wp2_with fail
                go_meet
                exact ⟨congrArg Value.bool (by rw [HQ.out]; simp [badX, hb, hk, hx1]), Lib.hid (pw_below_drewN (HB.out.alloc HB.out.size _) _)⟩
              · have hkb : decide (y1 ≤ z1) = false := decide_eq_false hk
                go_quiet (fail)
                go_wp2_with fail
                go_meet
                exact ⟨congrArg Value.bool (by rw [HQ.out]; simp [badX, hb, hk, hx1]), Lib.hid (pw_below_drewN (HB.out.alloc HB.out.size _) _)⟩
            · go_quiet (fail)
              go_wp2_with fail
              go_meet
              exact ⟨congrArg Value.bool (by rw [HQ.out]; simp [badX, hb]), Lib.hid (pw_below_drewN (HB.out.alloc HB.out.size _) _)⟩
        · obtain rfl : x = 0 := by omega
          have HQ := Lib.hid (show r = !(!badX (rd_T102 l 0) && (decide ((0 : Int) ≤ 0) || decide ((rd_T102 l (0 - 1)).f0 < (rd_T102 l 0).f0))) from HR.out)
          clear HR HK
          generalize rd_T102 l (0 - 1) = z at HQ
          generalize rd_T102 l 0 = y at *
          obtain ⟨y1, y2, y3, y4, y5⟩ := y
          dsimp only at *
          cases y2 <;> cases y3
          · go_quiet (fail)
            go_wp2_with fail
            go_meet
            exact ⟨congrArg Value.bool (by rw [HQ.out]; simp [badX]), Lib.hid (pw_below_drewN (HB.out.alloc HB.out.size _) _)⟩
          · cases hb : (y4 != 0)
            · go_quiet (fail)
              go_wp2_with fail
              go_meet
              exact ⟨congrArg Value.bool (by rw [HQ.out]; simp [badX, hb]), Lib.hid (pw_below_drewN (HB.out.alloc HB.out.size _) _)⟩
            · go_quiet (fail)
              go_wp2_with fail
              go_meet
              exact ⟨congrArg Value.bool (by rw [HQ.out]; simp [badX, hb]), Lib.hid (pw_below_drewN (HB.out.alloc HB.out.size _) _)⟩
          · cases hb : (y5 != 0)
            · go_quiet (fail)
              go_wp2_with fail
              go_meet
              exact ⟨congrArg Value.bool (by rw [HQ.out]; simp [badX, hb]), Lib.hid (pw_below_drewN (HB.out.alloc HB.out.size _) _)⟩
            · go_quiet (fail)
              go_wp2_with fail
              go_meet
              exact ⟨congrArg Value.bool (by rw [HQ.out]; simp [badX, hb]), Lib.hid (pw_below_drewN (HB.out.alloc HB.out.size _) _)⟩
          · cases hb : (y4 == y5)
            · go_quiet (fail)
              go_wp2_with fail
              go_meet
              exact ⟨congrArg Value.bool (by rw [HQ.out]; simp [badX, hb]), Lib.hid (pw_below_drewN (HB.out.alloc HB.out.size _) _)⟩
            · go_quiet (fail)
              go_wp2_with fail
              go_meet
              exact ⟨congrArg Value.bool (by rw [HQ.out]; simp [badX, hb]), Lib.hid (pw_below_drewN (HB.out.alloc HB.out.size _) _)⟩
      case rest =>
        obtain ⟨rfl, HB1⟩ := hcut
        clear q1 q2 q3 q4 q5 hlt'
        cases r
        · go_wp2
          go_roundg (gk - 1)
          case measure => obtain ⟨m, rfl, h2⟩ := HK.out; omega
          case rel =>
            obtain ⟨m, rfl, h2⟩ := HK.out
            refine ⟨x + 1, rfl, by omega, Lib.hid (by have := HI.out; omega), Lib.hid ?_, HB1⟩
            have h3 : okAt l x = true := by have := HR.out; simpa using this.symm
            rw [HO.out, h2, h3]
            rfl
        · go_wp2
          go_ret
          obtain ⟨m, h1, h2⟩ := HK.out
          have h3 : okAt l x = false := by have := HR.out; simpa using this.symm
          refine ⟨ret_bool ?_, HB1.out⟩
          rw [HO.out, h2, h3]
          rfl
    · have hlt' := eq_false hlt
      have h0 : Hid (gk = 0) := Lib.hid (by have := HI.out; omega)
      clear hlt
      go_wp2
      go_ret
      refine ⟨ret_bool ?_, HB.out⟩
      rw [HO.out, h0.out]
      rfl
theorem shutterref27_changes.calls (A0 : Option Addr) (c0 : Nat) (l0 : List S102) (r : Bool) (w : World) (hr0 : Kd.C k102 w A0 l0.length l0) (hc0 : l0.length ≤ c0) (h : shutterref27_changes.f l0 = some r) :
    Calls Try.prog 51 #[.slice A0 l0.length c0] w fun e w' => e = .returned (.bool r) ∧ Below w.heap.size w w' := by
  obtain rfl := Option.some.inj h
  exact changes_c A0 c0 l0 w hr0
end Go.Proofs.Ythblincfnfpgbaa.Q
