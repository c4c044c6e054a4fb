import Derived.Test.YthblincfnfpgbaaQx45
import Derived.Test.YthblincfnfpgbaaQx0
import Derived.Test.YthblincfnfpgbaaQxRd
import Derived.Deep.RegionHeld3
import Derived.Deep.DeepCutAuto
import Derived.ChangeKeysEq
import Derived.Laws.StructEq
import Derived.Test.YthblincfnfpgbaaQxRs
import Derived.Test.YthblincfnfpgbaaQxH3
import Derived.WalkLawsBesides
import Derived.Laws.Cover3
import Derived.Test.YthblincfnfpgbaaQxPut
import Derived.Test.YthblincfnfpgbaaQxPB
import Derived.Test.YthblincfnfpgbaaQxHand
import Derived.Test.YthblincfnfpgbaaQxPC
import Derived.Test.YthblincfnfpgbaaQxL
import Derived.Test.YthblincfnfpgbaaQxLive
import Derived.Test.YthblincfnfpgbaaQxO82
namespace Go.Proofs.Ythblincfnfpgbaa.Q
open Go.RowKit Go.Proofs.YthblincfnfpgbaaW.PrintWords Go.Proofs.YthblincfnfpgbaaW.PrintLast Go.Proofs.YthblincfnfpgbaaW.PrintMore
set_option linter.unusedVariables false
/-- The sum's contract at a row whose length is spelled otherwise. -/
theorem refsum_at (k : Nat) (A0 : Option Addr) (c0 n : Nat) (l0 : List Int) (r : Int) (w : World) (hn : l0.length = n) (hr0 : Kd.C (Kd.int .u8) w A0 l0.length l0) (hc0 : l0.length ≤ c0) (h : shutterref27_sum.f k l0 = some r) :
    Calls Try.prog 59 #[.slice A0 n c0] w fun e w' => e = .returned (.int .u32 r) ∧ Drawn0 w w' := by
  subst hn; exact shutterref27_sum.calls k A0 c0 l0 r w hr0 hc0 h
theorem take_len {l : List Int} {x : Int} (h0 : 0 ≤ x) (h1 : x ≤ (l.length : Int)) : (l.take x.toNat).length = x.toNat := by rw [List.length_take]; omega
end Go.Proofs.Ythblincfnfpgbaa.Q
-- Written by a program of this session over the kit's print.py, which was handed contracts that were proved by hand. Lean checks it.
namespace Go.Proofs.Ythblincfnfpgbaa.Q
open Go.RowKit Go.Proofs.YthblincfnfpgbaaW.PrintWords Go.Proofs.YthblincfnfpgbaaW.PrintLast Go.Proofs.YthblincfnfpgbaaW.PrintMore
attribute [local go_sem] max2_int min2_int max_two min_two max_three min_three max_four min_four   -- for this text's walks alone
set_option linter.unusedVariables false
set_option linter.unusedSimpArgs false

/-! ### shutterref27_number: function 64 -/
mutual
def shutterref27_number.l0 : Nat → List Int → Int → Int → Int → Option (Int × Int × Int)
  | 0, _, _, _, _ => none
  | k + 1, x0, x1, x7, x8 => if (wrap64 (x1 + x8)) ≥ (x0.length : Int) then (some (0, (x0.length : Int), 270)) else (if 0 ≤ (wrap64 (x1 + x8)) then (if (wrap64 (x1 + x8)) < (x0.length : Int) then (if x8 = 9 then (if (rd x0 (wrap64 (x1 + x8))) > 1 then (shutterref27_number.j1 k x0 x1 x7 x8 (rd x0 (wrap64 (x1 + x8))) true) else (if x8 > 0 then (shutterref27_number.j1 k x0 x1 x7 x8 (rd x0 (wrap64 (x1 + x8))) ((rd x0 (wrap64 (x1 + x8))) == 0)) else (shutterref27_number.j1 k x0 x1 x7 x8 (rd x0 (wrap64 (x1 + x8))) false))) else (if x8 > 0 then (shutterref27_number.j1 k x0 x1 x7 x8 (rd x0 (wrap64 (x1 + x8))) ((rd x0 (wrap64 (x1 + x8))) == 0)) else (shutterref27_number.j1 k x0 x1 x7 x8 (rd x0 (wrap64 (x1 + x8))) false))) else (none)) else (none))
def shutterref27_number.j1 : Nat → List Int → Int → Int → Int → Int → Bool → Option (Int × Int × Int)
  | 0, _, _, _, _, _, _ => none
  | k + 1, x0, x1, x7, x8, x9, x39 => if x39 = true then (some (0, wrap64 (x1 + x8), 271)) else (if 0 ≤ (wrap64 (7 * x8)) then (if x9 < 128 then (some (IntKind.u64.wrap (x7 + (shl .u64 (IntKind.u64.wrap (Int.tmod x9 128)) (wrap64 (7 * x8)))), wrap64 ((wrap64 (x1 + x8)) + 1), 0)) else (shutterref27_number.l0 k x0 x1 (IntKind.u64.wrap (x7 + (shl .u64 (IntKind.u64.wrap (Int.tmod x9 128)) (wrap64 (7 * x8))))) (wrap64 (x8 + 1)))) else (none))
end
def shutterref27_number.f (k : Nat) (l0 : List Int) (a1 : Int) : Option (Int × Int × Int) := shutterref27_number.l0 k l0 a1 0 0
theorem shutterref27_number.mono_l : ∀ k, (∀ y0 y1 y2 y3, LeO (shutterref27_number.l0 k y0 y1 y2 y3) (shutterref27_number.l0 (k + 1) y0 y1 y2 y3)) ∧ (∀ y0 y1 y2 y3 y4 y5, LeO (shutterref27_number.j1 k y0 y1 y2 y3 y4 y5) (shutterref27_number.j1 (k + 1) y0 y1 y2 y3 y4 y5))
  | 0 => ⟨fun _ _ _ _ r h => by simp [shutterref27_number.l0] at h, fun _ _ _ _ _ _ r h => by simp [shutterref27_number.j1] at h⟩
  | k + 1 => by
    obtain ⟨ih0, ih1⟩ := shutterref27_number.mono_l k
    refine ⟨?_, ?_⟩
    · intro y0 y1 y2 y3
      unfold shutterref27_number.l0
      repeat' first
      | (with_reducible exact ih0 _ _ _ _)
      | (with_reducible exact ih1 _ _ _ _ _ _)
      | (with_reducible exact LeO.refl _)
      | (with_reducible exact LeO.none _)
      | (with_reducible refine LeO.ite ?_ ?_)
      | (with_reducible refine LeO.bind ?_ (fun _ => ?_))
      | exact ih0 _ _ _ _
      | exact ih1 _ _ _ _ _ _
      | exact LeO.none _
      | refine LeO.ite ?_ ?_
      | refine LeO.bind ?_ (fun _ => ?_)
    · intro y0 y1 y2 y3 y4 y5
      unfold shutterref27_number.j1
      repeat' first
      | (with_reducible exact ih0 _ _ _ _)
      | (with_reducible exact ih1 _ _ _ _ _ _)
      | (with_reducible exact LeO.refl _)
      | (with_reducible exact LeO.none _)
      | (with_reducible refine LeO.ite ?_ ?_)
      | (with_reducible refine LeO.bind ?_ (fun _ => ?_))
      | exact ih0 _ _ _ _
      | exact ih1 _ _ _ _ _ _
      | exact LeO.none _
      | refine LeO.ite ?_ ?_
      | refine LeO.bind ?_ (fun _ => ?_)
theorem shutterref27_number.mono : ∀ a0 a1 k, LeO (shutterref27_number.f k a0 a1) (shutterref27_number.f (k + 1) a0 a1) := by
  intro a0 a1 k
  obtain ⟨ih0, ih1⟩ := shutterref27_number.mono_l k
  unfold shutterref27_number.f
  repeat' first
      | (with_reducible exact ih0 _ _ _ _)
      | (with_reducible exact ih1 _ _ _ _ _ _)
      | (with_reducible exact LeO.refl _)
      | (with_reducible exact LeO.none _)
      | (with_reducible refine LeO.ite ?_ ?_)
      | (with_reducible refine LeO.bind ?_ (fun _ => ?_))
      | exact ih0 _ _ _ _
      | exact ih1 _ _ _ _ _ _
      | exact LeO.none _
      | refine LeO.ite ?_ ?_
      | refine LeO.bind ?_ (fun _ => ?_)
set_option maxHeartbeats 8000000 in
set_option maxRecDepth 100000 in
theorem shutterref27_number.calls (k : Nat) (A0 : Option Addr) (c0 : Nat) (l0 : List Int) (a1 : Int) (r1 : Int) (r2 : Int) (r3 : Int) (w : World) (hr0 : Kd.C (Kd.int .u8) w A0 l0.length l0) (hc0 : l0.length ≤ c0) (h : shutterref27_number.f k l0 a1 = some (r1, r2, r3)) :
    Calls Try.prog 64 #[.slice A0 l0.length c0, .int .i64 a1] w fun e w' => e = .returned (.tuple #[.int .u64 r1, .int .i64 r2, .int .i64 r3]) ∧ Drawn0 w w' := by
  have HR0 := Aside0.mk hr0
  have HC0 := Aside0.mk hc0
  clear hr0 hc0
  have H : (shutterref27_number.l0 k l0 a1 0 0) = some (r1, r2, r3) := h
  clear h
  have H' := Aside0.mk H
  clear H
  go_enter Try.func64, Try.ntmps64
  go_wp2
  go_loopg [7, 8] k (fun kq v7 v8 w' => ∃ (x7_1 : Int) (x8_1 : Int), v7 = .int .u64 x7_1 ∧ v8 = .int .i64 x8_1 ∧ Aside0 (shutterref27_number.l0 kq l0 a1 x7_1 x8_1 = some (r1, r2, r3)) ∧ Aside0 (kq ≤ k) ∧ Drawn0 w w')
  case atStart => exact ⟨(0), (0), (by first | rfl | (simp; done) | (simp [*]; done)), (by first | rfl | (simp; done) | (simp [*]; done)), H', ⟨Nat.le_refl _⟩, by repeat (first | exact Drawn0.refl _ | apply Drawn0.step)⟩
  case round =>
    clear H'
    try clear p2
    obtain ⟨x7_1, x8_1, rfl, rfl, HA, HK1, ⟨m1, rfl⟩⟩ := hrel
    cases gk with
    | zero => exact absurd HA.out (by simp [shutterref27_number.l0])
    | succ k1 =>
      have H := HA.out
      clear HA
      simp only [shutterref27_number.l0] at H
      by_cases c3 : (wrap64 (a1 + x8_1)) ≥ (l0.length : Int)
      · rw [if_pos c3] at H
        have c3b0 : decide ((l0.length : Int) ≤ (wrap64 (a1 + x8_1))) = true := decide_eq_true c3
        clear c3
        simp only [Option.some.injEq, Prod.mk.injEq] at H
        obtain ⟨rfl, rfl, rfl⟩ := H
        go_wp2
        go_ret3
        exact ⟨by first | rfl | (simp; done) | (simp [*]; done), by repeat (first | exact Drawn0.refl _ | apply Drawn0.step)⟩
      · rw [if_neg c3] at H
        have c3b0 : decide ((l0.length : Int) ≤ (wrap64 (a1 + x8_1))) = false := decide_eq_false c3
        clear c3
        obtain ⟨ji4, hji4⟩ : ∃ j_ : Int, (wrap64 (a1 + x8_1)) = j_ := ⟨_, rfl⟩
        replace H : (if 0 ≤ (ji4) then (if (ji4) < (l0.length : Int) then (if x8_1 = 9 then (if (rd l0 (ji4)) > 1 then (shutterref27_number.j1 k1 l0 a1 x7_1 x8_1 (rd l0 (ji4)) true) else (if x8_1 > 0 then (shutterref27_number.j1 k1 l0 a1 x7_1 x8_1 (rd l0 (ji4)) ((rd l0 (ji4)) == 0)) else (shutterref27_number.j1 k1 l0 a1 x7_1 x8_1 (rd l0 (ji4)) false))) else (if x8_1 > 0 then (shutterref27_number.j1 k1 l0 a1 x7_1 x8_1 (rd l0 (ji4)) ((rd l0 (ji4)) == 0)) else (shutterref27_number.j1 k1 l0 a1 x7_1 x8_1 (rd l0 (ji4)) false))) else (none)) else (none)) = some (r1, r2, r3) := by first | (rw [hji4] at H; exact H) | (simp only [hji4] at H ⊢; exact H)
        (try rw [hji4] at c3b0)
        have hji4w : (IntKind.i64.wrap (a1 + x8_1)) = ji4 := (i64_w _).trans hji4
        by_cases c5 : 0 ≤ (ji4)
        · rw [if_pos c5] at H
          have c5b0 : decide (0 ≤ (ji4)) = true := decide_eq_true c5
          clear c5
          by_cases c6 : (ji4) < (l0.length : Int)
          · rw [if_pos c6] at H
            have c6b0 : decide ((ji4) < (l0.length : Int)) = true := decide_eq_true c6
            clear c6
            have HC7 := Aside0.mk H
            clear H
            have p370 : 0 ≤ ((ji4) : Int) := of_decide_eq_true (by first | (with_reducible assumption) | assumption)
            have q370 : (ji4) < (l0.length : Int) := of_decide_eq_true (by first | (with_reducible assumption) | assumption)
            obtain ⟨ad370, e370, hx370_0⟩ := Kd.at_int HR0.out (ji4) p370 q370
            cases e370
            replace p370 := eq_true p370
            replace q370 := eq_true q370
            go_upto_region 7 with (fail)
            go_cut [39] (fun v39 wc => ∃ (kq : Nat) (x39_6 : Bool), v39 = .bool x39_6 ∧ Aside0 (shutterref27_number.j1 kq l0 a1 x7_1 x8_1 (rd l0 (ji4)) x39_6 = some (r1, r2, r3)) ∧ Aside0 (kq ≤ k1) ∧ Drawn0 w wc)
            case first =>
              have H := HC7.out
              clear HC7
              by_cases c8 : x8_1 = 9
              · rw [if_pos c8] at H
                have c8b0 : (x8_1 == 9) = true := beq_iff_eq.mpr c8
                have c8b1 : (x8_1 != 9) = false := bne_eq_false_iff_eq.mpr c8
                clear c8
                (first | rw [c8b0] | (simp only [i64_w, i32_w]; rw [c8b0]) | skip)
                by_cases c9 : (rd l0 (ji4)) > 1
                · rw [if_pos c9] at H
                  have c9b0 : decide (1 < (rd l0 (ji4))) = true := decide_eq_true c9
                  clear c9
                  have H' := Aside0.mk H
                  clear H
                  go_wp2
                  go_meet
                  case rel => exact ⟨_, (true), (by first | rfl | (simp; done) | (simp [*]; done)), H', ⟨by have := HK1.out; first | omega | exact Nat.le_refl _⟩, by repeat (first | exact Drawn0.refl _ | apply Drawn0.step)⟩
                · rw [if_neg c9] at H
                  have c9b0 : decide (1 < (rd l0 (ji4))) = false := decide_eq_false c9
                  clear c9
                  by_cases c10 : x8_1 > 0
                  · rw [if_pos c10] at H
                    have c10b0 : decide (0 < x8_1) = true := decide_eq_true c10
                    clear c10
                    have H' := Aside0.mk H
                    clear H
                    go_wp2
                    go_meet
                    case rel => exact ⟨_, (((rd l0 (ji4)) == 0)), (by first | rfl | (simp; done) | (simp only [← hji4] <;> (first | rfl | simp)) | (simp [*]; done)), H', ⟨by have := HK1.out; first | omega | exact Nat.le_refl _⟩, by repeat (first | exact Drawn0.refl _ | apply Drawn0.step)⟩
                  · rw [if_neg c10] at H
                    have c10b0 : decide (0 < x8_1) = false := decide_eq_false c10
                    clear c10
                    have H' := Aside0.mk H
                    clear H
                    go_wp2
                    go_meet
                    case rel => exact ⟨_, (false), (by first | rfl | (simp; done) | (simp [*]; done)), H', ⟨by have := HK1.out; first | omega | exact Nat.le_refl _⟩, by repeat (first | exact Drawn0.refl _ | apply Drawn0.step)⟩
              · rw [if_neg c8] at H
                have c8b0 : (x8_1 == 9) = false := beq_eq_false_iff_ne.mpr c8
                have c8b1 : (x8_1 != 9) = true := bne_iff_ne.mpr c8
                (first | rw [c8b0] | (simp only [i64_w, i32_w]; rw [c8b0]) | skip)
                by_cases c11 : x8_1 > 0
                · rw [if_pos c11] at H
                  have c11b0 : decide (0 < x8_1) = true := decide_eq_true c11
                  clear c11
                  have H' := Aside0.mk H
                  clear H
                  go_wp2
                  go_meet
                  case rel => exact ⟨_, (((rd l0 (ji4)) == 0)), (by first | rfl | (simp; done) | (simp only [← hji4] <;> (first | rfl | simp)) | (simp [*]; done)), H', ⟨by have := HK1.out; first | omega | exact Nat.le_refl _⟩, by repeat (first | exact Drawn0.refl _ | apply Drawn0.step)⟩
                · rw [if_neg c11] at H
                  have c11b0 : decide (0 < x8_1) = false := decide_eq_false c11
                  clear c11
                  have H' := Aside0.mk H
                  clear H
                  go_wp2
                  go_meet
                  case rel => exact ⟨_, (false), (by first | rfl | (simp; done) | (simp [*]; done)), H', ⟨by have := HK1.out; first | omega | exact Nat.le_refl _⟩, by repeat (first | exact Drawn0.refl _ | apply Drawn0.step)⟩
            case rest =>
              clear HC7
              try clear c1
              try clear p2
              try clear c3
              try clear c3b0
              try clear p3
              try clear q3
              try clear hx3
              try clear c5
              try clear c5b0
              try clear c6
              try clear c6b0
              try clear p6
              try clear c8
              try clear c8b0
              try clear c8b1
              try clear c9
              try clear c9b0
              try clear c10
              try clear c10b0
              try clear c11
              try clear c11b0
              try clear hx370_0
              try clear p2
              try clear p370
              try clear q370
              obtain ⟨kq, x39_6, rfl, HA, HJ6, ⟨mc6, rfl⟩⟩ := hcut
              cases kq with
              | zero => exact absurd HA.out (by simp [shutterref27_number.j1])
              | succ kj6 =>
                have H := HA.out
                clear HA
                simp only [shutterref27_number.j1] at H
                by_cases c12 : x39_6 = true
                · subst c12
                  have H1 : (some (0, wrap64 (a1 + x8_1), 271)) = some (r1, r2, r3) := by rw [if_pos rfl] at H; exact H
                  clear H
                  have H := H1
                  clear H1
                  simp only [Option.some.injEq, Prod.mk.injEq] at H
                  obtain ⟨rfl, rfl, rfl⟩ := H
                  go_wp2
                  go_ret3
                  exact ⟨by first | rfl | (simp; done) | (simp only [← hji4] <;> (first | rfl | simp)) | (simp [*]; done), by repeat (first | exact Drawn0.refl _ | apply Drawn0.step)⟩
                · replace c12 := Bool.eq_false_iff.mpr c12
                  subst c12
                  have H1 : (if 0 ≤ (wrap64 (7 * x8_1)) then (if (rd l0 (ji4)) < 128 then (some (IntKind.u64.wrap (x7_1 + (shl .u64 (IntKind.u64.wrap (Int.tmod (rd l0 (ji4)) 128)) (wrap64 (7 * x8_1)))), wrap64 ((wrap64 (a1 + x8_1)) + 1), 0)) else (shutterref27_number.l0 kj6 l0 a1 (IntKind.u64.wrap (x7_1 + (shl .u64 (IntKind.u64.wrap (Int.tmod (rd l0 (ji4)) 128)) (wrap64 (7 * x8_1))))) (wrap64 (x8_1 + 1)))) else (none)) = some (r1, r2, r3) := by rw [if_neg (show ¬ (false = true) by decide)] at H; exact H
                  clear H
                  have H := H1
                  clear H1
                  obtain ⟨ji13, hji13⟩ : ∃ j_ : Int, (wrap64 (7 * x8_1)) = j_ := ⟨_, rfl⟩
                  replace H : (if 0 ≤ (ji13) then (if (rd l0 (ji4)) < 128 then (some (IntKind.u64.wrap (x7_1 + (shl .u64 (IntKind.u64.wrap (Int.tmod (rd l0 (ji4)) 128)) (ji13))), wrap64 ((wrap64 (a1 + x8_1)) + 1), 0)) else (shutterref27_number.l0 kj6 l0 a1 (IntKind.u64.wrap (x7_1 + (shl .u64 (IntKind.u64.wrap (Int.tmod (rd l0 (ji4)) 128)) (ji13)))) (wrap64 (x8_1 + 1)))) else (none)) = some (r1, r2, r3) := by first | (rw [hji13] at H; exact H) | (simp only [hji13] at H ⊢; exact H)
                  have hji13w : (IntKind.i64.wrap (7 * x8_1)) = ji13 := (i64_w _).trans hji13
                  by_cases c14 : 0 ≤ (ji13)
                  · rw [if_pos c14] at H
                    have c14b0 := eq_true c14
                    have c14b1 : decide (0 ≤ (ji13)) = true := decide_eq_true c14
                    clear c14
                    obtain ⟨ji15, hji15⟩ : ∃ j_ : Int, (shl .u64 (IntKind.u64.wrap (Int.tmod (rd l0 (ji4)) 128)) (ji13)) = j_ := ⟨_, rfl⟩
                    replace H : (if (rd l0 (ji4)) < 128 then (some (IntKind.u64.wrap (x7_1 + (ji15)), wrap64 ((wrap64 (a1 + x8_1)) + 1), 0)) else (shutterref27_number.l0 kj6 l0 a1 (IntKind.u64.wrap (x7_1 + (ji15))) (wrap64 (x8_1 + 1)))) = some (r1, r2, r3) := by first | (rw [hji15] at H; exact H) | (simp only [hji15] at H ⊢; exact H)
                    have hji15_ : (IntKind.u64.wrap ((IntKind.u64.wrap (Int.tmod (rd l0 (ji4)) 128)) * 2 ^ min (ji13).toNat 64)) = ji15 := hji15
                    have hji15z : (ji13) ≤ 64 → (IntKind.u64.wrap ((IntKind.u64.wrap (Int.tmod (rd l0 (ji4)) 128)) * 2 ^ (ji13).toNat)) = ji15 := shl_small hji15
                    by_cases c16 : (rd l0 (ji4)) < 128
                    · rw [if_pos c16] at H
                      have c16b0 : decide ((rd l0 (ji4)) < 128) = true := decide_eq_true c16
                      clear c16
                      simp only [Option.some.injEq, Prod.mk.injEq] at H
                      obtain ⟨rfl, rfl, rfl⟩ := H
                      go_wp2
                      go_ret3
                      exact ⟨by first | rfl | (simp; done) | (simp only [← hji4, ← hji13, ← hji15] <;> (first | rfl | simp)) | (simp [*]; done), by repeat (first | exact Drawn0.refl _ | apply Drawn0.step)⟩
                    · rw [if_neg c16] at H
                      have c16b0 : decide ((rd l0 (ji4)) < 128) = false := decide_eq_false c16
                      clear c16
                      have H' := Aside0.mk H
                      clear H
                      go_wp2
                      go_roundg kj6
                      case measure => have := HK1.out; have := HJ6.out; omega
                      case rel => exact ⟨(IntKind.u64.wrap (x7_1 + (ji15))), (wrap64 (x8_1 + 1)), (by first | rfl | (simp; done) | (simp only [← hji15] <;> (first | rfl | simp)) | (simp [*]; done)), (by first | rfl | (simp; done) | (simp [*]; done)), H', ⟨by have := HK1.out; have := HJ6.out; omega⟩, by repeat (first | exact Drawn0.refl _ | apply Drawn0.step)⟩
                  · rw [if_neg c14] at H
                    exact absurd H (by simp)
          · rw [if_neg c6] at H
            exact absurd H (by simp)
        · rw [if_neg c5] at H
          exact absurd H (by simp)

end Go.Proofs.Ythblincfnfpgbaa.Q
-- Written by a program of this session over the kit's print.py, which was handed contracts that were proved by hand. Lean checks it.
namespace Go.Proofs.Ythblincfnfpgbaa.Q
open Go.RowKit Go.Proofs.YthblincfnfpgbaaW.PrintWords Go.Proofs.YthblincfnfpgbaaW.PrintLast Go.Proofs.YthblincfnfpgbaaW.PrintMore
attribute [local go_sem] max2_int min2_int max_two min_two max_three min_three max_four min_four   -- for this text's walks alone
set_option linter.unusedVariables false
set_option linter.unusedSimpArgs false

/-! ### shutterref27_Decode: function 31 -/
mutual
def shutterref27_Decode.l0 : Nat → List Int → Int → Option ((List (S82)) × Int × Int)
  | 0, _, _ => none
  | k + 1, x0, x5 => if x5 < 4 then (if x5 ≥ (x0.length : Int) then (some (([] : List (S82)), 270, (x0.length : Int))) else (if 0 ≤ x5 then (if x5 < (x0.length : Int) then (if (rd x0 x5) = (bt (⟨#[83, 72, 85, 49]⟩ : ByteArray) x5) then (shutterref27_Decode.l0 k x0 (wrap64 (x5 + 1))) else (some (([] : List (S82)), 271, x5))) else (none)) else (none))) else ((shutterref27_number.f k x0 4).bind fun bt372 => (if bt372.2.2 = 0 then (shutterref27_Decode.l1 k x0 bt372.1 bt372.2.1 ([] : List (S82)) 0 0) else (some (([] : List (S82)), bt372.2.2, bt372.2.1))))
def shutterref27_Decode.l1 : Nat → List Int → Int → Int → List (S82) → Int → Int → Option ((List (S82)) × Int × Int)
  | 0, _, _, _, _, _, _ => none
  | k + 1, x0, x6, x7, x9, x10, x11 => if x11 < x6 then ((shutterref27_number.f k x0 x7).bind fun bt375 => (if bt375.2.2 = 0 then (if x11 > 0 then (if bt375.1 = 0 then (shutterref27_Decode.j2 k x0 x6 bt375.2.1 x9 x10 x11 x7 bt375.1 true) else (shutterref27_Decode.j2 k x0 x6 bt375.2.1 x9 x10 x11 x7 bt375.1 (decide ((IntKind.u64.wrap (x10 + bt375.1)) < x10)))) else (shutterref27_Decode.j2 k x0 x6 bt375.2.1 x9 x10 x11 x7 bt375.1 false)) else (some (([] : List (S82)), bt375.2.2, bt375.2.1)))) else (if (wrap64 ((x0.length : Int) - x7)) < 4 then (some (([] : List (S82)), 270, (x0.length : Int))) else (if 0 ≤ x7 then (if x7 ≤ (x0.length : Int) then ((shutterref27_sum.f k (x0.take (x7 : Int).toNat)).bind fun t385 => (shutterref27_Decode.l2 k x0 x7 x9 t385 0)) else (none)) else (none)))
def shutterref27_Decode.j2 : Nat → List Int → Int → Int → List (S82) → Int → Int → Int → Int → Bool → Option ((List (S82)) × Int × Int)
  | 0, _, _, _, _, _, _, _, _, _ => none
  | k + 1, x0, x6, x7, x9, x10, x11, x12, x13, x74 => if x74 = true then (some (([] : List (S82)), 271, x12)) else ((shutterref27_number.f k x0 x7).bind fun bt378 => (if bt378.2.2 = 0 then (if x9.length < 8796093022208 then (shutterref27_Decode.l1 k x0 x6 bt378.2.1 (x9 ++ [(⟨IntKind.u64.wrap (x10 + x13), bt378.1⟩ : S82)]) (IntKind.u64.wrap (x10 + x13)) (IntKind.u64.wrap (x11 + 1))) else (none)) else (some (([] : List (S82)), bt378.2.2, bt378.2.1))))
def shutterref27_Decode.l2 : Nat → List Int → Int → List (S82) → Int → Int → Option ((List (S82)) × Int × Int)
  | 0, _, _, _, _, _ => none
  | k + 1, x0, x7, x9, x15, x16 => if x16 < 4 then (if 0 ≤ (wrap64 (x7 + x16)) then (if (wrap64 (x7 + x16)) < (x0.length : Int) then (if 0 ≤ (wrap64 (8 * x16)) then (if (rd x0 (wrap64 (x7 + x16))) = ((shr .u32 x15 (wrap64 (8 * x16))) % 256) then (shutterref27_Decode.l2 k x0 x7 x9 x15 (wrap64 (x16 + 1))) else (some (([] : List (S82)), 271, x7))) else (none)) else (none)) else (none)) else (if (x0.length : Int) > (wrap64 (x7 + 4)) then (some (([] : List (S82)), 272, wrap64 (x7 + 4))) else (some (x9, 0, 0)))
end
def shutterref27_Decode.f (k : Nat) (l0 : List Int) : Option ((List (S82)) × Int × Int) := shutterref27_Decode.l0 k l0 0
theorem shutterref27_Decode.mono_l : ∀ k, (∀ y0 y1, LeO (shutterref27_Decode.l0 k y0 y1) (shutterref27_Decode.l0 (k + 1) y0 y1)) ∧ (∀ y0 y1 y2 y3 y4 y5, LeO (shutterref27_Decode.l1 k y0 y1 y2 y3 y4 y5) (shutterref27_Decode.l1 (k + 1) y0 y1 y2 y3 y4 y5)) ∧ (∀ y0 y1 y2 y3 y4 y5 y6 y7 y8, LeO (shutterref27_Decode.j2 k y0 y1 y2 y3 y4 y5 y6 y7 y8) (shutterref27_Decode.j2 (k + 1) y0 y1 y2 y3 y4 y5 y6 y7 y8)) ∧ (∀ y0 y1 y2 y3 y4, LeO (shutterref27_Decode.l2 k y0 y1 y2 y3 y4) (shutterref27_Decode.l2 (k + 1) y0 y1 y2 y3 y4))
  | 0 => ⟨fun _ _ r h => by simp [shutterref27_Decode.l0] at h, fun _ _ _ _ _ _ r h => by simp [shutterref27_Decode.l1] at h, fun _ _ _ _ _ _ _ _ _ r h => by simp [shutterref27_Decode.j2] at h, fun _ _ _ _ _ r h => by simp [shutterref27_Decode.l2] at h⟩
  | k + 1 => by
    obtain ⟨ih0, ih1, ih2, ih3⟩ := shutterref27_Decode.mono_l k
    refine ⟨?_, ?_, ?_, ?_⟩
    · intro y0 y1
      unfold shutterref27_Decode.l0
      repeat' first
      | (with_reducible exact ih0 _ _)
      | (with_reducible exact ih1 _ _ _ _ _ _)
      | (with_reducible exact ih2 _ _ _ _ _ _ _ _ _)
      | (with_reducible exact ih3 _ _ _ _ _)
      | (with_reducible exact shutterref27_number.mono _ _ _)
      | (with_reducible exact shutterref27_sum.mono _ _)
      | (with_reducible exact LeO.refl _)
      | (with_reducible exact LeO.none _)
      | (with_reducible refine LeO.ite ?_ ?_)
      | (with_reducible refine LeO.bind ?_ (fun _ => ?_))
      | exact ih0 _ _
      | exact ih1 _ _ _ _ _ _
      | exact ih2 _ _ _ _ _ _ _ _ _
      | exact ih3 _ _ _ _ _
      | exact shutterref27_number.mono _ _ _
      | exact shutterref27_sum.mono _ _
      | exact LeO.none _
      | refine LeO.ite ?_ ?_
      | refine LeO.bind ?_ (fun _ => ?_)
    · intro y0 y1 y2 y3 y4 y5
      unfold shutterref27_Decode.l1
      repeat' first
      | (with_reducible exact ih0 _ _)
      | (with_reducible exact ih1 _ _ _ _ _ _)
      | (with_reducible exact ih2 _ _ _ _ _ _ _ _ _)
      | (with_reducible exact ih3 _ _ _ _ _)
      | (with_reducible exact shutterref27_number.mono _ _ _)
      | (with_reducible exact shutterref27_sum.mono _ _)
      | (with_reducible exact LeO.refl _)
      | (with_reducible exact LeO.none _)
      | (with_reducible refine LeO.ite ?_ ?_)
      | (with_reducible refine LeO.bind ?_ (fun _ => ?_))
      | exact ih0 _ _
      | exact ih1 _ _ _ _ _ _
      | exact ih2 _ _ _ _ _ _ _ _ _
      | exact ih3 _ _ _ _ _
      | exact shutterref27_number.mono _ _ _
      | exact shutterref27_sum.mono _ _
      | exact LeO.none _
      | refine LeO.ite ?_ ?_
      | refine LeO.bind ?_ (fun _ => ?_)
    · intro y0 y1 y2 y3 y4 y5 y6 y7 y8
      unfold shutterref27_Decode.j2
      repeat' first
      | (with_reducible exact ih0 _ _)
      | (with_reducible exact ih1 _ _ _ _ _ _)
      | (with_reducible exact ih2 _ _ _ _ _ _ _ _ _)
      | (with_reducible exact ih3 _ _ _ _ _)
      | (with_reducible exact shutterref27_number.mono _ _ _)
      | (with_reducible exact shutterref27_sum.mono _ _)
      | (with_reducible exact LeO.refl _)
      | (with_reducible exact LeO.none _)
      | (with_reducible refine LeO.ite ?_ ?_)
      | (with_reducible refine LeO.bind ?_ (fun _ => ?_))
      | exact ih0 _ _
      | exact ih1 _ _ _ _ _ _
      | exact ih2 _ _ _ _ _ _ _ _ _
      | exact ih3 _ _ _ _ _
      | exact shutterref27_number.mono _ _ _
      | exact shutterref27_sum.mono _ _
      | exact LeO.none _
      | refine LeO.ite ?_ ?_
      | refine LeO.bind ?_ (fun _ => ?_)
    · intro y0 y1 y2 y3 y4
      unfold shutterref27_Decode.l2
      repeat' first
      | (with_reducible exact ih0 _ _)
      | (with_reducible exact ih1 _ _ _ _ _ _)
      | (with_reducible exact ih2 _ _ _ _ _ _ _ _ _)
      | (with_reducible exact ih3 _ _ _ _ _)
      | (with_reducible exact shutterref27_number.mono _ _ _)
      | (with_reducible exact shutterref27_sum.mono _ _)
      | (with_reducible exact LeO.refl _)
      | (with_reducible exact LeO.none _)
      | (with_reducible refine LeO.ite ?_ ?_)
      | (with_reducible refine LeO.bind ?_ (fun _ => ?_))
      | exact ih0 _ _
      | exact ih1 _ _ _ _ _ _
      | exact ih2 _ _ _ _ _ _ _ _ _
      | exact ih3 _ _ _ _ _
      | exact shutterref27_number.mono _ _ _
      | exact shutterref27_sum.mono _ _
      | exact LeO.none _
      | refine LeO.ite ?_ ?_
      | refine LeO.bind ?_ (fun _ => ?_)
theorem shutterref27_Decode.mono : ∀ a0 k, LeO (shutterref27_Decode.f k a0) (shutterref27_Decode.f (k + 1) a0) := by
  intro a0 k
  obtain ⟨ih0, ih1, ih2, ih3⟩ := shutterref27_Decode.mono_l k
  unfold shutterref27_Decode.f
  repeat' first
      | (with_reducible exact ih0 _ _)
      | (with_reducible exact ih1 _ _ _ _ _ _)
      | (with_reducible exact ih2 _ _ _ _ _ _ _ _ _)
      | (with_reducible exact ih3 _ _ _ _ _)
      | (with_reducible exact shutterref27_number.mono _ _ _)
      | (with_reducible exact shutterref27_sum.mono _ _)
      | (with_reducible exact LeO.refl _)
      | (with_reducible exact LeO.none _)
      | (with_reducible refine LeO.ite ?_ ?_)
      | (with_reducible refine LeO.bind ?_ (fun _ => ?_))
      | exact ih0 _ _
      | exact ih1 _ _ _ _ _ _
      | exact ih2 _ _ _ _ _ _ _ _ _
      | exact ih3 _ _ _ _ _
      | exact shutterref27_number.mono _ _ _
      | exact shutterref27_sum.mono _ _
      | exact LeO.none _
      | refine LeO.ite ?_ ?_
      | refine LeO.bind ?_ (fun _ => ?_)
set_option maxHeartbeats 8000000 in
set_option maxRecDepth 100000 in
theorem shutterref27_Decode.calls (k : Nat) (A0 : Option Addr) (c0 : Nat) (l0 : List Int) (r1 : List (S82)) (r2 : Int) (r3 : Int) (w : World) (hr0 : Kd.C (Kd.int .u8) w A0 l0.length l0) (hc0 : l0.length ≤ c0) (h : shutterref27_Decode.f k l0 = some (r1, r2, r3)) :
    Calls Try.prog 31 #[.slice A0 l0.length c0] w fun e w' => ∃ v0_ : Value, e = .returned (.tuple #[v0_, .int .i64 r2, .int .i64 r3]) ∧ Kd.R k82 82 w' w.heap.size (fun _ => True) v0_ r1 ∧ Below w.heap.size w w' := by
  have hu82 := Try.underlying82
  have HR0 := Aside0.mk hr0
  have HC0 := Aside0.mk hc0
  clear hr0 hc0
  have HB := Aside0.mk (Below.refl w.heap.size w)
  have H : (shutterref27_Decode.l0 k l0 0) = some (r1, r2, r3) := h
  clear h
  have H' := Aside0.mk H
  clear H
  go_enter Try.func31, Try.ntmps31
  go_wp2
  repeat (go_quiet (fail); try go_wp2)
  go_loopg [5] k (fun kq v5 w' => ∃ (x5_1 : Int), v5 = .int .i64 x5_1 ∧ Aside0 (shutterref27_Decode.l0 kq l0 x5_1 = some (r1, r2, r3)) ∧ Aside0 (kq ≤ k) ∧ Aside0 (Below w.heap.size w w'))
  case atStart => exact ⟨(0), (by first | rfl | (simp; done) | (simp [*]; done)), H', ⟨Nat.le_refl _⟩, ⟨by repeat (first | (with_reducible first | exact HB.out | apply below_alloc | apply pw_below_drewN | apply below_drew1) | exact HB.out)⟩⟩
  case round =>
    clear H'
    obtain ⟨x5_1, rfl, HA, HK1, HB⟩ := hrel
    cases gk with
    | zero => exact absurd HA.out (by simp [shutterref27_Decode.l0])
    | succ k1 =>
      have H := HA.out
      clear HA
      simp only [shutterref27_Decode.l0] at H
      by_cases c2 : x5_1 < 4
      · rw [if_pos c2] at H
        have c2b0 : decide (x5_1 < 4) = true := decide_eq_true c2
        clear c2
        by_cases c3 : x5_1 ≥ (l0.length : Int)
        · rw [if_pos c3] at H
          have c3b0 : decide ((l0.length : Int) ≤ x5_1) = true := decide_eq_true c3
          clear c3
          simp only [Option.some.injEq, Prod.mk.injEq] at H
          obtain ⟨rfl, rfl, rfl⟩ := H
          go_wp2
          repeat (go_quiet (fail); try go_wp2)
          go_ret3
          exact ⟨_, by first | rfl | (simp [errW_none, errW_some] <;> rfl) | (simp [*, errW_none, errW_some] <;> rfl), by first | exact Kd.R_nil _ _ _ _ _ | exact Kd.N_nil _ _ _ _ _ | exact Kd.V_nil _ _ _ _ _ | exact Kd.Q_nil _ _ _ _ _ | exact Kd.S_nil _ _ _ _ _, by repeat (first | (with_reducible first | exact HB.out | apply below_alloc | apply pw_below_drewN | apply below_drew1) | exact HB.out)⟩
        · rw [if_neg c3] at H
          have c3b0 : decide ((l0.length : Int) ≤ x5_1) = false := decide_eq_false c3
          clear c3
          by_cases c4 : 0 ≤ x5_1
          · rw [if_pos c4] at H
            have c4b0 : decide (0 ≤ x5_1) = true := decide_eq_true c4
            clear c4
            by_cases c5 : x5_1 < (l0.length : Int)
            · rw [if_pos c5] at H
              have c5b0 : decide (x5_1 < (l0.length : Int)) = true := decide_eq_true c5
              clear c5
              by_cases c7 : (rd l0 x5_1) = (bt (⟨#[83, 72, 85, 49]⟩ : ByteArray) x5_1)
              · rw [if_pos c7] at H
                have c7b0 : ((rd l0 x5_1) == (bt (⟨#[83, 72, 85, 49]⟩ : ByteArray) x5_1)) = true := beq_iff_eq.mpr c7
                have c7b1 : ((rd l0 x5_1) != (bt (⟨#[83, 72, 85, 49]⟩ : ByteArray) x5_1)) = false := bne_eq_false_iff_eq.mpr c7
                clear c7
                have H' := Aside0.mk H
                clear H
                have p371 : 0 ≤ (x5_1 : Int) := of_decide_eq_true (by first | (with_reducible assumption) | assumption)
                have q371 : x5_1 < (l0.length : Int) := of_decide_eq_true (by first | (with_reducible assumption) | assumption)
                obtain ⟨ad371, e371, hx371_0⟩ := Kd.at_int HR0.out x5_1 p371 q371
                cases e371
                replace hx371_0 := (HB.out.cell (World.block_lt_of_cell? w _ hx371_0)).trans hx371_0
                replace p371 := eq_true p371
                replace q371 := eq_true q371
                have p6 : 0 ≤ (x5_1 : Int) := of_decide_eq_true (by first | (with_reducible assumption) | assumption)
                have q6 : x5_1 < (4 : Int) := of_decide_eq_true (by first | (with_reducible assumption) | assumption)
                have hx6 := bt_at (⟨#[83, 72, 85, 49]⟩ : ByteArray) x5_1
                replace p6 := eq_true p6
                replace q6 := eq_true q6
                go_wp2
                repeat (go_quiet (fail); try go_wp2)
                go_roundg k1
                case measure => have := HK1.out; omega
                case rel => exact ⟨(wrap64 (x5_1 + 1)), (by first | rfl | (simp; done) | (simp [*]; done)), H', ⟨by have := HK1.out; omega⟩, ⟨by repeat (first | (with_reducible first | exact HB.out | apply below_alloc | apply pw_below_drewN | apply below_drew1) | exact HB.out)⟩⟩
              · rw [if_neg c7] at H
                have c7b0 : ((rd l0 x5_1) == (bt (⟨#[83, 72, 85, 49]⟩ : ByteArray) x5_1)) = false := beq_eq_false_iff_ne.mpr c7
                have c7b1 : ((rd l0 x5_1) != (bt (⟨#[83, 72, 85, 49]⟩ : ByteArray) x5_1)) = true := bne_iff_ne.mpr c7
                simp only [Option.some.injEq, Prod.mk.injEq] at H
                obtain ⟨rfl, rfl, rfl⟩ := H
                have p371 : 0 ≤ (x5_1 : Int) := of_decide_eq_true (by first | (with_reducible assumption) | assumption)
                have q371 : x5_1 < (l0.length : Int) := of_decide_eq_true (by first | (with_reducible assumption) | assumption)
                obtain ⟨ad371, e371, hx371_0⟩ := Kd.at_int HR0.out x5_1 p371 q371
                cases e371
                replace hx371_0 := (HB.out.cell (World.block_lt_of_cell? w _ hx371_0)).trans hx371_0
                replace p371 := eq_true p371
                replace q371 := eq_true q371
                have p6 : 0 ≤ (x5_1 : Int) := of_decide_eq_true (by first | (with_reducible assumption) | assumption)
                have q6 : x5_1 < (4 : Int) := of_decide_eq_true (by first | (with_reducible assumption) | assumption)
                have hx6 := bt_at (⟨#[83, 72, 85, 49]⟩ : ByteArray) x5_1
                replace p6 := eq_true p6
                replace q6 := eq_true q6
                go_wp2
                repeat (go_quiet (fail); try go_wp2)
                go_ret3
                exact ⟨_, by first | rfl | (simp [errW_none, errW_some] <;> rfl) | (simp [*, errW_none, errW_some] <;> rfl), by first | exact Kd.R_nil _ _ _ _ _ | exact Kd.N_nil _ _ _ _ _ | exact Kd.V_nil _ _ _ _ _ | exact Kd.Q_nil _ _ _ _ _ | exact Kd.S_nil _ _ _ _ _, by repeat (first | (with_reducible first | exact HB.out | apply below_alloc | apply pw_below_drewN | apply below_drew1) | exact HB.out)⟩
            · rw [if_neg c5] at H
              exact absurd H (by simp)
          · rw [if_neg c4] at H
            exact absurd H (by simp)
      · rw [if_neg c2] at H
        have c2b0 : decide (x5_1 < 4) = false := decide_eq_false c2
        clear c2
        replace H := Option.bind_eq_some_iff.mp H
        obtain ⟨⟨t372, t373, t374⟩, A80, H⟩ := H
        replace H : (if t374 = 0 then (shutterref27_Decode.l1 k1 l0 t372 t373 ([] : List (S82)) 0 0) else (some (([] : List (S82)), t374, t373))) = some (r1, r2, r3) := H
        have A8 := Aside0.mk A80
        clear A80
        by_cases c9 : t374 = 0
        · rw [if_pos c9] at H
          have c9b0 : (t374 == 0) = true := beq_iff_eq.mpr c9
          have c9b1 : (t374 != 0) = false := bne_eq_false_iff_eq.mpr c9
          clear c9
          have H' := Aside0.mk H
          clear H
          go_wp2_with (first | (go_at_call 64; (with_reducible refine (shutterref27_number.calls k1 _ _ l0 4 t372 t373 t374 _ ?side1 ?side2 A8.out).mono ?_); (case side1 => repeat (first | exact (Kd.C_below HR0.out HB.out) | (with_reducible refine Kd.C_alloc ?_ _) | (with_reducible refine Kd.C_drewN ?_ _) | (with_reducible refine Kd.C_drew ?_))); (case side2 => exact HC0.out); rintro e w' ⟨rfl, ⟨nd, rfl⟩⟩; (try first | exact ⟨rfl, _, World.drewN_drewN _ _ _⟩ | exact ⟨rfl, _, Eq.trans (World.drewN_drewN _ _ _) (congrArg (World.drewN _) (Nat.add_assoc _ _ _))⟩)))
          repeat (go_quiet (first | (go_at_call 64; (with_reducible refine (shutterref27_number.calls k1 _ _ l0 4 t372 t373 t374 _ ?side1 ?side2 A8.out).mono ?_); (case side1 => repeat (first | exact (Kd.C_below HR0.out HB.out) | (with_reducible refine Kd.C_alloc ?_ _) | (with_reducible refine Kd.C_drewN ?_ _) | (with_reducible refine Kd.C_drew ?_))); (case side2 => exact HC0.out); rintro e w' ⟨rfl, ⟨nd, rfl⟩⟩; (try first | exact ⟨rfl, _, World.drewN_drewN _ _ _⟩ | exact ⟨rfl, _, Eq.trans (World.drewN_drewN _ _ _) (congrArg (World.drewN _) (Nat.add_assoc _ _ _))⟩))); try go_wp2_with (first | (go_at_call 64; (with_reducible refine (shutterref27_number.calls k1 _ _ l0 4 t372 t373 t374 _ ?side1 ?side2 A8.out).mono ?_); (case side1 => repeat (first | exact (Kd.C_below HR0.out HB.out) | (with_reducible refine Kd.C_alloc ?_ _) | (with_reducible refine Kd.C_drewN ?_ _) | (with_reducible refine Kd.C_drew ?_))); (case side2 => exact HC0.out); rintro e w' ⟨rfl, ⟨nd, rfl⟩⟩; (try first | exact ⟨rfl, _, World.drewN_drewN _ _ _⟩ | exact ⟨rfl, _, Eq.trans (World.drewN_drewN _ _ _) (congrArg (World.drewN _) (Nat.add_assoc _ _ _))⟩))))
          go_loopg [7, 9, 10, 11] k1 (fun kq v7 v9 v10 v11 w' => ∃ (x7_2 : Int) (x9_2 : List (S82)) (x10_2 : Int) (x11_2 : Int), v7 = .int .i64 x7_2 ∧ v10 = .int .u64 x10_2 ∧ v11 = .int .u64 x11_2 ∧ Aside0 (shutterref27_Decode.l1 kq l0 t372 x7_2 x9_2 x10_2 x11_2 = some (r1, r2, r3)) ∧ Aside0 (kq ≤ k1) ∧ Aside0 (Kd.R k82 82 w' w.heap.size (fun _ => True) v9 x9_2) ∧ Aside0 (Below w.heap.size w w'))
          case atStart => exact ⟨(t373), (([] : List (S82))), (0), (0), (by first | rfl | (simp; done) | (simp [*]; done)), (by first | rfl | (simp; done) | (simp [*]; done)), (by first | rfl | (simp; done) | (simp [*]; done)), H', ⟨Nat.le_refl _⟩, ⟨by first | exact Kd.R_nil _ _ _ _ _ | exact Kd.N_nil _ _ _ _ _ | exact Kd.V_nil _ _ _ _ _ | exact Kd.Q_nil _ _ _ _ _ | exact Kd.S_nil _ _ _ _ _⟩, ⟨by repeat (first | (with_reducible first | exact HB.out | apply below_alloc | apply pw_below_drewN | apply below_drew1) | exact HB.out)⟩⟩
          case round =>
            clear H'
            try clear c2
            try clear c2b0
            try clear p2
            try clear c3
            try clear c3b0
            try clear p3
            try clear q3
            try clear hx3
            try clear c4
            try clear c4b0
            try clear c5
            try clear c5b0
            try clear p6
            try clear q6
            try clear hx6
            try clear c7
            try clear c7b0
            try clear c7b1
            try clear c9
            try clear c9b0
            try clear c9b1
            try clear hx371_0
            try clear p371
            try clear p6
            try clear q371
            try clear q6
            obtain ⟨x7_2, x9_2, x10_2, x11_2, rfl, rfl, rfl, HA, HK2, HO_9, HB⟩ := hrel
            cases gk with
            | zero => exact absurd HA.out (by simp [shutterref27_Decode.l1])
            | succ k2 =>
              have H := HA.out
              clear HA
              simp only [shutterref27_Decode.l1] at H
              by_cases c10 : x11_2 < t372
              · rw [if_pos c10] at H
                have c10b0 : decide (x11_2 < t372) = true := decide_eq_true c10
                clear c10
                replace H := Option.bind_eq_some_iff.mp H
                obtain ⟨⟨t375, t376, t377⟩, A110, H⟩ := H
                replace H : (if t377 = 0 then (if x11_2 > 0 then (if t375 = 0 then (shutterref27_Decode.j2 k2 l0 t372 t376 x9_2 x10_2 x11_2 x7_2 t375 true) else (shutterref27_Decode.j2 k2 l0 t372 t376 x9_2 x10_2 x11_2 x7_2 t375 (decide ((IntKind.u64.wrap (x10_2 + t375)) < x10_2)))) else (shutterref27_Decode.j2 k2 l0 t372 t376 x9_2 x10_2 x11_2 x7_2 t375 false)) else (some (([] : List (S82)), t377, t376))) = some (r1, r2, r3) := H
                have A11 := Aside0.mk A110
                clear A110
                by_cases c12 : t377 = 0
                · rw [if_pos c12] at H
                  have c12b0 : (t377 == 0) = true := beq_iff_eq.mpr c12
                  have c12b1 : (t377 != 0) = false := bne_eq_false_iff_eq.mpr c12
                  clear c12
                  have HC13 := Aside0.mk H
                  clear H
                  go_upto_region 21 with (first | (go_at_call 64; (with_reducible refine (shutterref27_number.calls k2 _ _ l0 x7_2 t375 t376 t377 _ ?side1 ?side2 A11.out).mono ?_); (case side1 => repeat (first | exact (Kd.C_below HR0.out HB.out) | (with_reducible refine Kd.C_alloc ?_ _) | (with_reducible refine Kd.C_drewN ?_ _) | (with_reducible refine Kd.C_drew ?_))); (case side2 => exact HC0.out); rintro e w' ⟨rfl, ⟨nd, rfl⟩⟩; (try first | exact ⟨rfl, _, World.drewN_drewN _ _ _⟩ | exact ⟨rfl, _, Eq.trans (World.drewN_drewN _ _ _) (congrArg (World.drewN _) (Nat.add_assoc _ _ _))⟩)))
                  repeat (go_quiet (first | (go_at_call 64; (with_reducible refine (shutterref27_number.calls k2 _ _ l0 x7_2 t375 t376 t377 _ ?side1 ?side2 A11.out).mono ?_); (case side1 => repeat (first | exact (Kd.C_below HR0.out HB.out) | (with_reducible refine Kd.C_alloc ?_ _) | (with_reducible refine Kd.C_drewN ?_ _) | (with_reducible refine Kd.C_drew ?_))); (case side2 => exact HC0.out); rintro e w' ⟨rfl, ⟨nd, rfl⟩⟩; (try first | exact ⟨rfl, _, World.drewN_drewN _ _ _⟩ | exact ⟨rfl, _, Eq.trans (World.drewN_drewN _ _ _) (congrArg (World.drewN _) (Nat.add_assoc _ _ _))⟩))); go_upto_region 21 with (first | (go_at_call 64; (with_reducible refine (shutterref27_number.calls k2 _ _ l0 x7_2 t375 t376 t377 _ ?side1 ?side2 A11.out).mono ?_); (case side1 => repeat (first | exact (Kd.C_below HR0.out HB.out) | (with_reducible refine Kd.C_alloc ?_ _) | (with_reducible refine Kd.C_drewN ?_ _) | (with_reducible refine Kd.C_drew ?_))); (case side2 => exact HC0.out); rintro e w' ⟨rfl, ⟨nd, rfl⟩⟩; (try first | exact ⟨rfl, _, World.drewN_drewN _ _ _⟩ | exact ⟨rfl, _, Eq.trans (World.drewN_drewN _ _ _) (congrArg (World.drewN _) (Nat.add_assoc _ _ _))⟩))))
                  (try simp only [Act.put, List.setIfInBounds_toArray, List.set_cons_zero, List.set_cons_succ])
                  go_cut [74] (fun v74 wc => ∃ (kq : Nat) (x74_12 : Bool), v74 = .bool x74_12 ∧ Aside0 (shutterref27_Decode.j2 kq l0 t372 t376 x9_2 x10_2 x11_2 x7_2 t375 x74_12 = some (r1, r2, r3)) ∧ Aside0 (kq ≤ k2) ∧ Aside0 (Kd.R k82 82 wc w.heap.size (fun _ => True) u9 x9_2) ∧ Aside0 (Below w.heap.size w wc))
                  case first =>
                    have H := HC13.out
                    clear HC13
                    by_cases c14 : x11_2 > 0
                    · rw [if_pos c14] at H
                      have c14b0 : decide (0 < x11_2) = true := decide_eq_true c14
                      clear c14
                      (first | rw [c14b0] | (simp only [i64_w, i32_w]; rw [c14b0]) | skip)
                      by_cases c15 : t375 = 0
                      · rw [if_pos c15] at H
                        have c15b0 : (t375 == 0) = true := beq_iff_eq.mpr c15
                        have c15b1 : (t375 != 0) = false := bne_eq_false_iff_eq.mpr c15
                        clear c15
                        have H' := Aside0.mk H
                        clear H
                        go_wp2
                        repeat (go_quiet (fail); try go_wp2)
                        go_meet
                        case rel => exact ⟨_, (true), (by first | rfl | (simp; done) | (simp [*]; done)), H', ⟨by have := HK1.out; have := HK2.out; first | omega | exact Nat.le_refl _⟩, ⟨by (with_reducible repeat (first | apply Kd.R_alloc | apply Kd.R_drewN | apply Kd.R_drew)); exact HO_9.out⟩, ⟨by repeat (first | (with_reducible first | exact HB.out | apply below_alloc | apply pw_below_drewN | apply below_drew1) | exact HB.out)⟩⟩
                      · rw [if_neg c15] at H
                        have c15b0 : (t375 == 0) = false := beq_eq_false_iff_ne.mpr c15
                        have c15b1 : (t375 != 0) = true := bne_iff_ne.mpr c15
                        have H' := Aside0.mk H
                        clear H
                        go_wp2
                        repeat (go_quiet (fail); try go_wp2)
                        go_meet
                        case rel => exact ⟨_, (decide ((IntKind.u64.wrap (x10_2 + t375)) < x10_2)), (by first | rfl | (simp; done) | (simp [*]; done)), H', ⟨by have := HK1.out; have := HK2.out; first | omega | exact Nat.le_refl _⟩, ⟨by (with_reducible repeat (first | apply Kd.R_alloc | apply Kd.R_drewN | apply Kd.R_drew)); exact HO_9.out⟩, ⟨by repeat (first | (with_reducible first | exact HB.out | apply below_alloc | apply pw_below_drewN | apply below_drew1) | exact HB.out)⟩⟩
                    · rw [if_neg c14] at H
                      have c14b0 : decide (0 < x11_2) = false := decide_eq_false c14
                      clear c14
                      (first | rw [c14b0] | (simp only [i64_w, i32_w]; rw [c14b0]) | skip)
                      have H' := Aside0.mk H
                      clear H
                      go_wp2
                      repeat (go_quiet (fail); try go_wp2)
                      go_meet
                      case rel => exact ⟨_, (false), (by first | rfl | (simp; done) | (simp [*]; done)), H', ⟨by have := HK1.out; have := HK2.out; first | omega | exact Nat.le_refl _⟩, ⟨by (with_reducible repeat (first | apply Kd.R_alloc | apply Kd.R_drewN | apply Kd.R_drew)); exact HO_9.out⟩, ⟨by repeat (first | (with_reducible first | exact HB.out | apply below_alloc | apply pw_below_drewN | apply below_drew1) | exact HB.out)⟩⟩
                  case rest =>
                    clear HC13
                    try clear c1
                    try clear c2
                    try clear c2b0
                    try clear p2
                    try clear c3
                    try clear c3b0
                    try clear p3
                    try clear q3
                    try clear hx3
                    try clear c4
                    try clear c4b0
                    try clear c5
                    try clear c5b0
                    try clear p6
                    try clear q6
                    try clear hx6
                    try clear c7
                    try clear c7b0
                    try clear c7b1
                    try clear c9
                    try clear c9b0
                    try clear c9b1
                    try clear c10
                    try clear c10b0
                    try clear c12
                    try clear c12b0
                    try clear c12b1
                    try clear c14
                    try clear c14b0
                    try clear c15
                    try clear c15b0
                    try clear c15b1
                    try clear hx371_0
                    try clear p2
                    try clear p3
                    try clear p371
                    try clear p6
                    try clear q3
                    try clear q371
                    try clear q6
                    obtain ⟨kq, x74_12, rfl, HA, HJ12, HO_9, HB⟩ := hcut
                    cases kq with
                    | zero => exact absurd HA.out (by simp [shutterref27_Decode.j2])
                    | succ kj12 =>
                      have H := HA.out
                      clear HA
                      simp only [shutterref27_Decode.j2] at H
                      by_cases c16 : x74_12 = true
                      · subst c16
                        have H1 : (some (([] : List (S82)), 271, x7_2)) = some (r1, r2, r3) := by rw [if_pos rfl] at H; exact H
                        clear H
                        have H := H1
                        clear H1
                        simp only [Option.some.injEq, Prod.mk.injEq] at H
                        obtain ⟨rfl, rfl, rfl⟩ := H
                        go_wp2
                        repeat (go_quiet (fail); try go_wp2)
                        go_ret3
                        exact ⟨_, by first | rfl | (simp [errW_none, errW_some] <;> rfl) | (simp [*, errW_none, errW_some] <;> rfl), by first | exact Kd.R_nil _ _ _ _ _ | exact Kd.N_nil _ _ _ _ _ | exact Kd.V_nil _ _ _ _ _ | exact Kd.Q_nil _ _ _ _ _ | exact Kd.S_nil _ _ _ _ _, by repeat (first | (with_reducible first | exact HB.out | apply below_alloc | apply pw_below_drewN | apply below_drew1) | exact HB.out)⟩
                      · replace c16 := Bool.eq_false_iff.mpr c16
                        subst c16
                        have H1 : ((shutterref27_number.f kj12 l0 t376).bind fun bt378 => (if bt378.2.2 = 0 then (if x9_2.length < 8796093022208 then (shutterref27_Decode.l1 kj12 l0 t372 bt378.2.1 (x9_2 ++ [(⟨IntKind.u64.wrap (x10_2 + t375), bt378.1⟩ : S82)]) (IntKind.u64.wrap (x10_2 + t375)) (IntKind.u64.wrap (x11_2 + 1))) else (none)) else (some (([] : List (S82)), bt378.2.2, bt378.2.1)))) = some (r1, r2, r3) := by rw [if_neg (show ¬ (false = true) by decide)] at H; exact H
                        clear H
                        have H := H1
                        clear H1
                        replace H := Option.bind_eq_some_iff.mp H
                        obtain ⟨⟨t378, t379, t380⟩, A170, H⟩ := H
                        replace H : (if t380 = 0 then (if x9_2.length < 8796093022208 then (shutterref27_Decode.l1 kj12 l0 t372 t379 (x9_2 ++ [(⟨IntKind.u64.wrap (x10_2 + t375), t378⟩ : S82)]) (IntKind.u64.wrap (x10_2 + t375)) (IntKind.u64.wrap (x11_2 + 1))) else (none)) else (some (([] : List (S82)), t380, t379))) = some (r1, r2, r3) := H
                        have A17 := Aside0.mk A170
                        clear A170
                        by_cases c18 : t380 = 0
                        · rw [if_pos c18] at H
                          have c18b0 : (t380 == 0) = true := beq_iff_eq.mpr c18
                          have c18b1 : (t380 != 0) = false := bne_eq_false_iff_eq.mpr c18
                          clear c18
                          by_cases c19 : x9_2.length < 8796093022208
                          · rw [if_pos c19] at H
                            have LMc19 := Aside0.mk c19
                            clear c19
                            obtain ⟨y381, hy381⟩ : ∃ y_ : List (S82), y_ = (x9_2 ++ [(⟨IntKind.u64.wrap (x10_2 + t375), t378⟩ : S82)]) := ⟨_, rfl⟩
                            replace H : (shutterref27_Decode.l1 kj12 l0 t372 t379 y381 (IntKind.u64.wrap (x10_2 + t375)) (IntKind.u64.wrap (x11_2 + 1))) = some (r1, r2, r3) := by first | (rw [hy381]; with_reducible exact H) | (have H2_ := (Option.bind_some _ _).symm.trans H; rw [hy381]; with_reducible exact H2_) | (have H2_ := (Option.bind_some _ _).symm.trans H; with_reducible exact H2_) | with_reducible exact H | (rw [hy381]; exact H) | exact H
                            have Ny381 := Aside0.mk hy381
                            clear hy381
                            have H' := Aside0.mk H
                            clear H
                            go_wp2_with (first | (go_at_call 64; (with_reducible refine (shutterref27_number.calls kj12 _ _ l0 t376 t378 t379 t380 _ ?side1 ?side2 A17.out).mono ?_); (case side1 => repeat (first | exact (Kd.C_below HR0.out HB.out) | (with_reducible refine Kd.C_alloc ?_ _) | (with_reducible refine Kd.C_drewN ?_ _) | (with_reducible refine Kd.C_drew ?_))); (case side2 => exact HC0.out); rintro e w' ⟨rfl, ⟨nd, rfl⟩⟩; (try first | exact ⟨rfl, _, World.drewN_drewN _ _ _⟩ | exact ⟨rfl, _, Eq.trans (World.drewN_drewN _ _ _) (congrArg (World.drewN _) (Nat.add_assoc _ _ _))⟩)) | ((with_reducible refine gate_builtin (b := .append) (xs := #[.tmp 90, .tmp 94]) rfl ?_); at_builtin; refine Kd.R_append k82 (w0 := w) w.heap.size rfl (.tmp 90) (.tmp 94) 22 82 (.agg #[(.int .u64 0), (.int .u64 0)]) 16 rfl Try.underlying22 info82 rfl (by decide) (by omega) u9 x9_2 (⟨IntKind.u64.wrap (x10_2 + t375), t378⟩ : S82) [.int .u64 (IntKind.u64.wrap (x10_2 + t375)), .int .u64 t378] (fun _ => True) (fun _ => False) rfl rfl ?aP (fun _ hk => hk.elim) ?aF ?aO ?aB ?aS ?aL ?_; (case aP => exact k82_mkM _ _ _ (⟨IntKind.u64.wrap (x10_2 + t375), t378⟩ : S82)); (case aB => exact (by repeat (first | (with_reducible first | exact HB.out | apply below_alloc | apply pw_below_drewN | apply below_drew1) | exact HB.out))); (case aF => exact (fun _ _ => trivial)); (case aO => exact (by (with_reducible repeat (first | apply Kd.R_alloc | apply Kd.R_drewN | apply Kd.R_drew)); exact HO_9.out)); (case aS => exact (below_size (by repeat (first | (with_reducible first | exact HB.out | apply below_alloc | apply pw_below_drewN | apply below_drew1) | exact HB.out)))); (case aL => have := LMc19.out; omega); intro v382 w20 ho hb hg hat; rw [← Ny381.out] at ho; have n0_ := Aside0.mk (hb); have n1_ := Aside0.mk (ho); clear HB; clear HO_9; have HB := n0_; have HO383 := n1_; clear n0_ n1_; clear ho hb hg hat))
                            repeat (go_quiet (first | (go_at_call 64; (with_reducible refine (shutterref27_number.calls kj12 _ _ l0 t376 t378 t379 t380 _ ?side1 ?side2 A17.out).mono ?_); (case side1 => repeat (first | exact (Kd.C_below HR0.out HB.out) | (with_reducible refine Kd.C_alloc ?_ _) | (with_reducible refine Kd.C_drewN ?_ _) | (with_reducible refine Kd.C_drew ?_))); (case side2 => exact HC0.out); rintro e w' ⟨rfl, ⟨nd, rfl⟩⟩; (try first | exact ⟨rfl, _, World.drewN_drewN _ _ _⟩ | exact ⟨rfl, _, Eq.trans (World.drewN_drewN _ _ _) (congrArg (World.drewN _) (Nat.add_assoc _ _ _))⟩)) | ((with_reducible refine gate_builtin (b := .append) (xs := #[.tmp 90, .tmp 94]) rfl ?_); at_builtin; refine Kd.R_append k82 (w0 := w) w.heap.size rfl (.tmp 90) (.tmp 94) 22 82 (.agg #[(.int .u64 0), (.int .u64 0)]) 16 rfl Try.underlying22 info82 rfl (by decide) (by omega) u9 x9_2 (⟨IntKind.u64.wrap (x10_2 + t375), t378⟩ : S82) [.int .u64 (IntKind.u64.wrap (x10_2 + t375)), .int .u64 t378] (fun _ => True) (fun _ => False) rfl rfl ?aP (fun _ hk => hk.elim) ?aF ?aO ?aB ?aS ?aL ?_; (case aP => exact k82_mkM _ _ _ (⟨IntKind.u64.wrap (x10_2 + t375), t378⟩ : S82)); (case aB => exact (by repeat (first | (with_reducible first | exact HB.out | apply below_alloc | apply pw_below_drewN | apply below_drew1) | exact HB.out))); (case aF => exact (fun _ _ => trivial)); (case aO => exact (by (with_reducible repeat (first | apply Kd.R_alloc | apply Kd.R_drewN | apply Kd.R_drew)); exact HO_9.out)); (case aS => exact (below_size (by repeat (first | (with_reducible first | exact HB.out | apply below_alloc | apply pw_below_drewN | apply below_drew1) | exact HB.out)))); (case aL => have := LMc19.out; omega); intro v382 w20 ho hb hg hat; rw [← Ny381.out] at ho; have n0_ := Aside0.mk (hb); have n1_ := Aside0.mk (ho); clear HB; clear HO_9; have HB := n0_; have HO383 := n1_; clear n0_ n1_; clear ho hb hg hat)); try go_wp2_with (first | (go_at_call 64; (with_reducible refine (shutterref27_number.calls kj12 _ _ l0 t376 t378 t379 t380 _ ?side1 ?side2 A17.out).mono ?_); (case side1 => repeat (first | exact (Kd.C_below HR0.out HB.out) | (with_reducible refine Kd.C_alloc ?_ _) | (with_reducible refine Kd.C_drewN ?_ _) | (with_reducible refine Kd.C_drew ?_))); (case side2 => exact HC0.out); rintro e w' ⟨rfl, ⟨nd, rfl⟩⟩; (try first | exact ⟨rfl, _, World.drewN_drewN _ _ _⟩ | exact ⟨rfl, _, Eq.trans (World.drewN_drewN _ _ _) (congrArg (World.drewN _) (Nat.add_assoc _ _ _))⟩)) | ((with_reducible refine gate_builtin (b := .append) (xs := #[.tmp 90, .tmp 94]) rfl ?_); at_builtin; refine Kd.R_append k82 (w0 := w) w.heap.size rfl (.tmp 90) (.tmp 94) 22 82 (.agg #[(.int .u64 0), (.int .u64 0)]) 16 rfl Try.underlying22 info82 rfl (by decide) (by omega) u9 x9_2 (⟨IntKind.u64.wrap (x10_2 + t375), t378⟩ : S82) [.int .u64 (IntKind.u64.wrap (x10_2 + t375)), .int .u64 t378] (fun _ => True) (fun _ => False) rfl rfl ?aP (fun _ hk => hk.elim) ?aF ?aO ?aB ?aS ?aL ?_; (case aP => exact k82_mkM _ _ _ (⟨IntKind.u64.wrap (x10_2 + t375), t378⟩ : S82)); (case aB => exact (by repeat (first | (with_reducible first | exact HB.out | apply below_alloc | apply pw_below_drewN | apply below_drew1) | exact HB.out))); (case aF => exact (fun _ _ => trivial)); (case aO => exact (by (with_reducible repeat (first | apply Kd.R_alloc | apply Kd.R_drewN | apply Kd.R_drew)); exact HO_9.out)); (case aS => exact (below_size (by repeat (first | (with_reducible first | exact HB.out | apply below_alloc | apply pw_below_drewN | apply below_drew1) | exact HB.out)))); (case aL => have := LMc19.out; omega); intro v382 w20 ho hb hg hat; rw [← Ny381.out] at ho; have n0_ := Aside0.mk (hb); have n1_ := Aside0.mk (ho); clear HB; clear HO_9; have HB := n0_; have HO383 := n1_; clear n0_ n1_; clear ho hb hg hat)))
                            go_roundg kj12
                            case measure => have := HK1.out; have := HK2.out; have := HJ12.out; omega
                            case rel => exact ⟨(t379), (y381), (IntKind.u64.wrap (x10_2 + t375)), (IntKind.u64.wrap (x11_2 + 1)), (by first | rfl | (simp; done) | (simp [*]; done)), (by first | rfl | (simp; done) | (simp [*]; done)), (by first | rfl | (simp; done) | (simp [*]; done)), H', ⟨by have := HK1.out; have := HK2.out; have := HJ12.out; omega⟩, ⟨by (with_reducible repeat (first | apply Kd.R_alloc | apply Kd.R_drewN | apply Kd.R_drew)); exact HO383.out⟩, ⟨by repeat (first | (with_reducible first | exact HB.out | apply below_alloc | apply pw_below_drewN | apply below_drew1) | exact HB.out)⟩⟩
                          · rw [if_neg c19] at H
                            exact absurd H (by simp)
                        · rw [if_neg c18] at H
                          have c18b0 : (t380 == 0) = false := beq_eq_false_iff_ne.mpr c18
                          have c18b1 : (t380 != 0) = true := bne_iff_ne.mpr c18
                          simp only [Option.some.injEq, Prod.mk.injEq] at H
                          obtain ⟨rfl, rfl, rfl⟩ := H
                          go_wp2_with (first | (go_at_call 64; (with_reducible refine (shutterref27_number.calls kj12 _ _ l0 t376 t378 t379 t380 _ ?side1 ?side2 A17.out).mono ?_); (case side1 => repeat (first | exact (Kd.C_below HR0.out HB.out) | (with_reducible refine Kd.C_alloc ?_ _) | (with_reducible refine Kd.C_drewN ?_ _) | (with_reducible refine Kd.C_drew ?_))); (case side2 => exact HC0.out); rintro e w' ⟨rfl, ⟨nd, rfl⟩⟩; (try first | exact ⟨rfl, _, World.drewN_drewN _ _ _⟩ | exact ⟨rfl, _, Eq.trans (World.drewN_drewN _ _ _) (congrArg (World.drewN _) (Nat.add_assoc _ _ _))⟩)))
                          repeat (go_quiet (first | (go_at_call 64; (with_reducible refine (shutterref27_number.calls kj12 _ _ l0 t376 t378 t379 t380 _ ?side1 ?side2 A17.out).mono ?_); (case side1 => repeat (first | exact (Kd.C_below HR0.out HB.out) | (with_reducible refine Kd.C_alloc ?_ _) | (with_reducible refine Kd.C_drewN ?_ _) | (with_reducible refine Kd.C_drew ?_))); (case side2 => exact HC0.out); rintro e w' ⟨rfl, ⟨nd, rfl⟩⟩; (try first | exact ⟨rfl, _, World.drewN_drewN _ _ _⟩ | exact ⟨rfl, _, Eq.trans (World.drewN_drewN _ _ _) (congrArg (World.drewN _) (Nat.add_assoc _ _ _))⟩))); try go_wp2_with (first | (go_at_call 64; (with_reducible refine (shutterref27_number.calls kj12 _ _ l0 t376 t378 t379 t380 _ ?side1 ?side2 A17.out).mono ?_); (case side1 => repeat (first | exact (Kd.C_below HR0.out HB.out) | (with_reducible refine Kd.C_alloc ?_ _) | (with_reducible refine Kd.C_drewN ?_ _) | (with_reducible refine Kd.C_drew ?_))); (case side2 => exact HC0.out); rintro e w' ⟨rfl, ⟨nd, rfl⟩⟩; (try first | exact ⟨rfl, _, World.drewN_drewN _ _ _⟩ | exact ⟨rfl, _, Eq.trans (World.drewN_drewN _ _ _) (congrArg (World.drewN _) (Nat.add_assoc _ _ _))⟩))))
                          go_ret3
                          exact ⟨_, by first | rfl | (simp [errW_none, errW_some] <;> rfl) | (simp [*, errW_none, errW_some] <;> rfl), by first | exact Kd.R_nil _ _ _ _ _ | exact Kd.N_nil _ _ _ _ _ | exact Kd.V_nil _ _ _ _ _ | exact Kd.Q_nil _ _ _ _ _ | exact Kd.S_nil _ _ _ _ _, by repeat (first | (with_reducible first | exact HB.out | apply below_alloc | apply pw_below_drewN | apply below_drew1) | exact HB.out)⟩
                · rw [if_neg c12] at H
                  have c12b0 : (t377 == 0) = false := beq_eq_false_iff_ne.mpr c12
                  have c12b1 : (t377 != 0) = true := bne_iff_ne.mpr c12
                  simp only [Option.some.injEq, Prod.mk.injEq] at H
                  obtain ⟨rfl, rfl, rfl⟩ := H
                  go_wp2_with (first | (go_at_call 64; (with_reducible refine (shutterref27_number.calls k2 _ _ l0 x7_2 t375 t376 t377 _ ?side1 ?side2 A11.out).mono ?_); (case side1 => repeat (first | exact (Kd.C_below HR0.out HB.out) | (with_reducible refine Kd.C_alloc ?_ _) | (with_reducible refine Kd.C_drewN ?_ _) | (with_reducible refine Kd.C_drew ?_))); (case side2 => exact HC0.out); rintro e w' ⟨rfl, ⟨nd, rfl⟩⟩; (try first | exact ⟨rfl, _, World.drewN_drewN _ _ _⟩ | exact ⟨rfl, _, Eq.trans (World.drewN_drewN _ _ _) (congrArg (World.drewN _) (Nat.add_assoc _ _ _))⟩)))
                  repeat (go_quiet (first | (go_at_call 64; (with_reducible refine (shutterref27_number.calls k2 _ _ l0 x7_2 t375 t376 t377 _ ?side1 ?side2 A11.out).mono ?_); (case side1 => repeat (first | exact (Kd.C_below HR0.out HB.out) | (with_reducible refine Kd.C_alloc ?_ _) | (with_reducible refine Kd.C_drewN ?_ _) | (with_reducible refine Kd.C_drew ?_))); (case side2 => exact HC0.out); rintro e w' ⟨rfl, ⟨nd, rfl⟩⟩; (try first | exact ⟨rfl, _, World.drewN_drewN _ _ _⟩ | exact ⟨rfl, _, Eq.trans (World.drewN_drewN _ _ _) (congrArg (World.drewN _) (Nat.add_assoc _ _ _))⟩))); try go_wp2_with (first | (go_at_call 64; (with_reducible refine (shutterref27_number.calls k2 _ _ l0 x7_2 t375 t376 t377 _ ?side1 ?side2 A11.out).mono ?_); (case side1 => repeat (first | exact (Kd.C_below HR0.out HB.out) | (with_reducible refine Kd.C_alloc ?_ _) | (with_reducible refine Kd.C_drewN ?_ _) | (with_reducible refine Kd.C_drew ?_))); (case side2 => exact HC0.out); rintro e w' ⟨rfl, ⟨nd, rfl⟩⟩; (try first | exact ⟨rfl, _, World.drewN_drewN _ _ _⟩ | exact ⟨rfl, _, Eq.trans (World.drewN_drewN _ _ _) (congrArg (World.drewN _) (Nat.add_assoc _ _ _))⟩))))
                  go_ret3
                  exact ⟨_, by first | rfl | (simp [errW_none, errW_some] <;> rfl) | (simp [*, errW_none, errW_some] <;> rfl), by first | exact Kd.R_nil _ _ _ _ _ | exact Kd.N_nil _ _ _ _ _ | exact Kd.V_nil _ _ _ _ _ | exact Kd.Q_nil _ _ _ _ _ | exact Kd.S_nil _ _ _ _ _, by repeat (first | (with_reducible first | exact HB.out | apply below_alloc | apply pw_below_drewN | apply below_drew1) | exact HB.out)⟩
              · rw [if_neg c10] at H
                have c10b0 : decide (x11_2 < t372) = false := decide_eq_false c10
                clear c10
                by_cases c21 : (wrap64 ((l0.length : Int) - x7_2)) < 4
                · rw [if_pos c21] at H
                  have c21b0 : decide ((wrap64 ((l0.length : Int) - x7_2)) < 4) = true := decide_eq_true c21
                  clear c21
                  simp only [Option.some.injEq, Prod.mk.injEq] at H
                  obtain ⟨rfl, rfl, rfl⟩ := H
                  go_wp2
                  repeat (go_quiet (fail); try go_wp2)
                  go_ret3
                  exact ⟨_, by first | rfl | (simp [errW_none, errW_some] <;> rfl) | (simp [*, errW_none, errW_some] <;> rfl), by first | exact Kd.R_nil _ _ _ _ _ | exact Kd.N_nil _ _ _ _ _ | exact Kd.V_nil _ _ _ _ _ | exact Kd.Q_nil _ _ _ _ _ | exact Kd.S_nil _ _ _ _ _, by repeat (first | (with_reducible first | exact HB.out | apply below_alloc | apply pw_below_drewN | apply below_drew1) | exact HB.out)⟩
                · rw [if_neg c21] at H
                  have c21b0 : decide ((wrap64 ((l0.length : Int) - x7_2)) < 4) = false := decide_eq_false c21
                  clear c21
                  by_cases c22 : 0 ≤ x7_2
                  · rw [if_pos c22] at H
                    have c22b0 := eq_true c22
                    have c22b1 : decide (0 ≤ x7_2) = true := decide_eq_true c22
                    clear c22
                    by_cases c23 : x7_2 ≤ (l0.length : Int)
                    · rw [if_pos c23] at H
                      have c23b0 := eq_true c23
                      have c23b1 : decide (x7_2 ≤ (l0.length : Int)) = true := decide_eq_true c23
                      clear c23
                      replace H := Option.bind_eq_some_iff.mp H
                      obtain ⟨t385, A240, H⟩ := H
                      replace H : (shutterref27_Decode.l2 k2 l0 x7_2 x9_2 t385 0) = some (r1, r2, r3) := H
                      have A24 := Aside0.mk A240
                      clear A240
                      have H' := Aside0.mk H
                      clear H
                      obtain ⟨i025, hi025, _, hsz25, _⟩ := info_parts info5
                      obtain ⟨hcut25, hA25, hC25⟩ := print_take_of (P := Try.prog) (Value.int .u8) 0 48 5 .i64 Try.underlying48 hi025 hsz25 A0 c0 l0 x7_2 (of_decide_eq_true (by first | (with_reducible assumption) | assumption)) (of_decide_eq_true (by first | (with_reducible assumption) | assumption)) HC0.out
                      have HR384 := Aside0.mk (Kd.C_of_reads (h1 := fun _ => rfl) (hA25 _ (Kd.reads_of_C HR0.out)))
                      have HC384 := Aside0.mk hC25
                      clear hA25 hC25 hi025 hsz25
                      go_wp2_with (first | (go_at_call 59; (with_reducible refine (refsum_at k2 _ _ _ (l0.take (x7_2 : Int).toNat) t385 _ (take_len (of_decide_eq_true (by first | (with_reducible assumption) | assumption)) (of_decide_eq_true (by first | (with_reducible assumption) | assumption))) ?side1 ?side2 A24.out).mono ?_); (case side1 => repeat (first | exact (Kd.C_below HR384.out HB.out) | (with_reducible refine Kd.C_alloc ?_ _) | (with_reducible refine Kd.C_drewN ?_ _) | (with_reducible refine Kd.C_drew ?_))); (case side2 => exact HC384.out); rintro e w' ⟨rfl, ⟨nd, rfl⟩⟩; (try first | exact ⟨rfl, _, World.drewN_drewN _ _ _⟩ | exact ⟨rfl, _, Eq.trans (World.drewN_drewN _ _ _) (congrArg (World.drewN _) (Nat.add_assoc _ _ _))⟩)))
                      repeat (go_quiet (first | (go_at_call 59; (with_reducible refine (refsum_at k2 _ _ _ (l0.take (x7_2 : Int).toNat) t385 _ (take_len (of_decide_eq_true (by first | (with_reducible assumption) | assumption)) (of_decide_eq_true (by first | (with_reducible assumption) | assumption))) ?side1 ?side2 A24.out).mono ?_); (case side1 => repeat (first | exact (Kd.C_below HR384.out HB.out) | (with_reducible refine Kd.C_alloc ?_ _) | (with_reducible refine Kd.C_drewN ?_ _) | (with_reducible refine Kd.C_drew ?_))); (case side2 => exact HC384.out); rintro e w' ⟨rfl, ⟨nd, rfl⟩⟩; (try first | exact ⟨rfl, _, World.drewN_drewN _ _ _⟩ | exact ⟨rfl, _, Eq.trans (World.drewN_drewN _ _ _) (congrArg (World.drewN _) (Nat.add_assoc _ _ _))⟩))); try go_wp2_with (first | (go_at_call 59; (with_reducible refine (refsum_at k2 _ _ _ (l0.take (x7_2 : Int).toNat) t385 _ (take_len (of_decide_eq_true (by first | (with_reducible assumption) | assumption)) (of_decide_eq_true (by first | (with_reducible assumption) | assumption))) ?side1 ?side2 A24.out).mono ?_); (case side1 => repeat (first | exact (Kd.C_below HR384.out HB.out) | (with_reducible refine Kd.C_alloc ?_ _) | (with_reducible refine Kd.C_drewN ?_ _) | (with_reducible refine Kd.C_drew ?_))); (case side2 => exact HC384.out); rintro e w' ⟨rfl, ⟨nd, rfl⟩⟩; (try first | exact ⟨rfl, _, World.drewN_drewN _ _ _⟩ | exact ⟨rfl, _, Eq.trans (World.drewN_drewN _ _ _) (congrArg (World.drewN _) (Nat.add_assoc _ _ _))⟩))))
                      go_loopg [16] k2 (fun kq v16 w' => ∃ (x16_3 : Int), v16 = .int .i64 x16_3 ∧ Aside0 (shutterref27_Decode.l2 kq l0 x7_2 x9_2 t385 x16_3 = some (r1, r2, r3)) ∧ Aside0 (kq ≤ k2) ∧ Aside0 (Kd.R k82 82 w' w.heap.size (fun _ => True) u9 x9_2) ∧ Aside0 (Below w.heap.size w w'))
                      case atStart => exact ⟨(0), (by first | rfl | (simp; done) | (simp [*]; done)), H', ⟨Nat.le_refl _⟩, ⟨by (with_reducible repeat (first | apply Kd.R_alloc | apply Kd.R_drewN | apply Kd.R_drew)); exact HO_9.out⟩, ⟨by repeat (first | (with_reducible first | exact HB.out | apply below_alloc | apply pw_below_drewN | apply below_drew1) | exact HB.out)⟩⟩
                      case round =>
                        clear H'
                        try clear c1
                        try clear c2
                        try clear c2b0
                        try clear p2
                        try clear c3
                        try clear c3b0
                        try clear p3
                        try clear q3
                        try clear hx3
                        try clear c4
                        try clear c4b0
                        try clear c5
                        try clear c5b0
                        try clear p6
                        try clear q6
                        try clear hx6
                        try clear c7
                        try clear c7b0
                        try clear c7b1
                        try clear c9
                        try clear c9b0
                        try clear c9b1
                        try clear c10
                        try clear c10b0
                        try clear c12
                        try clear c12b0
                        try clear c12b1
                        try clear c14
                        try clear c14b0
                        try clear c15
                        try clear c15b0
                        try clear c15b1
                        try clear c16
                        try clear c18
                        try clear c18b0
                        try clear c18b1
                        try clear c19
                        try clear c21
                        try clear c21b0
                        try clear c22
                        try clear c22b0
                        try clear c22b1
                        try clear c23
                        try clear c23b0
                        try clear c23b1
                        try clear hx371_0
                        try clear p2
                        try clear p3
                        try clear p371
                        try clear p6
                        try clear q3
                        try clear q371
                        try clear q6
                        obtain ⟨x16_3, rfl, HA, HK3, HO_9, HB⟩ := hrel
                        cases gk with
                        | zero => exact absurd HA.out (by simp [shutterref27_Decode.l2])
                        | succ k3 =>
                          have H := HA.out
                          clear HA
                          simp only [shutterref27_Decode.l2] at H
                          by_cases c26 : x16_3 < 4
                          · rw [if_pos c26] at H
                            have c26b0 : decide (x16_3 < 4) = true := decide_eq_true c26
                            clear c26
                            obtain ⟨ji27, hji27⟩ : ∃ j_ : Int, (wrap64 (x7_2 + x16_3)) = j_ := ⟨_, rfl⟩
                            replace H : (if 0 ≤ (ji27) then (if (ji27) < (l0.length : Int) then (if 0 ≤ (wrap64 (8 * x16_3)) then (if (rd l0 (ji27)) = ((shr .u32 t385 (wrap64 (8 * x16_3))) % 256) then (shutterref27_Decode.l2 k3 l0 x7_2 x9_2 t385 (wrap64 (x16_3 + 1))) else (some (([] : List (S82)), 271, x7_2))) else (none)) else (none)) else (none)) = some (r1, r2, r3) := by first | (rw [hji27] at H; exact H) | (simp only [hji27] at H ⊢; exact H)
                            have hji27w : (IntKind.i64.wrap (x7_2 + x16_3)) = ji27 := (i64_w _).trans hji27
                            by_cases c28 : 0 ≤ (ji27)
                            · rw [if_pos c28] at H
                              have c28b0 : decide (0 ≤ (ji27)) = true := decide_eq_true c28
                              clear c28
                              by_cases c29 : (ji27) < (l0.length : Int)
                              · rw [if_pos c29] at H
                                have c29b0 : decide ((ji27) < (l0.length : Int)) = true := decide_eq_true c29
                                clear c29
                                obtain ⟨ji30, hji30⟩ : ∃ j_ : Int, (wrap64 (8 * x16_3)) = j_ := ⟨_, rfl⟩
                                replace H : (if 0 ≤ (ji30) then (if (rd l0 (ji27)) = ((shr .u32 t385 (ji30)) % 256) then (shutterref27_Decode.l2 k3 l0 x7_2 x9_2 t385 (wrap64 (x16_3 + 1))) else (some (([] : List (S82)), 271, x7_2))) else (none)) = some (r1, r2, r3) := by first | (rw [hji30] at H; exact H) | (simp only [hji30] at H ⊢; exact H)
                                have hji30w : (IntKind.i64.wrap (8 * x16_3)) = ji30 := (i64_w _).trans hji30
                                by_cases c31 : 0 ≤ (ji30)
                                · rw [if_pos c31] at H
                                  have c31b0 := eq_true c31
                                  have c31b1 : decide (0 ≤ (ji30)) = true := decide_eq_true c31
                                  clear c31
                                  obtain ⟨ji32, hji32⟩ : ∃ j_ : Int, (shr .u32 t385 (ji30)) = j_ := ⟨_, rfl⟩
                                  replace H : (if (rd l0 (ji27)) = ((ji32) % 256) then (shutterref27_Decode.l2 k3 l0 x7_2 x9_2 t385 (wrap64 (x16_3 + 1))) else (some (([] : List (S82)), 271, x7_2))) = some (r1, r2, r3) := by first | (rw [hji32] at H; exact H) | (simp only [hji32] at H ⊢; exact H)
                                  have hji32_ : (t385 / 2 ^ min (ji30).toNat 32) = ji32 := hji32
                                  have hji32z : (ji30) ≤ 32 → (t385 / 2 ^ (ji30).toNat) = ji32 := shr_small hji32
                                  by_cases c33 : (rd l0 (ji27)) = ((ji32) % 256)
                                  · rw [if_pos c33] at H
                                    have c33b0 : ((rd l0 (ji27)) == ((ji32) % 256)) = true := beq_iff_eq.mpr c33
                                    have c33b1 : ((rd l0 (ji27)) != ((ji32) % 256)) = false := bne_eq_false_iff_eq.mpr c33
                                    clear c33
                                    have H' := Aside0.mk H
                                    clear H
                                    have p386 : 0 ≤ ((ji27) : Int) := of_decide_eq_true (by first | (with_reducible assumption) | assumption)
                                    have q386 : (ji27) < (l0.length : Int) := of_decide_eq_true (by first | (with_reducible assumption) | assumption)
                                    obtain ⟨ad386, e386, hx386_0⟩ := Kd.at_int HR0.out (ji27) p386 q386
                                    cases e386
                                    replace hx386_0 := (HB.out.cell (World.block_lt_of_cell? w _ hx386_0)).trans hx386_0
                                    replace p386 := eq_true p386
                                    replace q386 := eq_true q386
                                    go_wp2
                                    repeat (go_quiet (fail); try go_wp2)
                                    go_roundg k3
                                    case measure => have := HK1.out; have := HK2.out; have := HK3.out; omega
                                    case rel => exact ⟨(wrap64 (x16_3 + 1)), (by first | rfl | (simp; done) | (simp [*]; done)), H', ⟨by have := HK1.out; have := HK2.out; have := HK3.out; omega⟩, ⟨by (with_reducible repeat (first | apply Kd.R_alloc | apply Kd.R_drewN | apply Kd.R_drew)); exact HO_9.out⟩, ⟨by repeat (first | (with_reducible first | exact HB.out | apply below_alloc | apply pw_below_drewN | apply below_drew1) | exact HB.out)⟩⟩
                                  · rw [if_neg c33] at H
                                    have c33b0 : ((rd l0 (ji27)) == ((ji32) % 256)) = false := beq_eq_false_iff_ne.mpr c33
                                    have c33b1 : ((rd l0 (ji27)) != ((ji32) % 256)) = true := bne_iff_ne.mpr c33
                                    simp only [Option.some.injEq, Prod.mk.injEq] at H
                                    obtain ⟨rfl, rfl, rfl⟩ := H
                                    have p386 : 0 ≤ ((ji27) : Int) := of_decide_eq_true (by first | (with_reducible assumption) | assumption)
                                    have q386 : (ji27) < (l0.length : Int) := of_decide_eq_true (by first | (with_reducible assumption) | assumption)
                                    obtain ⟨ad386, e386, hx386_0⟩ := Kd.at_int HR0.out (ji27) p386 q386
                                    cases e386
                                    replace hx386_0 := (HB.out.cell (World.block_lt_of_cell? w _ hx386_0)).trans hx386_0
                                    replace p386 := eq_true p386
                                    replace q386 := eq_true q386
                                    go_wp2
                                    repeat (go_quiet (fail); try go_wp2)
                                    go_ret3
                                    exact ⟨_, by first | rfl | (simp [errW_none, errW_some] <;> rfl) | (simp only [← hji27, ← hji30, ← hji32]; first | rfl | (simp [errW_none, errW_some] <;> rfl)) | (simp [*, errW_none, errW_some] <;> rfl), by first | exact Kd.R_nil _ _ _ _ _ | exact Kd.N_nil _ _ _ _ _ | exact Kd.V_nil _ _ _ _ _ | exact Kd.Q_nil _ _ _ _ _ | exact Kd.S_nil _ _ _ _ _, by repeat (first | (with_reducible first | exact HB.out | apply below_alloc | apply pw_below_drewN | apply below_drew1) | exact HB.out)⟩
                                · rw [if_neg c31] at H
                                  exact absurd H (by simp)
                              · rw [if_neg c29] at H
                                exact absurd H (by simp)
                            · rw [if_neg c28] at H
                              exact absurd H (by simp)
                          · rw [if_neg c26] at H
                            have c26b0 : decide (x16_3 < 4) = false := decide_eq_false c26
                            clear c26
                            by_cases c34 : (l0.length : Int) > (wrap64 (x7_2 + 4))
                            · rw [if_pos c34] at H
                              have c34b0 : decide ((wrap64 (x7_2 + 4)) < (l0.length : Int)) = true := decide_eq_true c34
                              clear c34
                              simp only [Option.some.injEq, Prod.mk.injEq] at H
                              obtain ⟨rfl, rfl, rfl⟩ := H
                              go_wp2
                              repeat (go_quiet (fail); try go_wp2)
                              go_ret3
                              exact ⟨_, by first | rfl | (simp [errW_none, errW_some] <;> rfl) | (simp [*, errW_none, errW_some] <;> rfl), by first | exact Kd.R_nil _ _ _ _ _ | exact Kd.N_nil _ _ _ _ _ | exact Kd.V_nil _ _ _ _ _ | exact Kd.Q_nil _ _ _ _ _ | exact Kd.S_nil _ _ _ _ _, by repeat (first | (with_reducible first | exact HB.out | apply below_alloc | apply pw_below_drewN | apply below_drew1) | exact HB.out)⟩
                            · rw [if_neg c34] at H
                              have c34b0 : decide ((wrap64 (x7_2 + 4)) < (l0.length : Int)) = false := decide_eq_false c34
                              clear c34
                              simp only [Option.some.injEq, Prod.mk.injEq] at H
                              obtain ⟨rfl, rfl, rfl⟩ := H
                              go_wp2
                              repeat (go_quiet (fail); try go_wp2)
                              go_ret3
                              exact ⟨_, by first | rfl | (simp [errW_none, errW_some] <;> rfl) | (simp [*, errW_none, errW_some] <;> rfl), by (with_reducible repeat (first | apply Kd.R_alloc | apply Kd.R_drewN | apply Kd.R_drew)); exact HO_9.out, by repeat (first | (with_reducible first | exact HB.out | apply below_alloc | apply pw_below_drewN | apply below_drew1) | exact HB.out)⟩
                    · rw [if_neg c23] at H
                      exact absurd H (by simp)
                  · rw [if_neg c22] at H
                    exact absurd H (by simp)
        · rw [if_neg c9] at H
          have c9b0 : (t374 == 0) = false := beq_eq_false_iff_ne.mpr c9
          have c9b1 : (t374 != 0) = true := bne_iff_ne.mpr c9
          simp only [Option.some.injEq, Prod.mk.injEq] at H
          obtain ⟨rfl, rfl, rfl⟩ := H
          go_wp2_with (first | (go_at_call 64; (with_reducible refine (shutterref27_number.calls k1 _ _ l0 4 t372 t373 t374 _ ?side1 ?side2 A8.out).mono ?_); (case side1 => repeat (first | exact (Kd.C_below HR0.out HB.out) | (with_reducible refine Kd.C_alloc ?_ _) | (with_reducible refine Kd.C_drewN ?_ _) | (with_reducible refine Kd.C_drew ?_))); (case side2 => exact HC0.out); rintro e w' ⟨rfl, ⟨nd, rfl⟩⟩; (try first | exact ⟨rfl, _, World.drewN_drewN _ _ _⟩ | exact ⟨rfl, _, Eq.trans (World.drewN_drewN _ _ _) (congrArg (World.drewN _) (Nat.add_assoc _ _ _))⟩)))
          repeat (go_quiet (first | (go_at_call 64; (with_reducible refine (shutterref27_number.calls k1 _ _ l0 4 t372 t373 t374 _ ?side1 ?side2 A8.out).mono ?_); (case side1 => repeat (first | exact (Kd.C_below HR0.out HB.out) | (with_reducible refine Kd.C_alloc ?_ _) | (with_reducible refine Kd.C_drewN ?_ _) | (with_reducible refine Kd.C_drew ?_))); (case side2 => exact HC0.out); rintro e w' ⟨rfl, ⟨nd, rfl⟩⟩; (try first | exact ⟨rfl, _, World.drewN_drewN _ _ _⟩ | exact ⟨rfl, _, Eq.trans (World.drewN_drewN _ _ _) (congrArg (World.drewN _) (Nat.add_assoc _ _ _))⟩))); try go_wp2_with (first | (go_at_call 64; (with_reducible refine (shutterref27_number.calls k1 _ _ l0 4 t372 t373 t374 _ ?side1 ?side2 A8.out).mono ?_); (case side1 => repeat (first | exact (Kd.C_below HR0.out HB.out) | (with_reducible refine Kd.C_alloc ?_ _) | (with_reducible refine Kd.C_drewN ?_ _) | (with_reducible refine Kd.C_drew ?_))); (case side2 => exact HC0.out); rintro e w' ⟨rfl, ⟨nd, rfl⟩⟩; (try first | exact ⟨rfl, _, World.drewN_drewN _ _ _⟩ | exact ⟨rfl, _, Eq.trans (World.drewN_drewN _ _ _) (congrArg (World.drewN _) (Nat.add_assoc _ _ _))⟩))))
          go_ret3
          exact ⟨_, by first | rfl | (simp [errW_none, errW_some] <;> rfl) | (simp [*, errW_none, errW_some] <;> rfl), by first | exact Kd.R_nil _ _ _ _ _ | exact Kd.N_nil _ _ _ _ _ | exact Kd.V_nil _ _ _ _ _ | exact Kd.Q_nil _ _ _ _ _ | exact Kd.S_nil _ _ _ _ _, by repeat (first | (with_reducible first | exact HB.out | apply below_alloc | apply pw_below_drewN | apply below_drew1) | exact HB.out)⟩

end Go.Proofs.Ythblincfnfpgbaa.Q
namespace Go.Proofs.Ythblincfnfpgbaa.Q
open Go.RowKit Go.Proofs.YthblincfnfpgbaaW.PrintWords Go.Proofs.YthblincfnfpgbaaW.PrintLast Go.Proofs.YthblincfnfpgbaaW.PrintMore
set_option linter.unusedVariables false
set_option linter.unusedSimpArgs false
/-- A number at a state of the reader. -/
def numX (bs : List Int) (at' e : Int) : Int × Int × Int := if e = 0 then numR 0 at' 0 (bs.drop at'.toNat) else (0, at', e)
theorem numR_err (l : List Int) : ∀ (i : Nat) (a v : Int), 0 ≤ (numR i a v l).2.2 := by
  induction l with
  | nil => intro i a v; rw [numR]; show (0 : Int) ≤ 270; decide
  | cons c l ih =>
    intro i a v
    rw [numR]
    split
    · show (0 : Int) ≤ 271; decide
    · split
      · exact Int.le_refl _
      · exact ih _ _ _
theorem numR_place (l : List Int) : ∀ (i : Nat) (a v : Int), a ≤ (numR i a v l).2.1 ∧ (numR i a v l).2.1 ≤ a + l.length ∧ ((numR i a v l).2.2 = 0 → a < (numR i a v l).2.1) := by
  induction l with
  | nil => intro i a v; rw [numR]; simp
  | cons c l ih =>
    intro i a v
    rw [numR]
    split
    · simp
      omega
    · split
      · simp
        omega
      · have := ih (i + 1) (a + 1) (v + c % 128 * 2 ^ (7 * i))
        simp only [List.length_cons]
        omega
theorem numR_val (l : List Int) (hl : ∀ c ∈ l, 0 ≤ c ∧ c < 256) : ∀ (i : Nat) (a v : Int), i ≤ 9 → 0 ≤ v → v < 2 ^ (7 * i) → 0 ≤ (numR i a v l).1 ∧ (numR i a v l).1 < 18446744073709551616 := by
  have big : ∀ (i : Nat) (v : Int), i ≤ 9 → v < 2 ^ (7 * i) → v < 18446744073709551616 := by
    intro i v hi hv
    have h1 : (2 : Int) ^ (7 * i) ≤ 2 ^ 63 := by exact_mod_cast Nat.pow_le_pow_right (n := 2) (by decide) (show 7 * i ≤ 63 by omega)
    have h3 : (2 : Int) ^ 63 = 9223372036854775808 := by decide
    omega
  induction l with
  | nil => intro i a v hi h0 h1; rw [numR]; exact ⟨h0, big i v hi h1⟩
  | cons c l ih =>
    intro i a v hi h0 h1
    have hc := hl c (by simp)
    have hn := acc7_lt i v c h0 h1
    rw [numR]
    split
    · exact ⟨h0, big i v hi h1⟩
    · rename_i hb
      split
      · refine ⟨hn.1, ?_⟩
        by_cases h9 : i = 9
        · subst h9
          have : c ≤ 1 := by by_cases h : 1 < c; exact absurd (.inr ⟨rfl, h⟩) hb; omega
          have h3 : (2 : Int) ^ (7 * 9) = 9223372036854775808 := by decide
          rw [h3] at h1 ⊢
          show v + c % 128 * 9223372036854775808 < 18446744073709551616
          omega
        · exact big (i + 1) _ (by omega) hn.2
      · rename_i h128
        have h9 : i ≠ 9 := fun h => hb (.inr ⟨h, by omega⟩)
        exact ih (fun d hd => hl d (by simp [hd])) (i + 1) (a + 1) _ (by omega) hn.1 hn.2
set_option maxHeartbeats 4000000 in
set_option maxRecDepth 100000 in
theorem rdnumX_c (g : Nat) (bs : List Int) (at' e : Int) (w0 w : World) (hI : IsS123 w0 w g bs at' e) (hB : Below w0.heap.size w0 w) (ha : e = 0 → 0 ≤ at' ∧ at' ≤ bs.length) (hbs : ∀ c ∈ bs, 0 ≤ c ∧ c < 256) :
    Calls Try.prog 61 #[.pointer (some ⟨g, 0, none⟩)] w fun en w' => en = .returned (.int .u64 (numX bs at' e).1) ∧ IsS123 w0 w' g bs (numX bs at' e).2.1 (numX bs at' e).2.2 ∧ Below w0.heap.size w0 w' ∧ KeepBut w w' g none := by
  by_cases he : e = 0
  · subst he
    obtain ⟨n, rfl⟩ := Int.eq_ofNat_of_zero_le (ha rfl).1
    have := rdnum_c g bs n w0 w hI hB (by have := (ha rfl).2; omega) hbs
    simpa [numX] using this
  · have e1 : numX bs at' e = (0, at', e) := by unfold numX; rw [if_neg he]
    rw [e1]
    have hI' := Lib.hid hI
    obtain ⟨A, c, hb, hg, hC⟩ := hI
    have c1 := cellS123_1 hb
    have c2 := cellS123_2 hb
    have HB := Lib.hid hB
    have e2 : (e == 0) = false := by rw [beq_eq_false_iff_ne]; exact he
    clear hb hg hC hB e1 ha he
    go_enter Try.func61, Try.ntmps61
    go_wp2
    go_step3
    go_wp2
    go_step3
    go_wp2
    refine wp_loop_rounds 1 ?_
    rw [rounds_succ]
    go_wp2
    rw [Exit.noGoto_ret]
    go_ret
    exact ⟨rfl, hI'.out, HB.out, KeepBut.refl _ _ _⟩
/-- A pair behind another one, at a state of the reader: its key and value, the state then. -/
def pairX (bs : List Int) (at' e : Int) (last : Int) (first : Bool) : (Int × Int) × Int × Int :=
  let d := numX bs at' e
  let s : Int × Int := if first = false ∧ d.2.2 = 0 ∧ (d.1 = 0 ∨ IntKind.u64.wrap (last + d.1) < last) then (at', 271) else (d.2.1, d.2.2)
  let v := numX bs s.1 s.2
  ((IntKind.u64.wrap (last + d.1), v.1), v.2.1, v.2.2)
theorem numX_ok {bs : List Int} {at' e : Int} (ha : e = 0 → 0 ≤ at' ∧ at' ≤ bs.length) : (numX bs at' e).2.2 = 0 → 0 ≤ (numX bs at' e).2.1 ∧ (numX bs at' e).2.1 ≤ bs.length := by
  unfold numX
  split
  · rename_i he
    intro _
    have h1 := numR_place (bs.drop at'.toNat) 0 at' 0
    have h2 := ha he
    rw [List.length_drop] at h1
    omega
  · rename_i he
    intro h
    exact absurd h he
theorem numX_val {bs : List Int} {at' e : Int} (hbs : ∀ c ∈ bs, 0 ≤ c ∧ c < 256) : 0 ≤ (numX bs at' e).1 ∧ (numX bs at' e).1 < 18446744073709551616 := by
  unfold numX
  split
  · exact numR_val _ (fun c hc => hbs c (List.mem_of_mem_drop hc)) 0 at' 0 (by omega) (by omega) (by decide)
  · simp
theorem numX_stay {bs : List Int} {at' e : Int} (he : e ≠ 0) : numX bs at' e = (0, at', e) := by unfold numX; rw [if_neg he]
set_option maxHeartbeats 4000000 in
set_option maxRecDepth 100000 in
theorem pair_c (g : Nat) (bs : List Int) (at' e k v : Int) (first : Bool) (w0 w : World) (hI : IsS123 w0 w g bs at' e) (hB : Below w0.heap.size w0 w) (ha : e = 0 → 0 ≤ at' ∧ at' ≤ bs.length) (hbs : ∀ c ∈ bs, 0 ≤ c ∧ c < 256) (hk0 : 0 ≤ k) (hk1 : k < 18446744073709551616) :
    Calls Try.prog 62 #[.pointer (some ⟨g, 0, none⟩), .agg #[.int .u64 k, .int .u64 v], .bool first] w fun en w' => en = .returned (.agg #[.int .u64 (pairX bs at' e k first).1.1, .int .u64 (pairX bs at' e k first).1.2]) ∧ IsS123 w0 w' g bs (pairX bs at' e k first).2.1 (pairX bs at' e k first).2.2 ∧ Below w0.heap.size w0 w' ∧ KeepBut w w' g none := by
  have hu82 := Try.underlying82
  have hu123 := Try.underlying123
  have HI := Lib.hid hI
  have hgl := hI.lt
  obtain ⟨A, c, hb, hg, hC⟩ := hI
  have c1 := cellS123_1 hb
  have HB := Lib.hid hB
  have HBS := Lib.hid hbs
  have HA := Lib.hid ha
  clear hb hg hC hB hbs ha
  obtain ⟨R, hR⟩ : ∃ R, R = pairX bs at' e k first := ⟨_, rfl⟩
  rw [← hR]
  have HR0 := Lib.hid hR
  clear hR
  go_enter Try.func62, Try.ntmps62
  go_wp2_with fail
  go_at_call 61
  refine (rdnumX_c g bs at' e w0 _ ((HI.out.alloc _).alloc _) ((HB.out.alloc HB.out.size _).alloc (by have := HB.out.size; simp; omega) _) HA.out HBS.out).mono ?_
  rintro en w2 ⟨rfl, h1, h2, h3⟩
  have x4 : w2.heap[w.heap.size]? = some (.cells #[.int .u64 k, .int .u64 v] 82 (0, 0)) := h3.blk (blk_alloc (heap_alloc_new w _) _) (by omega) (by simp)
  have x6 : w2.heap[w.heap.size + 1]? = some (.cells #[.int .u64 0, .int .u64 0] 82 (0, 0)) := h3.blk (by have := heap_alloc_new (w.alloc (.cells #[.int .u64 k, .int .u64 v] 82)) (.cells #[.int .u64 0, .int .u64 0] 82); simpa using this) (by omega) (by simp)
  have H1 := Lib.hid h1
  have H2 := Lib.hid h2
  have H3 := Lib.hid (show KeepBut w w2 g none from (keep_alloc (keep_alloc (KeepBut.refl w g none) _) _).trans h3 (.inl rfl))
  have X4 := Lib.hid x4
  have X6 := Lib.hid x6
  obtain ⟨A', c', hb', -, -⟩ := h1
  have d2 := cellS123_2 hb'
  have hk : w2.cell? ⟨w.heap.size, 0, none⟩ = some (.int .u64 k) := (blk_cell x4 0).trans rfl
  have hv := numX_val (at' := at') (e := e) HBS.out
  have HO := Lib.hid (numX_ok (bs := bs) (e := e) HA.out)
  clear h2 h3 x4 x6 hb'
  have hR := HR0.out
  unfold pairX at hR
  dsimp only at hR
  clear HR0
  generalize numX bs at' e = N at *
  obtain ⟨d, a1, e1⟩ := N
  dsimp only at *
  obtain ⟨hd0, hd1⟩ := hv
  obtain ⟨s, hs⟩ : ∃ s : Int × Int, s = if first = false ∧ e1 = 0 ∧ (d = 0 ∨ IntKind.u64.wrap (k + d) < k) then (at', 271) else (a1, e1) := ⟨_, rfl⟩
  rw [← hs] at hR
  have HR := Lib.hid hR
  have HS := Lib.hid hs
  clear hR hs
  have hc : (first = true ∧ s = (a1, e1)) ∨ (first = false ∧ (e1 == 0) = false ∧ s = (a1, e1)) ∨ (first = false ∧ e1 = 0 ∧ (d == 0) = true ∧ s = (at', 271)) ∨ (first = false ∧ e1 = 0 ∧ (d == 0) = false ∧ IntKind.u64.wrap (k + d) < k ∧ s = (at', 271)) ∨ (first = false ∧ e1 = 0 ∧ (d == 0) = false ∧ ¬ IntKind.u64.wrap (k + d) < k ∧ s = (a1, 0)) := by
    have h := HS.out
    by_cases h1 : first = false
    · by_cases h2 : e1 = 0
      · by_cases h3 : d = 0
        · exact .inr (.inr (.inl ⟨h1, h2, by rw [beq_iff_eq]; exact h3, by rw [h, if_pos ⟨h1, h2, .inl h3⟩]⟩))
        · by_cases h4 : IntKind.u64.wrap (k + d) < k
          · exact .inr (.inr (.inr (.inl ⟨h1, h2, by rw [beq_eq_false_iff_ne]; exact h3, h4, by rw [h, if_pos ⟨h1, h2, .inr h4⟩]⟩)))
          · exact .inr (.inr (.inr (.inr ⟨h1, h2, by rw [beq_eq_false_iff_ne]; exact h3, h4, by rw [h, if_neg (fun hh => hh.2.2.elim h3 h4), h2]⟩)))
      · exact .inr (.inl ⟨h1, by rw [beq_eq_false_iff_ne]; exact h2, by rw [h, if_neg (fun hh => h2 hh.2.1)]⟩)
    · exact .inl ⟨by simpa using h1, by rw [h, if_neg (fun hh => h1 hh.1)]⟩
  rcases hc with ⟨rfl, rfl⟩ | ⟨rfl, q2, rfl⟩ | ⟨rfl, rfl, q3, rfl⟩ | ⟨rfl, rfl, q3, q4, rfl⟩ | ⟨rfl, rfl, q3, q4, rfl⟩
  · go_wp2_with fail
    have k60 : w2.cell? ⟨w.heap.size + 1, 0, none⟩ = some (.int .u64 0) := (blk_cell X6.out 0).trans rfl
    have k61 : w2.cell? ⟨w.heap.size + 1, 1, none⟩ = some (.int .u64 0) := (blk_cell X6.out 1).trans rfl
    have f60 : w2.frozen? ⟨w.heap.size + 1, 0, none⟩ = false := blk_frozen X6.out 0
    have f61 : w2.frozen? ⟨w.heap.size + 1, 1, none⟩ = false := blk_frozen X6.out 1
    go_region_with ((go_at_call 61; refine (rdnumX_c g bs a1 e1 w0 _ (by first | exact H1.out | exact H1.out.drew) (by exact H2.out.drew) (by first | exact HO.out | exact fun _ => HO.out trivial) HBS.out).mono ?_; rintro en w5 ⟨rfl, h1, h2, h3⟩; have x6' := h3.blk X6.out (by omega) (by simp); have hk5 := keep_cell h3 hk (by simp; omega); have k65 : w5.cell? ⟨w.heap.size + 1, 0, none⟩ = some (.int .u64 0) := (blk_cell x6' 0).trans rfl; have k65' : w5.cell? ⟨w.heap.size + 1, 1, none⟩ = some (.int .u64 0) := (blk_cell x6' 1).trans rfl; have f65 := blk_frozen x6' 0; have f65' := blk_frozen x6' 1; have J1 := Lib.hid h1; have J2 := Lib.hid h2; have J3 := Lib.hid h3; have J6 := Lib.hid x6'; clear h1 h2 h3 x6'))
    all_goals go_wp2_with fail
    all_goals
      refine bodyPost_ret (v := .agg #[.int .u64 (IntKind.u64.wrap (k + d)), .int .u64 (numX bs (a1) (e1)).1]) (by simp [results, Try.results62, go_sem, k65, k65', f65, f65', J6.out]) rfl ?_
      have hRR := HR.out
      rw [hRR]
      have hng : g ≠ w.heap.size + 1 := by omega
      exact ⟨rfl, (J1.out.far (p := ⟨w.heap.size + 1, 0, none⟩) hng _).far (p := ⟨w.heap.size + 1, 1, none⟩) hng _, (J2.out.setCell (by have := HB.out.size; simp; omega) _).setCell (by have := HB.out.size; simp; omega) _, keep_far (keep_far (H3.out.trans J3.out (.inl rfl)) (p := ⟨w.heap.size + 1, 0, none⟩) (by simp) _) (p := ⟨w.heap.size + 1, 1, none⟩) (by simp) _⟩
  · go_wp2_with fail
    have k60 : w2.cell? ⟨w.heap.size + 1, 0, none⟩ = some (.int .u64 0) := (blk_cell X6.out 0).trans rfl
    have k61 : w2.cell? ⟨w.heap.size + 1, 1, none⟩ = some (.int .u64 0) := (blk_cell X6.out 1).trans rfl
    have f60 : w2.frozen? ⟨w.heap.size + 1, 0, none⟩ = false := blk_frozen X6.out 0
    have f61 : w2.frozen? ⟨w.heap.size + 1, 1, none⟩ = false := blk_frozen X6.out 1
    go_region_with ((go_at_call 61; refine (rdnumX_c g bs a1 e1 w0 _ (by first | exact H1.out | exact H1.out.drew) (by exact H2.out.drew) (by first | exact HO.out | exact fun _ => HO.out trivial) HBS.out).mono ?_; rintro en w5 ⟨rfl, h1, h2, h3⟩; have x6' := h3.blk X6.out (by omega) (by simp); have hk5 := keep_cell h3 hk (by simp; omega); have k65 : w5.cell? ⟨w.heap.size + 1, 0, none⟩ = some (.int .u64 0) := (blk_cell x6' 0).trans rfl; have k65' : w5.cell? ⟨w.heap.size + 1, 1, none⟩ = some (.int .u64 0) := (blk_cell x6' 1).trans rfl; have f65 := blk_frozen x6' 0; have f65' := blk_frozen x6' 1; have J1 := Lib.hid h1; have J2 := Lib.hid h2; have J3 := Lib.hid h3; have J6 := Lib.hid x6'; clear h1 h2 h3 x6'))
    all_goals go_wp2_with fail
    all_goals
      refine bodyPost_ret (v := .agg #[.int .u64 (IntKind.u64.wrap (k + d)), .int .u64 (numX bs (a1) (e1)).1]) (by simp [results, Try.results62, go_sem, k65, k65', f65, f65', J6.out]) rfl ?_
      have hRR := HR.out
      rw [hRR]
      have hng : g ≠ w.heap.size + 1 := by omega
      exact ⟨rfl, (J1.out.far (p := ⟨w.heap.size + 1, 0, none⟩) hng _).far (p := ⟨w.heap.size + 1, 1, none⟩) hng _, (J2.out.setCell (by have := HB.out.size; simp; omega) _).setCell (by have := HB.out.size; simp; omega) _, keep_far (keep_far (H3.out.trans J3.out (.inl rfl)) (p := ⟨w.heap.size + 1, 0, none⟩) (by simp) _) (p := ⟨w.heap.size + 1, 1, none⟩) (by simp) _⟩
  · go_wp2_with fail
    go_at_call 63
    refine (dump_reader_fail.calls g bs _ 0 271 at' at' 271 w0 _ H1.out H2.out rfl).mono ?_
    rintro en w3 ⟨rfl, h1, h2, h3⟩
    have x6 := h3.blk X6.out (by omega) (by simp)
    have hk3 := keep_cell h3 hk (by simp; omega)
    replace X6 := Lib.hid x6
    replace H1 := Lib.hid h1
    replace H2 := Lib.hid h2
    replace H3 := Lib.hid (H3.out.trans h3 (.inl rfl))
    have HO := Lib.hid (show (271 : Int) = 0 → 0 ≤ at' ∧ at' ≤ bs.length from fun h => absurd h (by decide))
    clear h1 h2 h3 x6 hk d2
    have hk := hk3
    clear hk3
    go_wp2_with fail
    have k60 : w3.cell? ⟨w.heap.size + 1, 0, none⟩ = some (.int .u64 0) := (blk_cell X6.out 0).trans rfl
    have k61 : w3.cell? ⟨w.heap.size + 1, 1, none⟩ = some (.int .u64 0) := (blk_cell X6.out 1).trans rfl
    have f60 : w3.frozen? ⟨w.heap.size + 1, 0, none⟩ = false := blk_frozen X6.out 0
    have f61 : w3.frozen? ⟨w.heap.size + 1, 1, none⟩ = false := blk_frozen X6.out 1
    go_region_with ((go_at_call 61; refine (rdnumX_c g bs at' 271 w0 _ (by first | exact H1.out | exact H1.out.drew) (by exact H2.out.drew) (by first | exact HO.out | exact fun _ => HO.out trivial) HBS.out).mono ?_; rintro en w5 ⟨rfl, h1, h2, h3⟩; have x6' := h3.blk X6.out (by omega) (by simp); have hk5 := keep_cell h3 hk (by simp; omega); have k65 : w5.cell? ⟨w.heap.size + 1, 0, none⟩ = some (.int .u64 0) := (blk_cell x6' 0).trans rfl; have k65' : w5.cell? ⟨w.heap.size + 1, 1, none⟩ = some (.int .u64 0) := (blk_cell x6' 1).trans rfl; have f65 := blk_frozen x6' 0; have f65' := blk_frozen x6' 1; have J1 := Lib.hid h1; have J2 := Lib.hid h2; have J3 := Lib.hid h3; have J6 := Lib.hid x6'; clear h1 h2 h3 x6'))
    all_goals go_wp2_with fail
    all_goals
      refine bodyPost_ret (v := .agg #[.int .u64 (IntKind.u64.wrap (k + d)), .int .u64 (numX bs (at') (271)).1]) (by simp [results, Try.results62, go_sem, k65, k65', f65, f65', J6.out]) rfl ?_
      have hRR := HR.out
      rw [hRR]
      have hng : g ≠ w.heap.size + 1 := by omega
      exact ⟨rfl, (J1.out.far (p := ⟨w.heap.size + 1, 0, none⟩) hng _).far (p := ⟨w.heap.size + 1, 1, none⟩) hng _, (J2.out.setCell (by have := HB.out.size; simp; omega) _).setCell (by have := HB.out.size; simp; omega) _, keep_far (keep_far (H3.out.trans J3.out (.inl rfl)) (p := ⟨w.heap.size + 1, 0, none⟩) (by simp) _) (p := ⟨w.heap.size + 1, 1, none⟩) (by simp) _⟩
  · go_wp2_with fail
    go_at_call 63
    refine (dump_reader_fail.calls g bs _ 0 271 at' at' 271 w0 _ H1.out H2.out rfl).mono ?_
    rintro en w3 ⟨rfl, h1, h2, h3⟩
    have x6 := h3.blk X6.out (by omega) (by simp)
    have hk3 := keep_cell h3 hk (by simp; omega)
    replace X6 := Lib.hid x6
    replace H1 := Lib.hid h1
    replace H2 := Lib.hid h2
    replace H3 := Lib.hid (H3.out.trans h3 (.inl rfl))
    have HO := Lib.hid (show (271 : Int) = 0 → 0 ≤ at' ∧ at' ≤ bs.length from fun h => absurd h (by decide))
    clear h1 h2 h3 x6 hk d2
    have hk := hk3
    clear hk3
    go_wp2_with fail
    have k60 : w3.cell? ⟨w.heap.size + 1, 0, none⟩ = some (.int .u64 0) := (blk_cell X6.out 0).trans rfl
    have k61 : w3.cell? ⟨w.heap.size + 1, 1, none⟩ = some (.int .u64 0) := (blk_cell X6.out 1).trans rfl
    have f60 : w3.frozen? ⟨w.heap.size + 1, 0, none⟩ = false := blk_frozen X6.out 0
    have f61 : w3.frozen? ⟨w.heap.size + 1, 1, none⟩ = false := blk_frozen X6.out 1
    go_region_with ((go_at_call 61; refine (rdnumX_c g bs at' 271 w0 _ (by first | exact H1.out | exact H1.out.drew) (by exact H2.out.drew) (by first | exact HO.out | exact fun _ => HO.out trivial) HBS.out).mono ?_; rintro en w5 ⟨rfl, h1, h2, h3⟩; have x6' := h3.blk X6.out (by omega) (by simp); have hk5 := keep_cell h3 hk (by simp; omega); have k65 : w5.cell? ⟨w.heap.size + 1, 0, none⟩ = some (.int .u64 0) := (blk_cell x6' 0).trans rfl; have k65' : w5.cell? ⟨w.heap.size + 1, 1, none⟩ = some (.int .u64 0) := (blk_cell x6' 1).trans rfl; have f65 := blk_frozen x6' 0; have f65' := blk_frozen x6' 1; have J1 := Lib.hid h1; have J2 := Lib.hid h2; have J3 := Lib.hid h3; have J6 := Lib.hid x6'; clear h1 h2 h3 x6'))
    all_goals go_wp2_with fail
    all_goals
      refine bodyPost_ret (v := .agg #[.int .u64 (IntKind.u64.wrap (k + d)), .int .u64 (numX bs (at') (271)).1]) (by simp [results, Try.results62, go_sem, k65, k65', f65, f65', J6.out]) rfl ?_
      have hRR := HR.out
      rw [hRR]
      have hng : g ≠ w.heap.size + 1 := by omega
      exact ⟨rfl, (J1.out.far (p := ⟨w.heap.size + 1, 0, none⟩) hng _).far (p := ⟨w.heap.size + 1, 1, none⟩) hng _, (J2.out.setCell (by have := HB.out.size; simp; omega) _).setCell (by have := HB.out.size; simp; omega) _, keep_far (keep_far (H3.out.trans J3.out (.inl rfl)) (p := ⟨w.heap.size + 1, 0, none⟩) (by simp) _) (p := ⟨w.heap.size + 1, 1, none⟩) (by simp) _⟩
  · go_wp2_with fail
    have k60 : w2.cell? ⟨w.heap.size + 1, 0, none⟩ = some (.int .u64 0) := (blk_cell X6.out 0).trans rfl
    have k61 : w2.cell? ⟨w.heap.size + 1, 1, none⟩ = some (.int .u64 0) := (blk_cell X6.out 1).trans rfl
    have f60 : w2.frozen? ⟨w.heap.size + 1, 0, none⟩ = false := blk_frozen X6.out 0
    have f61 : w2.frozen? ⟨w.heap.size + 1, 1, none⟩ = false := blk_frozen X6.out 1
    go_region_with ((go_at_call 61; refine (rdnumX_c g bs a1 0 w0 _ (by first | exact H1.out | exact H1.out.drew) (by exact H2.out.drew) (by first | exact HO.out | exact fun _ => HO.out trivial) HBS.out).mono ?_; rintro en w5 ⟨rfl, h1, h2, h3⟩; have x6' := h3.blk X6.out (by omega) (by simp); have hk5 := keep_cell h3 hk (by simp; omega); have k65 : w5.cell? ⟨w.heap.size + 1, 0, none⟩ = some (.int .u64 0) := (blk_cell x6' 0).trans rfl; have k65' : w5.cell? ⟨w.heap.size + 1, 1, none⟩ = some (.int .u64 0) := (blk_cell x6' 1).trans rfl; have f65 := blk_frozen x6' 0; have f65' := blk_frozen x6' 1; have J1 := Lib.hid h1; have J2 := Lib.hid h2; have J3 := Lib.hid h3; have J6 := Lib.hid x6'; clear h1 h2 h3 x6'))
    all_goals go_wp2_with fail
    all_goals
      refine bodyPost_ret (v := .agg #[.int .u64 (IntKind.u64.wrap (k + d)), .int .u64 (numX bs (a1) (0)).1]) (by simp [results, Try.results62, go_sem, k65, k65', f65, f65', J6.out]) rfl ?_
      have hRR := HR.out
      rw [hRR]
      have hng : g ≠ w.heap.size + 1 := by omega
      exact ⟨rfl, (J1.out.far (p := ⟨w.heap.size + 1, 0, none⟩) hng _).far (p := ⟨w.heap.size + 1, 1, none⟩) hng _, (J2.out.setCell (by have := HB.out.size; simp; omega) _).setCell (by have := HB.out.size; simp; omega) _, keep_far (keep_far (H3.out.trans J3.out (.inl rfl)) (p := ⟨w.heap.size + 1, 0, none⟩) (by simp) _) (p := ⟨w.heap.size + 1, 1, none⟩) (by simp) _⟩
end Go.Proofs.Ythblincfnfpgbaa.Q
namespace Go.Proofs.Ythblincfnfpgbaa.Q
open Go.RowKit Go.Proofs.YthblincfnfpgbaaW.PrintWords
set_option linter.unusedVariables false
set_option linter.unusedSimpArgs false
theorem part5 (xs : Array Value) (i : Nat) (v : Value) (h : xs[i]? = some v) (w : World) : (part 5 xs i).run Try.prog w = .ok v w := by
  obtain ⟨hi, hv⟩ := Array.getElem?_eq_some_iff.1 h
  simp [part, isAgg, run_underlying Try.underlying5, h]
theorem items_cons (d : Nat) (xs ys : Array Value) (i : Nat) (is : List Nat) (a b : Int) (w : World) (h1 : xs[i * 1]? = some (.int .u8 a)) (h2 : ys[i * 1]? = some (.int .u8 b)) (r : Bool) (h : (Op.eqItems (d + 1) 5 1 xs ys is).run Try.prog w = .ok r w) :
    (Op.eqItems (d + 1) 5 1 xs ys (i :: is)).run Try.prog w = .ok ((a == b) && r) w := by
  rw [Op.eqItems]
  simp only [Sem.run_bind, part5 _ _ _ h1, part5 _ _ _ h2, Result.andThen_ok, run_equalIn_int w d 5 .u8 .u8 a b Try.underlying5]
  cases a == b
  · simp
  · simpa using h
theorem eq_arr4 (y0 y1 y2 y3 f0 f1 f2 f3 : Int) (w : World) : Sem.run Try.prog (Op.equalIn 10000 117 (.agg #[.int .u8 y0, .int .u8 y1, .int .u8 y2, .int .u8 y3]) (.agg #[.int .u8 f0, .int .u8 f1, .int .u8 f2, .int .u8 f3])) w = .ok ([y0, y1, y2, y3] == [f0, f1, f2, f3]) w := by
  obtain ⟨i0, hi, -, -, -⟩ := info_parts info5
  have e := run_equalIn_array (P := Try.prog) w 9999 #[.int .u8 y0, .int .u8 y1, .int .u8 y2, .int .u8 y3] #[.int .u8 f0, .int .u8 f1, .int .u8 f2, .int .u8 f3] Try.underlying117 hi
  have hc : Try.prog.cellsOf 5 = 1 := by kernel_rfl
  rw [hc] at e
  rw [show (10000 : Nat) = 9999 + 1 from rfl]
  refine e.trans ?_
  have h := items_cons 9998 #[.int .u8 y0, .int .u8 y1, .int .u8 y2, .int .u8 y3] #[.int .u8 f0, .int .u8 f1, .int .u8 f2, .int .u8 f3] 0 [1, 2, 3] y0 f0 w rfl rfl _
    (items_cons 9998 _ _ 1 [2, 3] y1 f1 w rfl rfl _ (items_cons 9998 _ _ 2 [3] y2 f2 w rfl rfl _ (items_cons 9998 _ _ 3 [] y3 f3 w rfl rfl true (by simp [Op.eqItems]))))
  rw [show List.range 4 = [0, 1, 2, 3] from rfl]
  refine h.trans ?_
  congr 1
end Go.Proofs.Ythblincfnfpgbaa.Q
namespace Go.Proofs.Ythblincfnfpgbaa.Q
open Go.RowKit Go.Proofs.YthblincfnfpgbaaW.PrintWords Go.Proofs.YthblincfnfpgbaaW.PrintLast Go.Proofs.YthblincfnfpgbaaW.PrintMore
set_option linter.unusedVariables false
set_option linter.unusedSimpArgs false
/-- The pairs, so many at most, at a state of the reader; the state then. -/
def decL (bs : List Int) : Nat → Int → Int → Int → Int → List S82 → List S82 × Int × Int
  | 0, _, at', e, _, acc => (acc, at', e)
  | k + 1, n, at', e, last, acc => if 0 < n ∧ e = 0 then decL bs k (IntKind.u64.wrap (n - 1)) (pairX bs at' e last ((acc.length : Int) == 0)).2.1 (pairX bs at' e last ((acc.length : Int) == 0)).2.2 (pairX bs at' e last ((acc.length : Int) == 0)).1.1 (acc ++ [⟨(pairX bs at' e last ((acc.length : Int) == 0)).1.1, (pairX bs at' e last ((acc.length : Int) == 0)).1.2⟩]) else (acc, at', e)
theorem decL_end (bs : List Int) (k : Nat) (n at' e last : Int) (acc : List S82) (h : ¬ (0 < n ∧ e = 0)) : decL bs k n at' e last acc = (acc, at', e) := by
  cases k with
  | zero => rfl
  | succ k => rw [decL, if_neg h]
/-- What is looked at behind the pairs. -/
def finX (bs : List Int) (at' e : Int) : Int × Int :=
  if e = 0 then (if (bs.length : Int) - at' < 4 then ((bs.length : Int), 270) else if ((bs.drop at'.toNat).take 4 == fixedS (sumS 2166136261 (bs.take at'.toNat))) = false then (at', 271) else if (bs.length : Int) - at' > 4 then (at' + 4, 272) else (at', 0)) else (at', e)
def decX (bs : List Int) : List S82 × Int × Int :=
  let s := startX bs
  let n := numX bs s.1 s.2
  let L := decL bs (bs.length + 1) n.1 n.2.1 n.2.2 0 []
  let f := finX bs L.2.1 L.2.2
  if f.2 = 0 then (L.1, 0, 0) else ([], f.2, f.1)
theorem startX_ok (bs : List Int) : (startX bs).2 = 0 → 0 ≤ (startX bs).1 ∧ (startX bs).1 ≤ bs.length := by
  unfold startX
  match bs with
  | [] => intro h; exact absurd h (by decide)
  | [a] => intro h; simp only [startL] at h; split at h <;> exact absurd h (by decide)
  | [a, b] => intro h; simp only [startL] at h; (repeat' split at h) <;> exact absurd h (by decide)
  | [a, b, c] => intro h; simp only [startL] at h; (repeat' split at h) <;> exact absurd h (by decide)
  | a :: b :: c :: d :: l =>
    intro h
    simp only [startL] at h ⊢
    repeat' split at h
    all_goals first | exact absurd h (by decide) | skip
    simp_all
    omega
theorem pairX_ok {bs : List Int} {at' e last : Int} {first : Bool} (ha : e = 0 → 0 ≤ at' ∧ at' ≤ bs.length) : (pairX bs at' e last first).2.2 = 0 → at' < (pairX bs at' e last first).2.1 ∧ (pairX bs at' e last first).2.1 ≤ bs.length ∧ e = 0 := by
  unfold pairX
  dsimp only
  intro h
  have h0 := numX_ok ha
  by_cases hc : first = false ∧ (numX bs at' e).2.2 = 0 ∧ ((numX bs at' e).1 = 0 ∨ IntKind.u64.wrap (last + (numX bs at' e).1) < last)
  · rw [if_pos hc] at h
    rw [numX_stay (show (271 : Int) ≠ 0 by decide)] at h
    exact absurd h (show ¬ (271 : Int) = 0 by decide)
  · rw [if_neg hc] at h ⊢
    dsimp only at h ⊢
    have h1 : (numX bs at' e).2.2 = 0 := by
      by_cases hz : (numX bs at' e).2.2 = 0
      · exact hz
      · rw [numX_stay hz] at h
        exact absurd h hz
    have h2 := h0 h1
    have h3 := numX_ok (bs := bs) (at' := (numX bs at' e).2.1) (e := (numX bs at' e).2.2) (fun _ => h2) h
    have h4 : e = 0 := by
      by_cases hz : e = 0
      · exact hz
      · rw [numX_stay hz] at h1
        exact absurd h1 hz
    subst h4
    have h5 : at' < (numX bs at' 0).2.1 := by
      have := (numR_place (bs.drop at'.toNat) 0 at' 0).2.2
      unfold numX at h1 ⊢
      rw [if_pos rfl] at h1 ⊢
      exact this h1
    have h6 : (numX bs at' 0).2.1 ≤ (numX bs (numX bs at' 0).2.1 (numX bs at' 0).2.2).2.1 := by
      have := (numR_place (bs.drop (numX bs at' 0).2.1.toNat) 0 (numX bs at' 0).2.1 0).1
      rw [h1]
      generalize (numX bs at' 0).2.1 = z at *
      unfold numX
      rw [if_pos rfl]
      exact this
    exact ⟨by omega, h3.2, rfl⟩
theorem pairX_key {bs : List Int} {at' e last : Int} {first : Bool} : 0 ≤ (pairX bs at' e last first).1.1 ∧ (pairX bs at' e last first).1.1 < 18446744073709551616 := by
  unfold pairX; exact u64_range _
theorem pairX_val {bs : List Int} {at' e last : Int} {first : Bool} (hbs : ∀ c ∈ bs, 0 ≤ c ∧ c < 256) : 0 ≤ (pairX bs at' e last first).1.2 ∧ (pairX bs at' e last first).1.2 < 18446744073709551616 := by
  unfold pairX; exact numX_val hbs
theorem fixed_v (s f0 f1 f2 f3 : Int) (w : World) (h0 : 0 ≤ s) (h1 : s < 4294967296) (h : fixedS s = [f0, f1, f2, f3]) :
    Calls Try.prog 56 #[.int .u32 s] w fun e w' => e = .returned (.agg #[.int .u8 f0, .int .u8 f1, .int .u8 f2, .int .u8 f3]) ∧ Below w.heap.size w w' := by
  simp only [fixedS, List.cons.injEq, and_true] at h
  obtain ⟨rfl, rfl, rfl, rfl⟩ := h
  exact fixed_c s w h0 h1
theorem take4 (bs : List Int) (z : Nat) (h : z + 4 ≤ bs.length) : (bs.drop z).take 4 = [rd bs z, rd bs (z + 1 : Nat), rd bs (z + 2 : Nat), rd bs (z + 3 : Nat)] := by
  rw [drop_at bs z (by omega), drop_at bs (z + 1) (by omega), drop_at bs (z + 2) (by omega), drop_at bs (z + 3) (by omega)]
  rfl
theorem sum_v (A : Option Addr) (c z : Nat) (T : List Int) (s : Int) (w : World) (hC : Kd.C (Kd.int .u8) w A T.length T) (hc : T.length ≤ c) (hz : T.length = z) (hl : T.length < 4398046511104) (hs : sumS 2166136261 T = s) :
    Calls Try.prog 57 #[.slice A z c] w fun e w' => e = .returned (.int .u32 s) ∧ Below w.heap.size w w' := by
  subst hs hz
  refine (dump_sum.calls _ _ _ _ _ _ hC hc (sum_f T (by omega))).mono ?_
  rintro e w' ⟨rfl, ⟨n, rfl⟩⟩
  exact ⟨rfl, pw_below_drewN (Below.refl _ _) n⟩
set_option maxHeartbeats 16000000 in
set_option maxRecDepth 100000 in
theorem decode_c (A : Option Addr) (c : Nat) (bs : List Int) (w : World) (hA : Kd.C (Kd.int .u8) w A bs.length bs) (hc : bs.length ≤ c) (hl : bs.length < 4398046511104) (hbs : ∀ c ∈ bs, 0 ≤ c ∧ c < 256) :
    Calls Try.prog 30 #[.slice A bs.length c] w fun e w' => ∃ v, e = .returned (.tuple #[v, .int .i64 (decX bs).2.1, .int .i64 (decX bs).2.2]) ∧ Kd.R k82 82 w' w.heap.size (fun _ => True) v (decX bs).1 ∧ Below w.heap.size w w' := by
  have hu82 := Try.underlying82
  have hu123 := Try.underlying123
  have hu117 := Try.underlying117
  have HA := Lib.hid hA
  have HC := Lib.hid hc
  have HL := Lib.hid hl
  have HBS := Lib.hid hbs
  obtain ⟨R, hR⟩ : ∃ R, R = decX bs := ⟨_, rfl⟩
  rw [← hR]
  have HR := Lib.hid hR
  clear hA hc hl hbs hR
  go_enter Try.func30, Try.ntmps30
  go_wp2_with fail
  go_at_call 60
  refine (start_c w.heap.size bs w _ (IsS123.new w w A c bs 0 0 (Below.refl _ _) HA.out) ((Below.refl _ _).alloc (Nat.le_refl _) _)).mono ?_
  rintro en w1 ⟨rfl, h1, h2, h3⟩
  have S1 := Lib.hid h1
  have B1 := Lib.hid h2
  clear h1 h2 h3
  go_wp2_with fail
  go_at_call 61
  refine (rdnumX_c w.heap.size bs _ _ w _ (S1.out.alloc _) (B1.out.alloc B1.out.size _) (startX_ok bs) HBS.out).mono ?_
  rintro en w2 ⟨rfl, h1, h2, h3⟩
  have hx := h3.blk (heap_alloc_new w1 _) (by have := S1.out.lt; omega) (by simp)
  have HG : Hid (w.heap.size < w1.heap.size) := Lib.hid S1.out.lt
  have S2 := Lib.hid h1
  have B2 := Lib.hid h2
  have X2 := Lib.hid hx
  have HO := Lib.hid (numX_ok (startX_ok bs))
  have hv := numX_val (bs := bs) (at' := (startX bs).1) (e := (startX bs).2) HBS.out
  have HN : Hid (R = (let f := finX bs (decL bs (bs.length + 1) (numX bs (startX bs).1 (startX bs).2).1 (numX bs (startX bs).1 (startX bs).2).2.1 (numX bs (startX bs).1 (startX bs).2).2.2 0 []).2.1 (decL bs (bs.length + 1) (numX bs (startX bs).1 (startX bs).2).1 (numX bs (startX bs).1 (startX bs).2).2.1 (numX bs (startX bs).1 (startX bs).2).2.2 0 []).2.2; if f.2 = 0 then ((decL bs (bs.length + 1) (numX bs (startX bs).1 (startX bs).2).1 (numX bs (startX bs).1 (startX bs).2).2.1 (numX bs (startX bs).1 (startX bs).2).2.2 0 []).1, 0, 0) else ([], f.2, f.1))) := Lib.hid HR.out
  clear h1 h2 h3 hx S1 B1 HR
  generalize numX bs (startX bs).1 (startX bs).2 = N at *
  obtain ⟨n, a0, e0⟩ := N
  dsimp only at *
  obtain ⟨hn0, hn1⟩ := hv
  generalize hD : decL bs (bs.length + 1) n a0 e0 0 [] = D at HN
  have HD := Lib.hid hD
  clear hD
  generalize hj : w1.heap.size = j at *
  have HNN := Lib.hid (show 0 ≤ n ∧ n < 18446744073709551616 from ⟨hn0, hn1⟩)
  clear hn1
  go_wp2
  go_loopg [6, 8] (bs.length + 1) (fun kq x y w' => ∃ (acc : List S82) (m at' e last lv : Int), y = .int .u64 m ∧ 0 ≤ m ∧ Hid (D = decL bs kq m at' e last acc) ∧ Hid (acc.length + kq = bs.length + 1) ∧ Hid (e = 0 → 0 ≤ at' ∧ at' ≤ bs.length ∧ (bs.length : Int) - at' < kq) ∧ Hid (0 ≤ last ∧ last < 18446744073709551616) ∧ Hid (Kd.R k82 82 w' w.heap.size (fun k => k ≠ w.heap.size ∧ k ≠ j) x acc) ∧ Hid (IsS123 w w' w.heap.size bs at' e) ∧ Hid (Below w.heap.size w w') ∧ Hid (w'.heap[j]? = some (.cells #[.int .u64 last, .int .u64 lv] 82 (0, 0))))
  case atStart =>
    refine ⟨[], n, a0, e0, 0, 0, rfl, hn0, Lib.hid HD.out.symm, Lib.hid (by simp), Lib.hid (fun h => ?_), Lib.hid (by decide), Lib.hid (Kd.R_nil k82 82 _ _ _), S2, B2, X2⟩
    have := HO.out h
    omega
  case round =>
    obtain ⟨acc, m, at', e, last, lv, rfl, hm, HDR, HLN, HAT, HLA, HRR, HSR, HBR, HXR⟩ := hrel
    rename_i x _
    clear S2 B2 X2 HD
    obtain ⟨A3, c3, rfl⟩ := Kd.R_slice HRR.out
    obtain ⟨A', c', hb', -, -⟩ := HSR.out
    have d2 := cellS123_2 hb'
    have hb0 := hb'
    have k0 : wr.cell? ⟨j, 0, none⟩ = some (.int .u64 last) := (blk_cell HXR.out 0).trans rfl
    have k1 : wr.cell? ⟨j, 1, none⟩ = some (.int .u64 lv) := (blk_cell HXR.out 1).trans rfl
    clear hb'
    by_cases hgo : 0 < m ∧ e = 0
    · obtain ⟨hm0, he0⟩ := hgo
      have HA2 := Lib.hid (HAT.out he0)
      obtain rfl := he0
      have hme : decide (0 < m) = true := decide_eq_true hm0
      have HM0 := Lib.hid hm0
      have HK0 : Hid (0 < gk) := Lib.hid (by have := HA2.out; omega)
      have HJ : Hid (w.heap.size < wr.heap.size ∧ j < wr.heap.size) := Lib.hid ⟨HSR.out.lt, blk_lt HXR.out⟩
      have HPO := Lib.hid (pairX_ok (bs := bs) (at' := at') (e := 0) (last := last) (first := ((acc.length : Int) == 0)) (fun _ => ⟨(HA2.out).1, (HA2.out).2.1⟩))
      have HPK := Lib.hid (pairX_key (bs := bs) (at' := at') (e := 0) (last := last) (first := ((acc.length : Int) == 0)))
      have HDN : Hid (D = decL bs (gk - 1) (IntKind.u64.wrap (m - 1)) (pairX bs at' 0 last ((acc.length : Int) == 0)).2.1 (pairX bs at' 0 last ((acc.length : Int) == 0)).2.2 (pairX bs at' 0 last ((acc.length : Int) == 0)).1.1 (acc ++ [⟨(pairX bs at' 0 last ((acc.length : Int) == 0)).1.1, (pairX bs at' 0 last ((acc.length : Int) == 0)).1.2⟩])) := Lib.hid (by
        obtain ⟨q, rfl⟩ : ∃ q, gk = q + 1 := ⟨gk - 1, by have := HK0.out; omega⟩
        rw [HDR.out, decL, if_pos ⟨HM0.out, rfl⟩]
        rfl)
      clear hb0 hm0
      go_wp2_with fail
      go_at_call 62
      refine (pair_c _ bs at' 0 last lv _ w _ HSR.out HBR.out (fun _ => ⟨(HA2.out).1, (HA2.out).2.1⟩) HBS.out HLA.out.1 HLA.out.2).mono ?_
      rintro en w3 ⟨rfl, h1, h2, h3⟩
      have hx3 := h3.blk HXR.out (by have := HG.out; omega) (by simp)
      have m0 : w3.cell? ⟨j, 0, none⟩ = some (.int .u64 last) := (blk_cell hx3 0).trans rfl
      have m1 : w3.cell? ⟨j, 1, none⟩ = some (.int .u64 lv) := (blk_cell hx3 1).trans rfl
      have n0 := blk_frozen hx3 0
      have n1 := blk_frozen hx3 1
      have S3 := Lib.hid h1
      have B3 := Lib.hid h2
      have X3 := Lib.hid hx3
      have Z3 := Lib.hid h3.1
      have R3 := Lib.hid (Kd.R_keep HRR.out h3 (fun _ h => h.1))
      clear h1 h2 h3 hx3 k0 k1 d2
      generalize pairX bs at' 0 last ((acc.length : Int) == 0) = P at *
      obtain ⟨⟨pk, pv⟩, a2, e2⟩ := P
      dsimp only at *
      go_wp2_with (first | (at_builtin; refine Kd.R_append k82 (w0 := w) w.heap.size (by rfl) (.tmp 34) (.tmp 36) 22 82 (.agg #[.int .u64 0, .int .u64 0]) 16 rfl Try.underlying22 info82 rfl (by decide) (by omega) _ acc (⟨pk, pv⟩ : S82) [.int .u64 pk, .int .u64 pv] (fun k => k ≠ w.heap.size ∧ k ≠ j) (fun _ => False) rfl ?aX ?aP (fun _ hk => hk.elim) ?aF ?aO ?aB ?aS ?aL ?_))
      case aX => simp [Act.eval]
      case aP => exact k82_mkM _ _ _ (⟨pk, pv⟩ : S82)
      case aF =>
        intro k hk
        have h1 := HJ.out
        have h2 := Z3.out
        simp at hk
        omega
      case aO => exact Kd.R_far (p := ⟨j, 1, none⟩) (Kd.R_far (p := ⟨j, 0, none⟩) R3.out (fun _ h => h.2) _) (fun _ h => h.2) _
      case aB => exact (B3.out.setCell (by have := HG.out; simp; omega) _).setCell (by have := HG.out; simp; omega) _
      case aS => have h1 := HJ.out; have h2 := Z3.out; simp; omega
      case aL => have h1 := HLN.out; have h2 := HL.out; omega
      intro v5 w5 hR5 hB5 hG5 hat
      have X5 := Lib.hid (blk_grown ((blk_set ((blk_set X3.out 0 _).trans rfl) 1 _).trans rfl) hG5 (fun h => (R3.out.1 j h.symm).2 rfl))
      have S5 := Lib.hid (((S3.out.far (p := ⟨j, 0, none⟩) (by have := HG.out; simp; omega) (.int .u64 pk)).far (p := ⟨j, 1, none⟩) (by have := HG.out; simp; omega) (.int .u64 pv)).grown hG5 (fun h => (R3.out.1 w.heap.size h.symm).1 rfl))
      have R5 := Lib.hid hR5
      have B5 := Lib.hid hB5
      clear hR5 hB5 hG5 hat m0 m1 n0 n1
      go_wp2
      go_roundg (gk - 1)
      case measure => have := HK0.out; omega
      case rel =>
        refine ⟨acc ++ [⟨pk, pv⟩], _, a2, e2, pk, pv, rfl, (u64_range _).1, HDN, Lib.hid (by have := HLN.out; have := HK0.out; simp; omega), Lib.hid (fun h => ?_), HPK, R5, S5, B5, X5⟩
        have h1 := HPO.out h
        have h2 := HA2.out
        have h3 := HK0.out
        omega
    · have HDE := Lib.hid (HDR.out.trans (decL_end bs gk m at' e last acc hgo))
      have c1 := cellS123_1 hb0
      by_cases he : e = 0
      · obtain rfl := he
        have hme : decide (0 < m) = false := decide_eq_false (fun h => hgo ⟨h, rfl⟩)
        obtain ⟨z, rfl⟩ := Int.eq_ofNat_of_zero_le (HAT.out rfl).1
        have hz : z ≤ bs.length := by have := (HAT.out rfl).2.1; omega
        have hz2 : bs.length < 4398046511104 := HL.out
        clear hgo
        by_cases h4 : (bs.length : Int) - (z : Int) < 4
        · have HRE : Hid (R = ([], 270, (bs.length : Int))) := Lib.hid (by rw [HN.out, HDE.out]; simp only [finX, if_pos h4, if_true]; rfl)
          have h4' := eq_true h4
          clear h4
          go_wp2_with fail
          go_at_call 63
          refine (dump_reader_fail.calls _ bs _ 0 270 ((bs.length : Int)) ((bs.length : Int)) 270 w _ (by first | exact HSR.out | exact HSR.out) (by first | exact HBR.out | exact HBR.out) rfl).mono ?_
          rintro en w9 ⟨rfl, h1, h2, h3⟩
          have B9 := Lib.hid h2
          obtain ⟨A'', c'', hb9, -, -⟩ := h1
          have e1 := cellS123_1 hb9
          have e2 := cellS123_2 hb9
          clear h2 h3 hb9
          go_wp2
          go_quiet (fail)
          go_wp2
          go_ret3
          rw [HRE.out]
          exact ⟨_, rfl, Kd.R_nil _ _ _ _ _, pw_below_drewN B9.out _⟩
        · have hz4 : z + 4 ≤ bs.length := by omega
          have h4' := eq_false h4
          have HT4 := take4 bs z hz4
          obtain ⟨s, hs⟩ : ∃ s, sumS 2166136261 (bs.take z) = s := ⟨_, rfl⟩
          have hsr := sumS_range (bs.take z) 2166136261 (by omega) (by omega)
          rw [hs] at hsr
          have hlt : (bs.take z).length = z := by rw [List.length_take]; omega
          have HCT := Lib.hid (Kd.C_take HA.out (m := z) (by omega))
          obtain ⟨f0, f1, f2, f3, hf⟩ : ∃ f0 f1 f2 f3, fixedS s = [f0, f1, f2, f3] := ⟨_, _, _, _, rfl⟩
          obtain ⟨ad, rfl, x0⟩ := Kd.at_int (Kd.C_below HA.out HBR.out) (z : Int) (by omega) (by omega)
          obtain ⟨ad1, e1, x1⟩ := Kd.at_int (Kd.C_below HA.out HBR.out) ((z + 1 : Nat) : Int) (by omega) (by omega)
          obtain ⟨ad2, e2, x2⟩ := Kd.at_int (Kd.C_below HA.out HBR.out) ((z + 2 : Nat) : Int) (by omega) (by omega)
          obtain ⟨ad3, e3, x3⟩ := Kd.at_int (Kd.C_below HA.out HBR.out) ((z + 3 : Nat) : Int) (by omega) (by omega)
          obtain rfl : ad = ad1 := by injection e1
          obtain rfl : ad = ad2 := by injection e2
          obtain rfl : ad = ad3 := by injection e3
          clear e1 e2 e3
          have HFIN : Hid (finX bs (z : Int) 0 = if ([rd bs z, rd bs (z + 1 : Nat), rd bs (z + 2 : Nat), rd bs (z + 3 : Nat)] == [f0, f1, f2, f3]) = false then ((z : Int), 271) else if (bs.length : Int) - (z : Int) > 4 then ((z : Int) + 4, 272) else ((z : Int), 0)) := Lib.hid (by unfold finX; rw [if_pos rfl, if_neg h4, Int.toNat_natCast, HT4, hs, hf])
          generalize bs.take z = T at *
          rw [Int.toNat_natCast] at x0 x1 x2 x3
          rw [add_field ad z 1 (by omega)] at x1
          rw [add_field ad z 2 (by omega)] at x2
          rw [add_field ad z 3 (by omega)] at x3
          have harr := fun wx => run_arrayAt (P := Try.prog) (w := wx) 117 5 4 (some (ad.add z)) (bs.length - z) (c - z) hu117 (by omega)
          generalize rd bs (z : Int) = y0 at *
          generalize rd bs ((z + 1 : Nat) : Int) = y1 at *
          generalize rd bs ((z + 2 : Nat) : Int) = y2 at *
          generalize rd bs ((z + 3 : Nat) : Int) = y3 at *
          have HS := Lib.hid hs
          have HF := Lib.hid hf
          have HLT := Lib.hid hlt
          have HCC := Lib.hid (show z ≤ c by have := HC.out; omega)
          have b1 : (0 : Int) ≤ (z : Int) := by omega
          have b2 : (z : Int) ≤ (c : Int) := by have := HC.out; omega
          have b3 : (z : Int) ≤ (bs.length : Int) := by omega
          have b4 : ¬ c = z := by have := HC.out; omega
          have b5 : (bs.length : Int) ≤ (c : Int) := by have := HC.out; omega
          obtain ⟨b, hb, heq⟩ : ∃ b : Bool, b = ([y0, y1, y2, y3] == [f0, f1, f2, f3]) ∧ ∀ w, Sem.run Try.prog (Op.equalIn 10000 117 (.agg #[.int .u8 y0, .int .u8 y1, .int .u8 y2, .int .u8 y3]) (.agg #[.int .u8 f0, .int .u8 f1, .int .u8 f2, .int .u8 f3])) w = .ok b w := ⟨_, rfl, eq_arr4 _ _ _ _ _ _ _ _⟩
          have HFB := Lib.hid hb
          have HZ4 := Lib.hid hz4
          clear h4 HT4 hs hf hlt hb hz4
          go_wp2_with fail
          go_region_held3 (fun w' => Below wr.heap.size wr w' ∧ w'.cell? (ad.add z) = some (.int .u8 y0) ∧ w'.cell? ⟨(ad.add z).block, (ad.add z).off + 1, none⟩ = some (.int .u8 y1) ∧ w'.cell? ⟨(ad.add z).block, (ad.add z).off + 2, none⟩ = some (.int .u8 y2) ∧ w'.cell? ⟨(ad.add z).block, (ad.add z).off + 3, none⟩ = some (.int .u8 y3)) (first | exact ⟨(Below.refl _ _).drew, x0, x1, x2, x3⟩ | exact keep4 (keep4 (w1 := wr.drew) ⟨(Below.refl _ _).drew, x0, x1, x2, x3⟩ hb5) hb6 | exact keep4 (w1 := wr.drew) ⟨(Below.refl _ _).drew, x0, x1, x2, x3⟩ hb5) (first | (go_at_call 57; refine (sum_v _ _ _ T s _ (by exact Kd.C_below HCT.out HBR.out.drew) (by have := HLT.out; have := HCC.out; omega) HLT.out (by have := HLT.out; omega) HS.out).mono ?_; rintro en w5 ⟨rfl, hb5⟩) | (go_at_call 56; refine (fixed_v s f0 f1 f2 f3 _ hsr.1 hsr.2 HF.out).mono ?_; rintro en w6 ⟨rfl, hb6⟩))
          all_goals
            rename_i hS
            have HSS := Lib.hid hS.1
            clear hS x0 x1 x2 x3 hb5 hb6 harr heq
            obtain ⟨A5, c5, hb5, -, -⟩ := HSR.out.below HSS.out
            have g2 := cellS123_2 hb5
            clear hb5
            have HFF : Hid (finX bs (z : Int) 0 = if b = false then ((z : Int), 271) else if (bs.length : Int) - (z : Int) > 4 then ((z : Int) + 4, 272) else ((z : Int), 0)) := Lib.hid (by rw [HFIN.out, HFB.out])
            clear hb0 c1 d2 HFB HFIN
            cases b
            · have HRE : Hid (R = ([], 271, (z : Int))) := Lib.hid (by rw [HN.out, HDE.out]; simp only [HFF.out]; rfl)
              go_wp2_with fail
              go_at_call 63
              refine (dump_reader_fail.calls _ bs _ 0 271 ((z : Int)) ((z : Int)) 271 w _ (by first | exact HSR.out | exact (HSR.out.below HSS.out)) (by first | exact HBR.out | exact HBR.out.trans (HSS.out.mono HBR.out.size)) rfl).mono ?_
              rintro en w9 ⟨rfl, h1, h2, h3⟩
              have B9 := Lib.hid h2
              obtain ⟨A'', c'', hb9, -, -⟩ := h1
              have e1 := cellS123_1 hb9
              have e2 := cellS123_2 hb9
              clear h2 h3 hb9
              go_wp2
              go_quiet (fail)
              go_wp2
              go_ret3
              rw [HRE.out]
              exact ⟨_, rfl, Kd.R_nil _ _ _ _ _, pw_below_drewN B9.out _⟩
            · by_cases hm4 : (bs.length : Int) - (z : Int) > 4
              · have HRE : Hid (R = ([], 272, (z : Int) + 4)) := Lib.hid (by rw [HN.out, HDE.out]; simp only [HFF.out, if_pos hm4]; rfl)
                have hm5 : (4 : Int) < (bs.length : Int) - (z : Int) := hm4
                clear hm4
                go_wp2_with fail
                go_at_call 63
                refine (dump_reader_fail.calls _ bs _ 0 272 ((z : Int) + 4) ((z : Int) + 4) 272 w _ (by first | exact HSR.out | exact (HSR.out.below HSS.out)) (by first | exact HBR.out | exact HBR.out.trans (HSS.out.mono HBR.out.size)) rfl).mono ?_
                rintro en w9 ⟨rfl, h1, h2, h3⟩
                have B9 := Lib.hid h2
                obtain ⟨A'', c'', hb9, -, -⟩ := h1
                have e1 := cellS123_1 hb9
                have e2 := cellS123_2 hb9
                clear h2 h3 hb9
                go_wp2
                go_quiet (fail)
                go_wp2
                go_ret3
                rw [HRE.out]
                exact ⟨_, rfl, Kd.R_nil _ _ _ _ _, pw_below_drewN B9.out _⟩
              · have HRE : Hid (R = (acc, 0, 0)) := Lib.hid (by rw [HN.out, HDE.out]; simp only [HFF.out, if_neg hm4]; rfl)
                have hm5 : ¬ (4 : Int) < (bs.length : Int) - (z : Int) := hm4
                clear hm4
                go_wp2
                go_ret3
                rw [HRE.out]
                exact ⟨_, rfl, Kd.R_mono (Kd.R_below HRR.out HSS.out) (fun _ _ => trivial), HBR.out.trans (HSS.out.mono HBR.out.size)⟩
      · have he1 : (e == 0) = false := by rw [beq_eq_false_iff_ne]; exact he
        have he2 : (e != 0) = true := by rw [bne_iff_ne]; exact he
        have HRE : Hid (R = ([], e, at')) := Lib.hid (by rw [HN.out, HDE.out]; simp only [finX, if_neg he])
        clear he hgo
        have hcs : decide (0 < m) = true ∨ decide (0 < m) = false := by cases decide (0 < m) <;> simp
        rcases hcs with hme | hme
        all_goals
          go_wp2
          go_quiet (fail)
          go_wp2
          go_ret3
          rw [HRE.out]
          exact ⟨_, rfl, Kd.R_nil _ _ _ _ _, pw_below_drewN HBR.out _⟩
end Go.Proofs.Ythblincfnfpgbaa.Q
namespace Go.Proofs.Ythblincfnfpgbaa.Q
open Go.RowKit Go.Proofs.YthblincfnfpgbaaW.PrintWords Go.Proofs.YthblincfnfpgbaaW.PrintLast Go.Proofs.YthblincfnfpgbaaW.PrintMore
set_option linter.unusedVariables false
set_option linter.unusedSimpArgs false
theorem refsum_n (l : List Int) (hl : l.length < 9223372036854775807) (d : Nat) : ∀ (k i : Nat) (s : Int), i + d = l.length → d < k → shutterref27_sum.l0 k l s i = some (sumS s (l.drop i)) := by
  induction d with
  | zero =>
    intro k i s h hk
    obtain ⟨k, rfl⟩ : ∃ m, k = m + 1 := ⟨k - 1, by omega⟩
    simp only [shutterref27_sum.l0]
    rw [if_neg (by omega), List.drop_of_length_le (by omega)]
    rfl
  | succ d ih =>
    intro k i s h hk
    obtain ⟨k, rfl⟩ : ∃ m, k = m + 1 := ⟨k - 1, by omega⟩
    simp only [shutterref27_sum.l0]
    have hi : i < l.length := by omega
    rw [if_pos (by omega), if_pos (by omega), show wrap64 ((i : Int) + 1) = ((i + 1 : Nat) : Int) by unfold wrap64; omega, ih k (i + 1) _ (by omega) (by omega), List.drop_eq_getElem_cons hi, sumS]
    unfold rd
    simp [List.getD_eq_getElem?_getD, List.getElem?_eq_getElem hi]
theorem refsum_f (l : List Int) (hl : l.length < 9223372036854775807) (k : Nat) (hk : l.length < k) : shutterref27_sum.f k l = some (sumS 2166136261 l) := by
  have := refsum_n l hl l.length k 0 2166136261 (by omega) hk
  simpa [shutterref27_sum.f] using this
set_option maxHeartbeats 16000000 in
set_option maxRecDepth 100000 in
theorem refEncode_yes (A : Option Addr) (c : Nat) (l : List S82) (w : World) (hA : Kd.C k82 w A l.length l) (hc : l.length ≤ c) (hl : l.length < 4398046511104) (hw : ∀ p ∈ l, wfP p) (hr : risingS l = true) :
    Calls Try.prog 29 #[.slice A l.length c] w fun e w' => ∃ v, e = .returned (.tuple #[v, .int .i64 0]) ∧ Kd.R (Kd.int .u8) 5 w' w.heap.size (fun _ => True) v (encS l) ∧ Below w.heap.size w w' := by
  have hu82 := Try.underlying82
  have HA := Lib.hid hA
  have HC := Lib.hid hc
  have HL := Lib.hid hl
  have HW := Lib.hid hw
  have HR := Lib.hid hr
  have b1 : (0 : Int) ≤ (l.length : Int) := by omega
  have b2 : (l.length : Int) < 18446744073709551616 := by omega
  clear hA hc hl hw hr
  go_enter Try.func29, Try.ntmps29
  go_wp2_with fail
  go_at_call 50
  refine (shutterref27_right.calls _ _ _ _ true _ HA.out HC.out (by rw [refRight_f l (by have := HL.out; omega) (l.length + 2) (by omega), HR.out])).mono ?_
  rintro e w1 ⟨rfl, hd⟩
  have HB1 := Lib.hid hd.below
  clear hd
  have kc := fun (w : World) (C : Array Value) (n c : Nat) => Lib.run_convert_bytes_const (P := Try.prog) w 48 5 C n c Try.underlying48 Try.underlying5
  go_wp2_with fail
  go_at_call 58
  refine (put_c w _ (fun _ => False) (fun _ h => h.elim) _ [83, 72, 85, 49] _ (HB1.out.alloc HB1.out.size _) (arr_lit w w1 _) b2 b1 (by simp)).mono ?_
  rintro e w2 ⟨v2, rfl, h1, h2, -⟩
  have HO2 := Lib.hid h1
  have HB2 := Lib.hid h2
  clear h1 h2 kc b1 b2
  go_wp2
  go_loopg [4, 5, 6] l.length (fun kq u y x w' => ∃ (i : Nat) (bs : List Int) (last : Int), y = .int .u64 last ∧ x = .int .i64 i ∧ Hid (kq + i = l.length) ∧ Hid (bs ++ pairsS last (l.drop i) = bodyS l) ∧ Hid (Own w w' (fun _ => False) u bs) ∧ Hid (Below w.heap.size w w'))
  case atStart => exact ⟨0, _, 0, rfl, rfl, Lib.hid (by omega), Lib.hid rfl, HO2, HB2⟩
  case round =>
    obtain ⟨i, bs, last, rfl, rfl, HK, HE, HO, HB⟩ := hrel
    clear HO2 HB2
    by_cases hlt : i < l.length
    · have hlt1 : (i : Int) < (l.length : Int) := by omega
      obtain ⟨a, rfl, hp1, hp2⟩ := at82 (Kd.C_below HA.out HB.out) i hlt
      have HAT := Lib.hid (show ∀ W, Below w.heap.size w W → W.cell? (a.add (i * 2)) = some (.int .u64 l[i].f0) ∧ W.cell? ⟨(a.add (i * 2)).block, (a.add (i * 2)).off + 1, none⟩ = some (.int .u64 l[i].f1) from fun W hW => by
        obtain ⟨a', e, x1, x2⟩ := at82 (Kd.C_below HA.out hW) i hlt
        obtain rfl : a = a' := by injection e
        exact ⟨x1, x2⟩)
      have HWF := Lib.hid (HW.out l[i] (List.getElem_mem hlt))
      have HPD := Lib.hid (pairsS_drop l i hlt last)
      generalize l[i] = p at *
      obtain ⟨p1, p2⟩ := p
      dsimp only at hp1 hp2
      have HBL := Lib.hid (show bs.length + 20 < 140737488355328 by
        have h1 := HE.out
        have h2 := bodyS_length l
        have h3 := HL.out
        have h4 := HPD.out
        rw [← h1, h4] at h2
        have h5 := HK.out
        have h6 := congrArg List.length h1
        have h7 := bodyS_length l
        simp only [List.length_append] at h6
        omega)
      go_wp2_with fail
      go_at_call 58
      refine (put_c w _ (fun _ => False) (fun _ h => h.elim) _ bs _ HB.out (own_arr HO.out) (u64_range _).2 (u64_range _).1 (by have := HBL.out; omega)).mono ?_
      rintro e w3 ⟨v3, rfl, h1, h2, h3⟩
      obtain ⟨hq1, hq2⟩ := HAT.out w3 h2
      have HO3 := Lib.hid h1
      have HB3 := Lib.hid h2
      clear h1 h2 h3 hp1 hp2
      go_wp2_with fail
      go_at_call 58
      refine (put_c w _ (fun _ => False) (fun _ h => h.elim) _ _ _ HB3.out (own_arr HO3.out) HWF.out.2.2.2 HWF.out.2.2.1 (by have := HBL.out; have := numN_length 9 (IntKind.u64.wrap (p1 - last)); simp only [List.length_append, numS]; omega)).mono ?_
      rintro e w4 ⟨v4, rfl, h1, h2, h3⟩
      obtain ⟨hr1, hr2⟩ := HAT.out w4 h2
      have HO4 := Lib.hid h1
      have HB4 := Lib.hid h2
      clear h1 h2 h3 hq1 hq2
      go_wp2
      go_roundg (gk - 1)
      case measure => have := HK.out; omega
      case rel =>
        refine ⟨i + 1, _, p1, rfl, wsucc i (by have := HL.out; omega), Lib.hid (by have := HK.out; omega), Lib.hid ?_, HO4, HB4⟩
        have h1 := HE.out
        rw [HPD.out] at h1
        rw [← h1]
        simp
    · have hlt1 : ¬ (i : Int) < (l.length : Int) := by omega
      have hbs : bs = bodyS l := by
        have h1 := HE.out
        rw [List.drop_of_length_le (by omega), pairsS, List.append_nil] at h1
        exact h1
      subst hbs
      have HOO := Lib.hid HO.out
      obtain ⟨A4, c4, rfl, h4, hC⟩ := Kd.R_reads HO.out
      have HC4 := Lib.hid h4
      have HK4 := Lib.hid hC
      have HBL := Lib.hid (show (bodyS l).length + 20 < 140737488355328 by have := bodyS_length l; have := HL.out; omega)
      have hsr := sumS_range (bodyS l) 2166136261 (by omega) (by omega)
      have hsf := refsum_f (bodyS l) (by have := HBL.out; omega) _ (Nat.lt_succ_self _)
      generalize hs : sumS 2166136261 (bodyS l) = s at *
      obtain ⟨hs0, hs1⟩ := hsr
      have HSF := Lib.hid hsf
      have HS := Lib.hid hs
      clear h4 hC hsf hs HE HO
      go_wp2_with fail
      go_at_call 59
      refine (shutterref27_sum.calls _ _ _ _ _ _ HK4.out HC4.out HSF.out).mono ?_
      rintro e w5 ⟨rfl, hd⟩
      obtain ⟨nd, rfl⟩ := hd
      go_wp2
      go_loopg [4, 8] 4 (fun kq u x w' => ∃ (i : Nat), x = .int .i64 i ∧ Hid (kq + i = 4) ∧ Hid (Kd.R (Kd.int .u8) 5 w' w.heap.size (fun _ => True) u (bodyS l ++ (fixedS s).take i)) ∧ Hid (Below w.heap.size w w'))
      case atStart => exact ⟨0, rfl, Lib.hid rfl, Lib.hid (by rw [List.take_zero, List.append_nil]; exact Kd.R_mono HOO.out (fun _ _ => trivial)), Lib.hid (pw_below_drewN HB.out _)⟩
      case round =>
        rename_i u _
        obtain ⟨i, rfl, HK, HR, HB⟩ := hrel
        have hi : i = 0 ∨ i = 1 ∨ i = 2 ∨ i = 3 ∨ i = 4 := by have := HK.out; omega
        rcases hi with rfl | rfl | rfl | rfl | rfl
        · go_wp2_with (first | (at_builtin; refine Kd.R_append (Kd.int .u8) (w0 := w) w.heap.size (by rfl) (.tmp 51) (.tmp 57) 48 5 (.int .u8 0) 1 rfl Try.underlying48 info5 rfl (by decide) (by omega) _ _ (s % 256) [.int .u8 (s % 256)] (fun _ => True) (fun _ => False) rfl rfl ?aP (fun _ hk => hk.elim) (fun _ _ => trivial) HR.out HB.out HB.out.size ?aL ?_))
          case aP => rfl
          case aL => have := HBL.out; simp only [List.length_append, List.length_take, fixedS, List.length_cons, List.length_nil]; omega
          intro v7 w7 h1 h2 h3 h4
          have H1 := Lib.hid h1
          have H2 := Lib.hid h2
          clear h1 h2 h3 h4
          go_wp2
          go_roundg (gk - 1)
          case measure => have := HK.out; omega
          case rel =>
            refine ⟨1, rfl, Lib.hid (by have := HK.out; omega), Lib.hid ?_, H2⟩
            have h := H1.out
            try rw [List.append_assoc] at h
            exact h
        · go_wp2_with (first | (at_builtin; refine Kd.R_append (Kd.int .u8) (w0 := w) w.heap.size (by rfl) (.tmp 51) (.tmp 57) 48 5 (.int .u8 0) 1 rfl Try.underlying48 info5 rfl (by decide) (by omega) _ _ ((s / 256) % 256) [.int .u8 ((s / 256) % 256)] (fun _ => True) (fun _ => False) rfl rfl ?aP (fun _ hk => hk.elim) (fun _ _ => trivial) HR.out HB.out HB.out.size ?aL ?_))
          case aP => rfl
          case aL => have := HBL.out; simp only [List.length_append, List.length_take, fixedS, List.length_cons, List.length_nil]; omega
          intro v7 w7 h1 h2 h3 h4
          have H1 := Lib.hid h1
          have H2 := Lib.hid h2
          clear h1 h2 h3 h4
          go_wp2
          go_roundg (gk - 1)
          case measure => have := HK.out; omega
          case rel =>
            refine ⟨2, rfl, Lib.hid (by have := HK.out; omega), Lib.hid ?_, H2⟩
            have h := H1.out
            try rw [List.append_assoc] at h
            exact h
        · go_wp2_with (first | (at_builtin; refine Kd.R_append (Kd.int .u8) (w0 := w) w.heap.size (by rfl) (.tmp 51) (.tmp 57) 48 5 (.int .u8 0) 1 rfl Try.underlying48 info5 rfl (by decide) (by omega) _ _ ((s / 65536) % 256) [.int .u8 ((s / 65536) % 256)] (fun _ => True) (fun _ => False) rfl rfl ?aP (fun _ hk => hk.elim) (fun _ _ => trivial) HR.out HB.out HB.out.size ?aL ?_))
          case aP => rfl
          case aL => have := HBL.out; simp only [List.length_append, List.length_take, fixedS, List.length_cons, List.length_nil]; omega
          intro v7 w7 h1 h2 h3 h4
          have H1 := Lib.hid h1
          have H2 := Lib.hid h2
          clear h1 h2 h3 h4
          go_wp2
          go_roundg (gk - 1)
          case measure => have := HK.out; omega
          case rel =>
            refine ⟨3, rfl, Lib.hid (by have := HK.out; omega), Lib.hid ?_, H2⟩
            have h := H1.out
            try rw [List.append_assoc] at h
            exact h
        · go_wp2_with (first | (at_builtin; refine Kd.R_append (Kd.int .u8) (w0 := w) w.heap.size (by rfl) (.tmp 51) (.tmp 57) 48 5 (.int .u8 0) 1 rfl Try.underlying48 info5 rfl (by decide) (by omega) _ _ (s / 16777216) [.int .u8 (s / 16777216)] (fun _ => True) (fun _ => False) rfl rfl ?aP (fun _ hk => hk.elim) (fun _ _ => trivial) HR.out HB.out HB.out.size ?aL ?_))
          case aP => rfl
          case aL => have := HBL.out; simp only [List.length_append, List.length_take, fixedS, List.length_cons, List.length_nil]; omega
          intro v7 w7 h1 h2 h3 h4
          have H1 := Lib.hid h1
          have H2 := Lib.hid h2
          clear h1 h2 h3 h4
          go_wp2
          go_roundg (gk - 1)
          case measure => have := HK.out; omega
          case rel =>
            refine ⟨4, rfl, Lib.hid (by have := HK.out; omega), Lib.hid ?_, H2⟩
            have h := H1.out
            try rw [List.append_assoc] at h
            exact h
        · go_wp2
          go_ret2
          refine ⟨_, rfl, ?_, HB.out⟩
          have h := HR.out
          rw [List.take_of_length_le (by simp [fixedS]), ← HS.out] at h
          exact h
theorem refEncode_no (A : Option Addr) (c : Nat) (l : List S82) (w : World) (hA : Kd.C k82 w A l.length l) (hc : l.length ≤ c) (hl : l.length < 4398046511104) (hr : risingS l = false) :
    Calls Try.prog 29 #[.slice A l.length c] w fun e w' => e = .returned (.tuple #[.slice none 0 0, .int .i64 52]) ∧ Below w.heap.size w w' := by
  have HA := Lib.hid hA
  have HC := Lib.hid hc
  have HR := Lib.hid hr
  have HL := Lib.hid hl
  clear hA hc hr hl
  go_enter Try.func29, Try.ntmps29
  go_wp2_with fail
  go_at_call 50
  refine (shutterref27_right.calls _ _ _ _ false _ HA.out HC.out (by rw [refRight_f l (by have := HL.out; omega) (l.length + 2) (by omega), HR.out])).mono ?_
  rintro e w1 ⟨rfl, hd⟩
  have HB1 := Lib.hid hd.below
  clear hd
  go_wp2
  go_ret2
  exact ⟨rfl, HB1.out⟩
def encX (l : List S82) : List Int × Int := if risingS l = true then (encS l, 0) else ([], 52)
theorem refEncode_c (A : Option Addr) (c : Nat) (l : List S82) (w : World) (hA : Kd.C k82 w A l.length l) (hc : l.length ≤ c) (hl : l.length < 4398046511104) (hw : ∀ p ∈ l, wfP p) :
    Calls Try.prog 29 #[.slice A l.length c] w fun e w' => ∃ v, e = .returned (.tuple #[v, .int .i64 (encX l).2]) ∧ Kd.R (Kd.int .u8) 5 w' w.heap.size (fun _ => True) v (encX l).1 ∧ Below w.heap.size w w' := by
  unfold encX
  by_cases hr : risingS l = true
  · rw [if_pos hr]; exact refEncode_yes A c l w hA hc hl hw hr
  · rw [if_neg hr]
    refine (refEncode_no A c l w hA hc hl (by simpa using hr)).mono ?_
    rintro e w' ⟨rfl, hb⟩
    exact ⟨_, rfl, Kd.R_nil _ _ _ _ _, hb⟩
end Go.Proofs.Ythblincfnfpgbaa.Q
namespace Go.Proofs.Ythblincfnfpgbaa.Q
open Go.RowKit Go.Proofs.YthblincfnfpgbaaW.PrintWords Go.Proofs.YthblincfnfpgbaaW.PrintLast Go.Proofs.YthblincfnfpgbaaW.PrintMore
set_option linter.unusedVariables false
set_option linter.unusedSimpArgs false
/-- What the document's number tells. -/
def refNum (R : Int × Int × Int) : Int × Int × Int := (if R.2.2 = 0 then R.1 else 0, R.2.1, R.2.2)
theorem accR (i : Nat) (v y : Int) (hv0 : 0 ≤ v) (hv : v < 2 ^ (7 * i)) (hy0 : 0 ≤ y) (hy : y < 256) (hi : i < 9 ∨ (i = 9 ∧ y ≤ 1)) :
    IntKind.u64.wrap (v + (shl .u64 (IntKind.u64.wrap (Int.tmod y 128)) (wrap64 (7 * (i : Int))))) = v + (y % 128) * 2 ^ (7 * i) := by
  have hb := acc7_lt i v y hv0 hv
  have hP : (0 : Int) < 2 ^ (7 * i) := Int.pow_pos (by decide)
  have hq0 : 0 ≤ y % 128 * 2 ^ (7 * i) := Int.mul_nonneg (by omega) (by omega)
  have hq : v + y % 128 * 2 ^ (7 * i) < 18446744073709551616 := by
    rcases hi with hi | ⟨rfl, hy1⟩
    · have h1 : (2 : Int) ^ (7 * (i + 1)) ≤ 2 ^ 63 := by exact_mod_cast Nat.pow_le_pow_right (n := 2) (by decide) (show 7 * (i + 1) ≤ 63 by omega)
      have h3 : (2 : Int) ^ 63 = 9223372036854775808 := by decide
      omega
    · have h3 : (2 : Int) ^ (7 * 9) = 9223372036854775808 := by decide
      rw [h3] at hv ⊢
      omega
  have hw : wrap64 (7 * (i : Int)) = 7 * (i : Int) := by unfold wrap64; omega
  rw [hw, Int.tmod_eq_emod_of_nonneg hy0, u64_wrap_id (y % 128) (by omega) (by omega)]
  unfold shl
  rw [show min (7 * (i : Int)).toNat IntKind.u64.bits = 7 * i by have : IntKind.u64.bits = 64 := rfl; rw [this]; omega]
  rw [u64_wrap_id _ hq0 (by omega), u64_wrap_id _ (by omega) hq]
theorem w7 (i : Nat) (h : i ≤ 9) : 0 ≤ wrap64 (7 * (i : Int)) := by
  have e : wrap64 (7 * (i : Int)) = 7 * (i : Int) := by unfold wrap64; omega
  rw [e]
  omega
theorem wadd (a b : Nat) (h : a + b < 4398046511204) : wrap64 ((a : Int) + (b : Int)) = ((a + b : Nat) : Int) := by unfold wrap64; omega
theorem wsuc (a : Nat) (h : a < 4398046511204) : wrap64 ((a : Int) + 1) = (a : Int) + 1 := by unfold wrap64; omega
theorem wsuc' (a : Nat) (h : a < 4398046511204) : wrap64 ((a : Int) + 1) = ((a + 1 : Nat) : Int) := by unfold wrap64; omega
set_option maxHeartbeats 1000000 in
theorem number_ref (bs : List Int) (hbs : ∀ c ∈ bs, 0 ≤ c ∧ c < 256) (hl : bs.length < 4398046511104) (at' : Nat) (d : Nat) : ∀ (k i : Nat) (v : Int), i + d = 9 → at' + i ≤ bs.length → 0 ≤ v → v < 2 ^ (7 * i) → 2 * d + 2 ≤ k →
    shutterref27_number.l0 k bs at' v i = some (refNum (numR i ((at' + i : Nat) : Int) v (bs.drop (at' + i)))) := by
  induction d with
  | zero =>
    intro k i v hi ha hv0 hv hk
    obtain rfl : i = 9 := by omega
    obtain ⟨k, rfl⟩ : ∃ m, k = m + 2 := ⟨k - 2, by omega⟩
    have e1 := Lib.hid (show wrap64 ((at' : Int) + ((9 : Nat) : Int)) = ((at' + 9 : Nat) : Int) from wadd at' 9 (by omega))
    rw [shutterref27_number.l0, e1.out]
    by_cases h : at' + 9 < bs.length
    · rw [if_neg (by omega), if_pos (by omega), if_pos (by omega), if_pos (show ((9 : Nat) : Int) = 9 from rfl), drop_at bs _ h, numR]
      have hy := hbs (rd bs ((at' + 9 : Nat) : Int)) (by unfold rd; rw [Int.toNat_natCast, List.getD_eq_getElem?_getD, List.getElem?_eq_getElem h]; exact List.getElem_mem h)
      generalize rd bs ((at' + 9 : Nat) : Int) = y at *
      by_cases h1 : y > 1
      · rw [if_pos h1, if_pos (.inr ⟨rfl, h1⟩), shutterref27_number.j1, if_pos rfl, e1.out]
        rfl
      · rw [if_neg h1, if_pos (by omega)]
        by_cases h2 : y = 0
        · rw [if_pos (.inl ⟨by omega, h2⟩), shutterref27_number.j1, if_pos (by rw [beq_iff_eq]; exact h2), e1.out]
          rfl
        · rw [if_neg (fun h => h.elim (fun h => h2 h.2) (fun h => h1 h.2)), shutterref27_number.j1, if_neg (by rw [beq_iff_eq]; exact h2), if_pos (w7 9 (by omega)), if_pos (by omega), if_pos (by omega),
            accR 9 v y hv0 hv (by omega) (by omega) (.inr ⟨rfl, by omega⟩), e1.out, wsuc (at' + 9) (by omega)]
          rfl
    · rw [if_pos (by omega), List.drop_of_length_le (by omega), numR, show ((at' + 9 : Nat) : Int) = (bs.length : Int) by omega]
      rfl
  | succ d ih =>
    intro k i v hi ha hv0 hv hk
    obtain ⟨k, rfl⟩ : ∃ m, k = m + 2 := ⟨k - 2, by omega⟩
    have e1 := Lib.hid (show wrap64 ((at' : Int) + (i : Int)) = ((at' + i : Nat) : Int) from wadd at' i (by omega))
    rw [shutterref27_number.l0, e1.out]
    by_cases h : at' + i < bs.length
    · rw [if_neg (by omega), if_pos (by omega), if_pos (by omega), if_neg (by omega), drop_at bs _ h, numR]
      have hy := hbs (rd bs ((at' + i : Nat) : Int)) (by unfold rd; rw [Int.toNat_natCast, List.getD_eq_getElem?_getD, List.getElem?_eq_getElem h]; exact List.getElem_mem h)
      generalize rd bs ((at' + i : Nat) : Int) = y at *
      have hac := Lib.hid (accR i v y hv0 hv (by omega) (by omega) (.inl (by omega)))
      have hlt := Lib.hid (acc7_lt i v y hv0 hv)
      have e2 := Lib.hid (show wrap64 (((at' + i : Nat) : Int) + 1) = ((at' + i : Nat) : Int) + 1 from wsuc _ (by omega))
      have hcont : ∀ b : Bool, b = false → ¬ ((0 < i ∧ y = 0) ∨ (i = 9 ∧ 1 < y)) → shutterref27_number.j1 (k + 1) bs at' v i y b = some (refNum (if (0 < i ∧ y = 0) ∨ (i = 9 ∧ 1 < y) then (v, ((at' + i : Nat) : Int), 271) else if y < 128 then (v + (y % 128) * 2 ^ (7 * i), ((at' + i : Nat) : Int) + 1, 0) else numR (i + 1) (((at' + i : Nat) : Int) + 1) (v + (y % 128) * 2 ^ (7 * i)) (bs.drop (at' + i + 1)))) := by
        intro b hb hn
        subst hb
        rw [shutterref27_number.j1, if_neg (by decide), if_pos (w7 i (by omega)), hac.out, e1.out, e2.out, if_neg hn]
        by_cases h128 : y < 128
        · rw [if_pos h128, if_pos h128]
          rfl
        · rw [if_neg h128, if_neg h128, wsuc' i (by omega), ih k (i + 1) _ (by omega) (by omega) hlt.out.1 hlt.out.2 (by omega)]
          rfl
      by_cases hp : (i : Int) > 0
      · rw [if_pos hp]
        by_cases h2 : y = 0
        · rw [if_pos (.inl ⟨by omega, h2⟩), shutterref27_number.j1, if_pos (by rw [beq_iff_eq]; exact h2), e1.out]
          rfl
        · exact hcont _ (by rw [beq_eq_false_iff_ne]; exact h2) (fun h => h.elim (fun h => h2 h.2) (fun h => by omega))
      · rw [if_neg hp]
        exact hcont _ rfl (fun h => h.elim (fun h => by omega) (fun h => by omega))
    · rw [if_pos (by omega), List.drop_of_length_le (by omega), numR, show ((at' + i : Nat) : Int) = (bs.length : Int) by omega]
      rfl
theorem number_reff (bs : List Int) (hbs : ∀ c ∈ bs, 0 ≤ c ∧ c < 256) (hl : bs.length < 4398046511104) (at' : Nat) (ha : at' ≤ bs.length) (k : Nat) (hk : 20 ≤ k) : shutterref27_number.f k bs at' = some (refNum (numR 0 at' 0 (bs.drop at'))) := by
  have := number_ref bs hbs hl at' 9 k 0 0 rfl (by omega) (by omega) (by decide) (by omega)
  simpa [shutterref27_number.f] using this
end Go.Proofs.Ythblincfnfpgbaa.Q
namespace Go.Proofs.Ythblincfnfpgbaa.Q
open Go.RowKit Go.Proofs.YthblincfnfpgbaaW.PrintWords Go.Proofs.YthblincfnfpgbaaW.PrintLast Go.Proofs.YthblincfnfpgbaaW.PrintMore
set_option linter.unusedVariables false
set_option linter.unusedSimpArgs false
/-- The last look: four bytes against the sum's. -/
theorem fix_ref (bs : List Int) (at' : Nat) (acc : List S82) (s : Int) (hs0 : 0 ≤ s) (hs1 : s < 4294967296) (h : at' + 4 ≤ bs.length) (hl : bs.length < 4398046511104) (k : Nat) (hk : 5 ≤ k) :
    shutterref27_Decode.l2 k bs at' acc s 0 = some (if ((bs.drop at').take 4 == fixedS s) = false then ([], 271, (at' : Int)) else if (bs.length : Int) > ((at' + 4 : Nat) : Int) then ([], 272, ((at' + 4 : Nat) : Int)) else (acc, 0, 0)) := by
  obtain ⟨k, rfl⟩ : ∃ m, k = m + 5 := ⟨k - 5, by omega⟩
  have e : ∀ i : Nat, i ≤ 4 → wrap64 ((at' : Int) + (i : Int)) = ((at' + i : Nat) : Int) := fun i hi => wadd at' i (by omega)
  have s0 : shr .u32 s 0 % 256 = s % 256 := by unfold shr; simp
  have s1 : shr .u32 s 8 % 256 = (s / 256) % 256 := by unfold shr; rfl
  have s2 : shr .u32 s 16 % 256 = (s / 65536) % 256 := by unfold shr; rfl
  have s3 : shr .u32 s 24 % 256 = s / 16777216 := by
    have : shr .u32 s 24 = s / 16777216 := rfl
    rw [this]
    omega
  have w0 := Lib.hid (show wrap64 (8 * 0) = 0 from by unfold wrap64; omega)
  have w8 := Lib.hid (show wrap64 (8 * 1) = 8 from by unfold wrap64; omega)
  have w16 := Lib.hid (show wrap64 (8 * 2) = 16 from by unfold wrap64; omega)
  have w24 := Lib.hid (show wrap64 (8 * 3) = 24 from by unfold wrap64; omega)
  have n0 := Lib.hid (show wrap64 (0 + 1) = 1 from by unfold wrap64; omega)
  have n1 := Lib.hid (show wrap64 (1 + 1) = 2 from by unfold wrap64; omega)
  have n2 := Lib.hid (show wrap64 (2 + 1) = 3 from by unfold wrap64; omega)
  have n3 := Lib.hid (show wrap64 (3 + 1) = 4 from by unfold wrap64; omega)
  have e0 := Lib.hid (show wrap64 ((at' : Int) + 0) = (at' : Int) from by have := e 0 (by omega); simpa using this)
  have e1 := Lib.hid (show wrap64 ((at' : Int) + 1) = ((at' + 1 : Nat) : Int) from e 1 (by omega))
  have e2 := Lib.hid (show wrap64 ((at' : Int) + 2) = ((at' + 2 : Nat) : Int) from e 2 (by omega))
  have e3 := Lib.hid (show wrap64 ((at' : Int) + 3) = ((at' + 3 : Nat) : Int) from e 3 (by omega))
  have e4 := Lib.hid (show wrap64 ((at' : Int) + 4) = ((at' + 4 : Nat) : Int) from e 4 (by omega))
  clear e
  rw [take4 bs at' h, fixedS]
  have step : ∀ (y0 y1 y2 y3 f0 f1 f2 f3 : Int), ([y0, y1, y2, y3] == [f0, f1, f2, f3]) = (decide (y0 = f0) && (decide (y1 = f1) && (decide (y2 = f2) && decide (y3 = f3)))) := by
    intro y0 y1 y2 y3 f0 f1 f2 f3
    rw [Bool.eq_iff_iff]
    simp
  rw [step]
  clear step
  rw [shutterref27_Decode.l2, if_pos (by decide), e0.out, if_pos (by omega), if_pos (by omega), w0.out, if_pos (by decide), s0, n0.out]
  by_cases c0 : rd bs (at' : Int) = s % 256
  · rw [if_pos c0, decide_eq_true c0, shutterref27_Decode.l2, if_pos (by decide), e1.out, if_pos (by omega), if_pos (by omega), w8.out, if_pos (by decide), s1, n1.out]
    by_cases c1 : rd bs ((at' + 1 : Nat) : Int) = (s / 256) % 256
    · rw [if_pos c1, decide_eq_true c1, shutterref27_Decode.l2, if_pos (by decide), e2.out, if_pos (by omega), if_pos (by omega), w16.out, if_pos (by decide), s2, n2.out]
      by_cases c2 : rd bs ((at' + 2 : Nat) : Int) = (s / 65536) % 256
      · rw [if_pos c2, decide_eq_true c2, shutterref27_Decode.l2, if_pos (by decide), e3.out, if_pos (by omega), if_pos (by omega), w24.out, if_pos (by decide), s3, n3.out]
        by_cases c3 : rd bs ((at' + 3 : Nat) : Int) = s / 16777216
        · rw [if_pos c3, decide_eq_true c3, shutterref27_Decode.l2, if_neg (by decide), e4.out, if_neg (show ¬ ((true && (true && (true && true))) = false) by decide)]
          split <;> rfl
        · rw [if_neg c3, decide_eq_false c3]
          rfl
      · rw [if_neg c2, decide_eq_false c2]
        rfl
    · rw [if_neg c1, decide_eq_false c1]
      rfl
  · rw [if_neg c0, decide_eq_false c0]
    rfl
/-- What is told of what was read. -/
def resX (bs : List Int) (L : List S82 × Int × Int) : List S82 × Int × Int := if (finX bs L.2.1 L.2.2).2 = 0 then (L.1, 0, 0) else ([], (finX bs L.2.1 L.2.2).2, (finX bs L.2.1 L.2.2).1)
theorem resX_err (bs : List Int) (acc : List S82) (at' e : Int) (he : e ≠ 0) : resX bs (acc, at', e) = ([], e, at') := by
  unfold resX finX
  simp only [if_neg he]
theorem end_ref (bs : List Int) (at' : Nat) (acc : List S82) (hl : bs.length < 4398046511104) (h : at' ≤ bs.length) (k : Nat) (hk : bs.length + 5 ≤ k) :
    (if (wrap64 ((bs.length : Int) - at')) < 4 then (some (([] : List (S82)), (270 : Int), (bs.length : Int))) else (if 0 ≤ (at' : Int) then (if (at' : Int) ≤ (bs.length : Int) then ((shutterref27_sum.f k (bs.take (at' : Int).toNat)).bind fun t385 => (shutterref27_Decode.l2 k bs at' acc t385 0)) else (none)) else (none))) = some (resX bs (acc, at', 0)) := by
  have e : wrap64 ((bs.length : Int) - at') = (bs.length : Int) - at' := by unfold wrap64; omega
  rw [e]
  by_cases h4 : (bs.length : Int) - (at' : Int) < 4
  · rw [if_pos h4]
    unfold resX finX
    simp only [if_true, if_pos h4]
    rfl
  · have hr := sumS_range (bs.take at') 2166136261 (by omega) (by omega)
    rw [if_neg h4, if_pos (by omega), if_pos (by omega), Int.toNat_natCast, refsum_f (bs.take at') (by rw [List.length_take]; omega) k (by rw [List.length_take]; omega), Option.bind_some, fix_ref bs at' acc _ hr.1 hr.2 (by omega) hl k (by omega)]
    unfold resX finX
    simp only [if_true, if_neg h4, Int.toNat_natCast]
    by_cases hb : ((bs.drop at').take 4 == fixedS (sumS 2166136261 (bs.take at'))) = false
    · simp only [if_pos hb]
      rfl
    · simp only [if_neg hb]
      by_cases hm : (bs.length : Int) - (at' : Int) > 4
      · rw [if_pos (by omega), if_pos hm]
        rfl
      · rw [if_neg (by omega), if_neg hm]
        rfl
theorem refNum_ok {R : Int × Int × Int} (h : R.2.2 = 0) : refNum R = R := by
  obtain ⟨a, b, c⟩ := R
  simp only at h
  subst h
  rfl
theorem decL_go (bs : List Int) (k : Nat) (n at' last : Int) (acc : List S82) (h : 0 < n) : decL bs (k + 1) n at' 0 last acc = decL bs k (IntKind.u64.wrap (n - 1)) (pairX bs at' 0 last ((acc.length : Int) == 0)).2.1 (pairX bs at' 0 last ((acc.length : Int) == 0)).2.2 (pairX bs at' 0 last ((acc.length : Int) == 0)).1.1 (acc ++ [⟨(pairX bs at' 0 last ((acc.length : Int) == 0)).1.1, (pairX bs at' 0 last ((acc.length : Int) == 0)).1.2⟩]) := by
  rw [decL, if_pos ⟨h, rfl⟩]
theorem loop_ref (bs : List Int) (hbs : ∀ c ∈ bs, 0 ≤ c ∧ c < 256) (hl : bs.length < 4398046511104) (n : Int) (hn : n < 18446744073709551616) (d : Nat) : ∀ (k k' : Nat) (at' i : Nat) (last : Int) (acc : List S82), bs.length - at' = d → at' ≤ bs.length → (i : Int) ≤ n → acc.length = i → i ≤ at' → d < k' → 3 * d + bs.length + 30 ≤ k →
    shutterref27_Decode.l1 k bs n at' acc last i = some (resX bs (decL bs k' (n - i) at' 0 last acc)) := by
  induction d using Nat.strongRecOn with
  | _ d ih =>
    intro k k' at' i last acc hd ha hi hacc hia hk' hk
    obtain ⟨k, rfl⟩ : ∃ m, k = m + 2 := ⟨k - 2, by omega⟩
    rw [shutterref27_Decode.l1]
    by_cases hlt : (i : Int) < n
    · obtain ⟨k', rfl⟩ : ∃ m, k' = m + 1 := ⟨k' - 1, by omega⟩
      rw [if_pos hlt, number_reff bs hbs hl at' ha _ (by omega), Option.bind_some, decL_go bs k' (n - i) at' last acc (by omega)]
      have hpl := numR_place (bs.drop at') 0 at' 0
      have hn1 : numX bs (at' : Int) 0 = numR 0 at' 0 (bs.drop at') := by unfold numX; rw [if_pos rfl, Int.toNat_natCast]
      have hf : ((acc.length : Int) == 0) = decide (i = 0) := by rw [hacc, Bool.eq_iff_iff]; simp
      rw [hf, pairX, hn1]
      rw [List.length_drop] at hpl
      generalize numR 0 (at' : Int) 0 (bs.drop at') = N at *
      obtain ⟨dd, a1, e1⟩ := N
      dsimp only at hpl ⊢
      by_cases he1 : e1 = 0
      · subst he1
        rw [refNum_ok rfl]
        dsimp only
        (try rw [if_pos rfl])
        obtain ⟨a1, rfl⟩ := Int.eq_ofNat_of_zero_le (show 0 ≤ a1 by omega)
        have ha1 : at' < a1 := by have := hpl.2.2 rfl; omega
        have ha2 : a1 ≤ bs.length := by have := hpl.2.1; omega
        -- the check of the key
        have hbad : ∀ x74 : Bool, x74 = true → (decide (i = 0) = false ∧ (0 : Int) = 0 ∧ (dd = 0 ∨ IntKind.u64.wrap (last + dd) < last)) → shutterref27_Decode.j2 (k + 1) bs n (a1 : Int) acc last i at' dd x74 = some (resX bs (decL bs k' (IntKind.u64.wrap (n - i - 1)) at' 271 (IntKind.u64.wrap (last + dd)) (acc ++ [⟨IntKind.u64.wrap (last + dd), 0⟩]))) := by
          intro b hb _
          rw [shutterref27_Decode.j2, if_pos hb, decL_end _ _ _ _ _ _ _ (fun h => absurd h.2 (by decide)), resX_err _ _ _ _ (by decide)]
        have hgood : ∀ x74 : Bool, x74 = false → shutterref27_Decode.j2 (k + 1) bs n (a1 : Int) acc last i at' dd x74 = some (resX bs (decL bs k' (IntKind.u64.wrap (n - i - 1)) (numX bs a1 0).2.1 (numX bs a1 0).2.2 (IntKind.u64.wrap (last + dd)) (acc ++ [⟨IntKind.u64.wrap (last + dd), (numX bs a1 0).1⟩]))) := by
          intro b hb
          have hn2 : numX bs (a1 : Int) 0 = numR 0 a1 0 (bs.drop a1) := by unfold numX; rw [if_pos rfl, Int.toNat_natCast]
          have hp2 := numR_place (bs.drop a1) 0 a1 0
          rw [List.length_drop] at hp2
          rw [shutterref27_Decode.j2, if_neg (by rw [hb]; decide), number_reff bs hbs hl a1 ha2 _ (by omega), Option.bind_some, hn2]
          generalize numR 0 (a1 : Int) 0 (bs.drop a1) = N at *
          obtain ⟨vv, a2, e2⟩ := N
          dsimp only at hp2 ⊢
          by_cases he2 : e2 = 0
          · subst he2
            rw [refNum_ok rfl]
            dsimp only
            obtain ⟨a2, rfl⟩ := Int.eq_ofNat_of_zero_le (show 0 ≤ a2 by omega)
            have ha3 : a1 < a2 := by have := hp2.2.2 rfl; omega
            have ha4 : a2 ≤ bs.length := by have := hp2.2.1; omega
            rw [if_pos rfl, if_pos (by omega), show IntKind.u64.wrap ((i : Int) + 1) = ((i + 1 : Nat) : Int) from u64_wrap_id _ (by omega) (by omega), show IntKind.u64.wrap (n - i - 1) = n - ((i + 1 : Nat) : Int) by rw [u64_wrap_id _ (by omega) (by omega)]; omega]
            exact ih (bs.length - a2) (by omega) k k' a2 (i + 1) _ _ rfl ha4 (by omega) (by simp; omega) (by omega) (by omega) (by omega)
          · have : refNum (vv, a2, e2) = (0, a2, e2) := by unfold refNum; simp only [if_neg he2]
            rw [this]
            dsimp only
            rw [if_neg he2, decL_end _ _ _ _ _ _ _ (fun h => he2 h.2), resX_err _ _ _ _ he2]
        by_cases hc : decide (i = 0) = false ∧ (0 : Int) = 0 ∧ (dd = 0 ∨ IntKind.u64.wrap (last + dd) < last)
        · rw [if_pos hc]
          dsimp only
          rw [numX_stay (show (271 : Int) ≠ 0 by decide)]
          dsimp only
          have hip : (i : Int) > 0 := by have := hc.1; simp at this; omega
          rw [if_pos hip]
          by_cases hz : dd = 0
          · rw [if_pos hz]
            exact hbad true rfl hc
          · rw [if_neg hz]
            exact hbad _ (decide_eq_true (hc.2.2.resolve_left hz)) hc
        · rw [if_neg hc]
          dsimp only
          by_cases hip : (i : Int) > 0
          · have hi0 : decide (i = 0) = false := decide_eq_false (by omega)
            rw [if_pos hip]
            by_cases hz : dd = 0
            · exact absurd ⟨hi0, rfl, .inl hz⟩ hc
            · rw [if_neg hz]
              exact hgood _ (decide_eq_false (fun h => hc ⟨hi0, rfl, .inr h⟩))
          · rw [if_neg hip]
            exact hgood _ rfl
      · have : refNum (dd, a1, e1) = (0, a1, e1) := by unfold refNum; simp only [if_neg he1]
        rw [this]
        dsimp only
        rw [if_neg he1, if_neg (fun h => he1 h.2.1)]
        dsimp only
        rw [numX_stay he1]
        dsimp only
        rw [decL_end _ _ _ _ _ _ _ (fun h => he1 h.2), resX_err _ _ _ _ he1]
    · rw [if_neg hlt, decL_end _ _ _ _ _ _ _ (fun h => by omega)]
      exact end_ref bs at' acc hl ha _ (by omega)
theorem start4 (bs : List Int) : (startX bs).2 = 0 → (startX bs).1 = 4 ∧ 4 ≤ bs.length := by
  unfold startX
  match bs with
  | [] => intro h; exact absurd h (by decide)
  | [a] => intro h; simp only [startL] at h; split at h <;> exact absurd h (by decide)
  | [a, b] => intro h; simp only [startL] at h; (repeat' split at h) <;> exact absurd h (by decide)
  | [a, b, c] => intro h; simp only [startL] at h; (repeat' split at h) <;> exact absurd h (by decide)
  | a :: b :: c :: d :: l =>
    intro h
    simp only [startL] at h ⊢
    repeat' split at h
    all_goals first | exact absurd h (by decide) | skip
    simp_all
theorem magic_ref (bs : List Int) (k : Nat) : ∀ d j : Nat, j + d = 4 → j ≤ bs.length →
    shutterref27_Decode.l0 (k + 1 + d) bs j = if (startL ([83, 72, 85, 49].drop j) j (bs.drop j)).2 = 0 then (shutterref27_number.f k bs 4).bind fun bt372 => (if bt372.2.2 = 0 then (shutterref27_Decode.l1 k bs bt372.1 bt372.2.1 ([] : List (S82)) 0 0) else (some (([] : List (S82)), bt372.2.2, bt372.2.1))) else some ([], (startL ([83, 72, 85, 49].drop j) j (bs.drop j)).2, (startL ([83, 72, 85, 49].drop j) j (bs.drop j)).1) := by
  intro d
  induction d with
  | zero =>
    intro j hj hl
    obtain rfl : j = 4 := by omega
    rw [Nat.add_zero, shutterref27_Decode.l0, if_neg (by decide)]
    rfl
  | succ d ih =>
    intro j hj hl
    have hm : ∀ j : Fin 4, [83, 72, 85, 49].drop j.val = bt (⟨#[83, 72, 85, 49]⟩ : ByteArray) (j.val : Int) :: [83, 72, 85, 49].drop (j.val + 1) := by decide
    have hmj := hm ⟨j, by omega⟩
    dsimp only at hmj
    rw [show k + 1 + (d + 1) = (k + 1 + d) + 1 by omega, shutterref27_Decode.l0, if_pos (by omega), hmj]
    by_cases h : j < bs.length
    · rw [if_neg (by omega), if_pos (by omega), if_pos (by omega), drop_at bs j h, startL]
      by_cases hc : rd bs (j : Int) = bt (⟨#[83, 72, 85, 49]⟩ : ByteArray) (j : Int)
      · rw [if_pos hc, if_pos hc, show wrap64 ((j : Int) + 1) = ((j + 1 : Nat) : Int) by unfold wrap64; omega, ih (j + 1) (by omega) (by omega)]
        rfl
      · rw [if_neg hc, if_neg hc]
        rfl
    · rw [if_pos (by omega), List.drop_of_length_le (show bs.length ≤ j by omega), startL, show (j : Int) = (bs.length : Int) by omega]
      rfl
theorem refDecode_f (bs : List Int) (hbs : ∀ c ∈ bs, 0 ≤ c ∧ c < 256) (hl : bs.length < 1099511627776) : ∃ k, shutterref27_Decode.f k bs = some (decX bs) := by
  refine ⟨4 * bs.length + 100 + 1 + 4, ?_⟩
  unfold shutterref27_Decode.f
  have h := magic_ref bs (4 * bs.length + 100) 4 0 (by omega) (by omega)
  rw [show ((0 : Nat) : Int) = 0 from rfl] at h
  rw [h]
  clear h
  rw [List.drop_zero, List.drop_zero]
  have hs : startL [83, 72, 85, 49] 0 bs = startX bs := rfl
  rw [hs]
  have hdec : decX bs = resX bs (decL bs (bs.length + 1) (numX bs (startX bs).1 (startX bs).2).1 (numX bs (startX bs).1 (startX bs).2).2.1 (numX bs (startX bs).1 (startX bs).2).2.2 0 []) := rfl
  have hok := startX_ok bs
  have h4 : (startX bs).2 = 0 → (startX bs).1 = 4 ∧ 4 ≤ bs.length := start4 bs
  generalize startX bs = s at *
  obtain ⟨a, e⟩ := s
  dsimp only at *
  by_cases he : e = 0
  · subst he
    obtain ⟨rfl, hb4⟩ := h4 rfl
    rw [if_pos rfl, hdec]
    have hn := number_reff bs hbs (by omega) 4 hb4 (4 * bs.length + 100) (by omega)
    rw [show ((4 : Nat) : Int) = 4 from rfl] at hn
    rw [hn, Option.bind_some]
    have hn1 : numX bs 4 0 = numR 0 4 0 (bs.drop 4) := rfl
    have hp := numR_place (bs.drop 4) 0 4 0
    have hv := numR_val (bs.drop 4) (fun c hc => hbs c (List.mem_of_mem_drop hc)) 0 4 0 (by omega) (by omega) (by decide)
    rw [List.length_drop] at hp
    rw [hn1]
    generalize numR 0 4 0 (bs.drop 4) = N at *
    obtain ⟨n, a1, e1⟩ := N
    dsimp only at *
    by_cases he1 : e1 = 0
    · subst he1
      rw [refNum_ok rfl]
      dsimp only
      obtain ⟨a1, rfl⟩ := Int.eq_ofNat_of_zero_le (show 0 ≤ a1 by omega)
      rw [if_pos rfl]
      have := loop_ref bs hbs (by omega) n hv.2 (bs.length - a1) (4 * bs.length + 100) (bs.length + 1) a1 0 0 [] rfl (by omega) (by omega) rfl (by omega) (by omega) (by omega)
      rw [show n - ((0 : Nat) : Int) = n by omega] at this
      exact this
    · have : refNum (n, a1, e1) = (0, a1, e1) := by unfold refNum; simp only [if_neg he1]
      rw [this]
      dsimp only
      rw [if_neg he1, decL_end _ _ _ _ _ _ _ (fun h => he1 h.2), resX_err _ _ _ _ he1]
  · rw [if_neg he, hdec, numX_stay he]
    dsimp only
    rw [decL_end _ _ _ _ _ _ _ (fun h => he h.2), resX_err _ _ _ _ he]
end Go.Proofs.Ythblincfnfpgbaa.Q
namespace Go.Proofs.Ythblincfnfpgbaa.Q
open Go.RowKit Go.Proofs.YthblincfnfpgbaaW.PrintWords Go.Proofs.YthblincfnfpgbaaW.PrintLast Go.Proofs.YthblincfnfpgbaaW.PrintMore Go.Proofs.Ythblincfnfpgbaa.Open
set_option linter.unusedVariables false
theorem hand_reads {w : World} {v : Value} {l : List Int} (h : HandB w v l) : ∃ A c, v = .slice A l.length c ∧ l.length ≤ c ∧ Kd.C (Kd.int .u8) w A l.length l := by
  obtain ⟨g, cap, h1, h2, h3, h4⟩ := h
  exact ⟨_, cap, h1, by omega, C_take h3 rfl⟩
theorem sameB_n (l : List Int) (hl : l.length < 4398046511104) (d : Nat) : ∀ (k i : Nat), i + d = l.length → d < k → shuttermem_Same.l0 k l l i = some true := by
  induction d with
  | zero =>
    intro k i h hk
    obtain ⟨k, rfl⟩ : ∃ m, k = m + 1 := ⟨k - 1, by omega⟩
    simp only [shuttermem_Same.l0]
    rw [if_neg (by omega)]
  | succ d ih =>
    intro k i h hk
    obtain ⟨k, rfl⟩ : ∃ m, k = m + 1 := ⟨k - 1, by omega⟩
    simp only [shuttermem_Same.l0]
    rw [if_pos (by omega), if_pos (by omega), if_pos (by omega), if_pos trivial, w1 i (by omega)]
    exact ih k (i + 1) (by omega) (by omega)
theorem sameB_f (l : List Int) (hl : l.length < 4398046511104) : ∃ k, shuttermem_Same.f k l l = some true :=
  ⟨l.length + 1, by unfold shuttermem_Same.f; rw [if_pos rfl]; exact sameB_n l hl l.length _ 0 (by omega) (by omega)⟩
theorem refEncode_v (A : Option Addr) (c : Nat) (l : List S82) (r : List Int) (e : Int) (w : World) (hA : Kd.C k82 w A l.length l) (hc : l.length ≤ c) (hl : l.length < 4398046511104) (hw : ∀ p ∈ l, wfP p) (he : encX l = (r, e)) :
    Calls Try.prog 29 #[.slice A l.length c] w fun en w' => ∃ v, en = .returned (.tuple #[v, .int .i64 e]) ∧ Kd.R (Kd.int .u8) 5 w' w.heap.size (fun _ => True) v r ∧ Below w.heap.size w w' := by
  have := refEncode_c A c l w hA hc hl hw
  rw [he] at this
  exact this
theorem decode_v (A : Option Addr) (c : Nat) (bs : List Int) (r : List S82) (e n : Int) (w : World) (hA : Kd.C (Kd.int .u8) w A bs.length bs) (hc : bs.length ≤ c) (hl : bs.length < 4398046511104) (hbs : ∀ c ∈ bs, 0 ≤ c ∧ c < 256) (hd : decX bs = (r, e, n)) :
    Calls Try.prog 30 #[.slice A bs.length c] w fun en w' => ∃ v, en = .returned (.tuple #[v, .int .i64 e, .int .i64 n]) ∧ Kd.R k82 82 w' w.heap.size (fun _ => True) v r ∧ Below w.heap.size w w' := by
  have := decode_c A c bs w hA hc hl hbs
  rw [hd] at this
  exact this
theorem decL_length (bs : List Int) (k : Nat) : ∀ (n at' e last : Int) (acc : List S82), (decL bs k n at' e last acc).1.length ≤ acc.length + k := by
  induction k with
  | zero => intro n at' e last acc; rw [decL]; simp
  | succ k ih =>
    intro n at' e last acc
    rw [decL]
    split
    · have := ih (IntKind.u64.wrap (n - 1)) (pairX bs at' e last ((acc.length : Int) == 0)).2.1 (pairX bs at' e last ((acc.length : Int) == 0)).2.2 (pairX bs at' e last ((acc.length : Int) == 0)).1.1 (acc ++ [⟨(pairX bs at' e last ((acc.length : Int) == 0)).1.1, (pairX bs at' e last ((acc.length : Int) == 0)).1.2⟩])
      rw [List.length_append, List.length_singleton] at this
      omega
    · simp
theorem decX_length (bs : List Int) : (decX bs).1.length ≤ bs.length + 1 := by
  unfold decX
  dsimp only
  split
  · have := decL_length bs (bs.length + 1) (numX bs (startX bs).1 (startX bs).2).1 (numX bs (startX bs).1 (startX bs).2).2.1 (numX bs (startX bs).1 (startX bs).2).2.2 0 []
    rw [List.length_nil] at this
    dsimp only
    omega
  · simp
theorem encX_f (l : List S82) (hl : l.length < 4398046511104) (hw : ∀ p ∈ l, wfP p) : dump_Encode.f l = some (encX l) := by
  unfold dump_Encode.f encX
  rw [if_pos ⟨hl, hw⟩]
  split <;> rfl
theorem encX_length (l : List S82) : (encX l).1.length ≤ 18 + 20 * l.length := by
  unfold encX
  split
  · have := bodyS_length l
    simp only [encS, List.length_append, fixedS, List.length_cons, List.length_nil]
    omega
  · simp
set_option maxHeartbeats 16000000 in
set_option maxRecDepth 100000 in
theorem codes_c (A : Option Addr) (c : Nat) (a : List S82) (B : Option Addr) (d : Nat) (b : List Int) (w : World) (hA : Kd.C k82 w A a.length a) (hc : a.length ≤ c) (hB : Kd.C (Kd.int .u8) w B b.length b) (hd : b.length ≤ d) (hl : a.length + b.length < 1048577) (hw : ∀ p ∈ a, wfP p) (hbs : ∀ c ∈ b, 0 ≤ c ∧ c < 256) :
    Calls Try.prog 6 #[.slice A a.length c, .slice B b.length d] w fun e w' => e = .returned (.bool true) ∧ Below w.heap.size w w' := by
  obtain ⟨r, er, hr⟩ : ∃ r er, encX a = (r, er) := ⟨_, _, rfl⟩
  obtain ⟨q, eq, nq, hq⟩ : ∃ q eq nq, decX b = (q, eq, nq) := ⟨_, _, _, rfl⟩
  have f1 := encX_f a (by omega) hw
  rw [hr] at f1
  obtain ⟨k0, f2⟩ := refDecode_f b hbs (by omega)
  rw [hq] at f2
  have hrl : r.length ≤ 18 + 20 * a.length := by have := encX_length a; rw [hr] at this; exact this
  have hql : q.length ≤ b.length + 1 := by have := decX_length b; rw [hq] at this; exact this
  obtain ⟨k1, hk1⟩ := sameB_f r (by omega)
  obtain ⟨k2, hk2⟩ := samePairs_f q (by omega)
  have HA := Lib.hid hA
  have HC := Lib.hid hc
  have HB := Lib.hid hB
  have HD := Lib.hid hd
  have HL := Lib.hid hl
  have HW := Lib.hid hw
  have HBS := Lib.hid hbs
  have F1 := Lib.hid f1
  have F2 := Lib.hid f2
  have E1 := Lib.hid hr
  have D1 := Lib.hid hq
  have K1 := Lib.hid hk1
  have K2 := Lib.hid hk2
  clear hA hc hB hd hl hw hbs f1 f2 hr hq hrl hql hk1 hk2
  go_enter Try.func6, Try.ntmps6
  go_wp2_with fail
  go_at_call 13
  refine (lent_c _ _ _ _ HA.out (by have := HL.out; omega)).mono ?_
  rintro en w1 ⟨x, rfl, h1, h2⟩
  have KX := Lib.hid h1
  have BB := Lib.hid h2
  replace HA := Lib.hid (Kd.C_below HA.out h2)
  replace HB := Lib.hid (Kd.C_below HB.out h2)
  clear h1 h2
  go_wp2_with fail
  go_at_call 27
  refine (hand_c _ _ _ _ HB.out (by have := HL.out; omega)).mono ?_
  rintro en w2 ⟨y, rfl, h1, h2⟩
  have KY := Lib.hid h1
  replace HA := Lib.hid (Kd.C_below HA.out h2)
  replace HB := Lib.hid (Kd.C_below HB.out h2)
  replace KX := Lib.hid (lent_below KX.out h2)
  replace BB := Lib.hid (BB.out.trans (h2.mono BB.out.size))
  clear h1 h2
  obtain ⟨AX, cx, rfl, hx1, hx2⟩ := lent_reads KX.out
  have RX1 := Lib.hid hx1
  have RX2 := Lib.hid hx2
  clear hx1 hx2
  obtain ⟨AY, cy, rfl, hx1, hx2⟩ := hand_reads KY.out
  have RY1 := Lib.hid hx1
  have RY2 := Lib.hid hx2
  clear hx1 hx2
  go_wp2_with fail
  go_at_call 28
  refine (dump_Encode.calls _ _ _ _ _ _ RX2.out RX1.out F1.out).mono ?_
  rintro en w3 ⟨vx, rfl, h1, h2⟩
  obtain ⟨Ax, cx, rfl, h3, h4⟩ := Kd.R_reads h1
  have Px := Lib.hid h3
  have Qx := Lib.hid h4
  replace HA := Lib.hid (Kd.C_below HA.out h2)
  replace HB := Lib.hid (Kd.C_below HB.out h2)
  replace KX := Lib.hid (lent_below KX.out h2)
  replace BB := Lib.hid (BB.out.trans (h2.mono BB.out.size))
  replace KY := Lib.hid (hand_below KY.out h2)
  replace RX2 := Lib.hid (Kd.C_below RX2.out h2)
  replace RY2 := Lib.hid (Kd.C_below RY2.out h2)
  clear h1 h2 h3 h4
  go_wp2_with fail
  go_at_call 29
  refine (refEncode_v _ _ _ _ _ _ HA.out HC.out (by have := HL.out; omega) HW.out E1.out).mono ?_
  rintro en w4 ⟨vy, rfl, h1, h2⟩
  obtain ⟨Ay, cy, rfl, h3, h4⟩ := Kd.R_reads h1
  have Py := Lib.hid h3
  have Qy := Lib.hid h4
  replace HA := Lib.hid (Kd.C_below HA.out h2)
  replace HB := Lib.hid (Kd.C_below HB.out h2)
  replace KX := Lib.hid (lent_below KX.out h2)
  replace BB := Lib.hid (BB.out.trans (h2.mono BB.out.size))
  replace KY := Lib.hid (hand_below KY.out h2)
  replace RX2 := Lib.hid (Kd.C_below RX2.out h2)
  replace RY2 := Lib.hid (Kd.C_below RY2.out h2)
  replace Qx := Lib.hid (Kd.C_below Qx.out h2)
  clear h1 h2 h3 h4
  go_wp2_with fail
  go_at_call 30
  refine (decode_v _ _ _ _ _ _ _ RY2.out RY1.out (by have := HL.out; omega) HBS.out D1.out).mono ?_
  rintro en w5 ⟨vp, rfl, h1, h2⟩
  obtain ⟨Ap, cp, rfl, h3, h4⟩ := Kd.R_reads h1
  have Pp := Lib.hid h3
  have Qp := Lib.hid h4
  replace HA := Lib.hid (Kd.C_below HA.out h2)
  replace HB := Lib.hid (Kd.C_below HB.out h2)
  replace KX := Lib.hid (lent_below KX.out h2)
  replace BB := Lib.hid (BB.out.trans (h2.mono BB.out.size))
  replace KY := Lib.hid (hand_below KY.out h2)
  replace RX2 := Lib.hid (Kd.C_below RX2.out h2)
  replace RY2 := Lib.hid (Kd.C_below RY2.out h2)
  replace Qx := Lib.hid (Kd.C_below Qx.out h2)
  replace Qy := Lib.hid (Kd.C_below Qy.out h2)
  clear h1 h2 h3 h4
  go_wp2_with fail
  go_at_call 31
  refine (shutterref27_Decode.calls _ _ _ _ _ _ _ _ HB.out HD.out F2.out).mono ?_
  rintro en w6 ⟨vq, rfl, h1, h2⟩
  obtain ⟨Aq, cq, rfl, h3, h4⟩ := Kd.R_reads h1
  have Pq := Lib.hid h3
  have Qq := Lib.hid h4
  replace HA := Lib.hid (Kd.C_below HA.out h2)
  replace HB := Lib.hid (Kd.C_below HB.out h2)
  replace KX := Lib.hid (lent_below KX.out h2)
  replace BB := Lib.hid (BB.out.trans (h2.mono BB.out.size))
  replace KY := Lib.hid (hand_below KY.out h2)
  replace RX2 := Lib.hid (Kd.C_below RX2.out h2)
  replace RY2 := Lib.hid (Kd.C_below RY2.out h2)
  replace Qx := Lib.hid (Kd.C_below Qx.out h2)
  replace Qy := Lib.hid (Kd.C_below Qy.out h2)
  replace Qp := Lib.hid (Kd.C_below Qp.out h2)
  clear h1 h2 h3 h4
  go_wp2_with fail
  go_at_call 12
  refine (shutterlaw27_live.calls true _ live_f).mono ?_
  rintro en w7 ⟨rfl, h2⟩
  replace HA := Lib.hid (Kd.C_below HA.out h2)
  replace HB := Lib.hid (Kd.C_below HB.out h2)
  replace KX := Lib.hid (lent_below KX.out h2)
  replace BB := Lib.hid (BB.out.trans (h2.mono BB.out.size))
  replace KY := Lib.hid (hand_below KY.out h2)
  replace RX2 := Lib.hid (Kd.C_below RX2.out h2)
  replace RY2 := Lib.hid (Kd.C_below RY2.out h2)
  replace Qx := Lib.hid (Kd.C_below Qx.out h2)
  replace Qy := Lib.hid (Kd.C_below Qy.out h2)
  replace Qp := Lib.hid (Kd.C_below Qp.out h2)
  replace Qq := Lib.hid (Kd.C_below Qq.out h2)
  clear h2
  go_wp2_with fail
  go_at_call 32
  refine (shuttermem_Same.calls _ _ _ _ _ _ _ _ _ Qx.out Px.out Qy.out Py.out K1.out).mono ?_
  rintro en wz8 ⟨rfl, hd⟩
  have h2 := Drawn0.below hd
  replace HA := Lib.hid (Kd.C_below HA.out h2)
  replace HB := Lib.hid (Kd.C_below HB.out h2)
  replace KX := Lib.hid (lent_below KX.out h2)
  replace BB := Lib.hid (BB.out.trans (h2.mono BB.out.size))
  replace KY := Lib.hid (hand_below KY.out h2)
  replace RX2 := Lib.hid (Kd.C_below RX2.out h2)
  replace RY2 := Lib.hid (Kd.C_below RY2.out h2)
  replace Qx := Lib.hid (Kd.C_below Qx.out h2)
  replace Qy := Lib.hid (Kd.C_below Qy.out h2)
  replace Qp := Lib.hid (Kd.C_below Qp.out h2)
  replace Qq := Lib.hid (Kd.C_below Qq.out h2)
  clear h2 hd
  go_wp2_with fail
  go_at_call 17
  refine (shutterref11_SamePairs.calls _ _ _ _ _ _ _ _ _ Qp.out Pp.out Qq.out Pq.out K2.out).mono ?_
  rintro en wz9 ⟨rfl, hd⟩
  have h2 := Drawn0.below hd
  replace HA := Lib.hid (Kd.C_below HA.out h2)
  replace HB := Lib.hid (Kd.C_below HB.out h2)
  replace KX := Lib.hid (lent_below KX.out h2)
  replace BB := Lib.hid (BB.out.trans (h2.mono BB.out.size))
  replace KY := Lib.hid (hand_below KY.out h2)
  replace RX2 := Lib.hid (Kd.C_below RX2.out h2)
  replace RY2 := Lib.hid (Kd.C_below RY2.out h2)
  replace Qx := Lib.hid (Kd.C_below Qx.out h2)
  replace Qy := Lib.hid (Kd.C_below Qy.out h2)
  replace Qp := Lib.hid (Kd.C_below Qp.out h2)
  replace Qq := Lib.hid (Kd.C_below Qq.out h2)
  clear h2 hd
  go_wp2_with fail
  go_at_call 18
  refine (kept_c _ _ _ _ _ KX.out HA.out HC.out (by have := HL.out; omega) (samePairs_f a (by have := HL.out; omega))).mono ?_
  rintro en w10 ⟨rfl, h2⟩
  replace HA := Lib.hid (Kd.C_below HA.out h2)
  replace HB := Lib.hid (Kd.C_below HB.out h2)
  replace KX := Lib.hid (lent_below KX.out h2)
  replace BB := Lib.hid (BB.out.trans (h2.mono BB.out.size))
  replace KY := Lib.hid (hand_below KY.out h2)
  replace RX2 := Lib.hid (Kd.C_below RX2.out h2)
  replace RY2 := Lib.hid (Kd.C_below RY2.out h2)
  replace Qx := Lib.hid (Kd.C_below Qx.out h2)
  replace Qy := Lib.hid (Kd.C_below Qy.out h2)
  replace Qp := Lib.hid (Kd.C_below Qp.out h2)
  replace Qq := Lib.hid (Kd.C_below Qq.out h2)
  clear h2
  go_wp2_with fail
  go_at_call 33
  refine (keptB_c _ _ _ _ _ KY.out HB.out HD.out (by have := HL.out; omega) (sameB_f b (by have := HL.out; omega))).mono ?_
  rintro en w11 ⟨rfl, h2⟩
  replace HA := Lib.hid (Kd.C_below HA.out h2)
  replace HB := Lib.hid (Kd.C_below HB.out h2)
  replace KX := Lib.hid (lent_below KX.out h2)
  replace BB := Lib.hid (BB.out.trans (h2.mono BB.out.size))
  replace KY := Lib.hid (hand_below KY.out h2)
  replace RX2 := Lib.hid (Kd.C_below RX2.out h2)
  replace RY2 := Lib.hid (Kd.C_below RY2.out h2)
  replace Qx := Lib.hid (Kd.C_below Qx.out h2)
  replace Qy := Lib.hid (Kd.C_below Qy.out h2)
  replace Qp := Lib.hid (Kd.C_below Qp.out h2)
  replace Qq := Lib.hid (Kd.C_below Qq.out h2)
  clear h2
  go_wp2_with fail
  go_ret
  exact ⟨rfl, BB.out⟩
theorem codes_walk (W : World) (a0 : Option Addr) (c0 : Nat) (x0 : List S82) (h0 : Kd.C k82 W a0 x0.length x0) (l0 : x0.length ≤ c0) {H : Type} {d0 d1 : DataW H} (b0 : (x0.map B82).sum + 1 ≤ Rows.uptoBulk d0) (w0 : ∀ x ∈ x0, wfP x)
    (a1 : Option Addr) (c1 : Nat) (x1 : List Int) (h1 : Kd.C (Kd.int .u8) W a1 x1.length x1) (l1 : x1.length ≤ c1) (b1 : (x1.map (fun _ => 1)).sum + 1 ≤ Rows.uptoBulk d1) (w1 : ∀ x ∈ x1, (Lit.int .u8 x).wf = true) (hb : Rows.uptoBulk d0 + (Rows.uptoBulk d1 + 0) ≤ 1048576) :
    Calls Try.prog 6 #[.slice a0 x0.length c0, .slice a1 x1.length c1] W fun e W' => e = .returned (.bool true) ∧ Below W.heap.size W W' := by
  have s0 := sum82 x0
  have s1 : (x1.map (fun _ => 1)).sum = x1.length := by clear h1 l1 b1 w1; induction x1 with
    | nil => rfl
    | cons a l ih => simp [ih]; omega
  refine codes_c a0 c0 x0 a1 c1 x1 W h0 l0 h1 l1 (by omega) w0 (fun c hc => ?_)
  have := w1 c hc
  simp [Lit.wf, IntKind.min, IntKind.max, IntKind.signed, IntKind.bits] at this
  omega
end Go.Proofs.Ythblincfnfpgbaa.Q
