import Derived.Test.YthblincfnfpgbaaQx0
import Derived.Test.YthblincfnfpgbaaQxH4g
import Derived.Test.YthblincfnfpgbaaQxH1
import Derived.Outline
import Derived.IntWalk
import Derived.BigQuiet
import Derived.Deep.QuietTactic
import Derived.Deep.DeepCutAuto
import Derived.Lib.VarintBits
import Derived.Deep.RegionHeld3
import Derived.ChangeKeysEq
import Derived.Laws.StructEq
import Derived.Test.YthblincfnfpgbaaQxH3
import Derived.WalkLawsBesides
import Derived.Laws.Cover3
import Derived.Test.YthblincfnfpgbaaQx15
import Derived.Test.YthblincfnfpgbaaQx30
import Derived.Test.YthblincfnfpgbaaQxH2
import Derived.Test.YthblincfnfpgbaaQxNum
import Derived.Lib.EndianBits
import Derived.Test.YthblincfnfpgbaaQxPB
import Derived.Test.YthblincfnfpgbaaQx32
import Derived.Test.YthblincfnfpgbaaQx33
import Derived.Test.YthblincfnfpgbaaQxLive
import Derived.Test.YthblincfnfpgbaaQxO82
-- Written by a program of this session over the kit's print.py, which was handed contracts that were proved by hand. Lean checks it.
namespace Go.Proofs.Ythblincfnfpgbaa.Q
open Go.RowKit Go.Proofs.YthblincfnfpgbaaW.PrintWords Go.Proofs.YthblincfnfpgbaaW.PrintLast Go.Proofs.YthblincfnfpgbaaW.PrintMore
attribute [local go_sem] max2_int min2_int max_two min_two max_three min_three max_four min_four   -- for this text's walks alone
set_option linter.unusedVariables false
set_option linter.unusedSimpArgs false

/-! ### shuttermem_Same: function 32 -/
def shuttermem_Same.l0 : Nat → List Int → List Int → Int → Option (Bool)
  | 0, _, _, _ => none
  | k + 1, x0, x1, x5 => if x5 < (x0.length : Int) then (if 0 ≤ x5 then (if x5 < (x1.length : Int) then (if (rd x0 x5) = (rd x1 x5) then (shuttermem_Same.l0 k x0 x1 (wrap64 (x5 + 1))) else (some false)) else (none)) else (none)) else (some true)
def shuttermem_Same.f (k : Nat) (l0 : List Int) (l1 : List Int) : Option (Bool) := if (l0.length : Int) = (l1.length : Int) then (shuttermem_Same.l0 k l0 l1 0) else (some false)
theorem shuttermem_Same.mono_l : ∀ k, (∀ y0 y1 y2, LeO (shuttermem_Same.l0 k y0 y1 y2) (shuttermem_Same.l0 (k + 1) y0 y1 y2))
  | 0 => fun _ _ _ r h => by simp [shuttermem_Same.l0] at h
  | k + 1 => by
    have ih0 := shuttermem_Same.mono_l k
    · intro y0 y1 y2
      unfold shuttermem_Same.l0
      repeat' first
      | (with_reducible exact ih0 _ _ _)
      | (with_reducible exact LeO.refl _)
      | (with_reducible exact LeO.none _)
      | (with_reducible refine LeO.ite ?_ ?_)
      | (with_reducible refine LeO.bind ?_ (fun _ => ?_))
      | exact ih0 _ _ _
      | exact LeO.none _
      | refine LeO.ite ?_ ?_
      | refine LeO.bind ?_ (fun _ => ?_)
theorem shuttermem_Same.mono : ∀ a0 a1 k, LeO (shuttermem_Same.f k a0 a1) (shuttermem_Same.f (k + 1) a0 a1) := by
  intro a0 a1 k
  have ih0 := shuttermem_Same.mono_l k
  unfold shuttermem_Same.f
  repeat' first
      | (with_reducible exact ih0 _ _ _)
      | (with_reducible exact LeO.refl _)
      | (with_reducible exact LeO.none _)
      | (with_reducible refine LeO.ite ?_ ?_)
      | (with_reducible refine LeO.bind ?_ (fun _ => ?_))
      | exact ih0 _ _ _
      | exact LeO.none _
      | refine LeO.ite ?_ ?_
      | refine LeO.bind ?_ (fun _ => ?_)
set_option maxHeartbeats 8000000 in
set_option maxRecDepth 100000 in
theorem shuttermem_Same.calls (k : Nat) (A0 : Option Addr) (c0 : Nat) (l0 : List Int) (A1 : Option Addr) (c1 : Nat) (l1 : List Int) (r : Bool) (w : World) (hr0 : Kd.C (Kd.int .u8) w A0 l0.length l0) (hc0 : l0.length ≤ c0) (hr1 : Kd.C (Kd.int .u8) w A1 l1.length l1) (hc1 : l1.length ≤ c1) (h : shuttermem_Same.f k l0 l1 = some r) :
    Calls Try.prog 32 #[.slice A0 l0.length c0, .slice A1 l1.length c1] w fun e w' => e = .returned (.bool r) ∧ Drawn0 w w' := by
  have HR0 := Aside0.mk hr0
  have HC0 := Aside0.mk hc0
  clear hr0 hc0
  have HR1 := Aside0.mk hr1
  have HC1 := Aside0.mk hc1
  clear hr1 hc1
  have H : (if (l0.length : Int) = (l1.length : Int) then (shuttermem_Same.l0 k l0 l1 0) else (some false)) = some r := h
  clear h
  by_cases c3 : (l0.length : Int) = (l1.length : Int)
  · rw [if_pos c3] at H
    have c3b0 : ((l0.length : Int) == (l1.length : Int)) = true := beq_iff_eq.mpr c3
    have c3b1 : ((l0.length : Int) != (l1.length : Int)) = false := bne_eq_false_iff_eq.mpr c3
    have c3b2 : (l0.length == l1.length) = true := by first | simpa using c3 | (simp at c3 ⊢; omega)
    clear c3
    have H' := Aside0.mk H
    clear H
    go_enter Try.func32, Try.ntmps32
    go_wp2
    repeat (go_quiet (fail); try go_wp2)
    go_loopg [5] k (fun kq v5 w' => ∃ (x5_1 : Int), v5 = .int .i64 x5_1 ∧ Aside0 (shuttermem_Same.l0 kq l0 l1 x5_1 = some r) ∧ Aside0 (kq ≤ k) ∧ Drawn0 w w')
    case atStart => exact ⟨(0), (by first | rfl | (simp; done) | (simp [*]; done)), H', ⟨Nat.le_refl _⟩, by repeat (first | exact Drawn0.refl _ | apply Drawn0.step)⟩
    case round =>
      clear H'
      try clear c1
      try clear p2
      try clear c3
      try clear c3b0
      try clear c3b1
      try clear c3b2
      obtain ⟨x5_1, rfl, HA, HK1, ⟨m1, rfl⟩⟩ := hrel
      cases gk with
      | zero => exact absurd HA.out (by simp [shuttermem_Same.l0])
      | succ k1 =>
        have H := HA.out
        clear HA
        simp only [shuttermem_Same.l0] at H
        by_cases c4 : x5_1 < (l0.length : Int)
        · rw [if_pos c4] at H
          have c4b0 : decide (x5_1 < (l0.length : Int)) = true := decide_eq_true c4
          clear c4
          by_cases c5 : 0 ≤ x5_1
          · rw [if_pos c5] at H
            have c5b0 : decide (0 ≤ x5_1) = true := decide_eq_true c5
            clear c5
            by_cases c6 : x5_1 < (l1.length : Int)
            · rw [if_pos c6] at H
              have c6b0 : decide (x5_1 < (l1.length : Int)) = true := decide_eq_true c6
              clear c6
              by_cases c7 : (rd l0 x5_1) = (rd l1 x5_1)
              · rw [if_pos c7] at H
                have c7b0 : ((rd l0 x5_1) == (rd l1 x5_1)) = true := beq_iff_eq.mpr c7
                have c7b1 : ((rd l0 x5_1) != (rd l1 x5_1)) = false := bne_eq_false_iff_eq.mpr c7
                clear c7
                have H' := Aside0.mk H
                clear H
                have p387 : 0 ≤ (x5_1 : Int) := of_decide_eq_true (by first | (with_reducible assumption) | assumption)
                have q387 : x5_1 < (l0.length : Int) := of_decide_eq_true (by first | (with_reducible assumption) | assumption)
                obtain ⟨ad387, e387, hx387_0⟩ := Kd.at_int HR0.out x5_1 p387 q387
                cases e387
                replace p387 := eq_true p387
                replace q387 := eq_true q387
                have p388 : 0 ≤ (x5_1 : Int) := of_decide_eq_true (by first | (with_reducible assumption) | assumption)
                have q388 : x5_1 < (l1.length : Int) := of_decide_eq_true (by first | (with_reducible assumption) | assumption)
                obtain ⟨ad388, e388, hx388_0⟩ := Kd.at_int HR1.out x5_1 p388 q388
                cases e388
                replace p388 := eq_true p388
                replace q388 := eq_true q388
                go_wp2
                repeat (go_quiet (fail); try go_wp2)
                go_roundg k1
                case measure => have := HK1.out; omega
                case rel => exact ⟨(wrap64 (x5_1 + 1)), (by first | rfl | (simp; done) | (simp [*]; done)), H', ⟨by have := HK1.out; omega⟩, by repeat (first | exact Drawn0.refl _ | apply Drawn0.step)⟩
              · rw [if_neg c7] at H
                have c7b0 : ((rd l0 x5_1) == (rd l1 x5_1)) = false := beq_eq_false_iff_ne.mpr c7
                have c7b1 : ((rd l0 x5_1) != (rd l1 x5_1)) = true := bne_iff_ne.mpr c7
                obtain rfl := Option.some.inj H
                have p387 : 0 ≤ (x5_1 : Int) := of_decide_eq_true (by first | (with_reducible assumption) | assumption)
                have q387 : x5_1 < (l0.length : Int) := of_decide_eq_true (by first | (with_reducible assumption) | assumption)
                obtain ⟨ad387, e387, hx387_0⟩ := Kd.at_int HR0.out x5_1 p387 q387
                cases e387
                replace p387 := eq_true p387
                replace q387 := eq_true q387
                have p388 : 0 ≤ (x5_1 : Int) := of_decide_eq_true (by first | (with_reducible assumption) | assumption)
                have q388 : x5_1 < (l1.length : Int) := of_decide_eq_true (by first | (with_reducible assumption) | assumption)
                obtain ⟨ad388, e388, hx388_0⟩ := Kd.at_int HR1.out x5_1 p388 q388
                cases e388
                replace p388 := eq_true p388
                replace q388 := eq_true q388
                go_wp2
                repeat (go_quiet (fail); try go_wp2)
                go_ret
                exact ⟨by first | rfl | (simp; done) | (simp [*]; done), by repeat (first | exact Drawn0.refl _ | apply Drawn0.step)⟩
            · rw [if_neg c6] at H
              exact absurd H (by simp)
          · rw [if_neg c5] at H
            exact absurd H (by simp)
        · rw [if_neg c4] at H
          have c4b0 : decide (x5_1 < (l0.length : Int)) = false := decide_eq_false c4
          clear c4
          obtain rfl := Option.some.inj H
          go_wp2
          repeat (go_quiet (fail); try go_wp2)
          go_ret
          exact ⟨by first | rfl | (simp; done) | (simp [*]; done), by repeat (first | exact Drawn0.refl _ | apply Drawn0.step)⟩
  · rw [if_neg c3] at H
    have c3b0 : ((l0.length : Int) == (l1.length : Int)) = false := beq_eq_false_iff_ne.mpr c3
    have c3b1 : ((l0.length : Int) != (l1.length : Int)) = true := bne_iff_ne.mpr c3
    have c3b2 : (l0.length == l1.length) = false := by first | simpa using c3 | (simp at c3 ⊢; omega)
    obtain rfl := Option.some.inj H
    go_enter Try.func32, Try.ntmps32
    go_wp2
    repeat (go_quiet (fail); try go_wp2)
    go_ret
    exact ⟨by first | rfl | (simp; done) | (simp [*]; done), by repeat (first | exact Drawn0.refl _ | apply Drawn0.step)⟩

end Go.Proofs.Ythblincfnfpgbaa.Q
namespace Go.Proofs.Ythblincfnfpgbaa.Q
open Go.RowKit Go.Proofs.YthblincfnfpgbaaW.PrintWords Go.Proofs.YthblincfnfpgbaaW.PrintLast Go.Proofs.YthblincfnfpgbaaW.PrintMore
set_option linter.unusedVariables false
/-- Patch refuses: something is not right. -/
def patBad (a : List S82) (l : List S30) : Bool := !risingS a || !risingC l || l.any (fun x => !isRightB x)
def patR (a : List S82) (l : List S30) : List S82 × Int := if patBad a l = true then ([], 52) else if patF a l = true then (patO a l, 0) else ([], 4)
theorem visP_start {w0 w : World} (hb : Below w0.heap.size w0 w) : VisP w0 w.heap.size (w.heap.size + 1) true [] ((w.alloc (.cells #[.slice none 0 0] 22)).alloc (.cells #[.bool true] 4)) := by
  have h1 := hb.alloc hb.size (.cells #[.slice none 0 0] 22)
  have hs : (w.alloc (.cells #[.slice none 0 0] 22)).heap.size = w.heap.size + 1 := by simp
  have hsz := hb.size
  refine ⟨h1.alloc (by omega) _, ?_, .slice none 0 0, blk_alloc (blk_new w _) _, Kd.R_nil k82 82 _ _ _⟩
  have := blk_new (w.alloc (.cells #[.slice none 0 0] 22)) (.cells #[.bool true] 4)
  rwa [hs] at this
theorem contains_v (A : Option Addr) (c : Nat) (l : List S30) (b : Bool) (w : World) (hA : Kd.C k30 w A l.length l) (hl : l.length < 4398046511104) (h : l.any (fun x => !isRightB x) = b) :
    Calls Try.prog 47 #[.slice A l.length c, .func (.func 44) #[] #[]] w fun e w' => e = .returned (.bool b) ∧ Below w.heap.size w w' := by
  subst h; exact contains_c A c l w hA hl
theorem risingC_v (A : Option Addr) (c : Nat) (l : List S30) (b : Bool) (w : World) (hA : Kd.C k30 w A l.length l) (hl : l.length < 4398046511104) (h : risingC l = b) :
    Calls Try.prog 45 #[.slice A l.length c, .func (.func 46) #[] #[]] w fun e w' => e = .returned (.bool b) ∧ Below w.heap.size w w' := by
  subst h; exact risingC_c A c l w hA hl
set_option maxHeartbeats 4000000 in
set_option maxRecDepth 100000 in
theorem patch_c (A0 : Option Addr) (c0 : Nat) (a : List S82) (A1 : Option Addr) (c1 : Nat) (l : List S30) (w : World) (hA : Kd.C k82 w A0 a.length a) (hc0 : a.length ≤ c0) (hB : Kd.C k30 w A1 l.length l) (hc1 : l.length ≤ c1) (hl : a.length + l.length < 4398046511104) :
    Calls Try.prog 15 #[.slice A0 a.length c0, .slice A1 l.length c1] w fun e w' => ∃ v0_ : Value, e = .returned (.tuple #[v0_, .int .i64 (patR a l).2]) ∧ Kd.R k82 82 w' w.heap.size (fun _ => True) v0_ (patR a l).1 ∧ Below w.heap.size w w' := by
  have hu22 := Try.underlying22
  have HA := Lib.hid hA
  have HA' := Lib.hid hc0
  have HB := Lib.hid hB
  have HB' := Lib.hid hc1
  have HL := Lib.hid hl
  clear hA hc0 hB hc1 hl
  have HLB := Lib.hid (show l.length < 4398046511104 by have := HL.out; omega)
  obtain ⟨b1, h1⟩ : ∃ b, risingS a = b := ⟨_, rfl⟩
  obtain ⟨b2, h2⟩ : ∃ b, risingC l = b := ⟨_, rfl⟩
  obtain ⟨b3, h3⟩ : ∃ b, l.any (fun x => !isRightB x) = b := ⟨_, rfl⟩
  have H1 := Lib.hid h1
  have H2 := Lib.hid h2
  have H3 := Lib.hid h3
  have HR : Hid (patBad a l = (!b1 || !b2 || b3)) := Lib.hid (by unfold patBad; rw [h1, h2, h3])
  clear h1 h2 h3
  cases b1
  · obtain ⟨r, hr⟩ : ∃ r, patR a l = r := ⟨_, rfl⟩
    have hr0 : r = ([], 52) := by rw [← hr]; unfold patR; rw [HR.out]; rfl
    subst hr0
    rw [hr]
    clear hr
    go_enter Try.func15, Try.ntmps15
    go_wp2_with fail
    go_at_call 39
    refine (right_c _ _ _ _ _ HA.out HA'.out H1.out).mono ?_
    rintro e w1 ⟨rfl, hb⟩
    have HW1 := Lib.hid hb
    clear hb
    go_wp2_with fail
    go_ret2
    exact ⟨_, rfl, Kd.R_nil k82 82 _ _ _, HW1.out⟩
  · cases b2
    · obtain ⟨r, hr⟩ : ∃ r, patR a l = r := ⟨_, rfl⟩
      have hr0 : r = ([], 52) := by rw [← hr]; unfold patR; rw [HR.out]; rfl
      subst hr0
      rw [hr]
      clear hr
      go_enter Try.func15, Try.ntmps15
      go_wp2_with fail
      go_at_call 39
      refine (right_c _ _ _ _ _ HA.out HA'.out H1.out).mono ?_
      rintro e w1 ⟨rfl, hb⟩
      have HW1 := Lib.hid hb
      clear hb
      go_wp2_with fail
      go_at_call 45
      refine (risingC_v _ _ _ _ _ (Kd.C_below HB.out HW1.out) HLB.out H2.out).mono ?_
      rintro e w2 ⟨rfl, hb⟩
      have HW2 := Lib.hid (HW1.out.trans (hb.mono HW1.out.size))
      clear hb
      go_wp2_with fail
      go_ret2
      exact ⟨_, rfl, Kd.R_nil k82 82 _ _ _, HW2.out⟩
    · cases b3
      · obtain ⟨f, hf⟩ : ∃ f, patF a l = f := ⟨_, rfl⟩
        have HF := Lib.hid hf
        clear hf
        obtain ⟨r, hr⟩ : ∃ r, patR a l = r := ⟨_, rfl⟩
        have hr0 : r = (if f = true then (patO a l, 0) else ([], 4)) := by rw [← hr]; unfold patR; rw [HR.out, HF.out]; rfl
        rw [hr]
        clear hr
        have HR0 := Lib.hid hr0
        clear hr0
        go_enter Try.func15, Try.ntmps15
        go_wp2_with fail
        go_at_call 39
        refine (right_c _ _ _ _ _ HA.out HA'.out H1.out).mono ?_
        rintro e w1 ⟨rfl, hb⟩
        have HW1 := Lib.hid hb
        clear hb
        go_wp2_with fail
        go_at_call 45
        refine (risingC_v _ _ _ _ _ (Kd.C_below HB.out HW1.out) HLB.out H2.out).mono ?_
        rintro e w2 ⟨rfl, hb⟩
        have HW2 := Lib.hid (HW1.out.trans (hb.mono HW1.out.size))
        clear hb
        go_wp2_with fail
        go_at_call 47
        refine (contains_v _ _ _ _ _ (Kd.C_below HB.out HW2.out) HLB.out H3.out).mono ?_
        rintro e w3 ⟨rfl, hb⟩
        have HW3 := Lib.hid (HW2.out.trans (hb.mono HW2.out.size))
        clear hb
        go_wp2_with fail
        go_at_call 48
        refine (beside30_c w _ w3.heap.size (w3.heap.size + 1) _ _ a l ((HW3.out.alloc HW3.out.size _).alloc (by have := HW3.out.size; simp; omega) _) HW3.out.size (by have := HW3.out.size; omega) (visP_start HW3.out) ⟨_, _, rfl, HA'.out, HA.out⟩ ⟨_, _, rfl, HB'.out, HB.out⟩ HL.out).mono ?_
        rintro e w4 ⟨rfl, hv⟩
        obtain ⟨hb4, hh4, v, hx, hR⟩ := hv
        obtain ⟨A3, c3, rfl⟩ := Kd.R_slice hR
        have hc3 : w4.cell? ⟨w3.heap.size, 0, none⟩ = some (.slice A3 (patO a l).length c3) := (blk_cell hx 0).trans rfl
        have hc4 : w4.cell? ⟨w3.heap.size + 1, 0, none⟩ = some (.bool f) := by rw [← HF.out]; exact (blk_cell hh4 0).trans rfl
        have HB4 := Lib.hid hb4
        have HR4 := Lib.hid hR
        clear hb4 hx hR hh4
        cases f
        · obtain rfl : r = ([], 4) := HR0.out
          go_wp2
          go_ret2
          exact ⟨_, rfl, Kd.R_nil k82 82 _ _ _, HB4.out⟩
        · obtain rfl : r = (patO a l, 0) := HR0.out
          go_wp2
          go_ret2
          exact ⟨_, rfl, Kd.R_mono HR4.out (fun _ _ => trivial), HB4.out⟩
      · obtain ⟨r, hr⟩ : ∃ r, patR a l = r := ⟨_, rfl⟩
        have hr0 : r = ([], 52) := by rw [← hr]; unfold patR; rw [HR.out]; rfl
        subst hr0
        rw [hr]
        clear hr
        go_enter Try.func15, Try.ntmps15
        go_wp2_with fail
        go_at_call 39
        refine (right_c _ _ _ _ _ HA.out HA'.out H1.out).mono ?_
        rintro e w1 ⟨rfl, hb⟩
        have HW1 := Lib.hid hb
        clear hb
        go_wp2_with fail
        go_at_call 45
        refine (risingC_v _ _ _ _ _ (Kd.C_below HB.out HW1.out) HLB.out H2.out).mono ?_
        rintro e w2 ⟨rfl, hb⟩
        have HW2 := Lib.hid (HW1.out.trans (hb.mono HW1.out.size))
        clear hb
        go_wp2_with fail
        go_at_call 47
        refine (contains_v _ _ _ _ _ (Kd.C_below HB.out HW2.out) HLB.out H3.out).mono ?_
        rintro e w3 ⟨rfl, hb⟩
        have HW3 := Lib.hid (HW2.out.trans (hb.mono HW2.out.size))
        clear hb
        go_wp2_with fail
        go_ret2
        exact ⟨_, rfl, Kd.R_nil k82 82 _ _ _, HW3.out⟩
end Go.Proofs.Ythblincfnfpgbaa.Q
namespace Go.Proofs.Ythblincfnfpgbaa.Q
open Go.RowKit Go.Proofs.YthblincfnfpgbaaW.PrintWords Go.Proofs.YthblincfnfpgbaaW.PrintLast Go.Proofs.YthblincfnfpgbaaW.PrintMore
set_option linter.unusedVariables false
def dump_Patch.f (a : List S82) (l : List S30) : Option (List S82 × Int) := if a.length + l.length < 4398046511104 then some (patR a l) else none
theorem dump_Patch.calls (A0 : Option Addr) (c0 : Nat) (a : List S82) (A1 : Option Addr) (c1 : Nat) (l : List S30) (r1 : List S82) (r2 : Int) (w : World) (hA : Kd.C k82 w A0 a.length a) (hc0 : a.length ≤ c0) (hB : Kd.C k30 w A1 l.length l) (hc1 : l.length ≤ c1) (h : dump_Patch.f a l = some (r1, r2)) :
    Calls Try.prog 15 #[.slice A0 a.length c0, .slice A1 l.length c1] w fun e w' => ∃ v0_ : Value, e = .returned (.tuple #[v0_, .int .i64 r2]) ∧ Kd.R k82 82 w' w.heap.size (fun _ => True) v0_ r1 ∧ Below w.heap.size w w' := by
  unfold dump_Patch.f at h
  split at h
  case isFalse => exact absurd h (by simp)
  rename_i hl
  have := Option.some.inj h
  have e := patch_c A0 c0 a A1 c1 l w hA hc0 hB hc1 hl
  rw [this] at e
  exact e
end Go.Proofs.Ythblincfnfpgbaa.Q
-- Written by a program of this session over the kit's print.py, which was handed contracts that were proved by hand. Lean checks it.
namespace Go.Proofs.Ythblincfnfpgbaa.Q
open Go.RowKit Go.Proofs.YthblincfnfpgbaaW.PrintWords Go.Proofs.YthblincfnfpgbaaW.PrintLast Go.Proofs.YthblincfnfpgbaaW.PrintMore
attribute [local go_sem] max2_int min2_int max_two min_two max_three min_three max_four min_four   -- for this text's walks alone
set_option linter.unusedVariables false
set_option linter.unusedSimpArgs false

/-- A state of type 123 at block g of W; what its slices lead to came in by w0. -/
def IsS123 (w0 W : World) (g : Nat) (f0 : List Int) (f1 : Int) (f2 : Int) : Prop := ∃ A0 c0, W.heap[g]? = some (.cells #[.slice A0 f0.length c0, .int .i64 f1, .int .i64 f2] 123 (0, 0)) ∧ w0.heap.size ≤ g ∧ Kd.C (Kd.int .u8) w0 A0 f0.length f0
theorem IsS123.grown {w0 W : World} {g : Nat} {f0 : List Int} {f1 : Int} {f2 : Int} {W1 : World} {row : Option Nat} (h : IsS123 w0 W g f0 f1 f2) (hw : W.grownBy W1 row) (hne : some g ≠ row) : IsS123 w0 W1 g f0 f1 f2 := by
  obtain ⟨A0, c0, hb, hg, hr0⟩ := h
  exact ⟨A0, c0, blk_grown hb hw hne, hg, hr0⟩
theorem IsS123.own_neN {w0 W : World} {g : Nat} {f0 : List Int} {f1 : Int} {f2 : Int} {α : Type} {d : Kd α} {e : Nat} {base : Nat} {ok : Nat → Prop} {v : Value} {xs : List α} (h : IsS123 w0 W g f0 f1 f2) (ho : Kd.N d e W base ok v xs) (ht : e ≠ 123) : some g ≠ v.ownBlock := by
  obtain ⟨A0, c0, hb, hg, hr0⟩ := h
  exact Kd.N_ne ho hb ht
theorem IsS123.fresh {w0 W : World} {g : Nat} {f0 : List Int} {f1 : Int} {f2 : Int} (h : IsS123 w0 W g f0 f1 f2) : ∀ k, W.heap.size ≤ k → k ≠ g := by
  obtain ⟨A0, c0, hb, hg, hr0⟩ := h
  exact Kd.freshB hb
theorem IsS123.kept {w0 W : World} {g : Nat} {f0 : List Int} {f1 : Int} {f2 : Int} {W1 : World} {S : Nat → Prop} (h : IsS123 w0 W g f0 f1 f2) (hk : Kept W W1 S) (hne : ¬ S g) : IsS123 w0 W1 g f0 f1 f2 := by
  obtain ⟨A0, c0, hb, hg, hr0⟩ := h
  exact ⟨A0, c0, blk_kept hb hk hne, hg, hr0⟩
theorem IsS123.below {w0 W : World} {g : Nat} {f0 : List Int} {f1 : Int} {f2 : Int} {W1 : World} (h : IsS123 w0 W g f0 f1 f2) (hw : Below W.heap.size W W1) : IsS123 w0 W1 g f0 f1 f2 := h.grown (grown_of_below hw none) (by simp)
theorem IsS123.alloc {w0 W : World} {g : Nat} {f0 : List Int} {f1 : Int} {f2 : Int} (h : IsS123 w0 W g f0 f1 f2) (o : Obj) : IsS123 w0 (W.alloc o) g f0 f1 f2 := h.below (below_alloc (Below.refl _ _) o)
theorem IsS123.drewN {w0 W : World} {g : Nat} {f0 : List Int} {f1 : Int} {f2 : Int} (h : IsS123 w0 W g f0 f1 f2) (m : Nat) : IsS123 w0 (W.drewN m) g f0 f1 f2 := h
theorem IsS123.drew {w0 W : World} {g : Nat} {f0 : List Int} {f1 : Int} {f2 : Int} (h : IsS123 w0 W g f0 f1 f2) : IsS123 w0 W.drew g f0 f1 f2 := h
theorem IsS123.at_ {w0 W : World} {g : Nat} {f0 : List Int} {f1 : Int} {f2 : Int} {w' : World} {m : Nat} (hq : W.drewN m = w') (h : IsS123 w0 W g f0 f1 f2) : IsS123 w0 w' g f0 f1 f2 := by subst hq; exact IsS123.drewN h m
theorem IsS123.apart {w0 W : World} {g : Nat} {f0 : List Int} {f1 : Int} {f2 : Int} {α : Type} {d : Kd α} {e : Nat} {base : Nat} {ok : Nat → Prop} {v : Value} {xs : List α} (h : IsS123 w0 W g f0 f1 f2) (ho : d.R e W base ok v xs) (ht : ∀ q, q ∈ e :: d.E → q ≠ 123) : d.R e W base (fun k => ok k ∧ k ≠ g) v xs := by
  obtain ⟨A0, c0, hb, hg, hr0⟩ := h
  exact Kd.R_types ho hb ht
theorem IsS123.own_ne {w0 W : World} {g : Nat} {f0 : List Int} {f1 : Int} {f2 : Int} {α : Type} {d : Kd α} {e : Nat} {base : Nat} {ok : Nat → Prop} {v : Value} {xs : List α} (h : IsS123 w0 W g f0 f1 f2) (ho : d.R e W base ok v xs) (ht : e ≠ 123) : some g ≠ v.ownBlock := by
  obtain ⟨A0, c0, hb, hg, hr0⟩ := h
  exact Kd.R_ne ho hb ht
theorem IsS123.apartQ {w0 W : World} {g : Nat} {f0 : List Int} {f1 : Int} {f2 : Int} {α : Type} {d : Kd α} {e : Nat} {base : Nat} {ok : Nat → Prop} {v : Value} {xs : List α} (h : IsS123 w0 W g f0 f1 f2) (ho : d.Q e W base ok v xs) (ht : ∀ q, q ∈ e :: d.E → q ≠ 123) : d.Q e W base (fun k => ok k ∧ k ≠ g) v xs := by
  obtain ⟨A0, c0, hb, hg, hr0⟩ := h
  exact Kd.Q_types ho hb ht
theorem IsS123.own_neQ {w0 W : World} {g : Nat} {f0 : List Int} {f1 : Int} {f2 : Int} {α : Type} {d : Kd α} {e : Nat} {base : Nat} {ok : Nat → Prop} {v : Value} {xs : List α} (h : IsS123 w0 W g f0 f1 f2) (ho : d.Q e W base ok v xs) (ht : e ≠ 123) : some g ≠ v.ownBlock := by
  obtain ⟨A0, c0, hb, hg, hr0⟩ := h
  exact Kd.Q_ne ho hb ht
theorem IsS123.apartS {w0 W : World} {g : Nat} {f0 : List Int} {f1 : Int} {f2 : Int} {α : Type} {d : Kd α} {e : Nat} {base : Nat} {ok : Nat → Prop} {v : Value} {xs : List α} (h : IsS123 w0 W g f0 f1 f2) (ho : d.S e W base ok v xs) (ht : ∀ q, q ∈ e :: d.E → q ≠ 123) : d.S e W base (fun k => ok k ∧ k ≠ g) v xs := by
  obtain ⟨A0, c0, hb, hg, hr0⟩ := h
  exact Kd.S_types ho hb ht
theorem IsS123.own_neS {w0 W : World} {g : Nat} {f0 : List Int} {f1 : Int} {f2 : Int} {α : Type} {d : Kd α} {e : Nat} {base : Nat} {ok : Nat → Prop} {v : Value} {xs : List α} (h : IsS123 w0 W g f0 f1 f2) (ho : d.S e W base ok v xs) (ht : e ≠ 123) : some g ≠ v.ownBlock := by
  obtain ⟨A0, c0, hb, hg, hr0⟩ := h
  exact Kd.S_ne ho hb ht
theorem IsS123.lt {w0 W : World} {g : Nat} {f0 : List Int} {f1 : Int} {f2 : Int} (h : IsS123 w0 W g f0 f1 f2) : g < W.heap.size := by
  obtain ⟨A0, c0, hb, hg, hr0⟩ := h
  exact blk_lt hb
theorem IsS123.ge {w0 W : World} {g : Nat} {f0 : List Int} {f1 : Int} {f2 : Int} (h : IsS123 w0 W g f0 f1 f2) : w0.heap.size ≤ g := by
  obtain ⟨A0, c0, hb, hg, hr0⟩ := h
  exact hg
theorem IsS123.ne_blk {w0 W : World} {g : Nat} {f0 : List Int} {f1 : Int} {f2 : Int} {a : Nat} {cs : Array Value} {t : TypeId} {fr : Nat × Nat} (h : IsS123 w0 W g f0 f1 f2) (hb2 : W.heap[a]? = some (.cells cs t fr)) (ht : t ≠ 123) : g ≠ a := by
  obtain ⟨A0, c0, hb, hg, hr0⟩ := h
  rintro rfl
  rw [hb] at hb2
  injection hb2 with hb2
  injection hb2 with _ ht2
  exact ht ht2.symm
theorem IsS123.far {w0 W : World} {g : Nat} {f0 : List Int} {f1 : Int} {f2 : Int} {p : Addr} (h : IsS123 w0 W g f0 f1 f2) (hne : g ≠ p.block) (u : Value) : IsS123 w0 (W.setCell p u) g f0 f1 f2 := by
  obtain ⟨A0, c0, hb, hg, hr0⟩ := h
  exact ⟨A0, c0, blk_far hb hne u, hg, hr0⟩
theorem cellS123_0 {W : World} {g : Nat} {A0 : Option Addr} {c0 : Nat} {f0 : List Int} {f1 : Int} {f2 : Int} (h : W.heap[g]? = some (.cells #[.slice A0 f0.length c0, .int .i64 f1, .int .i64 f2] 123 (0, 0))) : W.cell? ⟨g, 0, none⟩ = some (.slice A0 f0.length c0) := (blk_cell h 0).trans rfl
theorem cellS123_1 {W : World} {g : Nat} {A0 : Option Addr} {c0 : Nat} {f0 : List Int} {f1 : Int} {f2 : Int} (h : W.heap[g]? = some (.cells #[.slice A0 f0.length c0, .int .i64 f1, .int .i64 f2] 123 (0, 0))) : W.cell? ⟨g, 1, none⟩ = some (.int .i64 f1) := (blk_cell h 1).trans rfl
theorem IsS123.set_1 {w0 W : World} {g : Nat} {f0 : List Int} {f1 : Int} {f2 : Int} (h : IsS123 w0 W g f0 f1 f2) (x : Int) : IsS123 w0 (W.setCell ⟨g, 1, none⟩ (.int .i64 x)) g f0 x f2 := by
  obtain ⟨A0, c0, hb, hg, hr0⟩ := h
  exact ⟨A0, c0, by simpa using blk_set hb 1 (.int .i64 x), hg, hr0⟩
theorem cellS123_2 {W : World} {g : Nat} {A0 : Option Addr} {c0 : Nat} {f0 : List Int} {f1 : Int} {f2 : Int} (h : W.heap[g]? = some (.cells #[.slice A0 f0.length c0, .int .i64 f1, .int .i64 f2] 123 (0, 0))) : W.cell? ⟨g, 2, none⟩ = some (.int .i64 f2) := (blk_cell h 2).trans rfl
theorem IsS123.set_2 {w0 W : World} {g : Nat} {f0 : List Int} {f1 : Int} {f2 : Int} (h : IsS123 w0 W g f0 f1 f2) (x : Int) : IsS123 w0 (W.setCell ⟨g, 2, none⟩ (.int .i64 x)) g f0 f1 x := by
  obtain ⟨A0, c0, hb, hg, hr0⟩ := h
  exact ⟨A0, c0, by simpa using blk_set hb 2 (.int .i64 x), hg, hr0⟩
theorem IsS123.new (w0 W : World) (A0 : Option Addr) (c0 : Nat) (f0 : List Int) (f1 : Int) (f2 : Int) (hB : Below w0.heap.size w0 W) (hr0 : Kd.C (Kd.int .u8) w0 A0 f0.length f0) : IsS123 w0 (W.alloc (.cells #[.slice A0 f0.length c0, .int .i64 f1, .int .i64 f2] 123)) W.heap.size f0 f1 f2 := ⟨A0, c0, by simpa using heap_alloc_new W _, hB.size, hr0⟩

/-! ### dump_reader_fail: function 63 -/
def dump_reader_fail.f (s0_0 : List Int) (s0_1 : Int) (s0_2 : Int) (a1 : Int) (a2 : Int) : Option (Int × Int) := if s0_2 = 0 then (some (a2, a1)) else (some (s0_1, s0_2))
set_option maxHeartbeats 8000000 in
set_option maxRecDepth 100000 in
theorem dump_reader_fail.calls (g : Nat) (s0_0 : List Int) (s0_1 : Int) (s0_2 : Int) (a1 : Int) (a2 : Int) (r1 : Int) (r2 : Int) (w0 w : World) (hI : IsS123 w0 w g s0_0 s0_1 s0_2) (hB : Below w0.heap.size w0 w) (h : dump_reader_fail.f s0_0 s0_1 s0_2 a1 a2 = some (r1, r2)) :
    Calls Try.prog 63 #[.pointer (some ⟨g, 0, none⟩), .int .i64 a1, .int .i64 a2] w fun e w' => e = .returned (.tuple #[]) ∧ IsS123 w0 w' g s0_0 r1 r2 ∧ Below w0.heap.size w0 w' ∧ KeepBut w w' g none := by
  have HI0 := Aside0.mk hI
  have HK := Aside0.mk (KeepBut.refl w g none)
  have HL := Aside0.mk hB.size
  clear hI
  have HW0 := Aside0.mk hB.size
  have HB := Aside0.mk hB
  clear hB
  have H : (if s0_2 = 0 then (some (a2, a1)) else (some (s0_1, s0_2))) = some (r1, r2) := h
  clear h
  by_cases c4 : s0_2 = 0
  · rw [if_pos c4] at H
    have c4b0 : (s0_2 == 0) = true := beq_iff_eq.mpr c4
    have c4b1 : (s0_2 != 0) = false := bne_eq_false_iff_eq.mpr c4
    clear c4
    simp only [Option.some.injEq, Prod.mk.injEq] at H
    obtain ⟨rfl, rfl⟩ := H
    obtain ⟨ASz5_0, cSz5_0, HGz5, hgz5, HSz5_0⟩ := HI0.out
    have hcz5_0 := cellS123_0 HGz5
    have hcz5_1 := cellS123_1 HGz5
    have hcz5_2 := cellS123_2 HGz5
    have hfz5_1 := blk_frozen HGz5 1
    have hfz5_2 := blk_frozen HGz5 2
    clear HGz5 hgz5
    go_enter Try.func63, Try.ntmps63
    go_wp2
    first | go_end0 | ((try simp only [Exit.inBlock, Exit.then]); refine bodyPost_ret (results_none rfl _ _ _) rfl ?_)
    exact ⟨by first | rfl | (simp [errW_none, errW_some] <;> rfl) | (simp [*, errW_none, errW_some] <;> rfl), by repeat (first | (with_reducible first | exact HI0.out | apply IsS123.alloc | apply IsS123.drewN | apply IsS123.drew | apply IsS123.set_1 | apply IsS123.set_2) | exact HI0.out), by repeat (first | (with_reducible first | exact HB.out | apply below_alloc | apply pw_below_drewN | apply below_drew1 | refine below_set ?_ (IsS123.ge HI0.out)) | exact HB.out), by repeat (first | (with_reducible first | exact HK.out | apply KeepBut.set_ | apply keep_drewN | apply keep_drew | apply keep_alloc) | exact HK.out)⟩
  · rw [if_neg c4] at H
    have c4b0 : (s0_2 == 0) = false := beq_eq_false_iff_ne.mpr c4
    have c4b1 : (s0_2 != 0) = true := bne_iff_ne.mpr c4
    simp only [Option.some.injEq, Prod.mk.injEq] at H
    obtain ⟨rfl, rfl⟩ := H
    obtain ⟨ASz6_0, cSz6_0, HGz6, hgz6, HSz6_0⟩ := HI0.out
    have hcz6_0 := cellS123_0 HGz6
    have hcz6_1 := cellS123_1 HGz6
    have hcz6_2 := cellS123_2 HGz6
    have hfz6_1 := blk_frozen HGz6 1
    have hfz6_2 := blk_frozen HGz6 2
    clear HGz6 hgz6
    go_enter Try.func63, Try.ntmps63
    go_wp2
    first | go_end0 | ((try simp only [Exit.inBlock, Exit.then]); refine bodyPost_ret (results_none rfl _ _ _) rfl ?_)
    exact ⟨by first | rfl | (simp [errW_none, errW_some] <;> rfl) | (simp [*, errW_none, errW_some] <;> rfl), by repeat (first | (with_reducible first | exact HI0.out | apply IsS123.alloc | apply IsS123.drewN | apply IsS123.drew | apply IsS123.set_1 | apply IsS123.set_2) | exact HI0.out), by repeat (first | (with_reducible first | exact HB.out | apply below_alloc | apply pw_below_drewN | apply below_drew1 | refine below_set ?_ (IsS123.ge HI0.out)) | exact HB.out), by repeat (first | (with_reducible first | exact HK.out | apply KeepBut.set_ | apply keep_drewN | apply keep_drew | apply keep_alloc) | exact HK.out)⟩

end Go.Proofs.Ythblincfnfpgbaa.Q
namespace Go.Proofs.Ythblincfnfpgbaa.Q
open Go.RowKit Go.Proofs.YthblincfnfpgbaaW.PrintWords Go.Proofs.YthblincfnfpgbaaW.PrintLast Go.Proofs.YthblincfnfpgbaaW.PrintMore
set_option linter.unusedVariables false
set_option linter.unusedSimpArgs false
/-- A number at a place: it (what of it was read), the place behind it or of the error, the error. -/
def numR : Nat → Int → Int → List Int → Int × Int × Int
  | _, at', v, [] => (v, at', 270)
  | i, at', v, c :: l => if (0 < i ∧ c = 0) ∨ (i = 9 ∧ 1 < c) then (v, at', 271) else if c < 128 then (v + (c % 128) * 2 ^ (7 * i), at' + 1, 0) else numR (i + 1) (at' + 1) (v + (c % 128) * 2 ^ (7 * i)) l
theorem pow_split (i : Nat) : (2 : Int) ^ (7 * (i + 1)) = 2 ^ (7 * i) * 128 := by
  rw [show 7 * (i + 1) = 7 * i + 7 by omega, Int.pow_add]; rfl
/-- The next seven bits. -/
theorem acc7 (i : Nat) (v y : Int) (hv0 : 0 ≤ v) (hv : v < 2 ^ (7 * i)) (hy0 : 0 ≤ y) (hy : y < 256) (hi : i < 9 ∨ (i = 9 ∧ y ≤ 1)) :
    bits .or .u64 v (IntKind.u64.wrap (IntKind.u64.wrap (bits .and .u8 y 127) * 2 ^ (7 * i))) = v + (y % 128) * 2 ^ (7 * i) := by
  rw [u8_and127 y hy0 hy, u64_wrap_id (y % 128) (by omega) (by omega)]
  have hP : (0 : Int) < 2 ^ (7 * i) := Int.pow_pos (by decide)
  have hb : y % 128 * 2 ^ (7 * i) < 18446744073709551616 ∧ v < 18446744073709551616 := by
    rcases hi with hi | ⟨rfl, hy1⟩
    · have h1 : (2 : Int) ^ (7 * i) ≤ 2 ^ 56 := by exact_mod_cast Nat.pow_le_pow_right (n := 2) (by decide) (show 7 * i ≤ 56 by omega)
      have h2 : y % 128 * 2 ^ (7 * i) ≤ 127 * 2 ^ 56 := Int.mul_le_mul (by omega) h1 (by omega) (by omega)
      have h3 : (2 : Int) ^ 56 = 72057594037927936 := by decide
      omega
    · have h3 : (2 : Int) ^ (7 * 9) = 9223372036854775808 := by decide
      rw [h3] at hv ⊢
      omega
  have h0 : 0 ≤ y % 128 * 2 ^ (7 * i) := Int.mul_nonneg (by omega) (by omega)
  rw [u64_wrap_id _ h0 hb.1]
  exact bits_join_low .u64 64 (by decide) wraps_u64 (7 * i) v _ hv0 hv (by have := hb.2; omega) h0 (Int.mul_emod_left ..) (by have := hb.1; omega)
theorem acc7_lt (i : Nat) (v y : Int) (hv0 : 0 ≤ v) (hv : v < 2 ^ (7 * i)) : 0 ≤ v + (y % 128) * 2 ^ (7 * i) ∧ v + (y % 128) * 2 ^ (7 * i) < 2 ^ (7 * (i + 1)) := by
  rw [pow_split]
  generalize (2 : Int) ^ (7 * i) = P at *
  have h1 : 0 ≤ y % 128 * P := Int.mul_nonneg (by omega) (by omega)
  have h2 : y % 128 * P ≤ 127 * P := Int.mul_le_mul_of_nonneg_right (by omega) (by omega)
  omega
/-- What the loop of number knows at a round's head: it goes on, or it has failed. -/
def RdSt (w0 w : World) (g : Nat) (bs : List Int) (R : Int × Int × Int) (kq i a : Nat) (v iv : Int) (w' : World) : Prop :=
  (iv = i ∧ kq + i = 10 ∧ 0 < kq ∧ a ≤ bs.length ∧ (0 ≤ v ∧ v < 2 ^ (7 * i)) ∧ R = numR i a v (bs.drop a) ∧ w' = w) ∨
  (R.1 = v ∧ R.2.2 ≠ 0 ∧ IsS123 w0 w' g bs R.2.1 R.2.2 ∧ Below w0.heap.size w0 w' ∧ KeepBut w w' g none)
theorem ret_u64 {a b : Int} (h : a = b) : Ending.returned (.int .u64 a) = .returned (.int .u64 b) := by rw [h]
set_option maxHeartbeats 8000000 in
set_option maxRecDepth 100000 in
theorem rdnum_c (g : Nat) (bs : List Int) (at' : Nat) (w0 w : World) (hI : IsS123 w0 w g bs at' 0) (hB : Below w0.heap.size w0 w) (ha : at' ≤ bs.length) (hbs : ∀ c ∈ bs, 0 ≤ c ∧ c < 256) :
    Calls Try.prog 61 #[.pointer (some ⟨g, 0, none⟩)] w fun e w' => e = .returned (.int .u64 (numR 0 at' 0 (bs.drop at')).1) ∧ IsS123 w0 w' g bs (numR 0 at' 0 (bs.drop at')).2.1 (numR 0 at' 0 (bs.drop at')).2.2 ∧ Below w0.heap.size w0 w' ∧ KeepBut w w' g none := by
  have hu := Try.underlying123
  obtain ⟨A, c, hb, hg, hC⟩ := hI
  have c0 := cellS123_0 hb
  have c1 := cellS123_1 hb
  have c2 := cellS123_2 hb
  have HH := Lib.hid hb
  have HG := Lib.hid hg
  have HC := Lib.hid hC
  have HB := Lib.hid hB
  clear hb hg hC hB
  obtain ⟨R, hR⟩ : ∃ R, R = numR 0 at' 0 (bs.drop at') := ⟨_, rfl⟩
  rw [← hR]
  have HE := Lib.hid hR
  clear hR
  go_enter Try.func61, Try.ntmps61
  go_wp2
  go_step3
  go_wp2
  go_step3
  go_wp2
  go_loopg [3, 4, 5] 10 (fun kq u y x w' => ∃ (i a : Nat) (v iv : Int), u = .int .u64 v ∧ y = .int .i64 a ∧ x = .int .i64 iv ∧ RdSt w0 w g bs R kq i a v iv w')
  case atStart => exact ⟨0, at', 0, _, rfl, rfl, rfl, .inl ⟨rfl, rfl, by omega, ha, ⟨by omega, by decide⟩, HE.out, rfl⟩⟩
  case round =>
    obtain ⟨i, a, v, iv, rfl, rfl, rfl, hst⟩ := hrel
    rcases hst with ⟨hiv, hk, hk0, hA, hv, hR, rfl⟩ | ⟨h1, h2, h3, h4, h5⟩
    rotate_left
    · have H1 := Lib.hid h1
      have H3 := Lib.hid h3
      have H4 := Lib.hid h4
      have H5 := Lib.hid h5
      obtain ⟨A', c', hb', -, -⟩ := h3
      have d2 := cellS123_2 hb'
      have e2 : (R.2.2 == 0) = false := by rw [beq_eq_false_iff_ne]; exact h2
      clear h1 h2 h4 h5 hb' c0 c1 c2
      go_wp2
      rw [Exit.noGoto_ret]
      go_ret
      exact ⟨ret_u64 H1.out.symm, H3.out, H4.out, H5.out⟩
    have HK := Lib.hid hk
    have HK0 := Lib.hid hk0
    have HA := Lib.hid hA
    have HV := Lib.hid hv
    have HR := Lib.hid hR
    have HIV := Lib.hid hiv
    have b4 : 0 ≤ iv := by omega
    have b5 : iv ≤ 9 := by omega
    clear hk hk0 hA hv hR hiv
    by_cases hlt : a < bs.length
    · have hne : ((a : Int) == (bs.length : Int)) = false := by rw [beq_eq_false_iff_ne]; omega
      obtain ⟨ad, rfl, hx⟩ := Kd.at_int (Kd.C_below HC.out HB.out) (a : Int) (by omega) (by omega)
      have b1 : (0 : Int) ≤ (a : Int) := by omega
      have b2 : (a : Int) < (bs.length : Int) := by omega
      rw [Int.toNat_natCast] at hx
      have hy := hbs (rd bs a) (by unfold rd; rw [Int.toNat_natCast, List.getD_eq_getElem?_getD, List.getElem?_eq_getElem hlt]; exact List.getElem_mem hlt)
      have HY : Hid (bs.drop a = rd bs a :: bs.drop (a + 1)) := Lib.hid (by rw [List.drop_eq_getElem_cons hlt]; unfold rd; rw [Int.toNat_natCast, List.getD_eq_getElem?_getD, List.getElem?_eq_getElem hlt]; rfl)
      generalize rd bs a = y at *
      have c3 : wr.frozen? ⟨g, 1, none⟩ = false := blk_frozen HH.out 1
      have b3 : (a : Int) ≤ 9223372036854775806 := by have := HC.out.2.1; omega
      obtain ⟨hy0, hy1⟩ := hy
      clear hlt
      by_cases hbad : (0 < i ∧ y = 0) ∨ (i = 9 ∧ 1 < y)
      · have HR' : Hid (R = (v, (a : Int), 271)) := Lib.hid (by rw [HR.out, HY.out, numR, if_pos hbad])
        have hc : (decide (0 < iv) = true ∧ (y == 0) = true) ∨ (decide (0 < iv) = true ∧ (y == 0) = false ∧ (iv == 9) = true ∧ decide (1 < y) = true) := by
          rcases hbad with ⟨h1, h2⟩ | ⟨h1, h2⟩
          · exact .inl ⟨decide_eq_true (by have := HIV.out; omega), by rw [beq_iff_eq]; exact h2⟩
          · exact .inr ⟨decide_eq_true (by have := HIV.out; omega), by rw [beq_eq_false_iff_ne]; omega, by rw [beq_iff_eq]; have := HIV.out; omega, decide_eq_true h2⟩
        clear hbad
        rcases hc with ⟨e1, e2⟩ | ⟨e1, e2, e3, e4⟩
        · obtain rfl : y = 0 := by simpa using e2
          go_wp2_with fail
          go_at_call 63
          refine (dump_reader_fail.calls g bs _ 0 _ _ (a : Int) 271 w0 _ ⟨_, _, HH.out, HG.out, HC.out⟩ HB.out rfl).mono ?_
          rintro e w1 ⟨rfl, h1, h2, h3⟩
          have H1 := Lib.hid h1
          have H2 := Lib.hid h2
          have H3 := Lib.hid h3
          clear h1 h2 h3
          go_wp2
          go_roundg (gk - 1)
          case measure => have := HK0.out; omega
          case rel => exact ⟨i, a, v, _, rfl, rfl, rfl, .inr ⟨by rw [HR'.out], by rw [HR'.out]; show (271 : Int) ≠ 0; decide, by rw [HR'.out]; exact H1.out, H2.out, H3.out⟩⟩
        · obtain rfl : iv = 9 := beq_iff_eq.1 e3
          go_wp2_with fail
          go_at_call 63
          refine (dump_reader_fail.calls g bs _ 0 _ _ (a : Int) 271 w0 _ ⟨_, _, HH.out, HG.out, HC.out⟩ HB.out rfl).mono ?_
          rintro e w1 ⟨rfl, h1, h2, h3⟩
          have H1 := Lib.hid h1
          have H2 := Lib.hid h2
          have H3 := Lib.hid h3
          clear h1 h2 h3
          go_wp2
          go_roundg (gk - 1)
          case measure => have := HK0.out; omega
          case rel => exact ⟨i, a, v, _, rfl, rfl, rfl, .inr ⟨by rw [HR'.out], by rw [HR'.out]; show (271 : Int) ≠ 0; decide, by rw [HR'.out]; exact H1.out, H2.out, H3.out⟩⟩
      · have hc : (decide (0 < iv) = false ∧ (iv == 9) = false) ∨ (decide (0 < iv) = true ∧ (y == 0) = false ∧ (iv == 9) = false) ∨ (decide (0 < iv) = true ∧ (y == 0) = false ∧ (iv == 9) = true ∧ decide (1 < y) = false) := by
          by_cases h1 : 0 < i
          · have h2 : y ≠ 0 := fun h => hbad (.inl ⟨h1, h⟩)
            by_cases h3 : i = 9
            · exact .inr (.inr ⟨decide_eq_true (by have := HIV.out; omega), by rw [beq_eq_false_iff_ne]; exact h2, by rw [beq_iff_eq]; have := HIV.out; omega, decide_eq_false (fun h => hbad (.inr ⟨h3, h⟩))⟩)
            · exact .inr (.inl ⟨decide_eq_true (by have := HIV.out; omega), by rw [beq_eq_false_iff_ne]; exact h2, by rw [beq_eq_false_iff_ne]; have := HIV.out; omega⟩)
          · exact .inl ⟨decide_eq_false (by have := HIV.out; omega), by rw [beq_eq_false_iff_ne]; have := HIV.out; omega⟩
        have hi9 : i ≤ 9 := by have := HK.out; have := HK0.out; omega
        have hin : i < 9 ∨ (i = 9 ∧ y ≤ 1) := by
          by_cases h3 : i = 9
          · exact .inr ⟨h3, by by_cases h : 1 < y; exact absurd (.inr ⟨h3, h⟩) hbad; omega⟩
          · exact .inl (by omega)
        have HAC := Lib.hid (show bits .or .u64 v (IntKind.u64.wrap (IntKind.u64.wrap (bits .and .u8 y 127) * 2 ^ (7 * iv).toNat)) = v + (y % 128) * 2 ^ (7 * i) by rw [show (7 * iv).toNat = 7 * i by have := HIV.out; omega]; exact acc7 i v y HV.out.1 HV.out.2 hy0 hy1 hin)
        have HAL := Lib.hid (acc7_lt i v y HV.out.1 HV.out.2)
        have HIN := Lib.hid hin
        have HBAD := Lib.hid hbad
        clear hbad hin
        rcases hc with ⟨e1, e3⟩ | ⟨e1, e2, e3⟩ | ⟨e1, e2, e3, e4⟩
        all_goals
          by_cases hl : y < 128
          · have HR' : Hid (R = (v + (y % 128) * 2 ^ (7 * i), (a : Int) + 1, 0)) := Lib.hid (by rw [HR.out, HY.out, numR, if_neg HBAD.out, if_pos hl])
            go_wp2
            rw [Exit.noGoto_ret]
            go_ret
            have HS : IsS123 w0 wr g bs at' 0 := ⟨_, _, HH.out, HG.out, HC.out⟩
            refine ⟨ret_u64 (by rw [HR'.out]; exact HAC.out), ?_, HB.out.setCell HG.out _, (KeepBut.refl wr g none).set_ _ _⟩
            rw [HR'.out]
            exact HS.set_1 _
          · have HR' : Hid (R = numR (i + 1) (((a + 1 : Nat) : Int)) (v + (y % 128) * 2 ^ (7 * i)) (bs.drop (a + 1))) := Lib.hid (by rw [HR.out, HY.out, numR, if_neg HBAD.out, if_neg hl]; rfl)
            have hl' : 128 ≤ y := by omega
            clear hl
            go_wp2
            go_roundg (gk - 1)
            case measure => have := HK0.out; omega
            case rel =>
              refine ⟨i + 1, a + 1, v + (y % 128) * 2 ^ (7 * i), ((i + 1 : Nat) : Int), ?_, ?_, ?_, .inl ⟨rfl, by have := HK.out; have := HK0.out; omega, ?_, by omega, HAL.out, HR'.out, rfl⟩⟩
              · rw [HAC.out]
              · first | rfl | go_num
              · rw [show ((i + 1 : Nat) : Int) = iv + 1 by have := HIV.out; omega]
              · have h1 := HIN.out; have := HK.out; omega
    · obtain rfl : a = bs.length := by have := HA.out; omega
      have HR' : Hid (R = (v, (bs.length : Int), 270)) := Lib.hid (by rw [HR.out, List.drop_of_length_le (Nat.le_refl _), numR])
      have hne : ((bs.length : Int) == (bs.length : Int)) = true := by rw [beq_iff_eq]
      go_wp2_with fail
      go_at_call 63
      refine (dump_reader_fail.calls g bs _ 0 _ _ (bs.length : Int) 270 w0 _ ⟨_, _, HH.out, HG.out, HC.out⟩ HB.out rfl).mono ?_
      rintro e w1 ⟨rfl, h1, h2, h3⟩
      have H1 := Lib.hid h1
      have H2 := Lib.hid h2
      have H3 := Lib.hid h3
      clear h1 h2 h3
      go_wp2
      rw [Exit.noGoto_ret]
      go_ret
      refine ⟨ret_u64 (by rw [HR'.out]), ?_, H2.out, H3.out⟩
      rw [HR'.out]
      exact H1.out
end Go.Proofs.Ythblincfnfpgbaa.Q
namespace Go.Proofs.Ythblincfnfpgbaa.Q
open Go.RowKit Go.Proofs.YthblincfnfpgbaaW.PrintWords Go.Proofs.YthblincfnfpgbaaW.PrintLast Go.Proofs.YthblincfnfpgbaaW.PrintMore
set_option linter.unusedVariables false
set_option linter.unusedSimpArgs false
/-- What all bytes begin with, from a place on: the place and the error then. -/
def startL : List Int → Int → List Int → Int × Int
  | [], _, _ => (4, 0)
  | _ :: _, i, [] => (i, 270)
  | m :: ms, i, c :: l => if c = m then startL ms (i + 1) l else (i, 271)
def startX (bs : List Int) : Int × Int := startL [83, 72, 85, 49] 0 bs
theorem drop_at (bs : List Int) (j : Nat) (h : j < bs.length) : bs.drop j = rd bs j :: bs.drop (j + 1) := by
  rw [List.drop_eq_getElem_cons h]; unfold rd; rw [Int.toNat_natCast, List.getD_eq_getElem?_getD, List.getElem?_eq_getElem h]; rfl
set_option maxHeartbeats 8000000 in
set_option maxRecDepth 100000 in
theorem start_c (g : Nat) (bs : List Int) (w0 w : World) (hI : IsS123 w0 w g bs 0 0) (hB : Below w0.heap.size w0 w) :
    Calls Try.prog 60 #[.pointer (some ⟨g, 0, none⟩)] w fun e w' => e = .returned (.tuple #[]) ∧ IsS123 w0 w' g bs (startX bs).1 (startX bs).2 ∧ Below w0.heap.size w0 w' ∧ KeepBut w w' g none := by
  have hu := Try.underlying123
  obtain ⟨R, hR⟩ : ∃ R, R = startX bs := ⟨_, rfl⟩
  rw [← hR]
  have HI := Lib.hid hI
  have HB := Lib.hid hB
  have HE := Lib.hid (show R = startL ([83, 72, 85, 49].drop 0) ((0 : Nat) : Int) (bs.drop 0) from hR)
  clear hI hB hR
  go_enter Try.func60, Try.ntmps60
  go_wp2
  go_loopg [3] 5 (fun kq x w' => ∃ j : Nat, x = .int .i64 j ∧ Hid (kq + j = 5) ∧ Hid (0 < kq) ∧ Hid (j ≤ bs.length) ∧ Hid (R = startL ([83, 72, 85, 49].drop j) j (bs.drop j)) ∧ Hid (IsS123 w0 w' g bs 0 0) ∧ Hid (Below w0.heap.size w0 w') ∧ Hid (KeepBut w w' g none))
  case atStart => exact ⟨0, rfl, Lib.hid rfl, Lib.hid (by omega), Lib.hid (by omega), HE, HI, HB, Lib.hid (KeepBut.refl _ _ _)⟩
  case round =>
    obtain ⟨j, rfl, HK, HK0, HJ, HR, HIr, HBr, HKr⟩ := hrel
    clear HI HB HE
    obtain ⟨A, c, hb, hg, hC⟩ := HIr.out
    have c0 := cellS123_0 hb
    have c1 := cellS123_1 hb
    have c2 := cellS123_2 hb
    have c3 : wr.frozen? ⟨g, 1, none⟩ = false := blk_frozen hb 1
    have HC := Lib.hid (Kd.C_below hC HBr.out)
    have hj : j = 0 ∨ j = 1 ∨ j = 2 ∨ j = 3 ∨ j = 4 := by have := HK.out; have := HK0.out; omega
    clear hb hg hC
    rcases hj with rfl | rfl | rfl | rfl | rfl
    · by_cases hl : 0 < bs.length
      · obtain ⟨ad, rfl, hx⟩ := Kd.at_int HC.out (0 : Int) (by omega) (by omega)
        have hn : ((0 : Int) == (bs.length : Int)) = false := by rw [beq_eq_false_iff_ne]; omega
        have b1 : (0 : Int) < (bs.length : Int) := by omega
        have hd := drop_at bs 0 hl
        have HRY : Hid (R = startL ([83, 72, 85, 49].drop 0) ((0 : Nat) : Int) (rd bs (0 : Int) :: bs.drop (0 + 1))) := Lib.hid (by rw [HR.out, hd]; rfl)
        have HJ1 := Lib.hid (show 0 + 1 ≤ bs.length by omega)
        clear hd HR
        have hx' : wr.cell? ad = some (.int .u8 (rd bs (0 : Int))) := by simpa [Addr.add] using hx
        clear hx
        have hm : ∀ h, (((⟨#[83, 72, 85, 49]⟩ : ByteArray)[0]'h).toNat : Int) = 83 := fun _ => rfl
        generalize rd bs (0 : Int) = y at *
        by_cases hy : y = 83
        · have HRR : Hid (R = startL ([83, 72, 85, 49].drop 1) ((1 : Nat) : Int) (bs.drop 1)) := Lib.hid (by rw [HRY.out, hy]; rfl)
          have y1 : (y == 83) = true := by rw [beq_iff_eq]; exact hy
          have y2 : (y != 83) = false := by rw [bne_eq_false_iff_eq]; exact hy
          obtain rfl := hy
          go_wp2
          go_quiet (fail)
          go_wp2
          go_roundg (gk - 1)
          case measure => have := HK0.out; omega
          case rel => exact ⟨1, rfl, Lib.hid (by have := HK.out; omega), Lib.hid (by have := HK.out; omega), HJ1, HRR, Lib.hid (HIr.out.drewN _), Lib.hid (pw_below_drewN HBr.out _), Lib.hid (keep_drewN HKr.out _)⟩
        · have HRR : Hid (R = (0, 271)) := Lib.hid (by rw [HRY.out]; show startL (83 :: _) _ _ = _; rw [startL, if_neg hy]; rfl)
          have y1 : (y == 83) = false := by rw [beq_eq_false_iff_ne]; exact hy
          have y2 : (y != 83) = true := by rw [bne_iff_ne]; exact hy
          clear hy
          go_wp2
          go_quiet (fail)
          go_wp2_with fail
          go_at_call 63
          refine (dump_reader_fail.calls g bs 0 0 271 0 0 271 w0 _ (by first | exact HIr.out | exact HIr.out.drewN _) (by first | exact HBr.out | exact pw_below_drewN HBr.out _) rfl).mono ?_
          rintro e w1 ⟨rfl, h1, h2, h3⟩
          have H1 := Lib.hid h1
          have H2 := Lib.hid h2
          have H3 := Lib.hid (show KeepBut w w1 g none from (by first | exact HKr.out.trans h3 (.inl rfl) | exact (keep_drewN HKr.out _).trans h3 (.inl rfl)))
          obtain ⟨A', c', hb', -, -⟩ := h1
          have d2 := cellS123_2 hb'
          clear h2 h3 hb'
          go_wp2
          refine bodyPost_ret (results_none rfl _ _ _) rfl ?_
          rw [HRR.out]
          exact ⟨rfl, H1.out, H2.out, H3.out⟩
      · have e0 : bs.drop 0 = [] := List.drop_of_length_le (by omega)
        have HRR : Hid (R = (0, 270)) := Lib.hid (by rw [HR.out, e0]; rfl)
        clear e0
        have HL : Hid (bs.length = 0) := Lib.hid (by have h := HJ.out; omega)
        have hn : ((0 : Int) == (bs.length : Int)) = true := by rw [beq_iff_eq]; have := HL.out; omega
        clear hl
        go_wp2_with fail
        go_at_call 63
        refine (dump_reader_fail.calls g bs 0 0 270 0 0 270 w0 _ (by first | exact HIr.out | exact HIr.out.drewN _) (by first | exact HBr.out | exact pw_below_drewN HBr.out _) rfl).mono ?_
        rintro e w1 ⟨rfl, h1, h2, h3⟩
        have H1 := Lib.hid h1
        have H2 := Lib.hid h2
        have H3 := Lib.hid (show KeepBut w w1 g none from (by first | exact HKr.out.trans h3 (.inl rfl) | exact (keep_drewN HKr.out _).trans h3 (.inl rfl)))
        obtain ⟨A', c', hb', -, -⟩ := h1
        have d2 := cellS123_2 hb'
        clear h2 h3 hb'
        go_wp2
        refine bodyPost_ret (results_none rfl _ _ _) rfl ?_
        rw [HRR.out]
        exact ⟨rfl, H1.out, H2.out, H3.out⟩
    · by_cases hl : 1 < bs.length
      · obtain ⟨ad, rfl, hx⟩ := Kd.at_int HC.out (1 : Int) (by omega) (by omega)
        have hn : ((1 : Int) == (bs.length : Int)) = false := by rw [beq_eq_false_iff_ne]; omega
        have b1 : (1 : Int) < (bs.length : Int) := by omega
        have hd := drop_at bs 1 hl
        have HRY : Hid (R = startL ([83, 72, 85, 49].drop 1) ((1 : Nat) : Int) (rd bs (1 : Int) :: bs.drop (1 + 1))) := Lib.hid (by rw [HR.out, hd]; rfl)
        have HJ1 := Lib.hid (show 1 + 1 ≤ bs.length by omega)
        clear hd HR
        have hx' : wr.cell? ⟨ad.block, ad.off + 1, none⟩ = some (.int .u8 (rd bs (1 : Int))) := by simpa [Addr.add] using hx
        clear hx
        have hm : ∀ h, (((⟨#[83, 72, 85, 49]⟩ : ByteArray)[1]'h).toNat : Int) = 72 := fun _ => rfl
        generalize rd bs (1 : Int) = y at *
        by_cases hy : y = 72
        · have HRR : Hid (R = startL ([83, 72, 85, 49].drop 2) ((2 : Nat) : Int) (bs.drop 2)) := Lib.hid (by rw [HRY.out, hy]; rfl)
          have y1 : (y == 72) = true := by rw [beq_iff_eq]; exact hy
          have y2 : (y != 72) = false := by rw [bne_eq_false_iff_eq]; exact hy
          obtain rfl := hy
          go_wp2
          go_quiet (fail)
          go_wp2
          go_roundg (gk - 1)
          case measure => have := HK0.out; omega
          case rel => exact ⟨2, rfl, Lib.hid (by have := HK.out; omega), Lib.hid (by have := HK.out; omega), HJ1, HRR, Lib.hid (HIr.out.drewN _), Lib.hid (pw_below_drewN HBr.out _), Lib.hid (keep_drewN HKr.out _)⟩
        · have HRR : Hid (R = (1, 271)) := Lib.hid (by rw [HRY.out]; show startL (72 :: _) _ _ = _; rw [startL, if_neg hy]; rfl)
          have y1 : (y == 72) = false := by rw [beq_eq_false_iff_ne]; exact hy
          have y2 : (y != 72) = true := by rw [bne_iff_ne]; exact hy
          clear hy
          go_wp2
          go_quiet (fail)
          go_wp2_with fail
          go_at_call 63
          refine (dump_reader_fail.calls g bs 0 0 271 1 1 271 w0 _ (by first | exact HIr.out | exact HIr.out.drewN _) (by first | exact HBr.out | exact pw_below_drewN HBr.out _) rfl).mono ?_
          rintro e w1 ⟨rfl, h1, h2, h3⟩
          have H1 := Lib.hid h1
          have H2 := Lib.hid h2
          have H3 := Lib.hid (show KeepBut w w1 g none from (by first | exact HKr.out.trans h3 (.inl rfl) | exact (keep_drewN HKr.out _).trans h3 (.inl rfl)))
          obtain ⟨A', c', hb', -, -⟩ := h1
          have d2 := cellS123_2 hb'
          clear h2 h3 hb'
          go_wp2
          refine bodyPost_ret (results_none rfl _ _ _) rfl ?_
          rw [HRR.out]
          exact ⟨rfl, H1.out, H2.out, H3.out⟩
      · have e0 : bs.drop 1 = [] := List.drop_of_length_le (by omega)
        have HRR : Hid (R = (1, 270)) := Lib.hid (by rw [HR.out, e0]; rfl)
        clear e0
        have HL : Hid (bs.length = 1) := Lib.hid (by have h := HJ.out; omega)
        have hn : ((1 : Int) == (bs.length : Int)) = true := by rw [beq_iff_eq]; have := HL.out; omega
        clear hl
        go_wp2_with fail
        go_at_call 63
        refine (dump_reader_fail.calls g bs 0 0 270 1 1 270 w0 _ (by first | exact HIr.out | exact HIr.out.drewN _) (by first | exact HBr.out | exact pw_below_drewN HBr.out _) rfl).mono ?_
        rintro e w1 ⟨rfl, h1, h2, h3⟩
        have H1 := Lib.hid h1
        have H2 := Lib.hid h2
        have H3 := Lib.hid (show KeepBut w w1 g none from (by first | exact HKr.out.trans h3 (.inl rfl) | exact (keep_drewN HKr.out _).trans h3 (.inl rfl)))
        obtain ⟨A', c', hb', -, -⟩ := h1
        have d2 := cellS123_2 hb'
        clear h2 h3 hb'
        go_wp2
        refine bodyPost_ret (results_none rfl _ _ _) rfl ?_
        rw [HRR.out]
        exact ⟨rfl, H1.out, H2.out, H3.out⟩
    · by_cases hl : 2 < bs.length
      · obtain ⟨ad, rfl, hx⟩ := Kd.at_int HC.out (2 : Int) (by omega) (by omega)
        have hn : ((2 : Int) == (bs.length : Int)) = false := by rw [beq_eq_false_iff_ne]; omega
        have b1 : (2 : Int) < (bs.length : Int) := by omega
        have hd := drop_at bs 2 hl
        have HRY : Hid (R = startL ([83, 72, 85, 49].drop 2) ((2 : Nat) : Int) (rd bs (2 : Int) :: bs.drop (2 + 1))) := Lib.hid (by rw [HR.out, hd]; rfl)
        have HJ1 := Lib.hid (show 2 + 1 ≤ bs.length by omega)
        clear hd HR
        have hx' : wr.cell? ⟨ad.block, ad.off + 2, none⟩ = some (.int .u8 (rd bs (2 : Int))) := by simpa [Addr.add] using hx
        clear hx
        have hm : ∀ h, (((⟨#[83, 72, 85, 49]⟩ : ByteArray)[2]'h).toNat : Int) = 85 := fun _ => rfl
        generalize rd bs (2 : Int) = y at *
        by_cases hy : y = 85
        · have HRR : Hid (R = startL ([83, 72, 85, 49].drop 3) ((3 : Nat) : Int) (bs.drop 3)) := Lib.hid (by rw [HRY.out, hy]; rfl)
          have y1 : (y == 85) = true := by rw [beq_iff_eq]; exact hy
          have y2 : (y != 85) = false := by rw [bne_eq_false_iff_eq]; exact hy
          obtain rfl := hy
          go_wp2
          go_quiet (fail)
          go_wp2
          go_roundg (gk - 1)
          case measure => have := HK0.out; omega
          case rel => exact ⟨3, rfl, Lib.hid (by have := HK.out; omega), Lib.hid (by have := HK.out; omega), HJ1, HRR, Lib.hid (HIr.out.drewN _), Lib.hid (pw_below_drewN HBr.out _), Lib.hid (keep_drewN HKr.out _)⟩
        · have HRR : Hid (R = (2, 271)) := Lib.hid (by rw [HRY.out]; show startL (85 :: _) _ _ = _; rw [startL, if_neg hy]; rfl)
          have y1 : (y == 85) = false := by rw [beq_eq_false_iff_ne]; exact hy
          have y2 : (y != 85) = true := by rw [bne_iff_ne]; exact hy
          clear hy
          go_wp2
          go_quiet (fail)
          go_wp2_with fail
          go_at_call 63
          refine (dump_reader_fail.calls g bs 0 0 271 2 2 271 w0 _ (by first | exact HIr.out | exact HIr.out.drewN _) (by first | exact HBr.out | exact pw_below_drewN HBr.out _) rfl).mono ?_
          rintro e w1 ⟨rfl, h1, h2, h3⟩
          have H1 := Lib.hid h1
          have H2 := Lib.hid h2
          have H3 := Lib.hid (show KeepBut w w1 g none from (by first | exact HKr.out.trans h3 (.inl rfl) | exact (keep_drewN HKr.out _).trans h3 (.inl rfl)))
          obtain ⟨A', c', hb', -, -⟩ := h1
          have d2 := cellS123_2 hb'
          clear h2 h3 hb'
          go_wp2
          refine bodyPost_ret (results_none rfl _ _ _) rfl ?_
          rw [HRR.out]
          exact ⟨rfl, H1.out, H2.out, H3.out⟩
      · have e0 : bs.drop 2 = [] := List.drop_of_length_le (by omega)
        have HRR : Hid (R = (2, 270)) := Lib.hid (by rw [HR.out, e0]; rfl)
        clear e0
        have HL : Hid (bs.length = 2) := Lib.hid (by have h := HJ.out; omega)
        have hn : ((2 : Int) == (bs.length : Int)) = true := by rw [beq_iff_eq]; have := HL.out; omega
        clear hl
        go_wp2_with fail
        go_at_call 63
        refine (dump_reader_fail.calls g bs 0 0 270 2 2 270 w0 _ (by first | exact HIr.out | exact HIr.out.drewN _) (by first | exact HBr.out | exact pw_below_drewN HBr.out _) rfl).mono ?_
        rintro e w1 ⟨rfl, h1, h2, h3⟩
        have H1 := Lib.hid h1
        have H2 := Lib.hid h2
        have H3 := Lib.hid (show KeepBut w w1 g none from (by first | exact HKr.out.trans h3 (.inl rfl) | exact (keep_drewN HKr.out _).trans h3 (.inl rfl)))
        obtain ⟨A', c', hb', -, -⟩ := h1
        have d2 := cellS123_2 hb'
        clear h2 h3 hb'
        go_wp2
        refine bodyPost_ret (results_none rfl _ _ _) rfl ?_
        rw [HRR.out]
        exact ⟨rfl, H1.out, H2.out, H3.out⟩
    · by_cases hl : 3 < bs.length
      · obtain ⟨ad, rfl, hx⟩ := Kd.at_int HC.out (3 : Int) (by omega) (by omega)
        have hn : ((3 : Int) == (bs.length : Int)) = false := by rw [beq_eq_false_iff_ne]; omega
        have b1 : (3 : Int) < (bs.length : Int) := by omega
        have hd := drop_at bs 3 hl
        have HRY : Hid (R = startL ([83, 72, 85, 49].drop 3) ((3 : Nat) : Int) (rd bs (3 : Int) :: bs.drop (3 + 1))) := Lib.hid (by rw [HR.out, hd]; rfl)
        have HJ1 := Lib.hid (show 3 + 1 ≤ bs.length by omega)
        clear hd HR
        have hx' : wr.cell? ⟨ad.block, ad.off + 3, none⟩ = some (.int .u8 (rd bs (3 : Int))) := by simpa [Addr.add] using hx
        clear hx
        have hm : ∀ h, (((⟨#[83, 72, 85, 49]⟩ : ByteArray)[3]'h).toNat : Int) = 49 := fun _ => rfl
        generalize rd bs (3 : Int) = y at *
        by_cases hy : y = 49
        · have HRR : Hid (R = startL ([83, 72, 85, 49].drop 4) ((4 : Nat) : Int) (bs.drop 4)) := Lib.hid (by rw [HRY.out, hy]; rfl)
          have y1 : (y == 49) = true := by rw [beq_iff_eq]; exact hy
          have y2 : (y != 49) = false := by rw [bne_eq_false_iff_eq]; exact hy
          obtain rfl := hy
          go_wp2
          go_quiet (fail)
          go_wp2
          go_roundg (gk - 1)
          case measure => have := HK0.out; omega
          case rel => exact ⟨4, rfl, Lib.hid (by have := HK.out; omega), Lib.hid (by have := HK.out; omega), HJ1, HRR, Lib.hid (HIr.out.drewN _), Lib.hid (pw_below_drewN HBr.out _), Lib.hid (keep_drewN HKr.out _)⟩
        · have HRR : Hid (R = (3, 271)) := Lib.hid (by rw [HRY.out]; show startL (49 :: _) _ _ = _; rw [startL, if_neg hy]; rfl)
          have y1 : (y == 49) = false := by rw [beq_eq_false_iff_ne]; exact hy
          have y2 : (y != 49) = true := by rw [bne_iff_ne]; exact hy
          clear hy
          go_wp2
          go_quiet (fail)
          go_wp2_with fail
          go_at_call 63
          refine (dump_reader_fail.calls g bs 0 0 271 3 3 271 w0 _ (by first | exact HIr.out | exact HIr.out.drewN _) (by first | exact HBr.out | exact pw_below_drewN HBr.out _) rfl).mono ?_
          rintro e w1 ⟨rfl, h1, h2, h3⟩
          have H1 := Lib.hid h1
          have H2 := Lib.hid h2
          have H3 := Lib.hid (show KeepBut w w1 g none from (by first | exact HKr.out.trans h3 (.inl rfl) | exact (keep_drewN HKr.out _).trans h3 (.inl rfl)))
          obtain ⟨A', c', hb', -, -⟩ := h1
          have d2 := cellS123_2 hb'
          clear h2 h3 hb'
          go_wp2
          refine bodyPost_ret (results_none rfl _ _ _) rfl ?_
          rw [HRR.out]
          exact ⟨rfl, H1.out, H2.out, H3.out⟩
      · have e0 : bs.drop 3 = [] := List.drop_of_length_le (by omega)
        have HRR : Hid (R = (3, 270)) := Lib.hid (by rw [HR.out, e0]; rfl)
        clear e0
        have HL : Hid (bs.length = 3) := Lib.hid (by have h := HJ.out; omega)
        have hn : ((3 : Int) == (bs.length : Int)) = true := by rw [beq_iff_eq]; have := HL.out; omega
        clear hl
        go_wp2_with fail
        go_at_call 63
        refine (dump_reader_fail.calls g bs 0 0 270 3 3 270 w0 _ (by first | exact HIr.out | exact HIr.out.drewN _) (by first | exact HBr.out | exact pw_below_drewN HBr.out _) rfl).mono ?_
        rintro e w1 ⟨rfl, h1, h2, h3⟩
        have H1 := Lib.hid h1
        have H2 := Lib.hid h2
        have H3 := Lib.hid (show KeepBut w w1 g none from (by first | exact HKr.out.trans h3 (.inl rfl) | exact (keep_drewN HKr.out _).trans h3 (.inl rfl)))
        obtain ⟨A', c', hb', -, -⟩ := h1
        have d2 := cellS123_2 hb'
        clear h2 h3 hb'
        go_wp2
        refine bodyPost_ret (results_none rfl _ _ _) rfl ?_
        rw [HRR.out]
        exact ⟨rfl, H1.out, H2.out, H3.out⟩
    · go_wp2
      go_end0
      rw [HR.out]
      exact ⟨rfl, HIr.out.set_1 4, HBr.out.setCell HIr.out.ge _, HKr.out.set_ _ _⟩
end Go.Proofs.Ythblincfnfpgbaa.Q
namespace Go.Proofs.Ythblincfnfpgbaa.Q
open Go.RowKit Go.Proofs.YthblincfnfpgbaaW.PrintWords Go.Proofs.YthblincfnfpgbaaW.PrintLast Go.Proofs.YthblincfnfpgbaaW.PrintMore
set_option linter.unusedVariables false
set_option linter.unusedSimpArgs false
/-- A number at a state of the reader. -/
def numX (bs : List Int) (at' e : Int) : Int × Int × Int := if e = 0 then numR 0 at' 0 (bs.drop at'.toNat) else (0, at', e)
theorem numR_err (l : List Int) : ∀ (i : Nat) (a v : Int), 0 ≤ (numR i a v l).2.2 := by
  induction l with
  | nil => intro i a v; rw [numR]; show (0 : Int) ≤ 270; decide
  | cons c l ih =>
    intro i a v
    rw [numR]
    split
    · show (0 : Int) ≤ 271; decide
    · split
      · exact Int.le_refl _
      · exact ih _ _ _
theorem numR_place (l : List Int) : ∀ (i : Nat) (a v : Int), a ≤ (numR i a v l).2.1 ∧ (numR i a v l).2.1 ≤ a + l.length ∧ ((numR i a v l).2.2 = 0 → a < (numR i a v l).2.1) := by
  induction l with
  | nil => intro i a v; rw [numR]; simp
  | cons c l ih =>
    intro i a v
    rw [numR]
    split
    · simp
      omega
    · split
      · simp
        omega
      · have := ih (i + 1) (a + 1) (v + c % 128 * 2 ^ (7 * i))
        simp only [List.length_cons]
        omega
theorem numR_val (l : List Int) (hl : ∀ c ∈ l, 0 ≤ c ∧ c < 256) : ∀ (i : Nat) (a v : Int), i ≤ 9 → 0 ≤ v → v < 2 ^ (7 * i) → 0 ≤ (numR i a v l).1 ∧ (numR i a v l).1 < 18446744073709551616 := by
  have big : ∀ (i : Nat) (v : Int), i ≤ 9 → v < 2 ^ (7 * i) → v < 18446744073709551616 := by
    intro i v hi hv
    have h1 : (2 : Int) ^ (7 * i) ≤ 2 ^ 63 := by exact_mod_cast Nat.pow_le_pow_right (n := 2) (by decide) (show 7 * i ≤ 63 by omega)
    have h3 : (2 : Int) ^ 63 = 9223372036854775808 := by decide
    omega
  induction l with
  | nil => intro i a v hi h0 h1; rw [numR]; exact ⟨h0, big i v hi h1⟩
  | cons c l ih =>
    intro i a v hi h0 h1
    have hc := hl c (by simp)
    have hn := acc7_lt i v c h0 h1
    rw [numR]
    split
    · exact ⟨h0, big i v hi h1⟩
    · rename_i hb
      split
      · refine ⟨hn.1, ?_⟩
        by_cases h9 : i = 9
        · subst h9
          have : c ≤ 1 := by by_cases h : 1 < c; exact absurd (.inr ⟨rfl, h⟩) hb; omega
          have h3 : (2 : Int) ^ (7 * 9) = 9223372036854775808 := by decide
          rw [h3] at h1 ⊢
          show v + c % 128 * 9223372036854775808 < 18446744073709551616
          omega
        · exact big (i + 1) _ (by omega) hn.2
      · rename_i h128
        have h9 : i ≠ 9 := fun h => hb (.inr ⟨h, by omega⟩)
        exact ih (fun d hd => hl d (by simp [hd])) (i + 1) (a + 1) _ (by omega) hn.1 hn.2
set_option maxHeartbeats 4000000 in
set_option maxRecDepth 100000 in
theorem rdnumX_c (g : Nat) (bs : List Int) (at' e : Int) (w0 w : World) (hI : IsS123 w0 w g bs at' e) (hB : Below w0.heap.size w0 w) (ha : e = 0 → 0 ≤ at' ∧ at' ≤ bs.length) (hbs : ∀ c ∈ bs, 0 ≤ c ∧ c < 256) :
    Calls Try.prog 61 #[.pointer (some ⟨g, 0, none⟩)] w fun en w' => en = .returned (.int .u64 (numX bs at' e).1) ∧ IsS123 w0 w' g bs (numX bs at' e).2.1 (numX bs at' e).2.2 ∧ Below w0.heap.size w0 w' ∧ KeepBut w w' g none := by
  by_cases he : e = 0
  · subst he
    obtain ⟨n, rfl⟩ := Int.eq_ofNat_of_zero_le (ha rfl).1
    have := rdnum_c g bs n w0 w hI hB (by have := (ha rfl).2; omega) hbs
    simpa [numX] using this
  · have e1 : numX bs at' e = (0, at', e) := by unfold numX; rw [if_neg he]
    rw [e1]
    have hI' := Lib.hid hI
    obtain ⟨A, c, hb, hg, hC⟩ := hI
    have c1 := cellS123_1 hb
    have c2 := cellS123_2 hb
    have HB := Lib.hid hB
    have e2 : (e == 0) = false := by rw [beq_eq_false_iff_ne]; exact he
    clear hb hg hC hB e1 ha he
    go_enter Try.func61, Try.ntmps61
    go_wp2
    go_step3
    go_wp2
    go_step3
    go_wp2
    refine wp_loop_rounds 1 ?_
    rw [rounds_succ]
    go_wp2
    rw [Exit.noGoto_ret]
    go_ret
    exact ⟨rfl, hI'.out, HB.out, KeepBut.refl _ _ _⟩
/-- A pair behind another one, at a state of the reader: its key and value, the state then. -/
def pairX (bs : List Int) (at' e : Int) (last : Int) (first : Bool) : (Int × Int) × Int × Int :=
  let d := numX bs at' e
  let s : Int × Int := if first = false ∧ d.2.2 = 0 ∧ (d.1 = 0 ∨ IntKind.u64.wrap (last + d.1) < last) then (at', 271) else (d.2.1, d.2.2)
  let v := numX bs s.1 s.2
  ((IntKind.u64.wrap (last + d.1), v.1), v.2.1, v.2.2)
theorem numX_ok {bs : List Int} {at' e : Int} (ha : e = 0 → 0 ≤ at' ∧ at' ≤ bs.length) : (numX bs at' e).2.2 = 0 → 0 ≤ (numX bs at' e).2.1 ∧ (numX bs at' e).2.1 ≤ bs.length := by
  unfold numX
  split
  · rename_i he
    intro _
    have h1 := numR_place (bs.drop at'.toNat) 0 at' 0
    have h2 := ha he
    rw [List.length_drop] at h1
    omega
  · rename_i he
    intro h
    exact absurd h he
theorem numX_val {bs : List Int} {at' e : Int} (hbs : ∀ c ∈ bs, 0 ≤ c ∧ c < 256) : 0 ≤ (numX bs at' e).1 ∧ (numX bs at' e).1 < 18446744073709551616 := by
  unfold numX
  split
  · exact numR_val _ (fun c hc => hbs c (List.mem_of_mem_drop hc)) 0 at' 0 (by omega) (by omega) (by decide)
  · simp
theorem numX_stay {bs : List Int} {at' e : Int} (he : e ≠ 0) : numX bs at' e = (0, at', e) := by unfold numX; rw [if_neg he]
set_option maxHeartbeats 4000000 in
set_option maxRecDepth 100000 in
theorem pair_c (g : Nat) (bs : List Int) (at' e k v : Int) (first : Bool) (w0 w : World) (hI : IsS123 w0 w g bs at' e) (hB : Below w0.heap.size w0 w) (ha : e = 0 → 0 ≤ at' ∧ at' ≤ bs.length) (hbs : ∀ c ∈ bs, 0 ≤ c ∧ c < 256) (hk0 : 0 ≤ k) (hk1 : k < 18446744073709551616) :
    Calls Try.prog 62 #[.pointer (some ⟨g, 0, none⟩), .agg #[.int .u64 k, .int .u64 v], .bool first] w fun en w' => en = .returned (.agg #[.int .u64 (pairX bs at' e k first).1.1, .int .u64 (pairX bs at' e k first).1.2]) ∧ IsS123 w0 w' g bs (pairX bs at' e k first).2.1 (pairX bs at' e k first).2.2 ∧ Below w0.heap.size w0 w' ∧ KeepBut w w' g none := by
  have hu82 := Try.underlying82
  have hu123 := Try.underlying123
  have HI := Lib.hid hI
  have hgl := hI.lt
  obtain ⟨A, c, hb, hg, hC⟩ := hI
  have c1 := cellS123_1 hb
  have HB := Lib.hid hB
  have HBS := Lib.hid hbs
  have HA := Lib.hid ha
  clear hb hg hC hB hbs ha
  obtain ⟨R, hR⟩ : ∃ R, R = pairX bs at' e k first := ⟨_, rfl⟩
  rw [← hR]
  have HR0 := Lib.hid hR
  clear hR
  go_enter Try.func62, Try.ntmps62
  go_wp2_with fail
  go_at_call 61
  refine (rdnumX_c g bs at' e w0 _ ((HI.out.alloc _).alloc _) ((HB.out.alloc HB.out.size _).alloc (by have := HB.out.size; simp; omega) _) HA.out HBS.out).mono ?_
  rintro en w2 ⟨rfl, h1, h2, h3⟩
  have x4 : w2.heap[w.heap.size]? = some (.cells #[.int .u64 k, .int .u64 v] 82 (0, 0)) := h3.blk (blk_alloc (heap_alloc_new w _) _) (by omega) (by simp)
  have x6 : w2.heap[w.heap.size + 1]? = some (.cells #[.int .u64 0, .int .u64 0] 82 (0, 0)) := h3.blk (by have := heap_alloc_new (w.alloc (.cells #[.int .u64 k, .int .u64 v] 82)) (.cells #[.int .u64 0, .int .u64 0] 82); simpa using this) (by omega) (by simp)
  have H1 := Lib.hid h1
  have H2 := Lib.hid h2
  have H3 := Lib.hid (show KeepBut w w2 g none from (keep_alloc (keep_alloc (KeepBut.refl w g none) _) _).trans h3 (.inl rfl))
  have X4 := Lib.hid x4
  have X6 := Lib.hid x6
  obtain ⟨A', c', hb', -, -⟩ := h1
  have d2 := cellS123_2 hb'
  have hk : w2.cell? ⟨w.heap.size, 0, none⟩ = some (.int .u64 k) := (blk_cell x4 0).trans rfl
  have hv := numX_val (at' := at') (e := e) HBS.out
  have HO := Lib.hid (numX_ok (bs := bs) (e := e) HA.out)
  clear h2 h3 x4 x6 hb'
  have hR := HR0.out
  unfold pairX at hR
  dsimp only at hR
  clear HR0
  generalize numX bs at' e = N at *
  obtain ⟨d, a1, e1⟩ := N
  dsimp only at *
  obtain ⟨hd0, hd1⟩ := hv
  obtain ⟨s, hs⟩ : ∃ s : Int × Int, s = if first = false ∧ e1 = 0 ∧ (d = 0 ∨ IntKind.u64.wrap (k + d) < k) then (at', 271) else (a1, e1) := ⟨_, rfl⟩
  rw [← hs] at hR
  have HR := Lib.hid hR
  have HS := Lib.hid hs
  clear hR hs
  have hc : (first = true ∧ s = (a1, e1)) ∨ (first = false ∧ (e1 == 0) = false ∧ s = (a1, e1)) ∨ (first = false ∧ e1 = 0 ∧ (d == 0) = true ∧ s = (at', 271)) ∨ (first = false ∧ e1 = 0 ∧ (d == 0) = false ∧ IntKind.u64.wrap (k + d) < k ∧ s = (at', 271)) ∨ (first = false ∧ e1 = 0 ∧ (d == 0) = false ∧ ¬ IntKind.u64.wrap (k + d) < k ∧ s = (a1, 0)) := by
    have h := HS.out
    by_cases h1 : first = false
    · by_cases h2 : e1 = 0
      · by_cases h3 : d = 0
        · exact .inr (.inr (.inl ⟨h1, h2, by rw [beq_iff_eq]; exact h3, by rw [h, if_pos ⟨h1, h2, .inl h3⟩]⟩))
        · by_cases h4 : IntKind.u64.wrap (k + d) < k
          · exact .inr (.inr (.inr (.inl ⟨h1, h2, by rw [beq_eq_false_iff_ne]; exact h3, h4, by rw [h, if_pos ⟨h1, h2, .inr h4⟩]⟩)))
          · exact .inr (.inr (.inr (.inr ⟨h1, h2, by rw [beq_eq_false_iff_ne]; exact h3, h4, by rw [h, if_neg (fun hh => hh.2.2.elim h3 h4), h2]⟩)))
      · exact .inr (.inl ⟨h1, by rw [beq_eq_false_iff_ne]; exact h2, by rw [h, if_neg (fun hh => h2 hh.2.1)]⟩)
    · exact .inl ⟨by simpa using h1, by rw [h, if_neg (fun hh => h1 hh.1)]⟩
  rcases hc with ⟨rfl, rfl⟩ | ⟨rfl, q2, rfl⟩ | ⟨rfl, rfl, q3, rfl⟩ | ⟨rfl, rfl, q3, q4, rfl⟩ | ⟨rfl, rfl, q3, q4, rfl⟩
  · go_wp2_with fail
    have k60 : w2.cell? ⟨w.heap.size + 1, 0, none⟩ = some (.int .u64 0) := (blk_cell X6.out 0).trans rfl
    have k61 : w2.cell? ⟨w.heap.size + 1, 1, none⟩ = some (.int .u64 0) := (blk_cell X6.out 1).trans rfl
    have f60 : w2.frozen? ⟨w.heap.size + 1, 0, none⟩ = false := blk_frozen X6.out 0
    have f61 : w2.frozen? ⟨w.heap.size + 1, 1, none⟩ = false := blk_frozen X6.out 1
    go_region_with ((go_at_call 61; refine (rdnumX_c g bs a1 e1 w0 _ (by first | exact H1.out | exact H1.out.drew) (by exact H2.out.drew) (by first | exact HO.out | exact fun _ => HO.out trivial) HBS.out).mono ?_; rintro en w5 ⟨rfl, h1, h2, h3⟩; have x6' := h3.blk X6.out (by omega) (by simp); have hk5 := keep_cell h3 hk (by simp; omega); have k65 : w5.cell? ⟨w.heap.size + 1, 0, none⟩ = some (.int .u64 0) := (blk_cell x6' 0).trans rfl; have k65' : w5.cell? ⟨w.heap.size + 1, 1, none⟩ = some (.int .u64 0) := (blk_cell x6' 1).trans rfl; have f65 := blk_frozen x6' 0; have f65' := blk_frozen x6' 1; have J1 := Lib.hid h1; have J2 := Lib.hid h2; have J3 := Lib.hid h3; have J6 := Lib.hid x6'; clear h1 h2 h3 x6'))
    all_goals go_wp2_with fail
    all_goals
      refine bodyPost_ret (v := .agg #[.int .u64 (IntKind.u64.wrap (k + d)), .int .u64 (numX bs (a1) (e1)).1]) (by simp [results, Try.results62, go_sem, k65, k65', f65, f65', J6.out]) rfl ?_
      have hRR := HR.out
      rw [hRR]
      have hng : g ≠ w.heap.size + 1 := by omega
      exact ⟨rfl, (J1.out.far (p := ⟨w.heap.size + 1, 0, none⟩) hng _).far (p := ⟨w.heap.size + 1, 1, none⟩) hng _, (J2.out.setCell (by have := HB.out.size; simp; omega) _).setCell (by have := HB.out.size; simp; omega) _, keep_far (keep_far (H3.out.trans J3.out (.inl rfl)) (p := ⟨w.heap.size + 1, 0, none⟩) (by simp) _) (p := ⟨w.heap.size + 1, 1, none⟩) (by simp) _⟩
  · go_wp2_with fail
    have k60 : w2.cell? ⟨w.heap.size + 1, 0, none⟩ = some (.int .u64 0) := (blk_cell X6.out 0).trans rfl
    have k61 : w2.cell? ⟨w.heap.size + 1, 1, none⟩ = some (.int .u64 0) := (blk_cell X6.out 1).trans rfl
    have f60 : w2.frozen? ⟨w.heap.size + 1, 0, none⟩ = false := blk_frozen X6.out 0
    have f61 : w2.frozen? ⟨w.heap.size + 1, 1, none⟩ = false := blk_frozen X6.out 1
    go_region_with ((go_at_call 61; refine (rdnumX_c g bs a1 e1 w0 _ (by first | exact H1.out | exact H1.out.drew) (by exact H2.out.drew) (by first | exact HO.out | exact fun _ => HO.out trivial) HBS.out).mono ?_; rintro en w5 ⟨rfl, h1, h2, h3⟩; have x6' := h3.blk X6.out (by omega) (by simp); have hk5 := keep_cell h3 hk (by simp; omega); have k65 : w5.cell? ⟨w.heap.size + 1, 0, none⟩ = some (.int .u64 0) := (blk_cell x6' 0).trans rfl; have k65' : w5.cell? ⟨w.heap.size + 1, 1, none⟩ = some (.int .u64 0) := (blk_cell x6' 1).trans rfl; have f65 := blk_frozen x6' 0; have f65' := blk_frozen x6' 1; have J1 := Lib.hid h1; have J2 := Lib.hid h2; have J3 := Lib.hid h3; have J6 := Lib.hid x6'; clear h1 h2 h3 x6'))
    all_goals go_wp2_with fail
    all_goals
      refine bodyPost_ret (v := .agg #[.int .u64 (IntKind.u64.wrap (k + d)), .int .u64 (numX bs (a1) (e1)).1]) (by simp [results, Try.results62, go_sem, k65, k65', f65, f65', J6.out]) rfl ?_
      have hRR := HR.out
      rw [hRR]
      have hng : g ≠ w.heap.size + 1 := by omega
      exact ⟨rfl, (J1.out.far (p := ⟨w.heap.size + 1, 0, none⟩) hng _).far (p := ⟨w.heap.size + 1, 1, none⟩) hng _, (J2.out.setCell (by have := HB.out.size; simp; omega) _).setCell (by have := HB.out.size; simp; omega) _, keep_far (keep_far (H3.out.trans J3.out (.inl rfl)) (p := ⟨w.heap.size + 1, 0, none⟩) (by simp) _) (p := ⟨w.heap.size + 1, 1, none⟩) (by simp) _⟩
  · go_wp2_with fail
    go_at_call 63
    refine (dump_reader_fail.calls g bs _ 0 271 at' at' 271 w0 _ H1.out H2.out rfl).mono ?_
    rintro en w3 ⟨rfl, h1, h2, h3⟩
    have x6 := h3.blk X6.out (by omega) (by simp)
    have hk3 := keep_cell h3 hk (by simp; omega)
    replace X6 := Lib.hid x6
    replace H1 := Lib.hid h1
    replace H2 := Lib.hid h2
    replace H3 := Lib.hid (H3.out.trans h3 (.inl rfl))
    have HO := Lib.hid (show (271 : Int) = 0 → 0 ≤ at' ∧ at' ≤ bs.length from fun h => absurd h (by decide))
    clear h1 h2 h3 x6 hk d2
    have hk := hk3
    clear hk3
    go_wp2_with fail
    have k60 : w3.cell? ⟨w.heap.size + 1, 0, none⟩ = some (.int .u64 0) := (blk_cell X6.out 0).trans rfl
    have k61 : w3.cell? ⟨w.heap.size + 1, 1, none⟩ = some (.int .u64 0) := (blk_cell X6.out 1).trans rfl
    have f60 : w3.frozen? ⟨w.heap.size + 1, 0, none⟩ = false := blk_frozen X6.out 0
    have f61 : w3.frozen? ⟨w.heap.size + 1, 1, none⟩ = false := blk_frozen X6.out 1
    go_region_with ((go_at_call 61; refine (rdnumX_c g bs at' 271 w0 _ (by first | exact H1.out | exact H1.out.drew) (by exact H2.out.drew) (by first | exact HO.out | exact fun _ => HO.out trivial) HBS.out).mono ?_; rintro en w5 ⟨rfl, h1, h2, h3⟩; have x6' := h3.blk X6.out (by omega) (by simp); have hk5 := keep_cell h3 hk (by simp; omega); have k65 : w5.cell? ⟨w.heap.size + 1, 0, none⟩ = some (.int .u64 0) := (blk_cell x6' 0).trans rfl; have k65' : w5.cell? ⟨w.heap.size + 1, 1, none⟩ = some (.int .u64 0) := (blk_cell x6' 1).trans rfl; have f65 := blk_frozen x6' 0; have f65' := blk_frozen x6' 1; have J1 := Lib.hid h1; have J2 := Lib.hid h2; have J3 := Lib.hid h3; have J6 := Lib.hid x6'; clear h1 h2 h3 x6'))
    all_goals go_wp2_with fail
    all_goals
      refine bodyPost_ret (v := .agg #[.int .u64 (IntKind.u64.wrap (k + d)), .int .u64 (numX bs (at') (271)).1]) (by simp [results, Try.results62, go_sem, k65, k65', f65, f65', J6.out]) rfl ?_
      have hRR := HR.out
      rw [hRR]
      have hng : g ≠ w.heap.size + 1 := by omega
      exact ⟨rfl, (J1.out.far (p := ⟨w.heap.size + 1, 0, none⟩) hng _).far (p := ⟨w.heap.size + 1, 1, none⟩) hng _, (J2.out.setCell (by have := HB.out.size; simp; omega) _).setCell (by have := HB.out.size; simp; omega) _, keep_far (keep_far (H3.out.trans J3.out (.inl rfl)) (p := ⟨w.heap.size + 1, 0, none⟩) (by simp) _) (p := ⟨w.heap.size + 1, 1, none⟩) (by simp) _⟩
  · go_wp2_with fail
    go_at_call 63
    refine (dump_reader_fail.calls g bs _ 0 271 at' at' 271 w0 _ H1.out H2.out rfl).mono ?_
    rintro en w3 ⟨rfl, h1, h2, h3⟩
    have x6 := h3.blk X6.out (by omega) (by simp)
    have hk3 := keep_cell h3 hk (by simp; omega)
    replace X6 := Lib.hid x6
    replace H1 := Lib.hid h1
    replace H2 := Lib.hid h2
    replace H3 := Lib.hid (H3.out.trans h3 (.inl rfl))
    have HO := Lib.hid (show (271 : Int) = 0 → 0 ≤ at' ∧ at' ≤ bs.length from fun h => absurd h (by decide))
    clear h1 h2 h3 x6 hk d2
    have hk := hk3
    clear hk3
    go_wp2_with fail
    have k60 : w3.cell? ⟨w.heap.size + 1, 0, none⟩ = some (.int .u64 0) := (blk_cell X6.out 0).trans rfl
    have k61 : w3.cell? ⟨w.heap.size + 1, 1, none⟩ = some (.int .u64 0) := (blk_cell X6.out 1).trans rfl
    have f60 : w3.frozen? ⟨w.heap.size + 1, 0, none⟩ = false := blk_frozen X6.out 0
    have f61 : w3.frozen? ⟨w.heap.size + 1, 1, none⟩ = false := blk_frozen X6.out 1
    go_region_with ((go_at_call 61; refine (rdnumX_c g bs at' 271 w0 _ (by first | exact H1.out | exact H1.out.drew) (by exact H2.out.drew) (by first | exact HO.out | exact fun _ => HO.out trivial) HBS.out).mono ?_; rintro en w5 ⟨rfl, h1, h2, h3⟩; have x6' := h3.blk X6.out (by omega) (by simp); have hk5 := keep_cell h3 hk (by simp; omega); have k65 : w5.cell? ⟨w.heap.size + 1, 0, none⟩ = some (.int .u64 0) := (blk_cell x6' 0).trans rfl; have k65' : w5.cell? ⟨w.heap.size + 1, 1, none⟩ = some (.int .u64 0) := (blk_cell x6' 1).trans rfl; have f65 := blk_frozen x6' 0; have f65' := blk_frozen x6' 1; have J1 := Lib.hid h1; have J2 := Lib.hid h2; have J3 := Lib.hid h3; have J6 := Lib.hid x6'; clear h1 h2 h3 x6'))
    all_goals go_wp2_with fail
    all_goals
      refine bodyPost_ret (v := .agg #[.int .u64 (IntKind.u64.wrap (k + d)), .int .u64 (numX bs (at') (271)).1]) (by simp [results, Try.results62, go_sem, k65, k65', f65, f65', J6.out]) rfl ?_
      have hRR := HR.out
      rw [hRR]
      have hng : g ≠ w.heap.size + 1 := by omega
      exact ⟨rfl, (J1.out.far (p := ⟨w.heap.size + 1, 0, none⟩) hng _).far (p := ⟨w.heap.size + 1, 1, none⟩) hng _, (J2.out.setCell (by have := HB.out.size; simp; omega) _).setCell (by have := HB.out.size; simp; omega) _, keep_far (keep_far (H3.out.trans J3.out (.inl rfl)) (p := ⟨w.heap.size + 1, 0, none⟩) (by simp) _) (p := ⟨w.heap.size + 1, 1, none⟩) (by simp) _⟩
  · go_wp2_with fail
    have k60 : w2.cell? ⟨w.heap.size + 1, 0, none⟩ = some (.int .u64 0) := (blk_cell X6.out 0).trans rfl
    have k61 : w2.cell? ⟨w.heap.size + 1, 1, none⟩ = some (.int .u64 0) := (blk_cell X6.out 1).trans rfl
    have f60 : w2.frozen? ⟨w.heap.size + 1, 0, none⟩ = false := blk_frozen X6.out 0
    have f61 : w2.frozen? ⟨w.heap.size + 1, 1, none⟩ = false := blk_frozen X6.out 1
    go_region_with ((go_at_call 61; refine (rdnumX_c g bs a1 0 w0 _ (by first | exact H1.out | exact H1.out.drew) (by exact H2.out.drew) (by first | exact HO.out | exact fun _ => HO.out trivial) HBS.out).mono ?_; rintro en w5 ⟨rfl, h1, h2, h3⟩; have x6' := h3.blk X6.out (by omega) (by simp); have hk5 := keep_cell h3 hk (by simp; omega); have k65 : w5.cell? ⟨w.heap.size + 1, 0, none⟩ = some (.int .u64 0) := (blk_cell x6' 0).trans rfl; have k65' : w5.cell? ⟨w.heap.size + 1, 1, none⟩ = some (.int .u64 0) := (blk_cell x6' 1).trans rfl; have f65 := blk_frozen x6' 0; have f65' := blk_frozen x6' 1; have J1 := Lib.hid h1; have J2 := Lib.hid h2; have J3 := Lib.hid h3; have J6 := Lib.hid x6'; clear h1 h2 h3 x6'))
    all_goals go_wp2_with fail
    all_goals
      refine bodyPost_ret (v := .agg #[.int .u64 (IntKind.u64.wrap (k + d)), .int .u64 (numX bs (a1) (0)).1]) (by simp [results, Try.results62, go_sem, k65, k65', f65, f65', J6.out]) rfl ?_
      have hRR := HR.out
      rw [hRR]
      have hng : g ≠ w.heap.size + 1 := by omega
      exact ⟨rfl, (J1.out.far (p := ⟨w.heap.size + 1, 0, none⟩) hng _).far (p := ⟨w.heap.size + 1, 1, none⟩) hng _, (J2.out.setCell (by have := HB.out.size; simp; omega) _).setCell (by have := HB.out.size; simp; omega) _, keep_far (keep_far (H3.out.trans J3.out (.inl rfl)) (p := ⟨w.heap.size + 1, 0, none⟩) (by simp) _) (p := ⟨w.heap.size + 1, 1, none⟩) (by simp) _⟩
end Go.Proofs.Ythblincfnfpgbaa.Q
namespace Go.Proofs.Ythblincfnfpgbaa.Q
open Go.RowKit Go.Proofs.YthblincfnfpgbaaW.PrintWords
set_option linter.unusedVariables false
set_option linter.unusedSimpArgs false
theorem part5 (xs : Array Value) (i : Nat) (v : Value) (h : xs[i]? = some v) (w : World) : (part 5 xs i).run Try.prog w = .ok v w := by
  obtain ⟨hi, hv⟩ := Array.getElem?_eq_some_iff.1 h
  simp [part, isAgg, run_underlying Try.underlying5, h]
theorem items_cons (d : Nat) (xs ys : Array Value) (i : Nat) (is : List Nat) (a b : Int) (w : World) (h1 : xs[i * 1]? = some (.int .u8 a)) (h2 : ys[i * 1]? = some (.int .u8 b)) (r : Bool) (h : (Op.eqItems (d + 1) 5 1 xs ys is).run Try.prog w = .ok r w) :
    (Op.eqItems (d + 1) 5 1 xs ys (i :: is)).run Try.prog w = .ok ((a == b) && r) w := by
  rw [Op.eqItems]
  simp only [Sem.run_bind, part5 _ _ _ h1, part5 _ _ _ h2, Result.andThen_ok, run_equalIn_int w d 5 .u8 .u8 a b Try.underlying5]
  cases a == b
  · simp
  · simpa using h
theorem eq_arr4 (y0 y1 y2 y3 f0 f1 f2 f3 : Int) (w : World) : Sem.run Try.prog (Op.equalIn 10000 117 (.agg #[.int .u8 y0, .int .u8 y1, .int .u8 y2, .int .u8 y3]) (.agg #[.int .u8 f0, .int .u8 f1, .int .u8 f2, .int .u8 f3])) w = .ok ([y0, y1, y2, y3] == [f0, f1, f2, f3]) w := by
  obtain ⟨i0, hi, -, -, -⟩ := info_parts info5
  have e := run_equalIn_array (P := Try.prog) w 9999 #[.int .u8 y0, .int .u8 y1, .int .u8 y2, .int .u8 y3] #[.int .u8 f0, .int .u8 f1, .int .u8 f2, .int .u8 f3] Try.underlying117 hi
  have hc : Try.prog.cellsOf 5 = 1 := by kernel_rfl
  rw [hc] at e
  rw [show (10000 : Nat) = 9999 + 1 from rfl]
  refine e.trans ?_
  have h := items_cons 9998 #[.int .u8 y0, .int .u8 y1, .int .u8 y2, .int .u8 y3] #[.int .u8 f0, .int .u8 f1, .int .u8 f2, .int .u8 f3] 0 [1, 2, 3] y0 f0 w rfl rfl _
    (items_cons 9998 _ _ 1 [2, 3] y1 f1 w rfl rfl _ (items_cons 9998 _ _ 2 [3] y2 f2 w rfl rfl _ (items_cons 9998 _ _ 3 [] y3 f3 w rfl rfl true (by simp [Op.eqItems]))))
  rw [show List.range 4 = [0, 1, 2, 3] from rfl]
  refine h.trans ?_
  congr 1
end Go.Proofs.Ythblincfnfpgbaa.Q
namespace Go.Proofs.Ythblincfnfpgbaa.Q
open Go.RowKit Go.Proofs.YthblincfnfpgbaaW.PrintWords Go.Proofs.YthblincfnfpgbaaW.PrintLast Go.Proofs.YthblincfnfpgbaaW.PrintMore
set_option linter.unusedVariables false
set_option linter.unusedSimpArgs false
/-- The pairs, so many at most, at a state of the reader; the state then. -/
def decL (bs : List Int) : Nat → Int → Int → Int → Int → List S82 → List S82 × Int × Int
  | 0, _, at', e, _, acc => (acc, at', e)
  | k + 1, n, at', e, last, acc => if 0 < n ∧ e = 0 then decL bs k (IntKind.u64.wrap (n - 1)) (pairX bs at' e last ((acc.length : Int) == 0)).2.1 (pairX bs at' e last ((acc.length : Int) == 0)).2.2 (pairX bs at' e last ((acc.length : Int) == 0)).1.1 (acc ++ [⟨(pairX bs at' e last ((acc.length : Int) == 0)).1.1, (pairX bs at' e last ((acc.length : Int) == 0)).1.2⟩]) else (acc, at', e)
theorem decL_end (bs : List Int) (k : Nat) (n at' e last : Int) (acc : List S82) (h : ¬ (0 < n ∧ e = 0)) : decL bs k n at' e last acc = (acc, at', e) := by
  cases k with
  | zero => rfl
  | succ k => rw [decL, if_neg h]
/-- What is looked at behind the pairs. -/
def finX (bs : List Int) (at' e : Int) : Int × Int :=
  if e = 0 then (if (bs.length : Int) - at' < 4 then ((bs.length : Int), 270) else if ((bs.drop at'.toNat).take 4 == fixedS (sumS 2166136261 (bs.take at'.toNat))) = false then (at', 271) else if (bs.length : Int) - at' > 4 then (at' + 4, 272) else (at', 0)) else (at', e)
def decX (bs : List Int) : List S82 × Int × Int :=
  let s := startX bs
  let n := numX bs s.1 s.2
  let L := decL bs (bs.length + 1) n.1 n.2.1 n.2.2 0 []
  let f := finX bs L.2.1 L.2.2
  if f.2 = 0 then (L.1, 0, 0) else ([], f.2, f.1)
theorem startX_ok (bs : List Int) : (startX bs).2 = 0 → 0 ≤ (startX bs).1 ∧ (startX bs).1 ≤ bs.length := by
  unfold startX
  match bs with
  | [] => intro h; exact absurd h (by decide)
  | [a] => intro h; simp only [startL] at h; split at h <;> exact absurd h (by decide)
  | [a, b] => intro h; simp only [startL] at h; (repeat' split at h) <;> exact absurd h (by decide)
  | [a, b, c] => intro h; simp only [startL] at h; (repeat' split at h) <;> exact absurd h (by decide)
  | a :: b :: c :: d :: l =>
    intro h
    simp only [startL] at h ⊢
    repeat' split at h
    all_goals first | exact absurd h (by decide) | skip
    simp_all
    omega
theorem pairX_ok {bs : List Int} {at' e last : Int} {first : Bool} (ha : e = 0 → 0 ≤ at' ∧ at' ≤ bs.length) : (pairX bs at' e last first).2.2 = 0 → at' < (pairX bs at' e last first).2.1 ∧ (pairX bs at' e last first).2.1 ≤ bs.length ∧ e = 0 := by
  unfold pairX
  dsimp only
  intro h
  have h0 := numX_ok ha
  by_cases hc : first = false ∧ (numX bs at' e).2.2 = 0 ∧ ((numX bs at' e).1 = 0 ∨ IntKind.u64.wrap (last + (numX bs at' e).1) < last)
  · rw [if_pos hc] at h
    rw [numX_stay (show (271 : Int) ≠ 0 by decide)] at h
    exact absurd h (show ¬ (271 : Int) = 0 by decide)
  · rw [if_neg hc] at h ⊢
    dsimp only at h ⊢
    have h1 : (numX bs at' e).2.2 = 0 := by
      by_cases hz : (numX bs at' e).2.2 = 0
      · exact hz
      · rw [numX_stay hz] at h
        exact absurd h hz
    have h2 := h0 h1
    have h3 := numX_ok (bs := bs) (at' := (numX bs at' e).2.1) (e := (numX bs at' e).2.2) (fun _ => h2) h
    have h4 : e = 0 := by
      by_cases hz : e = 0
      · exact hz
      · rw [numX_stay hz] at h1
        exact absurd h1 hz
    subst h4
    have h5 : at' < (numX bs at' 0).2.1 := by
      have := (numR_place (bs.drop at'.toNat) 0 at' 0).2.2
      unfold numX at h1 ⊢
      rw [if_pos rfl] at h1 ⊢
      exact this h1
    have h6 : (numX bs at' 0).2.1 ≤ (numX bs (numX bs at' 0).2.1 (numX bs at' 0).2.2).2.1 := by
      have := (numR_place (bs.drop (numX bs at' 0).2.1.toNat) 0 (numX bs at' 0).2.1 0).1
      rw [h1]
      generalize (numX bs at' 0).2.1 = z at *
      unfold numX
      rw [if_pos rfl]
      exact this
    exact ⟨by omega, h3.2, rfl⟩
theorem pairX_key {bs : List Int} {at' e last : Int} {first : Bool} : 0 ≤ (pairX bs at' e last first).1.1 ∧ (pairX bs at' e last first).1.1 < 18446744073709551616 := by
  unfold pairX; exact u64_range _
theorem pairX_val {bs : List Int} {at' e last : Int} {first : Bool} (hbs : ∀ c ∈ bs, 0 ≤ c ∧ c < 256) : 0 ≤ (pairX bs at' e last first).1.2 ∧ (pairX bs at' e last first).1.2 < 18446744073709551616 := by
  unfold pairX; exact numX_val hbs
theorem fixed_v (s f0 f1 f2 f3 : Int) (w : World) (h0 : 0 ≤ s) (h1 : s < 4294967296) (h : fixedS s = [f0, f1, f2, f3]) :
    Calls Try.prog 56 #[.int .u32 s] w fun e w' => e = .returned (.agg #[.int .u8 f0, .int .u8 f1, .int .u8 f2, .int .u8 f3]) ∧ Below w.heap.size w w' := by
  simp only [fixedS, List.cons.injEq, and_true] at h
  obtain ⟨rfl, rfl, rfl, rfl⟩ := h
  exact fixed_c s w h0 h1
theorem take4 (bs : List Int) (z : Nat) (h : z + 4 ≤ bs.length) : (bs.drop z).take 4 = [rd bs z, rd bs (z + 1 : Nat), rd bs (z + 2 : Nat), rd bs (z + 3 : Nat)] := by
  rw [drop_at bs z (by omega), drop_at bs (z + 1) (by omega), drop_at bs (z + 2) (by omega), drop_at bs (z + 3) (by omega)]
  rfl
theorem sum_v (A : Option Addr) (c z : Nat) (T : List Int) (s : Int) (w : World) (hC : Kd.C (Kd.int .u8) w A T.length T) (hc : T.length ≤ c) (hz : T.length = z) (hl : T.length < 4398046511104) (hs : sumS 2166136261 T = s) :
    Calls Try.prog 57 #[.slice A z c] w fun e w' => e = .returned (.int .u32 s) ∧ Below w.heap.size w w' := by
  subst hs hz
  refine (dump_sum.calls _ _ _ _ _ _ hC hc (sum_f T (by omega))).mono ?_
  rintro e w' ⟨rfl, ⟨n, rfl⟩⟩
  exact ⟨rfl, pw_below_drewN (Below.refl _ _) n⟩
set_option maxHeartbeats 16000000 in
set_option maxRecDepth 100000 in
theorem decode_c (A : Option Addr) (c : Nat) (bs : List Int) (w : World) (hA : Kd.C (Kd.int .u8) w A bs.length bs) (hc : bs.length ≤ c) (hl : bs.length < 4398046511104) (hbs : ∀ c ∈ bs, 0 ≤ c ∧ c < 256) :
    Calls Try.prog 30 #[.slice A bs.length c] w fun e w' => ∃ v, e = .returned (.tuple #[v, .int .i64 (decX bs).2.1, .int .i64 (decX bs).2.2]) ∧ Kd.R k82 82 w' w.heap.size (fun _ => True) v (decX bs).1 ∧ Below w.heap.size w w' := by
  have hu82 := Try.underlying82
  have hu123 := Try.underlying123
  have hu117 := Try.underlying117
  have HA := Lib.hid hA
  have HC := Lib.hid hc
  have HL := Lib.hid hl
  have HBS := Lib.hid hbs
  obtain ⟨R, hR⟩ : ∃ R, R = decX bs := ⟨_, rfl⟩
  rw [← hR]
  have HR := Lib.hid hR
  clear hA hc hl hbs hR
  go_enter Try.func30, Try.ntmps30
  go_wp2_with fail
  go_at_call 60
  refine (start_c w.heap.size bs w _ (IsS123.new w w A c bs 0 0 (Below.refl _ _) HA.out) ((Below.refl _ _).alloc (Nat.le_refl _) _)).mono ?_
  rintro en w1 ⟨rfl, h1, h2, h3⟩
  have S1 := Lib.hid h1
  have B1 := Lib.hid h2
  clear h1 h2 h3
  go_wp2_with fail
  go_at_call 61
  refine (rdnumX_c w.heap.size bs _ _ w _ (S1.out.alloc _) (B1.out.alloc B1.out.size _) (startX_ok bs) HBS.out).mono ?_
  rintro en w2 ⟨rfl, h1, h2, h3⟩
  have hx := h3.blk (heap_alloc_new w1 _) (by have := S1.out.lt; omega) (by simp)
  have HG : Hid (w.heap.size < w1.heap.size) := Lib.hid S1.out.lt
  have S2 := Lib.hid h1
  have B2 := Lib.hid h2
  have X2 := Lib.hid hx
  have HO := Lib.hid (numX_ok (startX_ok bs))
  have hv := numX_val (bs := bs) (at' := (startX bs).1) (e := (startX bs).2) HBS.out
  have HN : Hid (R = (let f := finX bs (decL bs (bs.length + 1) (numX bs (startX bs).1 (startX bs).2).1 (numX bs (startX bs).1 (startX bs).2).2.1 (numX bs (startX bs).1 (startX bs).2).2.2 0 []).2.1 (decL bs (bs.length + 1) (numX bs (startX bs).1 (startX bs).2).1 (numX bs (startX bs).1 (startX bs).2).2.1 (numX bs (startX bs).1 (startX bs).2).2.2 0 []).2.2; if f.2 = 0 then ((decL bs (bs.length + 1) (numX bs (startX bs).1 (startX bs).2).1 (numX bs (startX bs).1 (startX bs).2).2.1 (numX bs (startX bs).1 (startX bs).2).2.2 0 []).1, 0, 0) else ([], f.2, f.1))) := Lib.hid HR.out
  clear h1 h2 h3 hx S1 B1 HR
  generalize numX bs (startX bs).1 (startX bs).2 = N at *
  obtain ⟨n, a0, e0⟩ := N
  dsimp only at *
  obtain ⟨hn0, hn1⟩ := hv
  generalize hD : decL bs (bs.length + 1) n a0 e0 0 [] = D at HN
  have HD := Lib.hid hD
  clear hD
  generalize hj : w1.heap.size = j at *
  have HNN := Lib.hid (show 0 ≤ n ∧ n < 18446744073709551616 from ⟨hn0, hn1⟩)
  clear hn1
  go_wp2
  go_loopg [6, 8] (bs.length + 1) (fun kq x y w' => ∃ (acc : List S82) (m at' e last lv : Int), y = .int .u64 m ∧ 0 ≤ m ∧ Hid (D = decL bs kq m at' e last acc) ∧ Hid (acc.length + kq = bs.length + 1) ∧ Hid (e = 0 → 0 ≤ at' ∧ at' ≤ bs.length ∧ (bs.length : Int) - at' < kq) ∧ Hid (0 ≤ last ∧ last < 18446744073709551616) ∧ Hid (Kd.R k82 82 w' w.heap.size (fun k => k ≠ w.heap.size ∧ k ≠ j) x acc) ∧ Hid (IsS123 w w' w.heap.size bs at' e) ∧ Hid (Below w.heap.size w w') ∧ Hid (w'.heap[j]? = some (.cells #[.int .u64 last, .int .u64 lv] 82 (0, 0))))
  case atStart =>
    refine ⟨[], n, a0, e0, 0, 0, rfl, hn0, Lib.hid HD.out.symm, Lib.hid (by simp), Lib.hid (fun h => ?_), Lib.hid (by decide), Lib.hid (Kd.R_nil k82 82 _ _ _), S2, B2, X2⟩
    have := HO.out h
    omega
  case round =>
    obtain ⟨acc, m, at', e, last, lv, rfl, hm, HDR, HLN, HAT, HLA, HRR, HSR, HBR, HXR⟩ := hrel
    rename_i x _
    clear S2 B2 X2 HD
    obtain ⟨A3, c3, rfl⟩ := Kd.R_slice HRR.out
    obtain ⟨A', c', hb', -, -⟩ := HSR.out
    have d2 := cellS123_2 hb'
    have hb0 := hb'
    have k0 : wr.cell? ⟨j, 0, none⟩ = some (.int .u64 last) := (blk_cell HXR.out 0).trans rfl
    have k1 : wr.cell? ⟨j, 1, none⟩ = some (.int .u64 lv) := (blk_cell HXR.out 1).trans rfl
    clear hb'
    by_cases hgo : 0 < m ∧ e = 0
    · obtain ⟨hm0, he0⟩ := hgo
      have HA2 := Lib.hid (HAT.out he0)
      obtain rfl := he0
      have hme : decide (0 < m) = true := decide_eq_true hm0
      have HM0 := Lib.hid hm0
      have HK0 : Hid (0 < gk) := Lib.hid (by have := HA2.out; omega)
      have HJ : Hid (w.heap.size < wr.heap.size ∧ j < wr.heap.size) := Lib.hid ⟨HSR.out.lt, blk_lt HXR.out⟩
      have HPO := Lib.hid (pairX_ok (bs := bs) (at' := at') (e := 0) (last := last) (first := ((acc.length : Int) == 0)) (fun _ => ⟨(HA2.out).1, (HA2.out).2.1⟩))
      have HPK := Lib.hid (pairX_key (bs := bs) (at' := at') (e := 0) (last := last) (first := ((acc.length : Int) == 0)))
      have HDN : Hid (D = decL bs (gk - 1) (IntKind.u64.wrap (m - 1)) (pairX bs at' 0 last ((acc.length : Int) == 0)).2.1 (pairX bs at' 0 last ((acc.length : Int) == 0)).2.2 (pairX bs at' 0 last ((acc.length : Int) == 0)).1.1 (acc ++ [⟨(pairX bs at' 0 last ((acc.length : Int) == 0)).1.1, (pairX bs at' 0 last ((acc.length : Int) == 0)).1.2⟩])) := Lib.hid (by
        obtain ⟨q, rfl⟩ : ∃ q, gk = q + 1 := ⟨gk - 1, by have := HK0.out; omega⟩
        rw [HDR.out, decL, if_pos ⟨HM0.out, rfl⟩]
        rfl)
      clear hb0 hm0
      go_wp2_with fail
      go_at_call 62
      refine (pair_c _ bs at' 0 last lv _ w _ HSR.out HBR.out (fun _ => ⟨(HA2.out).1, (HA2.out).2.1⟩) HBS.out HLA.out.1 HLA.out.2).mono ?_
      rintro en w3 ⟨rfl, h1, h2, h3⟩
      have hx3 := h3.blk HXR.out (by have := HG.out; omega) (by simp)
      have m0 : w3.cell? ⟨j, 0, none⟩ = some (.int .u64 last) := (blk_cell hx3 0).trans rfl
      have m1 : w3.cell? ⟨j, 1, none⟩ = some (.int .u64 lv) := (blk_cell hx3 1).trans rfl
      have n0 := blk_frozen hx3 0
      have n1 := blk_frozen hx3 1
      have S3 := Lib.hid h1
      have B3 := Lib.hid h2
      have X3 := Lib.hid hx3
      have Z3 := Lib.hid h3.1
      have R3 := Lib.hid (Kd.R_keep HRR.out h3 (fun _ h => h.1))
      clear h1 h2 h3 hx3 k0 k1 d2
      generalize pairX bs at' 0 last ((acc.length : Int) == 0) = P at *
      obtain ⟨⟨pk, pv⟩, a2, e2⟩ := P
      dsimp only at *
      go_wp2_with (first | (at_builtin; refine Kd.R_append k82 (w0 := w) w.heap.size (by rfl) (.tmp 34) (.tmp 36) 22 82 (.agg #[.int .u64 0, .int .u64 0]) 16 rfl Try.underlying22 info82 rfl (by decide) (by omega) _ acc (⟨pk, pv⟩ : S82) [.int .u64 pk, .int .u64 pv] (fun k => k ≠ w.heap.size ∧ k ≠ j) (fun _ => False) rfl ?aX ?aP (fun _ hk => hk.elim) ?aF ?aO ?aB ?aS ?aL ?_))
      case aX => simp [Act.eval]
      case aP => exact k82_mkM _ _ _ (⟨pk, pv⟩ : S82)
      case aF =>
        intro k hk
        have h1 := HJ.out
        have h2 := Z3.out
        simp at hk
        omega
      case aO => exact Kd.R_far (p := ⟨j, 1, none⟩) (Kd.R_far (p := ⟨j, 0, none⟩) R3.out (fun _ h => h.2) _) (fun _ h => h.2) _
      case aB => exact (B3.out.setCell (by have := HG.out; simp; omega) _).setCell (by have := HG.out; simp; omega) _
      case aS => have h1 := HJ.out; have h2 := Z3.out; simp; omega
      case aL => have h1 := HLN.out; have h2 := HL.out; omega
      intro v5 w5 hR5 hB5 hG5 hat
      have X5 := Lib.hid (blk_grown ((blk_set ((blk_set X3.out 0 _).trans rfl) 1 _).trans rfl) hG5 (fun h => (R3.out.1 j h.symm).2 rfl))
      have S5 := Lib.hid (((S3.out.far (p := ⟨j, 0, none⟩) (by have := HG.out; simp; omega) (.int .u64 pk)).far (p := ⟨j, 1, none⟩) (by have := HG.out; simp; omega) (.int .u64 pv)).grown hG5 (fun h => (R3.out.1 w.heap.size h.symm).1 rfl))
      have R5 := Lib.hid hR5
      have B5 := Lib.hid hB5
      clear hR5 hB5 hG5 hat m0 m1 n0 n1
      go_wp2
      go_roundg (gk - 1)
      case measure => have := HK0.out; omega
      case rel =>
        refine ⟨acc ++ [⟨pk, pv⟩], _, a2, e2, pk, pv, rfl, (u64_range _).1, HDN, Lib.hid (by have := HLN.out; have := HK0.out; simp; omega), Lib.hid (fun h => ?_), HPK, R5, S5, B5, X5⟩
        have h1 := HPO.out h
        have h2 := HA2.out
        have h3 := HK0.out
        omega
    · have HDE := Lib.hid (HDR.out.trans (decL_end bs gk m at' e last acc hgo))
      have c1 := cellS123_1 hb0
      by_cases he : e = 0
      · obtain rfl := he
        have hme : decide (0 < m) = false := decide_eq_false (fun h => hgo ⟨h, rfl⟩)
        obtain ⟨z, rfl⟩ := Int.eq_ofNat_of_zero_le (HAT.out rfl).1
        have hz : z ≤ bs.length := by have := (HAT.out rfl).2.1; omega
        have hz2 : bs.length < 4398046511104 := HL.out
        clear hgo
        by_cases h4 : (bs.length : Int) - (z : Int) < 4
        · have HRE : Hid (R = ([], 270, (bs.length : Int))) := Lib.hid (by rw [HN.out, HDE.out]; simp only [finX, if_pos h4, if_true]; rfl)
          have h4' := eq_true h4
          clear h4
          go_wp2_with fail
          go_at_call 63
          refine (dump_reader_fail.calls _ bs _ 0 270 ((bs.length : Int)) ((bs.length : Int)) 270 w _ (by first | exact HSR.out | exact HSR.out) (by first | exact HBR.out | exact HBR.out) rfl).mono ?_
          rintro en w9 ⟨rfl, h1, h2, h3⟩
          have B9 := Lib.hid h2
          obtain ⟨A'', c'', hb9, -, -⟩ := h1
          have e1 := cellS123_1 hb9
          have e2 := cellS123_2 hb9
          clear h2 h3 hb9
          go_wp2
          go_quiet (fail)
          go_wp2
          go_ret3
          rw [HRE.out]
          exact ⟨_, rfl, Kd.R_nil _ _ _ _ _, pw_below_drewN B9.out _⟩
        · have hz4 : z + 4 ≤ bs.length := by omega
          have h4' := eq_false h4
          have HT4 := take4 bs z hz4
          obtain ⟨s, hs⟩ : ∃ s, sumS 2166136261 (bs.take z) = s := ⟨_, rfl⟩
          have hsr := sumS_range (bs.take z) 2166136261 (by omega) (by omega)
          rw [hs] at hsr
          have hlt : (bs.take z).length = z := by rw [List.length_take]; omega
          have HCT := Lib.hid (Kd.C_take HA.out (m := z) (by omega))
          obtain ⟨f0, f1, f2, f3, hf⟩ : ∃ f0 f1 f2 f3, fixedS s = [f0, f1, f2, f3] := ⟨_, _, _, _, rfl⟩
          obtain ⟨ad, rfl, x0⟩ := Kd.at_int (Kd.C_below HA.out HBR.out) (z : Int) (by omega) (by omega)
          obtain ⟨ad1, e1, x1⟩ := Kd.at_int (Kd.C_below HA.out HBR.out) ((z + 1 : Nat) : Int) (by omega) (by omega)
          obtain ⟨ad2, e2, x2⟩ := Kd.at_int (Kd.C_below HA.out HBR.out) ((z + 2 : Nat) : Int) (by omega) (by omega)
          obtain ⟨ad3, e3, x3⟩ := Kd.at_int (Kd.C_below HA.out HBR.out) ((z + 3 : Nat) : Int) (by omega) (by omega)
          obtain rfl : ad = ad1 := by injection e1
          obtain rfl : ad = ad2 := by injection e2
          obtain rfl : ad = ad3 := by injection e3
          clear e1 e2 e3
          have HFIN : Hid (finX bs (z : Int) 0 = if ([rd bs z, rd bs (z + 1 : Nat), rd bs (z + 2 : Nat), rd bs (z + 3 : Nat)] == [f0, f1, f2, f3]) = false then ((z : Int), 271) else if (bs.length : Int) - (z : Int) > 4 then ((z : Int) + 4, 272) else ((z : Int), 0)) := Lib.hid (by unfold finX; rw [if_pos rfl, if_neg h4, Int.toNat_natCast, HT4, hs, hf])
          generalize bs.take z = T at *
          rw [Int.toNat_natCast] at x0 x1 x2 x3
          rw [add_field ad z 1 (by omega)] at x1
          rw [add_field ad z 2 (by omega)] at x2
          rw [add_field ad z 3 (by omega)] at x3
          have harr := fun wx => run_arrayAt (P := Try.prog) (w := wx) 117 5 4 (some (ad.add z)) (bs.length - z) (c - z) hu117 (by omega)
          generalize rd bs (z : Int) = y0 at *
          generalize rd bs ((z + 1 : Nat) : Int) = y1 at *
          generalize rd bs ((z + 2 : Nat) : Int) = y2 at *
          generalize rd bs ((z + 3 : Nat) : Int) = y3 at *
          have HS := Lib.hid hs
          have HF := Lib.hid hf
          have HLT := Lib.hid hlt
          have HCC := Lib.hid (show z ≤ c by have := HC.out; omega)
          have b1 : (0 : Int) ≤ (z : Int) := by omega
          have b2 : (z : Int) ≤ (c : Int) := by have := HC.out; omega
          have b3 : (z : Int) ≤ (bs.length : Int) := by omega
          have b4 : ¬ c = z := by have := HC.out; omega
          have b5 : (bs.length : Int) ≤ (c : Int) := by have := HC.out; omega
          obtain ⟨b, hb, heq⟩ : ∃ b : Bool, b = ([y0, y1, y2, y3] == [f0, f1, f2, f3]) ∧ ∀ w, Sem.run Try.prog (Op.equalIn 10000 117 (.agg #[.int .u8 y0, .int .u8 y1, .int .u8 y2, .int .u8 y3]) (.agg #[.int .u8 f0, .int .u8 f1, .int .u8 f2, .int .u8 f3])) w = .ok b w := ⟨_, rfl, eq_arr4 _ _ _ _ _ _ _ _⟩
          have HFB := Lib.hid hb
          have HZ4 := Lib.hid hz4
          clear h4 HT4 hs hf hlt hb hz4
          go_wp2_with fail
          go_region_held3 (fun w' => Below wr.heap.size wr w' ∧ w'.cell? (ad.add z) = some (.int .u8 y0) ∧ w'.cell? ⟨(ad.add z).block, (ad.add z).off + 1, none⟩ = some (.int .u8 y1) ∧ w'.cell? ⟨(ad.add z).block, (ad.add z).off + 2, none⟩ = some (.int .u8 y2) ∧ w'.cell? ⟨(ad.add z).block, (ad.add z).off + 3, none⟩ = some (.int .u8 y3)) (first | exact ⟨(Below.refl _ _).drew, x0, x1, x2, x3⟩ | exact keep4 (keep4 (w1 := wr.drew) ⟨(Below.refl _ _).drew, x0, x1, x2, x3⟩ hb5) hb6 | exact keep4 (w1 := wr.drew) ⟨(Below.refl _ _).drew, x0, x1, x2, x3⟩ hb5) (first | (go_at_call 57; refine (sum_v _ _ _ T s _ (by exact Kd.C_below HCT.out HBR.out.drew) (by have := HLT.out; have := HCC.out; omega) HLT.out (by have := HLT.out; omega) HS.out).mono ?_; rintro en w5 ⟨rfl, hb5⟩) | (go_at_call 56; refine (fixed_v s f0 f1 f2 f3 _ hsr.1 hsr.2 HF.out).mono ?_; rintro en w6 ⟨rfl, hb6⟩))
          all_goals
            rename_i hS
            have HSS := Lib.hid hS.1
            clear hS x0 x1 x2 x3 hb5 hb6 harr heq
            obtain ⟨A5, c5, hb5, -, -⟩ := HSR.out.below HSS.out
            have g2 := cellS123_2 hb5
            clear hb5
            have HFF : Hid (finX bs (z : Int) 0 = if b = false then ((z : Int), 271) else if (bs.length : Int) - (z : Int) > 4 then ((z : Int) + 4, 272) else ((z : Int), 0)) := Lib.hid (by rw [HFIN.out, HFB.out])
            clear hb0 c1 d2 HFB HFIN
            cases b
            · have HRE : Hid (R = ([], 271, (z : Int))) := Lib.hid (by rw [HN.out, HDE.out]; simp only [HFF.out]; rfl)
              go_wp2_with fail
              go_at_call 63
              refine (dump_reader_fail.calls _ bs _ 0 271 ((z : Int)) ((z : Int)) 271 w _ (by first | exact HSR.out | exact (HSR.out.below HSS.out)) (by first | exact HBR.out | exact HBR.out.trans (HSS.out.mono HBR.out.size)) rfl).mono ?_
              rintro en w9 ⟨rfl, h1, h2, h3⟩
              have B9 := Lib.hid h2
              obtain ⟨A'', c'', hb9, -, -⟩ := h1
              have e1 := cellS123_1 hb9
              have e2 := cellS123_2 hb9
              clear h2 h3 hb9
              go_wp2
              go_quiet (fail)
              go_wp2
              go_ret3
              rw [HRE.out]
              exact ⟨_, rfl, Kd.R_nil _ _ _ _ _, pw_below_drewN B9.out _⟩
            · by_cases hm4 : (bs.length : Int) - (z : Int) > 4
              · have HRE : Hid (R = ([], 272, (z : Int) + 4)) := Lib.hid (by rw [HN.out, HDE.out]; simp only [HFF.out, if_pos hm4]; rfl)
                have hm5 : (4 : Int) < (bs.length : Int) - (z : Int) := hm4
                clear hm4
                go_wp2_with fail
                go_at_call 63
                refine (dump_reader_fail.calls _ bs _ 0 272 ((z : Int) + 4) ((z : Int) + 4) 272 w _ (by first | exact HSR.out | exact (HSR.out.below HSS.out)) (by first | exact HBR.out | exact HBR.out.trans (HSS.out.mono HBR.out.size)) rfl).mono ?_
                rintro en w9 ⟨rfl, h1, h2, h3⟩
                have B9 := Lib.hid h2
                obtain ⟨A'', c'', hb9, -, -⟩ := h1
                have e1 := cellS123_1 hb9
                have e2 := cellS123_2 hb9
                clear h2 h3 hb9
                go_wp2
                go_quiet (fail)
                go_wp2
                go_ret3
                rw [HRE.out]
                exact ⟨_, rfl, Kd.R_nil _ _ _ _ _, pw_below_drewN B9.out _⟩
              · have HRE : Hid (R = (acc, 0, 0)) := Lib.hid (by rw [HN.out, HDE.out]; simp only [HFF.out, if_neg hm4]; rfl)
                have hm5 : ¬ (4 : Int) < (bs.length : Int) - (z : Int) := hm4
                clear hm4
                go_wp2
                go_ret3
                rw [HRE.out]
                exact ⟨_, rfl, Kd.R_mono (Kd.R_below HRR.out HSS.out) (fun _ _ => trivial), HBR.out.trans (HSS.out.mono HBR.out.size)⟩
      · have he1 : (e == 0) = false := by rw [beq_eq_false_iff_ne]; exact he
        have he2 : (e != 0) = true := by rw [bne_iff_ne]; exact he
        have HRE : Hid (R = ([], e, at')) := Lib.hid (by rw [HN.out, HDE.out]; simp only [finX, if_neg he])
        clear he hgo
        have hcs : decide (0 < m) = true ∨ decide (0 < m) = false := by cases decide (0 < m) <;> simp
        rcases hcs with hme | hme
        all_goals
          go_wp2
          go_quiet (fail)
          go_wp2
          go_ret3
          rw [HRE.out]
          exact ⟨_, rfl, Kd.R_nil _ _ _ _ _, pw_below_drewN HBR.out _⟩
end Go.Proofs.Ythblincfnfpgbaa.Q
namespace Go.Proofs.Ythblincfnfpgbaa.Q
open Go.RowKit Go.Proofs.YthblincfnfpgbaaW.PrintWords Go.Proofs.YthblincfnfpgbaaW.PrintLast Go.Proofs.YthblincfnfpgbaaW.PrintMore
set_option linter.unusedVariables false
/-- Decode of so many bytes as fit. -/
def dump_Decode.f (l : List Int) : Option (List S82 × Int × Int) := if l.length < 4398046511104 ∧ ∀ c ∈ l, 0 ≤ c ∧ c < 256 then some (decX l) else none
theorem dump_Decode.calls (A0 : Option Addr) (c0 : Nat) (l0 : List Int) (r1 : List S82) (r2 r3 : Int) (w : World) (hr0 : Kd.C (Kd.int .u8) w A0 l0.length l0) (hc0 : l0.length ≤ c0) (h : dump_Decode.f l0 = some (r1, r2, r3)) :
    Calls Try.prog 30 #[.slice A0 l0.length c0] w fun e w' => ∃ v0_ : Value, e = .returned (.tuple #[v0_, .int .i64 r2, .int .i64 r3]) ∧ Kd.R k82 82 w' w.heap.size (fun _ => True) v0_ r1 ∧ Below w.heap.size w w' := by
  unfold dump_Decode.f at h
  split at h
  case isFalse => exact absurd h (by simp)
  rename_i hl
  have h := Option.some.inj h
  have e := decode_c A0 c0 l0 w hr0 hc0 hl.1 hl.2
  rw [h] at e
  exact e
end Go.Proofs.Ythblincfnfpgbaa.Q
-- Written by a program of this session over the kit's print.py, which was handed contracts that were proved by hand. Lean checks it.
namespace Go.Proofs.Ythblincfnfpgbaa.Q
open Go.RowKit Go.Proofs.YthblincfnfpgbaaW.PrintWords Go.Proofs.YthblincfnfpgbaaW.PrintLast Go.Proofs.YthblincfnfpgbaaW.PrintMore
attribute [local go_sem] max2_int min2_int max_two min_two max_three min_three max_four min_four   -- for this text's walks alone
set_option linter.unusedVariables false
set_option linter.unusedSimpArgs false

/-! ### shutterlaw27_DumpBack: function 9 -/
mutual
def shutterlaw27_DumpBack.j0 : Nat → List (S82) → List (S82) → List Int → Option (Bool)
  | 0, _, _, _ => none
  | k + 1, x0, x1, x2 => (dump_Diff.f x0 x1).bind fun bt454 => (if bt454.2 = 0 then ((dump_Patch.f x0 bt454.1).bind fun bt458 => (if bt458.2 = 0 then ((shutterref11_SamePairs.f k bt458.1 x1).bind fun t462 => (if t462 = true then ((shutterref11_SamePairs.f k x0 x1).bind fun t463 => (if (((bt454.1.length : Int) == 0) != t463) = true then (some false) else (shutterlaw27_DumpBack.j1 k x2))) else (some false))) else (some false))) else (shutterlaw27_DumpBack.j1 k x2))
def shutterlaw27_DumpBack.j1 : Nat → List Int → Option (Bool)
  | 0, _ => none
  | k + 1, x2 => (dump_Decode.f x2).bind fun bt464 => (if bt464.2.1 = 0 then ((dump_Encode.f bt464.1).bind fun bt469 => ((shutterlaw27_live.f).bind fun t473 => (if t473 = true then (if bt469.2 = 0 then ((shuttermem_Same.f k bt469.1 x2).bind fun t474 => (some t474)) else (some false)) else (some false)))) else ((shutterlaw27_live.f).bind fun t475 => (if t475 = true then (some ((bt464.1.length : Int) == 0)) else (some false))))
end
def shutterlaw27_DumpBack.f (k : Nat) (l0 : List (S82)) (l1 : List (S82)) (l2 : List Int) : Option (Bool) := (dump_Encode.f l0).bind fun bt444 => (if bt444.2 = 0 then ((dump_Decode.f bt444.1).bind fun bt448 => (if bt448.2.1 = 0 then (if bt448.2.2 = 0 then ((shutterref11_SamePairs.f k bt448.1 l0).bind fun t453 => (if t453 = true then (shutterlaw27_DumpBack.j0 k l0 l1 l2) else (some false))) else (some false)) else (some false))) else (shutterlaw27_DumpBack.j0 k l0 l1 l2))
theorem shutterlaw27_DumpBack.mono_l : ∀ k, (∀ y0 y1 y2, LeO (shutterlaw27_DumpBack.j0 k y0 y1 y2) (shutterlaw27_DumpBack.j0 (k + 1) y0 y1 y2)) ∧ (∀ y0, LeO (shutterlaw27_DumpBack.j1 k y0) (shutterlaw27_DumpBack.j1 (k + 1) y0))
  | 0 => ⟨fun _ _ _ r h => by simp [shutterlaw27_DumpBack.j0] at h, fun _ r h => by simp [shutterlaw27_DumpBack.j1] at h⟩
  | k + 1 => by
    obtain ⟨ih0, ih1⟩ := shutterlaw27_DumpBack.mono_l k
    refine ⟨?_, ?_⟩
    · intro y0 y1 y2
      unfold shutterlaw27_DumpBack.j0
      repeat' first
      | (with_reducible exact ih0 _ _ _)
      | (with_reducible exact ih1 _)
      | (with_reducible exact shuttermem_Same.mono _ _ _)
      | (with_reducible exact shutterref11_SamePairs.mono _ _ _)
      | (with_reducible exact LeO.refl _)
      | (with_reducible exact LeO.none _)
      | (with_reducible refine LeO.ite ?_ ?_)
      | (with_reducible refine LeO.bind ?_ (fun _ => ?_))
      | exact ih0 _ _ _
      | exact ih1 _
      | exact shuttermem_Same.mono _ _ _
      | exact shutterref11_SamePairs.mono _ _ _
      | exact LeO.none _
      | refine LeO.ite ?_ ?_
      | refine LeO.bind ?_ (fun _ => ?_)
    · intro y0
      unfold shutterlaw27_DumpBack.j1
      repeat' first
      | (with_reducible exact ih0 _ _ _)
      | (with_reducible exact ih1 _)
      | (with_reducible exact shuttermem_Same.mono _ _ _)
      | (with_reducible exact shutterref11_SamePairs.mono _ _ _)
      | (with_reducible exact LeO.refl _)
      | (with_reducible exact LeO.none _)
      | (with_reducible refine LeO.ite ?_ ?_)
      | (with_reducible refine LeO.bind ?_ (fun _ => ?_))
      | exact ih0 _ _ _
      | exact ih1 _
      | exact shuttermem_Same.mono _ _ _
      | exact shutterref11_SamePairs.mono _ _ _
      | exact LeO.none _
      | refine LeO.ite ?_ ?_
      | refine LeO.bind ?_ (fun _ => ?_)
theorem shutterlaw27_DumpBack.mono : ∀ a0 a1 a2 k, LeO (shutterlaw27_DumpBack.f k a0 a1 a2) (shutterlaw27_DumpBack.f (k + 1) a0 a1 a2) := by
  intro a0 a1 a2 k
  obtain ⟨ih0, ih1⟩ := shutterlaw27_DumpBack.mono_l k
  unfold shutterlaw27_DumpBack.f
  repeat' first
      | (with_reducible exact ih0 _ _ _)
      | (with_reducible exact ih1 _)
      | (with_reducible exact shuttermem_Same.mono _ _ _)
      | (with_reducible exact shutterref11_SamePairs.mono _ _ _)
      | (with_reducible exact LeO.refl _)
      | (with_reducible exact LeO.none _)
      | (with_reducible refine LeO.ite ?_ ?_)
      | (with_reducible refine LeO.bind ?_ (fun _ => ?_))
      | exact ih0 _ _ _
      | exact ih1 _
      | exact shuttermem_Same.mono _ _ _
      | exact shutterref11_SamePairs.mono _ _ _
      | exact LeO.none _
      | refine LeO.ite ?_ ?_
      | refine LeO.bind ?_ (fun _ => ?_)
set_option maxHeartbeats 8000000 in
set_option maxRecDepth 100000 in
theorem shutterlaw27_DumpBack.calls (k : Nat) (A0 : Option Addr) (c0 : Nat) (l0 : List (S82)) (A1 : Option Addr) (c1 : Nat) (l1 : List (S82)) (A2 : Option Addr) (c2 : Nat) (l2 : List Int) (r : Bool) (w : World) (hr0 : Kd.C k82 w A0 l0.length l0) (hc0 : l0.length ≤ c0) (hr1 : Kd.C k82 w A1 l1.length l1) (hc1 : l1.length ≤ c1) (hr2 : Kd.C (Kd.int .u8) w A2 l2.length l2) (hc2 : l2.length ≤ c2) (h : shutterlaw27_DumpBack.f k l0 l1 l2 = some r) :
    Calls Try.prog 9 #[.slice A0 l0.length c0, .slice A1 l1.length c1, .slice A2 l2.length c2] w fun e w' => e = .returned (.bool r) ∧ Below w.heap.size w w' := by
  have HR0 := Aside0.mk hr0
  have HC0 := Aside0.mk hc0
  clear hr0 hc0
  have HR1 := Aside0.mk hr1
  have HC1 := Aside0.mk hc1
  clear hr1 hc1
  have HR2 := Aside0.mk hr2
  have HC2 := Aside0.mk hc2
  clear hr2 hc2
  have HB := Aside0.mk (Below.refl w.heap.size w)
  have H : ((dump_Encode.f l0).bind fun bt444 => (if bt444.2 = 0 then ((dump_Decode.f bt444.1).bind fun bt448 => (if bt448.2.1 = 0 then (if bt448.2.2 = 0 then ((shutterref11_SamePairs.f k bt448.1 l0).bind fun t453 => (if t453 = true then (shutterlaw27_DumpBack.j0 k l0 l1 l2) else (some false))) else (some false)) else (some false))) else (shutterlaw27_DumpBack.j0 k l0 l1 l2))) = some r := h
  clear h
  replace H := Option.bind_eq_some_iff.mp H
  obtain ⟨⟨t444, t445⟩, A40, H⟩ := H
  replace H : (if t445 = 0 then ((dump_Decode.f t444).bind fun bt448 => (if bt448.2.1 = 0 then (if bt448.2.2 = 0 then ((shutterref11_SamePairs.f k bt448.1 l0).bind fun t453 => (if t453 = true then (shutterlaw27_DumpBack.j0 k l0 l1 l2) else (some false))) else (some false)) else (some false))) else (shutterlaw27_DumpBack.j0 k l0 l1 l2)) = some r := H
  have A4 := Aside0.mk A40
  clear A40
  have HC5 := Aside0.mk H
  clear H
  go_enter Try.func9, Try.ntmps9
  go_upto_if 27 with (first | ((with_reducible refine gate_callee (f := 28) rfl ?_); refine goesL_ (some 23) rfl rfl Try.func28 (by kernel_rfl) rfl #[.slice A0 l0.length c0] rfl (by (try simp only [List.map_toArray, List.map_cons, List.map_nil]); first | done | rfl | (simp only [List.length_drop, List.length_take]; rfl)) ?_; (with_reducible refine (dump_Encode.calls _ _ l0 t444 t445 _ ?side1 ?side2 A4.out).mono ?_); (case side1 => repeat (first | exact HR0.out | (with_reducible refine Kd.C_alloc ?_ _) | (with_reducible refine Kd.C_drewN ?_ _) | (with_reducible refine Kd.C_drew ?_))); (case side2 => exact HC0.out); rintro e w6 ⟨v446, rfl, ho0, hb⟩; refine ⟨_, rfl, ?_⟩; have n0_ := Aside0.mk (Kd.R_lower ho0 (below_size (by repeat (first | (with_reducible first | exact HB.out | apply below_alloc | apply pw_below_drewN | apply below_drew1) | exact HB.out)))); have n1_ := Aside0.mk (below_step (by repeat (first | (with_reducible first | exact HB.out | apply below_alloc | apply pw_below_drewN | apply below_drew1) | exact HB.out)) hb); clear HB; have HO447 := n0_; have HB := n1_; clear n0_ n1_; (try clear hb); (try clear hb2); (try clear hk); (try clear hi); (try clear ho0)))
  (try simp only [Act.put, List.setIfInBounds_toArray, List.set_cons_zero, List.set_cons_succ])
  go_cut [] (fun wc => ∃ (kq : Nat), Aside0 (shutterlaw27_DumpBack.j0 kq l0 l1 l2 = some r) ∧ Aside0 (kq ≤ k) ∧ Aside0 (Below w.heap.size w wc))
  case first =>
    have H := HC5.out
    clear HC5
    by_cases c7 : t445 = 0
    · rw [if_pos c7] at H
      have c7b0 : (t445 == 0) = true := beq_iff_eq.mpr c7
      have c7b1 : (t445 != 0) = false := bne_eq_false_iff_eq.mpr c7
      clear c7
      (first | rw [c7b0] | (simp only [i64_w, i32_w]; rw [c7b0]) | skip)
      replace H := Option.bind_eq_some_iff.mp H
      obtain ⟨⟨t448, t449, t450⟩, A80, H⟩ := H
      replace H : (if t449 = 0 then (if t450 = 0 then ((shutterref11_SamePairs.f k t448 l0).bind fun t453 => (if t453 = true then (shutterlaw27_DumpBack.j0 k l0 l1 l2) else (some false))) else (some false)) else (some false)) = some r := H
      have A8 := Aside0.mk A80
      clear A80
      by_cases c9 : t449 = 0
      · rw [if_pos c9] at H
        have c9b0 : (t449 == 0) = true := beq_iff_eq.mpr c9
        have c9b1 : (t449 != 0) = false := bne_eq_false_iff_eq.mpr c9
        clear c9
        by_cases c10 : t450 = 0
        · rw [if_pos c10] at H
          have c10b0 : (t450 == 0) = true := beq_iff_eq.mpr c10
          have c10b1 : (t450 != 0) = false := bne_eq_false_iff_eq.mpr c10
          clear c10
          replace H := Option.bind_eq_some_iff.mp H
          obtain ⟨t453, A110, H⟩ := H
          replace H : (if t453 = true then (shutterlaw27_DumpBack.j0 k l0 l1 l2) else (some false)) = some r := H
          have A11 := Aside0.mk A110
          clear A110
          by_cases c12 : t453 = true
          · subst c12
            have H1 : (shutterlaw27_DumpBack.j0 k l0 l1 l2) = some r := by rw [if_pos rfl] at H; exact H
            clear H
            have H := H1
            clear H1
            have H' := Aside0.mk H
            clear H
            obtain ⟨Ao13, co13, eo13⟩ := Kd.R_slice HO447.out
            subst eo13
            go_wp2_with (first | ((with_reducible refine gate_callee (f := 30) rfl ?_); refine goesL_ (some 30) rfl rfl Try.func30 (by kernel_rfl) rfl #[.slice Ao13 t444.length co13] rfl (by (try simp only [List.map_toArray, List.map_cons, List.map_nil]); first | done | rfl | (simp only [List.length_drop, List.length_take]; rfl)) ?_; (with_reducible refine (dump_Decode.calls _ _ t444 t448 t449 t450 _ ?side1 ?side2 A8.out).mono ?_); (case side1 => repeat (first | exact (Kd.R_reads' HO447.out).2.2 | (with_reducible refine Kd.C_alloc ?_ _) | (with_reducible refine Kd.C_drewN ?_ _) | (with_reducible refine Kd.C_drew ?_))); (case side2 => exact (Kd.R_reads' HO447.out).2.1); rintro e w14 ⟨v451, rfl, ho0, hb⟩; refine ⟨_, rfl, ?_⟩; have n0_ := Aside0.mk (Kd.R_below (by (with_reducible repeat (first | apply Kd.R_alloc | apply Kd.R_drewN | apply Kd.R_drew)); exact HO447.out) hb); have n1_ := Aside0.mk (Kd.R_lower ho0 (below_size (by repeat (first | (with_reducible first | exact HB.out | apply below_alloc | apply pw_below_drewN | apply below_drew1) | exact HB.out)))); have n2_ := Aside0.mk (below_step (by repeat (first | (with_reducible first | exact HB.out | apply below_alloc | apply pw_below_drewN | apply below_drew1) | exact HB.out)) hb); clear HO447; clear HB; have HO447 := n0_; have HO452 := n1_; have HB := n2_; clear n0_ n1_ n2_; (try clear hb); (try clear hb2); (try clear hk); (try clear hi); (try clear ho0); obtain ⟨Ao15, co15, eo15⟩ := Kd.R_slice HO452.out; subst eo15) | (go_at_call 17; (with_reducible refine (shutterref11_SamePairs.calls k _ _ t448 _ _ l0 true _ ?side1 ?side2 ?side3 ?side4 A11.out).mono ?_); (case side1 => repeat (first | exact (Kd.R_reads' HO452.out).2.2 | (with_reducible refine Kd.C_alloc ?_ _) | (with_reducible refine Kd.C_drewN ?_ _) | (with_reducible refine Kd.C_drew ?_))); (case side2 => exact (Kd.R_reads' HO452.out).2.1); (case side3 => repeat (first | exact (Kd.C_below HR0.out HB.out) | (with_reducible refine Kd.C_alloc ?_ _) | (with_reducible refine Kd.C_drewN ?_ _) | (with_reducible refine Kd.C_drew ?_))); (case side4 => exact HC0.out); rintro e w' ⟨rfl, ⟨nd, rfl⟩⟩))
            go_meet
            case rel => exact ⟨_, H', ⟨by first | omega | exact Nat.le_refl _⟩, ⟨by repeat (first | (with_reducible first | exact HB.out | apply below_alloc | apply pw_below_drewN | apply below_drew1) | exact HB.out)⟩⟩
          · replace c12 := Bool.eq_false_iff.mpr c12
            subst c12
            have H1 : (some false) = some r := by rw [if_neg (show ¬ (false = true) by decide)] at H; exact H
            clear H
            have H := H1
            clear H1
            obtain rfl := Option.some.inj H
            obtain ⟨Ao16, co16, eo16⟩ := Kd.R_slice HO447.out
            subst eo16
            go_wp2_with (first | ((with_reducible refine gate_callee (f := 30) rfl ?_); refine goesL_ (some 30) rfl rfl Try.func30 (by kernel_rfl) rfl #[.slice Ao16 t444.length co16] rfl (by (try simp only [List.map_toArray, List.map_cons, List.map_nil]); first | done | rfl | (simp only [List.length_drop, List.length_take]; rfl)) ?_; (with_reducible refine (dump_Decode.calls _ _ t444 t448 t449 t450 _ ?side1 ?side2 A8.out).mono ?_); (case side1 => repeat (first | exact (Kd.R_reads' HO447.out).2.2 | (with_reducible refine Kd.C_alloc ?_ _) | (with_reducible refine Kd.C_drewN ?_ _) | (with_reducible refine Kd.C_drew ?_))); (case side2 => exact (Kd.R_reads' HO447.out).2.1); rintro e w17 ⟨v451, rfl, ho0, hb⟩; refine ⟨_, rfl, ?_⟩; have n0_ := Aside0.mk (Kd.R_below (by (with_reducible repeat (first | apply Kd.R_alloc | apply Kd.R_drewN | apply Kd.R_drew)); exact HO447.out) hb); have n1_ := Aside0.mk (Kd.R_lower ho0 (below_size (by repeat (first | (with_reducible first | exact HB.out | apply below_alloc | apply pw_below_drewN | apply below_drew1) | exact HB.out)))); have n2_ := Aside0.mk (below_step (by repeat (first | (with_reducible first | exact HB.out | apply below_alloc | apply pw_below_drewN | apply below_drew1) | exact HB.out)) hb); clear HO447; clear HB; have HO447 := n0_; have HO452 := n1_; have HB := n2_; clear n0_ n1_ n2_; (try clear hb); (try clear hb2); (try clear hk); (try clear hi); (try clear ho0); obtain ⟨Ao18, co18, eo18⟩ := Kd.R_slice HO452.out; subst eo18) | (go_at_call 17; (with_reducible refine (shutterref11_SamePairs.calls k _ _ t448 _ _ l0 false _ ?side1 ?side2 ?side3 ?side4 A11.out).mono ?_); (case side1 => repeat (first | exact (Kd.R_reads' HO452.out).2.2 | (with_reducible refine Kd.C_alloc ?_ _) | (with_reducible refine Kd.C_drewN ?_ _) | (with_reducible refine Kd.C_drew ?_))); (case side2 => exact (Kd.R_reads' HO452.out).2.1); (case side3 => repeat (first | exact (Kd.C_below HR0.out HB.out) | (with_reducible refine Kd.C_alloc ?_ _) | (with_reducible refine Kd.C_drewN ?_ _) | (with_reducible refine Kd.C_drew ?_))); (case side4 => exact HC0.out); rintro e w' ⟨rfl, ⟨nd, rfl⟩⟩))
            go_ret
            exact ⟨by first | rfl | (simp [errW_none, errW_some] <;> rfl) | (simp [*, errW_none, errW_some] <;> rfl), by repeat (first | (with_reducible first | exact HB.out | apply below_alloc | apply pw_below_drewN | apply below_drew1) | exact HB.out)⟩
        · rw [if_neg c10] at H
          have c10b0 : (t450 == 0) = false := beq_eq_false_iff_ne.mpr c10
          have c10b1 : (t450 != 0) = true := bne_iff_ne.mpr c10
          obtain rfl := Option.some.inj H
          obtain ⟨Ao19, co19, eo19⟩ := Kd.R_slice HO447.out
          subst eo19
          go_wp2_with (first | ((with_reducible refine gate_callee (f := 30) rfl ?_); refine goesL_ (some 30) rfl rfl Try.func30 (by kernel_rfl) rfl #[.slice Ao19 t444.length co19] rfl (by (try simp only [List.map_toArray, List.map_cons, List.map_nil]); first | done | rfl | (simp only [List.length_drop, List.length_take]; rfl)) ?_; (with_reducible refine (dump_Decode.calls _ _ t444 t448 t449 t450 _ ?side1 ?side2 A8.out).mono ?_); (case side1 => repeat (first | exact (Kd.R_reads' HO447.out).2.2 | (with_reducible refine Kd.C_alloc ?_ _) | (with_reducible refine Kd.C_drewN ?_ _) | (with_reducible refine Kd.C_drew ?_))); (case side2 => exact (Kd.R_reads' HO447.out).2.1); rintro e w20 ⟨v451, rfl, ho0, hb⟩; refine ⟨_, rfl, ?_⟩; have n0_ := Aside0.mk (Kd.R_below (by (with_reducible repeat (first | apply Kd.R_alloc | apply Kd.R_drewN | apply Kd.R_drew)); exact HO447.out) hb); have n1_ := Aside0.mk (Kd.R_lower ho0 (below_size (by repeat (first | (with_reducible first | exact HB.out | apply below_alloc | apply pw_below_drewN | apply below_drew1) | exact HB.out)))); have n2_ := Aside0.mk (below_step (by repeat (first | (with_reducible first | exact HB.out | apply below_alloc | apply pw_below_drewN | apply below_drew1) | exact HB.out)) hb); clear HO447; clear HB; have HO447 := n0_; have HO452 := n1_; have HB := n2_; clear n0_ n1_ n2_; (try clear hb); (try clear hb2); (try clear hk); (try clear hi); (try clear ho0)))
          go_ret
          exact ⟨by first | rfl | (simp [errW_none, errW_some] <;> rfl) | (simp [*, errW_none, errW_some] <;> rfl), by repeat (first | (with_reducible first | exact HB.out | apply below_alloc | apply pw_below_drewN | apply below_drew1) | exact HB.out)⟩
      · rw [if_neg c9] at H
        have c9b0 : (t449 == 0) = false := beq_eq_false_iff_ne.mpr c9
        have c9b1 : (t449 != 0) = true := bne_iff_ne.mpr c9
        obtain rfl := Option.some.inj H
        obtain ⟨Ao21, co21, eo21⟩ := Kd.R_slice HO447.out
        subst eo21
        go_wp2_with (first | ((with_reducible refine gate_callee (f := 30) rfl ?_); refine goesL_ (some 30) rfl rfl Try.func30 (by kernel_rfl) rfl #[.slice Ao21 t444.length co21] rfl (by (try simp only [List.map_toArray, List.map_cons, List.map_nil]); first | done | rfl | (simp only [List.length_drop, List.length_take]; rfl)) ?_; (with_reducible refine (dump_Decode.calls _ _ t444 t448 t449 t450 _ ?side1 ?side2 A8.out).mono ?_); (case side1 => repeat (first | exact (Kd.R_reads' HO447.out).2.2 | (with_reducible refine Kd.C_alloc ?_ _) | (with_reducible refine Kd.C_drewN ?_ _) | (with_reducible refine Kd.C_drew ?_))); (case side2 => exact (Kd.R_reads' HO447.out).2.1); rintro e w22 ⟨v451, rfl, ho0, hb⟩; refine ⟨_, rfl, ?_⟩; have n0_ := Aside0.mk (Kd.R_below (by (with_reducible repeat (first | apply Kd.R_alloc | apply Kd.R_drewN | apply Kd.R_drew)); exact HO447.out) hb); have n1_ := Aside0.mk (Kd.R_lower ho0 (below_size (by repeat (first | (with_reducible first | exact HB.out | apply below_alloc | apply pw_below_drewN | apply below_drew1) | exact HB.out)))); have n2_ := Aside0.mk (below_step (by repeat (first | (with_reducible first | exact HB.out | apply below_alloc | apply pw_below_drewN | apply below_drew1) | exact HB.out)) hb); clear HO447; clear HB; have HO447 := n0_; have HO452 := n1_; have HB := n2_; clear n0_ n1_ n2_; (try clear hb); (try clear hb2); (try clear hk); (try clear hi); (try clear ho0)))
        go_ret
        exact ⟨by first | rfl | (simp [errW_none, errW_some] <;> rfl) | (simp [*, errW_none, errW_some] <;> rfl), by repeat (first | (with_reducible first | exact HB.out | apply below_alloc | apply pw_below_drewN | apply below_drew1) | exact HB.out)⟩
    · rw [if_neg c7] at H
      have c7b0 : (t445 == 0) = false := beq_eq_false_iff_ne.mpr c7
      have c7b1 : (t445 != 0) = true := bne_iff_ne.mpr c7
      (first | rw [c7b0] | (simp only [i64_w, i32_w]; rw [c7b0]) | skip)
      have H' := Aside0.mk H
      clear H
      go_wp2
      go_meet
      case rel => exact ⟨_, H', ⟨by first | omega | exact Nat.le_refl _⟩, ⟨by repeat (first | (with_reducible first | exact HB.out | apply below_alloc | apply pw_below_drewN | apply below_drew1) | exact HB.out)⟩⟩
  case rest =>
    clear HC5
    try clear c1
    try clear c2
    try clear p2
    try clear c3
    try clear c7
    try clear c7b0
    try clear c7b1
    try clear c9
    try clear c9b0
    try clear c9b1
    try clear c10
    try clear c10b0
    try clear c10b1
    try clear c12
    obtain ⟨kq, HA, HJ4, HB⟩ := hcut
    cases kq with
    | zero => exact absurd HA.out (by simp [shutterlaw27_DumpBack.j0])
    | succ kj4 =>
      have H := HA.out
      clear HA
      simp only [shutterlaw27_DumpBack.j0] at H
      replace H := Option.bind_eq_some_iff.mp H
      obtain ⟨⟨t454, t455⟩, A230, H⟩ := H
      replace H : (if t455 = 0 then ((dump_Patch.f l0 t454).bind fun bt458 => (if bt458.2 = 0 then ((shutterref11_SamePairs.f kj4 bt458.1 l1).bind fun t462 => (if t462 = true then ((shutterref11_SamePairs.f kj4 l0 l1).bind fun t463 => (if (((t454.length : Int) == 0) != t463) = true then (some false) else (shutterlaw27_DumpBack.j1 kj4 l2))) else (some false))) else (some false))) else (shutterlaw27_DumpBack.j1 kj4 l2)) = some r := H
      have A23 := Aside0.mk A230
      clear A230
      have HC24 := Aside0.mk H
      clear H
      go_upto_if 53 with (first | ((with_reducible refine gate_callee (f := 11) rfl ?_); refine goesL_ (some 49) rfl rfl Try.func11 (by kernel_rfl) rfl #[.slice A0 l0.length c0, .slice A1 l1.length c1] rfl (by (try simp only [List.map_toArray, List.map_cons, List.map_nil]); first | done | rfl | (simp only [List.length_drop, List.length_take]; rfl)) ?_; (with_reducible refine (dump_Diff.calls _ _ l0 _ _ l1 t454 t455 _ ?side1 ?side2 ?side3 ?side4 A23.out).mono ?_); (case side1 => repeat (first | exact (Kd.C_below HR0.out HB.out) | (with_reducible refine Kd.C_alloc ?_ _) | (with_reducible refine Kd.C_drewN ?_ _) | (with_reducible refine Kd.C_drew ?_))); (case side2 => exact HC0.out); (case side3 => repeat (first | exact (Kd.C_below HR1.out HB.out) | (with_reducible refine Kd.C_alloc ?_ _) | (with_reducible refine Kd.C_drewN ?_ _) | (with_reducible refine Kd.C_drew ?_))); (case side4 => exact HC1.out); rintro e w25 ⟨v456, rfl, ho0, hb⟩; refine ⟨_, rfl, ?_⟩; have n0_ := Aside0.mk (Kd.R_lower ho0 (below_size (by repeat (first | (with_reducible first | exact HB.out | apply below_alloc | apply pw_below_drewN | apply below_drew1) | exact HB.out)))); have n1_ := Aside0.mk (below_step (by repeat (first | (with_reducible first | exact HB.out | apply below_alloc | apply pw_below_drewN | apply below_drew1) | exact HB.out)) hb); clear HB; have HO457 := n0_; have HB := n1_; clear n0_ n1_; (try clear hb); (try clear hb2); (try clear hk); (try clear hi); (try clear ho0)))
      (try simp only [Act.put, List.setIfInBounds_toArray, List.set_cons_zero, List.set_cons_succ])
      go_cut [] (fun wc => ∃ (kq : Nat), Aside0 (shutterlaw27_DumpBack.j1 kq l2 = some r) ∧ Aside0 (kq ≤ kj4) ∧ Aside0 (Below w.heap.size w wc))
      case first =>
        have H := HC24.out
        clear HC24
        by_cases c26 : t455 = 0
        · rw [if_pos c26] at H
          have c26b0 : (t455 == 0) = true := beq_iff_eq.mpr c26
          have c26b1 : (t455 != 0) = false := bne_eq_false_iff_eq.mpr c26
          clear c26
          (first | rw [c26b0] | (simp only [i64_w, i32_w]; rw [c26b0]) | skip)
          replace H := Option.bind_eq_some_iff.mp H
          obtain ⟨⟨t458, t459⟩, A270, H⟩ := H
          replace H : (if t459 = 0 then ((shutterref11_SamePairs.f kj4 t458 l1).bind fun t462 => (if t462 = true then ((shutterref11_SamePairs.f kj4 l0 l1).bind fun t463 => (if (((t454.length : Int) == 0) != t463) = true then (some false) else (shutterlaw27_DumpBack.j1 kj4 l2))) else (some false))) else (some false)) = some r := H
          have A27 := Aside0.mk A270
          clear A270
          by_cases c28 : t459 = 0
          · rw [if_pos c28] at H
            have c28b0 : (t459 == 0) = true := beq_iff_eq.mpr c28
            have c28b1 : (t459 != 0) = false := bne_eq_false_iff_eq.mpr c28
            clear c28
            replace H := Option.bind_eq_some_iff.mp H
            obtain ⟨t462, A290, H⟩ := H
            replace H : (if t462 = true then ((shutterref11_SamePairs.f kj4 l0 l1).bind fun t463 => (if (((t454.length : Int) == 0) != t463) = true then (some false) else (shutterlaw27_DumpBack.j1 kj4 l2))) else (some false)) = some r := H
            have A29 := Aside0.mk A290
            clear A290
            by_cases c30 : t462 = true
            · subst c30
              have H1 : ((shutterref11_SamePairs.f kj4 l0 l1).bind fun t463 => (if (((t454.length : Int) == 0) != t463) = true then (some false) else (shutterlaw27_DumpBack.j1 kj4 l2))) = some r := by rw [if_pos rfl] at H; exact H
              clear H
              have H := H1
              clear H1
              replace H := Option.bind_eq_some_iff.mp H
              obtain ⟨t463, A310, H⟩ := H
              replace H : (if (((t454.length : Int) == 0) != t463) = true then (some false) else (shutterlaw27_DumpBack.j1 kj4 l2)) = some r := H
              have A31 := Aside0.mk A310
              clear A310
              by_cases c32 : (((t454.length : Int) == 0) != t463) = true
              · rw [if_pos c32] at H
                have c32b0 : (((t454.length : Int) == 0) != t463) = true := c32
                (try (have c32b1 : decide (((t454.length : Int) == 0) = t463) = false := by simpa using c32))
                (try (have c32b2 : (((t454.length : Int) == 0) == t463) = false := by simpa using c32))
                (try (have c32b3 : ¬ (((t454.length : Int) == 0) = t463) := by simpa using c32))
                clear c32
                obtain rfl := Option.some.inj H
                obtain ⟨Ao33, co33, eo33⟩ := Kd.R_slice HO457.out
                subst eo33
                go_wp2_with (first | ((with_reducible refine gate_callee (f := 15) rfl ?_); refine goesL_ (some 57) rfl rfl Try.func15 (by kernel_rfl) rfl #[.slice A0 l0.length c0, .slice Ao33 t454.length co33] rfl (by (try simp only [List.map_toArray, List.map_cons, List.map_nil]); first | done | rfl | (simp only [List.length_drop, List.length_take]; rfl)) ?_; (with_reducible refine (dump_Patch.calls _ _ l0 _ _ t454 t458 t459 _ ?side1 ?side2 ?side3 ?side4 A27.out).mono ?_); (case side1 => repeat (first | exact (Kd.C_below HR0.out HB.out) | (with_reducible refine Kd.C_alloc ?_ _) | (with_reducible refine Kd.C_drewN ?_ _) | (with_reducible refine Kd.C_drew ?_))); (case side2 => exact HC0.out); (case side3 => repeat (first | exact (Kd.R_reads' HO457.out).2.2 | (with_reducible refine Kd.C_alloc ?_ _) | (with_reducible refine Kd.C_drewN ?_ _) | (with_reducible refine Kd.C_drew ?_))); (case side4 => exact (Kd.R_reads' HO457.out).2.1); rintro e w34 ⟨v460, rfl, ho0, hb⟩; refine ⟨_, rfl, ?_⟩; have n0_ := Aside0.mk (Kd.R_below (by (with_reducible repeat (first | apply Kd.R_alloc | apply Kd.R_drewN | apply Kd.R_drew)); exact HO457.out) hb); have n1_ := Aside0.mk (Kd.R_lower ho0 (below_size (by repeat (first | (with_reducible first | exact HB.out | apply below_alloc | apply pw_below_drewN | apply below_drew1) | exact HB.out)))); have n2_ := Aside0.mk (below_step (by repeat (first | (with_reducible first | exact HB.out | apply below_alloc | apply pw_below_drewN | apply below_drew1) | exact HB.out)) hb); clear HO457; clear HB; have HO457 := n0_; have HO461 := n1_; have HB := n2_; clear n0_ n1_ n2_; (try clear hb); (try clear hb2); (try clear hk); (try clear hi); (try clear ho0); obtain ⟨Ao35, co35, eo35⟩ := Kd.R_slice HO461.out; subst eo35) | (go_at_call 17; (with_reducible refine (shutterref11_SamePairs.calls kj4 _ _ t458 _ _ l1 true _ ?side1 ?side2 ?side3 ?side4 A29.out).mono ?_); (case side1 => repeat (first | exact (Kd.R_reads' HO461.out).2.2 | (with_reducible refine Kd.C_alloc ?_ _) | (with_reducible refine Kd.C_drewN ?_ _) | (with_reducible refine Kd.C_drew ?_))); (case side2 => exact (Kd.R_reads' HO461.out).2.1); (case side3 => repeat (first | exact (Kd.C_below HR1.out HB.out) | (with_reducible refine Kd.C_alloc ?_ _) | (with_reducible refine Kd.C_drewN ?_ _) | (with_reducible refine Kd.C_drew ?_))); (case side4 => exact HC1.out); rintro e w' ⟨rfl, ⟨nd, rfl⟩⟩) | (go_at_call 17; (with_reducible refine (shutterref11_SamePairs.calls kj4 _ _ l0 _ _ l1 t463 _ ?side1 ?side2 ?side3 ?side4 A31.out).mono ?_); (case side1 => repeat (first | exact (Kd.C_below HR0.out (by repeat (first | (with_reducible first | exact HB.out | apply below_alloc | apply pw_below_drewN | apply below_drew1) | exact HB.out))) | (with_reducible refine Kd.C_alloc ?_ _) | (with_reducible refine Kd.C_drewN ?_ _) | (with_reducible refine Kd.C_drew ?_))); (case side2 => exact HC0.out); (case side3 => repeat (first | exact (Kd.C_below HR1.out (by repeat (first | (with_reducible first | exact HB.out | apply below_alloc | apply pw_below_drewN | apply below_drew1) | exact HB.out))) | (with_reducible refine Kd.C_alloc ?_ _) | (with_reducible refine Kd.C_drewN ?_ _) | (with_reducible refine Kd.C_drew ?_))); (case side4 => exact HC1.out); rintro e w' ⟨rfl, ⟨nd, rfl⟩⟩))
                go_ret
                exact ⟨by first | rfl | (simp [errW_none, errW_some] <;> rfl) | (simp [*, errW_none, errW_some] <;> rfl), by repeat (first | (with_reducible first | exact HB.out | apply below_alloc | apply pw_below_drewN | apply below_drew1) | exact HB.out)⟩
              · rw [if_neg c32] at H
                have c32b0 : (((t454.length : Int) == 0) != t463) = false := by simpa using c32
                (try (have c32b1 : decide (((t454.length : Int) == 0) = t463) = true := by simpa using c32))
                (try (have c32b2 : (((t454.length : Int) == 0) == t463) = true := by simpa using c32))
                clear c32
                have H' := Aside0.mk H
                clear H
                obtain ⟨Ao36, co36, eo36⟩ := Kd.R_slice HO457.out
                subst eo36
                go_wp2_with (first | ((with_reducible refine gate_callee (f := 15) rfl ?_); refine goesL_ (some 57) rfl rfl Try.func15 (by kernel_rfl) rfl #[.slice A0 l0.length c0, .slice Ao36 t454.length co36] rfl (by (try simp only [List.map_toArray, List.map_cons, List.map_nil]); first | done | rfl | (simp only [List.length_drop, List.length_take]; rfl)) ?_; (with_reducible refine (dump_Patch.calls _ _ l0 _ _ t454 t458 t459 _ ?side1 ?side2 ?side3 ?side4 A27.out).mono ?_); (case side1 => repeat (first | exact (Kd.C_below HR0.out HB.out) | (with_reducible refine Kd.C_alloc ?_ _) | (with_reducible refine Kd.C_drewN ?_ _) | (with_reducible refine Kd.C_drew ?_))); (case side2 => exact HC0.out); (case side3 => repeat (first | exact (Kd.R_reads' HO457.out).2.2 | (with_reducible refine Kd.C_alloc ?_ _) | (with_reducible refine Kd.C_drewN ?_ _) | (with_reducible refine Kd.C_drew ?_))); (case side4 => exact (Kd.R_reads' HO457.out).2.1); rintro e w37 ⟨v460, rfl, ho0, hb⟩; refine ⟨_, rfl, ?_⟩; have n0_ := Aside0.mk (Kd.R_below (by (with_reducible repeat (first | apply Kd.R_alloc | apply Kd.R_drewN | apply Kd.R_drew)); exact HO457.out) hb); have n1_ := Aside0.mk (Kd.R_lower ho0 (below_size (by repeat (first | (with_reducible first | exact HB.out | apply below_alloc | apply pw_below_drewN | apply below_drew1) | exact HB.out)))); have n2_ := Aside0.mk (below_step (by repeat (first | (with_reducible first | exact HB.out | apply below_alloc | apply pw_below_drewN | apply below_drew1) | exact HB.out)) hb); clear HO457; clear HB; have HO457 := n0_; have HO461 := n1_; have HB := n2_; clear n0_ n1_ n2_; (try clear hb); (try clear hb2); (try clear hk); (try clear hi); (try clear ho0); obtain ⟨Ao38, co38, eo38⟩ := Kd.R_slice HO461.out; subst eo38) | (go_at_call 17; (with_reducible refine (shutterref11_SamePairs.calls kj4 _ _ t458 _ _ l1 true _ ?side1 ?side2 ?side3 ?side4 A29.out).mono ?_); (case side1 => repeat (first | exact (Kd.R_reads' HO461.out).2.2 | (with_reducible refine Kd.C_alloc ?_ _) | (with_reducible refine Kd.C_drewN ?_ _) | (with_reducible refine Kd.C_drew ?_))); (case side2 => exact (Kd.R_reads' HO461.out).2.1); (case side3 => repeat (first | exact (Kd.C_below HR1.out HB.out) | (with_reducible refine Kd.C_alloc ?_ _) | (with_reducible refine Kd.C_drewN ?_ _) | (with_reducible refine Kd.C_drew ?_))); (case side4 => exact HC1.out); rintro e w' ⟨rfl, ⟨nd, rfl⟩⟩) | (go_at_call 17; (with_reducible refine (shutterref11_SamePairs.calls kj4 _ _ l0 _ _ l1 t463 _ ?side1 ?side2 ?side3 ?side4 A31.out).mono ?_); (case side1 => repeat (first | exact (Kd.C_below HR0.out (by repeat (first | (with_reducible first | exact HB.out | apply below_alloc | apply pw_below_drewN | apply below_drew1) | exact HB.out))) | (with_reducible refine Kd.C_alloc ?_ _) | (with_reducible refine Kd.C_drewN ?_ _) | (with_reducible refine Kd.C_drew ?_))); (case side2 => exact HC0.out); (case side3 => repeat (first | exact (Kd.C_below HR1.out (by repeat (first | (with_reducible first | exact HB.out | apply below_alloc | apply pw_below_drewN | apply below_drew1) | exact HB.out))) | (with_reducible refine Kd.C_alloc ?_ _) | (with_reducible refine Kd.C_drewN ?_ _) | (with_reducible refine Kd.C_drew ?_))); (case side4 => exact HC1.out); rintro e w' ⟨rfl, ⟨nd, rfl⟩⟩))
                go_meet
                case rel => exact ⟨_, H', ⟨by have := HJ4.out; first | omega | exact Nat.le_refl _⟩, ⟨by repeat (first | (with_reducible first | exact HB.out | apply below_alloc | apply pw_below_drewN | apply below_drew1) | exact HB.out)⟩⟩
            · replace c30 := Bool.eq_false_iff.mpr c30
              subst c30
              have H1 : (some false) = some r := by rw [if_neg (show ¬ (false = true) by decide)] at H; exact H
              clear H
              have H := H1
              clear H1
              obtain rfl := Option.some.inj H
              obtain ⟨Ao39, co39, eo39⟩ := Kd.R_slice HO457.out
              subst eo39
              go_wp2_with (first | ((with_reducible refine gate_callee (f := 15) rfl ?_); refine goesL_ (some 57) rfl rfl Try.func15 (by kernel_rfl) rfl #[.slice A0 l0.length c0, .slice Ao39 t454.length co39] rfl (by (try simp only [List.map_toArray, List.map_cons, List.map_nil]); first | done | rfl | (simp only [List.length_drop, List.length_take]; rfl)) ?_; (with_reducible refine (dump_Patch.calls _ _ l0 _ _ t454 t458 t459 _ ?side1 ?side2 ?side3 ?side4 A27.out).mono ?_); (case side1 => repeat (first | exact (Kd.C_below HR0.out HB.out) | (with_reducible refine Kd.C_alloc ?_ _) | (with_reducible refine Kd.C_drewN ?_ _) | (with_reducible refine Kd.C_drew ?_))); (case side2 => exact HC0.out); (case side3 => repeat (first | exact (Kd.R_reads' HO457.out).2.2 | (with_reducible refine Kd.C_alloc ?_ _) | (with_reducible refine Kd.C_drewN ?_ _) | (with_reducible refine Kd.C_drew ?_))); (case side4 => exact (Kd.R_reads' HO457.out).2.1); rintro e w40 ⟨v460, rfl, ho0, hb⟩; refine ⟨_, rfl, ?_⟩; have n0_ := Aside0.mk (Kd.R_below (by (with_reducible repeat (first | apply Kd.R_alloc | apply Kd.R_drewN | apply Kd.R_drew)); exact HO457.out) hb); have n1_ := Aside0.mk (Kd.R_lower ho0 (below_size (by repeat (first | (with_reducible first | exact HB.out | apply below_alloc | apply pw_below_drewN | apply below_drew1) | exact HB.out)))); have n2_ := Aside0.mk (below_step (by repeat (first | (with_reducible first | exact HB.out | apply below_alloc | apply pw_below_drewN | apply below_drew1) | exact HB.out)) hb); clear HO457; clear HB; have HO457 := n0_; have HO461 := n1_; have HB := n2_; clear n0_ n1_ n2_; (try clear hb); (try clear hb2); (try clear hk); (try clear hi); (try clear ho0); obtain ⟨Ao41, co41, eo41⟩ := Kd.R_slice HO461.out; subst eo41) | (go_at_call 17; (with_reducible refine (shutterref11_SamePairs.calls kj4 _ _ t458 _ _ l1 false _ ?side1 ?side2 ?side3 ?side4 A29.out).mono ?_); (case side1 => repeat (first | exact (Kd.R_reads' HO461.out).2.2 | (with_reducible refine Kd.C_alloc ?_ _) | (with_reducible refine Kd.C_drewN ?_ _) | (with_reducible refine Kd.C_drew ?_))); (case side2 => exact (Kd.R_reads' HO461.out).2.1); (case side3 => repeat (first | exact (Kd.C_below HR1.out HB.out) | (with_reducible refine Kd.C_alloc ?_ _) | (with_reducible refine Kd.C_drewN ?_ _) | (with_reducible refine Kd.C_drew ?_))); (case side4 => exact HC1.out); rintro e w' ⟨rfl, ⟨nd, rfl⟩⟩))
              go_ret
              exact ⟨by first | rfl | (simp [errW_none, errW_some] <;> rfl) | (simp [*, errW_none, errW_some] <;> rfl), by repeat (first | (with_reducible first | exact HB.out | apply below_alloc | apply pw_below_drewN | apply below_drew1) | exact HB.out)⟩
          · rw [if_neg c28] at H
            have c28b0 : (t459 == 0) = false := beq_eq_false_iff_ne.mpr c28
            have c28b1 : (t459 != 0) = true := bne_iff_ne.mpr c28
            obtain rfl := Option.some.inj H
            obtain ⟨Ao42, co42, eo42⟩ := Kd.R_slice HO457.out
            subst eo42
            go_wp2_with (first | ((with_reducible refine gate_callee (f := 15) rfl ?_); refine goesL_ (some 57) rfl rfl Try.func15 (by kernel_rfl) rfl #[.slice A0 l0.length c0, .slice Ao42 t454.length co42] rfl (by (try simp only [List.map_toArray, List.map_cons, List.map_nil]); first | done | rfl | (simp only [List.length_drop, List.length_take]; rfl)) ?_; (with_reducible refine (dump_Patch.calls _ _ l0 _ _ t454 t458 t459 _ ?side1 ?side2 ?side3 ?side4 A27.out).mono ?_); (case side1 => repeat (first | exact (Kd.C_below HR0.out HB.out) | (with_reducible refine Kd.C_alloc ?_ _) | (with_reducible refine Kd.C_drewN ?_ _) | (with_reducible refine Kd.C_drew ?_))); (case side2 => exact HC0.out); (case side3 => repeat (first | exact (Kd.R_reads' HO457.out).2.2 | (with_reducible refine Kd.C_alloc ?_ _) | (with_reducible refine Kd.C_drewN ?_ _) | (with_reducible refine Kd.C_drew ?_))); (case side4 => exact (Kd.R_reads' HO457.out).2.1); rintro e w43 ⟨v460, rfl, ho0, hb⟩; refine ⟨_, rfl, ?_⟩; have n0_ := Aside0.mk (Kd.R_below (by (with_reducible repeat (first | apply Kd.R_alloc | apply Kd.R_drewN | apply Kd.R_drew)); exact HO457.out) hb); have n1_ := Aside0.mk (Kd.R_lower ho0 (below_size (by repeat (first | (with_reducible first | exact HB.out | apply below_alloc | apply pw_below_drewN | apply below_drew1) | exact HB.out)))); have n2_ := Aside0.mk (below_step (by repeat (first | (with_reducible first | exact HB.out | apply below_alloc | apply pw_below_drewN | apply below_drew1) | exact HB.out)) hb); clear HO457; clear HB; have HO457 := n0_; have HO461 := n1_; have HB := n2_; clear n0_ n1_ n2_; (try clear hb); (try clear hb2); (try clear hk); (try clear hi); (try clear ho0)))
            go_ret
            exact ⟨by first | rfl | (simp [errW_none, errW_some] <;> rfl) | (simp [*, errW_none, errW_some] <;> rfl), by repeat (first | (with_reducible first | exact HB.out | apply below_alloc | apply pw_below_drewN | apply below_drew1) | exact HB.out)⟩
        · rw [if_neg c26] at H
          have c26b0 : (t455 == 0) = false := beq_eq_false_iff_ne.mpr c26
          have c26b1 : (t455 != 0) = true := bne_iff_ne.mpr c26
          (first | rw [c26b0] | (simp only [i64_w, i32_w]; rw [c26b0]) | skip)
          have H' := Aside0.mk H
          clear H
          go_wp2
          go_meet
          case rel => exact ⟨_, H', ⟨by have := HJ4.out; first | omega | exact Nat.le_refl _⟩, ⟨by repeat (first | (with_reducible first | exact HB.out | apply below_alloc | apply pw_below_drewN | apply below_drew1) | exact HB.out)⟩⟩
      case rest =>
        clear HC24
        try clear c1
        try clear c2
        try clear p2
        try clear c3
        try clear c7
        try clear c7b0
        try clear c7b1
        try clear c9
        try clear c9b0
        try clear c9b1
        try clear c10
        try clear c10b0
        try clear c10b1
        try clear c11
        try clear c12
        try clear c15
        try clear c26
        try clear c26b0
        try clear c26b1
        try clear c28
        try clear c28b0
        try clear c28b1
        try clear c30
        try clear c32
        try clear c32b0
        try clear c32b1
        try clear c32b2
        try clear p2
        obtain ⟨kq, HA, HJ23, HB⟩ := hcut
        cases kq with
        | zero => exact absurd HA.out (by simp [shutterlaw27_DumpBack.j1])
        | succ kj23 =>
          have H := HA.out
          clear HA
          simp only [shutterlaw27_DumpBack.j1] at H
          replace H := Option.bind_eq_some_iff.mp H
          obtain ⟨⟨t464, t465, t466⟩, A440, H⟩ := H
          replace H : (if t465 = 0 then ((dump_Encode.f t464).bind fun bt469 => ((shutterlaw27_live.f).bind fun t473 => (if t473 = true then (if bt469.2 = 0 then ((shuttermem_Same.f kj23 bt469.1 l2).bind fun t474 => (some t474)) else (some false)) else (some false)))) else ((shutterlaw27_live.f).bind fun t475 => (if t475 = true then (some ((t464.length : Int) == 0)) else (some false)))) = some r := H
          have A44 := Aside0.mk A440
          clear A440
          by_cases c45 : t465 = 0
          · rw [if_pos c45] at H
            have c45b0 : (t465 == 0) = true := beq_iff_eq.mpr c45
            have c45b1 : (t465 != 0) = false := bne_eq_false_iff_eq.mpr c45
            clear c45
            replace H := Option.bind_eq_some_iff.mp H
            obtain ⟨⟨t469, t470⟩, A460, H⟩ := H
            replace H : ((shutterlaw27_live.f).bind fun t473 => (if t473 = true then (if t470 = 0 then ((shuttermem_Same.f kj23 t469 l2).bind fun t474 => (some t474)) else (some false)) else (some false))) = some r := H
            have A46 := Aside0.mk A460
            clear A460
            replace H := Option.bind_eq_some_iff.mp H
            obtain ⟨t473, A470, H⟩ := H
            replace H : (if t473 = true then (if t470 = 0 then ((shuttermem_Same.f kj23 t469 l2).bind fun t474 => (some t474)) else (some false)) else (some false)) = some r := H
            have A47 := Aside0.mk A470
            clear A470
            by_cases c48 : t473 = true
            · subst c48
              have H1 : (if t470 = 0 then ((shuttermem_Same.f kj23 t469 l2).bind fun t474 => (some t474)) else (some false)) = some r := by rw [if_pos rfl] at H; exact H
              clear H
              have H := H1
              clear H1
              by_cases c49 : t470 = 0
              · rw [if_pos c49] at H
                have c49b0 : (t470 == 0) = true := beq_iff_eq.mpr c49
                have c49b1 : (t470 != 0) = false := bne_eq_false_iff_eq.mpr c49
                clear c49
                replace H := Option.bind_eq_some_iff.mp H
                obtain ⟨t474, A500, H⟩ := H
                replace H : (some t474) = some r := H
                have A50 := Aside0.mk A500
                clear A500
                obtain rfl := Option.some.inj H
                go_wp2_with (first | ((with_reducible refine gate_callee (f := 30) rfl ?_); refine goesL_ (some 79) rfl rfl Try.func30 (by kernel_rfl) rfl #[.slice A2 l2.length c2] rfl (by (try simp only [List.map_toArray, List.map_cons, List.map_nil]); first | done | rfl | (simp only [List.length_drop, List.length_take]; rfl)) ?_; (with_reducible refine (dump_Decode.calls _ _ l2 t464 t465 t466 _ ?side1 ?side2 A44.out).mono ?_); (case side1 => repeat (first | exact (Kd.C_below HR2.out HB.out) | (with_reducible refine Kd.C_alloc ?_ _) | (with_reducible refine Kd.C_drewN ?_ _) | (with_reducible refine Kd.C_drew ?_))); (case side2 => exact HC2.out); rintro e w51 ⟨v467, rfl, ho0, hb⟩; refine ⟨_, rfl, ?_⟩; have n0_ := Aside0.mk (Kd.R_lower ho0 (below_size (by repeat (first | (with_reducible first | exact HB.out | apply below_alloc | apply pw_below_drewN | apply below_drew1) | exact HB.out)))); have n1_ := Aside0.mk (below_step (by repeat (first | (with_reducible first | exact HB.out | apply below_alloc | apply pw_below_drewN | apply below_drew1) | exact HB.out)) hb); clear HB; have HO468 := n0_; have HB := n1_; clear n0_ n1_; (try clear hb); (try clear hb2); (try clear hk); (try clear hi); (try clear ho0); obtain ⟨Ao52, co52, eo52⟩ := Kd.R_slice HO468.out; subst eo52) | ((with_reducible refine gate_callee (f := 28) rfl ?_); refine goesL_ (some 93) rfl rfl Try.func28 (by kernel_rfl) rfl #[.slice Ao52 t464.length co52] rfl (by (try simp only [List.map_toArray, List.map_cons, List.map_nil]); first | done | rfl | (simp only [List.length_drop, List.length_take]; rfl)) ?_; (with_reducible refine (dump_Encode.calls _ _ t464 t469 t470 _ ?side1 ?side2 A46.out).mono ?_); (case side1 => repeat (first | exact (Kd.R_reads' HO468.out).2.2 | (with_reducible refine Kd.C_alloc ?_ _) | (with_reducible refine Kd.C_drewN ?_ _) | (with_reducible refine Kd.C_drew ?_))); (case side2 => exact (Kd.R_reads' HO468.out).2.1); rintro e w53 ⟨v471, rfl, ho0, hb⟩; refine ⟨_, rfl, ?_⟩; have n0_ := Aside0.mk (Kd.R_below (by (with_reducible repeat (first | apply Kd.R_alloc | apply Kd.R_drewN | apply Kd.R_drew)); exact HO468.out) hb); have n1_ := Aside0.mk (Kd.R_lower ho0 (below_size (by repeat (first | (with_reducible first | exact HB.out | apply below_alloc | apply pw_below_drewN | apply below_drew1) | exact HB.out)))); have n2_ := Aside0.mk (below_step (by repeat (first | (with_reducible first | exact HB.out | apply below_alloc | apply pw_below_drewN | apply below_drew1) | exact HB.out)) hb); clear HO468; clear HB; have HO468 := n0_; have HO472 := n1_; have HB := n2_; clear n0_ n1_ n2_; (try clear hb); (try clear hb2); (try clear hk); (try clear hi); (try clear ho0)) | ((with_reducible refine gate_callee (f := 12) rfl ?_); refine goesL_ (some 96) rfl rfl Try.func12 (by kernel_rfl) rfl #[] rfl (by (try simp only [List.map_toArray, List.map_cons, List.map_nil]); first | done | rfl | (simp only [List.length_drop, List.length_take]; rfl)) ?_; (with_reducible refine (shutterlaw27_live.calls  true _ A47.out).mono ?_); rintro e w54 ⟨rfl, hb⟩; refine ⟨_, rfl, ?_⟩; have n0_ := Aside0.mk (Kd.R_below (by (with_reducible repeat (first | apply Kd.R_alloc | apply Kd.R_drewN | apply Kd.R_drew)); exact HO468.out) hb); have n1_ := Aside0.mk (Kd.R_below (by (with_reducible repeat (first | apply Kd.R_alloc | apply Kd.R_drewN | apply Kd.R_drew)); exact HO472.out) hb); have n2_ := Aside0.mk (below_step (by repeat (first | (with_reducible first | exact HB.out | apply below_alloc | apply pw_below_drewN | apply below_drew1) | exact HB.out)) hb); clear HO468; clear HO472; clear HB; have HO468 := n0_; have HO472 := n1_; have HB := n2_; clear n0_ n1_ n2_; (try clear hb); (try clear hb2); (try clear hk); (try clear hi); obtain ⟨Ao55, co55, eo55⟩ := Kd.R_slice HO472.out; subst eo55) | (go_at_call 32; (with_reducible refine (shuttermem_Same.calls kj23 _ _ t469 _ _ l2 t474 _ ?side1 ?side2 ?side3 ?side4 A50.out).mono ?_); (case side1 => repeat (first | exact (Kd.R_reads' HO472.out).2.2 | (with_reducible refine Kd.C_alloc ?_ _) | (with_reducible refine Kd.C_drewN ?_ _) | (with_reducible refine Kd.C_drew ?_))); (case side2 => exact (Kd.R_reads' HO472.out).2.1); (case side3 => repeat (first | exact (Kd.C_below HR2.out HB.out) | (with_reducible refine Kd.C_alloc ?_ _) | (with_reducible refine Kd.C_drewN ?_ _) | (with_reducible refine Kd.C_drew ?_))); (case side4 => exact HC2.out); rintro e w' ⟨rfl, ⟨nd, rfl⟩⟩))
                go_ret
                exact ⟨by first | rfl | (simp [errW_none, errW_some] <;> rfl) | (simp [*, errW_none, errW_some] <;> rfl), by repeat (first | (with_reducible first | exact HB.out | apply below_alloc | apply pw_below_drewN | apply below_drew1) | exact HB.out)⟩
              · rw [if_neg c49] at H
                have c49b0 : (t470 == 0) = false := beq_eq_false_iff_ne.mpr c49
                have c49b1 : (t470 != 0) = true := bne_iff_ne.mpr c49
                obtain rfl := Option.some.inj H
                go_wp2_with (first | ((with_reducible refine gate_callee (f := 30) rfl ?_); refine goesL_ (some 79) rfl rfl Try.func30 (by kernel_rfl) rfl #[.slice A2 l2.length c2] rfl (by (try simp only [List.map_toArray, List.map_cons, List.map_nil]); first | done | rfl | (simp only [List.length_drop, List.length_take]; rfl)) ?_; (with_reducible refine (dump_Decode.calls _ _ l2 t464 t465 t466 _ ?side1 ?side2 A44.out).mono ?_); (case side1 => repeat (first | exact (Kd.C_below HR2.out HB.out) | (with_reducible refine Kd.C_alloc ?_ _) | (with_reducible refine Kd.C_drewN ?_ _) | (with_reducible refine Kd.C_drew ?_))); (case side2 => exact HC2.out); rintro e w56 ⟨v467, rfl, ho0, hb⟩; refine ⟨_, rfl, ?_⟩; have n0_ := Aside0.mk (Kd.R_lower ho0 (below_size (by repeat (first | (with_reducible first | exact HB.out | apply below_alloc | apply pw_below_drewN | apply below_drew1) | exact HB.out)))); have n1_ := Aside0.mk (below_step (by repeat (first | (with_reducible first | exact HB.out | apply below_alloc | apply pw_below_drewN | apply below_drew1) | exact HB.out)) hb); clear HB; have HO468 := n0_; have HB := n1_; clear n0_ n1_; (try clear hb); (try clear hb2); (try clear hk); (try clear hi); (try clear ho0); obtain ⟨Ao57, co57, eo57⟩ := Kd.R_slice HO468.out; subst eo57) | ((with_reducible refine gate_callee (f := 28) rfl ?_); refine goesL_ (some 93) rfl rfl Try.func28 (by kernel_rfl) rfl #[.slice Ao57 t464.length co57] rfl (by (try simp only [List.map_toArray, List.map_cons, List.map_nil]); first | done | rfl | (simp only [List.length_drop, List.length_take]; rfl)) ?_; (with_reducible refine (dump_Encode.calls _ _ t464 t469 t470 _ ?side1 ?side2 A46.out).mono ?_); (case side1 => repeat (first | exact (Kd.R_reads' HO468.out).2.2 | (with_reducible refine Kd.C_alloc ?_ _) | (with_reducible refine Kd.C_drewN ?_ _) | (with_reducible refine Kd.C_drew ?_))); (case side2 => exact (Kd.R_reads' HO468.out).2.1); rintro e w58 ⟨v471, rfl, ho0, hb⟩; refine ⟨_, rfl, ?_⟩; have n0_ := Aside0.mk (Kd.R_below (by (with_reducible repeat (first | apply Kd.R_alloc | apply Kd.R_drewN | apply Kd.R_drew)); exact HO468.out) hb); have n1_ := Aside0.mk (Kd.R_lower ho0 (below_size (by repeat (first | (with_reducible first | exact HB.out | apply below_alloc | apply pw_below_drewN | apply below_drew1) | exact HB.out)))); have n2_ := Aside0.mk (below_step (by repeat (first | (with_reducible first | exact HB.out | apply below_alloc | apply pw_below_drewN | apply below_drew1) | exact HB.out)) hb); clear HO468; clear HB; have HO468 := n0_; have HO472 := n1_; have HB := n2_; clear n0_ n1_ n2_; (try clear hb); (try clear hb2); (try clear hk); (try clear hi); (try clear ho0)) | ((with_reducible refine gate_callee (f := 12) rfl ?_); refine goesL_ (some 96) rfl rfl Try.func12 (by kernel_rfl) rfl #[] rfl (by (try simp only [List.map_toArray, List.map_cons, List.map_nil]); first | done | rfl | (simp only [List.length_drop, List.length_take]; rfl)) ?_; (with_reducible refine (shutterlaw27_live.calls  true _ A47.out).mono ?_); rintro e w59 ⟨rfl, hb⟩; refine ⟨_, rfl, ?_⟩; have n0_ := Aside0.mk (Kd.R_below (by (with_reducible repeat (first | apply Kd.R_alloc | apply Kd.R_drewN | apply Kd.R_drew)); exact HO468.out) hb); have n1_ := Aside0.mk (Kd.R_below (by (with_reducible repeat (first | apply Kd.R_alloc | apply Kd.R_drewN | apply Kd.R_drew)); exact HO472.out) hb); have n2_ := Aside0.mk (below_step (by repeat (first | (with_reducible first | exact HB.out | apply below_alloc | apply pw_below_drewN | apply below_drew1) | exact HB.out)) hb); clear HO468; clear HO472; clear HB; have HO468 := n0_; have HO472 := n1_; have HB := n2_; clear n0_ n1_ n2_; (try clear hb); (try clear hb2); (try clear hk); (try clear hi)))
                go_ret
                exact ⟨by first | rfl | (simp [errW_none, errW_some] <;> rfl) | (simp [*, errW_none, errW_some] <;> rfl), by repeat (first | (with_reducible first | exact HB.out | apply below_alloc | apply pw_below_drewN | apply below_drew1) | exact HB.out)⟩
            · replace c48 := Bool.eq_false_iff.mpr c48
              subst c48
              have H1 : (some false) = some r := by rw [if_neg (show ¬ (false = true) by decide)] at H; exact H
              clear H
              have H := H1
              clear H1
              obtain rfl := Option.some.inj H
              go_wp2_with (first | ((with_reducible refine gate_callee (f := 30) rfl ?_); refine goesL_ (some 79) rfl rfl Try.func30 (by kernel_rfl) rfl #[.slice A2 l2.length c2] rfl (by (try simp only [List.map_toArray, List.map_cons, List.map_nil]); first | done | rfl | (simp only [List.length_drop, List.length_take]; rfl)) ?_; (with_reducible refine (dump_Decode.calls _ _ l2 t464 t465 t466 _ ?side1 ?side2 A44.out).mono ?_); (case side1 => repeat (first | exact (Kd.C_below HR2.out HB.out) | (with_reducible refine Kd.C_alloc ?_ _) | (with_reducible refine Kd.C_drewN ?_ _) | (with_reducible refine Kd.C_drew ?_))); (case side2 => exact HC2.out); rintro e w60 ⟨v467, rfl, ho0, hb⟩; refine ⟨_, rfl, ?_⟩; have n0_ := Aside0.mk (Kd.R_lower ho0 (below_size (by repeat (first | (with_reducible first | exact HB.out | apply below_alloc | apply pw_below_drewN | apply below_drew1) | exact HB.out)))); have n1_ := Aside0.mk (below_step (by repeat (first | (with_reducible first | exact HB.out | apply below_alloc | apply pw_below_drewN | apply below_drew1) | exact HB.out)) hb); clear HB; have HO468 := n0_; have HB := n1_; clear n0_ n1_; (try clear hb); (try clear hb2); (try clear hk); (try clear hi); (try clear ho0); obtain ⟨Ao61, co61, eo61⟩ := Kd.R_slice HO468.out; subst eo61) | ((with_reducible refine gate_callee (f := 28) rfl ?_); refine goesL_ (some 93) rfl rfl Try.func28 (by kernel_rfl) rfl #[.slice Ao61 t464.length co61] rfl (by (try simp only [List.map_toArray, List.map_cons, List.map_nil]); first | done | rfl | (simp only [List.length_drop, List.length_take]; rfl)) ?_; (with_reducible refine (dump_Encode.calls _ _ t464 t469 t470 _ ?side1 ?side2 A46.out).mono ?_); (case side1 => repeat (first | exact (Kd.R_reads' HO468.out).2.2 | (with_reducible refine Kd.C_alloc ?_ _) | (with_reducible refine Kd.C_drewN ?_ _) | (with_reducible refine Kd.C_drew ?_))); (case side2 => exact (Kd.R_reads' HO468.out).2.1); rintro e w62 ⟨v471, rfl, ho0, hb⟩; refine ⟨_, rfl, ?_⟩; have n0_ := Aside0.mk (Kd.R_below (by (with_reducible repeat (first | apply Kd.R_alloc | apply Kd.R_drewN | apply Kd.R_drew)); exact HO468.out) hb); have n1_ := Aside0.mk (Kd.R_lower ho0 (below_size (by repeat (first | (with_reducible first | exact HB.out | apply below_alloc | apply pw_below_drewN | apply below_drew1) | exact HB.out)))); have n2_ := Aside0.mk (below_step (by repeat (first | (with_reducible first | exact HB.out | apply below_alloc | apply pw_below_drewN | apply below_drew1) | exact HB.out)) hb); clear HO468; clear HB; have HO468 := n0_; have HO472 := n1_; have HB := n2_; clear n0_ n1_ n2_; (try clear hb); (try clear hb2); (try clear hk); (try clear hi); (try clear ho0)) | ((with_reducible refine gate_callee (f := 12) rfl ?_); refine goesL_ (some 96) rfl rfl Try.func12 (by kernel_rfl) rfl #[] rfl (by (try simp only [List.map_toArray, List.map_cons, List.map_nil]); first | done | rfl | (simp only [List.length_drop, List.length_take]; rfl)) ?_; (with_reducible refine (shutterlaw27_live.calls  false _ A47.out).mono ?_); rintro e w63 ⟨rfl, hb⟩; refine ⟨_, rfl, ?_⟩; have n0_ := Aside0.mk (Kd.R_below (by (with_reducible repeat (first | apply Kd.R_alloc | apply Kd.R_drewN | apply Kd.R_drew)); exact HO468.out) hb); have n1_ := Aside0.mk (Kd.R_below (by (with_reducible repeat (first | apply Kd.R_alloc | apply Kd.R_drewN | apply Kd.R_drew)); exact HO472.out) hb); have n2_ := Aside0.mk (below_step (by repeat (first | (with_reducible first | exact HB.out | apply below_alloc | apply pw_below_drewN | apply below_drew1) | exact HB.out)) hb); clear HO468; clear HO472; clear HB; have HO468 := n0_; have HO472 := n1_; have HB := n2_; clear n0_ n1_ n2_; (try clear hb); (try clear hb2); (try clear hk); (try clear hi)))
              go_ret
              exact ⟨by first | rfl | (simp [errW_none, errW_some] <;> rfl) | (simp [*, errW_none, errW_some] <;> rfl), by repeat (first | (with_reducible first | exact HB.out | apply below_alloc | apply pw_below_drewN | apply below_drew1) | exact HB.out)⟩
          · rw [if_neg c45] at H
            have c45b0 : (t465 == 0) = false := beq_eq_false_iff_ne.mpr c45
            have c45b1 : (t465 != 0) = true := bne_iff_ne.mpr c45
            replace H := Option.bind_eq_some_iff.mp H
            obtain ⟨t475, A640, H⟩ := H
            replace H : (if t475 = true then (some ((t464.length : Int) == 0)) else (some false)) = some r := H
            have A64 := Aside0.mk A640
            clear A640
            by_cases c65 : t475 = true
            · subst c65
              have H1 : (some ((t464.length : Int) == 0)) = some r := by rw [if_pos rfl] at H; exact H
              clear H
              have H := H1
              clear H1
              obtain rfl := Option.some.inj H
              go_wp2_with (first | ((with_reducible refine gate_callee (f := 30) rfl ?_); refine goesL_ (some 79) rfl rfl Try.func30 (by kernel_rfl) rfl #[.slice A2 l2.length c2] rfl (by (try simp only [List.map_toArray, List.map_cons, List.map_nil]); first | done | rfl | (simp only [List.length_drop, List.length_take]; rfl)) ?_; (with_reducible refine (dump_Decode.calls _ _ l2 t464 t465 t466 _ ?side1 ?side2 A44.out).mono ?_); (case side1 => repeat (first | exact (Kd.C_below HR2.out HB.out) | (with_reducible refine Kd.C_alloc ?_ _) | (with_reducible refine Kd.C_drewN ?_ _) | (with_reducible refine Kd.C_drew ?_))); (case side2 => exact HC2.out); rintro e w66 ⟨v467, rfl, ho0, hb⟩; refine ⟨_, rfl, ?_⟩; have n0_ := Aside0.mk (Kd.R_lower ho0 (below_size (by repeat (first | (with_reducible first | exact HB.out | apply below_alloc | apply pw_below_drewN | apply below_drew1) | exact HB.out)))); have n1_ := Aside0.mk (below_step (by repeat (first | (with_reducible first | exact HB.out | apply below_alloc | apply pw_below_drewN | apply below_drew1) | exact HB.out)) hb); clear HB; have HO468 := n0_; have HB := n1_; clear n0_ n1_; (try clear hb); (try clear hb2); (try clear hk); (try clear hi); (try clear ho0)) | ((with_reducible refine gate_callee (f := 12) rfl ?_); refine goesL_ (some 85) rfl rfl Try.func12 (by kernel_rfl) rfl #[] rfl (by (try simp only [List.map_toArray, List.map_cons, List.map_nil]); first | done | rfl | (simp only [List.length_drop, List.length_take]; rfl)) ?_; (with_reducible refine (shutterlaw27_live.calls  true _ A64.out).mono ?_); rintro e w67 ⟨rfl, hb⟩; refine ⟨_, rfl, ?_⟩; have n0_ := Aside0.mk (Kd.R_below (by (with_reducible repeat (first | apply Kd.R_alloc | apply Kd.R_drewN | apply Kd.R_drew)); exact HO468.out) hb); have n1_ := Aside0.mk (below_step (by repeat (first | (with_reducible first | exact HB.out | apply below_alloc | apply pw_below_drewN | apply below_drew1) | exact HB.out)) hb); clear HO468; clear HB; have HO468 := n0_; have HB := n1_; clear n0_ n1_; (try clear hb); (try clear hb2); (try clear hk); (try clear hi); obtain ⟨Ao68, co68, eo68⟩ := Kd.R_slice HO468.out; subst eo68))
              go_ret
              exact ⟨by first | rfl | (simp [errW_none, errW_some] <;> rfl) | (simp [*, errW_none, errW_some] <;> rfl), by repeat (first | (with_reducible first | exact HB.out | apply below_alloc | apply pw_below_drewN | apply below_drew1) | exact HB.out)⟩
            · replace c65 := Bool.eq_false_iff.mpr c65
              subst c65
              have H1 : (some false) = some r := by rw [if_neg (show ¬ (false = true) by decide)] at H; exact H
              clear H
              have H := H1
              clear H1
              obtain rfl := Option.some.inj H
              go_wp2_with (first | ((with_reducible refine gate_callee (f := 30) rfl ?_); refine goesL_ (some 79) rfl rfl Try.func30 (by kernel_rfl) rfl #[.slice A2 l2.length c2] rfl (by (try simp only [List.map_toArray, List.map_cons, List.map_nil]); first | done | rfl | (simp only [List.length_drop, List.length_take]; rfl)) ?_; (with_reducible refine (dump_Decode.calls _ _ l2 t464 t465 t466 _ ?side1 ?side2 A44.out).mono ?_); (case side1 => repeat (first | exact (Kd.C_below HR2.out HB.out) | (with_reducible refine Kd.C_alloc ?_ _) | (with_reducible refine Kd.C_drewN ?_ _) | (with_reducible refine Kd.C_drew ?_))); (case side2 => exact HC2.out); rintro e w69 ⟨v467, rfl, ho0, hb⟩; refine ⟨_, rfl, ?_⟩; have n0_ := Aside0.mk (Kd.R_lower ho0 (below_size (by repeat (first | (with_reducible first | exact HB.out | apply below_alloc | apply pw_below_drewN | apply below_drew1) | exact HB.out)))); have n1_ := Aside0.mk (below_step (by repeat (first | (with_reducible first | exact HB.out | apply below_alloc | apply pw_below_drewN | apply below_drew1) | exact HB.out)) hb); clear HB; have HO468 := n0_; have HB := n1_; clear n0_ n1_; (try clear hb); (try clear hb2); (try clear hk); (try clear hi); (try clear ho0)) | ((with_reducible refine gate_callee (f := 12) rfl ?_); refine goesL_ (some 85) rfl rfl Try.func12 (by kernel_rfl) rfl #[] rfl (by (try simp only [List.map_toArray, List.map_cons, List.map_nil]); first | done | rfl | (simp only [List.length_drop, List.length_take]; rfl)) ?_; (with_reducible refine (shutterlaw27_live.calls  false _ A64.out).mono ?_); rintro e w70 ⟨rfl, hb⟩; refine ⟨_, rfl, ?_⟩; have n0_ := Aside0.mk (Kd.R_below (by (with_reducible repeat (first | apply Kd.R_alloc | apply Kd.R_drewN | apply Kd.R_drew)); exact HO468.out) hb); have n1_ := Aside0.mk (below_step (by repeat (first | (with_reducible first | exact HB.out | apply below_alloc | apply pw_below_drewN | apply below_drew1) | exact HB.out)) hb); clear HO468; clear HB; have HO468 := n0_; have HB := n1_; clear n0_ n1_; (try clear hb); (try clear hb2); (try clear hk); (try clear hi)))
              go_ret
              exact ⟨by first | rfl | (simp [errW_none, errW_some] <;> rfl) | (simp [*, errW_none, errW_some] <;> rfl), by repeat (first | (with_reducible first | exact HB.out | apply below_alloc | apply pw_below_drewN | apply below_drew1) | exact HB.out)⟩

end Go.Proofs.Ythblincfnfpgbaa.Q
namespace Go.Proofs.Ythblincfnfpgbaa.Q
open Go.RowKit Go.Proofs.YthblincfnfpgbaaW.PrintWords Go.Proofs.YthblincfnfpgbaaW.PrintLast Go.Proofs.YthblincfnfpgbaaW.PrintMore
set_option linter.unusedVariables false
set_option linter.unusedSimpArgs false
theorem risingS_up {x : S82} {a : List S82} (h : risingS (x :: a) = true) : risingS a = true ∧ ∀ y ∈ a, x.f0 < y.f0 := by
  induction a generalizing x with
  | nil => exact ⟨rfl, by simp⟩
  | cons z a ih =>
    rw [risingS, Bool.and_eq_true, decide_eq_true_iff] at h
    refine ⟨h.2, fun y hy => ?_⟩
    rcases List.mem_cons.1 hy with rfl | hy
    · exact h.1
    · have := (ih h.2).2 y hy
      omega
theorem risingC_mk (c : S30) (l : List S30) (h : risingC l = true) (h2 : ∀ d ∈ l, c.f0 < d.f0) : risingC (c :: l) = true := by
  cases l with
  | nil => rfl
  | cons d l =>
    rw [risingC, Bool.and_eq_true, decide_eq_true_iff]
    exact ⟨h2 d (by simp), h⟩
theorem patO_skip' (x : S82) (a : List S82) (l : List S30) (h : ∀ c ∈ l, x.f0 < c.f0) : patO (x :: a) l = x :: patO a l ∧ patF (x :: a) l = patF a l := by
  cases l with
  | nil => exact ⟨by rw [patO], by rw [patF]⟩
  | cons c l => exact ⟨by rw [patO, if_pos (h c (by simp))], by rw [patF, if_pos (h c (by simp))]⟩
theorem patO_none (a : List S82) : patO a [] = a := by
  induction a with
  | nil => rw [patO]
  | cons x a ih => rw [patO, ih]
theorem diffS_self (a : List S82) : diffS a a = [] := by
  induction a with
  | nil => rw [diffS]
  | cons x a ih => rw [diffS, if_neg (by omega), if_neg (by omega), ih]; simp
def backP (a b : List S82) (D : List S30) : Prop :=
  (∀ c ∈ D, isRightB c = true) ∧ (∀ m : Int, (∀ x ∈ a, m < x.f0) → (∀ y ∈ b, m < y.f0) → ∀ c ∈ D, m < c.f0) ∧ risingC D = true ∧ patF a D = true ∧ patO a D = b
theorem diff_backP (a b : List S82) (ha : risingS a = true) (hb : risingS b = true) : backP a b (diffS a b) := by
  fun_induction diffS a b
  case case1 => exact ⟨by simp, by simp, rfl, by rw [patF], by rw [patO]⟩
  case case2 x a ih =>
    obtain ⟨h1, h2, h3, h4, h5⟩ := ih (risingS_up ha).1 hb
    have hx := (risingS_up ha).2
    refine ⟨?_, ?_, ?_, ?_, ?_⟩
    · intro c hc
      rcases List.mem_cons.1 hc with rfl | hc
      · rfl
      · exact h1 c hc
    · intro m hm1 hm2 c hc
      rcases List.mem_cons.1 hc with rfl | hc
      · exact hm1 x (by simp)
      · exact h2 m (fun y hy => hm1 y (by simp [hy])) hm2 c hc
    · exact risingC_mk _ _ h3 (h2 _ hx (by simp))
    · rw [patF, if_neg (by show ¬ x.f0 < x.f0; omega), if_neg (by show ¬ x.f0 < x.f0; omega), h4]; simp [chgA]
    · rw [patO, if_neg (by show ¬ x.f0 < x.f0; omega), if_neg (by show ¬ x.f0 < x.f0; omega), h5]; simp [chgA]
  case case3 y b ih =>
    obtain ⟨h1, h2, h3, h4, h5⟩ := ih ha (risingS_up hb).1
    have hy := (risingS_up hb).2
    refine ⟨?_, ?_, ?_, ?_, ?_⟩
    · intro c hc
      rcases List.mem_cons.1 hc with rfl | hc
      · rfl
      · exact h1 c hc
    · intro m hm1 hm2 c hc
      rcases List.mem_cons.1 hc with rfl | hc
      · exact hm2 y (by simp)
      · exact h2 m hm1 (fun z hz => hm2 z (by simp [hz])) c hc
    · exact risingC_mk _ _ h3 (h2 _ (by simp) hy)
    · rw [patF, h4]; rfl
    · rw [patO, h5]; rfl
  case case4 x a y b hlt ih =>
    obtain ⟨h1, h2, h3, h4, h5⟩ := ih (risingS_up ha).1 hb
    have hx := (risingS_up ha).2
    have hy := (risingS_up hb).2
    refine ⟨?_, ?_, ?_, ?_, ?_⟩
    · intro c hc
      rcases List.mem_cons.1 hc with rfl | hc
      · rfl
      · exact h1 c hc
    · intro m hm1 hm2 c hc
      rcases List.mem_cons.1 hc with rfl | hc
      · exact hm1 x (by simp)
      · exact h2 m (fun y hy => hm1 y (by simp [hy])) hm2 c hc
    · refine risingC_mk _ _ h3 (h2 _ hx (fun z hz => ?_))
      show x.f0 < z.f0
      rcases List.mem_cons.1 hz with rfl | hz
      · exact hlt
      · have := hy z hz; omega
    · rw [patF, if_neg (by show ¬ x.f0 < x.f0; omega), if_neg (by show ¬ x.f0 < x.f0; omega), h4]; simp [chgA]
    · rw [patO, if_neg (by show ¬ x.f0 < x.f0; omega), if_neg (by show ¬ x.f0 < x.f0; omega), h5]; simp [chgA]
  case case5 x a y b hlt hgt ih =>
    obtain ⟨h1, h2, h3, h4, h5⟩ := ih ha (risingS_up hb).1
    have hx := (risingS_up ha).2
    have hy := (risingS_up hb).2
    refine ⟨?_, ?_, ?_, ?_, ?_⟩
    · intro c hc
      rcases List.mem_cons.1 hc with rfl | hc
      · rfl
      · exact h1 c hc
    · intro m hm1 hm2 c hc
      rcases List.mem_cons.1 hc with rfl | hc
      · exact hm2 y (by simp)
      · exact h2 m hm1 (fun z hz => hm2 z (by simp [hz])) c hc
    · refine risingC_mk _ _ h3 (h2 _ (fun z hz => ?_) hy)
      show y.f0 < z.f0
      rcases List.mem_cons.1 hz with rfl | hz
      · exact hgt
      · have := hx z hz; omega
    · rw [patF, if_neg (by show ¬ x.f0 < y.f0; omega), if_pos (by exact hgt), h4]; rfl
    · rw [patO, if_neg (by show ¬ x.f0 < y.f0; omega), if_pos (by exact hgt), h5]; rfl
  case case6 x a y b hlt hgt ih =>
    obtain ⟨h1, h2, h3, h4, h5⟩ := ih (risingS_up ha).1 (risingS_up hb).1
    have hx := (risingS_up ha).2
    have hy := (risingS_up hb).2
    have he : x.f0 = y.f0 := by omega
    have habv : ∀ c ∈ diffS a b, x.f0 < c.f0 := h2 _ hx (fun z hz => by have := hy z hz; omega)
    by_cases hv : x.f1 = y.f1
    · have hxy : x = y := by obtain ⟨p, q⟩ := x; obtain ⟨r, s⟩ := y; simp only at he hv; rw [he, hv]
      subst hxy
      simp only [BEq.rfl, Bool.not_true, Bool.false_eq_true, if_false, List.nil_append]
      obtain ⟨p1, p2⟩ := patO_skip' x a _ habv
      refine ⟨h1, ?_, h3, by rw [p2, h4], by rw [p1, h5]⟩
      intro m hm1 hm2 c hc
      have := habv c hc
      have := hm1 x (by simp)
      omega
    · rw [if_pos (by simp [hv]), List.singleton_append]
      refine ⟨?_, ?_, ?_, ?_, ?_⟩
      · intro c hc
        rcases List.mem_cons.1 hc with rfl | hc
        · simp [isRightB, chgAB, hv]
        · exact h1 c hc
      · intro m hm1 hm2 c hc
        have := hm1 x (by simp)
        rcases List.mem_cons.1 hc with rfl | hc
        · exact hm2 y (by simp)
        · have := habv c hc
          omega
      · exact risingC_mk _ _ h3 (fun d hd => by show y.f0 < d.f0; have := habv d hd; omega)
      · rw [patF, if_neg (by show ¬ x.f0 < y.f0; omega), if_neg (by show ¬ y.f0 < x.f0; omega), h4]; simp [chgAB]
      · rw [patO, if_neg (by show ¬ x.f0 < y.f0; omega), if_neg (by show ¬ y.f0 < x.f0; omega), h5]; simp [chgAB]
/-- What differs, put in: the others. -/
theorem patR_diff (a b : List S82) (ha : risingS a = true) (hb : risingS b = true) : patR a (diffS a b) = (b, 0) := by
  obtain ⟨h1, -, h3, h4, h5⟩ := diff_backP a b ha hb
  have h6 : (diffS a b).any (fun x => !isRightB x) = false := by
    rw [List.any_eq_false]
    intro c hc
    simp [h1 c hc]
  unfold patR patBad
  rw [ha, h3, h6, h4, h5]
  rfl
theorem diff_none (a b : List S82) (ha : risingS a = true) (hb : risingS b = true) : (diffS a b).length = 0 ↔ a = b := by
  constructor
  · intro h
    have h := List.eq_nil_of_length_eq_zero h
    have h5 := (diff_backP a b ha hb).2.2.2.2
    rw [h, patO_none] at h5
    exact h5
  · rintro rfl
    rw [diffS_self]
    rfl
end Go.Proofs.Ythblincfnfpgbaa.Q
namespace Go.Proofs.Ythblincfnfpgbaa.Q
open Go.RowKit Go.Proofs.YthblincfnfpgbaaW.PrintWords Go.Proofs.YthblincfnfpgbaaW.PrintLast Go.Proofs.YthblincfnfpgbaaW.PrintMore
set_option linter.unusedVariables false
set_option linter.unusedSimpArgs false
theorem or128 (z : Int) (h : 0 ≤ z) : bits .or .u8 (z % 256) 128 = z % 128 + 128 := by
  have h1 : ∀ n : Fin 256, bits .or .u8 (n.val : Int) 128 = (n.val : Int) % 128 + 128 := by decide +kernel
  have h2 := h1 ⟨(z % 256).toNat, by omega⟩
  have h3 : (((z % 256).toNat : Nat) : Int) = z % 256 := by omega
  simp only [h3] at h2
  omega
set_option maxHeartbeats 4000000 in
set_option maxRecDepth 100000 in
theorem put_c (w0 w : World) (S : Nat → Prop) (hS : ∀ k, S k → k < w.heap.size) (v : Value) (l : List Int) (x : Int) (hB : Below w0.heap.size w0 w) (ho : Arr w0 w S v l) (hx : x < 18446744073709551616) (hx0 : 0 ≤ x) (hl : l.length + 10 < 140737488355328) :
    Calls Try.prog 58 #[v, .int .u64 x] w fun e w' => ∃ v', e = .returned v' ∧ Own w0 w' S v' (l ++ numS x) ∧ Below w0.heap.size w0 w' ∧ Same S w w' := by
  have hu48 := Try.underlying48
  have HS := Lib.hid hS
  have HB := Lib.hid hB
  have HO := Lib.hid ho
  have HX := Lib.hid hx
  have HL := Lib.hid hl
  clear hS hB ho hl hx
  go_enter Try.func58, Try.ntmps58
  go_wp2
  go_loopg [0, 1] 10 (fun kq u y w' => ∃ (ls : List Int) (z : Int), y = .int .u64 z ∧ 0 ≤ z ∧ Hid (kq + ls.length ≤ l.length + 10) ∧ Hid (0 < kq) ∧ Hid (z < 128 ^ kq) ∧ Hid (ls ++ numN (kq - 1) z = l ++ numS x) ∧ Hid (Arr w0 w' S u ls) ∧ Hid (Below w0.heap.size w0 w') ∧ Hid (Same S w w') ∧ Hid (w.heap.size ≤ w'.heap.size) ∧ Hid (z < 18446744073709551616))
  case atStart => exact ⟨l, x, rfl, hx0, Lib.hid (by omega), Lib.hid (by omega), Lib.hid (by have := HX.out; have : (128 : Int) ^ 10 = 1180591620717411303424 := by decide
                                                                                             omega), Lib.hid rfl, HO, HB, Lib.hid (fun _ _ => rfl), Lib.hid (Nat.le_refl _), HX⟩
  case round =>
    obtain ⟨ls, z, rfl, hz, HN, HK, HZ, HE, HA, HBW, HSM, HSZ, HXZ⟩ := hrel
    clear HB HO HX hx0
    have HSW := Lib.hid (show ∀ k, S k → k < wr.heap.size from fun k hk => Nat.lt_of_lt_of_le (HS.out k hk) HSZ.out)
    by_cases h : 128 ≤ z
    · have hd : decide (128 ≤ z) = true := decide_eq_true h
      go_wp2_with (first | (at_builtin; refine arr_append (w0 := w0) (S := S) (by rfl) (.tmp 7) (.tmp 12) rfl _ ls _ rfl rfl HA.out HSW.out HBW.out (by have := HN.out; have := HK.out; have := HL.out; omega) ?_))
      intro v1 w1 h1 h2 h3 h4
      first | rw [← or128 z hz] at h1 | skip
      have H1 := Lib.hid h1
      have H2 := Lib.hid h2
      have H3 := Lib.hid (show Same S w w1 from fun k hk => (h3 k hk).trans (HSM.out k hk))
      have H4 := Lib.hid (Nat.le_trans HSZ.out h4)
      clear h1 h2 h3 h4 hd
      go_wp2
      go_roundg (gk - 1)
      case measure => have := HK.out; omega
      case rel =>
        have hk := HK.out
        have hn := HN.out
        have hzz := HZ.out
        have he := HE.out
        obtain ⟨m, rfl⟩ : ∃ m, gk = m + 2 := ⟨gk - 2, by
          rcases Nat.lt_or_ge gk 2 with h' | h'
          · obtain rfl : gk = 1 := by omega
            omega
          · omega⟩
        have hm : numN (m + 2 - 1) z = bits .or .u8 (z % 256) 128 :: numN m (z / 128) := by
          show numN (m + 1) z = _
          rw [numN, if_pos h]
        rw [hm] at he
        refine ⟨ls ++ [bits .or .u8 (z % 256) 128], z / 128, by rw [Int.tdiv_eq_ediv_of_nonneg hz, show IntKind.u64.wrap (z / 128) = z / 128 from u64_wrap_id _ (by omega) (by have := HXZ.out; omega)], by omega, Lib.hid (by simp; omega), Lib.hid (by omega), Lib.hid ?_, Lib.hid ?_, Lib.hid (own_arr H1.out), H2, H3, H4, Lib.hid (by have := HXZ.out; omega)⟩
        · rw [show m + 2 - 1 = m + 1 by omega]
          rw [Int.pow_succ] at hzz
          generalize (128 : Int) ^ (m + 1) = q at *
          omega
        · rw [← he]
          simp
    · have hd : decide (128 ≤ z) = false := decide_eq_false h
      go_wp2_with (first | (at_builtin; refine arr_append (w0 := w0) (S := S) (by rfl) (.tmp 16) (.tmp 19) rfl _ ls _ rfl rfl HA.out HSW.out HBW.out (by have := HN.out; have := HK.out; have := HL.out; omega) ?_))
      intro v1 w1 h1 h2 h3 h4
      first | rw [← or128 z hz] at h1 | skip
      have H1 := Lib.hid h1
      have H2 := Lib.hid h2
      have H3 := Lib.hid (show Same S w w1 from fun k hk => (h3 k hk).trans (HSM.out k hk))
      clear h1 h2 h3 h4 hd
      go_wp2
      go_ret
      refine ⟨v1, rfl, ?_, H2.out, H3.out⟩
      have he := HE.out
      have hm : numN (gk - 1) z = [z] := by
        have e : z % 256 = z := by omega
        cases gk - 1 <;> rw [numN]
        · rw [e]
        · rw [if_neg (by omega), e]
      rw [hm] at he
      rw [← he]
      exact H1.out
end Go.Proofs.Ythblincfnfpgbaa.Q
namespace Go.Proofs.Ythblincfnfpgbaa.Q
open Go.RowKit Go.Proofs.YthblincfnfpgbaaW.PrintWords Go.Proofs.YthblincfnfpgbaaW.PrintLast Go.Proofs.YthblincfnfpgbaaW.PrintMore
set_option linter.unusedVariables false
set_option linter.unusedSimpArgs false
theorem numN_small (m : Nat) (v : Int) (h0 : 0 ≤ v) (h : v < 128) : numN m v = [v] := by
  cases m with
  | zero => rw [numN, Int.emod_eq_of_lt h0 (by omega)]
  | succ m => rw [numN, if_neg (by omega), Int.emod_eq_of_lt h0 (by omega)]
theorem numN_big (m : Nat) (v : Int) (h : 128 ≤ v) : numN (m + 1) v = (v % 128 + 128) :: numN m (v / 128) := by
  rw [numN, if_pos h, or128 v (by omega)]
theorem pow_pos7 (i : Nat) : (0 : Int) < 2 ^ (7 * i) := Int.pow_pos (by decide)
theorem pow63 : (2 : Int) ^ (7 * 9) = 9223372036854775808 := by decide
/-- A number that was put is read. -/
theorem num_round (m : Nat) : ∀ (i : Nat) (a x v : Int) (rest : List Int), m + i = 9 → 0 ≤ v → v * 2 ^ (7 * i) < 18446744073709551616 → (0 < i → 0 < v) → numR i a x (numN m v ++ rest) = (x + v * 2 ^ (7 * i), a + (numN m v).length, 0) := by
  induction m with
  | zero =>
    intro i a x v rest hm h0 hv hp
    obtain rfl : i = 9 := by omega
    have h2 : v < 2 := by rw [pow63] at hv; omega
    have h3 := hp (by omega)
    rw [numN_small 0 v h0 (by omega), List.singleton_append, numR, if_neg (by omega), if_pos (by omega), Int.emod_eq_of_lt h0 (by omega)]
    rfl
  | succ m ih =>
    intro i a x v rest hm h0 hv hp
    by_cases h : 128 ≤ v
    · have e : (v % 128 + 128) % 128 = v % 128 := by omega
      have e2 : v * 2 ^ (7 * i) = (v % 128) * 2 ^ (7 * i) + (v / 128) * 2 ^ (7 * (i + 1)) := by
        rw [pow_split]
        generalize (2 : Int) ^ (7 * i) = P
        have : v = v % 128 + v / 128 * 128 := by omega
        conv => lhs; rw [this, Int.add_mul]
        rw [Int.mul_assoc (v / 128) 128 P, Int.mul_comm 128 P]
      have h1 : 0 ≤ v % 128 * 2 ^ (7 * i) := Int.mul_nonneg (by omega) (Int.le_of_lt (pow_pos7 i))
      rw [numN_big m v h, List.cons_append, numR, if_neg (by omega), if_neg (by omega), e, ih (i + 1) (a + 1) _ (v / 128) rest (by omega) (by omega) (by omega) (fun _ => by omega), e2]
      simp only [List.length_cons, Prod.mk.injEq, and_true]
      omega
    · have hi9 : i ≠ 9 := by omega
      have hz : ¬ ((0 < i ∧ v = 0) ∨ (i = 9 ∧ 1 < v)) := by
        rintro (⟨h1, h2⟩ | ⟨h1, h2⟩)
        · have := hp h1; omega
        · omega
      rw [numN_small (m + 1) v h0 (by omega), List.singleton_append, numR, if_neg hz, if_pos (by omega), Int.emod_eq_of_lt h0 (by omega)]
      rfl
/-- What is read as a number was put so. -/
theorem num_canon (l : List Int) (hl : ∀ c ∈ l, 0 ≤ c ∧ c < 256) : ∀ (i : Nat) (a x y a' : Int), i ≤ 9 → numR i a x l = (y, a', 0) →
    ∃ v rest, l = numN (9 - i) v ++ rest ∧ a' = a + (numN (9 - i) v).length ∧ y = x + v * 2 ^ (7 * i) ∧ 0 ≤ v ∧ (0 < i → 0 < v) ∧ v * 2 ^ (7 * i) < 18446744073709551616 := by
  induction l with
  | nil => intro i a x y a' hi h; rw [numR] at h; simp at h
  | cons c l ih =>
    intro i a x y a' hi h
    have hc := hl c (by simp)
    rw [numR] at h
    split at h
    · simp at h
    · rename_i hb
      split at h
      · rename_i h128
        simp only [Prod.mk.injEq, and_true] at h
        refine ⟨c, l, ?_, ?_, ?_, hc.1, fun hp => ?_, ?_⟩
        · rw [numN_small _ c hc.1 h128]; rfl
        · rw [numN_small _ c hc.1 h128, ← h.2]; rfl
        · rw [← h.1, Int.emod_eq_of_lt hc.1 h128]
        · rcases Int.lt_or_eq_of_le hc.1 with h | h
          · exact h
          · exact absurd (.inl ⟨hp, h.symm⟩) hb
        · by_cases h9 : i = 9
          · subst h9
            rw [pow63]
            have : c ≤ 1 := by by_cases h : 1 < c; exact absurd (.inr ⟨rfl, h⟩) hb; omega
            omega
          · have h1 : (2 : Int) ^ (7 * i) ≤ 2 ^ 56 := by exact_mod_cast Nat.pow_le_pow_right (n := 2) (by decide) (show 7 * i ≤ 56 by omega)
            have h3 : (2 : Int) ^ 56 = 72057594037927936 := by decide
            have h4 : c * 2 ^ (7 * i) ≤ 127 * 2 ^ (7 * i) := Int.mul_le_mul_of_nonneg_right (by omega) (Int.le_of_lt (pow_pos7 i))
            omega
      · rename_i h128
        have h9 : i ≠ 9 := fun h => hb (.inr ⟨h, by omega⟩)
        obtain ⟨v, rest, e1, e2, e3, e4, e5, e6⟩ := ih (fun d hd => hl d (by simp [hd])) (i + 1) (a + 1) _ y a' (by omega) h
        have hv := e5 (by omega)
        have ec : c % 128 = c - 128 := by omega
        have ev : (c - 128 + 128 * v) % 128 = c - 128 := by omega
        have ed : (c - 128 + 128 * v) / 128 = v := by omega
        have hN : numN (9 - i) (c - 128 + 128 * v) = c :: numN (9 - (i + 1)) v := by
          rw [show 9 - i = (9 - (i + 1)) + 1 by omega, numN_big _ _ (by omega), ev, ed]
          congr 1
          omega
        have hpw : (c - 128 + 128 * v) * 2 ^ (7 * i) = (c - 128) * 2 ^ (7 * i) + v * 2 ^ (7 * (i + 1)) := by
          rw [pow_split, Int.add_mul, Int.mul_comm 128 v, Int.mul_assoc, Int.mul_comm 128]
        have hb1 := e6
        refine ⟨c - 128 + 128 * v, rest, ?_, ?_, ?_, by omega, fun _ => by omega, ?_⟩
        · rw [hN, e1]; rfl
        · rw [hN, e2, List.length_cons]; omega
        · rw [e3, hpw, ec]; omega
        · rw [hpw]
          -- below 2^64, for the lower digits lie below 2^(7 (i + 1))
          rw [pow_split] at hb1 ⊢
          have hP := pow_pos7 i
          have hdiv : ∃ q : Int, 18446744073709551616 = q * (2 ^ (7 * i) * 128) ∨ i = 8 := by
            by_cases h8 : i = 8
            · exact ⟨0, .inr h8⟩
            · exact ⟨2 ^ (64 - 7 * (i + 1)), .inl (by
                rw [← pow_split, ← Int.pow_add, show 64 - 7 * (i + 1) + 7 * (i + 1) = 64 by omega]; rfl)⟩
          obtain ⟨q, hq | rfl⟩ := hdiv
          · rw [hq] at hb1 ⊢
            generalize (2 : Int) ^ (7 * i) = P at *
            have hvq : v < q := by
              by_cases h : v < q
              · exact h
              · have := Int.mul_le_mul_of_nonneg_right (show q ≤ v by omega) (show 0 ≤ P * 128 by omega)
                omega
            have h1 : (v + 1) * (P * 128) ≤ q * (P * 128) := Int.mul_le_mul_of_nonneg_right (by omega) (by omega)
            have h2 : (c - 128) * P ≤ 127 * P := Int.mul_le_mul_of_nonneg_right (by omega) (by omega)
            rw [Int.add_mul, Int.one_mul] at h1
            omega
          · have p56 : (2 : Int) ^ (7 * 8) = 72057594037927936 := by decide
            rw [p56] at hb1 ⊢
            omega
theorem numS_round (a v : Int) (rest : List Int) (h0 : 0 ≤ v) (hv : v < 18446744073709551616) : numR 0 a 0 (numS v ++ rest) = (v, a + (numS v).length, 0) := by
  have := num_round 9 0 a 0 v rest rfl h0 (by simpa using hv) (fun h => absurd h (by omega))
  simpa [numS] using this
theorem numS_canon (l : List Int) (hl : ∀ c ∈ l, 0 ≤ c ∧ c < 256) (a y a' : Int) (h : numR 0 a 0 l = (y, a', 0)) : ∃ rest, l = numS y ++ rest ∧ a' = a + (numS y).length ∧ 0 ≤ y ∧ y < 18446744073709551616 := by
  obtain ⟨v, rest, e1, e2, e3, e4, e5, e6⟩ := num_canon l hl 0 a 0 y a' (by omega) h
  obtain rfl : y = v := by simpa using e3
  exact ⟨rest, e1, e2, e4, by simpa using e6⟩
/-- Keys rise above last (the first one need not). -/
def chain (first : Bool) (last : Int) : List S82 → Prop
  | [] => True
  | p :: l => wfP p ∧ (first = false → last < p.f0) ∧ chain false p.f0 l
theorem chain_of (l : List S82) (hw : ∀ p ∈ l, wfP p) : ∀ (first : Bool) (last : Int), risingS l = true → (∀ p ∈ l.head?, first = false → last < p.f0) → chain first last l := by
  induction l with
  | nil => intro _ _ _ _; trivial
  | cons p l ih =>
    intro first last hr hh
    refine ⟨hw p (by simp), hh p (by simp), ih (fun q hq => hw q (by simp [hq])) false p.f0 ?_ ?_⟩
    · cases l with
      | nil => rfl
      | cons q l =>
        have : (decide (p.f0 < q.f0) && risingS (q :: l)) = true := hr
        rw [Bool.and_eq_true] at this
        exact this.2
    · intro q hq _
      cases l with
      | nil => simp at hq
      | cons r l =>
        have : (decide (p.f0 < r.f0) && risingS (r :: l)) = true := hr
        rw [Bool.and_eq_true, decide_eq_true_eq] at this
        obtain rfl : r = q := by simpa using hq
        exact this.1
theorem chain_rising (l : List S82) : ∀ (first : Bool) (last : Int), chain first last l → risingS l = true ∧ ∀ p ∈ l, wfP p := by
  induction l with
  | nil => intro _ _ _; exact ⟨rfl, by simp⟩
  | cons p l ih =>
    intro first last h
    obtain ⟨h1, h2, h3⟩ := h
    obtain ⟨h4, h5⟩ := ih false p.f0 h3
    refine ⟨?_, fun q hq => ?_⟩
    · cases l with
      | nil => rfl
      | cons q l =>
        show (decide (p.f0 < q.f0) && risingS (q :: l)) = true
        rw [h4, decide_eq_true (h3.2.1 rfl)]
        rfl
    · rcases List.mem_cons.1 hq with rfl | hq
      · exact h1
      · exact h5 q hq
theorem drop_add (bs A B : List Int) (n : Nat) (h : bs.drop n = A ++ B) : bs.drop (n + A.length) = B := by
  rw [← List.drop_drop, h, List.drop_left]
theorem drop_len {bs A B : List Int} {n : Nat} (h : bs.drop n = A ++ B) (hA : 0 < A.length) : n + A.length ≤ bs.length := by
  have := congrArg List.length h
  rw [List.length_drop, List.length_append] at this
  omega
theorem numX_round (bs rest : List Int) (at' : Nat) (v : Int) (h0 : 0 ≤ v) (hv : v < 18446744073709551616) (h : bs.drop at' = numS v ++ rest) : numX bs at' 0 = (v, ((at' + (numS v).length : Nat) : Int), 0) := by
  unfold numX
  rw [if_pos rfl, Int.toNat_natCast, h, numS_round at' v rest h0 hv]
  simp
/-- Pairs that were put are read. -/
theorem decL_round (l : List S82) : ∀ (bs rest : List Int) (k at' : Nat) (last : Int) (acc : List S82), (acc = [] → last = 0) → 0 ≤ last → last < 18446744073709551616 → chain ((acc.length : Int) == 0) last l → bs.drop at' = pairsS last l ++ rest → l.length ≤ k → (l.length : Int) < 18446744073709551616 →
    decL bs k l.length at' 0 last acc = (acc ++ l, ((at' + (pairsS last l).length : Nat) : Int), 0) := by
  induction l with
  | nil =>
    intro bs rest k at' last acc _ _ _ _ _ _ _
    rw [decL_end _ _ _ _ _ _ _ (fun h => absurd h.1 (by simp)), List.append_nil]
    rfl
  | cons p l ih =>
    intro bs rest k at' last acc hl0 h0 h1 hc hd hk hb
    obtain ⟨k, rfl⟩ : ∃ m, k = m + 1 := ⟨k - 1, by simp at hk; omega⟩
    obtain ⟨hw, hlt, hc'⟩ := hc
    unfold wfP at hw
    have hle : last ≤ p.f0 := by
      by_cases ha : acc = []
      · have := hl0 ha; omega
      · have : ((acc.length : Int) == 0) = false := by rw [beq_eq_false_iff_ne]; intro h; exact ha (List.eq_nil_of_length_eq_zero (by omega))
        exact Int.le_of_lt (hlt this)
    have hdd : IntKind.u64.wrap (p.f0 - last) = p.f0 - last := u64_wrap_id _ (by omega) (by omega)
    have hpk : pairsS last (p :: l) = numS (p.f0 - last) ++ (numS p.f1 ++ pairsS p.f0 l) := by rw [pairsS, hdd, List.append_assoc]
    rw [hpk, List.append_assoc, List.append_assoc] at hd
    have n1 := numX_round bs _ at' (p.f0 - last) (by omega) (by omega) hd
    have hd2 := drop_add bs _ _ at' hd
    have n2 := numX_round bs _ (at' + (numS (p.f0 - last)).length) p.f1 hw.2.2.1 hw.2.2.2 hd2
    have hd3 := drop_add bs _ _ _ hd2
    have hkey : IntKind.u64.wrap (last + (p.f0 - last)) = p.f0 := by rw [show last + (p.f0 - last) = p.f0 by omega]; exact u64_wrap_id _ hw.1 hw.2.1
    have hP : pairX bs (at' : Int) 0 last ((acc.length : Int) == 0) = ((p.f0, p.f1), ((at' + (numS (p.f0 - last)).length + (numS p.f1).length : Nat) : Int), 0) := by
      unfold pairX
      dsimp only
      rw [n1]
      dsimp only
      rw [hkey, if_neg, n2]
      rintro ⟨h2, -, h3⟩
      have := hlt h2
      omega
    rw [decL, if_pos ⟨by simp, rfl⟩, hP]
    dsimp only
    rw [show IntKind.u64.wrap (((p :: l).length : Int) - 1) = (l.length : Int) by rw [show (((p :: l).length : Nat) : Int) - 1 = (l.length : Int) by simp]; exact u64_wrap_id _ (by omega) (by simp at hb; omega),
      ih bs rest k _ p.f0 (acc ++ [p]) (fun h => absurd h (by simp)) hw.1 hw.2.1 ?_ hd3 (by simp at hk; omega) (by simp at hb; omega)]
    · simp only [Prod.mk.injEq, and_true]
      refine ⟨by simp, ?_⟩
      rw [hpk, List.length_append, List.length_append]
      omega
    · have : (((acc ++ [p]).length : Int) == 0) = false := by rw [beq_eq_false_iff_ne]; simp; omega
      rw [this]
      exact hc'
/-- What is read as pairs was put so. -/
theorem decL_canon (bs : List Int) (hbs : ∀ c ∈ bs, 0 ≤ c ∧ c < 256) (k : Nat) : ∀ (n : Int) (at' : Nat) (last : Int) (acc L : List S82) (a' : Int), 0 ≤ n → n < 18446744073709551616 → at' ≤ bs.length → bs.length - at' < k → (acc = [] → last = 0) → 0 ≤ last → last < 18446744073709551616 →
    decL bs k n at' 0 last acc = (L, a', 0) → ∃ l rest, L = acc ++ l ∧ (l.length : Int) = n ∧ bs.drop at' = pairsS last l ++ rest ∧ a' = ((at' + (pairsS last l).length : Nat) : Int) ∧ chain ((acc.length : Int) == 0) last l := by
  induction k with
  | zero => intro n at' last acc L a' _ _ h1 h2; omega
  | succ k ih =>
    intro n at' last acc L a' hn0 hn1 ha hk hl0 h0 h1 h
    by_cases hn : 0 < n
    · rw [decL, if_pos ⟨hn, rfl⟩] at h
      have hpo := pairX_ok (bs := bs) (at' := at') (e := 0) (last := last) (first := ((acc.length : Int) == 0)) (fun _ => ⟨by omega, by omega⟩)
      -- the pair went well
      have he : (pairX bs (at' : Int) 0 last ((acc.length : Int) == 0)).2.2 = 0 := by
        by_cases hz : (pairX bs (at' : Int) 0 last ((acc.length : Int) == 0)).2.2 = 0
        · exact hz
        · rw [decL_end _ _ _ _ _ _ _ (fun hh => hz hh.2)] at h
          simp only [Prod.mk.injEq] at h
          exact absurd h.2.2 hz
      have hpo' := hpo he
      have hsh : ∃ d v : Int, ∃ r2 : List Int, pairX bs (at' : Int) 0 last ((acc.length : Int) == 0) = ((last + d, v), ((at' + (numS d).length + (numS v).length : Nat) : Int), 0) ∧ bs.drop at' = numS d ++ (numS v ++ r2) ∧ 0 ≤ d ∧ last + d < 18446744073709551616 ∧ 0 ≤ v ∧ v < 18446744073709551616 ∧ (((acc.length : Int) == 0) = false → 0 < d) := by
        clear h ih hpo hpo'
        unfold pairX at he ⊢
        dsimp only at he ⊢
        generalize hN : numX bs (at' : Int) 0 = N at *
        obtain ⟨d, a1, e1⟩ := N
        dsimp only at he ⊢
        by_cases hc : ((acc.length : Int) == 0) = false ∧ e1 = 0 ∧ (d = 0 ∨ IntKind.u64.wrap (last + d) < last)
        · rw [if_pos hc, numX_stay (show (271 : Int) ≠ 0 by decide)] at he
          exact absurd he (show ¬ (271 : Int) = 0 by decide)
        · rw [if_neg hc] at he ⊢
          dsimp only at he ⊢
          have he1 : e1 = 0 := by
            by_cases hz : e1 = 0
            · exact hz
            · rw [numX_stay hz] at he
              exact absurd he hz
          subst he1
          have hN' : numR 0 (at' : Int) 0 (bs.drop at') = (d, a1, 0) := by unfold numX at hN; rw [if_pos rfl, Int.toNat_natCast] at hN; exact hN
          obtain ⟨r1, e2, e3, e4, e5⟩ := numS_canon _ (fun c hc => hbs c (List.mem_of_mem_drop hc)) _ _ _ hN'
          obtain rfl : a1 = ((at' + (numS d).length : Nat) : Int) := by omega
          have hd1 := drop_add bs _ _ at' e2
          generalize hM : numX bs ((at' + (numS d).length : Nat) : Int) 0 = M at *
          obtain ⟨v, a2, e6⟩ := M
          dsimp only at he ⊢
          subst he
          have hM' : numR 0 ((at' + (numS d).length : Nat) : Int) 0 (bs.drop (at' + (numS d).length)) = (v, a2, 0) := by unfold numX at hM; rw [if_pos rfl, Int.toNat_natCast] at hM; exact hM
          obtain ⟨r2, f2, f3, f4, f5⟩ := numS_canon _ (fun c hc => hbs c (List.mem_of_mem_drop hc)) _ _ _ hM'
          rw [hd1] at f2
          have hsum : last + d < 18446744073709551616 := by
            by_cases hf : ((acc.length : Int) == 0) = false
            · have h2 : ¬ IntKind.u64.wrap (last + d) < last := fun hh => hc ⟨hf, rfl, .inr hh⟩
              rw [IntKind.wrap_u64] at h2
              omega
            · have : acc = [] := by
                have : ((acc.length : Int) == 0) = true := by simpa using hf
                rw [beq_iff_eq] at this
                exact List.eq_nil_of_length_eq_zero (by omega)
              have := hl0 this
              omega
          refine ⟨d, v, r2, ?_, ?_, e4, hsum, f4, f5, fun hf => ?_⟩
          · rw [u64_wrap_id _ (by omega) hsum, show a2 = ((at' + (numS d).length + (numS v).length : Nat) : Int) by omega]
          · rw [e2, f2]
          · have h2 : ¬ d = 0 := fun hh => hc ⟨hf, rfl, .inl hh⟩
            omega
      obtain ⟨d, v, r2, hP, hd, g1, g2, g3, g4, g5⟩ := hsh
      rw [hP] at h hpo'
      dsimp only at h hpo'
      rw [u64_wrap_id (n - 1) (by omega) (by omega)] at h
      obtain ⟨l, rest, e1, e2, e3, e4, e5⟩ := ih (n - 1) _ (last + d) _ L a' (by omega) (by omega) (by have := hpo'.2.1; omega) (by have := hpo'.1; omega) (fun hh => absurd hh (by simp)) (by omega) g2 h
      have hd3 : bs.drop (at' + (numS d).length + (numS v).length) = r2 := by
        have := drop_add bs _ _ at' hd
        exact drop_add bs _ _ _ this
      rw [hd3] at e3
      have hpk : pairsS last ((⟨last + d, v⟩ : S82) :: l) = numS d ++ (numS v ++ pairsS (last + d) l) := by
        rw [pairsS, show last + d - last = d by omega, u64_wrap_id d g1 (by omega), List.append_assoc]
      refine ⟨⟨last + d, v⟩ :: l, rest, ?_, ?_, ?_, ?_, ⟨⟨by show 0 ≤ last + d; omega, g2, g3, g4⟩, fun hf => ?_, ?_⟩⟩
      · rw [e1, List.append_assoc]; rfl
      · rw [List.length_cons]; omega
      · rw [hd, hpk, e3]; simp
      · rw [e4, hpk, List.length_append, List.length_append]; omega
      · have := g5 hf
        show last < last + d
        omega
      · have : (((acc ++ [(⟨last + d, v⟩ : S82)]).length : Int) == 0) = false := by rw [beq_eq_false_iff_ne]; simp; omega
        rw [this] at e5
        exact e5
    · rw [decL_end _ _ _ _ _ _ _ (fun hh => hn hh.1)] at h
      simp only [Prod.mk.injEq, and_true] at h
      refine ⟨[], bs.drop at', by rw [List.append_nil]; exact h.1.symm, by simp; omega, rfl, by rw [← h.2]; rfl, trivial⟩
theorem startL_round (rest : List Int) : startX ([83, 72, 85, 49] ++ rest) = (4, 0) := by
  unfold startX
  simp [startL]
theorem startX_canon (bs : List Int) (h : (startX bs).2 = 0) : ∃ rest, bs = [83, 72, 85, 49] ++ rest := by
  unfold startX at h
  match bs with
  | [] => exact absurd h (by decide)
  | [a] => simp only [startL] at h; split at h <;> exact absurd h (by decide)
  | [a, b] => simp only [startL] at h; (repeat' split at h) <;> exact absurd h (by decide)
  | [a, b, c] => simp only [startL] at h; (repeat' split at h) <;> exact absurd h (by decide)
  | a :: b :: c :: d :: l =>
    simp only [startL] at h
    repeat' split at h
    all_goals first | exact absurd h (by decide) | skip
    rename_i h1 h2 h3 h4
    exact ⟨l, by subst h1 h2 h3 h4; rfl⟩
theorem pairs_ge (l : List S82) : ∀ last, l.length ≤ (pairsS last l).length := by
  induction l with
  | nil => intro _; simp
  | cons p l ih =>
    intro last
    have h1 := numN_pos 9 (IntKind.u64.wrap (p.f0 - last))
    have h2 := ih p.f0
    simp only [pairsS, List.length_append, List.length_cons, numS]
    omega
/-- Decode of Encode, with bytes behind it or none. -/
theorem decX_round (l : List S82) (ext : List Int) (hw : ∀ p ∈ l, wfP p) (hr : risingS l = true) (hl : l.length < 4398046511104) : decX (encS l ++ ext) = if ext = [] then (l, 0, 0) else ([], 272, ((encS l).length : Int)) := by
  have hb : encS l ++ ext = [83, 72, 85, 49] ++ (numS l.length ++ (pairsS 0 l ++ (fixedS (sumS 2166136261 (bodyS l)) ++ ext))) := by simp [encS, bodyS]
  have hB : bodyS l = [83, 72, 85, 49] ++ (numS l.length ++ pairsS 0 l) := by simp [bodyS]
  unfold decX
  dsimp only
  have hs : startX (encS l ++ ext) = (4, 0) := by rw [hb]; exact startL_round _
  rw [hs]
  dsimp only
  have hd4 : (encS l ++ ext).drop 4 = numS l.length ++ (pairsS 0 l ++ (fixedS (sumS 2166136261 (bodyS l)) ++ ext)) := by rw [hb]; rfl
  have hn := numX_round (encS l ++ ext) _ 4 (l.length : Int) (by omega) (by omega) hd4
  rw [show ((4 : Nat) : Int) = 4 from rfl] at hn
  rw [hn]
  dsimp only
  have hd5 := drop_add _ _ _ 4 hd4
  have hlen : l.length ≤ (encS l ++ ext).length := by
    have : l.length ≤ (pairsS 0 l).length := pairs_ge l 0
    rw [hb]
    simp only [List.length_append]
    omega
  have hD := decL_round l (encS l ++ ext) _ ((encS l ++ ext).length + 1) (4 + (numS (l.length : Int)).length) 0 [] (fun _ => rfl) (by omega) (by decide) (chain_of l hw true 0 hr (fun p hp h => by cases h)) hd5 (by omega) (by omega)
  rw [hD]
  dsimp only
  have hat : 4 + (numS (l.length : Int)).length + (pairsS 0 l).length = (bodyS l).length := by rw [hB]; simp [List.length_append]; omega
  rw [hat]
  have htake : (encS l ++ ext).take (bodyS l).length = bodyS l := by rw [encS, List.append_assoc, List.take_left]
  have hdrop : (encS l ++ ext).drop (bodyS l).length = fixedS (sumS 2166136261 (bodyS l)) ++ ext := by rw [encS, List.append_assoc, List.drop_left]
  have hfl : ∀ s, (fixedS s).length = 4 := fun _ => rfl
  have htot : (encS l ++ ext).length = (bodyS l).length + (4 + ext.length) := by rw [encS, List.append_assoc, List.length_append, List.length_append, hfl]
  have h4 : ((fixedS (sumS 2166136261 (bodyS l)) ++ ext).take 4 == fixedS (sumS 2166136261 (bodyS l))) = true := by
    rw [beq_iff_eq, ← hfl (sumS 2166136261 (bodyS l)), List.take_left]
  unfold finX
  rw [if_pos rfl, Int.toNat_natCast, htake, hdrop, h4, htot, if_neg (show ¬ ((((bodyS l).length + (4 + ext.length) : Nat) : Int) - ((bodyS l).length : Int) < 4) by omega), if_neg (show ¬ (true = false) by decide)]
  by_cases he : ext = []
  · subst he
    rw [if_neg (show ¬ ((((bodyS l).length + (4 + ([] : List Int).length) : Nat) : Int) - ((bodyS l).length : Int) > 4) by simp only [List.length_nil]; omega), if_pos rfl, if_pos rfl]
    rfl
  · have : 0 < ext.length := List.length_pos_iff.2 he
    rw [if_pos (show ((((bodyS l).length + (4 + ext.length) : Nat) : Int) - ((bodyS l).length : Int) > 4) by omega), if_neg he, if_neg (show ¬ ((272 : Int) = 0) by decide)]
    rw [encS, List.length_append, hfl]
    simp
/-- What Decode takes Encode writes. -/
theorem decX_canon (bs : List Int) (p : List S82) (n : Int) (hbs : ∀ c ∈ bs, 0 ≤ c ∧ c < 256) (hl : bs.length < 4398046511104) (h : decX bs = (p, 0, n)) : risingS p = true ∧ (∀ x ∈ p, wfP x) ∧ encS p = bs ∧ n = 0 := by
  unfold decX at h
  dsimp only at h
  have hok := startX_ok bs
  have hsc := startX_canon bs
  generalize hs : startX bs = s at *
  obtain ⟨a, e⟩ := s
  dsimp only at *
  by_cases he : e = 0
  · subst he
    obtain ⟨rest, rfl⟩ := hsc rfl
    have ha : a = 4 := by rw [startL_round] at hs; injection hs with h1; exact h1.symm
    subst ha
    have hn1 : numX ([83, 72, 85, 49] ++ rest) 4 0 = numR 0 4 0 rest := rfl
    rw [hn1] at h
    generalize hN : numR 0 4 0 rest = N at *
    obtain ⟨m, a1, e1⟩ := N
    dsimp only at *
    by_cases he1 : e1 = 0
    · subst he1
      obtain ⟨r1, e2, e3, e4, e5⟩ := numS_canon _ (fun c hc => hbs c (by simp [hc])) _ _ _ hN
      obtain rfl : a1 = ((4 + (numS m).length : Nat) : Int) := by omega
      have hd1 : ([83, 72, 85, 49] ++ rest).drop (4 + (numS m).length) = r1 := drop_add _ (numS m) r1 4 (by rw [e2]; rfl)
      have hle : 4 + (numS m).length ≤ ([83, 72, 85, 49] ++ rest).length := by rw [e2]; simp; omega
      generalize hD : decL ([83, 72, 85, 49] ++ rest) (([83, 72, 85, 49] ++ rest).length + 1) m ((4 + (numS m).length : Nat) : Int) 0 0 [] = D at *
      obtain ⟨L, a2, e6⟩ := D
      dsimp only at *
      by_cases he6 : e6 = 0
      · subst he6
        obtain ⟨l, r2, f1, f2, f3, f4, f5⟩ := decL_canon _ hbs _ m _ 0 [] L a2 e4 e5 hle (by omega) (fun _ => rfl) (by omega) (by decide) hD
        rw [List.nil_append] at f1
        subst f1
        obtain ⟨g1, g2⟩ := chain_rising L _ _ f5
        rw [hd1] at f3
        have hB : [83, 72, 85, 49] ++ rest = bodyS L ++ r2 := by rw [e2, f3, ← f2]; simp [bodyS]
        have hat : a2 = ((bodyS L).length : Int) := by rw [f4, ← f2]; simp [bodyS, List.length_append]; omega
        subst hat
        have htake : ([83, 72, 85, 49] ++ rest).take (bodyS L).length = bodyS L := by rw [hB, List.take_left]
        have hdrop : ([83, 72, 85, 49] ++ rest).drop (bodyS L).length = r2 := by rw [hB, List.drop_left]
        have htot : ([83, 72, 85, 49] ++ rest).length = (bodyS L).length + r2.length := by rw [hB, List.length_append]
        unfold finX at h
        rw [if_pos rfl, Int.toNat_natCast, htake, hdrop, htot] at h
        by_cases c1 : (((bodyS L).length + r2.length : Nat) : Int) - ((bodyS L).length : Int) < 4
        · rw [if_pos c1] at h
          exact absurd h (by simp)
        · rw [if_neg c1] at h
          by_cases c2 : (r2.take 4 == fixedS (sumS 2166136261 (bodyS L))) = false
          · rw [if_pos c2] at h
            exact absurd h (by simp)
          · rw [if_neg c2] at h
            by_cases c3 : (((bodyS L).length + r2.length : Nat) : Int) - ((bodyS L).length : Int) > 4
            · rw [if_pos c3] at h
              exact absurd h (by simp)
            · rw [if_neg c3, if_pos rfl] at h
              simp only [Prod.mk.injEq, true_and] at h
              obtain ⟨rfl, rfl⟩ := h
              refine ⟨g1, g2, ?_, rfl⟩
              have c4 : r2.take 4 = fixedS (sumS 2166136261 (bodyS L)) := by
                have : (r2.take 4 == fixedS (sumS 2166136261 (bodyS L))) = true := by simpa using c2
                rwa [beq_iff_eq] at this
              rw [List.take_of_length_le (by omega)] at c4
              rw [hB, encS, c4]
      · exfalso
        unfold finX at h
        rw [if_neg he6, if_neg he6] at h
        simp only [Prod.mk.injEq] at h
        exact he6 h.2.1
    · exfalso
      rw [decL_end _ _ _ _ _ _ _ (fun hh => he1 hh.2)] at h
      unfold finX at h
      dsimp only at h
      rw [if_neg he1, if_neg he1] at h
      simp only [Prod.mk.injEq] at h
      exact he1 h.2.1
  · exfalso
    rw [numX_stay he, decL_end _ _ _ _ _ _ _ (fun hh => he hh.2)] at h
    unfold finX at h
    dsimp only at h
    rw [if_neg he, if_neg he] at h
    simp only [Prod.mk.injEq] at h
    exact he h.2.1
end Go.Proofs.Ythblincfnfpgbaa.Q
namespace Go.Proofs.Ythblincfnfpgbaa.Q
open Go.RowKit Go.Proofs.YthblincfnfpgbaaW.PrintWords Go.Proofs.YthblincfnfpgbaaW.PrintLast Go.Proofs.YthblincfnfpgbaaW.PrintMore
set_option linter.unusedVariables false
theorem rd30p (l : List S30) (i : Int) (k : Nat) (hk : i = k) (h : k < l.length) : rd_T30 l i = l[k] := by
  subst hk; unfold rd_T30; simp [List.getD_eq_getElem?_getD, List.getElem?_eq_getElem h]
theorem rd102 (l : List S102) (i : Int) (k : Nat) (hk : i = k) (h : k < l.length) : rd_T102 l i = l[k] := by
  subst hk; unfold rd_T102; simp [List.getD_eq_getElem?_getD, List.getElem?_eq_getElem h]
theorem samePairs_n (l : List S82) (hl : l.length < 4398046511104) (d : Nat) : ∀ (k i : Nat), i + d = l.length → d < k → shutterref11_SamePairs.l0 k l l i = some true := by
  induction d with
  | zero =>
    intro k i h hk
    obtain ⟨k, rfl⟩ : ∃ m, k = m + 1 := ⟨k - 1, by omega⟩
    simp only [shutterref11_SamePairs.l0]
    rw [if_neg (by omega)]
  | succ d ih =>
    intro k i h hk
    obtain ⟨k, rfl⟩ : ∃ m, k = m + 1 := ⟨k - 1, by omega⟩
    simp only [shutterref11_SamePairs.l0]
    rw [if_pos (by omega), if_pos (by omega), if_pos (by omega), if_neg (by simp), w1 i (by omega)]
    exact ih k (i + 1) (by omega) (by omega)
theorem samePairs_f (l : List S82) (hl : l.length < 4398046511104) : ∃ k, shutterref11_SamePairs.f k l l = some true :=
  ⟨l.length + 1, by unfold shutterref11_SamePairs.f; rw [if_pos rfl]; exact samePairs_n l hl l.length _ 0 (by omega) (by omega)⟩
theorem same_n (l : List S102) (hl : l.length < 4398046511104) (d : Nat) : ∀ (k i : Nat), i + d = l.length → d < k → shutterlaw27_same.l0 k l l i = some true := by
  induction d with
  | zero =>
    intro k i h hk
    obtain ⟨k, rfl⟩ : ∃ m, k = m + 1 := ⟨k - 1, by omega⟩
    simp only [shutterlaw27_same.l0]
    rw [if_neg (by omega)]
  | succ d ih =>
    intro k i h hk
    obtain ⟨k, rfl⟩ : ∃ m, k = m + 1 := ⟨k - 1, by omega⟩
    simp only [shutterlaw27_same.l0]
    rw [if_pos (by omega), if_pos (by omega), if_pos (by omega), if_neg (by simp), w1 i (by omega)]
    exact ih k (i + 1) (by omega) (by omega)
theorem same_f (l : List S102) (hl : l.length < 4398046511104) : ∃ k, shutterlaw27_same.f k l l = some true :=
  ⟨l.length + 1, by unfold shutterlaw27_same.f; rw [if_pos rfl]; exact same_n l hl l.length _ 0 (by omega) (by omega)⟩
theorem turn_n (l : List S30) (hl : l.length < 4398046511104) (d : Nat) : ∀ (k i : Nat) (acc : List S102), i + d = l.length → d < k → acc.length ≤ i → shutterlaw27_turn.l0 k l acc i = some (acc ++ (l.drop i).map cv) := by
  induction d with
  | zero =>
    intro k i acc h hk ha
    obtain ⟨k, rfl⟩ : ∃ m, k = m + 1 := ⟨k - 1, by omega⟩
    simp only [shutterlaw27_turn.l0]
    rw [if_neg (by omega), List.drop_of_length_le (by omega)]
    simp
  | succ d ih =>
    intro k i acc h hk ha
    obtain ⟨k, rfl⟩ : ∃ m, k = m + 1 := ⟨k - 1, by omega⟩
    simp only [shutterlaw27_turn.l0]
    rw [if_pos (by omega), if_pos (by omega), if_pos (by omega), w1 i (by omega), ih k (i + 1) _ (by omega) (by omega) (by simp; omega), rd30p l _ i rfl (by omega), List.drop_eq_getElem_cons (show i < l.length by omega), List.map_cons, List.append_assoc]
    rfl
theorem turn_f (l : List S30) (hl : l.length < 4398046511104) : ∃ k, shutterlaw27_turn.f k l = some (l.map cv) :=
  ⟨l.length + 1, by have := turn_n l hl l.length (l.length + 1) 0 [] (by omega) (by omega) (by simp); simpa [shutterlaw27_turn.f] using this⟩
end Go.Proofs.Ythblincfnfpgbaa.Q
namespace Go.Proofs.Ythblincfnfpgbaa.Q
open Go.RowKit Go.Proofs.YthblincfnfpgbaaW.PrintWords Go.Proofs.YthblincfnfpgbaaW.PrintLast Go.Proofs.YthblincfnfpgbaaW.PrintMore
set_option linter.unusedVariables false
set_option linter.unusedSimpArgs false
theorem numN_byte (m : Nat) : ∀ v : Int, 0 ≤ v → ∀ c ∈ numN m v, 0 ≤ c ∧ c < 256 := by
  induction m with
  | zero => intro v h c hc; rw [numN, List.mem_singleton] at hc; omega
  | succ m ih =>
    intro v h c hc
    by_cases h128 : 128 ≤ v
    · rw [numN_big m v h128] at hc
      rcases List.mem_cons.1 hc with rfl | hc
      · omega
      · exact ih _ (by omega) c hc
    · rw [numN_small _ v h (by omega), List.mem_singleton] at hc
      omega
theorem pairs_byte (l : List S82) (hw : ∀ p ∈ l, wfP p) : ∀ last, ∀ c ∈ pairsS last l, 0 ≤ c ∧ c < 256 := by
  induction l with
  | nil => intro last c hc; simp [pairsS] at hc
  | cons p l ih =>
    intro last c hc
    have hp := hw p (by simp)
    rw [pairsS, List.mem_append, List.mem_append] at hc
    rcases hc with (hc | hc) | hc
    · exact numN_byte 9 _ (u64_range _).1 c hc
    · exact numN_byte 9 _ hp.2.2.1 c hc
    · exact ih (fun q hq => hw q (by simp [hq])) _ c hc
theorem fixed_byte (s : Int) (h0 : 0 ≤ s) (h1 : s < 4294967296) : ∀ c ∈ fixedS s, 0 ≤ c ∧ c < 256 := by
  intro c hc
  simp only [fixedS, List.mem_cons, List.mem_nil_iff, or_false] at hc
  omega
theorem encS_byte (l : List S82) (hw : ∀ p ∈ l, wfP p) : ∀ c ∈ encS l, 0 ≤ c ∧ c < 256 := by
  intro c hc
  have hs := sumS_range (bodyS l) 2166136261 (by omega) (by omega)
  rw [encS, List.mem_append] at hc
  rcases hc with hc | hc
  · rw [bodyS, List.mem_append, List.mem_append] at hc
    rcases hc with (hc | hc) | hc
    · simp at hc; omega
    · exact numN_byte 9 _ (by omega) c hc
    · exact pairs_byte l hw 0 c hc
  · exact fixed_byte _ hs.1 hs.2 c hc
theorem encS_len (l : List S82) : 9 ≤ (encS l).length ∧ (encS l).length ≤ 18 + 20 * l.length ∧ l.length ≤ (encS l).length := by
  have h1 := numN_pos 9 (l.length : Int)
  have h2 := numN_length 9 (l.length : Int)
  have h3 := pairsS_length l 0
  have h4 := pairs_ge l 0
  simp only [encS, bodyS, List.length_append, fixedS, List.length_cons, List.length_nil, numS]
  omega
theorem decX_bad (bs : List Int) {p : List S82} {e n : Int} (h : decX bs = (p, e, n)) (he : e ≠ 0) : p = [] := by
  unfold decX at h
  dsimp only at h
  split at h
  · simp only [Prod.mk.injEq] at h; exact absurd h.2.1.symm he
  · simp only [Prod.mk.injEq] at h; exact h.1.symm
/-- What is read through is what was written. -/
theorem dec_enc (bs : List Int) (p : List S82) (n : Int) (hbs : ∀ c ∈ bs, 0 ≤ c ∧ c < 256) (hl : bs.length < 4398046511104) (h : decX bs = (p, 0, n)) : risingS p = true ∧ (∀ x ∈ p, wfP x) ∧ encS p = bs ∧ n = 0 ∧ p.length < 4398046511104 := by
  obtain ⟨h1, h2, h3, h4⟩ := decX_canon _ p n hbs hl h
  refine ⟨h1, h2, h3, h4, ?_⟩
  have := (encS_len p).2.2
  rw [h3] at this
  omega
/-- The end lost: it is not taken. -/
theorem hurt_end (l : List S82) (hw : ∀ p ∈ l, wfP p) (hr : risingS l = true) (hl : l.length < 1048577) (k : Nat) (hk : k < (encS l).length) : ∃ e n, decX ((encS l).take k) = ([], e, n) ∧ e ≠ 0 := by
  obtain ⟨p, e, n, h⟩ : ∃ p e n, decX ((encS l).take k) = (p, e, n) := ⟨_, _, _, rfl⟩
  have hb : ∀ c ∈ (encS l).take k, 0 ≤ c ∧ c < 256 := fun c hc => encS_byte l hw c (List.mem_of_mem_take hc)
  have hlen : ((encS l).take k).length < 4398046511104 := by
    have := encS_len l
    rw [List.length_take]
    omega
  by_cases he : e = 0
  · exfalso
    subst he
    obtain ⟨h1, h2, h3, -, hp⟩ := dec_enc _ p n hb hlen h
    have e1 : encS l = encS p ++ (encS l).drop k := by rw [h3, List.take_append_drop]
    have r1 := decX_round l [] hw hr (by omega)
    have r2 := decX_round p ((encS l).drop k) h2 h1 hp
    rw [← e1, if_neg (by intro hh; have := congrArg List.length hh; rw [List.length_drop, List.length_nil] at this; omega)] at r2
    rw [List.append_nil, if_pos rfl, r2] at r1
    simp at r1
  · exact ⟨e, n, by rw [h, decX_bad _ h he], he⟩
theorem samePairs_g (p l : List S82) (he : p.length = l.length) (hl : p.length < 4398046511104) (d : Nat) : ∀ (k i : Nat), i + d = p.length → d < k → ∃ b, shutterref11_SamePairs.l0 k p l i = some b ∧ (b = true ↔ p.drop i = l.drop i) := by
  induction d with
  | zero =>
    intro k i h hk
    obtain ⟨k, rfl⟩ : ∃ m, k = m + 1 := ⟨k - 1, by omega⟩
    refine ⟨true, ?_, ?_⟩
    · simp only [shutterref11_SamePairs.l0]
      rw [if_neg (by omega)]
    · rw [List.drop_of_length_le (by omega), List.drop_of_length_le (by omega)]
      simp
  | succ d ih =>
    intro k i h hk
    obtain ⟨k, rfl⟩ : ∃ m, k = m + 1 := ⟨k - 1, by omega⟩
    have h1 : i < p.length := by omega
    have h2 : i < l.length := by omega
    obtain ⟨b, e1, e2⟩ := ih k (i + 1) (by omega) (by omega)
    simp only [shutterref11_SamePairs.l0]
    rw [if_pos (by omega), if_pos (by omega), if_pos (by omega), rd82 p _ i rfl h1, rd82 l _ i rfl h2, w1 i (by omega), e1, List.drop_eq_getElem_cons h1, List.drop_eq_getElem_cons h2]
    by_cases hq : p[i] = l[i]
    · refine ⟨b, by rw [hq, if_neg (by simp)], ?_⟩
      rw [e2, hq, List.cons.injEq]
      exact ⟨fun h => ⟨rfl, h⟩, fun h => h.2⟩
    · refine ⟨false, ?_, ⟨fun h => (by cases h), fun h => absurd (List.cons.inj h).1 hq⟩⟩
      rw [if_pos]
      by_cases h5 : p[i].f0 = l[i].f0
      · by_cases h6 : p[i].f1 = l[i].f1
        · exact absurd (by rcases hx : p[i] with ⟨a, b⟩; rcases hy : l[i] with ⟨c, d⟩; rw [hx, hy] at h5 h6; simp only at h5 h6; rw [h5, h6]) hq
        · simp [h6]
      · simp [h5]
/-- SamePairs tells whether they are the same. -/
theorem samePairs_is (p l : List S82) (hl : p.length < 4398046511104) (k : Nat) (hk : p.length < k) : ∃ b, shutterref11_SamePairs.f k p l = some b ∧ (b = true ↔ p = l) := by
  unfold shutterref11_SamePairs.f
  by_cases he : p.length = l.length
  · rw [if_pos (by omega)]
    have := samePairs_g p l he hl p.length k 0 (by omega) hk
    simpa using this
  · rw [if_neg (by omega)]
    exact ⟨false, rfl, by simp; intro h; exact he (by rw [h])⟩
theorem samePairs_yes (l : List S82) (hl : l.length < 4398046511104) (k : Nat) (hk : l.length < k) : shutterref11_SamePairs.f k l l = some true := by
  obtain ⟨b, h1, h2⟩ := samePairs_is l l hl k hk
  rw [h1, h2.2 rfl]
end Go.Proofs.Ythblincfnfpgbaa.Q
namespace Go.Proofs.Ythblincfnfpgbaa.Q
open Go.RowKit Go.Proofs.YthblincfnfpgbaaW.PrintWords Go.Proofs.YthblincfnfpgbaaW.PrintLast Go.Proofs.YthblincfnfpgbaaW.PrintMore Go.Proofs.Ythblincfnfpgbaa.Open
set_option linter.unusedVariables false
set_option linter.unusedSimpArgs false
theorem sameB_n' (l : List Int) (hl : l.length < 4398046511104) (d : Nat) : ∀ (k i : Nat), i + d = l.length → d < k → shuttermem_Same.l0 k l l i = some true := by
  induction d with
  | zero =>
    intro k i h hk
    obtain ⟨k, rfl⟩ : ∃ m, k = m + 1 := ⟨k - 1, by omega⟩
    simp only [shuttermem_Same.l0]
    rw [if_neg (by omega)]
  | succ d ih =>
    intro k i h hk
    obtain ⟨k, rfl⟩ : ∃ m, k = m + 1 := ⟨k - 1, by omega⟩
    simp only [shuttermem_Same.l0]
    rw [if_pos (by omega), if_pos (by omega), if_pos (by omega), if_pos trivial, w1 i (by omega)]
    exact ih k (i + 1) (by omega) (by omega)
theorem sameB_yes (l : List Int) (hl : l.length < 4398046511104) (k : Nat) (hk : l.length < k) : shuttermem_Same.f k l l = some true := by
  unfold shuttermem_Same.f
  rw [if_pos rfl]
  exact sameB_n' l hl l.length k 0 (by omega) hk
theorem enc_f (l : List S82) (hl : l.length < 4398046511104) (hw : ∀ p ∈ l, wfP p) : dump_Encode.f l = if risingS l = true then some (encS l, 0) else some ([], 52) := by
  unfold dump_Encode.f
  rw [if_pos ⟨hl, hw⟩]
theorem dec_f (l : List Int) (hl : l.length < 4398046511104) (hb : ∀ c ∈ l, 0 ≤ c ∧ c < 256) : dump_Decode.f l = some (decX l) := by
  unfold dump_Decode.f
  rw [if_pos ⟨hl, hb⟩]
theorem back_j1 (c : List Int) (k : Nat) (hl : c.length < 4398046511104) (hb : ∀ x ∈ c, 0 ≤ x ∧ x < 256) (hk : c.length + 1 < k) : shutterlaw27_DumpBack.j1 k c = some true := by
  obtain ⟨k, rfl⟩ : ∃ m, k = m + 1 := ⟨k - 1, by omega⟩
  simp only [shutterlaw27_DumpBack.j1]
  obtain ⟨p, e, n, h⟩ : ∃ p e n, decX c = (p, e, n) := ⟨_, _, _, rfl⟩
  rw [dec_f c hl hb, h, Option.bind_some]
  simp only
  by_cases he : e = 0
  · subst he
    obtain ⟨h1, h2, h3, -, h5⟩ := dec_enc c p n hb hl h
    rw [if_pos rfl, enc_f p h5 h2, if_pos h1, h3, Option.bind_some, live_f, Option.bind_some, if_pos rfl, if_pos rfl, sameB_yes c hl k (by omega)]
    rfl
  · rw [if_neg he, live_f, Option.bind_some, if_pos rfl, decX_bad c h he]
    rfl
theorem back_j0 (a b : List S82) (c : List Int) (k : Nat) (ha : a.length + b.length < 2199023255552) (hl : c.length < 4398046511104) (hb : ∀ x ∈ c, 0 ≤ x ∧ x < 256) (hk : a.length + b.length + c.length + 2 < k) : shutterlaw27_DumpBack.j0 k a b c = some true := by
  obtain ⟨k, rfl⟩ : ∃ m, k = m + 1 := ⟨k - 1, by omega⟩
  simp only [shutterlaw27_DumpBack.j0]
  have hj := back_j1 c k hl hb (by omega)
  have hd : dump_Diff.f a b = if risingS a = true then (if risingS b = true then some (diffS a b, 0) else some ([], 52)) else some ([], 52) := by
    unfold dump_Diff.f
    rw [if_pos (by omega)]
  rw [hd]
  by_cases h1 : risingS a = true
  · rw [if_pos h1]
    by_cases h2 : risingS b = true
    · rw [if_pos h2, Option.bind_some, if_pos rfl]
      have hdl := diffS_length a b
      have hp : dump_Patch.f a (diffS a b) = some (b, 0) := by
        unfold dump_Patch.f
        rw [if_pos (by omega), patR_diff a b h1 h2]
      obtain ⟨t, h3, h4⟩ := samePairs_is a b (by omega) k (by omega)
      have h5 : (((diffS a b).length : Int) == 0) = t := by
        rw [Bool.eq_iff_iff, h4, ← diff_none a b h1 h2, beq_iff_eq]
        omega
      rw [hp, Option.bind_some, if_pos rfl, samePairs_yes b (by omega) k (by omega), Option.bind_some, if_pos rfl, h3, Option.bind_some, h5, if_neg (by simp)]
      exact hj
    · rw [if_neg h2, Option.bind_some, if_neg (by decide)]
      exact hj
  · rw [if_neg h1, Option.bind_some, if_neg (by decide)]
    exact hj
theorem dumpBack_f (a b : List S82) (c : List Int) (hl : a.length + b.length + c.length < 1048577) (hw : ∀ p ∈ a, wfP p) (hb : ∀ x ∈ c, 0 ≤ x ∧ x < 256) : shutterlaw27_DumpBack.f (a.length + b.length + c.length + 3) a b c = some true := by
  have hj := back_j0 a b c (a.length + b.length + c.length + 3) (by omega) (by omega) hb (by omega)
  unfold shutterlaw27_DumpBack.f
  rw [enc_f a (by omega) hw]
  by_cases h1 : risingS a = true
  · have he := encS_len a
    have hr := decX_round a [] hw h1 (by omega)
    rw [List.append_nil, if_pos rfl] at hr
    rw [if_pos h1, Option.bind_some, if_pos rfl, dec_f _ (by show (encS a).length < _; omega) (encS_byte a hw), hr, Option.bind_some, if_pos rfl, if_pos rfl, samePairs_yes a (by omega) _ (by omega), Option.bind_some, if_pos rfl]
    exact hj
  · rw [if_neg h1, Option.bind_some, if_neg (by decide)]
    exact hj
theorem back_walk (W : World) (a0 : Option Addr) (c0 : Nat) (x0 : List S82) (h0 : Kd.C k82 W a0 x0.length x0) (l0 : x0.length ≤ c0) {H : Type} {d0 d1 d2 : DataW H} (b0 : (x0.map B82).sum + 1 ≤ Rows.uptoBulk d0) (w0 : ∀ x ∈ x0, wfP x)
    (a1 : Option Addr) (c1 : Nat) (x1 : List S82) (h1 : Kd.C k82 W a1 x1.length x1) (l1 : x1.length ≤ c1) (b1 : (x1.map B82).sum + 1 ≤ Rows.uptoBulk d1) (w1 : ∀ x ∈ x1, wfP x)
    (a2 : Option Addr) (c2 : Nat) (x2 : List Int) (h2 : Kd.C (Kd.int .u8) W a2 x2.length x2) (l2 : x2.length ≤ c2) (b2 : (x2.map (fun _ => 1)).sum + 1 ≤ Rows.uptoBulk d2) (w2 : ∀ x ∈ x2, (Lit.int .u8 x).wf = true) (hb : Rows.uptoBulk d0 + (Rows.uptoBulk d1 + (Rows.uptoBulk d2 + 0)) ≤ 1048576) :
    Calls Try.prog 9 #[.slice a0 x0.length c0, .slice a1 x1.length c1, .slice a2 x2.length c2] W fun e W' => e = .returned (.bool true) ∧ Below W.heap.size W W' := by
  have s0 := sum82 x0
  have s1 := sum82 x1
  have s2 : (x2.map (fun _ => 1)).sum = x2.length := by clear h2 l2 b2 w2; induction x2 with
    | nil => rfl
    | cons a l ih => simp [ih]; omega
  refine shutterlaw27_DumpBack.calls _ a0 c0 x0 a1 c1 x1 a2 c2 x2 true W h0 l0 h1 l1 h2 l2 (dumpBack_f x0 x1 x2 (by omega) w0 (fun c hc => ?_))
  have := w2 c hc
  simp [Lit.wf, IntKind.min, IntKind.max, IntKind.signed, IntKind.bits] at this
  omega
end Go.Proofs.Ythblincfnfpgbaa.Q
