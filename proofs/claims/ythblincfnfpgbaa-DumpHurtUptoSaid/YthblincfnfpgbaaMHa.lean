import Derived.Test.YthblincfnfpgbaaQx0
import Derived.Test.YthblincfnfpgbaaQx15
import Derived.Test.YthblincfnfpgbaaQx30
import Derived.Test.YthblincfnfpgbaaQxH3
import Derived.Test.YthblincfnfpgbaaQxH5
import Derived.Test.YthblincfnfpgbaaQxPRt
import Derived.Test.YthblincfnfpgbaaQxPC
import Derived.Test.YthblincfnfpgbaaQxLive
import Derived.Test.YthblincfnfpgbaaQxO82
-- Written by a program of this session over the kit's print.py, which was handed contracts that were proved by hand. Lean checks it.
namespace Go.Proofs.Ythblincfnfpgbaa.Q
open Go.RowKit Go.Proofs.YthblincfnfpgbaaW.PrintWords Go.Proofs.YthblincfnfpgbaaW.PrintLast Go.Proofs.YthblincfnfpgbaaW.PrintMore
attribute [local go_sem] max2_int min2_int max_two min_two max_three min_three max_four min_four   -- for this text's walks alone
set_option linter.unusedVariables false
set_option linter.unusedSimpArgs false

/-! ### shutterlaw27_DumpHurt: function 7 -/
def shutterlaw27_DumpHurt.j0 : Nat → List (S82) → Int → List Int → Int → Bool → Option (Bool)
  | 0, _, _, _, _, _ => none
  | k + 1, x0, x2, x7, x9, x50 => if x50 = true then (some false) else (if 0 ≤ x9 then (if x9 < (x7.length : Int) then ((dump_Decode.f (x7.set (x9 : Int).toNat (Go.bits .xor .u8 (rd x7 x9) x2))).bind fun bt437 => ((shutterlaw27_live.f).bind fun t442 => (if t442 = true then (if bt437.2.1 = 0 then ((shutterref11_SamePairs.f k bt437.1 x0).bind fun t443 => (some ((x2 == 0) == t443))) else (some ((x2 == 0) == false))) else (some false)))) else (none)) else (none))
def shutterlaw27_DumpHurt.f (k : Nat) (l0 : List (S82)) (a1 : Int) (a2 : Int) : Option (Bool) := (dump_Encode.f l0).bind fun bt421 => (if bt421.2 = 0 then (if (bt421.1.length : Int) < 9 then (some false) else (if (IntKind.u64.wrap ((bt421.1.length : Int))) = 0 then (none) else (if 0 ≤ (wrap64 (Int.tmod (IntKind.u64.wrap (a1)) (IntKind.u64.wrap ((bt421.1.length : Int))))) then (if (wrap64 (Int.tmod (IntKind.u64.wrap (a1)) (IntKind.u64.wrap ((bt421.1.length : Int))))) ≤ (bt421.1.length : Int) then ((dump_Decode.f (bt421.1.take ((wrap64 (Int.tmod (IntKind.u64.wrap (a1)) (IntKind.u64.wrap ((bt421.1.length : Int))))) : Int).toNat)).bind fun bt430 => (if bt430.2.1 = 0 then (shutterlaw27_DumpHurt.j0 k l0 a2 bt421.1 (wrap64 (Int.tmod (IntKind.u64.wrap (a1)) (IntKind.u64.wrap ((bt421.1.length : Int))))) true) else (shutterlaw27_DumpHurt.j0 k l0 a2 bt421.1 (wrap64 (Int.tmod (IntKind.u64.wrap (a1)) (IntKind.u64.wrap ((bt421.1.length : Int))))) ((bt430.1.length : Int) != 0)))) else (none)) else (none)))) else ((shutterlaw27_live.f).bind fun t425 => (if t425 = true then (some ((bt421.1.length : Int) == 0)) else (some false))))
theorem shutterlaw27_DumpHurt.mono_l : ∀ k, (∀ y0 y1 y2 y3 y4, LeO (shutterlaw27_DumpHurt.j0 k y0 y1 y2 y3 y4) (shutterlaw27_DumpHurt.j0 (k + 1) y0 y1 y2 y3 y4))
  | 0 => fun _ _ _ _ _ r h => by simp [shutterlaw27_DumpHurt.j0] at h
  | k + 1 => by
    have ih0 := shutterlaw27_DumpHurt.mono_l k
    · intro y0 y1 y2 y3 y4
      unfold shutterlaw27_DumpHurt.j0
      repeat' first
      | (with_reducible exact ih0 _ _ _ _ _)
      | (with_reducible exact shutterref11_SamePairs.mono _ _ _)
      | (with_reducible exact LeO.refl _)
      | (with_reducible exact LeO.none _)
      | (with_reducible refine LeO.ite ?_ ?_)
      | (with_reducible refine LeO.bind ?_ (fun _ => ?_))
      | exact ih0 _ _ _ _ _
      | exact shutterref11_SamePairs.mono _ _ _
      | exact LeO.none _
      | refine LeO.ite ?_ ?_
      | refine LeO.bind ?_ (fun _ => ?_)
theorem shutterlaw27_DumpHurt.mono : ∀ a0 a1 a2 k, LeO (shutterlaw27_DumpHurt.f k a0 a1 a2) (shutterlaw27_DumpHurt.f (k + 1) a0 a1 a2) := by
  intro a0 a1 a2 k
  have ih0 := shutterlaw27_DumpHurt.mono_l k
  unfold shutterlaw27_DumpHurt.f
  repeat' first
      | (with_reducible exact ih0 _ _ _ _ _)
      | (with_reducible exact shutterref11_SamePairs.mono _ _ _)
      | (with_reducible exact LeO.refl _)
      | (with_reducible exact LeO.none _)
      | (with_reducible refine LeO.ite ?_ ?_)
      | (with_reducible refine LeO.bind ?_ (fun _ => ?_))
      | exact ih0 _ _ _ _ _
      | exact shutterref11_SamePairs.mono _ _ _
      | exact LeO.none _
      | refine LeO.ite ?_ ?_
      | refine LeO.bind ?_ (fun _ => ?_)
set_option maxHeartbeats 8000000 in
set_option maxRecDepth 100000 in
theorem shutterlaw27_DumpHurt.calls (k : Nat) (A0 : Option Addr) (c0 : Nat) (l0 : List (S82)) (a1 : Int) (a2 : Int) (r : Bool) (w : World) (hr0 : Kd.C k82 w A0 l0.length l0) (hc0 : l0.length ≤ c0) (h : shutterlaw27_DumpHurt.f k l0 a1 a2 = some r) :
    Calls Try.prog 7 #[.slice A0 l0.length c0, .int .i64 a1, .int .u8 a2] w fun e w' => e = .returned (.bool r) ∧ Below w.heap.size w w' := by
  have HR0 := Aside0.mk hr0
  have HC0 := Aside0.mk hc0
  clear hr0 hc0
  have HB := Aside0.mk (Below.refl w.heap.size w)
  have H : ((dump_Encode.f l0).bind fun bt421 => (if bt421.2 = 0 then (if (bt421.1.length : Int) < 9 then (some false) else (if (IntKind.u64.wrap ((bt421.1.length : Int))) = 0 then (none) else (if 0 ≤ (wrap64 (Int.tmod (IntKind.u64.wrap (a1)) (IntKind.u64.wrap ((bt421.1.length : Int))))) then (if (wrap64 (Int.tmod (IntKind.u64.wrap (a1)) (IntKind.u64.wrap ((bt421.1.length : Int))))) ≤ (bt421.1.length : Int) then ((dump_Decode.f (bt421.1.take ((wrap64 (Int.tmod (IntKind.u64.wrap (a1)) (IntKind.u64.wrap ((bt421.1.length : Int))))) : Int).toNat)).bind fun bt430 => (if bt430.2.1 = 0 then (shutterlaw27_DumpHurt.j0 k l0 a2 bt421.1 (wrap64 (Int.tmod (IntKind.u64.wrap (a1)) (IntKind.u64.wrap ((bt421.1.length : Int))))) true) else (shutterlaw27_DumpHurt.j0 k l0 a2 bt421.1 (wrap64 (Int.tmod (IntKind.u64.wrap (a1)) (IntKind.u64.wrap ((bt421.1.length : Int))))) ((bt430.1.length : Int) != 0)))) else (none)) else (none)))) else ((shutterlaw27_live.f).bind fun t425 => (if t425 = true then (some ((bt421.1.length : Int) == 0)) else (some false))))) = some r := h
  clear h
  replace H := Option.bind_eq_some_iff.mp H
  obtain ⟨⟨t421, t422⟩, A40, H⟩ := H
  replace H : (if t422 = 0 then (if (t421.length : Int) < 9 then (some false) else (if (IntKind.u64.wrap ((t421.length : Int))) = 0 then (none) else (if 0 ≤ (wrap64 (Int.tmod (IntKind.u64.wrap (a1)) (IntKind.u64.wrap ((t421.length : Int))))) then (if (wrap64 (Int.tmod (IntKind.u64.wrap (a1)) (IntKind.u64.wrap ((t421.length : Int))))) ≤ (t421.length : Int) then ((dump_Decode.f (t421.take ((wrap64 (Int.tmod (IntKind.u64.wrap (a1)) (IntKind.u64.wrap ((t421.length : Int))))) : Int).toNat)).bind fun bt430 => (if bt430.2.1 = 0 then (shutterlaw27_DumpHurt.j0 k l0 a2 t421 (wrap64 (Int.tmod (IntKind.u64.wrap (a1)) (IntKind.u64.wrap ((t421.length : Int))))) true) else (shutterlaw27_DumpHurt.j0 k l0 a2 t421 (wrap64 (Int.tmod (IntKind.u64.wrap (a1)) (IntKind.u64.wrap ((t421.length : Int))))) ((bt430.1.length : Int) != 0)))) else (none)) else (none)))) else ((shutterlaw27_live.f).bind fun t425 => (if t425 = true then (some ((t421.length : Int) == 0)) else (some false)))) = some r := H
  have A4 := Aside0.mk A40
  clear A40
  by_cases c5 : t422 = 0
  · rw [if_pos c5] at H
    have c5b0 : (t422 == 0) = true := beq_iff_eq.mpr c5
    have c5b1 : (t422 != 0) = false := bne_eq_false_iff_eq.mpr c5
    clear c5
    by_cases c6 : (t421.length : Int) < 9
    · rw [if_pos c6] at H
      have c6b0 : decide ((t421.length : Int) < 9) = true := decide_eq_true c6
      have c6b1 : decide (t421.length < 9) = true := decide_eq_true (by omega)
      clear c6
      obtain rfl := Option.some.inj H
      go_enter Try.func7, Try.ntmps7
      go_wp2_with (first | ((with_reducible refine gate_callee (f := 28) rfl ?_); refine goesL_ (some 15) rfl rfl Try.func28 (by kernel_rfl) rfl #[.slice A0 l0.length c0] rfl (by (try simp only [List.map_toArray, List.map_cons, List.map_nil]); first | done | rfl | (simp only [List.length_drop, List.length_take]; rfl)) ?_; (with_reducible refine (dump_Encode.calls _ _ l0 t421 t422 _ ?side1 ?side2 A4.out).mono ?_); (case side1 => repeat (first | exact HR0.out | (with_reducible refine Kd.C_alloc ?_ _) | (with_reducible refine Kd.C_drewN ?_ _) | (with_reducible refine Kd.C_drew ?_))); (case side2 => exact HC0.out); rintro e w7 ⟨v423, rfl, ho0, hb⟩; refine ⟨_, rfl, ?_⟩; have n0_ := Aside0.mk (Kd.R_lower ho0 (below_size (by repeat (first | (with_reducible first | exact HB.out | apply below_alloc | apply pw_below_drewN | apply below_drew1) | exact HB.out)))); have n1_ := Aside0.mk (below_step (by repeat (first | (with_reducible first | exact HB.out | apply below_alloc | apply pw_below_drewN | apply below_drew1) | exact HB.out)) hb); clear HB; have HO424 := n0_; have HB := n1_; clear n0_ n1_; (try clear hb); (try clear hb2); (try clear hk); (try clear hi); (try clear ho0); obtain ⟨Ao8, co8, eo8⟩ := Kd.R_slice HO424.out; subst eo8))
      go_ret
      exact ⟨by first | rfl | (simp [errW_none, errW_some] <;> rfl) | (simp [*, errW_none, errW_some] <;> rfl), by repeat (first | (with_reducible first | exact HB.out | apply below_alloc | apply pw_below_drewN | apply below_drew1) | exact HB.out)⟩
    · rw [if_neg c6] at H
      have c6b0 : decide ((t421.length : Int) < 9) = false := decide_eq_false c6
      have c6b1 : decide (t421.length < 9) = false := decide_eq_false (by omega)
      clear c6
      by_cases c9 : (IntKind.u64.wrap ((t421.length : Int))) = 0
      · rw [if_pos c9] at H
        exact absurd H (by simp)
      · rw [if_neg c9] at H
        have c9b0 : ((IntKind.u64.wrap ((t421.length : Int))) == 0) = false := beq_eq_false_iff_ne.mpr c9
        have c9b1 : ((IntKind.u64.wrap ((t421.length : Int))) != 0) = true := bne_iff_ne.mpr c9
        obtain ⟨ji10, hji10⟩ : ∃ j_ : Int, (wrap64 (Int.tmod (IntKind.u64.wrap (a1)) (IntKind.u64.wrap ((t421.length : Int))))) = j_ := ⟨_, rfl⟩
        replace H : (if 0 ≤ (ji10) then (if (ji10) ≤ (t421.length : Int) then ((dump_Decode.f (t421.take ((ji10) : Int).toNat)).bind fun bt430 => (if bt430.2.1 = 0 then (shutterlaw27_DumpHurt.j0 k l0 a2 t421 ji10 true) else (shutterlaw27_DumpHurt.j0 k l0 a2 t421 ji10 ((bt430.1.length : Int) != 0)))) else (none)) else (none)) = some r := by first | (rw [hji10] at H; exact H) | (simp only [hji10] at H ⊢; exact H)
        (try rw [hji10] at A4)
        have hji10w : (IntKind.i64.wrap (Int.tmod (IntKind.u64.wrap (a1)) (IntKind.u64.wrap ((t421.length : Int))))) = ji10 := (i64_w _).trans hji10
        by_cases c11 : 0 ≤ (ji10)
        · rw [if_pos c11] at H
          have c11b0 := eq_true c11
          have c11b1 : decide (0 ≤ (ji10)) = true := decide_eq_true c11
          clear c11
          by_cases c12 : (ji10) ≤ (t421.length : Int)
          · rw [if_pos c12] at H
            have c12b0 := eq_true c12
            have c12b1 : decide ((ji10) ≤ (t421.length : Int)) = true := decide_eq_true c12
            clear c12
            obtain ⟨y426, hy426⟩ : ∃ y_ : List Int, y_ = (t421.take ((ji10) : Int).toNat) := ⟨_, rfl⟩
            replace H : ((dump_Decode.f y426).bind fun bt430 => (if bt430.2.1 = 0 then (shutterlaw27_DumpHurt.j0 k l0 a2 t421 ji10 true) else (shutterlaw27_DumpHurt.j0 k l0 a2 t421 ji10 ((bt430.1.length : Int) != 0)))) = some r := by first | (rw [hy426]; with_reducible exact H) | (have H2_ := (Option.bind_some _ _).symm.trans H; rw [hy426]; with_reducible exact H2_) | (have H2_ := (Option.bind_some _ _).symm.trans H; with_reducible exact H2_) | with_reducible exact H | (rw [hy426]; exact H) | exact H
            have Ny426 := Aside0.mk hy426
            clear hy426
            replace H := Option.bind_eq_some_iff.mp H
            obtain ⟨⟨t430, t431, t432⟩, A130, H⟩ := H
            replace H : (if t431 = 0 then (shutterlaw27_DumpHurt.j0 k l0 a2 t421 ji10 true) else (shutterlaw27_DumpHurt.j0 k l0 a2 t421 ji10 ((t430.length : Int) != 0))) = some r := H
            have A13 := Aside0.mk A130
            clear A130
            have HC14 := Aside0.mk H
            clear H
            go_enter Try.func7, Try.ntmps7
            go_upto_region 8 with (first | ((with_reducible refine gate_callee (f := 28) rfl ?_); refine goesL_ (some 15) rfl rfl Try.func28 (by kernel_rfl) rfl #[.slice A0 l0.length c0] rfl (by (try simp only [List.map_toArray, List.map_cons, List.map_nil]); first | done | rfl | (simp only [List.length_drop, List.length_take]; rfl)) ?_; (with_reducible refine (dump_Encode.calls _ _ l0 t421 t422 _ ?side1 ?side2 A4.out).mono ?_); (case side1 => repeat (first | exact HR0.out | (with_reducible refine Kd.C_alloc ?_ _) | (with_reducible refine Kd.C_drewN ?_ _) | (with_reducible refine Kd.C_drew ?_))); (case side2 => exact HC0.out); rintro e w15 ⟨v423, rfl, ho0, hb⟩; refine ⟨_, rfl, ?_⟩; have n0_ := Aside0.mk (Kd.R_lower ho0 (below_size (by repeat (first | (with_reducible first | exact HB.out | apply below_alloc | apply pw_below_drewN | apply below_drew1) | exact HB.out)))); have n1_ := Aside0.mk (below_step (by repeat (first | (with_reducible first | exact HB.out | apply below_alloc | apply pw_below_drewN | apply below_drew1) | exact HB.out)) hb); clear HB; have HO424 := n0_; have HB := n1_; clear n0_ n1_; (try clear hb); (try clear hb2); (try clear hk); (try clear hi); (try clear ho0); obtain ⟨Ao16, co16, eo16⟩ := Kd.R_slice HO424.out; subst eo16; have q17 : ((ji10) : Int) ≤ ((t421.length : Int) : Int) := of_decide_eq_true (by first | (with_reducible assumption) | assumption); obtain ⟨i017, hi017, _, hsz17, _⟩ := info_parts info5; have hroom17 : t421.length ≤ co16 := (Kd.R_reads' HO424.out).2.1; have hC17 : Kd.C (Kd.int .u8) _ Ao16 t421.length t421 := (Kd.R_reads' HO424.out).2.2; have hcut17 := cut_to (P := Try.prog) 48 5 .i64 Try.underlying48 hi017 Ao16 t421.length co16 (ji10) (of_decide_eq_true (by first | (with_reducible assumption) | assumption)) q17 hroom17; have hr17 := Kd.C_take (m := ((ji10) : Int).toNat) hC17 (by omega); have hy17 : y426.length = ((ji10) : Int).toNat := (by rw [Ny426.out, List.length_take]; omega); rw [← Ny426.out] at hr17; rw [← hy17] at hcut17; have HR429 := Aside0.mk hr17; have HC429 := Aside0.mk (show y426.length ≤ co16 from by omega); clear hr17 hC17 hroom17 hi017 hsz17; have KY17 := Aside0.mk hy17; clear hy17; have KL17 := Aside0.mk (show ((ji10) : Int).toNat ≤ t421.length from by omega); replace q17 := eq_true q17) | ((with_reducible refine gate_callee (f := 30) rfl ?_); refine goesL_ (some 40) rfl rfl Try.func30 (by kernel_rfl) rfl #[.slice Ao16 y426.length co16] rfl (by (try simp only [List.map_toArray, List.map_cons, List.map_nil]); first | done | rfl | (simp only [List.length_drop, List.length_take]; rfl)) ?_; (with_reducible refine (dump_Decode.calls _ _ y426 t430 t431 t432 _ ?side1 ?side2 A13.out).mono ?_); (case side1 => repeat (first | exact (by repeat (first | (with_reducible exact HR429.out) | (with_reducible refine Kd.C_alloc ?_ _) | (with_reducible refine Kd.C_drewN ?_ _) | (with_reducible refine Kd.C_drew ?_) | exact HR429.out)) | (with_reducible refine Kd.C_alloc ?_ _) | (with_reducible refine Kd.C_drewN ?_ _) | (with_reducible refine Kd.C_drew ?_))); (case side2 => exact HC429.out); rintro e w18 ⟨v433, rfl, ho0, hb⟩; refine ⟨_, rfl, ?_⟩; have n0_ := Aside0.mk (Kd.R_below (by (with_reducible repeat (first | apply Kd.R_alloc | apply Kd.R_drewN | apply Kd.R_drew)); exact HO424.out) hb); have n1_ := Aside0.mk (Kd.R_lower ho0 (below_size (by repeat (first | (with_reducible first | exact HB.out | apply below_alloc | apply pw_below_drewN | apply below_drew1) | exact HB.out)))); have n2_ := Aside0.mk (Kd.C_below (by repeat (first | (with_reducible exact HR429.out) | (with_reducible refine Kd.C_alloc ?_ _) | (with_reducible refine Kd.C_drewN ?_ _) | (with_reducible refine Kd.C_drew ?_) | exact HR429.out)) hb); have n3_ := Aside0.mk (below_step (by repeat (first | (with_reducible first | exact HB.out | apply below_alloc | apply pw_below_drewN | apply below_drew1) | exact HB.out)) hb); clear HO424; clear HR429; clear HB; have HO424 := n0_; have HO434 := n1_; have HR429 := n2_; have HB := n3_; clear n0_ n1_ n2_ n3_; (try clear hb); (try clear hb2); (try clear hk); (try clear hi); (try clear ho0)))
            (try simp only [Act.put, List.setIfInBounds_toArray, List.set_cons_zero, List.set_cons_succ])
            go_cut [50] (fun v50 wc => ∃ (kq : Nat) (x50_13 : Bool), v50 = .bool x50_13 ∧ Aside0 (shutterlaw27_DumpHurt.j0 kq l0 a2 t421 ji10 x50_13 = some r) ∧ Aside0 (kq ≤ k) ∧ Aside0 (Kd.R (Kd.int .u8) 5 wc w.heap.size (fun _ => True) (.slice Ao16 t421.length co16) t421) ∧ Aside0 (Kd.C (Kd.int .u8) wc Ao16 y426.length y426) ∧ Aside0 (Below w.heap.size w wc))
            case first =>
              have H := HC14.out
              clear HC14
              by_cases c19 : t431 = 0
              · rw [if_pos c19] at H
                have c19b0 : (t431 == 0) = true := beq_iff_eq.mpr c19
                have c19b1 : (t431 != 0) = false := bne_eq_false_iff_eq.mpr c19
                clear c19
                (first | rw [c19b0] | (simp only [i64_w, i32_w]; rw [c19b0]) | skip)
                have H' := Aside0.mk H
                clear H
                go_wp2
                go_meet
                case rel => exact ⟨_, (true), (by first | rfl | (simp; done) | (simp [*]; done)), H', ⟨by first | omega | exact Nat.le_refl _⟩, ⟨by (with_reducible repeat (first | apply Kd.R_alloc | apply Kd.R_drewN | apply Kd.R_drew)); exact HO424.out⟩, ⟨by repeat (first | (with_reducible exact HR429.out) | (with_reducible refine Kd.C_alloc ?_ _) | (with_reducible refine Kd.C_drewN ?_ _) | (with_reducible refine Kd.C_drew ?_) | exact HR429.out)⟩, ⟨by repeat (first | (with_reducible first | exact HB.out | apply below_alloc | apply pw_below_drewN | apply below_drew1) | exact HB.out)⟩⟩
              · rw [if_neg c19] at H
                have c19b0 : (t431 == 0) = false := beq_eq_false_iff_ne.mpr c19
                have c19b1 : (t431 != 0) = true := bne_iff_ne.mpr c19
                (first | rw [c19b0] | (simp only [i64_w, i32_w]; rw [c19b0]) | skip)
                have H' := Aside0.mk H
                clear H
                obtain ⟨Ao20, co20, eo20⟩ := Kd.R_slice HO434.out
                subst eo20
                go_wp2
                go_meet
                case rel => exact ⟨_, (((t430.length : Int) != 0)), (by first | rfl | (simp; done) | (simp [*]; done)), H', ⟨by first | omega | exact Nat.le_refl _⟩, ⟨by (with_reducible repeat (first | apply Kd.R_alloc | apply Kd.R_drewN | apply Kd.R_drew)); exact HO424.out⟩, ⟨by repeat (first | (with_reducible exact HR429.out) | (with_reducible refine Kd.C_alloc ?_ _) | (with_reducible refine Kd.C_drewN ?_ _) | (with_reducible refine Kd.C_drew ?_) | exact HR429.out)⟩, ⟨by repeat (first | (with_reducible first | exact HB.out | apply below_alloc | apply pw_below_drewN | apply below_drew1) | exact HB.out)⟩⟩
            case rest =>
              clear HC14
              try clear c1
              try clear q1
              try clear c2
              try clear p2
              try clear c3
              try clear c5
              try clear c5b0
              try clear c5b1
              try clear c6
              try clear c6b0
              try clear c6b1
              try clear p6
              try clear c7
              try clear c9
              try clear c9b0
              try clear c9b1
              try clear c11
              try clear c11b0
              try clear c11b1
              try clear c12
              try clear c12b0
              try clear c12b1
              try clear q17
              try clear c19
              try clear c19b0
              try clear c19b1
              try clear q17
              obtain ⟨kq, x50_13, rfl, HA, HJ13, HO_7, HR429, HB⟩ := hcut
              cases kq with
              | zero => exact absurd HA.out (by simp [shutterlaw27_DumpHurt.j0])
              | succ kj13 =>
                have H := HA.out
                clear HA
                simp only [shutterlaw27_DumpHurt.j0] at H
                by_cases c21 : x50_13 = true
                · subst c21
                  have H1 : (some false) = some r := by rw [if_pos rfl] at H; exact H
                  clear H
                  have H := H1
                  clear H1
                  obtain rfl := Option.some.inj H
                  go_wp2
                  go_ret
                  exact ⟨by first | rfl | (simp [errW_none, errW_some] <;> rfl) | (simp only [← hji10]; first | rfl | (simp [errW_none, errW_some] <;> rfl)) | (simp [*, errW_none, errW_some] <;> rfl), by repeat (first | (with_reducible first | exact HB.out | apply below_alloc | apply pw_below_drewN | apply below_drew1) | exact HB.out)⟩
                · replace c21 := Bool.eq_false_iff.mpr c21
                  subst c21
                  have H1 : (if 0 ≤ ji10 then (if ji10 < (t421.length : Int) then ((dump_Decode.f (t421.set (ji10 : Int).toNat (Go.bits .xor .u8 (rd t421 ji10) a2))).bind fun bt437 => ((shutterlaw27_live.f).bind fun t442 => (if t442 = true then (if bt437.2.1 = 0 then ((shutterref11_SamePairs.f kj13 bt437.1 l0).bind fun t443 => (some ((a2 == 0) == t443))) else (some ((a2 == 0) == false))) else (some false)))) else (none)) else (none)) = some r := by rw [if_neg (show ¬ (false = true) by decide)] at H; exact H
                  clear H
                  have H := H1
                  clear H1
                  by_cases c22 : 0 ≤ ji10
                  · rw [if_pos c22] at H
                    have c22b0 : decide (0 ≤ ji10) = true := decide_eq_true c22
                    clear c22
                    by_cases c23 : ji10 < (t421.length : Int)
                    · rw [if_pos c23] at H
                      have c23b0 : decide (ji10 < (t421.length : Int)) = true := decide_eq_true c23
                      clear c23
                      obtain ⟨y436, hy436⟩ : ∃ y_ : List Int, y_ = (t421.set (ji10 : Int).toNat (Go.bits .xor .u8 (rd t421 ji10) a2)) := ⟨_, rfl⟩
                      replace H : ((dump_Decode.f y436).bind fun bt437 => ((shutterlaw27_live.f).bind fun t442 => (if t442 = true then (if bt437.2.1 = 0 then ((shutterref11_SamePairs.f kj13 bt437.1 l0).bind fun t443 => (some ((a2 == 0) == t443))) else (some ((a2 == 0) == false))) else (some false)))) = some r := by first | (rw [hy436]; with_reducible exact H) | (have H2_ := (Option.bind_some _ _).symm.trans H; rw [hy436]; with_reducible exact H2_) | (have H2_ := (Option.bind_some _ _).symm.trans H; with_reducible exact H2_) | with_reducible exact H | (rw [hy436]; exact H) | exact H
                      have Ny436 := Aside0.mk hy436
                      clear hy436
                      replace H := Option.bind_eq_some_iff.mp H
                      obtain ⟨⟨t437, t438, t439⟩, A250, H⟩ := H
                      replace H : ((shutterlaw27_live.f).bind fun t442 => (if t442 = true then (if t438 = 0 then ((shutterref11_SamePairs.f kj13 t437 l0).bind fun t443 => (some ((a2 == 0) == t443))) else (some ((a2 == 0) == false))) else (some false))) = some r := H
                      have A25 := Aside0.mk A250
                      clear A250
                      replace H := Option.bind_eq_some_iff.mp H
                      obtain ⟨t442, A260, H⟩ := H
                      replace H : (if t442 = true then (if t438 = 0 then ((shutterref11_SamePairs.f kj13 t437 l0).bind fun t443 => (some ((a2 == 0) == t443))) else (some ((a2 == 0) == false))) else (some false)) = some r := H
                      have A26 := Aside0.mk A260
                      clear A260
                      by_cases c27 : t442 = true
                      · subst c27
                        have H1 : (if t438 = 0 then ((shutterref11_SamePairs.f kj13 t437 l0).bind fun t443 => (some ((a2 == 0) == t443))) else (some ((a2 == 0) == false))) = some r := by rw [if_pos rfl] at H; exact H
                        clear H
                        have H := H1
                        clear H1
                        by_cases c28 : t438 = 0
                        · rw [if_pos c28] at H
                          have c28b0 : (t438 == 0) = true := beq_iff_eq.mpr c28
                          have c28b1 : (t438 != 0) = false := bne_eq_false_iff_eq.mpr c28
                          clear c28
                          replace H := Option.bind_eq_some_iff.mp H
                          obtain ⟨t443, A290, H⟩ := H
                          replace H : (some ((a2 == 0) == t443)) = some r := H
                          have A29 := Aside0.mk A290
                          clear A290
                          obtain rfl := Option.some.inj H
                          have p435 : 0 ≤ (ji10 : Int) := of_decide_eq_true (by first | (with_reducible assumption) | assumption)
                          have q435 : ji10 < (t421.length : Int) := of_decide_eq_true (by first | (with_reducible assumption) | assumption)
                          obtain ⟨ad435, e435, hx435_0⟩ := Kd.at_int (Kd.R_reads' HO_7.out).2.2 ji10 p435 q435
                          cases e435
                          replace p435 := eq_true p435
                          replace q435 := eq_true q435
                          have p24 : 0 ≤ (ji10 : Int) := of_decide_eq_true (by first | (with_reducible assumption) | assumption)
                          have q24 : (ji10 : Int) < ((t421.length : Int) : Int) := of_decide_eq_true (by first | (with_reducible assumption) | assumption)
                          obtain ⟨go24, co24, eo24, gb24, gl24, cl24, HG24⟩ := Kd.R_form HO_7.out (by omega)
                          (first | cases eo24 | (injection eo24 with ea_ en_ ec_; (first | subst ea_ | (injection ea_ with ea_; subst ea_)); subst ec_; clear en_))
                          have GB24 := Aside0.mk gb24
                          have GG24 := Aside0.mk HG24
                          clear gb24 gl24 HG24
                          (first | simp only [add_plain] at hx435_0 | skip)
                          obtain ⟨hx24_0, hf24_0⟩ := Kd.R_celln 0 HO_7.out (ji10 : Int) p24 q24
                          replace p24 := eq_true p24
                          replace q24 := eq_true q24
                          have HP30 := Kd.R_putg HO_7.out (ji10 : Int) (Go.bits .xor .u8 (rd t421 ji10) a2)
                          go_wp2_with (first | ((with_reducible refine gate_store (t := 5) (p := 57) rfl ?_); refine store_event (t := 5) (p := 57) (v := ?vo_w31) (w1 := (wc.setCell ⟨go24, (ji10 : Int).toNat, none⟩ (.int .u8 (Go.bits .xor .u8 (rd t421 ji10) a2)))) ?hg ?ho ?hn ?hr ?_; (case ho => rfl); (case hg => rfl); (case hn => rfl); (case hr => first | (go_simp; done) | (go_simp; rfl)); intro w31 hw; have hg : wc.grownBy w31 (some go24) := (by rw [hw]; exact HP30.2); have hp_ : Kd.R (Kd.int .u8) 5 w31 w.heap.size (fun _ => True) (.slice (some ⟨go24, 0, none⟩) t421.length co16) y436 := (by rw [hw, Ny436.out]; exact HP30.1); clear HP30; have n0_ := Aside0.mk (hp_); have n1_ := Aside0.mk ((by rw [hw]; exact below_set (HB.out) GB24.out : Below w.heap.size w w31)); clear HO_7; clear HB; have HO_7 := n0_; have HB := n1_; clear n0_ n1_; clear hg hw hp_) | ((with_reducible refine gate_callee (f := 30) rfl ?_); refine goesL_ (some 60) rfl rfl Try.func30 (by kernel_rfl) rfl #[.slice (some ⟨go24, 0, none⟩) y436.length co16] rfl (by (try simp only [List.map_toArray, List.map_cons, List.map_nil]); first | done | (rw [show y436.length = t421.length from (Kd.R_reads' HO_7.out).1.symm] <;> rfl) | rfl | (simp only [List.length_drop, List.length_take]; rfl)) ?_; (with_reducible refine (dump_Decode.calls _ _ y436 t437 t438 t439 _ ?side1 ?side2 A25.out).mono ?_); (case side1 => repeat (first | exact (Kd.R_reads' HO_7.out).2.2 | (with_reducible refine Kd.C_alloc ?_ _) | (with_reducible refine Kd.C_drewN ?_ _) | (with_reducible refine Kd.C_drew ?_))); (case side2 => rw [show y436.length = t421.length from (Kd.R_reads' HO_7.out).1.symm]; exact (Kd.R_reads' HO_7.out).2.1); rintro e w32 ⟨v440, rfl, ho0, hb⟩; refine ⟨_, rfl, ?_⟩; have n0_ := Aside0.mk (Kd.R_below (by (with_reducible repeat (first | apply Kd.R_alloc | apply Kd.R_drewN | apply Kd.R_drew)); exact HO_7.out) hb); have n1_ := Aside0.mk (Kd.R_lower ho0 (below_size (by repeat (first | (with_reducible first | exact HB.out | apply below_alloc | apply pw_below_drewN | apply below_drew1) | exact HB.out)))); have n2_ := Aside0.mk (below_step (by repeat (first | (with_reducible first | exact HB.out | apply below_alloc | apply pw_below_drewN | apply below_drew1) | exact HB.out)) hb); clear HO_7; clear HB; have HO_7 := n0_; have HO441 := n1_; have HB := n2_; clear n0_ n1_ n2_; (try clear hb); (try clear hb2); (try clear hk); (try clear hi); (try clear ho0)) | ((with_reducible refine gate_callee (f := 12) rfl ?_); refine goesL_ (some 64) rfl rfl Try.func12 (by kernel_rfl) rfl #[] rfl (by (try simp only [List.map_toArray, List.map_cons, List.map_nil]); first | done | rfl | (simp only [List.length_drop, List.length_take]; rfl)) ?_; (with_reducible refine (shutterlaw27_live.calls  true _ A26.out).mono ?_); rintro e w33 ⟨rfl, hb⟩; refine ⟨_, rfl, ?_⟩; have n0_ := Aside0.mk (Kd.R_below (by (with_reducible repeat (first | apply Kd.R_alloc | apply Kd.R_drewN | apply Kd.R_drew)); exact HO_7.out) hb); have n1_ := Aside0.mk (Kd.R_below (by (with_reducible repeat (first | apply Kd.R_alloc | apply Kd.R_drewN | apply Kd.R_drew)); exact HO441.out) hb); have n2_ := Aside0.mk (below_step (by repeat (first | (with_reducible first | exact HB.out | apply below_alloc | apply pw_below_drewN | apply below_drew1) | exact HB.out)) hb); clear HO_7; clear HO441; clear HB; have HO_7 := n0_; have HO441 := n1_; have HB := n2_; clear n0_ n1_ n2_; (try clear hb); (try clear hb2); (try clear hk); (try clear hi); obtain ⟨Ao34, co34, eo34⟩ := Kd.R_slice HO441.out; subst eo34) | (go_at_call 17; (with_reducible refine (shutterref11_SamePairs.calls kj13 _ _ t437 _ _ l0 t443 _ ?side1 ?side2 ?side3 ?side4 A29.out).mono ?_); (case side1 => repeat (first | exact (Kd.R_reads' HO441.out).2.2 | (with_reducible refine Kd.C_alloc ?_ _) | (with_reducible refine Kd.C_drewN ?_ _) | (with_reducible refine Kd.C_drew ?_))); (case side2 => exact (Kd.R_reads' HO441.out).2.1); (case side3 => repeat (first | exact (Kd.C_below HR0.out HB.out) | (with_reducible refine Kd.C_alloc ?_ _) | (with_reducible refine Kd.C_drewN ?_ _) | (with_reducible refine Kd.C_drew ?_))); (case side4 => exact HC0.out); rintro e w' ⟨rfl, ⟨nd, rfl⟩⟩))
                          go_ret
                          exact ⟨by first | rfl | (simp [errW_none, errW_some] <;> rfl) | (simp only [← hji10]; first | rfl | (simp [errW_none, errW_some] <;> rfl)) | (simp [*, errW_none, errW_some] <;> rfl), by repeat (first | (with_reducible first | exact HB.out | apply below_alloc | apply pw_below_drewN | apply below_drew1) | exact HB.out)⟩
                        · rw [if_neg c28] at H
                          have c28b0 : (t438 == 0) = false := beq_eq_false_iff_ne.mpr c28
                          have c28b1 : (t438 != 0) = true := bne_iff_ne.mpr c28
                          obtain rfl := Option.some.inj H
                          have p435 : 0 ≤ (ji10 : Int) := of_decide_eq_true (by first | (with_reducible assumption) | assumption)
                          have q435 : ji10 < (t421.length : Int) := of_decide_eq_true (by first | (with_reducible assumption) | assumption)
                          obtain ⟨ad435, e435, hx435_0⟩ := Kd.at_int (Kd.R_reads' HO_7.out).2.2 ji10 p435 q435
                          cases e435
                          replace p435 := eq_true p435
                          replace q435 := eq_true q435
                          have p24 : 0 ≤ (ji10 : Int) := of_decide_eq_true (by first | (with_reducible assumption) | assumption)
                          have q24 : (ji10 : Int) < ((t421.length : Int) : Int) := of_decide_eq_true (by first | (with_reducible assumption) | assumption)
                          obtain ⟨go24, co24, eo24, gb24, gl24, cl24, HG24⟩ := Kd.R_form HO_7.out (by omega)
                          (first | cases eo24 | (injection eo24 with ea_ en_ ec_; (first | subst ea_ | (injection ea_ with ea_; subst ea_)); subst ec_; clear en_))
                          have GB24 := Aside0.mk gb24
                          have GG24 := Aside0.mk HG24
                          clear gb24 gl24 HG24
                          (first | simp only [add_plain] at hx435_0 | skip)
                          obtain ⟨hx24_0, hf24_0⟩ := Kd.R_celln 0 HO_7.out (ji10 : Int) p24 q24
                          replace p24 := eq_true p24
                          replace q24 := eq_true q24
                          have HP35 := Kd.R_putg HO_7.out (ji10 : Int) (Go.bits .xor .u8 (rd t421 ji10) a2)
                          go_wp2_with (first | ((with_reducible refine gate_store (t := 5) (p := 57) rfl ?_); refine store_event (t := 5) (p := 57) (v := ?vo_w36) (w1 := (wc.setCell ⟨go24, (ji10 : Int).toNat, none⟩ (.int .u8 (Go.bits .xor .u8 (rd t421 ji10) a2)))) ?hg ?ho ?hn ?hr ?_; (case ho => rfl); (case hg => rfl); (case hn => rfl); (case hr => first | (go_simp; done) | (go_simp; rfl)); intro w36 hw; have hg : wc.grownBy w36 (some go24) := (by rw [hw]; exact HP35.2); have hp_ : Kd.R (Kd.int .u8) 5 w36 w.heap.size (fun _ => True) (.slice (some ⟨go24, 0, none⟩) t421.length co16) y436 := (by rw [hw, Ny436.out]; exact HP35.1); clear HP35; have n0_ := Aside0.mk (hp_); have n1_ := Aside0.mk ((by rw [hw]; exact below_set (HB.out) GB24.out : Below w.heap.size w w36)); clear HO_7; clear HB; have HO_7 := n0_; have HB := n1_; clear n0_ n1_; clear hg hw hp_) | ((with_reducible refine gate_callee (f := 30) rfl ?_); refine goesL_ (some 60) rfl rfl Try.func30 (by kernel_rfl) rfl #[.slice (some ⟨go24, 0, none⟩) y436.length co16] rfl (by (try simp only [List.map_toArray, List.map_cons, List.map_nil]); first | done | (rw [show y436.length = t421.length from (Kd.R_reads' HO_7.out).1.symm] <;> rfl) | rfl | (simp only [List.length_drop, List.length_take]; rfl)) ?_; (with_reducible refine (dump_Decode.calls _ _ y436 t437 t438 t439 _ ?side1 ?side2 A25.out).mono ?_); (case side1 => repeat (first | exact (Kd.R_reads' HO_7.out).2.2 | (with_reducible refine Kd.C_alloc ?_ _) | (with_reducible refine Kd.C_drewN ?_ _) | (with_reducible refine Kd.C_drew ?_))); (case side2 => rw [show y436.length = t421.length from (Kd.R_reads' HO_7.out).1.symm]; exact (Kd.R_reads' HO_7.out).2.1); rintro e w37 ⟨v440, rfl, ho0, hb⟩; refine ⟨_, rfl, ?_⟩; have n0_ := Aside0.mk (Kd.R_below (by (with_reducible repeat (first | apply Kd.R_alloc | apply Kd.R_drewN | apply Kd.R_drew)); exact HO_7.out) hb); have n1_ := Aside0.mk (Kd.R_lower ho0 (below_size (by repeat (first | (with_reducible first | exact HB.out | apply below_alloc | apply pw_below_drewN | apply below_drew1) | exact HB.out)))); have n2_ := Aside0.mk (below_step (by repeat (first | (with_reducible first | exact HB.out | apply below_alloc | apply pw_below_drewN | apply below_drew1) | exact HB.out)) hb); clear HO_7; clear HB; have HO_7 := n0_; have HO441 := n1_; have HB := n2_; clear n0_ n1_ n2_; (try clear hb); (try clear hb2); (try clear hk); (try clear hi); (try clear ho0)) | ((with_reducible refine gate_callee (f := 12) rfl ?_); refine goesL_ (some 64) rfl rfl Try.func12 (by kernel_rfl) rfl #[] rfl (by (try simp only [List.map_toArray, List.map_cons, List.map_nil]); first | done | rfl | (simp only [List.length_drop, List.length_take]; rfl)) ?_; (with_reducible refine (shutterlaw27_live.calls  true _ A26.out).mono ?_); rintro e w38 ⟨rfl, hb⟩; refine ⟨_, rfl, ?_⟩; have n0_ := Aside0.mk (Kd.R_below (by (with_reducible repeat (first | apply Kd.R_alloc | apply Kd.R_drewN | apply Kd.R_drew)); exact HO_7.out) hb); have n1_ := Aside0.mk (Kd.R_below (by (with_reducible repeat (first | apply Kd.R_alloc | apply Kd.R_drewN | apply Kd.R_drew)); exact HO441.out) hb); have n2_ := Aside0.mk (below_step (by repeat (first | (with_reducible first | exact HB.out | apply below_alloc | apply pw_below_drewN | apply below_drew1) | exact HB.out)) hb); clear HO_7; clear HO441; clear HB; have HO_7 := n0_; have HO441 := n1_; have HB := n2_; clear n0_ n1_ n2_; (try clear hb); (try clear hb2); (try clear hk); (try clear hi)))
                          go_ret
                          exact ⟨by first | rfl | (simp [errW_none, errW_some] <;> rfl) | (simp only [← hji10]; first | rfl | (simp [errW_none, errW_some] <;> rfl)) | (simp [*, errW_none, errW_some] <;> rfl), by repeat (first | (with_reducible first | exact HB.out | apply below_alloc | apply pw_below_drewN | apply below_drew1) | exact HB.out)⟩
                      · replace c27 := Bool.eq_false_iff.mpr c27
                        subst c27
                        have H1 : (some false) = some r := by rw [if_neg (show ¬ (false = true) by decide)] at H; exact H
                        clear H
                        have H := H1
                        clear H1
                        obtain rfl := Option.some.inj H
                        have p435 : 0 ≤ (ji10 : Int) := of_decide_eq_true (by first | (with_reducible assumption) | assumption)
                        have q435 : ji10 < (t421.length : Int) := of_decide_eq_true (by first | (with_reducible assumption) | assumption)
                        obtain ⟨ad435, e435, hx435_0⟩ := Kd.at_int (Kd.R_reads' HO_7.out).2.2 ji10 p435 q435
                        cases e435
                        replace p435 := eq_true p435
                        replace q435 := eq_true q435
                        have p24 : 0 ≤ (ji10 : Int) := of_decide_eq_true (by first | (with_reducible assumption) | assumption)
                        have q24 : (ji10 : Int) < ((t421.length : Int) : Int) := of_decide_eq_true (by first | (with_reducible assumption) | assumption)
                        obtain ⟨go24, co24, eo24, gb24, gl24, cl24, HG24⟩ := Kd.R_form HO_7.out (by omega)
                        (first | cases eo24 | (injection eo24 with ea_ en_ ec_; (first | subst ea_ | (injection ea_ with ea_; subst ea_)); subst ec_; clear en_))
                        have GB24 := Aside0.mk gb24
                        have GG24 := Aside0.mk HG24
                        clear gb24 gl24 HG24
                        (first | simp only [add_plain] at hx435_0 | skip)
                        obtain ⟨hx24_0, hf24_0⟩ := Kd.R_celln 0 HO_7.out (ji10 : Int) p24 q24
                        replace p24 := eq_true p24
                        replace q24 := eq_true q24
                        have HP39 := Kd.R_putg HO_7.out (ji10 : Int) (Go.bits .xor .u8 (rd t421 ji10) a2)
                        go_wp2_with (first | ((with_reducible refine gate_store (t := 5) (p := 57) rfl ?_); refine store_event (t := 5) (p := 57) (v := ?vo_w40) (w1 := (wc.setCell ⟨go24, (ji10 : Int).toNat, none⟩ (.int .u8 (Go.bits .xor .u8 (rd t421 ji10) a2)))) ?hg ?ho ?hn ?hr ?_; (case ho => rfl); (case hg => rfl); (case hn => rfl); (case hr => first | (go_simp; done) | (go_simp; rfl)); intro w40 hw; have hg : wc.grownBy w40 (some go24) := (by rw [hw]; exact HP39.2); have hp_ : Kd.R (Kd.int .u8) 5 w40 w.heap.size (fun _ => True) (.slice (some ⟨go24, 0, none⟩) t421.length co16) y436 := (by rw [hw, Ny436.out]; exact HP39.1); clear HP39; have n0_ := Aside0.mk (hp_); have n1_ := Aside0.mk ((by rw [hw]; exact below_set (HB.out) GB24.out : Below w.heap.size w w40)); clear HO_7; clear HB; have HO_7 := n0_; have HB := n1_; clear n0_ n1_; clear hg hw hp_) | ((with_reducible refine gate_callee (f := 30) rfl ?_); refine goesL_ (some 60) rfl rfl Try.func30 (by kernel_rfl) rfl #[.slice (some ⟨go24, 0, none⟩) y436.length co16] rfl (by (try simp only [List.map_toArray, List.map_cons, List.map_nil]); first | done | (rw [show y436.length = t421.length from (Kd.R_reads' HO_7.out).1.symm] <;> rfl) | rfl | (simp only [List.length_drop, List.length_take]; rfl)) ?_; (with_reducible refine (dump_Decode.calls _ _ y436 t437 t438 t439 _ ?side1 ?side2 A25.out).mono ?_); (case side1 => repeat (first | exact (Kd.R_reads' HO_7.out).2.2 | (with_reducible refine Kd.C_alloc ?_ _) | (with_reducible refine Kd.C_drewN ?_ _) | (with_reducible refine Kd.C_drew ?_))); (case side2 => rw [show y436.length = t421.length from (Kd.R_reads' HO_7.out).1.symm]; exact (Kd.R_reads' HO_7.out).2.1); rintro e w41 ⟨v440, rfl, ho0, hb⟩; refine ⟨_, rfl, ?_⟩; have n0_ := Aside0.mk (Kd.R_below (by (with_reducible repeat (first | apply Kd.R_alloc | apply Kd.R_drewN | apply Kd.R_drew)); exact HO_7.out) hb); have n1_ := Aside0.mk (Kd.R_lower ho0 (below_size (by repeat (first | (with_reducible first | exact HB.out | apply below_alloc | apply pw_below_drewN | apply below_drew1) | exact HB.out)))); have n2_ := Aside0.mk (below_step (by repeat (first | (with_reducible first | exact HB.out | apply below_alloc | apply pw_below_drewN | apply below_drew1) | exact HB.out)) hb); clear HO_7; clear HB; have HO_7 := n0_; have HO441 := n1_; have HB := n2_; clear n0_ n1_ n2_; (try clear hb); (try clear hb2); (try clear hk); (try clear hi); (try clear ho0)) | ((with_reducible refine gate_callee (f := 12) rfl ?_); refine goesL_ (some 64) rfl rfl Try.func12 (by kernel_rfl) rfl #[] rfl (by (try simp only [List.map_toArray, List.map_cons, List.map_nil]); first | done | rfl | (simp only [List.length_drop, List.length_take]; rfl)) ?_; (with_reducible refine (shutterlaw27_live.calls  false _ A26.out).mono ?_); rintro e w42 ⟨rfl, hb⟩; refine ⟨_, rfl, ?_⟩; have n0_ := Aside0.mk (Kd.R_below (by (with_reducible repeat (first | apply Kd.R_alloc | apply Kd.R_drewN | apply Kd.R_drew)); exact HO_7.out) hb); have n1_ := Aside0.mk (Kd.R_below (by (with_reducible repeat (first | apply Kd.R_alloc | apply Kd.R_drewN | apply Kd.R_drew)); exact HO441.out) hb); have n2_ := Aside0.mk (below_step (by repeat (first | (with_reducible first | exact HB.out | apply below_alloc | apply pw_below_drewN | apply below_drew1) | exact HB.out)) hb); clear HO_7; clear HO441; clear HB; have HO_7 := n0_; have HO441 := n1_; have HB := n2_; clear n0_ n1_ n2_; (try clear hb); (try clear hb2); (try clear hk); (try clear hi)))
                        go_ret
                        exact ⟨by first | rfl | (simp [errW_none, errW_some] <;> rfl) | (simp only [← hji10]; first | rfl | (simp [errW_none, errW_some] <;> rfl)) | (simp [*, errW_none, errW_some] <;> rfl), by repeat (first | (with_reducible first | exact HB.out | apply below_alloc | apply pw_below_drewN | apply below_drew1) | exact HB.out)⟩
                    · rw [if_neg c23] at H
                      exact absurd H (by simp)
                  · rw [if_neg c22] at H
                    exact absurd H (by simp)
          · rw [if_neg c12] at H
            exact absurd H (by simp)
        · rw [if_neg c11] at H
          exact absurd H (by simp)
  · rw [if_neg c5] at H
    have c5b0 : (t422 == 0) = false := beq_eq_false_iff_ne.mpr c5
    have c5b1 : (t422 != 0) = true := bne_iff_ne.mpr c5
    replace H := Option.bind_eq_some_iff.mp H
    obtain ⟨t425, A430, H⟩ := H
    replace H : (if t425 = true then (some ((t421.length : Int) == 0)) else (some false)) = some r := H
    have A43 := Aside0.mk A430
    clear A430
    by_cases c44 : t425 = true
    · subst c44
      have H1 : (some ((t421.length : Int) == 0)) = some r := by rw [if_pos rfl] at H; exact H
      clear H
      have H := H1
      clear H1
      obtain rfl := Option.some.inj H
      go_enter Try.func7, Try.ntmps7
      go_wp2_with (first | ((with_reducible refine gate_callee (f := 28) rfl ?_); refine goesL_ (some 15) rfl rfl Try.func28 (by kernel_rfl) rfl #[.slice A0 l0.length c0] rfl (by (try simp only [List.map_toArray, List.map_cons, List.map_nil]); first | done | rfl | (simp only [List.length_drop, List.length_take]; rfl)) ?_; (with_reducible refine (dump_Encode.calls _ _ l0 t421 t422 _ ?side1 ?side2 A4.out).mono ?_); (case side1 => repeat (first | exact HR0.out | (with_reducible refine Kd.C_alloc ?_ _) | (with_reducible refine Kd.C_drewN ?_ _) | (with_reducible refine Kd.C_drew ?_))); (case side2 => exact HC0.out); rintro e w45 ⟨v423, rfl, ho0, hb⟩; refine ⟨_, rfl, ?_⟩; have n0_ := Aside0.mk (Kd.R_lower ho0 (below_size (by repeat (first | (with_reducible first | exact HB.out | apply below_alloc | apply pw_below_drewN | apply below_drew1) | exact HB.out)))); have n1_ := Aside0.mk (below_step (by repeat (first | (with_reducible first | exact HB.out | apply below_alloc | apply pw_below_drewN | apply below_drew1) | exact HB.out)) hb); clear HB; have HO424 := n0_; have HB := n1_; clear n0_ n1_; (try clear hb); (try clear hb2); (try clear hk); (try clear hi); (try clear ho0)) | ((with_reducible refine gate_callee (f := 12) rfl ?_); refine goesL_ (some 20) rfl rfl Try.func12 (by kernel_rfl) rfl #[] rfl (by (try simp only [List.map_toArray, List.map_cons, List.map_nil]); first | done | rfl | (simp only [List.length_drop, List.length_take]; rfl)) ?_; (with_reducible refine (shutterlaw27_live.calls  true _ A43.out).mono ?_); rintro e w46 ⟨rfl, hb⟩; refine ⟨_, rfl, ?_⟩; have n0_ := Aside0.mk (Kd.R_below (by (with_reducible repeat (first | apply Kd.R_alloc | apply Kd.R_drewN | apply Kd.R_drew)); exact HO424.out) hb); have n1_ := Aside0.mk (below_step (by repeat (first | (with_reducible first | exact HB.out | apply below_alloc | apply pw_below_drewN | apply below_drew1) | exact HB.out)) hb); clear HO424; clear HB; have HO424 := n0_; have HB := n1_; clear n0_ n1_; (try clear hb); (try clear hb2); (try clear hk); (try clear hi); obtain ⟨Ao47, co47, eo47⟩ := Kd.R_slice HO424.out; subst eo47))
      go_ret
      exact ⟨by first | rfl | (simp [errW_none, errW_some] <;> rfl) | (simp [*, errW_none, errW_some] <;> rfl), by repeat (first | (with_reducible first | exact HB.out | apply below_alloc | apply pw_below_drewN | apply below_drew1) | exact HB.out)⟩
    · replace c44 := Bool.eq_false_iff.mpr c44
      subst c44
      have H1 : (some false) = some r := by rw [if_neg (show ¬ (false = true) by decide)] at H; exact H
      clear H
      have H := H1
      clear H1
      obtain rfl := Option.some.inj H
      go_enter Try.func7, Try.ntmps7
      go_wp2_with (first | ((with_reducible refine gate_callee (f := 28) rfl ?_); refine goesL_ (some 15) rfl rfl Try.func28 (by kernel_rfl) rfl #[.slice A0 l0.length c0] rfl (by (try simp only [List.map_toArray, List.map_cons, List.map_nil]); first | done | rfl | (simp only [List.length_drop, List.length_take]; rfl)) ?_; (with_reducible refine (dump_Encode.calls _ _ l0 t421 t422 _ ?side1 ?side2 A4.out).mono ?_); (case side1 => repeat (first | exact HR0.out | (with_reducible refine Kd.C_alloc ?_ _) | (with_reducible refine Kd.C_drewN ?_ _) | (with_reducible refine Kd.C_drew ?_))); (case side2 => exact HC0.out); rintro e w48 ⟨v423, rfl, ho0, hb⟩; refine ⟨_, rfl, ?_⟩; have n0_ := Aside0.mk (Kd.R_lower ho0 (below_size (by repeat (first | (with_reducible first | exact HB.out | apply below_alloc | apply pw_below_drewN | apply below_drew1) | exact HB.out)))); have n1_ := Aside0.mk (below_step (by repeat (first | (with_reducible first | exact HB.out | apply below_alloc | apply pw_below_drewN | apply below_drew1) | exact HB.out)) hb); clear HB; have HO424 := n0_; have HB := n1_; clear n0_ n1_; (try clear hb); (try clear hb2); (try clear hk); (try clear hi); (try clear ho0)) | ((with_reducible refine gate_callee (f := 12) rfl ?_); refine goesL_ (some 20) rfl rfl Try.func12 (by kernel_rfl) rfl #[] rfl (by (try simp only [List.map_toArray, List.map_cons, List.map_nil]); first | done | rfl | (simp only [List.length_drop, List.length_take]; rfl)) ?_; (with_reducible refine (shutterlaw27_live.calls  false _ A43.out).mono ?_); rintro e w49 ⟨rfl, hb⟩; refine ⟨_, rfl, ?_⟩; have n0_ := Aside0.mk (Kd.R_below (by (with_reducible repeat (first | apply Kd.R_alloc | apply Kd.R_drewN | apply Kd.R_drew)); exact HO424.out) hb); have n1_ := Aside0.mk (below_step (by repeat (first | (with_reducible first | exact HB.out | apply below_alloc | apply pw_below_drewN | apply below_drew1) | exact HB.out)) hb); clear HO424; clear HB; have HO424 := n0_; have HB := n1_; clear n0_ n1_; (try clear hb); (try clear hb2); (try clear hk); (try clear hi)))
      go_ret
      exact ⟨by first | rfl | (simp [errW_none, errW_some] <;> rfl) | (simp [*, errW_none, errW_some] <;> rfl), by repeat (first | (with_reducible first | exact HB.out | apply below_alloc | apply pw_below_drewN | apply below_drew1) | exact HB.out)⟩

end Go.Proofs.Ythblincfnfpgbaa.Q
namespace Go.Proofs.Ythblincfnfpgbaa.Q
open Go.RowKit Go.Proofs.YthblincfnfpgbaaW.PrintWords Go.Proofs.YthblincfnfpgbaaW.PrintLast Go.Proofs.YthblincfnfpgbaaW.PrintMore
set_option linter.unusedVariables false
set_option linter.unusedSimpArgs false
theorem numN_byte (m : Nat) : ∀ v : Int, 0 ≤ v → ∀ c ∈ numN m v, 0 ≤ c ∧ c < 256 := by
  induction m with
  | zero => intro v h c hc; rw [numN, List.mem_singleton] at hc; omega
  | succ m ih =>
    intro v h c hc
    by_cases h128 : 128 ≤ v
    · rw [numN_big m v h128] at hc
      rcases List.mem_cons.1 hc with rfl | hc
      · omega
      · exact ih _ (by omega) c hc
    · rw [numN_small _ v h (by omega), List.mem_singleton] at hc
      omega
theorem pairs_byte (l : List S82) (hw : ∀ p ∈ l, wfP p) : ∀ last, ∀ c ∈ pairsS last l, 0 ≤ c ∧ c < 256 := by
  induction l with
  | nil => intro last c hc; simp [pairsS] at hc
  | cons p l ih =>
    intro last c hc
    have hp := hw p (by simp)
    rw [pairsS, List.mem_append, List.mem_append] at hc
    rcases hc with (hc | hc) | hc
    · exact numN_byte 9 _ (u64_range _).1 c hc
    · exact numN_byte 9 _ hp.2.2.1 c hc
    · exact ih (fun q hq => hw q (by simp [hq])) _ c hc
theorem fixed_byte (s : Int) (h0 : 0 ≤ s) (h1 : s < 4294967296) : ∀ c ∈ fixedS s, 0 ≤ c ∧ c < 256 := by
  intro c hc
  simp only [fixedS, List.mem_cons, List.mem_nil_iff, or_false] at hc
  omega
theorem encS_byte (l : List S82) (hw : ∀ p ∈ l, wfP p) : ∀ c ∈ encS l, 0 ≤ c ∧ c < 256 := by
  intro c hc
  have hs := sumS_range (bodyS l) 2166136261 (by omega) (by omega)
  rw [encS, List.mem_append] at hc
  rcases hc with hc | hc
  · rw [bodyS, List.mem_append, List.mem_append] at hc
    rcases hc with (hc | hc) | hc
    · simp at hc; omega
    · exact numN_byte 9 _ (by omega) c hc
    · exact pairs_byte l hw 0 c hc
  · exact fixed_byte _ hs.1 hs.2 c hc
theorem encS_len (l : List S82) : 9 ≤ (encS l).length ∧ (encS l).length ≤ 18 + 20 * l.length ∧ l.length ≤ (encS l).length := by
  have h1 := numN_pos 9 (l.length : Int)
  have h2 := numN_length 9 (l.length : Int)
  have h3 := pairsS_length l 0
  have h4 := pairs_ge l 0
  simp only [encS, bodyS, List.length_append, fixedS, List.length_cons, List.length_nil, numS]
  omega
theorem decX_bad (bs : List Int) {p : List S82} {e n : Int} (h : decX bs = (p, e, n)) (he : e ≠ 0) : p = [] := by
  unfold decX at h
  dsimp only at h
  split at h
  · simp only [Prod.mk.injEq] at h; exact absurd h.2.1.symm he
  · simp only [Prod.mk.injEq] at h; exact h.1.symm
/-- What is read through is what was written. -/
theorem dec_enc (bs : List Int) (p : List S82) (n : Int) (hbs : ∀ c ∈ bs, 0 ≤ c ∧ c < 256) (hl : bs.length < 4398046511104) (h : decX bs = (p, 0, n)) : risingS p = true ∧ (∀ x ∈ p, wfP x) ∧ encS p = bs ∧ n = 0 ∧ p.length < 4398046511104 := by
  obtain ⟨h1, h2, h3, h4⟩ := decX_canon _ p n hbs hl h
  refine ⟨h1, h2, h3, h4, ?_⟩
  have := (encS_len p).2.2
  rw [h3] at this
  omega
/-- The end lost: it is not taken. -/
theorem hurt_end (l : List S82) (hw : ∀ p ∈ l, wfP p) (hr : risingS l = true) (hl : l.length < 1048577) (k : Nat) (hk : k < (encS l).length) : ∃ e n, decX ((encS l).take k) = ([], e, n) ∧ e ≠ 0 := by
  obtain ⟨p, e, n, h⟩ : ∃ p e n, decX ((encS l).take k) = (p, e, n) := ⟨_, _, _, rfl⟩
  have hb : ∀ c ∈ (encS l).take k, 0 ≤ c ∧ c < 256 := fun c hc => encS_byte l hw c (List.mem_of_mem_take hc)
  have hlen : ((encS l).take k).length < 4398046511104 := by
    have := encS_len l
    rw [List.length_take]
    omega
  by_cases he : e = 0
  · exfalso
    subst he
    obtain ⟨h1, h2, h3, -, hp⟩ := dec_enc _ p n hb hlen h
    have e1 : encS l = encS p ++ (encS l).drop k := by rw [h3, List.take_append_drop]
    have r1 := decX_round l [] hw hr (by omega)
    have r2 := decX_round p ((encS l).drop k) h2 h1 hp
    rw [← e1, if_neg (by intro hh; have := congrArg List.length hh; rw [List.length_drop, List.length_nil] at this; omega)] at r2
    rw [List.append_nil, if_pos rfl, r2] at r1
    simp at r1
  · exact ⟨e, n, by rw [h, decX_bad _ h he], he⟩
theorem samePairs_g (p l : List S82) (he : p.length = l.length) (hl : p.length < 4398046511104) (d : Nat) : ∀ (k i : Nat), i + d = p.length → d < k → ∃ b, shutterref11_SamePairs.l0 k p l i = some b ∧ (b = true ↔ p.drop i = l.drop i) := by
  induction d with
  | zero =>
    intro k i h hk
    obtain ⟨k, rfl⟩ : ∃ m, k = m + 1 := ⟨k - 1, by omega⟩
    refine ⟨true, ?_, ?_⟩
    · simp only [shutterref11_SamePairs.l0]
      rw [if_neg (by omega)]
    · rw [List.drop_of_length_le (by omega), List.drop_of_length_le (by omega)]
      simp
  | succ d ih =>
    intro k i h hk
    obtain ⟨k, rfl⟩ : ∃ m, k = m + 1 := ⟨k - 1, by omega⟩
    have h1 : i < p.length := by omega
    have h2 : i < l.length := by omega
    obtain ⟨b, e1, e2⟩ := ih k (i + 1) (by omega) (by omega)
    simp only [shutterref11_SamePairs.l0]
    rw [if_pos (by omega), if_pos (by omega), if_pos (by omega), rd82 p _ i rfl h1, rd82 l _ i rfl h2, w1 i (by omega), e1, List.drop_eq_getElem_cons h1, List.drop_eq_getElem_cons h2]
    by_cases hq : p[i] = l[i]
    · refine ⟨b, by rw [hq, if_neg (by simp)], ?_⟩
      rw [e2, hq, List.cons.injEq]
      exact ⟨fun h => ⟨rfl, h⟩, fun h => h.2⟩
    · refine ⟨false, ?_, ⟨fun h => (by cases h), fun h => absurd (List.cons.inj h).1 hq⟩⟩
      rw [if_pos]
      by_cases h5 : p[i].f0 = l[i].f0
      · by_cases h6 : p[i].f1 = l[i].f1
        · exact absurd (by rcases hx : p[i] with ⟨a, b⟩; rcases hy : l[i] with ⟨c, d⟩; rw [hx, hy] at h5 h6; simp only at h5 h6; rw [h5, h6]) hq
        · simp [h6]
      · simp [h5]
/-- SamePairs tells whether they are the same. -/
theorem samePairs_is (p l : List S82) (hl : p.length < 4398046511104) (k : Nat) (hk : p.length < k) : ∃ b, shutterref11_SamePairs.f k p l = some b ∧ (b = true ↔ p = l) := by
  unfold shutterref11_SamePairs.f
  by_cases he : p.length = l.length
  · rw [if_pos (by omega)]
    have := samePairs_g p l he hl p.length k 0 (by omega) hk
    simpa using this
  · rw [if_neg (by omega)]
    exact ⟨false, rfl, by simp; intro h; exact he (by rw [h])⟩
theorem samePairs_yes (l : List S82) (hl : l.length < 4398046511104) (k : Nat) (hk : l.length < k) : shutterref11_SamePairs.f k l l = some true := by
  obtain ⟨b, h1, h2⟩ := samePairs_is l l hl k hk
  rw [h1, h2.2 rfl]
end Go.Proofs.Ythblincfnfpgbaa.Q
namespace Go.Proofs.Ythblincfnfpgbaa.Q
open Go.RowKit Go.Proofs.YthblincfnfpgbaaW.PrintWords Go.Proofs.YthblincfnfpgbaaW.PrintLast Go.Proofs.YthblincfnfpgbaaW.PrintMore Go.Proofs.Ythblincfnfpgbaa.Open
set_option linter.unusedVariables false
set_option linter.unusedSimpArgs false
theorem xor_byte (x y : Int) (hx : 0 ≤ x ∧ x < 256) (hy : 0 ≤ y ∧ y < 256) : (0 ≤ Go.bits .xor .u8 x y ∧ Go.bits .xor .u8 x y < 256) ∧ (Go.bits .xor .u8 x y = x ↔ y = 0) := by
  obtain ⟨a, rfl⟩ : ∃ a : Nat, x = a := ⟨x.toNat, by omega⟩
  obtain ⟨b, rfl⟩ : ∃ b : Nat, y = b := ⟨y.toNat, by omega⟩
  have ha : a < 256 := by omega
  have hb : b < 256 := by omega
  have e : Go.bits .xor .u8 (a : Int) (b : Int) = ((a ^^^ b : Nat) : Int) := by
    have h8 : a ^^^ b < 256 := Nat.xor_lt_two_pow (n := 8) ha hb
    show IntKind.u8.wrap (((BitVec.ofInt 8 (a : Int)) ^^^ (BitVec.ofInt 8 (b : Int))).toNat : Int) = _
    rw [BitVec.toNat_xor, BitVec.ofInt_natCast, BitVec.ofInt_natCast, BitVec.toNat_ofNat, BitVec.toNat_ofNat, Nat.mod_eq_of_lt ha, Nat.mod_eq_of_lt hb, IntKind.wrap_u8]
    omega
  have h8 : a ^^^ b < 256 := Nat.xor_lt_two_pow (n := 8) ha hb
  rw [e]
  refine ⟨by omega, ⟨fun h => ?_, fun h => ?_⟩⟩
  · have h1 : a ^^^ b = a := by omega
    have h2 : a ^^^ (a ^^^ b) = a ^^^ a := by rw [h1]
    rw [← Nat.xor_assoc, Nat.xor_self, Nat.zero_xor] at h2
    omega
  · have : b = 0 := by omega
    subst this
    rw [Nat.xor_zero]
theorem at_is (a : Int) (n : Nat) (h0 : 9 ≤ n) (h1 : n < 35184372088832) : IntKind.u64.wrap (n : Int) = (n : Int) ∧ ∃ k : Nat, k < n ∧ wrap64 (Int.tmod (IntKind.u64.wrap a) (n : Int)) = (k : Int) := by
  have hr := u64_range a
  refine ⟨by rw [IntKind.wrap_u64]; omega, (Int.tmod (IntKind.u64.wrap a) (n : Int)).toNat, ?_⟩
  have h2 : Int.tmod (IntKind.u64.wrap a) (n : Int) = IntKind.u64.wrap a % (n : Int) := Int.tmod_eq_emod_of_nonneg hr.1
  have h3 := Int.emod_nonneg (IntKind.u64.wrap a) (show (n : Int) ≠ 0 by omega)
  have h4 := Int.emod_lt_of_pos (IntKind.u64.wrap a) (show (0 : Int) < n by omega)
  rw [h2]
  generalize IntKind.u64.wrap a % (n : Int) = z at *
  refine ⟨by omega, ?_⟩
  unfold wrap64
  omega
theorem hurt_f (l : List S82) (a1 a2 : Int) (hl : l.length < 1048577) (hw : ∀ p ∈ l, wfP p) (h2 : 0 ≤ a2 ∧ a2 < 256) : shutterlaw27_DumpHurt.f ((encS l).length + 10) l a1 a2 = some true := by
  have he := encS_len l
  have hE : dump_Encode.f l = if risingS l = true then some (encS l, 0) else some ([], 52) := by
    unfold dump_Encode.f
    rw [if_pos ⟨by omega, hw⟩]
  unfold shutterlaw27_DumpHurt.f
  rw [hE]
  by_cases hr : risingS l = true
  · rw [if_pos hr, Option.bind_some]
    simp only
    have hby := encS_byte l hw
    have hend := hurt_end l hw hr hl
    have hrt := decX_round l [] hw hr (by omega)
    rw [List.append_nil, if_pos rfl] at hrt
    have hnb : ∀ T' p n, decX T' = (p, 0, n) → (∀ c ∈ T', 0 ≤ c ∧ c < 256) → T'.length < 4398046511104 → encS p = T' ∧ p.length < T'.length + 1 := fun T' p n h h5 h6 => by
      obtain ⟨_, _, h3, _, _⟩ := dec_enc T' p n h5 h6 h
      exact ⟨h3, by have := (encS_len p).2.2; rw [h3] at this; omega⟩
    have hE2 : ∀ p, p = l → encS p = encS l := fun p h => by rw [h]
    generalize encS l = T at *
    obtain ⟨h5, kk, hkk, h6⟩ := at_is a1 T.length he.1 (by omega)
    rw [h5, h6]
    rw [if_pos trivial, if_neg (by omega), if_neg (by omega), if_pos (by omega), if_pos (by omega), Int.toNat_natCast]
    obtain ⟨e, n, hd, hne⟩ := hend kk hkk
    have f1 : dump_Decode.f (T.take kk) = some ([], e, n) := by
      unfold dump_Decode.f
      rw [if_pos ⟨by rw [List.length_take]; omega, fun c hc => hby c (List.mem_of_mem_take hc)⟩, hd]
    rw [f1, Option.bind_some]
    simp only
    rw [if_neg hne]
    have e0 : (((([] : List S82).length : Int) != 0)) = false := rfl
    rw [e0]
    show shutterlaw27_DumpHurt.j0 ((T.length + 9) + 1) l a2 T kk false = some true
    simp only [shutterlaw27_DumpHurt.j0]
    rw [if_neg (by simp), if_pos (by omega), if_pos (by omega), Int.toNat_natCast]
    have er : rd T (kk : Int) = T[kk] := by unfold rd; simp [List.getD_eq_getElem?_getD, List.getElem?_eq_getElem hkk]
    have hbk := hby T[kk] (List.getElem_mem hkk)
    obtain ⟨x1, x2⟩ := xor_byte T[kk] a2 hbk h2
    rw [er]
    have hls : (T.set kk (Go.bits .xor .u8 T[kk] a2)).length = T.length := List.length_set
    have hbs : ∀ c ∈ T.set kk (Go.bits .xor .u8 T[kk] a2), 0 ≤ c ∧ c < 256 := by
      intro c hc
      rcases List.mem_or_eq_of_mem_set hc with hc | rfl
      · exact hby c hc
      · exact x1
    have f2 : dump_Decode.f (T.set kk (Go.bits .xor .u8 T[kk] a2)) = some (decX (T.set kk (Go.bits .xor .u8 T[kk] a2))) := by
      unfold dump_Decode.f
      rw [if_pos ⟨by omega, hbs⟩]
    obtain ⟨p, e', n', h7⟩ : ∃ p e n, decX (T.set kk (Go.bits .xor .u8 T[kk] a2)) = (p, e, n) := ⟨_, _, _, rfl⟩
    rw [f2, h7, Option.bind_some, live_f, Option.bind_some, if_pos rfl]
    simp only
    by_cases h9 : a2 = 0
    · have e1 : T.set kk (Go.bits .xor .u8 T[kk] a2) = T := by rw [x2.2 h9, List.set_getElem_self]
      rw [e1, hrt] at h7
      simp only [Prod.mk.injEq] at h7
      obtain ⟨rfl, rfl, rfl⟩ := h7
      rw [if_pos rfl, samePairs_yes l (by omega) _ (by omega), h9]
      rfl
    · have hf : (a2 == 0) = false := by simp [h9]
      rw [hf]
      by_cases h10 : e' = 0
      · subst h10
        obtain ⟨h11, h12⟩ := hnb _ p n' h7 hbs (by omega)
        obtain ⟨b, h13, h14⟩ := samePairs_is p l (by omega) (T.length + 9) (by omega)
        rw [if_pos rfl, h13]
        have : b = false := by
          cases b with
          | false => rfl
          | true =>
            exfalso
            have h15 := hE2 p (h14.1 rfl)
            rw [h11] at h15
            have h16 : (T.set kk (Go.bits .xor .u8 T[kk] a2))[kk]'(by omega) = T[kk] := by congr 1
            rw [List.getElem_set_self] at h16
            exact h9 (x2.1 h16)
        rw [this]
        rfl
      · rw [if_neg h10]
        rfl
  · rw [if_neg hr, Option.bind_some]
    simp only
    rw [if_neg (by decide), live_f]
    rfl
theorem hurt_walk (W : World) (a0 : Option Addr) (c0 : Nat) (x0 : List S82) (h0 : Kd.C k82 W a0 x0.length x0) (l0 : x0.length ≤ c0) {H : Type} {d0 : DataW H} (b0 : (x0.map B82).sum + 1 ≤ Rows.uptoBulk d0) (w0 : ∀ x ∈ x0, wfP x)
    (a1 : Int) (w1 : (Lit.int .i64 a1).wf = true) (a2 : Int) (w2 : (Lit.int .u8 a2).wf = true) {n1 n2 : Nat} (hb : Rows.uptoBulk d0 + (n1 + (n2 + 0)) ≤ 1048576) :
    Calls Try.prog 7 #[.slice a0 x0.length c0, .int .i64 a1, .int .u8 a2] W fun e W' => e = .returned (.bool true) ∧ Below W.heap.size W W' := by
  have s0 := sum82 x0
  refine shutterlaw27_DumpHurt.calls _ a0 c0 x0 a1 a2 true W h0 l0 (hurt_f x0 a1 a2 (by omega) w0 ?_)
  simp [Lit.wf, IntKind.min, IntKind.max, IntKind.signed, IntKind.bits] at w2
  omega
end Go.Proofs.Ythblincfnfpgbaa.Q
