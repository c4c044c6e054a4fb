-- Written by a program of this session over the kit's print.py, which was handed contracts that were proved by hand. Lean checks it.
import Derived.Test.YthblincfnfpgbaaQx0
import Derived.Test.YthblincfnfpgbaaQx40
namespace Go.Proofs.Ythblincfnfpgbaa.Q
open Go.RowKit Go.Proofs.YthblincfnfpgbaaW.PrintWords Go.Proofs.YthblincfnfpgbaaW.PrintLast Go.Proofs.YthblincfnfpgbaaW.PrintMore
attribute [local go_sem] max2_int min2_int max_two min_two max_three min_three max_four min_four   -- for this text's walks alone
set_option linter.unusedVariables false
set_option linter.unusedSimpArgs false

/-! ### shutterlaw27_sameOps: function 26 -/
def shutterlaw27_sameOps.l0 : Nat → List (S95) → List (S95) → Int → Option (Bool)
  | 0, _, _, _ => none
  | k + 1, x0, x1, x5 => if x5 < (x0.length : Int) then (if 0 ≤ x5 then (if x5 < (x1.length : Int) then ((shutterref17_SameOp.f k ((rd_T95 x0 x5).f0) ((rd_T95 x0 x5).f1) ((rd_T95 x0 x5).f2) ((rd_T95 x0 x5).f3) ((rd_T95 x0 x5).f4) ((rd_T95 x0 x5).f5.f0) ((rd_T95 x0 x5).f5.f1) ((rd_T95 x0 x5).f5.f2) ((rd_T95 x0 x5).f6) ((rd_T95 x0 x5).f7) ((rd_T95 x0 x5).f8) ((rd_T95 x1 x5).f0) ((rd_T95 x1 x5).f1) ((rd_T95 x1 x5).f2) ((rd_T95 x1 x5).f3) ((rd_T95 x1 x5).f4) ((rd_T95 x1 x5).f5.f0) ((rd_T95 x1 x5).f5.f1) ((rd_T95 x1 x5).f5.f2) ((rd_T95 x1 x5).f6) ((rd_T95 x1 x5).f7) ((rd_T95 x1 x5).f8)).bind fun t300 => (if t300 = true then (shutterlaw27_sameOps.l0 k x0 x1 (wrap64 (x5 + 1))) else (some false))) else (none)) else (none)) else (some true)
def shutterlaw27_sameOps.f (k : Nat) (l0 : List (S95)) (l1 : List (S95)) : Option (Bool) := if (l0.length : Int) = (l1.length : Int) then (shutterlaw27_sameOps.l0 k l0 l1 0) else (some false)
theorem shutterlaw27_sameOps.mono_l : ∀ k, (∀ y0 y1 y2, LeO (shutterlaw27_sameOps.l0 k y0 y1 y2) (shutterlaw27_sameOps.l0 (k + 1) y0 y1 y2))
  | 0 => fun _ _ _ r h => by simp [shutterlaw27_sameOps.l0] at h
  | k + 1 => by
    have ih0 := shutterlaw27_sameOps.mono_l k
    · intro y0 y1 y2
      unfold shutterlaw27_sameOps.l0
      repeat' first
      | (with_reducible exact ih0 _ _ _)
      | (with_reducible exact shutterref17_SameOp.mono _ _ _ _ _ _ _ _ _ _ _ _ _ _ _ _ _ _ _ _ _ _ _)
      | (with_reducible exact LeO.refl _)
      | (with_reducible exact LeO.none _)
      | (with_reducible refine LeO.ite ?_ ?_)
      | (with_reducible refine LeO.bind ?_ (fun _ => ?_))
      | exact ih0 _ _ _
      | exact shutterref17_SameOp.mono _ _ _ _ _ _ _ _ _ _ _ _ _ _ _ _ _ _ _ _ _ _ _
      | exact LeO.none _
      | refine LeO.ite ?_ ?_
      | refine LeO.bind ?_ (fun _ => ?_)
theorem shutterlaw27_sameOps.mono : ∀ a0 a1 k, LeO (shutterlaw27_sameOps.f k a0 a1) (shutterlaw27_sameOps.f (k + 1) a0 a1) := by
  intro a0 a1 k
  have ih0 := shutterlaw27_sameOps.mono_l k
  unfold shutterlaw27_sameOps.f
  repeat' first
      | (with_reducible exact ih0 _ _ _)
      | (with_reducible exact shutterref17_SameOp.mono _ _ _ _ _ _ _ _ _ _ _ _ _ _ _ _ _ _ _ _ _ _ _)
      | (with_reducible exact LeO.refl _)
      | (with_reducible exact LeO.none _)
      | (with_reducible refine LeO.ite ?_ ?_)
      | (with_reducible refine LeO.bind ?_ (fun _ => ?_))
      | exact ih0 _ _ _
      | exact shutterref17_SameOp.mono _ _ _ _ _ _ _ _ _ _ _ _ _ _ _ _ _ _ _ _ _ _ _
      | exact LeO.none _
      | refine LeO.ite ?_ ?_
      | refine LeO.bind ?_ (fun _ => ?_)
def shutterlaw27_sameOps.T6 : Bool × List (List Nat × List Nat) := (true, [([], []), ([], []), ([0, 1], [0, 1]), ([2], [2]), ([], []), ([], []), ([4, 5], [4, 5]), ([6], [6]), ([3, 7], [3, 7]), ([8], [8])])
def shutterlaw27_sameOps.B6 : List Nat := [0, 0, 3, 7, 0, 0, 48, 112, 255, 511]
theorem shutterlaw27_sameOps.tab6 : rtab .any (opsOf Try.f26 6) = shutterlaw27_sameOps.T6 := by kernel_rfl
theorem shutterlaw27_sameOps.bits6 : waitsOk shutterlaw27_sameOps.T6.2 shutterlaw27_sameOps.B6 = true := by kernel_rfl
set_option maxHeartbeats 8000000 in
set_option maxRecDepth 100000 in
theorem shutterlaw27_sameOps.calls (k : Nat) (A0 : Option Addr) (c0 : Nat) (l0 : List (S95)) (A1 : Option Addr) (c1 : Nat) (l1 : List (S95)) (r : Bool) (w : World) (hr0 : Kd.C k95 w A0 l0.length l0) (hc0 : l0.length ≤ c0) (hr1 : Kd.C k95 w A1 l1.length l1) (hc1 : l1.length ≤ c1) (h : shutterlaw27_sameOps.f k l0 l1 = some r) :
    Calls Try.prog 26 #[.slice A0 l0.length c0, .slice A1 l1.length c1] w fun e w' => e = .returned (.bool r) ∧ Below w.heap.size w w' := by
  have hu95 := Try.underlying95
  have HR0 := Aside0.mk hr0
  have HC0 := Aside0.mk hc0
  clear hr0 hc0
  have HR1 := Aside0.mk hr1
  have HC1 := Aside0.mk hc1
  clear hr1 hc1
  have HB := Aside0.mk (Below.refl w.heap.size w)
  have H : (if (l0.length : Int) = (l1.length : Int) then (shutterlaw27_sameOps.l0 k l0 l1 0) else (some false)) = some r := h
  clear h
  by_cases c3 : (l0.length : Int) = (l1.length : Int)
  · rw [if_pos c3] at H
    have c3b0 : ((l0.length : Int) == (l1.length : Int)) = true := beq_iff_eq.mpr c3
    have c3b1 : ((l0.length : Int) != (l1.length : Int)) = false := bne_eq_false_iff_eq.mpr c3
    have c3b2 : (l0.length == l1.length) = true := by first | simpa using c3 | (simp at c3 ⊢; omega)
    clear c3
    have H' := Aside0.mk H
    clear H
    go_enter Try.func26, Try.ntmps26
    go_wp2
    go_loopg [5] k (fun kq v5 w' => ∃ (x5_1 : Int), v5 = .int .i64 x5_1 ∧ Aside0 (shutterlaw27_sameOps.l0 kq l0 l1 x5_1 = some r) ∧ Aside0 (kq ≤ k) ∧ Aside0 (Below w.heap.size w w'))
    case atStart => exact ⟨(0), (by first | rfl | (simp; done) | (simp [*]; done)), H', ⟨Nat.le_refl _⟩, ⟨by repeat (first | (with_reducible first | exact HB.out | apply below_alloc | apply pw_below_drewN | apply below_drew1) | exact HB.out)⟩⟩
    case round =>
      clear H'
      try clear c1
      try clear c2
      try clear p2
      try clear c3
      try clear c3b0
      try clear c3b1
      try clear c3b2
      obtain ⟨x5_1, rfl, HA, HK1, HB⟩ := hrel
      cases gk with
      | zero => exact absurd HA.out (by simp [shutterlaw27_sameOps.l0])
      | succ k1 =>
        have H := HA.out
        clear HA
        simp only [shutterlaw27_sameOps.l0] at H
        by_cases c4 : x5_1 < (l0.length : Int)
        · rw [if_pos c4] at H
          have c4b0 : decide (x5_1 < (l0.length : Int)) = true := decide_eq_true c4
          clear c4
          by_cases c5 : 0 ≤ x5_1
          · rw [if_pos c5] at H
            have c5b0 : decide (0 ≤ x5_1) = true := decide_eq_true c5
            clear c5
            by_cases c6 : x5_1 < (l1.length : Int)
            · rw [if_pos c6] at H
              have c6b0 : decide (x5_1 < (l1.length : Int)) = true := decide_eq_true c6
              clear c6
              replace H := Option.bind_eq_some_iff.mp H
              obtain ⟨t300, A70, H⟩ := H
              replace H : (if t300 = true then (shutterlaw27_sameOps.l0 k1 l0 l1 (wrap64 (x5_1 + 1))) else (some false)) = some r := H
              have A7 := Aside0.mk A70
              clear A70
              by_cases c8 : t300 = true
              · subst c8
                have H1 : (shutterlaw27_sameOps.l0 k1 l0 l1 (wrap64 (x5_1 + 1))) = some r := by rw [if_pos rfl] at H; exact H
                clear H
                have H := H1
                clear H1
                have H' := Aside0.mk H
                clear H
                try go_wp2
                have n0_ := Aside0.mk (below_drew1 HB.out)
                clear HB
                have HB := n0_
                clear n0_
                have p298 : 0 ≤ (x5_1 : Int) := of_decide_eq_true (by first | (with_reducible assumption) | assumption)
                have q298 : x5_1 < (l0.length : Int) := of_decide_eq_true (by first | (with_reducible assumption) | assumption)
                obtain ⟨ad298, A298_8, c298_8, e298, hx298_0, hx298_1, hx298_2, hx298_3, hx298_4, hx298_5, hx298_6, hx298_7, hx298_8, hx298_9, hx298_10, hl298_8, hi298_8⟩ := at_T95 HR0.out x5_1 p298 q298
                have hw298_10 := hx298_10
                have hw298_9 := hx298_9
                have hw298_8 := hx298_8
                have hw298_7 := hx298_7
                have hw298_6 := hx298_6
                have hw298_5 := hx298_5
                have hw298_4 := hx298_4
                have hw298_3 := hx298_3
                have hw298_2 := hx298_2
                have hw298_1 := hx298_1
                have hw298_0 := hx298_0
                cases e298
                replace hx298_0 := (HB.out.cell (World.block_lt_of_cell? w _ hx298_0)).trans hx298_0
                replace hx298_1 := (HB.out.cell (World.block_lt_of_cell? w _ hx298_1)).trans hx298_1
                replace hx298_2 := (HB.out.cell (World.block_lt_of_cell? w _ hx298_2)).trans hx298_2
                replace hx298_3 := (HB.out.cell (World.block_lt_of_cell? w _ hx298_3)).trans hx298_3
                replace hx298_4 := (HB.out.cell (World.block_lt_of_cell? w _ hx298_4)).trans hx298_4
                replace hx298_5 := (HB.out.cell (World.block_lt_of_cell? w _ hx298_5)).trans hx298_5
                replace hx298_6 := (HB.out.cell (World.block_lt_of_cell? w _ hx298_6)).trans hx298_6
                replace hx298_7 := (HB.out.cell (World.block_lt_of_cell? w _ hx298_7)).trans hx298_7
                replace hx298_8 := (HB.out.cell (World.block_lt_of_cell? w _ hx298_8)).trans hx298_8
                replace hx298_9 := (HB.out.cell (World.block_lt_of_cell? w _ hx298_9)).trans hx298_9
                replace hx298_10 := (HB.out.cell (World.block_lt_of_cell? w _ hx298_10)).trans hx298_10
                have HR298_8 := Aside0.mk hi298_8
                have HC298_8 := Aside0.mk hl298_8
                clear hi298_8 hl298_8
                replace p298 := eq_true p298
                replace q298 := eq_true q298
                have p299 : 0 ≤ (x5_1 : Int) := of_decide_eq_true (by first | (with_reducible assumption) | assumption)
                have q299 : x5_1 < (l1.length : Int) := of_decide_eq_true (by first | (with_reducible assumption) | assumption)
                obtain ⟨ad299, A299_8, c299_8, e299, hx299_0, hx299_1, hx299_2, hx299_3, hx299_4, hx299_5, hx299_6, hx299_7, hx299_8, hx299_9, hx299_10, hl299_8, hi299_8⟩ := at_T95 HR1.out x5_1 p299 q299
                have hw299_10 := hx299_10
                have hw299_9 := hx299_9
                have hw299_8 := hx299_8
                have hw299_7 := hx299_7
                have hw299_6 := hx299_6
                have hw299_5 := hx299_5
                have hw299_4 := hx299_4
                have hw299_3 := hx299_3
                have hw299_2 := hx299_2
                have hw299_1 := hx299_1
                have hw299_0 := hx299_0
                cases e299
                replace hx299_0 := (HB.out.cell (World.block_lt_of_cell? w _ hx299_0)).trans hx299_0
                replace hx299_1 := (HB.out.cell (World.block_lt_of_cell? w _ hx299_1)).trans hx299_1
                replace hx299_2 := (HB.out.cell (World.block_lt_of_cell? w _ hx299_2)).trans hx299_2
                replace hx299_3 := (HB.out.cell (World.block_lt_of_cell? w _ hx299_3)).trans hx299_3
                replace hx299_4 := (HB.out.cell (World.block_lt_of_cell? w _ hx299_4)).trans hx299_4
                replace hx299_5 := (HB.out.cell (World.block_lt_of_cell? w _ hx299_5)).trans hx299_5
                replace hx299_6 := (HB.out.cell (World.block_lt_of_cell? w _ hx299_6)).trans hx299_6
                replace hx299_7 := (HB.out.cell (World.block_lt_of_cell? w _ hx299_7)).trans hx299_7
                replace hx299_8 := (HB.out.cell (World.block_lt_of_cell? w _ hx299_8)).trans hx299_8
                replace hx299_9 := (HB.out.cell (World.block_lt_of_cell? w _ hx299_9)).trans hx299_9
                replace hx299_10 := (HB.out.cell (World.block_lt_of_cell? w _ hx299_10)).trans hx299_10
                have HR299_8 := Aside0.mk hi299_8
                have HC299_8 := Aside0.mk hl299_8
                clear hi299_8 hl299_8
                replace p299 := eq_true p299
                replace q299 := eq_true q299
                refine start_ (n := 10) (S := fun w' => w'.cell? (ad298.add ((x5_1).toNat * 11)) = some (.int .u8 ((rd_T95 l0 x5_1).f0)) ∧ w'.cell? ⟨(ad298.add ((x5_1).toNat * 11)).block, (ad298.add ((x5_1).toNat * 11)).off + 1, none⟩ = some (.int .u64 ((rd_T95 l0 x5_1).f1)) ∧ w'.cell? ⟨(ad298.add ((x5_1).toNat * 11)).block, (ad298.add ((x5_1).toNat * 11)).off + 2, none⟩ = some (.int .u64 ((rd_T95 l0 x5_1).f2)) ∧ w'.cell? ⟨(ad298.add ((x5_1).toNat * 11)).block, (ad298.add ((x5_1).toNat * 11)).off + 3, none⟩ = some (.int .u64 ((rd_T95 l0 x5_1).f3)) ∧ w'.cell? ⟨(ad298.add ((x5_1).toNat * 11)).block, (ad298.add ((x5_1).toNat * 11)).off + 4, none⟩ = some (.int .u64 ((rd_T95 l0 x5_1).f4)) ∧ w'.cell? ⟨(ad298.add ((x5_1).toNat * 11)).block, (ad298.add ((x5_1).toNat * 11)).off + 5, none⟩ = some (.bool ((rd_T95 l0 x5_1).f5.f0)) ∧ w'.cell? ⟨(ad298.add ((x5_1).toNat * 11)).block, (ad298.add ((x5_1).toNat * 11)).off + 6, none⟩ = some (.int .i64 ((rd_T95 l0 x5_1).f5.f1)) ∧ w'.cell? ⟨(ad298.add ((x5_1).toNat * 11)).block, (ad298.add ((x5_1).toNat * 11)).off + 7, none⟩ = some (.int .i64 ((rd_T95 l0 x5_1).f5.f2)) ∧ w'.cell? ⟨(ad298.add ((x5_1).toNat * 11)).block, (ad298.add ((x5_1).toNat * 11)).off + 8, none⟩ = some (.slice A298_8 ((rd_T95 l0 x5_1).f6).length c298_8) ∧ w'.cell? ⟨(ad298.add ((x5_1).toNat * 11)).block, (ad298.add ((x5_1).toNat * 11)).off + 9, none⟩ = some (.int .u64 ((rd_T95 l0 x5_1).f7)) ∧ w'.cell? ⟨(ad298.add ((x5_1).toNat * 11)).block, (ad298.add ((x5_1).toNat * 11)).off + 10, none⟩ = some (.int .u64 ((rd_T95 l0 x5_1).f8)) ∧ w'.cell? (ad299.add ((x5_1).toNat * 11)) = some (.int .u8 ((rd_T95 l1 x5_1).f0)) ∧ w'.cell? ⟨(ad299.add ((x5_1).toNat * 11)).block, (ad299.add ((x5_1).toNat * 11)).off + 1, none⟩ = some (.int .u64 ((rd_T95 l1 x5_1).f1)) ∧ w'.cell? ⟨(ad299.add ((x5_1).toNat * 11)).block, (ad299.add ((x5_1).toNat * 11)).off + 2, none⟩ = some (.int .u64 ((rd_T95 l1 x5_1).f2)) ∧ w'.cell? ⟨(ad299.add ((x5_1).toNat * 11)).block, (ad299.add ((x5_1).toNat * 11)).off + 3, none⟩ = some (.int .u64 ((rd_T95 l1 x5_1).f3)) ∧ w'.cell? ⟨(ad299.add ((x5_1).toNat * 11)).block, (ad299.add ((x5_1).toNat * 11)).off + 4, none⟩ = some (.int .u64 ((rd_T95 l1 x5_1).f4)) ∧ w'.cell? ⟨(ad299.add ((x5_1).toNat * 11)).block, (ad299.add ((x5_1).toNat * 11)).off + 5, none⟩ = some (.bool ((rd_T95 l1 x5_1).f5.f0)) ∧ w'.cell? ⟨(ad299.add ((x5_1).toNat * 11)).block, (ad299.add ((x5_1).toNat * 11)).off + 6, none⟩ = some (.int .i64 ((rd_T95 l1 x5_1).f5.f1)) ∧ w'.cell? ⟨(ad299.add ((x5_1).toNat * 11)).block, (ad299.add ((x5_1).toNat * 11)).off + 7, none⟩ = some (.int .i64 ((rd_T95 l1 x5_1).f5.f2)) ∧ w'.cell? ⟨(ad299.add ((x5_1).toNat * 11)).block, (ad299.add ((x5_1).toNat * 11)).off + 8, none⟩ = some (.slice A299_8 ((rd_T95 l1 x5_1).f6).length c299_8) ∧ w'.cell? ⟨(ad299.add ((x5_1).toNat * 11)).block, (ad299.add ((x5_1).toNat * 11)).off + 9, none⟩ = some (.int .u64 ((rd_T95 l1 x5_1).f7)) ∧ w'.cell? ⟨(ad299.add ((x5_1).toNat * 11)).block, (ad299.add ((x5_1).toNat * 11)).off + 10, none⟩ = some (.int .u64 ((rd_T95 l1 x5_1).f8))) (ds := []) #[false, false, false, false, false, false, false, false, false, false] (by kernel_rfl) rfl rfl ⟨((HB.out.cell (World.block_lt_of_cell? w _ hw298_0)).trans hw298_0), ((HB.out.cell (World.block_lt_of_cell? w _ hw298_1)).trans hw298_1), ((HB.out.cell (World.block_lt_of_cell? w _ hw298_2)).trans hw298_2), ((HB.out.cell (World.block_lt_of_cell? w _ hw298_3)).trans hw298_3), ((HB.out.cell (World.block_lt_of_cell? w _ hw298_4)).trans hw298_4), ((HB.out.cell (World.block_lt_of_cell? w _ hw298_5)).trans hw298_5), ((HB.out.cell (World.block_lt_of_cell? w _ hw298_6)).trans hw298_6), ((HB.out.cell (World.block_lt_of_cell? w _ hw298_7)).trans hw298_7), ((HB.out.cell (World.block_lt_of_cell? w _ hw298_8)).trans hw298_8), ((HB.out.cell (World.block_lt_of_cell? w _ hw298_9)).trans hw298_9), ((HB.out.cell (World.block_lt_of_cell? w _ hw298_10)).trans hw298_10), ((HB.out.cell (World.block_lt_of_cell? w _ hw299_0)).trans hw299_0), ((HB.out.cell (World.block_lt_of_cell? w _ hw299_1)).trans hw299_1), ((HB.out.cell (World.block_lt_of_cell? w _ hw299_2)).trans hw299_2), ((HB.out.cell (World.block_lt_of_cell? w _ hw299_3)).trans hw299_3), ((HB.out.cell (World.block_lt_of_cell? w _ hw299_4)).trans hw299_4), ((HB.out.cell (World.block_lt_of_cell? w _ hw299_5)).trans hw299_5), ((HB.out.cell (World.block_lt_of_cell? w _ hw299_6)).trans hw299_6), ((HB.out.cell (World.block_lt_of_cell? w _ hw299_7)).trans hw299_7), ((HB.out.cell (World.block_lt_of_cell? w _ hw299_8)).trans hw299_8), ((HB.out.cell (World.block_lt_of_cell? w _ hw299_9)).trans hw299_9), ((HB.out.cell (World.block_lt_of_cell? w _ hw299_10)).trans hw299_10)⟩ (fun hHeld => ?_); refine with_tabW shutterlaw27_sameOps.tab6 shutterlaw27_sameOps.bits6 (fun HT_ HW_ => ?_)
                generalize wr.drew = w9 at HB HR298_8 HR299_8 hx298_0 hx298_1 hx298_10 hx298_2 hx298_3 hx298_4 hx298_5 hx298_6 hx298_7 hx298_8 hx298_9 hx299_0 hx299_1 hx299_10 hx299_2 hx299_3 hx299_4 hx299_5 hx299_6 hx299_7 hx299_8 hx299_9 hHeld ⊢
                refine pure_ (i := 0) (N := some 17) (v := ?_) (a' := ?_) #[true, false, false, false, false, false, false, false, false, false] rfl rfl (any_of HT_.out (by kernel_rfl)) (fun _ _ _ h => h) (Or.inl ⟨by rfl, ?_⟩) ?_ ?_
                rotate_left
                · intro w'
                  go_simp
                  with_reducible rfl
                rotate_left
                · simp only [Act.put, List.setIfInBounds_toArray, List.set_cons_zero, List.set_cons_succ, i64_w, i32_w]
                  rfl
                refine pure_ (i := 1) (N := some 18) (v := ?_) (a' := ?_) #[true, true, false, false, false, false, false, false, false, false] rfl rfl (any_of HT_.out (by kernel_rfl)) (fun _ _ _ h => h) (Or.inl ⟨by rfl, ?_⟩) ?_ ?_
                rotate_left
                · intro w'
                  go_simp
                  with_reducible rfl
                rotate_left
                · simp only [Act.put, List.setIfInBounds_toArray, List.set_cons_zero, List.set_cons_succ, i64_w, i32_w]
                  rfl
                refine pure_ (i := 2) (N := some 19) (v := ?_) (a' := ?_) #[true, true, true, false, false, false, false, false, false, false] rfl rfl (any_of HT_.out (by kernel_rfl)) (fun _ _ _ h => h) (Or.inl ⟨by rfl, ?_⟩) ?_ ?_
                rotate_left
                · intro w'
                  go_simp
                  with_reducible rfl
                rotate_left
                · simp only [Act.put, List.setIfInBounds_toArray, List.set_cons_zero, List.set_cons_succ, i64_w, i32_w]
                  rfl
                refine pure_ (i := 4) (N := some 21) (v := ?_) (a' := ?_) #[true, true, true, false, true, false, false, false, false, false] rfl rfl (any_of HT_.out (by kernel_rfl)) (fun _ _ _ h => h) (Or.inl ⟨by rfl, ?_⟩) ?_ ?_
                rotate_left
                · intro w'
                  go_simp
                  with_reducible rfl
                rotate_left
                · simp only [Act.put, List.setIfInBounds_toArray, List.set_cons_zero, List.set_cons_succ, i64_w, i32_w]
                  rfl
                refine pure_ (i := 5) (N := some 22) (v := ?_) (a' := ?_) #[true, true, true, false, true, true, false, false, false, false] rfl rfl (any_of HT_.out (by kernel_rfl)) (fun _ _ _ h => h) (Or.inl ⟨by rfl, ?_⟩) ?_ ?_
                rotate_left
                · intro w'
                  go_simp
                  with_reducible rfl
                rotate_left
                · simp only [Act.put, List.setIfInBounds_toArray, List.set_cons_zero, List.set_cons_succ, i64_w, i32_w]
                  rfl
                refine pure_ (i := 6) (N := some 23) (v := ?_) (a' := ?_) #[true, true, true, false, true, true, true, false, false, false] rfl rfl (any_of HT_.out (by kernel_rfl)) (fun _ _ _ h => h) (Or.inl ⟨by rfl, ?_⟩) ?_ ?_
                rotate_left
                · intro w'
                  go_simp
                  with_reducible rfl
                rotate_left
                · simp only [Act.put, List.setIfInBounds_toArray, List.set_cons_zero, List.set_cons_succ, i64_w, i32_w]
                  rfl
                refine take_ (i := 3) (N := some 20) (v := ?_) (a' := ?_) #[true, true, true, true, true, true, true, false, false, false] rfl rfl (take_ofW HT_.out HW_.out (by kernel_rfl)) (fun _ _ _ h => h) (Or.inl ⟨by rfl, ?_⟩) hHeld ?_ ?_
                rotate_left
                · rintro w' ⟨s0, s1, s2, s3, s4, s5, s6, s7, s8, s9, s10, s11, s12, s13, s14, s15, s16, s17, s18, s19, s20, s21⟩
                  go_simp
                  with_reducible rfl
                rotate_left
                · simp only [Act.put, List.setIfInBounds_toArray, List.set_cons_zero, List.set_cons_succ, i64_w, i32_w]
                  rfl
                refine take_ (i := 7) (N := some 24) (v := ?_) (a' := ?_) #[true, true, true, true, true, true, true, true, false, false] rfl rfl (take_ofW HT_.out HW_.out (by kernel_rfl)) (fun _ _ _ h => h) (Or.inl ⟨by rfl, ?_⟩) hHeld ?_ ?_
                rotate_left
                · rintro w' ⟨s0, s1, s2, s3, s4, s5, s6, s7, s8, s9, s10, s11, s12, s13, s14, s15, s16, s17, s18, s19, s20, s21⟩
                  go_simp
                  with_reducible rfl
                rotate_left
                · simp only [Act.put, List.setIfInBounds_toArray, List.set_cons_zero, List.set_cons_succ, i64_w, i32_w]
                  rfl
                refine one_ (i := 8) (N := some 25) #[true, true, true, true, true, true, true, true, true, false] rfl rfl (one_of HT_.out (by kernel_rfl)) (by decide) (fun K hK => ?_)
                refine goes_ Try.func54 (by kernel_rfl) rfl #[.agg #[.int .u8 ((rd_T95 l0 x5_1).f0), .int .u64 ((rd_T95 l0 x5_1).f1), .int .u64 ((rd_T95 l0 x5_1).f2), .int .u64 ((rd_T95 l0 x5_1).f3), .int .u64 ((rd_T95 l0 x5_1).f4), .bool ((rd_T95 l0 x5_1).f5.f0), .int .i64 ((rd_T95 l0 x5_1).f5.f1), .int .i64 ((rd_T95 l0 x5_1).f5.f2), .slice A298_8 ((rd_T95 l0 x5_1).f6).length c298_8, .int .u64 ((rd_T95 l0 x5_1).f7), .int .u64 ((rd_T95 l0 x5_1).f8)], .agg #[.int .u8 ((rd_T95 l1 x5_1).f0), .int .u64 ((rd_T95 l1 x5_1).f1), .int .u64 ((rd_T95 l1 x5_1).f2), .int .u64 ((rd_T95 l1 x5_1).f3), .int .u64 ((rd_T95 l1 x5_1).f4), .bool ((rd_T95 l1 x5_1).f5.f0), .int .i64 ((rd_T95 l1 x5_1).f5.f1), .int .i64 ((rd_T95 l1 x5_1).f5.f2), .slice A299_8 ((rd_T95 l1 x5_1).f6).length c299_8, .int .u64 ((rd_T95 l1 x5_1).f7), .int .u64 ((rd_T95 l1 x5_1).f8)]] (by rfl) rfl rfl (by (try simp only [List.map_toArray, List.map_cons, List.map_nil]); first | done | rfl | (simp only [List.length_drop, List.length_take]; rfl)) ?_
                with_reducible refine (shutterref17_SameOp.calls k1 ((rd_T95 l0 x5_1).f0) ((rd_T95 l0 x5_1).f1) ((rd_T95 l0 x5_1).f2) ((rd_T95 l0 x5_1).f3) ((rd_T95 l0 x5_1).f4) ((rd_T95 l0 x5_1).f5.f0) ((rd_T95 l0 x5_1).f5.f1) ((rd_T95 l0 x5_1).f5.f2) _ _ ((rd_T95 l0 x5_1).f6) ((rd_T95 l0 x5_1).f7) ((rd_T95 l0 x5_1).f8) ((rd_T95 l1 x5_1).f0) ((rd_T95 l1 x5_1).f1) ((rd_T95 l1 x5_1).f2) ((rd_T95 l1 x5_1).f3) ((rd_T95 l1 x5_1).f4) ((rd_T95 l1 x5_1).f5.f0) ((rd_T95 l1 x5_1).f5.f1) ((rd_T95 l1 x5_1).f5.f2) _ _ ((rd_T95 l1 x5_1).f6) ((rd_T95 l1 x5_1).f7) ((rd_T95 l1 x5_1).f8) true _ ?side1 ?side2 ?side3 ?side4 A7.out).mono ?_
                (case side1 => repeat (first | exact (Kd.C_below HR298_8.out HB.out) | (with_reducible refine Kd.C_alloc ?_ _) | (with_reducible refine Kd.C_drewN ?_ _) | (with_reducible refine Kd.C_drew ?_)))
                (case side2 => exact HC298_8.out)
                (case side3 => repeat (first | exact (Kd.C_below HR299_8.out HB.out) | (with_reducible refine Kd.C_alloc ?_ _) | (with_reducible refine Kd.C_drewN ?_ _) | (with_reducible refine Kd.C_drew ?_)))
                (case side4 => exact HC299_8.out)
                rintro e w10 ⟨rfl, hb⟩
                refine ⟨_, rfl, ?_⟩
                have n0_ := Aside0.mk (below_step (by repeat (first | (with_reducible first | exact HB.out | apply below_alloc | apply pw_below_drewN | apply below_drew1) | exact HB.out)) hb)
                clear HB
                have HB := n0_
                clear n0_
                (try clear hb)
                (try clear hb2)
                (try clear hk)
                (try clear hi)
                refine hK.out _ _ ⟨((HB.out.cell (World.block_lt_of_cell? w _ hw298_0)).trans hw298_0), ((HB.out.cell (World.block_lt_of_cell? w _ hw298_1)).trans hw298_1), ((HB.out.cell (World.block_lt_of_cell? w _ hw298_2)).trans hw298_2), ((HB.out.cell (World.block_lt_of_cell? w _ hw298_3)).trans hw298_3), ((HB.out.cell (World.block_lt_of_cell? w _ hw298_4)).trans hw298_4), ((HB.out.cell (World.block_lt_of_cell? w _ hw298_5)).trans hw298_5), ((HB.out.cell (World.block_lt_of_cell? w _ hw298_6)).trans hw298_6), ((HB.out.cell (World.block_lt_of_cell? w _ hw298_7)).trans hw298_7), ((HB.out.cell (World.block_lt_of_cell? w _ hw298_8)).trans hw298_8), ((HB.out.cell (World.block_lt_of_cell? w _ hw298_9)).trans hw298_9), ((HB.out.cell (World.block_lt_of_cell? w _ hw298_10)).trans hw298_10), ((HB.out.cell (World.block_lt_of_cell? w _ hw299_0)).trans hw299_0), ((HB.out.cell (World.block_lt_of_cell? w _ hw299_1)).trans hw299_1), ((HB.out.cell (World.block_lt_of_cell? w _ hw299_2)).trans hw299_2), ((HB.out.cell (World.block_lt_of_cell? w _ hw299_3)).trans hw299_3), ((HB.out.cell (World.block_lt_of_cell? w _ hw299_4)).trans hw299_4), ((HB.out.cell (World.block_lt_of_cell? w _ hw299_5)).trans hw299_5), ((HB.out.cell (World.block_lt_of_cell? w _ hw299_6)).trans hw299_6), ((HB.out.cell (World.block_lt_of_cell? w _ hw299_7)).trans hw299_7), ((HB.out.cell (World.block_lt_of_cell? w _ hw299_8)).trans hw299_8), ((HB.out.cell (World.block_lt_of_cell? w _ hw299_9)).trans hw299_9), ((HB.out.cell (World.block_lt_of_cell? w _ hw299_10)).trans hw299_10)⟩ (fun hHeld => ?_)
                clear hK K
                refine norm_ (a' := ?_) ?_ ?_
                rotate_left
                · show Act.put _ (some 25) _ = _
                  simp only [Act.put, List.setIfInBounds_toArray, List.set_cons_zero, List.set_cons_succ, i64_w, i32_w]
                  rfl
                refine pure_ (i := 9) (N := some 26) (v := ?_) (a' := ?_) #[true, true, true, true, true, true, true, true, true, true] rfl rfl (any_of HT_.out (by kernel_rfl)) (fun _ _ _ h => h) (Or.inl ⟨by rfl, ?_⟩) ?_ ?_
                rotate_left
                · intro w'
                  go_simp
                  with_reducible rfl
                rotate_left
                · simp only [Act.put, List.setIfInBounds_toArray, List.set_cons_zero, List.set_cons_succ, i64_w, i32_w]
                  rfl
                refine done_ (done_of HT_.out (by kernel_rfl)) ?_
                try go_wp2
                go_roundg k1
                case measure => have := HK1.out; omega
                case rel => exact ⟨(wrap64 (x5_1 + 1)), (by first | rfl | (simp; done) | (simp [*]; done)), H', ⟨by have := HK1.out; omega⟩, ⟨by repeat (first | (with_reducible first | exact HB.out | apply below_alloc | apply pw_below_drewN | apply below_drew1) | exact HB.out)⟩⟩
              · replace c8 := Bool.eq_false_iff.mpr c8
                subst c8
                have H1 : (some false) = some r := by rw [if_neg (show ¬ (false = true) by decide)] at H; exact H
                clear H
                have H := H1
                clear H1
                obtain rfl := Option.some.inj H
                try go_wp2
                have n0_ := Aside0.mk (below_drew1 HB.out)
                clear HB
                have HB := n0_
                clear n0_
                have p298 : 0 ≤ (x5_1 : Int) := of_decide_eq_true (by first | (with_reducible assumption) | assumption)
                have q298 : x5_1 < (l0.length : Int) := of_decide_eq_true (by first | (with_reducible assumption) | assumption)
                obtain ⟨ad298, A298_8, c298_8, e298, hx298_0, hx298_1, hx298_2, hx298_3, hx298_4, hx298_5, hx298_6, hx298_7, hx298_8, hx298_9, hx298_10, hl298_8, hi298_8⟩ := at_T95 HR0.out x5_1 p298 q298
                have hw298_10 := hx298_10
                have hw298_9 := hx298_9
                have hw298_8 := hx298_8
                have hw298_7 := hx298_7
                have hw298_6 := hx298_6
                have hw298_5 := hx298_5
                have hw298_4 := hx298_4
                have hw298_3 := hx298_3
                have hw298_2 := hx298_2
                have hw298_1 := hx298_1
                have hw298_0 := hx298_0
                cases e298
                replace hx298_0 := (HB.out.cell (World.block_lt_of_cell? w _ hx298_0)).trans hx298_0
                replace hx298_1 := (HB.out.cell (World.block_lt_of_cell? w _ hx298_1)).trans hx298_1
                replace hx298_2 := (HB.out.cell (World.block_lt_of_cell? w _ hx298_2)).trans hx298_2
                replace hx298_3 := (HB.out.cell (World.block_lt_of_cell? w _ hx298_3)).trans hx298_3
                replace hx298_4 := (HB.out.cell (World.block_lt_of_cell? w _ hx298_4)).trans hx298_4
                replace hx298_5 := (HB.out.cell (World.block_lt_of_cell? w _ hx298_5)).trans hx298_5
                replace hx298_6 := (HB.out.cell (World.block_lt_of_cell? w _ hx298_6)).trans hx298_6
                replace hx298_7 := (HB.out.cell (World.block_lt_of_cell? w _ hx298_7)).trans hx298_7
                replace hx298_8 := (HB.out.cell (World.block_lt_of_cell? w _ hx298_8)).trans hx298_8
                replace hx298_9 := (HB.out.cell (World.block_lt_of_cell? w _ hx298_9)).trans hx298_9
                replace hx298_10 := (HB.out.cell (World.block_lt_of_cell? w _ hx298_10)).trans hx298_10
                have HR298_8 := Aside0.mk hi298_8
                have HC298_8 := Aside0.mk hl298_8
                clear hi298_8 hl298_8
                replace p298 := eq_true p298
                replace q298 := eq_true q298
                have p299 : 0 ≤ (x5_1 : Int) := of_decide_eq_true (by first | (with_reducible assumption) | assumption)
                have q299 : x5_1 < (l1.length : Int) := of_decide_eq_true (by first | (with_reducible assumption) | assumption)
                obtain ⟨ad299, A299_8, c299_8, e299, hx299_0, hx299_1, hx299_2, hx299_3, hx299_4, hx299_5, hx299_6, hx299_7, hx299_8, hx299_9, hx299_10, hl299_8, hi299_8⟩ := at_T95 HR1.out x5_1 p299 q299
                have hw299_10 := hx299_10
                have hw299_9 := hx299_9
                have hw299_8 := hx299_8
                have hw299_7 := hx299_7
                have hw299_6 := hx299_6
                have hw299_5 := hx299_5
                have hw299_4 := hx299_4
                have hw299_3 := hx299_3
                have hw299_2 := hx299_2
                have hw299_1 := hx299_1
                have hw299_0 := hx299_0
                cases e299
                replace hx299_0 := (HB.out.cell (World.block_lt_of_cell? w _ hx299_0)).trans hx299_0
                replace hx299_1 := (HB.out.cell (World.block_lt_of_cell? w _ hx299_1)).trans hx299_1
                replace hx299_2 := (HB.out.cell (World.block_lt_of_cell? w _ hx299_2)).trans hx299_2
                replace hx299_3 := (HB.out.cell (World.block_lt_of_cell? w _ hx299_3)).trans hx299_3
                replace hx299_4 := (HB.out.cell (World.block_lt_of_cell? w _ hx299_4)).trans hx299_4
                replace hx299_5 := (HB.out.cell (World.block_lt_of_cell? w _ hx299_5)).trans hx299_5
                replace hx299_6 := (HB.out.cell (World.block_lt_of_cell? w _ hx299_6)).trans hx299_6
                replace hx299_7 := (HB.out.cell (World.block_lt_of_cell? w _ hx299_7)).trans hx299_7
                replace hx299_8 := (HB.out.cell (World.block_lt_of_cell? w _ hx299_8)).trans hx299_8
                replace hx299_9 := (HB.out.cell (World.block_lt_of_cell? w _ hx299_9)).trans hx299_9
                replace hx299_10 := (HB.out.cell (World.block_lt_of_cell? w _ hx299_10)).trans hx299_10
                have HR299_8 := Aside0.mk hi299_8
                have HC299_8 := Aside0.mk hl299_8
                clear hi299_8 hl299_8
                replace p299 := eq_true p299
                replace q299 := eq_true q299
                refine start_ (n := 10) (S := fun w' => w'.cell? (ad298.add ((x5_1).toNat * 11)) = some (.int .u8 ((rd_T95 l0 x5_1).f0)) ∧ w'.cell? ⟨(ad298.add ((x5_1).toNat * 11)).block, (ad298.add ((x5_1).toNat * 11)).off + 1, none⟩ = some (.int .u64 ((rd_T95 l0 x5_1).f1)) ∧ w'.cell? ⟨(ad298.add ((x5_1).toNat * 11)).block, (ad298.add ((x5_1).toNat * 11)).off + 2, none⟩ = some (.int .u64 ((rd_T95 l0 x5_1).f2)) ∧ w'.cell? ⟨(ad298.add ((x5_1).toNat * 11)).block, (ad298.add ((x5_1).toNat * 11)).off + 3, none⟩ = some (.int .u64 ((rd_T95 l0 x5_1).f3)) ∧ w'.cell? ⟨(ad298.add ((x5_1).toNat * 11)).block, (ad298.add ((x5_1).toNat * 11)).off + 4, none⟩ = some (.int .u64 ((rd_T95 l0 x5_1).f4)) ∧ w'.cell? ⟨(ad298.add ((x5_1).toNat * 11)).block, (ad298.add ((x5_1).toNat * 11)).off + 5, none⟩ = some (.bool ((rd_T95 l0 x5_1).f5.f0)) ∧ w'.cell? ⟨(ad298.add ((x5_1).toNat * 11)).block, (ad298.add ((x5_1).toNat * 11)).off + 6, none⟩ = some (.int .i64 ((rd_T95 l0 x5_1).f5.f1)) ∧ w'.cell? ⟨(ad298.add ((x5_1).toNat * 11)).block, (ad298.add ((x5_1).toNat * 11)).off + 7, none⟩ = some (.int .i64 ((rd_T95 l0 x5_1).f5.f2)) ∧ w'.cell? ⟨(ad298.add ((x5_1).toNat * 11)).block, (ad298.add ((x5_1).toNat * 11)).off + 8, none⟩ = some (.slice A298_8 ((rd_T95 l0 x5_1).f6).length c298_8) ∧ w'.cell? ⟨(ad298.add ((x5_1).toNat * 11)).block, (ad298.add ((x5_1).toNat * 11)).off + 9, none⟩ = some (.int .u64 ((rd_T95 l0 x5_1).f7)) ∧ w'.cell? ⟨(ad298.add ((x5_1).toNat * 11)).block, (ad298.add ((x5_1).toNat * 11)).off + 10, none⟩ = some (.int .u64 ((rd_T95 l0 x5_1).f8)) ∧ w'.cell? (ad299.add ((x5_1).toNat * 11)) = some (.int .u8 ((rd_T95 l1 x5_1).f0)) ∧ w'.cell? ⟨(ad299.add ((x5_1).toNat * 11)).block, (ad299.add ((x5_1).toNat * 11)).off + 1, none⟩ = some (.int .u64 ((rd_T95 l1 x5_1).f1)) ∧ w'.cell? ⟨(ad299.add ((x5_1).toNat * 11)).block, (ad299.add ((x5_1).toNat * 11)).off + 2, none⟩ = some (.int .u64 ((rd_T95 l1 x5_1).f2)) ∧ w'.cell? ⟨(ad299.add ((x5_1).toNat * 11)).block, (ad299.add ((x5_1).toNat * 11)).off + 3, none⟩ = some (.int .u64 ((rd_T95 l1 x5_1).f3)) ∧ w'.cell? ⟨(ad299.add ((x5_1).toNat * 11)).block, (ad299.add ((x5_1).toNat * 11)).off + 4, none⟩ = some (.int .u64 ((rd_T95 l1 x5_1).f4)) ∧ w'.cell? ⟨(ad299.add ((x5_1).toNat * 11)).block, (ad299.add ((x5_1).toNat * 11)).off + 5, none⟩ = some (.bool ((rd_T95 l1 x5_1).f5.f0)) ∧ w'.cell? ⟨(ad299.add ((x5_1).toNat * 11)).block, (ad299.add ((x5_1).toNat * 11)).off + 6, none⟩ = some (.int .i64 ((rd_T95 l1 x5_1).f5.f1)) ∧ w'.cell? ⟨(ad299.add ((x5_1).toNat * 11)).block, (ad299.add ((x5_1).toNat * 11)).off + 7, none⟩ = some (.int .i64 ((rd_T95 l1 x5_1).f5.f2)) ∧ w'.cell? ⟨(ad299.add ((x5_1).toNat * 11)).block, (ad299.add ((x5_1).toNat * 11)).off + 8, none⟩ = some (.slice A299_8 ((rd_T95 l1 x5_1).f6).length c299_8) ∧ w'.cell? ⟨(ad299.add ((x5_1).toNat * 11)).block, (ad299.add ((x5_1).toNat * 11)).off + 9, none⟩ = some (.int .u64 ((rd_T95 l1 x5_1).f7)) ∧ w'.cell? ⟨(ad299.add ((x5_1).toNat * 11)).block, (ad299.add ((x5_1).toNat * 11)).off + 10, none⟩ = some (.int .u64 ((rd_T95 l1 x5_1).f8))) (ds := []) #[false, false, false, false, false, false, false, false, false, false] (by kernel_rfl) rfl rfl ⟨((HB.out.cell (World.block_lt_of_cell? w _ hw298_0)).trans hw298_0), ((HB.out.cell (World.block_lt_of_cell? w _ hw298_1)).trans hw298_1), ((HB.out.cell (World.block_lt_of_cell? w _ hw298_2)).trans hw298_2), ((HB.out.cell (World.block_lt_of_cell? w _ hw298_3)).trans hw298_3), ((HB.out.cell (World.block_lt_of_cell? w _ hw298_4)).trans hw298_4), ((HB.out.cell (World.block_lt_of_cell? w _ hw298_5)).trans hw298_5), ((HB.out.cell (World.block_lt_of_cell? w _ hw298_6)).trans hw298_6), ((HB.out.cell (World.block_lt_of_cell? w _ hw298_7)).trans hw298_7), ((HB.out.cell (World.block_lt_of_cell? w _ hw298_8)).trans hw298_8), ((HB.out.cell (World.block_lt_of_cell? w _ hw298_9)).trans hw298_9), ((HB.out.cell (World.block_lt_of_cell? w _ hw298_10)).trans hw298_10), ((HB.out.cell (World.block_lt_of_cell? w _ hw299_0)).trans hw299_0), ((HB.out.cell (World.block_lt_of_cell? w _ hw299_1)).trans hw299_1), ((HB.out.cell (World.block_lt_of_cell? w _ hw299_2)).trans hw299_2), ((HB.out.cell (World.block_lt_of_cell? w _ hw299_3)).trans hw299_3), ((HB.out.cell (World.block_lt_of_cell? w _ hw299_4)).trans hw299_4), ((HB.out.cell (World.block_lt_of_cell? w _ hw299_5)).trans hw299_5), ((HB.out.cell (World.block_lt_of_cell? w _ hw299_6)).trans hw299_6), ((HB.out.cell (World.block_lt_of_cell? w _ hw299_7)).trans hw299_7), ((HB.out.cell (World.block_lt_of_cell? w _ hw299_8)).trans hw299_8), ((HB.out.cell (World.block_lt_of_cell? w _ hw299_9)).trans hw299_9), ((HB.out.cell (World.block_lt_of_cell? w _ hw299_10)).trans hw299_10)⟩ (fun hHeld => ?_); refine with_tabW shutterlaw27_sameOps.tab6 shutterlaw27_sameOps.bits6 (fun HT_ HW_ => ?_)
                generalize wr.drew = w11 at HB HR298_8 HR299_8 hx298_0 hx298_1 hx298_10 hx298_2 hx298_3 hx298_4 hx298_5 hx298_6 hx298_7 hx298_8 hx298_9 hx299_0 hx299_1 hx299_10 hx299_2 hx299_3 hx299_4 hx299_5 hx299_6 hx299_7 hx299_8 hx299_9 hHeld ⊢
                refine pure_ (i := 0) (N := some 17) (v := ?_) (a' := ?_) #[true, false, false, false, false, false, false, false, false, false] rfl rfl (any_of HT_.out (by kernel_rfl)) (fun _ _ _ h => h) (Or.inl ⟨by rfl, ?_⟩) ?_ ?_
                rotate_left
                · intro w'
                  go_simp
                  with_reducible rfl
                rotate_left
                · simp only [Act.put, List.setIfInBounds_toArray, List.set_cons_zero, List.set_cons_succ, i64_w, i32_w]
                  rfl
                refine pure_ (i := 1) (N := some 18) (v := ?_) (a' := ?_) #[true, true, false, false, false, false, false, false, false, false] rfl rfl (any_of HT_.out (by kernel_rfl)) (fun _ _ _ h => h) (Or.inl ⟨by rfl, ?_⟩) ?_ ?_
                rotate_left
                · intro w'
                  go_simp
                  with_reducible rfl
                rotate_left
                · simp only [Act.put, List.setIfInBounds_toArray, List.set_cons_zero, List.set_cons_succ, i64_w, i32_w]
                  rfl
                refine pure_ (i := 2) (N := some 19) (v := ?_) (a' := ?_) #[true, true, true, false, false, false, false, false, false, false] rfl rfl (any_of HT_.out (by kernel_rfl)) (fun _ _ _ h => h) (Or.inl ⟨by rfl, ?_⟩) ?_ ?_
                rotate_left
                · intro w'
                  go_simp
                  with_reducible rfl
                rotate_left
                · simp only [Act.put, List.setIfInBounds_toArray, List.set_cons_zero, List.set_cons_succ, i64_w, i32_w]
                  rfl
                refine pure_ (i := 4) (N := some 21) (v := ?_) (a' := ?_) #[true, true, true, false, true, false, false, false, false, false] rfl rfl (any_of HT_.out (by kernel_rfl)) (fun _ _ _ h => h) (Or.inl ⟨by rfl, ?_⟩) ?_ ?_
                rotate_left
                · intro w'
                  go_simp
                  with_reducible rfl
                rotate_left
                · simp only [Act.put, List.setIfInBounds_toArray, List.set_cons_zero, List.set_cons_succ, i64_w, i32_w]
                  rfl
                refine pure_ (i := 5) (N := some 22) (v := ?_) (a' := ?_) #[true, true, true, false, true, true, false, false, false, false] rfl rfl (any_of HT_.out (by kernel_rfl)) (fun _ _ _ h => h) (Or.inl ⟨by rfl, ?_⟩) ?_ ?_
                rotate_left
                · intro w'
                  go_simp
                  with_reducible rfl
                rotate_left
                · simp only [Act.put, List.setIfInBounds_toArray, List.set_cons_zero, List.set_cons_succ, i64_w, i32_w]
                  rfl
                refine pure_ (i := 6) (N := some 23) (v := ?_) (a' := ?_) #[true, true, true, false, true, true, true, false, false, false] rfl rfl (any_of HT_.out (by kernel_rfl)) (fun _ _ _ h => h) (Or.inl ⟨by rfl, ?_⟩) ?_ ?_
                rotate_left
                · intro w'
                  go_simp
                  with_reducible rfl
                rotate_left
                · simp only [Act.put, List.setIfInBounds_toArray, List.set_cons_zero, List.set_cons_succ, i64_w, i32_w]
                  rfl
                refine take_ (i := 3) (N := some 20) (v := ?_) (a' := ?_) #[true, true, true, true, true, true, true, false, false, false] rfl rfl (take_ofW HT_.out HW_.out (by kernel_rfl)) (fun _ _ _ h => h) (Or.inl ⟨by rfl, ?_⟩) hHeld ?_ ?_
                rotate_left
                · rintro w' ⟨s0, s1, s2, s3, s4, s5, s6, s7, s8, s9, s10, s11, s12, s13, s14, s15, s16, s17, s18, s19, s20, s21⟩
                  go_simp
                  with_reducible rfl
                rotate_left
                · simp only [Act.put, List.setIfInBounds_toArray, List.set_cons_zero, List.set_cons_succ, i64_w, i32_w]
                  rfl
                refine take_ (i := 7) (N := some 24) (v := ?_) (a' := ?_) #[true, true, true, true, true, true, true, true, false, false] rfl rfl (take_ofW HT_.out HW_.out (by kernel_rfl)) (fun _ _ _ h => h) (Or.inl ⟨by rfl, ?_⟩) hHeld ?_ ?_
                rotate_left
                · rintro w' ⟨s0, s1, s2, s3, s4, s5, s6, s7, s8, s9, s10, s11, s12, s13, s14, s15, s16, s17, s18, s19, s20, s21⟩
                  go_simp
                  with_reducible rfl
                rotate_left
                · simp only [Act.put, List.setIfInBounds_toArray, List.set_cons_zero, List.set_cons_succ, i64_w, i32_w]
                  rfl
                refine one_ (i := 8) (N := some 25) #[true, true, true, true, true, true, true, true, true, false] rfl rfl (one_of HT_.out (by kernel_rfl)) (by decide) (fun K hK => ?_)
                refine goes_ Try.func54 (by kernel_rfl) rfl #[.agg #[.int .u8 ((rd_T95 l0 x5_1).f0), .int .u64 ((rd_T95 l0 x5_1).f1), .int .u64 ((rd_T95 l0 x5_1).f2), .int .u64 ((rd_T95 l0 x5_1).f3), .int .u64 ((rd_T95 l0 x5_1).f4), .bool ((rd_T95 l0 x5_1).f5.f0), .int .i64 ((rd_T95 l0 x5_1).f5.f1), .int .i64 ((rd_T95 l0 x5_1).f5.f2), .slice A298_8 ((rd_T95 l0 x5_1).f6).length c298_8, .int .u64 ((rd_T95 l0 x5_1).f7), .int .u64 ((rd_T95 l0 x5_1).f8)], .agg #[.int .u8 ((rd_T95 l1 x5_1).f0), .int .u64 ((rd_T95 l1 x5_1).f1), .int .u64 ((rd_T95 l1 x5_1).f2), .int .u64 ((rd_T95 l1 x5_1).f3), .int .u64 ((rd_T95 l1 x5_1).f4), .bool ((rd_T95 l1 x5_1).f5.f0), .int .i64 ((rd_T95 l1 x5_1).f5.f1), .int .i64 ((rd_T95 l1 x5_1).f5.f2), .slice A299_8 ((rd_T95 l1 x5_1).f6).length c299_8, .int .u64 ((rd_T95 l1 x5_1).f7), .int .u64 ((rd_T95 l1 x5_1).f8)]] (by rfl) rfl rfl (by (try simp only [List.map_toArray, List.map_cons, List.map_nil]); first | done | rfl | (simp only [List.length_drop, List.length_take]; rfl)) ?_
                with_reducible refine (shutterref17_SameOp.calls k1 ((rd_T95 l0 x5_1).f0) ((rd_T95 l0 x5_1).f1) ((rd_T95 l0 x5_1).f2) ((rd_T95 l0 x5_1).f3) ((rd_T95 l0 x5_1).f4) ((rd_T95 l0 x5_1).f5.f0) ((rd_T95 l0 x5_1).f5.f1) ((rd_T95 l0 x5_1).f5.f2) _ _ ((rd_T95 l0 x5_1).f6) ((rd_T95 l0 x5_1).f7) ((rd_T95 l0 x5_1).f8) ((rd_T95 l1 x5_1).f0) ((rd_T95 l1 x5_1).f1) ((rd_T95 l1 x5_1).f2) ((rd_T95 l1 x5_1).f3) ((rd_T95 l1 x5_1).f4) ((rd_T95 l1 x5_1).f5.f0) ((rd_T95 l1 x5_1).f5.f1) ((rd_T95 l1 x5_1).f5.f2) _ _ ((rd_T95 l1 x5_1).f6) ((rd_T95 l1 x5_1).f7) ((rd_T95 l1 x5_1).f8) false _ ?side1 ?side2 ?side3 ?side4 A7.out).mono ?_
                (case side1 => repeat (first | exact (Kd.C_below HR298_8.out HB.out) | (with_reducible refine Kd.C_alloc ?_ _) | (with_reducible refine Kd.C_drewN ?_ _) | (with_reducible refine Kd.C_drew ?_)))
                (case side2 => exact HC298_8.out)
                (case side3 => repeat (first | exact (Kd.C_below HR299_8.out HB.out) | (with_reducible refine Kd.C_alloc ?_ _) | (with_reducible refine Kd.C_drewN ?_ _) | (with_reducible refine Kd.C_drew ?_)))
                (case side4 => exact HC299_8.out)
                rintro e w12 ⟨rfl, hb⟩
                refine ⟨_, rfl, ?_⟩
                have n0_ := Aside0.mk (below_step (by repeat (first | (with_reducible first | exact HB.out | apply below_alloc | apply pw_below_drewN | apply below_drew1) | exact HB.out)) hb)
                clear HB
                have HB := n0_
                clear n0_
                (try clear hb)
                (try clear hb2)
                (try clear hk)
                (try clear hi)
                refine hK.out _ _ ⟨((HB.out.cell (World.block_lt_of_cell? w _ hw298_0)).trans hw298_0), ((HB.out.cell (World.block_lt_of_cell? w _ hw298_1)).trans hw298_1), ((HB.out.cell (World.block_lt_of_cell? w _ hw298_2)).trans hw298_2), ((HB.out.cell (World.block_lt_of_cell? w _ hw298_3)).trans hw298_3), ((HB.out.cell (World.block_lt_of_cell? w _ hw298_4)).trans hw298_4), ((HB.out.cell (World.block_lt_of_cell? w _ hw298_5)).trans hw298_5), ((HB.out.cell (World.block_lt_of_cell? w _ hw298_6)).trans hw298_6), ((HB.out.cell (World.block_lt_of_cell? w _ hw298_7)).trans hw298_7), ((HB.out.cell (World.block_lt_of_cell? w _ hw298_8)).trans hw298_8), ((HB.out.cell (World.block_lt_of_cell? w _ hw298_9)).trans hw298_9), ((HB.out.cell (World.block_lt_of_cell? w _ hw298_10)).trans hw298_10), ((HB.out.cell (World.block_lt_of_cell? w _ hw299_0)).trans hw299_0), ((HB.out.cell (World.block_lt_of_cell? w _ hw299_1)).trans hw299_1), ((HB.out.cell (World.block_lt_of_cell? w _ hw299_2)).trans hw299_2), ((HB.out.cell (World.block_lt_of_cell? w _ hw299_3)).trans hw299_3), ((HB.out.cell (World.block_lt_of_cell? w _ hw299_4)).trans hw299_4), ((HB.out.cell (World.block_lt_of_cell? w _ hw299_5)).trans hw299_5), ((HB.out.cell (World.block_lt_of_cell? w _ hw299_6)).trans hw299_6), ((HB.out.cell (World.block_lt_of_cell? w _ hw299_7)).trans hw299_7), ((HB.out.cell (World.block_lt_of_cell? w _ hw299_8)).trans hw299_8), ((HB.out.cell (World.block_lt_of_cell? w _ hw299_9)).trans hw299_9), ((HB.out.cell (World.block_lt_of_cell? w _ hw299_10)).trans hw299_10)⟩ (fun hHeld => ?_)
                clear hK K
                refine norm_ (a' := ?_) ?_ ?_
                rotate_left
                · show Act.put _ (some 25) _ = _
                  simp only [Act.put, List.setIfInBounds_toArray, List.set_cons_zero, List.set_cons_succ, i64_w, i32_w]
                  rfl
                refine pure_ (i := 9) (N := some 26) (v := ?_) (a' := ?_) #[true, true, true, true, true, true, true, true, true, true] rfl rfl (any_of HT_.out (by kernel_rfl)) (fun _ _ _ h => h) (Or.inl ⟨by rfl, ?_⟩) ?_ ?_
                rotate_left
                · intro w'
                  go_simp
                  with_reducible rfl
                rotate_left
                · simp only [Act.put, List.setIfInBounds_toArray, List.set_cons_zero, List.set_cons_succ, i64_w, i32_w]
                  rfl
                refine done_ (done_of HT_.out (by kernel_rfl)) ?_
                try go_wp2
                go_ret
                exact ⟨by first | rfl | (simp [errW_none, errW_some] <;> rfl) | (simp [*, errW_none, errW_some] <;> rfl), by repeat (first | (with_reducible first | exact HB.out | apply below_alloc | apply pw_below_drewN | apply below_drew1) | exact HB.out)⟩
            · rw [if_neg c6] at H
              exact absurd H (by simp)
          · rw [if_neg c5] at H
            exact absurd H (by simp)
        · rw [if_neg c4] at H
          have c4b0 : decide (x5_1 < (l0.length : Int)) = false := decide_eq_false c4
          clear c4
          obtain rfl := Option.some.inj H
          go_wp2
          go_ret
          exact ⟨by first | rfl | (simp [errW_none, errW_some] <;> rfl) | (simp [*, errW_none, errW_some] <;> rfl), by repeat (first | (with_reducible first | exact HB.out | apply below_alloc | apply pw_below_drewN | apply below_drew1) | exact HB.out)⟩
  · rw [if_neg c3] at H
    have c3b0 : ((l0.length : Int) == (l1.length : Int)) = false := beq_eq_false_iff_ne.mpr c3
    have c3b1 : ((l0.length : Int) != (l1.length : Int)) = true := bne_iff_ne.mpr c3
    have c3b2 : (l0.length == l1.length) = false := by first | simpa using c3 | (simp at c3 ⊢; omega)
    obtain rfl := Option.some.inj H
    go_enter Try.func26, Try.ntmps26
    go_wp2
    go_ret
    exact ⟨by first | rfl | (simp [errW_none, errW_some] <;> rfl) | (simp [*, errW_none, errW_some] <;> rfl), by repeat (first | (with_reducible first | exact HB.out | apply below_alloc | apply pw_below_drewN | apply below_drew1) | exact HB.out)⟩

end Go.Proofs.Ythblincfnfpgbaa.Q
