import Derived.Test.YtngocadnbpdnoaaMga
import Derived.Test.YtngocadnbpdnoaaQx0
import Derived.Test.YtngocadnbpdnoaaRows
import Derived.Test.YtngocadnbpdnoaaWWords
import Derived.Deep.Slices
import Derived.SizedLaws
import Derived.Deep.CondSized
import Derived.ProofKit
import Derived.OpenShut
-- Written by a program of this session over the kit's print.py, which was handed contracts that were proved by hand. Lean checks it.
namespace Go.Proofs.Ytngocadnbpdnoaa.Q
open Go.RowKit Go.Proofs.YtngocadnbpdnoaaW.PrintWords Go.Proofs.YtngocadnbpdnoaaW.PrintLast Go.Proofs.YtngocadnbpdnoaaW.PrintMore
attribute [local go_sem] max2_int min2_int max_two min_two max_three min_three max_four min_four   -- for this text's walks alone
set_option linter.unusedVariables false
set_option linter.unusedSimpArgs false

/-! ### model_SameAnswer: function 12 -/
def model_SameAnswer.f (k : Nat) (a0_0 : Int) (a0_1 : Bool) (a0_2 : Int) (a0_3 : Bool) (a0_4 : Int) (l0_5 : List (S90)) (a0_6 : Int) (a1_0 : Int) (a1_1 : Bool) (a1_2 : Int) (a1_3 : Bool) (a1_4 : Int) (l1_5 : List (S90)) (a1_6 : Int) : Option (Bool) := (api_Pair.f k l0_5 l1_5).bind fun t105 => (if t105 = true then (if a0_0 = a1_0 then (if (a0_1 == a1_1) = true then (if a0_2 = a1_2 then (if (a0_3 == a1_3) = true then (if a0_4 = a1_4 then (some (a0_6 == a1_6)) else (some false)) else (some false)) else (some false)) else (some false)) else (some false)) else (some false))
theorem model_SameAnswer.mono : ∀ a0 a1 a2 a3 a4 a5 a6 a7 a8 a9 a10 a11 a12 a13 k, LeO (model_SameAnswer.f k a0 a1 a2 a3 a4 a5 a6 a7 a8 a9 a10 a11 a12 a13) (model_SameAnswer.f (k + 1) a0 a1 a2 a3 a4 a5 a6 a7 a8 a9 a10 a11 a12 a13) := by
  intro a0 a1 a2 a3 a4 a5 a6 a7 a8 a9 a10 a11 a12 a13 k
  unfold model_SameAnswer.f
  repeat' first
      | (with_reducible exact api_Pair.mono _ _ _)
      | (with_reducible exact LeO.refl _)
      | (with_reducible exact LeO.none _)
      | (with_reducible refine LeO.ite ?_ ?_)
      | (with_reducible refine LeO.bind ?_ (fun _ => ?_))
      | exact api_Pair.mono _ _ _
      | exact LeO.none _
      | refine LeO.ite ?_ ?_
      | refine LeO.bind ?_ (fun _ => ?_)
set_option maxHeartbeats 8000000 in
set_option maxRecDepth 100000 in
theorem model_SameAnswer.calls (k : Nat) (a0_0 : Int) (a0_1 : Bool) (a0_2 : Int) (a0_3 : Bool) (a0_4 : Int) (A0_5 : Option Addr) (c0_5 : Nat) (l0_5 : List (S90)) (a0_6 : Int) (a1_0 : Int) (a1_1 : Bool) (a1_2 : Int) (a1_3 : Bool) (a1_4 : Int) (A1_5 : Option Addr) (c1_5 : Nat) (l1_5 : List (S90)) (a1_6 : Int) (r : Bool) (w : World) (hr0_5 : Kd.C k90 w A0_5 l0_5.length l0_5) (hc0_5 : l0_5.length ≤ c0_5) (hr1_5 : Kd.C k90 w A1_5 l1_5.length l1_5) (hc1_5 : l1_5.length ≤ c1_5) (h : model_SameAnswer.f k a0_0 a0_1 a0_2 a0_3 a0_4 l0_5 a0_6 a1_0 a1_1 a1_2 a1_3 a1_4 l1_5 a1_6 = some r) :
    Calls Try.prog 12 #[.agg #[.int .i64 a0_0, .bool a0_1, .int .u64 a0_2, .bool a0_3, .int .u64 a0_4, .slice A0_5 l0_5.length c0_5, .int .u64 a0_6], .agg #[.int .i64 a1_0, .bool a1_1, .int .u64 a1_2, .bool a1_3, .int .u64 a1_4, .slice A1_5 l1_5.length c1_5, .int .u64 a1_6]] w fun e w' => e = .returned (.bool r) ∧ Below w.heap.size w w' := by
  have hu26 := Try.underlying26
  have HR0_5 := Aside0.mk hr0_5
  have HC0_5 := Aside0.mk hc0_5
  clear hr0_5 hc0_5
  have HR1_5 := Aside0.mk hr1_5
  have HC1_5 := Aside0.mk hc1_5
  clear hr1_5 hc1_5
  have HB := Aside0.mk (Below.refl w.heap.size w)
  have H : ((api_Pair.f k l0_5 l1_5).bind fun t105 => (if t105 = true then (if a0_0 = a1_0 then (if (a0_1 == a1_1) = true then (if a0_2 = a1_2 then (if (a0_3 == a1_3) = true then (if a0_4 = a1_4 then (some (a0_6 == a1_6)) else (some false)) else (some false)) else (some false)) else (some false)) else (some false)) else (some false))) = some r := h
  clear h
  replace H := Option.bind_eq_some_iff.mp H
  obtain ⟨t105, A30, H⟩ := H
  replace H : (if t105 = true then (if a0_0 = a1_0 then (if (a0_1 == a1_1) = true then (if a0_2 = a1_2 then (if (a0_3 == a1_3) = true then (if a0_4 = a1_4 then (some (a0_6 == a1_6)) else (some false)) else (some false)) else (some false)) else (some false)) else (some false)) else (some false)) = some r := H
  have A3 := Aside0.mk A30
  clear A30
  by_cases c4 : t105 = true
  · subst c4
    have H1 : (if a0_0 = a1_0 then (if (a0_1 == a1_1) = true then (if a0_2 = a1_2 then (if (a0_3 == a1_3) = true then (if a0_4 = a1_4 then (some (a0_6 == a1_6)) else (some false)) else (some false)) else (some false)) else (some false)) else (some false)) = some r := by rw [if_pos rfl] at H; exact H
    clear H
    have H := H1
    clear H1
    by_cases c5 : a0_0 = a1_0
    · rw [if_pos c5] at H
      have c5b0 : (a0_0 == a1_0) = true := beq_iff_eq.mpr c5
      have c5b1 : (a0_0 != a1_0) = false := bne_eq_false_iff_eq.mpr c5
      clear c5
      by_cases c6 : (a0_1 == a1_1) = true
      · rw [if_pos c6] at H
        have c6b0 : (a0_1 == a1_1) = true := c6
        (try (have c6b1 : decide (a0_1 = a1_1) = true := by simpa using c6))
        (try (have c6b2 : (a0_1 == a1_1) = true := by simpa using c6))
        clear c6
        by_cases c7 : a0_2 = a1_2
        · rw [if_pos c7] at H
          have c7b0 : (a0_2 == a1_2) = true := beq_iff_eq.mpr c7
          have c7b1 : (a0_2 != a1_2) = false := bne_eq_false_iff_eq.mpr c7
          clear c7
          by_cases c8 : (a0_3 == a1_3) = true
          · rw [if_pos c8] at H
            have c8b0 : (a0_3 == a1_3) = true := c8
            (try (have c8b1 : decide (a0_3 = a1_3) = true := by simpa using c8))
            (try (have c8b2 : (a0_3 == a1_3) = true := by simpa using c8))
            clear c8
            by_cases c9 : a0_4 = a1_4
            · rw [if_pos c9] at H
              have c9b0 : (a0_4 == a1_4) = true := beq_iff_eq.mpr c9
              have c9b1 : (a0_4 != a1_4) = false := bne_eq_false_iff_eq.mpr c9
              clear c9
              obtain rfl := Option.some.inj H
              go_enter Try.func12, Try.ntmps12
              go_wp2_with (first | ((with_reducible refine gate_dst (N := 2) rfl ?_); refine box_event ?hg (N := 2) ?hd (cs := #[.int .i64 a0_0, .bool a0_1, .int .u64 a0_2, .bool a0_3, .int .u64 a0_4, .slice A0_5 l0_5.length c0_5, .int .u64 a0_6]) (t := 26) ?hr ?_; (case hd => rfl); (case hg => rfl); (case hr => first | (go_simp; done) | (go_simp; rfl)); intro gb103 hg w10 hbox hb; have n0_ := Aside0.mk (below_step (by repeat (first | (with_reducible first | exact HB.out | apply below_alloc | apply pw_below_drewN | apply below_drew1) | exact HB.out)) hb); have n1_ := Aside0.mk (hbox); have n2_ := Aside0.mk ((by rw [hg]; exact (below_size (by repeat (first | (with_reducible first | exact HB.out | apply below_alloc | apply pw_below_drewN | apply below_drew1) | exact HB.out))) : w.heap.size ≤ gb103)); have n3_ := Aside0.mk ((by rw [hg]; exact (below_size (by repeat (first | (with_reducible first | exact HB.out | apply below_alloc | apply pw_below_drewN | apply below_drew1) | exact HB.out))) : w.heap.size ≤ gb103)); clear HB; have HB := n0_; have BK103 := n1_; have GW103 := n2_; have GE103 := n3_; clear n0_ n1_ n2_ n3_; clear hb hbox hg) | ((with_reducible refine gate_dst (N := 3) rfl ?_); refine box_event ?hg (N := 3) ?hd (cs := #[.int .i64 a1_0, .bool a1_1, .int .u64 a1_2, .bool a1_3, .int .u64 a1_4, .slice A1_5 l1_5.length c1_5, .int .u64 a1_6]) (t := 26) ?hr ?_; (case hd => rfl); (case hg => rfl); (case hr => first | (go_simp; done) | (go_simp; rfl)); intro gb104 hg w11 hbox hb; have n0_ := Aside0.mk (blk_below (g := gb103) (o := .cells #[.int .i64 a0_0, .bool a0_1, .int .u64 a0_2, .bool a0_3, .int .u64 a0_4, .slice A0_5 l0_5.length c0_5, .int .u64 a0_6] 26 (0, 0)) (by (with_reducible repeat (first | refine blk_drewN ?_ _ | refine blk_drew ?_ | refine blk_alloc ?_ _)); exact BK103.out) hb); have n1_ := Aside0.mk (below_step (by repeat (first | (with_reducible first | exact HB.out | apply below_alloc | apply pw_below_drewN | apply below_drew1 | refine below_set ?_ GE103.out) | exact HB.out)) hb); have n2_ := Aside0.mk (hbox); have n3_ := Aside0.mk ((by rw [hg]; exact (below_size (by repeat (first | (with_reducible first | exact HB.out | apply below_alloc | apply pw_below_drewN | apply below_drew1 | refine below_set ?_ GE103.out) | exact HB.out))) : w.heap.size ≤ gb104)); have n4_ := Aside0.mk ((by rw [hg]; exact (below_size (by repeat (first | (with_reducible first | exact HB.out | apply below_alloc | apply pw_below_drewN | apply below_drew1 | refine below_set ?_ GE103.out) | exact HB.out))) : w.heap.size ≤ gb104)); have n5_ := Aside0.mk ((by rw [hg]; exact Nat.ne_of_lt (blk_lt (g := gb103) (o := .cells #[.int .i64 a0_0, .bool a0_1, .int .u64 a0_2, .bool a0_3, .int .u64 a0_4, .slice A0_5 l0_5.length c0_5, .int .u64 a0_6] 26 (0, 0)) (by (with_reducible repeat (first | refine blk_drewN ?_ _ | refine blk_drew ?_ | refine blk_alloc ?_ _)); exact BK103.out)) : gb103 ≠ gb104)); have n6_ := Aside0.mk ((by rw [hg]; exact Nat.ne_of_gt (blk_lt (g := gb103) (o := .cells #[.int .i64 a0_0, .bool a0_1, .int .u64 a0_2, .bool a0_3, .int .u64 a0_4, .slice A0_5 l0_5.length c0_5, .int .u64 a0_6] 26 (0, 0)) (by (with_reducible repeat (first | refine blk_drewN ?_ _ | refine blk_drew ?_ | refine blk_alloc ?_ _)); exact BK103.out)) : gb104 ≠ gb103)); clear BK103; clear HB; have BK103 := n0_; have HB := n1_; have BK104 := n2_; have GW104 := n3_; have GE104 := n4_; have NB103_104 := n5_; have NB104_103 := n6_; clear n0_ n1_ n2_ n3_ n4_ n5_ n6_; clear hb hbox hg; have hnb12 := NB103_104.out; have hnc12 := NB104_103.out; have hcz13_0 : w11.cell? ⟨gb103, 0, none⟩ = some (.int .i64 a0_0) := (blk_cell BK103.out 0).trans rfl; have hcz13_1 : w11.cell? ⟨gb103, 1, none⟩ = some (.bool a0_1) := (blk_cell BK103.out 1).trans rfl; have hcz13_2 : w11.cell? ⟨gb103, 2, none⟩ = some (.int .u64 a0_2) := (blk_cell BK103.out 2).trans rfl; have hcz13_3 : w11.cell? ⟨gb103, 3, none⟩ = some (.bool a0_3) := (blk_cell BK103.out 3).trans rfl; have hcz13_4 : w11.cell? ⟨gb103, 4, none⟩ = some (.int .u64 a0_4) := (blk_cell BK103.out 4).trans rfl; have hcz13_5 : w11.cell? ⟨gb103, 5, none⟩ = some (.slice A0_5 l0_5.length c0_5) := (blk_cell BK103.out 5).trans rfl; have hcz13_6 : w11.cell? ⟨gb103, 6, none⟩ = some (.int .u64 a0_6) := (blk_cell BK103.out 6).trans rfl; have hfz13_0 := blk_frozen BK103.out 0; have hfz13_1 := blk_frozen BK103.out 1; have hfz13_2 := blk_frozen BK103.out 2; have hfz13_3 := blk_frozen BK103.out 3; have hfz13_4 := blk_frozen BK103.out 4; have hfz13_5 := blk_frozen BK103.out 5; have hfz13_6 := blk_frozen BK103.out 6; have hcz14_0 : w11.cell? ⟨gb104, 0, none⟩ = some (.int .i64 a1_0) := (blk_cell BK104.out 0).trans rfl; have hcz14_1 : w11.cell? ⟨gb104, 1, none⟩ = some (.bool a1_1) := (blk_cell BK104.out 1).trans rfl; have hcz14_2 : w11.cell? ⟨gb104, 2, none⟩ = some (.int .u64 a1_2) := (blk_cell BK104.out 2).trans rfl; have hcz14_3 : w11.cell? ⟨gb104, 3, none⟩ = some (.bool a1_3) := (blk_cell BK104.out 3).trans rfl; have hcz14_4 : w11.cell? ⟨gb104, 4, none⟩ = some (.int .u64 a1_4) := (blk_cell BK104.out 4).trans rfl; have hcz14_5 : w11.cell? ⟨gb104, 5, none⟩ = some (.slice A1_5 l1_5.length c1_5) := (blk_cell BK104.out 5).trans rfl; have hcz14_6 : w11.cell? ⟨gb104, 6, none⟩ = some (.int .u64 a1_6) := (blk_cell BK104.out 6).trans rfl; have hfz14_0 := blk_frozen BK104.out 0; have hfz14_1 := blk_frozen BK104.out 1; have hfz14_2 := blk_frozen BK104.out 2; have hfz14_3 := blk_frozen BK104.out 3; have hfz14_4 := blk_frozen BK104.out 4; have hfz14_5 := blk_frozen BK104.out 5; have hfz14_6 := blk_frozen BK104.out 6) | ((with_reducible refine gate_callee (f := 34) rfl ?_); refine goesL_ (some 9) rfl rfl Try.func34 (by kernel_rfl) rfl #[.slice A0_5 l0_5.length c0_5, .slice A1_5 l1_5.length c1_5] rfl (by (try simp only [List.map_toArray, List.map_cons, List.map_nil]); first | done | rfl | (simp only [List.length_drop, List.length_take]; rfl)) ?_; (with_reducible refine (api_Pair.calls k _ _ l0_5 _ _ l1_5 true _ ?side1 ?side2 ?side3 ?side4 A3.out).mono ?_); (case side1 => repeat (first | exact (Kd.C_below HR0_5.out HB.out) | (with_reducible refine Kd.C_alloc ?_ _) | (with_reducible refine Kd.C_drewN ?_ _) | (with_reducible refine Kd.C_drew ?_))); (case side2 => exact HC0_5.out); (case side3 => repeat (first | exact (Kd.C_below HR1_5.out HB.out) | (with_reducible refine Kd.C_alloc ?_ _) | (with_reducible refine Kd.C_drewN ?_ _) | (with_reducible refine Kd.C_drew ?_))); (case side4 => exact HC1_5.out); rintro e w' ⟨rfl, ⟨nd, rfl⟩⟩; refine ⟨_, rfl, ?_⟩))
              go_ret
              exact ⟨by first | rfl | (simp [errW_none, errW_some] <;> rfl) | (simp [*, errW_none, errW_some] <;> rfl), by repeat (first | (with_reducible first | exact HB.out | apply below_alloc | apply pw_below_drewN | apply below_drew1 | refine below_set ?_ GE103.out | refine below_set ?_ GE104.out) | exact HB.out)⟩
            · rw [if_neg c9] at H
              have c9b0 : (a0_4 == a1_4) = false := beq_eq_false_iff_ne.mpr c9
              have c9b1 : (a0_4 != a1_4) = true := bne_iff_ne.mpr c9
              obtain rfl := Option.some.inj H
              go_enter Try.func12, Try.ntmps12
              go_wp2_with (first | ((with_reducible refine gate_dst (N := 2) rfl ?_); refine box_event ?hg (N := 2) ?hd (cs := #[.int .i64 a0_0, .bool a0_1, .int .u64 a0_2, .bool a0_3, .int .u64 a0_4, .slice A0_5 l0_5.length c0_5, .int .u64 a0_6]) (t := 26) ?hr ?_; (case hd => rfl); (case hg => rfl); (case hr => first | (go_simp; done) | (go_simp; rfl)); intro gb103 hg w15 hbox hb; have n0_ := Aside0.mk (below_step (by repeat (first | (with_reducible first | exact HB.out | apply below_alloc | apply pw_below_drewN | apply below_drew1) | exact HB.out)) hb); have n1_ := Aside0.mk (hbox); have n2_ := Aside0.mk ((by rw [hg]; exact (below_size (by repeat (first | (with_reducible first | exact HB.out | apply below_alloc | apply pw_below_drewN | apply below_drew1) | exact HB.out))) : w.heap.size ≤ gb103)); have n3_ := Aside0.mk ((by rw [hg]; exact (below_size (by repeat (first | (with_reducible first | exact HB.out | apply below_alloc | apply pw_below_drewN | apply below_drew1) | exact HB.out))) : w.heap.size ≤ gb103)); clear HB; have HB := n0_; have BK103 := n1_; have GW103 := n2_; have GE103 := n3_; clear n0_ n1_ n2_ n3_; clear hb hbox hg) | ((with_reducible refine gate_dst (N := 3) rfl ?_); refine box_event ?hg (N := 3) ?hd (cs := #[.int .i64 a1_0, .bool a1_1, .int .u64 a1_2, .bool a1_3, .int .u64 a1_4, .slice A1_5 l1_5.length c1_5, .int .u64 a1_6]) (t := 26) ?hr ?_; (case hd => rfl); (case hg => rfl); (case hr => first | (go_simp; done) | (go_simp; rfl)); intro gb104 hg w16 hbox hb; have n0_ := Aside0.mk (blk_below (g := gb103) (o := .cells #[.int .i64 a0_0, .bool a0_1, .int .u64 a0_2, .bool a0_3, .int .u64 a0_4, .slice A0_5 l0_5.length c0_5, .int .u64 a0_6] 26 (0, 0)) (by (with_reducible repeat (first | refine blk_drewN ?_ _ | refine blk_drew ?_ | refine blk_alloc ?_ _)); exact BK103.out) hb); have n1_ := Aside0.mk (below_step (by repeat (first | (with_reducible first | exact HB.out | apply below_alloc | apply pw_below_drewN | apply below_drew1 | refine below_set ?_ GE103.out) | exact HB.out)) hb); have n2_ := Aside0.mk (hbox); have n3_ := Aside0.mk ((by rw [hg]; exact (below_size (by repeat (first | (with_reducible first | exact HB.out | apply below_alloc | apply pw_below_drewN | apply below_drew1 | refine below_set ?_ GE103.out) | exact HB.out))) : w.heap.size ≤ gb104)); have n4_ := Aside0.mk ((by rw [hg]; exact (below_size (by repeat (first | (with_reducible first | exact HB.out | apply below_alloc | apply pw_below_drewN | apply below_drew1 | refine below_set ?_ GE103.out) | exact HB.out))) : w.heap.size ≤ gb104)); have n5_ := Aside0.mk ((by rw [hg]; exact Nat.ne_of_lt (blk_lt (g := gb103) (o := .cells #[.int .i64 a0_0, .bool a0_1, .int .u64 a0_2, .bool a0_3, .int .u64 a0_4, .slice A0_5 l0_5.length c0_5, .int .u64 a0_6] 26 (0, 0)) (by (with_reducible repeat (first | refine blk_drewN ?_ _ | refine blk_drew ?_ | refine blk_alloc ?_ _)); exact BK103.out)) : gb103 ≠ gb104)); have n6_ := Aside0.mk ((by rw [hg]; exact Nat.ne_of_gt (blk_lt (g := gb103) (o := .cells #[.int .i64 a0_0, .bool a0_1, .int .u64 a0_2, .bool a0_3, .int .u64 a0_4, .slice A0_5 l0_5.length c0_5, .int .u64 a0_6] 26 (0, 0)) (by (with_reducible repeat (first | refine blk_drewN ?_ _ | refine blk_drew ?_ | refine blk_alloc ?_ _)); exact BK103.out)) : gb104 ≠ gb103)); clear BK103; clear HB; have BK103 := n0_; have HB := n1_; have BK104 := n2_; have GW104 := n3_; have GE104 := n4_; have NB103_104 := n5_; have NB104_103 := n6_; clear n0_ n1_ n2_ n3_ n4_ n5_ n6_; clear hb hbox hg; have hnb17 := NB103_104.out; have hnc17 := NB104_103.out; have hcz18_0 : w16.cell? ⟨gb103, 0, none⟩ = some (.int .i64 a0_0) := (blk_cell BK103.out 0).trans rfl; have hcz18_1 : w16.cell? ⟨gb103, 1, none⟩ = some (.bool a0_1) := (blk_cell BK103.out 1).trans rfl; have hcz18_2 : w16.cell? ⟨gb103, 2, none⟩ = some (.int .u64 a0_2) := (blk_cell BK103.out 2).trans rfl; have hcz18_3 : w16.cell? ⟨gb103, 3, none⟩ = some (.bool a0_3) := (blk_cell BK103.out 3).trans rfl; have hcz18_4 : w16.cell? ⟨gb103, 4, none⟩ = some (.int .u64 a0_4) := (blk_cell BK103.out 4).trans rfl; have hcz18_5 : w16.cell? ⟨gb103, 5, none⟩ = some (.slice A0_5 l0_5.length c0_5) := (blk_cell BK103.out 5).trans rfl; have hcz18_6 : w16.cell? ⟨gb103, 6, none⟩ = some (.int .u64 a0_6) := (blk_cell BK103.out 6).trans rfl; have hfz18_0 := blk_frozen BK103.out 0; have hfz18_1 := blk_frozen BK103.out 1; have hfz18_2 := blk_frozen BK103.out 2; have hfz18_3 := blk_frozen BK103.out 3; have hfz18_4 := blk_frozen BK103.out 4; have hfz18_5 := blk_frozen BK103.out 5; have hfz18_6 := blk_frozen BK103.out 6; have hcz19_0 : w16.cell? ⟨gb104, 0, none⟩ = some (.int .i64 a1_0) := (blk_cell BK104.out 0).trans rfl; have hcz19_1 : w16.cell? ⟨gb104, 1, none⟩ = some (.bool a1_1) := (blk_cell BK104.out 1).trans rfl; have hcz19_2 : w16.cell? ⟨gb104, 2, none⟩ = some (.int .u64 a1_2) := (blk_cell BK104.out 2).trans rfl; have hcz19_3 : w16.cell? ⟨gb104, 3, none⟩ = some (.bool a1_3) := (blk_cell BK104.out 3).trans rfl; have hcz19_4 : w16.cell? ⟨gb104, 4, none⟩ = some (.int .u64 a1_4) := (blk_cell BK104.out 4).trans rfl; have hcz19_5 : w16.cell? ⟨gb104, 5, none⟩ = some (.slice A1_5 l1_5.length c1_5) := (blk_cell BK104.out 5).trans rfl; have hcz19_6 : w16.cell? ⟨gb104, 6, none⟩ = some (.int .u64 a1_6) := (blk_cell BK104.out 6).trans rfl; have hfz19_0 := blk_frozen BK104.out 0; have hfz19_1 := blk_frozen BK104.out 1; have hfz19_2 := blk_frozen BK104.out 2; have hfz19_3 := blk_frozen BK104.out 3; have hfz19_4 := blk_frozen BK104.out 4; have hfz19_5 := blk_frozen BK104.out 5; have hfz19_6 := blk_frozen BK104.out 6) | ((with_reducible refine gate_callee (f := 34) rfl ?_); refine goesL_ (some 9) rfl rfl Try.func34 (by kernel_rfl) rfl #[.slice A0_5 l0_5.length c0_5, .slice A1_5 l1_5.length c1_5] rfl (by (try simp only [List.map_toArray, List.map_cons, List.map_nil]); first | done | rfl | (simp only [List.length_drop, List.length_take]; rfl)) ?_; (with_reducible refine (api_Pair.calls k _ _ l0_5 _ _ l1_5 true _ ?side1 ?side2 ?side3 ?side4 A3.out).mono ?_); (case side1 => repeat (first | exact (Kd.C_below HR0_5.out HB.out) | (with_reducible refine Kd.C_alloc ?_ _) | (with_reducible refine Kd.C_drewN ?_ _) | (with_reducible refine Kd.C_drew ?_))); (case side2 => exact HC0_5.out); (case side3 => repeat (first | exact (Kd.C_below HR1_5.out HB.out) | (with_reducible refine Kd.C_alloc ?_ _) | (with_reducible refine Kd.C_drewN ?_ _) | (with_reducible refine Kd.C_drew ?_))); (case side4 => exact HC1_5.out); rintro e w' ⟨rfl, ⟨nd, rfl⟩⟩; refine ⟨_, rfl, ?_⟩))
              go_ret
              exact ⟨by first | rfl | (simp [errW_none, errW_some] <;> rfl) | (simp [*, errW_none, errW_some] <;> rfl), by repeat (first | (with_reducible first | exact HB.out | apply below_alloc | apply pw_below_drewN | apply below_drew1 | refine below_set ?_ GE103.out | refine below_set ?_ GE104.out) | exact HB.out)⟩
          · rw [if_neg c8] at H
            have c8b0 : (a0_3 == a1_3) = false := by simpa using c8
            (try (have c8b1 : decide (a0_3 = a1_3) = false := by simpa using c8))
            (try (have c8b2 : (a0_3 == a1_3) = false := by simpa using c8))
            (try (have c8b3 : ¬ (a0_3 = a1_3) := by simpa using c8))
            clear c8
            obtain rfl := Option.some.inj H
            go_enter Try.func12, Try.ntmps12
            go_wp2_with (first | ((with_reducible refine gate_dst (N := 2) rfl ?_); refine box_event ?hg (N := 2) ?hd (cs := #[.int .i64 a0_0, .bool a0_1, .int .u64 a0_2, .bool a0_3, .int .u64 a0_4, .slice A0_5 l0_5.length c0_5, .int .u64 a0_6]) (t := 26) ?hr ?_; (case hd => rfl); (case hg => rfl); (case hr => first | (go_simp; done) | (go_simp; rfl)); intro gb103 hg w20 hbox hb; have n0_ := Aside0.mk (below_step (by repeat (first | (with_reducible first | exact HB.out | apply below_alloc | apply pw_below_drewN | apply below_drew1) | exact HB.out)) hb); have n1_ := Aside0.mk (hbox); have n2_ := Aside0.mk ((by rw [hg]; exact (below_size (by repeat (first | (with_reducible first | exact HB.out | apply below_alloc | apply pw_below_drewN | apply below_drew1) | exact HB.out))) : w.heap.size ≤ gb103)); have n3_ := Aside0.mk ((by rw [hg]; exact (below_size (by repeat (first | (with_reducible first | exact HB.out | apply below_alloc | apply pw_below_drewN | apply below_drew1) | exact HB.out))) : w.heap.size ≤ gb103)); clear HB; have HB := n0_; have BK103 := n1_; have GW103 := n2_; have GE103 := n3_; clear n0_ n1_ n2_ n3_; clear hb hbox hg) | ((with_reducible refine gate_dst (N := 3) rfl ?_); refine box_event ?hg (N := 3) ?hd (cs := #[.int .i64 a1_0, .bool a1_1, .int .u64 a1_2, .bool a1_3, .int .u64 a1_4, .slice A1_5 l1_5.length c1_5, .int .u64 a1_6]) (t := 26) ?hr ?_; (case hd => rfl); (case hg => rfl); (case hr => first | (go_simp; done) | (go_simp; rfl)); intro gb104 hg w21 hbox hb; have n0_ := Aside0.mk (blk_below (g := gb103) (o := .cells #[.int .i64 a0_0, .bool a0_1, .int .u64 a0_2, .bool a0_3, .int .u64 a0_4, .slice A0_5 l0_5.length c0_5, .int .u64 a0_6] 26 (0, 0)) (by (with_reducible repeat (first | refine blk_drewN ?_ _ | refine blk_drew ?_ | refine blk_alloc ?_ _)); exact BK103.out) hb); have n1_ := Aside0.mk (below_step (by repeat (first | (with_reducible first | exact HB.out | apply below_alloc | apply pw_below_drewN | apply below_drew1 | refine below_set ?_ GE103.out) | exact HB.out)) hb); have n2_ := Aside0.mk (hbox); have n3_ := Aside0.mk ((by rw [hg]; exact (below_size (by repeat (first | (with_reducible first | exact HB.out | apply below_alloc | apply pw_below_drewN | apply below_drew1 | refine below_set ?_ GE103.out) | exact HB.out))) : w.heap.size ≤ gb104)); have n4_ := Aside0.mk ((by rw [hg]; exact (below_size (by repeat (first | (with_reducible first | exact HB.out | apply below_alloc | apply pw_below_drewN | apply below_drew1 | refine below_set ?_ GE103.out) | exact HB.out))) : w.heap.size ≤ gb104)); have n5_ := Aside0.mk ((by rw [hg]; exact Nat.ne_of_lt (blk_lt (g := gb103) (o := .cells #[.int .i64 a0_0, .bool a0_1, .int .u64 a0_2, .bool a0_3, .int .u64 a0_4, .slice A0_5 l0_5.length c0_5, .int .u64 a0_6] 26 (0, 0)) (by (with_reducible repeat (first | refine blk_drewN ?_ _ | refine blk_drew ?_ | refine blk_alloc ?_ _)); exact BK103.out)) : gb103 ≠ gb104)); have n6_ := Aside0.mk ((by rw [hg]; exact Nat.ne_of_gt (blk_lt (g := gb103) (o := .cells #[.int .i64 a0_0, .bool a0_1, .int .u64 a0_2, .bool a0_3, .int .u64 a0_4, .slice A0_5 l0_5.length c0_5, .int .u64 a0_6] 26 (0, 0)) (by (with_reducible repeat (first | refine blk_drewN ?_ _ | refine blk_drew ?_ | refine blk_alloc ?_ _)); exact BK103.out)) : gb104 ≠ gb103)); clear BK103; clear HB; have BK103 := n0_; have HB := n1_; have BK104 := n2_; have GW104 := n3_; have GE104 := n4_; have NB103_104 := n5_; have NB104_103 := n6_; clear n0_ n1_ n2_ n3_ n4_ n5_ n6_; clear hb hbox hg; have hnb22 := NB103_104.out; have hnc22 := NB104_103.out; have hcz23_0 : w21.cell? ⟨gb103, 0, none⟩ = some (.int .i64 a0_0) := (blk_cell BK103.out 0).trans rfl; have hcz23_1 : w21.cell? ⟨gb103, 1, none⟩ = some (.bool a0_1) := (blk_cell BK103.out 1).trans rfl; have hcz23_2 : w21.cell? ⟨gb103, 2, none⟩ = some (.int .u64 a0_2) := (blk_cell BK103.out 2).trans rfl; have hcz23_3 : w21.cell? ⟨gb103, 3, none⟩ = some (.bool a0_3) := (blk_cell BK103.out 3).trans rfl; have hcz23_4 : w21.cell? ⟨gb103, 4, none⟩ = some (.int .u64 a0_4) := (blk_cell BK103.out 4).trans rfl; have hcz23_5 : w21.cell? ⟨gb103, 5, none⟩ = some (.slice A0_5 l0_5.length c0_5) := (blk_cell BK103.out 5).trans rfl; have hcz23_6 : w21.cell? ⟨gb103, 6, none⟩ = some (.int .u64 a0_6) := (blk_cell BK103.out 6).trans rfl; have hfz23_0 := blk_frozen BK103.out 0; have hfz23_1 := blk_frozen BK103.out 1; have hfz23_2 := blk_frozen BK103.out 2; have hfz23_3 := blk_frozen BK103.out 3; have hfz23_4 := blk_frozen BK103.out 4; have hfz23_5 := blk_frozen BK103.out 5; have hfz23_6 := blk_frozen BK103.out 6; have hcz24_0 : w21.cell? ⟨gb104, 0, none⟩ = some (.int .i64 a1_0) := (blk_cell BK104.out 0).trans rfl; have hcz24_1 : w21.cell? ⟨gb104, 1, none⟩ = some (.bool a1_1) := (blk_cell BK104.out 1).trans rfl; have hcz24_2 : w21.cell? ⟨gb104, 2, none⟩ = some (.int .u64 a1_2) := (blk_cell BK104.out 2).trans rfl; have hcz24_3 : w21.cell? ⟨gb104, 3, none⟩ = some (.bool a1_3) := (blk_cell BK104.out 3).trans rfl; have hcz24_4 : w21.cell? ⟨gb104, 4, none⟩ = some (.int .u64 a1_4) := (blk_cell BK104.out 4).trans rfl; have hcz24_5 : w21.cell? ⟨gb104, 5, none⟩ = some (.slice A1_5 l1_5.length c1_5) := (blk_cell BK104.out 5).trans rfl; have hcz24_6 : w21.cell? ⟨gb104, 6, none⟩ = some (.int .u64 a1_6) := (blk_cell BK104.out 6).trans rfl; have hfz24_0 := blk_frozen BK104.out 0; have hfz24_1 := blk_frozen BK104.out 1; have hfz24_2 := blk_frozen BK104.out 2; have hfz24_3 := blk_frozen BK104.out 3; have hfz24_4 := blk_frozen BK104.out 4; have hfz24_5 := blk_frozen BK104.out 5; have hfz24_6 := blk_frozen BK104.out 6) | ((with_reducible refine gate_callee (f := 34) rfl ?_); refine goesL_ (some 9) rfl rfl Try.func34 (by kernel_rfl) rfl #[.slice A0_5 l0_5.length c0_5, .slice A1_5 l1_5.length c1_5] rfl (by (try simp only [List.map_toArray, List.map_cons, List.map_nil]); first | done | rfl | (simp only [List.length_drop, List.length_take]; rfl)) ?_; (with_reducible refine (api_Pair.calls k _ _ l0_5 _ _ l1_5 true _ ?side1 ?side2 ?side3 ?side4 A3.out).mono ?_); (case side1 => repeat (first | exact (Kd.C_below HR0_5.out HB.out) | (with_reducible refine Kd.C_alloc ?_ _) | (with_reducible refine Kd.C_drewN ?_ _) | (with_reducible refine Kd.C_drew ?_))); (case side2 => exact HC0_5.out); (case side3 => repeat (first | exact (Kd.C_below HR1_5.out HB.out) | (with_reducible refine Kd.C_alloc ?_ _) | (with_reducible refine Kd.C_drewN ?_ _) | (with_reducible refine Kd.C_drew ?_))); (case side4 => exact HC1_5.out); rintro e w' ⟨rfl, ⟨nd, rfl⟩⟩; refine ⟨_, rfl, ?_⟩))
            go_ret
            exact ⟨by first | rfl | (simp [errW_none, errW_some] <;> rfl) | (simp [*, errW_none, errW_some] <;> rfl), by repeat (first | (with_reducible first | exact HB.out | apply below_alloc | apply pw_below_drewN | apply below_drew1 | refine below_set ?_ GE103.out | refine below_set ?_ GE104.out) | exact HB.out)⟩
        · rw [if_neg c7] at H
          have c7b0 : (a0_2 == a1_2) = false := beq_eq_false_iff_ne.mpr c7
          have c7b1 : (a0_2 != a1_2) = true := bne_iff_ne.mpr c7
          obtain rfl := Option.some.inj H
          go_enter Try.func12, Try.ntmps12
          go_wp2_with (first | ((with_reducible refine gate_dst (N := 2) rfl ?_); refine box_event ?hg (N := 2) ?hd (cs := #[.int .i64 a0_0, .bool a0_1, .int .u64 a0_2, .bool a0_3, .int .u64 a0_4, .slice A0_5 l0_5.length c0_5, .int .u64 a0_6]) (t := 26) ?hr ?_; (case hd => rfl); (case hg => rfl); (case hr => first | (go_simp; done) | (go_simp; rfl)); intro gb103 hg w25 hbox hb; have n0_ := Aside0.mk (below_step (by repeat (first | (with_reducible first | exact HB.out | apply below_alloc | apply pw_below_drewN | apply below_drew1) | exact HB.out)) hb); have n1_ := Aside0.mk (hbox); have n2_ := Aside0.mk ((by rw [hg]; exact (below_size (by repeat (first | (with_reducible first | exact HB.out | apply below_alloc | apply pw_below_drewN | apply below_drew1) | exact HB.out))) : w.heap.size ≤ gb103)); have n3_ := Aside0.mk ((by rw [hg]; exact (below_size (by repeat (first | (with_reducible first | exact HB.out | apply below_alloc | apply pw_below_drewN | apply below_drew1) | exact HB.out))) : w.heap.size ≤ gb103)); clear HB; have HB := n0_; have BK103 := n1_; have GW103 := n2_; have GE103 := n3_; clear n0_ n1_ n2_ n3_; clear hb hbox hg) | ((with_reducible refine gate_dst (N := 3) rfl ?_); refine box_event ?hg (N := 3) ?hd (cs := #[.int .i64 a1_0, .bool a1_1, .int .u64 a1_2, .bool a1_3, .int .u64 a1_4, .slice A1_5 l1_5.length c1_5, .int .u64 a1_6]) (t := 26) ?hr ?_; (case hd => rfl); (case hg => rfl); (case hr => first | (go_simp; done) | (go_simp; rfl)); intro gb104 hg w26 hbox hb; have n0_ := Aside0.mk (blk_below (g := gb103) (o := .cells #[.int .i64 a0_0, .bool a0_1, .int .u64 a0_2, .bool a0_3, .int .u64 a0_4, .slice A0_5 l0_5.length c0_5, .int .u64 a0_6] 26 (0, 0)) (by (with_reducible repeat (first | refine blk_drewN ?_ _ | refine blk_drew ?_ | refine blk_alloc ?_ _)); exact BK103.out) hb); have n1_ := Aside0.mk (below_step (by repeat (first | (with_reducible first | exact HB.out | apply below_alloc | apply pw_below_drewN | apply below_drew1 | refine below_set ?_ GE103.out) | exact HB.out)) hb); have n2_ := Aside0.mk (hbox); have n3_ := Aside0.mk ((by rw [hg]; exact (below_size (by repeat (first | (with_reducible first | exact HB.out | apply below_alloc | apply pw_below_drewN | apply below_drew1 | refine below_set ?_ GE103.out) | exact HB.out))) : w.heap.size ≤ gb104)); have n4_ := Aside0.mk ((by rw [hg]; exact (below_size (by repeat (first | (with_reducible first | exact HB.out | apply below_alloc | apply pw_below_drewN | apply below_drew1 | refine below_set ?_ GE103.out) | exact HB.out))) : w.heap.size ≤ gb104)); have n5_ := Aside0.mk ((by rw [hg]; exact Nat.ne_of_lt (blk_lt (g := gb103) (o := .cells #[.int .i64 a0_0, .bool a0_1, .int .u64 a0_2, .bool a0_3, .int .u64 a0_4, .slice A0_5 l0_5.length c0_5, .int .u64 a0_6] 26 (0, 0)) (by (with_reducible repeat (first | refine blk_drewN ?_ _ | refine blk_drew ?_ | refine blk_alloc ?_ _)); exact BK103.out)) : gb103 ≠ gb104)); have n6_ := Aside0.mk ((by rw [hg]; exact Nat.ne_of_gt (blk_lt (g := gb103) (o := .cells #[.int .i64 a0_0, .bool a0_1, .int .u64 a0_2, .bool a0_3, .int .u64 a0_4, .slice A0_5 l0_5.length c0_5, .int .u64 a0_6] 26 (0, 0)) (by (with_reducible repeat (first | refine blk_drewN ?_ _ | refine blk_drew ?_ | refine blk_alloc ?_ _)); exact BK103.out)) : gb104 ≠ gb103)); clear BK103; clear HB; have BK103 := n0_; have HB := n1_; have BK104 := n2_; have GW104 := n3_; have GE104 := n4_; have NB103_104 := n5_; have NB104_103 := n6_; clear n0_ n1_ n2_ n3_ n4_ n5_ n6_; clear hb hbox hg; have hnb27 := NB103_104.out; have hnc27 := NB104_103.out; have hcz28_0 : w26.cell? ⟨gb103, 0, none⟩ = some (.int .i64 a0_0) := (blk_cell BK103.out 0).trans rfl; have hcz28_1 : w26.cell? ⟨gb103, 1, none⟩ = some (.bool a0_1) := (blk_cell BK103.out 1).trans rfl; have hcz28_2 : w26.cell? ⟨gb103, 2, none⟩ = some (.int .u64 a0_2) := (blk_cell BK103.out 2).trans rfl; have hcz28_3 : w26.cell? ⟨gb103, 3, none⟩ = some (.bool a0_3) := (blk_cell BK103.out 3).trans rfl; have hcz28_4 : w26.cell? ⟨gb103, 4, none⟩ = some (.int .u64 a0_4) := (blk_cell BK103.out 4).trans rfl; have hcz28_5 : w26.cell? ⟨gb103, 5, none⟩ = some (.slice A0_5 l0_5.length c0_5) := (blk_cell BK103.out 5).trans rfl; have hcz28_6 : w26.cell? ⟨gb103, 6, none⟩ = some (.int .u64 a0_6) := (blk_cell BK103.out 6).trans rfl; have hfz28_0 := blk_frozen BK103.out 0; have hfz28_1 := blk_frozen BK103.out 1; have hfz28_2 := blk_frozen BK103.out 2; have hfz28_3 := blk_frozen BK103.out 3; have hfz28_4 := blk_frozen BK103.out 4; have hfz28_5 := blk_frozen BK103.out 5; have hfz28_6 := blk_frozen BK103.out 6; have hcz29_0 : w26.cell? ⟨gb104, 0, none⟩ = some (.int .i64 a1_0) := (blk_cell BK104.out 0).trans rfl; have hcz29_1 : w26.cell? ⟨gb104, 1, none⟩ = some (.bool a1_1) := (blk_cell BK104.out 1).trans rfl; have hcz29_2 : w26.cell? ⟨gb104, 2, none⟩ = some (.int .u64 a1_2) := (blk_cell BK104.out 2).trans rfl; have hcz29_3 : w26.cell? ⟨gb104, 3, none⟩ = some (.bool a1_3) := (blk_cell BK104.out 3).trans rfl; have hcz29_4 : w26.cell? ⟨gb104, 4, none⟩ = some (.int .u64 a1_4) := (blk_cell BK104.out 4).trans rfl; have hcz29_5 : w26.cell? ⟨gb104, 5, none⟩ = some (.slice A1_5 l1_5.length c1_5) := (blk_cell BK104.out 5).trans rfl; have hcz29_6 : w26.cell? ⟨gb104, 6, none⟩ = some (.int .u64 a1_6) := (blk_cell BK104.out 6).trans rfl; have hfz29_0 := blk_frozen BK104.out 0; have hfz29_1 := blk_frozen BK104.out 1; have hfz29_2 := blk_frozen BK104.out 2; have hfz29_3 := blk_frozen BK104.out 3; have hfz29_4 := blk_frozen BK104.out 4; have hfz29_5 := blk_frozen BK104.out 5; have hfz29_6 := blk_frozen BK104.out 6) | ((with_reducible refine gate_callee (f := 34) rfl ?_); refine goesL_ (some 9) rfl rfl Try.func34 (by kernel_rfl) rfl #[.slice A0_5 l0_5.length c0_5, .slice A1_5 l1_5.length c1_5] rfl (by (try simp only [List.map_toArray, List.map_cons, List.map_nil]); first | done | rfl | (simp only [List.length_drop, List.length_take]; rfl)) ?_; (with_reducible refine (api_Pair.calls k _ _ l0_5 _ _ l1_5 true _ ?side1 ?side2 ?side3 ?side4 A3.out).mono ?_); (case side1 => repeat (first | exact (Kd.C_below HR0_5.out HB.out) | (with_reducible refine Kd.C_alloc ?_ _) | (with_reducible refine Kd.C_drewN ?_ _) | (with_reducible refine Kd.C_drew ?_))); (case side2 => exact HC0_5.out); (case side3 => repeat (first | exact (Kd.C_below HR1_5.out HB.out) | (with_reducible refine Kd.C_alloc ?_ _) | (with_reducible refine Kd.C_drewN ?_ _) | (with_reducible refine Kd.C_drew ?_))); (case side4 => exact HC1_5.out); rintro e w' ⟨rfl, ⟨nd, rfl⟩⟩; refine ⟨_, rfl, ?_⟩))
          go_ret
          exact ⟨by first | rfl | (simp [errW_none, errW_some] <;> rfl) | (simp [*, errW_none, errW_some] <;> rfl), by repeat (first | (with_reducible first | exact HB.out | apply below_alloc | apply pw_below_drewN | apply below_drew1 | refine below_set ?_ GE103.out | refine below_set ?_ GE104.out) | exact HB.out)⟩
      · rw [if_neg c6] at H
        have c6b0 : (a0_1 == a1_1) = false := by simpa using c6
        (try (have c6b1 : decide (a0_1 = a1_1) = false := by simpa using c6))
        (try (have c6b2 : (a0_1 == a1_1) = false := by simpa using c6))
        (try (have c6b3 : ¬ (a0_1 = a1_1) := by simpa using c6))
        clear c6
        obtain rfl := Option.some.inj H
        go_enter Try.func12, Try.ntmps12
        go_wp2_with (first | ((with_reducible refine gate_dst (N := 2) rfl ?_); refine box_event ?hg (N := 2) ?hd (cs := #[.int .i64 a0_0, .bool a0_1, .int .u64 a0_2, .bool a0_3, .int .u64 a0_4, .slice A0_5 l0_5.length c0_5, .int .u64 a0_6]) (t := 26) ?hr ?_; (case hd => rfl); (case hg => rfl); (case hr => first | (go_simp; done) | (go_simp; rfl)); intro gb103 hg w30 hbox hb; have n0_ := Aside0.mk (below_step (by repeat (first | (with_reducible first | exact HB.out | apply below_alloc | apply pw_below_drewN | apply below_drew1) | exact HB.out)) hb); have n1_ := Aside0.mk (hbox); have n2_ := Aside0.mk ((by rw [hg]; exact (below_size (by repeat (first | (with_reducible first | exact HB.out | apply below_alloc | apply pw_below_drewN | apply below_drew1) | exact HB.out))) : w.heap.size ≤ gb103)); have n3_ := Aside0.mk ((by rw [hg]; exact (below_size (by repeat (first | (with_reducible first | exact HB.out | apply below_alloc | apply pw_below_drewN | apply below_drew1) | exact HB.out))) : w.heap.size ≤ gb103)); clear HB; have HB := n0_; have BK103 := n1_; have GW103 := n2_; have GE103 := n3_; clear n0_ n1_ n2_ n3_; clear hb hbox hg) | ((with_reducible refine gate_dst (N := 3) rfl ?_); refine box_event ?hg (N := 3) ?hd (cs := #[.int .i64 a1_0, .bool a1_1, .int .u64 a1_2, .bool a1_3, .int .u64 a1_4, .slice A1_5 l1_5.length c1_5, .int .u64 a1_6]) (t := 26) ?hr ?_; (case hd => rfl); (case hg => rfl); (case hr => first | (go_simp; done) | (go_simp; rfl)); intro gb104 hg w31 hbox hb; have n0_ := Aside0.mk (blk_below (g := gb103) (o := .cells #[.int .i64 a0_0, .bool a0_1, .int .u64 a0_2, .bool a0_3, .int .u64 a0_4, .slice A0_5 l0_5.length c0_5, .int .u64 a0_6] 26 (0, 0)) (by (with_reducible repeat (first | refine blk_drewN ?_ _ | refine blk_drew ?_ | refine blk_alloc ?_ _)); exact BK103.out) hb); have n1_ := Aside0.mk (below_step (by repeat (first | (with_reducible first | exact HB.out | apply below_alloc | apply pw_below_drewN | apply below_drew1 | refine below_set ?_ GE103.out) | exact HB.out)) hb); have n2_ := Aside0.mk (hbox); have n3_ := Aside0.mk ((by rw [hg]; exact (below_size (by repeat (first | (with_reducible first | exact HB.out | apply below_alloc | apply pw_below_drewN | apply below_drew1 | refine below_set ?_ GE103.out) | exact HB.out))) : w.heap.size ≤ gb104)); have n4_ := Aside0.mk ((by rw [hg]; exact (below_size (by repeat (first | (with_reducible first | exact HB.out | apply below_alloc | apply pw_below_drewN | apply below_drew1 | refine below_set ?_ GE103.out) | exact HB.out))) : w.heap.size ≤ gb104)); have n5_ := Aside0.mk ((by rw [hg]; exact Nat.ne_of_lt (blk_lt (g := gb103) (o := .cells #[.int .i64 a0_0, .bool a0_1, .int .u64 a0_2, .bool a0_3, .int .u64 a0_4, .slice A0_5 l0_5.length c0_5, .int .u64 a0_6] 26 (0, 0)) (by (with_reducible repeat (first | refine blk_drewN ?_ _ | refine blk_drew ?_ | refine blk_alloc ?_ _)); exact BK103.out)) : gb103 ≠ gb104)); have n6_ := Aside0.mk ((by rw [hg]; exact Nat.ne_of_gt (blk_lt (g := gb103) (o := .cells #[.int .i64 a0_0, .bool a0_1, .int .u64 a0_2, .bool a0_3, .int .u64 a0_4, .slice A0_5 l0_5.length c0_5, .int .u64 a0_6] 26 (0, 0)) (by (with_reducible repeat (first | refine blk_drewN ?_ _ | refine blk_drew ?_ | refine blk_alloc ?_ _)); exact BK103.out)) : gb104 ≠ gb103)); clear BK103; clear HB; have BK103 := n0_; have HB := n1_; have BK104 := n2_; have GW104 := n3_; have GE104 := n4_; have NB103_104 := n5_; have NB104_103 := n6_; clear n0_ n1_ n2_ n3_ n4_ n5_ n6_; clear hb hbox hg; have hnb32 := NB103_104.out; have hnc32 := NB104_103.out; have hcz33_0 : w31.cell? ⟨gb103, 0, none⟩ = some (.int .i64 a0_0) := (blk_cell BK103.out 0).trans rfl; have hcz33_1 : w31.cell? ⟨gb103, 1, none⟩ = some (.bool a0_1) := (blk_cell BK103.out 1).trans rfl; have hcz33_2 : w31.cell? ⟨gb103, 2, none⟩ = some (.int .u64 a0_2) := (blk_cell BK103.out 2).trans rfl; have hcz33_3 : w31.cell? ⟨gb103, 3, none⟩ = some (.bool a0_3) := (blk_cell BK103.out 3).trans rfl; have hcz33_4 : w31.cell? ⟨gb103, 4, none⟩ = some (.int .u64 a0_4) := (blk_cell BK103.out 4).trans rfl; have hcz33_5 : w31.cell? ⟨gb103, 5, none⟩ = some (.slice A0_5 l0_5.length c0_5) := (blk_cell BK103.out 5).trans rfl; have hcz33_6 : w31.cell? ⟨gb103, 6, none⟩ = some (.int .u64 a0_6) := (blk_cell BK103.out 6).trans rfl; have hfz33_0 := blk_frozen BK103.out 0; have hfz33_1 := blk_frozen BK103.out 1; have hfz33_2 := blk_frozen BK103.out 2; have hfz33_3 := blk_frozen BK103.out 3; have hfz33_4 := blk_frozen BK103.out 4; have hfz33_5 := blk_frozen BK103.out 5; have hfz33_6 := blk_frozen BK103.out 6; have hcz34_0 : w31.cell? ⟨gb104, 0, none⟩ = some (.int .i64 a1_0) := (blk_cell BK104.out 0).trans rfl; have hcz34_1 : w31.cell? ⟨gb104, 1, none⟩ = some (.bool a1_1) := (blk_cell BK104.out 1).trans rfl; have hcz34_2 : w31.cell? ⟨gb104, 2, none⟩ = some (.int .u64 a1_2) := (blk_cell BK104.out 2).trans rfl; have hcz34_3 : w31.cell? ⟨gb104, 3, none⟩ = some (.bool a1_3) := (blk_cell BK104.out 3).trans rfl; have hcz34_4 : w31.cell? ⟨gb104, 4, none⟩ = some (.int .u64 a1_4) := (blk_cell BK104.out 4).trans rfl; have hcz34_5 : w31.cell? ⟨gb104, 5, none⟩ = some (.slice A1_5 l1_5.length c1_5) := (blk_cell BK104.out 5).trans rfl; have hcz34_6 : w31.cell? ⟨gb104, 6, none⟩ = some (.int .u64 a1_6) := (blk_cell BK104.out 6).trans rfl; have hfz34_0 := blk_frozen BK104.out 0; have hfz34_1 := blk_frozen BK104.out 1; have hfz34_2 := blk_frozen BK104.out 2; have hfz34_3 := blk_frozen BK104.out 3; have hfz34_4 := blk_frozen BK104.out 4; have hfz34_5 := blk_frozen BK104.out 5; have hfz34_6 := blk_frozen BK104.out 6) | ((with_reducible refine gate_callee (f := 34) rfl ?_); refine goesL_ (some 9) rfl rfl Try.func34 (by kernel_rfl) rfl #[.slice A0_5 l0_5.length c0_5, .slice A1_5 l1_5.length c1_5] rfl (by (try simp only [List.map_toArray, List.map_cons, List.map_nil]); first | done | rfl | (simp only [List.length_drop, List.length_take]; rfl)) ?_; (with_reducible refine (api_Pair.calls k _ _ l0_5 _ _ l1_5 true _ ?side1 ?side2 ?side3 ?side4 A3.out).mono ?_); (case side1 => repeat (first | exact (Kd.C_below HR0_5.out HB.out) | (with_reducible refine Kd.C_alloc ?_ _) | (with_reducible refine Kd.C_drewN ?_ _) | (with_reducible refine Kd.C_drew ?_))); (case side2 => exact HC0_5.out); (case side3 => repeat (first | exact (Kd.C_below HR1_5.out HB.out) | (with_reducible refine Kd.C_alloc ?_ _) | (with_reducible refine Kd.C_drewN ?_ _) | (with_reducible refine Kd.C_drew ?_))); (case side4 => exact HC1_5.out); rintro e w' ⟨rfl, ⟨nd, rfl⟩⟩; refine ⟨_, rfl, ?_⟩))
        go_ret
        exact ⟨by first | rfl | (simp [errW_none, errW_some] <;> rfl) | (simp [*, errW_none, errW_some] <;> rfl), by repeat (first | (with_reducible first | exact HB.out | apply below_alloc | apply pw_below_drewN | apply below_drew1 | refine below_set ?_ GE103.out | refine below_set ?_ GE104.out) | exact HB.out)⟩
    · rw [if_neg c5] at H
      have c5b0 : (a0_0 == a1_0) = false := beq_eq_false_iff_ne.mpr c5
      have c5b1 : (a0_0 != a1_0) = true := bne_iff_ne.mpr c5
      obtain rfl := Option.some.inj H
      go_enter Try.func12, Try.ntmps12
      go_wp2_with (first | ((with_reducible refine gate_dst (N := 2) rfl ?_); refine box_event ?hg (N := 2) ?hd (cs := #[.int .i64 a0_0, .bool a0_1, .int .u64 a0_2, .bool a0_3, .int .u64 a0_4, .slice A0_5 l0_5.length c0_5, .int .u64 a0_6]) (t := 26) ?hr ?_; (case hd => rfl); (case hg => rfl); (case hr => first | (go_simp; done) | (go_simp; rfl)); intro gb103 hg w35 hbox hb; have n0_ := Aside0.mk (below_step (by repeat (first | (with_reducible first | exact HB.out | apply below_alloc | apply pw_below_drewN | apply below_drew1) | exact HB.out)) hb); have n1_ := Aside0.mk (hbox); have n2_ := Aside0.mk ((by rw [hg]; exact (below_size (by repeat (first | (with_reducible first | exact HB.out | apply below_alloc | apply pw_below_drewN | apply below_drew1) | exact HB.out))) : w.heap.size ≤ gb103)); have n3_ := Aside0.mk ((by rw [hg]; exact (below_size (by repeat (first | (with_reducible first | exact HB.out | apply below_alloc | apply pw_below_drewN | apply below_drew1) | exact HB.out))) : w.heap.size ≤ gb103)); clear HB; have HB := n0_; have BK103 := n1_; have GW103 := n2_; have GE103 := n3_; clear n0_ n1_ n2_ n3_; clear hb hbox hg) | ((with_reducible refine gate_dst (N := 3) rfl ?_); refine box_event ?hg (N := 3) ?hd (cs := #[.int .i64 a1_0, .bool a1_1, .int .u64 a1_2, .bool a1_3, .int .u64 a1_4, .slice A1_5 l1_5.length c1_5, .int .u64 a1_6]) (t := 26) ?hr ?_; (case hd => rfl); (case hg => rfl); (case hr => first | (go_simp; done) | (go_simp; rfl)); intro gb104 hg w36 hbox hb; have n0_ := Aside0.mk (blk_below (g := gb103) (o := .cells #[.int .i64 a0_0, .bool a0_1, .int .u64 a0_2, .bool a0_3, .int .u64 a0_4, .slice A0_5 l0_5.length c0_5, .int .u64 a0_6] 26 (0, 0)) (by (with_reducible repeat (first | refine blk_drewN ?_ _ | refine blk_drew ?_ | refine blk_alloc ?_ _)); exact BK103.out) hb); have n1_ := Aside0.mk (below_step (by repeat (first | (with_reducible first | exact HB.out | apply below_alloc | apply pw_below_drewN | apply below_drew1 | refine below_set ?_ GE103.out) | exact HB.out)) hb); have n2_ := Aside0.mk (hbox); have n3_ := Aside0.mk ((by rw [hg]; exact (below_size (by repeat (first | (with_reducible first | exact HB.out | apply below_alloc | apply pw_below_drewN | apply below_drew1 | refine below_set ?_ GE103.out) | exact HB.out))) : w.heap.size ≤ gb104)); have n4_ := Aside0.mk ((by rw [hg]; exact (below_size (by repeat (first | (with_reducible first | exact HB.out | apply below_alloc | apply pw_below_drewN | apply below_drew1 | refine below_set ?_ GE103.out) | exact HB.out))) : w.heap.size ≤ gb104)); have n5_ := Aside0.mk ((by rw [hg]; exact Nat.ne_of_lt (blk_lt (g := gb103) (o := .cells #[.int .i64 a0_0, .bool a0_1, .int .u64 a0_2, .bool a0_3, .int .u64 a0_4, .slice A0_5 l0_5.length c0_5, .int .u64 a0_6] 26 (0, 0)) (by (with_reducible repeat (first | refine blk_drewN ?_ _ | refine blk_drew ?_ | refine blk_alloc ?_ _)); exact BK103.out)) : gb103 ≠ gb104)); have n6_ := Aside0.mk ((by rw [hg]; exact Nat.ne_of_gt (blk_lt (g := gb103) (o := .cells #[.int .i64 a0_0, .bool a0_1, .int .u64 a0_2, .bool a0_3, .int .u64 a0_4, .slice A0_5 l0_5.length c0_5, .int .u64 a0_6] 26 (0, 0)) (by (with_reducible repeat (first | refine blk_drewN ?_ _ | refine blk_drew ?_ | refine blk_alloc ?_ _)); exact BK103.out)) : gb104 ≠ gb103)); clear BK103; clear HB; have BK103 := n0_; have HB := n1_; have BK104 := n2_; have GW104 := n3_; have GE104 := n4_; have NB103_104 := n5_; have NB104_103 := n6_; clear n0_ n1_ n2_ n3_ n4_ n5_ n6_; clear hb hbox hg; have hnb37 := NB103_104.out; have hnc37 := NB104_103.out; have hcz38_0 : w36.cell? ⟨gb103, 0, none⟩ = some (.int .i64 a0_0) := (blk_cell BK103.out 0).trans rfl; have hcz38_1 : w36.cell? ⟨gb103, 1, none⟩ = some (.bool a0_1) := (blk_cell BK103.out 1).trans rfl; have hcz38_2 : w36.cell? ⟨gb103, 2, none⟩ = some (.int .u64 a0_2) := (blk_cell BK103.out 2).trans rfl; have hcz38_3 : w36.cell? ⟨gb103, 3, none⟩ = some (.bool a0_3) := (blk_cell BK103.out 3).trans rfl; have hcz38_4 : w36.cell? ⟨gb103, 4, none⟩ = some (.int .u64 a0_4) := (blk_cell BK103.out 4).trans rfl; have hcz38_5 : w36.cell? ⟨gb103, 5, none⟩ = some (.slice A0_5 l0_5.length c0_5) := (blk_cell BK103.out 5).trans rfl; have hcz38_6 : w36.cell? ⟨gb103, 6, none⟩ = some (.int .u64 a0_6) := (blk_cell BK103.out 6).trans rfl; have hfz38_0 := blk_frozen BK103.out 0; have hfz38_1 := blk_frozen BK103.out 1; have hfz38_2 := blk_frozen BK103.out 2; have hfz38_3 := blk_frozen BK103.out 3; have hfz38_4 := blk_frozen BK103.out 4; have hfz38_5 := blk_frozen BK103.out 5; have hfz38_6 := blk_frozen BK103.out 6; have hcz39_0 : w36.cell? ⟨gb104, 0, none⟩ = some (.int .i64 a1_0) := (blk_cell BK104.out 0).trans rfl; have hcz39_1 : w36.cell? ⟨gb104, 1, none⟩ = some (.bool a1_1) := (blk_cell BK104.out 1).trans rfl; have hcz39_2 : w36.cell? ⟨gb104, 2, none⟩ = some (.int .u64 a1_2) := (blk_cell BK104.out 2).trans rfl; have hcz39_3 : w36.cell? ⟨gb104, 3, none⟩ = some (.bool a1_3) := (blk_cell BK104.out 3).trans rfl; have hcz39_4 : w36.cell? ⟨gb104, 4, none⟩ = some (.int .u64 a1_4) := (blk_cell BK104.out 4).trans rfl; have hcz39_5 : w36.cell? ⟨gb104, 5, none⟩ = some (.slice A1_5 l1_5.length c1_5) := (blk_cell BK104.out 5).trans rfl; have hcz39_6 : w36.cell? ⟨gb104, 6, none⟩ = some (.int .u64 a1_6) := (blk_cell BK104.out 6).trans rfl; have hfz39_0 := blk_frozen BK104.out 0; have hfz39_1 := blk_frozen BK104.out 1; have hfz39_2 := blk_frozen BK104.out 2; have hfz39_3 := blk_frozen BK104.out 3; have hfz39_4 := blk_frozen BK104.out 4; have hfz39_5 := blk_frozen BK104.out 5; have hfz39_6 := blk_frozen BK104.out 6) | ((with_reducible refine gate_callee (f := 34) rfl ?_); refine goesL_ (some 9) rfl rfl Try.func34 (by kernel_rfl) rfl #[.slice A0_5 l0_5.length c0_5, .slice A1_5 l1_5.length c1_5] rfl (by (try simp only [List.map_toArray, List.map_cons, List.map_nil]); first | done | rfl | (simp only [List.length_drop, List.length_take]; rfl)) ?_; (with_reducible refine (api_Pair.calls k _ _ l0_5 _ _ l1_5 true _ ?side1 ?side2 ?side3 ?side4 A3.out).mono ?_); (case side1 => repeat (first | exact (Kd.C_below HR0_5.out HB.out) | (with_reducible refine Kd.C_alloc ?_ _) | (with_reducible refine Kd.C_drewN ?_ _) | (with_reducible refine Kd.C_drew ?_))); (case side2 => exact HC0_5.out); (case side3 => repeat (first | exact (Kd.C_below HR1_5.out HB.out) | (with_reducible refine Kd.C_alloc ?_ _) | (with_reducible refine Kd.C_drewN ?_ _) | (with_reducible refine Kd.C_drew ?_))); (case side4 => exact HC1_5.out); rintro e w' ⟨rfl, ⟨nd, rfl⟩⟩; refine ⟨_, rfl, ?_⟩))
      go_ret
      exact ⟨by first | rfl | (simp [errW_none, errW_some] <;> rfl) | (simp [*, errW_none, errW_some] <;> rfl), by repeat (first | (with_reducible first | exact HB.out | apply below_alloc | apply pw_below_drewN | apply below_drew1 | refine below_set ?_ GE103.out | refine below_set ?_ GE104.out) | exact HB.out)⟩
  · replace c4 := Bool.eq_false_iff.mpr c4
    subst c4
    have H1 : (some false) = some r := by rw [if_neg (show ¬ (false = true) by decide)] at H; exact H
    clear H
    have H := H1
    clear H1
    obtain rfl := Option.some.inj H
    go_enter Try.func12, Try.ntmps12
    go_wp2_with (first | ((with_reducible refine gate_dst (N := 2) rfl ?_); refine box_event ?hg (N := 2) ?hd (cs := #[.int .i64 a0_0, .bool a0_1, .int .u64 a0_2, .bool a0_3, .int .u64 a0_4, .slice A0_5 l0_5.length c0_5, .int .u64 a0_6]) (t := 26) ?hr ?_; (case hd => rfl); (case hg => rfl); (case hr => first | (go_simp; done) | (go_simp; rfl)); intro gb103 hg w40 hbox hb; have n0_ := Aside0.mk (below_step (by repeat (first | (with_reducible first | exact HB.out | apply below_alloc | apply pw_below_drewN | apply below_drew1) | exact HB.out)) hb); have n1_ := Aside0.mk (hbox); have n2_ := Aside0.mk ((by rw [hg]; exact (below_size (by repeat (first | (with_reducible first | exact HB.out | apply below_alloc | apply pw_below_drewN | apply below_drew1) | exact HB.out))) : w.heap.size ≤ gb103)); have n3_ := Aside0.mk ((by rw [hg]; exact (below_size (by repeat (first | (with_reducible first | exact HB.out | apply below_alloc | apply pw_below_drewN | apply below_drew1) | exact HB.out))) : w.heap.size ≤ gb103)); clear HB; have HB := n0_; have BK103 := n1_; have GW103 := n2_; have GE103 := n3_; clear n0_ n1_ n2_ n3_; clear hb hbox hg) | ((with_reducible refine gate_dst (N := 3) rfl ?_); refine box_event ?hg (N := 3) ?hd (cs := #[.int .i64 a1_0, .bool a1_1, .int .u64 a1_2, .bool a1_3, .int .u64 a1_4, .slice A1_5 l1_5.length c1_5, .int .u64 a1_6]) (t := 26) ?hr ?_; (case hd => rfl); (case hg => rfl); (case hr => first | (go_simp; done) | (go_simp; rfl)); intro gb104 hg w41 hbox hb; have n0_ := Aside0.mk (blk_below (g := gb103) (o := .cells #[.int .i64 a0_0, .bool a0_1, .int .u64 a0_2, .bool a0_3, .int .u64 a0_4, .slice A0_5 l0_5.length c0_5, .int .u64 a0_6] 26 (0, 0)) (by (with_reducible repeat (first | refine blk_drewN ?_ _ | refine blk_drew ?_ | refine blk_alloc ?_ _)); exact BK103.out) hb); have n1_ := Aside0.mk (below_step (by repeat (first | (with_reducible first | exact HB.out | apply below_alloc | apply pw_below_drewN | apply below_drew1 | refine below_set ?_ GE103.out) | exact HB.out)) hb); have n2_ := Aside0.mk (hbox); have n3_ := Aside0.mk ((by rw [hg]; exact (below_size (by repeat (first | (with_reducible first | exact HB.out | apply below_alloc | apply pw_below_drewN | apply below_drew1 | refine below_set ?_ GE103.out) | exact HB.out))) : w.heap.size ≤ gb104)); have n4_ := Aside0.mk ((by rw [hg]; exact (below_size (by repeat (first | (with_reducible first | exact HB.out | apply below_alloc | apply pw_below_drewN | apply below_drew1 | refine below_set ?_ GE103.out) | exact HB.out))) : w.heap.size ≤ gb104)); have n5_ := Aside0.mk ((by rw [hg]; exact Nat.ne_of_lt (blk_lt (g := gb103) (o := .cells #[.int .i64 a0_0, .bool a0_1, .int .u64 a0_2, .bool a0_3, .int .u64 a0_4, .slice A0_5 l0_5.length c0_5, .int .u64 a0_6] 26 (0, 0)) (by (with_reducible repeat (first | refine blk_drewN ?_ _ | refine blk_drew ?_ | refine blk_alloc ?_ _)); exact BK103.out)) : gb103 ≠ gb104)); have n6_ := Aside0.mk ((by rw [hg]; exact Nat.ne_of_gt (blk_lt (g := gb103) (o := .cells #[.int .i64 a0_0, .bool a0_1, .int .u64 a0_2, .bool a0_3, .int .u64 a0_4, .slice A0_5 l0_5.length c0_5, .int .u64 a0_6] 26 (0, 0)) (by (with_reducible repeat (first | refine blk_drewN ?_ _ | refine blk_drew ?_ | refine blk_alloc ?_ _)); exact BK103.out)) : gb104 ≠ gb103)); clear BK103; clear HB; have BK103 := n0_; have HB := n1_; have BK104 := n2_; have GW104 := n3_; have GE104 := n4_; have NB103_104 := n5_; have NB104_103 := n6_; clear n0_ n1_ n2_ n3_ n4_ n5_ n6_; clear hb hbox hg; have hnb42 := NB103_104.out; have hnc42 := NB104_103.out; have hcz43_0 : w41.cell? ⟨gb103, 0, none⟩ = some (.int .i64 a0_0) := (blk_cell BK103.out 0).trans rfl; have hcz43_1 : w41.cell? ⟨gb103, 1, none⟩ = some (.bool a0_1) := (blk_cell BK103.out 1).trans rfl; have hcz43_2 : w41.cell? ⟨gb103, 2, none⟩ = some (.int .u64 a0_2) := (blk_cell BK103.out 2).trans rfl; have hcz43_3 : w41.cell? ⟨gb103, 3, none⟩ = some (.bool a0_3) := (blk_cell BK103.out 3).trans rfl; have hcz43_4 : w41.cell? ⟨gb103, 4, none⟩ = some (.int .u64 a0_4) := (blk_cell BK103.out 4).trans rfl; have hcz43_5 : w41.cell? ⟨gb103, 5, none⟩ = some (.slice A0_5 l0_5.length c0_5) := (blk_cell BK103.out 5).trans rfl; have hcz43_6 : w41.cell? ⟨gb103, 6, none⟩ = some (.int .u64 a0_6) := (blk_cell BK103.out 6).trans rfl; have hfz43_0 := blk_frozen BK103.out 0; have hfz43_1 := blk_frozen BK103.out 1; have hfz43_2 := blk_frozen BK103.out 2; have hfz43_3 := blk_frozen BK103.out 3; have hfz43_4 := blk_frozen BK103.out 4; have hfz43_5 := blk_frozen BK103.out 5; have hfz43_6 := blk_frozen BK103.out 6; have hcz44_0 : w41.cell? ⟨gb104, 0, none⟩ = some (.int .i64 a1_0) := (blk_cell BK104.out 0).trans rfl; have hcz44_1 : w41.cell? ⟨gb104, 1, none⟩ = some (.bool a1_1) := (blk_cell BK104.out 1).trans rfl; have hcz44_2 : w41.cell? ⟨gb104, 2, none⟩ = some (.int .u64 a1_2) := (blk_cell BK104.out 2).trans rfl; have hcz44_3 : w41.cell? ⟨gb104, 3, none⟩ = some (.bool a1_3) := (blk_cell BK104.out 3).trans rfl; have hcz44_4 : w41.cell? ⟨gb104, 4, none⟩ = some (.int .u64 a1_4) := (blk_cell BK104.out 4).trans rfl; have hcz44_5 : w41.cell? ⟨gb104, 5, none⟩ = some (.slice A1_5 l1_5.length c1_5) := (blk_cell BK104.out 5).trans rfl; have hcz44_6 : w41.cell? ⟨gb104, 6, none⟩ = some (.int .u64 a1_6) := (blk_cell BK104.out 6).trans rfl; have hfz44_0 := blk_frozen BK104.out 0; have hfz44_1 := blk_frozen BK104.out 1; have hfz44_2 := blk_frozen BK104.out 2; have hfz44_3 := blk_frozen BK104.out 3; have hfz44_4 := blk_frozen BK104.out 4; have hfz44_5 := blk_frozen BK104.out 5; have hfz44_6 := blk_frozen BK104.out 6) | ((with_reducible refine gate_callee (f := 34) rfl ?_); refine goesL_ (some 9) rfl rfl Try.func34 (by kernel_rfl) rfl #[.slice A0_5 l0_5.length c0_5, .slice A1_5 l1_5.length c1_5] rfl (by (try simp only [List.map_toArray, List.map_cons, List.map_nil]); first | done | rfl | (simp only [List.length_drop, List.length_take]; rfl)) ?_; (with_reducible refine (api_Pair.calls k _ _ l0_5 _ _ l1_5 false _ ?side1 ?side2 ?side3 ?side4 A3.out).mono ?_); (case side1 => repeat (first | exact (Kd.C_below HR0_5.out HB.out) | (with_reducible refine Kd.C_alloc ?_ _) | (with_reducible refine Kd.C_drewN ?_ _) | (with_reducible refine Kd.C_drew ?_))); (case side2 => exact HC0_5.out); (case side3 => repeat (first | exact (Kd.C_below HR1_5.out HB.out) | (with_reducible refine Kd.C_alloc ?_ _) | (with_reducible refine Kd.C_drewN ?_ _) | (with_reducible refine Kd.C_drew ?_))); (case side4 => exact HC1_5.out); rintro e w' ⟨rfl, ⟨nd, rfl⟩⟩; refine ⟨_, rfl, ?_⟩))
    go_ret
    exact ⟨by first | rfl | (simp [errW_none, errW_some] <;> rfl) | (simp [*, errW_none, errW_some] <;> rfl), by repeat (first | (with_reducible first | exact HB.out | apply below_alloc | apply pw_below_drewN | apply below_drew1 | refine below_set ?_ GE103.out | refine below_set ?_ GE104.out) | exact HB.out)⟩

end Go.Proofs.Ytngocadnbpdnoaa.Q
namespace Go.Proofs.Ytngocadnbpdnoaa.Mo
open Go Go.Maps Go.RowKit Go.Proofs.Ytngocadnbpdnoaa.Srt Go.Proofs.Ytngocadnbpdnoaa.Q Go.Proofs.YtngocadnbpdnoaaW.PrintWords Go.Proofs.YtngocadnbpdnoaaW.PrintLast Go.Proofs.YtngocadnbpdnoaaW.PrintMore
set_option linter.unusedVariables false
set_option linter.unusedSimpArgs false
instance decSP : DecidableEq SP := fun a b => decidable_of_iff (a.f0 = b.f0 ∧ a.f1 = b.f1) (by cases a; cases b; simp)
theorem rd_get {xs : List SP} {i : Nat} (h : i < xs.length) : rd_T90 xs (i : Int) = xs[i] := by
  unfold rd_T90
  simp [List.getD_eq_getElem?_getD, h]
theorem pair_ne {a b : SP} : ((!(a.f0 == b.f0)) || (!(a.f1 == b.f1))) = true ↔ ¬ a = b := by
  rcases a with ⟨a0, a1⟩
  rcases b with ⟨b0, b1⟩
  by_cases h0 : a0 = b0 <;> by_cases h1 : a1 = b1 <;> simp [h0, h1]
theorem drop_iff {x0 x1 : List SP} {i : Nat} (h0 : i < x0.length) (h1 : i < x1.length) : x0.drop i = x1.drop i ↔ x0[i] = x1[i] ∧ x0.drop (i + 1) = x1.drop (i + 1) := by
  rw [List.drop_eq_getElem_cons h0, List.drop_eq_getElem_cons h1, List.cons.injEq]
theorem samP_l0 (x0 x1 : List SP) (hl : x0.length = x1.length) (hm : x0.length ≤ 4398046511104) : ∀ m i : Nat, i + m = x0.length → api_Pair.l0 (m + 1) x0 x1 (x0.length : Int) (i : Int) = some (decide (x0.drop i = x1.drop i))
  | 0, i, e => by
    unfold api_Pair.l0
    rw [if_neg (by omega)]
    rw [List.drop_eq_nil_of_le (by omega), List.drop_eq_nil_of_le (by omega)]; simp
  | m + 1, i, e => by
    unfold api_Pair.l0
    have h0 : i < x0.length := by omega
    have h1 : i < x1.length := by omega
    rw [if_pos (by omega), if_pos (by omega), if_pos (by omega), if_pos (by omega), rd_get h0, rd_get h1]
    by_cases hd : x0[i] = x1[i]
    · rw [if_neg (by rw [pair_ne]; simpa using hd), show wrap64 ((i : Int) + 1) = ((i + 1 : Nat) : Int) by unfold wrap64; omega, samP_l0 x0 x1 hl hm m (i + 1) (by omega)]
      simp [drop_iff h0 h1, hd]
    · rw [if_pos (pair_ne.2 hd)]
      simp [drop_iff h0 h1, hd]
theorem samP_f (x0 x1 : List SP) (hm : x0.length ≤ 4398046511104) : ∃ k, api_Pair.f k x0 x1 = some (decide (x0 = x1)) := by
  unfold api_Pair.f
  by_cases hl : x0.length = x1.length
  · exact ⟨x0.length + 1, by rw [if_pos (by omega)]; simpa using samP_l0 x0 x1 hl hm x0.length 0 (by omega)⟩
  · exact ⟨0, by rw [if_neg (by omega)]; simp; intro e; exact hl (by rw [e])⟩
theorem samR_l0 (x0 x1 : List SP) (hl : x0.length = x1.length) (hm : x0.length ≤ 4398046511104) : ∀ m i : Nat, i + m = x0.length → shutterref06_SamePairs.l0 (m + 1) x0 x1 (i : Int) = some (decide (x0.drop i = x1.drop i))
  | 0, i, e => by
    unfold shutterref06_SamePairs.l0
    rw [if_neg (by omega)]
    rw [List.drop_eq_nil_of_le (by omega), List.drop_eq_nil_of_le (by omega)]; simp
  | m + 1, i, e => by
    unfold shutterref06_SamePairs.l0
    have h0 : i < x0.length := by omega
    have h1 : i < x1.length := by omega
    rw [if_pos (by omega), if_pos (by omega), if_pos (by omega), rd_get h0, rd_get h1]
    by_cases hd : x0[i] = x1[i]
    · rw [if_neg (by rw [pair_ne]; simpa using hd), show wrap64 ((i : Int) + 1) = ((i + 1 : Nat) : Int) by unfold wrap64; omega, samR_l0 x0 x1 hl hm m (i + 1) (by omega)]
      simp [drop_iff h0 h1, hd]
    · rw [if_pos (pair_ne.2 hd)]
      simp [drop_iff h0 h1, hd]
theorem samR_f (x0 x1 : List SP) (hm : x0.length ≤ 4398046511104) : ∃ k, shutterref06_SamePairs.f k x0 x1 = some (decide (x0 = x1)) := by
  unfold shutterref06_SamePairs.f
  by_cases hl : x0.length = x1.length
  · exact ⟨x0.length + 1, by rw [if_pos (by omega)]; simpa using samR_l0 x0 x1 hl hm x0.length 0 (by omega)⟩
  · exact ⟨0, by rw [if_neg (by omega)]; simp; intro e; exact hl (by rw [e])⟩
abbrev AnS := S26
def anV (x : AnS) (A : Option Addr) (c : Nat) : Value := .agg #[.int .i64 x.f0, .bool x.f1, .int .u64 x.f2, .bool x.f3, .int .u64 x.f4, .slice A x.f5.length c, .int .u64 x.f6]
def anEq (x y : AnS) : Bool := decide (x.f5 = y.f5) && (x.f0 == y.f0) && (x.f1 == y.f1) && (x.f2 == y.f2) && (x.f3 == y.f3) && (x.f4 == y.f4) && (x.f6 == y.f6)
theorem ifs {p : Prop} [Decidable p] {a b : Bool} : (if p then (some a) else some false) = some (decide p && a) := by by_cases h : p <;> simp [h]
theorem sameAns_c (x y : AnS) (A B : Option Addr) (c d : Nat) (w : World) (hA : Kd.C k90 w A x.f5.length x.f5) (hc : x.f5.length ≤ c) (hB : Kd.C k90 w B y.f5.length y.f5) (hd : y.f5.length ≤ d) (hm : x.f5.length ≤ 4398046511104) :
    Calls Try.prog 12 #[anV x A c, anV y B d] w fun e w' => e = .returned (.bool (anEq x y)) ∧ Below w.heap.size w w' := by
  obtain ⟨k, hk⟩ := samP_f x.f5 y.f5 hm
  refine model_SameAnswer.calls k _ _ _ _ _ A c x.f5 _ _ _ _ _ _ B d y.f5 _ _ w hA hc hB hd ?_
  unfold model_SameAnswer.f
  rw [hk]
  simp only [Option.bind_some]
  simp only [anEq, ifs, decide_eq_true_eq, Bool.and_assoc]
  congr 1
  by_cases h0 : x.f5 = y.f5 <;> by_cases h1 : x.f0 = y.f0 <;> by_cases h2 : x.f1 = y.f1 <;> by_cases h3 : x.f2 = y.f2 <;> by_cases h4 : x.f3 = y.f3 <;> by_cases h5 : x.f4 = y.f4 <;> simp [h0, h1, h2, h3, h4, h5]
theorem sameAnsR_c (x y : AnS) (A B : Option Addr) (c d : Nat) (w : World) (hA : Kd.C k90 w A x.f5.length x.f5) (hc : x.f5.length ≤ c) (hB : Kd.C k90 w B y.f5.length y.f5) (hd : y.f5.length ≤ d) (hm : x.f5.length ≤ 4398046511104) :
    Calls Try.prog 13 #[anV x A c, anV y B d] w fun e w' => e = .returned (.bool (anEq x y)) ∧ Below w.heap.size w w' := by
  obtain ⟨k, hk⟩ := samR_f x.f5 y.f5 hm
  refine shutterref06_SameAnswer.calls k _ _ _ _ _ A c x.f5 _ _ _ _ _ _ B d y.f5 _ _ w hA hc hB hd ?_
  unfold shutterref06_SameAnswer.f
  rw [hk]
  simp only [Option.bind_some]
  simp only [anEq, ifs, decide_eq_true_eq, Bool.and_assoc]
  congr 1
  by_cases h0 : x.f5 = y.f5 <;> by_cases h1 : x.f0 = y.f0 <;> by_cases h2 : x.f1 = y.f1 <;> by_cases h3 : x.f2 = y.f2 <;> by_cases h4 : x.f3 = y.f3 <;> by_cases h5 : x.f4 = y.f4 <;> simp [h0, h1, h2, h3, h4, h5]
end Go.Proofs.Ytngocadnbpdnoaa.Mo
/-! From the reading of an argument as data to what its memory holds, kind by kind ('Kd'); with a bound by the reading's bulk. -/
namespace Go.Proofs.Ytngocadnbpdnoaa.Open
open Go.RowKit Go.Proofs.YtngocadnbpdnoaaW.PrintWords Go.ChangeShapes Go.WideShapes
set_option linter.unusedVariables false
/-- Whatever is read as data of type t is of kind d, of a size B that the reading's bulk bounds, and meets wf. -/
def Opens {α : Type} (P : Program) (d : Kd α) (t : TypeId) (B : α → Nat) (wf : α → Prop) : Prop :=
  ∀ {H : Type} {enc : TypeId × Value → H} {w : World} {base : Nat} {held : Bool} {fuel : Nat} {cs : List Value} {x : DataW H × List MemPlace},
    DataW.trod enc P w base (fun _ => true) held fuel t cs = some x → ∃ a, d.K w a cs ∧ B a ≤ Rows.uptoBulk x.1 ∧ wf a
theorem bulk_pos {H : Type} (d : DataW H) : 1 ≤ Rows.uptoBulk d := by
  cases d with
  | lit l => cases l <;> simp [Rows.uptoBulk]
  | _ => simp [Rows.uptoBulk]
theorem opens_int {P : Program} {t : TypeId} {k : IntKind} (ht : P.underlying t = some (.int k)) : Opens P (Kd.int k) t (fun _ => 1) (fun n => (Lit.int k n).wf = true) := by
  intro H enc w base held fuel cs x h
  obtain ⟨n, rfl, rfl, hw⟩ := DataW.trod_int ht h
  exact ⟨n, rfl, bulk_pos _, hw⟩
theorem opens_bool {P : Program} {t : TypeId} (ht : P.underlying t = some .bool) : Opens P Kd.bool t (fun _ => 1) (fun _ => True) := by
  intro H enc w base held fuel cs x h
  obtain ⟨b, rfl, rfl⟩ := DataW.trod_bool ht h
  exact ⟨b, rfl, bulk_pos _, trivial⟩
theorem opens_string {P : Program} {t : TypeId} (ht : P.underlying t = some .string) : Opens P Kd.string t (fun s => s.size + 1) (fun s => s.size ≤ maxLen) := by
  intro H enc w base held fuel cs x h
  obtain ⟨s, rfl, rfl, hs⟩ := DataW.trod_string ht h
  exact ⟨s, rfl, by simp [Rows.uptoBulk], hs⟩
theorem bulkAll_sum {H : Type} (l : List (DataW H)) : Rows.uptoBulkAll l = (l.map Rows.uptoBulk).sum := by
  induction l with
  | nil => simp [Rows.uptoBulkAll]
  | cons a l ih => simp [Rows.uptoBulkAll, ih]
theorem cells_at {w : World} {base : Nat} {a : Addr} {n : Nat} {cs : List Value} (h : w.cells? base a n = some cs) : cs.length = n ∧ ∀ j u, cs[j]? = some u → w.cell? (a.add j) = some u := by
  obtain ⟨_, h1, h2⟩ := World.cells?_some h
  refine ⟨h1, fun j u hu => ?_⟩
  have hj : j < n := by have := (List.getElem?_eq_some_iff.1 hu).1; omega
  rw [h2 j hj, hu]
theorem sum_getD {α : Type} (B : α → Nat) (z : α) : ∀ (l : List α), (l.map B).sum = ((List.range l.length).map fun i => B (l.getD i z)).sum := by
  intro l
  congr 1
  apply List.ext_getElem
  · simp
  · intro i h1 h2
    have : i < l.length := by simpa using h1
    simp [List.getD_eq_getElem?_getD, List.getElem?_eq_getElem this]
theorem sum_le_sum {α : Type} {f g : α → Nat} : ∀ (l : List α), (∀ x ∈ l, f x ≤ g x) → (l.map f).sum ≤ (l.map g).sum
  | [], _ => by simp
  | a :: l, h => by
    have h1 := h a (by simp)
    have h2 := sum_le_sum l (fun x hx => h x (by simp [hx]))
    simp only [List.map_cons, List.sum_cons]
    omega
theorem opens_slice {α : Type} {P : Program} {d : Kd α} {t e : TypeId} {B : α → Nat} {wf : α → Prop} (ht : P.underlying t = some (.slice e)) (hsz : P.cellsOf e = d.sz) (hd : Opens P d e B wf) :
    Opens P (Kd.slice e d) t (fun xs => (xs.map B).sum + 1) (fun xs => ∀ x ∈ xs, wf x) := by
  intro H enc w base held fuel cs x h
  rcases Deep.open_slice ht h with ⟨rfl, rfl⟩ | ⟨a, len, cap, m, n, D, Pl, rfl, hb, hl, hm, hmm, rfl, hel⟩
  · exact ⟨[], ⟨none, 0, rfl, Nat.le_refl _, rfl, by simp, fun h => absurd h (by simp)⟩, bulk_pos _, fun x hx => by cases hx⟩
  · rw [if_pos rfl] at hmm
    subst hmm
    have hx : ∀ i, i < len → ∃ y : α, (∃ c, c.length = d.sz ∧ d.K w y c ∧ ∀ j u, c[j]? = some u → w.cell? (a.add (i * d.sz + j)) = some u) ∧ B y ≤ Rows.uptoBulk (D i) ∧ wf y := by
      intro i hi
      obtain ⟨cs', hc, ht'⟩ := hel i (by omega)
      obtain ⟨y, hk, hB, hw⟩ := hd ht'
      obtain ⟨h1, h2⟩ := cells_at hc
      rw [hsz] at h1
      refine ⟨y, ⟨cs', h1, hk, fun j u hu => ?_⟩, hB, hw⟩
      rw [← Deep.add_add, ← hsz]
      exact h2 j u hu
    rcases Nat.eq_zero_or_pos len with h0 | h0
    · subst h0
      exact ⟨[], ⟨some a, m, rfl, Nat.zero_le _, rfl, by simp, fun h => absurd h (by simp)⟩, bulk_pos _, fun x hx => by cases hx⟩
    haveI : Inhabited α := ⟨(hx 0 h0).choose⟩
    obtain ⟨f, hf⟩ := Deep.choose_lt hx
    refine ⟨(List.range len).map f, ⟨some a, m, ?_, by simpa using hl, ?_⟩, ?_, ?_⟩
    · simp
    · refine ⟨by simp, by simp; unfold maxLen at hm; omega, fun _ => ⟨a, rfl, fun j p hj => ?_⟩⟩
      rw [List.getElem?_map] at hj
      have hjl : j < len := by
        rcases Nat.lt_or_ge j len with h | h
        · exact h
        · rw [List.getElem?_eq_none (by simpa using h)] at hj
          cases hj
      rw [List.getElem?_range hjl] at hj
      obtain rfl : f j = p := by simpa using hj
      obtain ⟨⟨c, h1, h2, h3⟩, _⟩ := hf j hjl
      exact ⟨c, h1, h2, h3⟩
    · simp only [Rows.uptoBulk, bulkAll_sum, List.map_map]
      have := sum_le_sum (f := fun i => B (f i)) (g := fun i => Rows.uptoBulk (D i)) (List.range len) (fun i hi => (hf i (by simpa using hi)).2.1)
      simp only [Function.comp_def]
      omega
    · intro y hy
      obtain ⟨i, hi, rfl⟩ := List.mem_map.1 hy
      exact (hf i (by simpa using hi)).2.2
/-- The fields fs of a struct, from the offset off on. -/
def OpensFs {α : Type} (P : Program) (d : Kd α) (fs : List Field) (off : Nat) (B : α → Nat) (wf : α → Prop) : Prop :=
  ∀ {H : Type} {enc : TypeId × Value → H} {w : World} {base : Nat} {held : Bool} {n : Nat} {cs : List Value} {xs : List (DataW H × List MemPlace)},
    xs.length = fs.length → cs.length = off + d.sz → (∀ (i : Nat) (f : Field), fs[i]? = some f → DataW.trod enc P w base (fun _ => true) held n f.type ((cs.drop f.offset).take (P.cellsOf f.type)) = xs[i]?) →
    ∃ a, d.K w a (cs.drop off) ∧ B a ≤ (xs.map fun x => Rows.uptoBulk x.1).sum ∧ wf a
theorem opens_last {α : Type} {P : Program} {d : Kd α} {f : Field} {off : Nat} {B : α → Nat} {wf : α → Prop} (hd : Opens P d f.type B wf) (ho : f.offset = off) (hsz : P.cellsOf f.type = d.sz) : OpensFs P d [f] off B wf := by
  intro H enc w base held n cs xs hl hc h
  match xs, hl with
  | [y], _ =>
    have h0 := h 0 f rfl
    rw [ho, hsz, List.take_of_length_le (by rw [List.length_drop]; omega)] at h0
    obtain ⟨a, h1, h2, h3⟩ := hd (x := y) h0
    exact ⟨a, h1, by simpa using h2, h3⟩
theorem opens_cons {α β : Type} {P : Program} {d : Kd α} {d' : Kd β} {f : Field} {fs : List Field} {off : Nat} {B : α → Nat} {B' : β → Nat} {wf : α → Prop} {wf' : β → Prop} (hd : Opens P d f.type B wf) (ho : f.offset = off) (hsz : P.cellsOf f.type = d.sz)
    (hs : OpensFs P d' fs (off + d.sz) B' wf') : OpensFs P (Kd.pair d d') (f :: fs) off (fun x => B x.1 + B' x.2) (fun x => wf x.1 ∧ wf' x.2) := by
  intro H enc w base held n cs xs hl hc h
  match xs, hl with
  | y :: ys, hl =>
    have hc' : cs.length = off + (d.sz + d'.sz) := hc
    have h0 := h 0 f rfl
    rw [ho, hsz] at h0
    obtain ⟨a, h1, h2, h3⟩ := hd (x := y) h0
    obtain ⟨b, h4, h5, h6⟩ := hs (enc := enc) (w := w) (base := base) (held := held) (n := n) (cs := cs) (xs := ys) (by simpa using hl) (by omega) (fun i g hg => h (i + 1) g hg)
    refine ⟨(a, b), ⟨_, _, ?_, h1, h4⟩, by simp only [List.map_cons, List.sum_cons]; omega, h3, h6⟩
    rw [← List.drop_drop, List.take_append_drop]
theorem opens_struct {α β : Type} {P : Program} {d : Kd α} {t : TypeId} {fs : Array Field} {B : α → Nat} {wf : α → Prop} (g : β → α) (g' : α → β) (hg : ∀ a, g (g' a) = a) (ht : P.underlying t = some (.struct fs)) (hsz : P.cellsOf t = d.sz) (hs : OpensFs P d fs.toList 0 B wf) :
    Opens P (Kd.iso d g) t (fun x => B (g x) + 1) (fun x => wf (g x)) := by
  intro H enc w base held fuel cs x h
  obtain ⟨xs, n, _, rfl, hl, hlen, hf⟩ := DataW.trod_struct ht h
  obtain ⟨a, h1, h2, h3⟩ := hs (enc := enc) (w := w) (base := base) (held := held) (n := n) (cs := cs) (xs := xs) (by simpa using hlen) (by omega) (fun i f hi => hf i f (by simpa using hi))
  refine ⟨g' a, ?_, ?_, ?_⟩
  · show d.K w (g (g' a)) cs
    rw [hg]
    simpa using h1
  · show B (g (g' a)) + 1 ≤ _
    rw [hg]
    simp only [Rows.uptoBulk, bulkAll_sum, List.map_map]
    simp only [Function.comp_def]
    omega
  · show wf (g (g' a))
    rw [hg]
    exact h3
end Go.Proofs.Ytngocadnbpdnoaa.Open
namespace Go.Proofs.Ytngocadnbpdnoaa.Mo
open Go Go.RowKit Go.Proofs.Ytngocadnbpdnoaa.Q Go.Proofs.YtngocadnbpdnoaaW.PrintWords Go.Proofs.YtngocadnbpdnoaaW.PrintLast Go.Proofs.YtngocadnbpdnoaaW.PrintMore Go.Proofs.Ytngocadnbpdnoaa.Open
set_option linter.unusedVariables false
def wfP (p : SP) : Prop := (Lit.int .u64 p.f0).wf = true ∧ (Lit.int .u64 p.f1).wf = true
def BP : SP → Nat := fun x => 1 + 1 + 1
theorem opensP : Opens Try.prog k90 90 BP wfP := by
  intro H enc w base held fuel cs x h
  obtain ⟨a, h1, h2, h3⟩ := opens_struct (g := fun x : SP => (x.f0, x.f1)) (fun a => ⟨a.1, a.2⟩) (fun _ => rfl) Try.underlying90 (by kernel_rfl) (opens_cons (opens_int Try.underlying23) rfl (by kernel_rfl) (opens_last (opens_int Try.underlying23) rfl (by kernel_rfl))) h
  exact ⟨a, h1, h2, h3⟩
def wfA (a : AnS) : Prop := ((Lit.int .i64 a.f0).wf = true ∧ True ∧ (Lit.int .u64 a.f2).wf = true ∧ True ∧ (Lit.int .u64 a.f4).wf = true ∧ (∀ x ∈ a.f5, wfP x) ∧ (Lit.int .u64 a.f6).wf = true)
def BA : AnS → Nat := fun a => 1 + (1 + (1 + (1 + (1 + (((a.f5.map BP).sum + 1) + 1))))) + 1
theorem opensA : Opens Try.prog k26 26 BA wfA := by
  intro H enc w base held fuel cs x h
  obtain ⟨a, h1, h2, h3⟩ := opens_struct (g := fun x : AnS => (x.f0, x.f1, x.f2, x.f3, x.f4, x.f5, x.f6)) (fun a => ⟨a.1, a.2.1, a.2.2.1, a.2.2.2.1, a.2.2.2.2.1, a.2.2.2.2.2.1, a.2.2.2.2.2.2⟩) (fun _ => rfl) Try.underlying26 (by kernel_rfl)
    (opens_cons (opens_int Try.underlying22) rfl (by kernel_rfl) (opens_cons (opens_bool Try.underlying4) rfl (by kernel_rfl) (opens_cons (opens_int Try.underlying23) rfl (by kernel_rfl) (opens_cons (opens_bool Try.underlying4) rfl (by kernel_rfl) (opens_cons (opens_int Try.underlying23) rfl (by kernel_rfl) (opens_cons (opens_slice Try.underlying24 (by kernel_rfl) opensP) rfl (by kernel_rfl) (opens_last (opens_int Try.underlying23) rfl (by kernel_rfl)))))))) h
  exact ⟨a, h1, h2, h3⟩
theorem BP_sum (l : List SP) : (l.map BP).sum = 3 * l.length := by
  induction l with
  | nil => rfl
  | cons a l ih => simp only [List.map_cons, List.sum_cons, ih, List.length_cons, BP]; omega
theorem BA_len (a : AnS) : a.f5.length ≤ BA a := by
  unfold BA
  rw [BP_sum]
  omega
end Go.Proofs.Ytngocadnbpdnoaa.Mo
namespace Go.Proofs.Ytngocadnbpdnoaa.Mo
open Go Go.Maps Go.RowKit Go.Proofs.Ytngocadnbpdnoaa.Srt Go.Proofs.Ytngocadnbpdnoaa.Q Go.Proofs.YtngocadnbpdnoaaW.PrintWords Go.Proofs.YtngocadnbpdnoaaW.PrintLast Go.Proofs.YtngocadnbpdnoaaW.PrintMore
set_option linter.unusedVariables false
set_option linter.unusedSimpArgs false
def ansS (d : AnsD) : AnS := ⟨d.e, d.fo, d.v, d.dn, d.h, toS d.ps, d.c⟩
/-- Do's law for one operation and handle: what it does to a state, and what it tells. -/
def DoC (o : OpS) (hdl : Int) (st : MS → MS × AnsD) : Prop :=
  ∀ (f : Nat → Option PL) (N gp bn bh : Nat) (multi : Int) (now : PL) (held : List (Int × PL)) (A : Option Addr) (c : Nat) (w : World), PM w f N gp bn bh multi now held → Fro w f N → N ≤ 1099511627776 →
    Calls Try.prog 15 #[.pointer (some ⟨gp, 0, none⟩), .agg (opC o A c), .int .u64 hdl] w (DoPost w f (N + 1) gp bn bh (st ⟨multi, now, held⟩).1 (st ⟨multi, now, held⟩).2)
theorem op_cells {w : World} {g : Nat} {o : OpS} {A : Option Addr} {c : Nat} (hb : w.heap[g]? = some (.cells (opC o A c) 39 (0, 0))) :
    w.cell? ⟨g, 0, none⟩ = some (.int .u8 o.f0) ∧ w.cell? ⟨g, 1, none⟩ = some (.int .u64 o.f1) ∧ w.cell? ⟨g, 2, none⟩ = some (.int .u64 o.f2) ∧ w.cell? ⟨g, 3, none⟩ = some (.int .u64 o.f3) ∧ w.cell? ⟨g, 4, none⟩ = some (.int .u64 o.f4) ∧ w.cell? ⟨g, 5, none⟩ = some (.bool o.f5.f0) ∧ w.cell? ⟨g, 6, none⟩ = some (.int .i64 o.f5.f1) ∧ w.cell? ⟨g, 7, none⟩ = some (.int .i64 o.f5.f2) ∧ w.cell? ⟨g, 8, none⟩ = some (.slice A o.f6.length c) ∧ w.cell? ⟨g, 9, none⟩ = some (.int .u64 o.f7) ∧ w.cell? ⟨g, 10, none⟩ = some (.int .u64 o.f8) := by
  refine ⟨?_, ?_, ?_, ?_, ?_, ?_, ?_, ?_, ?_, ?_, ?_⟩ <;> (rw [blk_cell hb]; rfl)
/-- The worlds of Take: behind its boxes. -/
def tkW (w : World) (o : OpS) (A : Option Addr) (c : Nat) (a : AnS) (B : Option Addr) (d : Nat) : World := (w.alloc (.cells (opC o A c) 39)).alloc (.cells (ansC a.f0 a.f1 a.f2 a.f3 a.f4 (.slice B a.f5.length d) a.f6) 26)
theorem tkW_below (w : World) (o : OpS) (A : Option Addr) (c : Nat) (a : AnS) (B : Option Addr) (d : Nat) : Below w.heap.size w (tkW w o A c a B d) := below_alloc (below_alloc (Below.refl _ _) _) _
theorem tkW_size (w : World) (o : OpS) (A : Option Addr) (c : Nat) (a : AnS) (B : Option Addr) (d : Nat) : (tkW w o A c a B d).heap.size = w.heap.size + 2 := by simp [tkW]
theorem tkW_op (w : World) (o : OpS) (A : Option Addr) (c : Nat) (a : AnS) (B : Option Addr) (d : Nat) : (tkW w o A c a B d).heap[w.heap.size]? = some (.cells (opC o A c) 39 (0, 0)) := by
  have h := heap_alloc_new w (.cells (opC o A c) 39)
  have hl : w.heap.size < (w.alloc (.cells (opC o A c) 39)).heap.size := by simp
  exact ((below_alloc (Below.refl _ (w.alloc (.cells (opC o A c) 39))) (.cells (ansC a.f0 a.f1 a.f2 a.f3 a.f4 (.slice B a.f5.length d) a.f6) 26)).block _ hl).trans h
theorem tkW_ans (w : World) (o : OpS) (A : Option Addr) (c : Nat) (a : AnS) (B : Option Addr) (d : Nat) : (tkW w o A c a B d).heap[w.heap.size + 1]? = some (.cells (ansC a.f0 a.f1 a.f2 a.f3 a.f4 (.slice B a.f5.length d) a.f6) 26 (0, 0)) := by
  have h := heap_alloc_new (w.alloc (.cells (opC o A c) 39)) (.cells (ansC a.f0 a.f1 a.f2 a.f3 a.f4 (.slice B a.f5.length d) a.f6) 26)
  simpa [tkW] using h
/-- The cells of both boxes. -/
def TkS (g : Nat) (o : OpS) (A : Option Addr) (c : Nat) (a : AnS) (B : Option Addr) (d : Nat) (w' : World) : Prop :=
  w'.heap[g]? = some (.cells (opC o A c) 39 (0, 0)) ∧ w'.heap[g + 1]? = some (.cells (ansC a.f0 a.f1 a.f2 a.f3 a.f4 (.slice B a.f5.length d) a.f6) 26 (0, 0)) ∧ Kd.C k90 w' B a.f5.length a.f5
theorem Below.low {w W : World} {n : Nat} (h : Below n w W) (m : Nat) (hm : m ≤ n) : Below m w W := h.mono hm
end Go.Proofs.Ytngocadnbpdnoaa.Mo
namespace Go.Proofs.Ytngocadnbpdnoaa.Mo
open Go Go.Maps Go.RowKit Go.Proofs.Ytngocadnbpdnoaa.Srt Go.Proofs.Ytngocadnbpdnoaa.Q Go.Proofs.YtngocadnbpdnoaaW.PrintWords Go.Proofs.YtngocadnbpdnoaaW.PrintLast Go.Proofs.YtngocadnbpdnoaaW.PrintMore
set_option linter.unusedVariables false
set_option linter.unusedSimpArgs false
theorem cells18 {w' : World} {g : Nat} {o : OpS} {A : Option Addr} {c : Nat} {a : AnS} {B : Option Addr} {d : Nat} (h1 : w'.heap[g]? = some (.cells (opC o A c) 39 (0, 0))) (h2 : w'.heap[g + 1]? = some (.cells (ansC a.f0 a.f1 a.f2 a.f3 a.f4 (.slice B a.f5.length d) a.f6) 26 (0, 0))) :
    w'.cell? ⟨g, 0, none⟩ = some (.int .u8 o.f0) ∧ w'.cell? ⟨g, 1, none⟩ = some (.int .u64 o.f1) ∧ w'.cell? ⟨g, 2, none⟩ = some (.int .u64 o.f2) ∧ w'.cell? ⟨g, 3, none⟩ = some (.int .u64 o.f3) ∧ w'.cell? ⟨g, 4, none⟩ = some (.int .u64 o.f4) ∧ w'.cell? ⟨g, 5, none⟩ = some (.bool o.f5.f0) ∧ w'.cell? ⟨g, 6, none⟩ = some (.int .i64 o.f5.f1) ∧ w'.cell? ⟨g, 7, none⟩ = some (.int .i64 o.f5.f2) ∧ w'.cell? ⟨g, 8, none⟩ = some (.slice A o.f6.length c) ∧ w'.cell? ⟨g, 9, none⟩ = some (.int .u64 o.f7) ∧ w'.cell? ⟨g, 10, none⟩ = some (.int .u64 o.f8) ∧ w'.cell? ⟨g + 1, 0, none⟩ = some (.int .i64 a.f0) ∧ w'.cell? ⟨g + 1, 1, none⟩ = some (.bool a.f1) ∧ w'.cell? ⟨g + 1, 2, none⟩ = some (.int .u64 a.f2) ∧ w'.cell? ⟨g + 1, 3, none⟩ = some (.bool a.f3) ∧ w'.cell? ⟨g + 1, 4, none⟩ = some (.int .u64 a.f4) ∧ w'.cell? ⟨g + 1, 5, none⟩ = some (.slice B a.f5.length d) ∧ w'.cell? ⟨g + 1, 6, none⟩ = some (.int .u64 a.f6) := by
  obtain ⟨q0, q1, q2, q3, q4, q5, q6, q7, q8, q9, q10⟩ := op_cells h1
  obtain ⟨p0, p1, p2, p3, p4, p5, p6⟩ := ans_cells h2
  exact ⟨q0, q1, q2, q3, q4, q5, q6, q7, q8, q9, q10, p0, p1, p2, p3, p4, p5, p6⟩
set_option maxRecDepth 100000 in
set_option maxHeartbeats 16000000 in
theorem take_rest (o : OpS) (a : AnS) (A B : Option Addr) (c d : Nat) (st : MS → MS × AnsD) (hD : DoC o 0 st) (f : Nat → Option PL) (N gp bn bh : Nat) (multi : Int) (now : PL) (held : List (Int × PL)) (w : World) (hM : PM w f N gp bn bh multi now held) (hF : Fro w f N) (hN : N + 1 ≤ 1099511627776)
    (hC : ∀ W', Kept w W' (fun k => k = bn ∨ k = bh) → Kd.C k90 W' B a.f5.length a.f5) (hd : a.f5.length ≤ d) (ho : ∀ k : Int, 2 ≤ k → k ≤ 10 → k ≠ 6 → (o.f0 == k) = false) (hps : (st ⟨multi, now, held⟩).2.ps.length ≤ 4398046511104) :
    Calls Try.prog 22 #[.pointer (some ⟨gp, 0, none⟩), .agg (opC o A c), anV a B d] w fun e w' => e = .returned (.bool (anEq (ansS (st ⟨multi, now, held⟩).2) a)) ∧ Left w w' f (N + 2) gp bn bh (if anEq (ansS (st ⟨multi, now, held⟩).2) a = true then (st ⟨multi, now, held⟩).1 else ⟨multi, now, held⟩).multi (if anEq (ansS (st ⟨multi, now, held⟩).2) a = true then (st ⟨multi, now, held⟩).1 else ⟨multi, now, held⟩).now (if anEq (ansS (st ⟨multi, now, held⟩).2) a = true then (st ⟨multi, now, held⟩).1 else ⟨multi, now, held⟩).held (fun k => k = bn ∨ k = bh) := by
  have hgl := hM.gl
  have hnl := hM.now.lt
  have hhl := hM.held.1.lt
  have q2 := ho 2 (by omega) (by omega) (by omega)
  have q3 := ho 3 (by omega) (by omega) (by omega)
  have q4 := ho 4 (by omega) (by omega) (by omega)
  have q5 := ho 5 (by omega) (by omega) (by omega)
  have q7 := ho 7 (by omega) (by omega) (by omega)
  have q8 := ho 8 (by omega) (by omega) (by omega)
  have q9 := ho 9 (by omega) (by omega) (by omega)
  have q10 := ho 10 (by omega) (by omega) (by omega)
  have hb0 := tkW_below w o A c a B d
  have hO0 := tkW_op w o A c a B d
  have hA0 := tkW_ans w o A c a B d
  have hk0 : (tkW w o A c a B d).cell? ⟨w.heap.size, 0, none⟩ = some (.int .u8 o.f0) := (op_cells hO0).1
  have hs0 := tkW_size w o A c a B d
  have HM := Lib.hid hM
  have HF := Lib.hid hF
  have HC := Lib.hid hC
  have HD := Lib.hid hD
  have HB0 := Lib.hid hb0
  have HO0 := Lib.hid hO0
  have HA0 := Lib.hid hA0
  clear hM hF hC hD ho hb0 hO0 hA0
  obtain ⟨s, hs⟩ : ∃ s : MS, s = ⟨multi, now, held⟩ := ⟨_, rfl⟩
  rw [← hs] at hps ⊢
  have HS := Lib.hid hs
  obtain ⟨D, hDD⟩ : ∃ D : AnsD, D = (st s).2 := ⟨_, rfl⟩
  rw [← hDD] at hps ⊢
  have HDD := Lib.hid hDD
  clear hs hDD
  go_enter Try.func22, Try.ntmps22
  go_upto_region 4 with fail
  change Code.wp _ _ _ _ (tkW w o A c a B d)
  obtain ⟨W0, hW0⟩ : ∃ W0, W0 = tkW w o A c a B d := ⟨_, rfl⟩
  rw [← hW0] at HB0 HO0 HA0 hk0 hs0 ⊢
  clear hW0
  go_upto_region 26 with (go_at_call 30; (refine (fork_c f N gp bn bh multi now held W0 (HM.out.kept (Kept.of_below HB0.out (fun _ => False)) (fun e => e) (fun e => e) (fun e => e)) (HF.out.kept (Kept.of_below HB0.out (fun _ => False)) (fun _ _ _ e => e)) (by omega)).mono ?_; rintro e w1 ⟨gq, bm, bi, rfl, f1, hE1, hP1, hF1, hB1, hq1, hq2, hq3⟩))
  have hbw1 : Below w.heap.size w w1 := HB0.out.trans (hB1.mono HB0.out.size)
  have HO1 : Hid (w1.drew.heap[w.heap.size]? = some (.cells (opC o A c) 39 (0, 0))) := Lib.hid ((hB1.block _ (by omega)).trans HO0.out)
  have HA1 : Hid (w1.drew.heap[w.heap.size + 1]? = some (.cells (ansC a.f0 a.f1 a.f2 a.f3 a.f4 (.slice B a.f5.length d) a.f6) 26 (0, 0))) := Lib.hid ((hB1.block _ (by omega)).trans HA0.out)
  have HP1 := Lib.hid hP1
  have HF1 := Lib.hid hF1
  have HE1 := Lib.hid hE1
  have HB1 := Lib.hid hbw1
  have HS1 : Hid (W0.heap.size ≤ w1.drew.heap.size) := Lib.hid hB1.size
  clear hP1 hF1 hE1 hbw1 hB1
  have hS1 := cells18 HO1.out HA1.out
  go_region_held3 (fun w' => w'.cell? ⟨w.heap.size, 0, none⟩ = some (.int .u8 o.f0) ∧ w'.cell? ⟨w.heap.size, 1, none⟩ = some (.int .u64 o.f1) ∧ w'.cell? ⟨w.heap.size, 2, none⟩ = some (.int .u64 o.f2) ∧ w'.cell? ⟨w.heap.size, 3, none⟩ = some (.int .u64 o.f3) ∧ w'.cell? ⟨w.heap.size, 4, none⟩ = some (.int .u64 o.f4) ∧ w'.cell? ⟨w.heap.size, 5, none⟩ = some (.bool o.f5.f0) ∧ w'.cell? ⟨w.heap.size, 6, none⟩ = some (.int .i64 o.f5.f1) ∧ w'.cell? ⟨w.heap.size, 7, none⟩ = some (.int .i64 o.f5.f2) ∧ w'.cell? ⟨w.heap.size, 8, none⟩ = some (.slice A o.f6.length c) ∧ w'.cell? ⟨w.heap.size, 9, none⟩ = some (.int .u64 o.f7) ∧ w'.cell? ⟨w.heap.size, 10, none⟩ = some (.int .u64 o.f8) ∧ w'.cell? ⟨w.heap.size + 1, 0, none⟩ = some (.int .i64 a.f0) ∧ w'.cell? ⟨w.heap.size + 1, 1, none⟩ = some (.bool a.f1) ∧ w'.cell? ⟨w.heap.size + 1, 2, none⟩ = some (.int .u64 a.f2) ∧ w'.cell? ⟨w.heap.size + 1, 3, none⟩ = some (.bool a.f3) ∧ w'.cell? ⟨w.heap.size + 1, 4, none⟩ = some (.int .u64 a.f4) ∧ w'.cell? ⟨w.heap.size + 1, 5, none⟩ = some (.slice B a.f5.length d) ∧ w'.cell? ⟨w.heap.size + 1, 6, none⟩ = some (.int .u64 a.f6))
    (first | go_keep | exact hS1 | exact cells18 HO2.out HA2.out | exact cells18 HO3.out HA3.out)
    (first
      | (go_at_call 15; refine (HD.out f1 N gq bm bi multi now held A c w1.drew (HP1.out.kept (Kept.of_below (below_drew (Below.refl _ w1)) (fun _ => False)) (fun e => e) (fun e => e) (fun e => e)) (HF1.out.kept (Kept.of_below (below_drew (Below.refl _ w1)) (fun _ => False)) (fun _ _ _ e => e)) (by omega)).mono ?_; rintro e w2 ⟨ps, rfl, hR2, f2, hE2, hP2, hF2, hK2'⟩
         rw [← HS.out, ← HDD.out] at hR2
         rw [← HS.out, ← HDD.out]
         obtain ⟨A2, c2, rfl⟩ := Kd.R_slice hR2
         have hK2 := hK2'.kept
         have hK1 : KO w w2 (fun _ => False) := (KO.of_below (below_drew HB1.out) (fun _ => False)).then_ hK2' (fun k e => .inr (by omega))
         have HO2 := Lib.hid (blk_kept (W2 := w2) HO1.out hK2 (show ¬ (w.heap.size = bm ∨ w.heap.size = bi) by omega))
         have HA2 := Lib.hid (blk_kept (W2 := w2) HA1.out hK2 (show ¬ (w.heap.size + 1 = bm ∨ w.heap.size + 1 = bi) by omega))
         have HF2 := Lib.hid hF2
         have HE2 := Lib.hid (HE1.out.trans hE2 HS1.out)
         have HK1 := Lib.hid hK1
         have HK12 := Lib.hid hK2.1
         have HR2 := Lib.hid hR2
         clear hF2 hE2 hK1 hR2 hP2 hK2 hK2')
      | (go_at_call 12; refine (sameAns_c (ansS D) a A2 B c2 d w2 (Kd.R_reads' HR2.out).2.2 (Kd.R_reads' HR2.out).2.1 (HC.out w2 (HK1.out.kept.mono (fun _ e => e.elim))) hd (by simp only [ansS, toS_length]; exact hps)).mono ?_; rintro e w3 ⟨rfl, hB3⟩
         have HO3 := Lib.hid ((hB3.block _ (blk_lt HO2.out)).trans HO2.out)
         have HA3 := Lib.hid ((hB3.block _ (blk_lt HA2.out)).trans HA2.out)
         have HK3 := Lib.hid (HK1.out.below hB3)
         have HB3 := Lib.hid hB3
         clear hB3))
  have hs3 : W0.heap.size ≤ w3.heap.size := Nat.le_trans HS1.out (Nat.le_trans HK12.out HB3.out.size)
  have he2 : Ext w.heap.size f f2 := ⟨HE2.out.1, fun b l e => (HE2.out.2 b l e).imp id (fun h => Nat.le_trans HB0.out.size h)⟩
  have hP3 : PM w3 f2 N gp bn bh multi now held := ((HM.out.kept HK3.out.kept (fun e => e) (fun e => e) (fun e => e)).ext he2 hnl hhl)
  have hF3 : Fro w3 f2 (N + 1) := HF2.out.kept (Kept.of_below HB3.out (fun _ => False)) (fun _ _ _ e => e)
  have HP3 := Lib.hid hP3
  have HF3 := Lib.hid hF3
  have HE3 := Lib.hid he2
  clear hP3 hF3 he2
  by_cases hq : anEq (ansS D) a = true
  case neg =>
    have hq' : anEq (ansS D) a = false := by simpa using hq
    clear hq
    rw [hq']
    go_wp2_with fail
    all_goals go_ret
    all_goals rw [HS.out]
    all_goals exact ⟨rfl, f2, HE3.out, HP3.out.mono (by omega), HF3.out.mono (by omega), HK3.out.mono (fun _ e => e.elim)⟩
  case pos =>
    rw [hq]
    have hS3 := cells18 HO3.out HA3.out
    go_split_ands
    go_wp2_with (go_at_call 15; refine (HD.out f2 (N + 1) gp bn bh multi now held A c w3 (HP3.out.mono (by omega)) HF3.out (by omega)).mono ?_; rintro e w4 ⟨ps4, rfl, hR4, f4, hE4, hP4, hF4, hK4⟩)
    all_goals go_ret
    all_goals rw [← HS.out] at hP4
    all_goals exact ⟨rfl, f4, HE3.out.trans hE4 HK3.out.kept.1, hP4, hF4, (HK3.out.mono (fun _ e => e.elim)).then_ hK4 (fun k e => .inl e)⟩
end Go.Proofs.Ytngocadnbpdnoaa.Mo
namespace Go.Proofs.Ytngocadnbpdnoaa.Mo
open Go Go.Maps Go.RowKit Go.Proofs.Ytngocadnbpdnoaa.Srt Go.Proofs.Ytngocadnbpdnoaa.Q Go.Proofs.YtngocadnbpdnoaaW.PrintWords Go.Proofs.YtngocadnbpdnoaaW.PrintLast Go.Proofs.YtngocadnbpdnoaaW.PrintMore
set_option linter.unusedVariables false
set_option linter.unusedSimpArgs false
set_option maxRecDepth 100000 in
set_option maxHeartbeats 8000000 in
theorem do_put (f : Nat → Option PL) (N gp bn bh : Nat) (multi : Int) (now : PL) (held : List (Int × PL)) (o : OpS) (A : Option Addr) (c : Nat) (hdl : Int) (w : World) (hM : PM w f N gp bn bh multi now held) (hF : Fro w f N) (hO : OpWf o) (hh : u64wf hdl) (hN : N ≤ 1099511627776) (hk : o.f0 = 2) :
    Calls Try.prog 15 #[.pointer (some ⟨gp, 0, none⟩), .agg (opC o A c), .int .u64 hdl] w (DoPost w f (N + 1) gp bn bh ⟨multi, put now o.f1 o.f2, held⟩ (foundD ⟨multi, now, held⟩ o)) := by
  have hgl := hM.gl
  have hnl := hM.now.lt
  have hhl := hM.held.1.lt
  have HM := Lib.hid hM
  have HF := Lib.hid hF
  have HO := Lib.hid hO
  have HU := Lib.hid hh
  have hb0 : Below w.heap.size w (doW w o A c).drew := below_drew (doW_below w o A c)
  have hP0 := hM.kept (Kept.of_below hb0 (fun _ => False)) (fun e => e) (fun e => e) (fun e => e)
  have HS : (fun w' : World => w'.cell? ⟨gp, 1, none⟩ = some (.map (some bn)) ∧ w'.cell? ⟨w.heap.size, 1, none⟩ = some (.int .u64 o.f1) ∧ (Instr.lookup 97 (.map (some bn)) (.int .u64 o.f1) true).run Try.prog w' = .ok (.tuple #[.int .u64 ((fnd now o.f1).getD 0), .bool (fnd now o.f1).isSome]) w') (doW w o A c).drew :=
    ⟨hP0.c1, by rw [blk_cell (w := (doW w o A c).drew) (doW_op w o A c)]; rfl, now_look hP0.now hO.key⟩
  obtain ⟨vh, hvh, hrunh⟩ := held_look (hM.held.kept (Kept.of_below (below_drew (below_alloc (below_drew (doW_below w o A c)) (.cells (ansC 0 (fnd now o.f1).isSome ((fnd now o.f1).getD 0) false 0 (.slice none 0 0) 0) 26))) (fun _ => False)) (fun e => e)) hO.han
  have hW2 : Below w.heap.size w ((doW w o A c).drew.alloc (.cells (ansC 0 (fnd now o.f1).isSome ((fnd now o.f1).getD 0) false 0 (.slice none 0 0) 0) 26)).drew := below_drew (below_alloc (below_drew (doW_below w o A c)) _)
  have hP2 := hM.kept (Kept.of_below hW2 (fun _ => False)) (fun e => e) (fun e => e) (fun e => e)
  have hs2 : (doW w o A c).drew.heap.size = w.heap.size + 2 := doW_size w o A c
  have hop2 : ((doW w o A c).drew.alloc (.cells (ansC 0 (fnd now o.f1).isSome ((fnd now o.f1).getD 0) false 0 (.slice none 0 0) 0) 26)).drew.heap[w.heap.size]? = some (.cells (opC o A c) 39 (0, 0)) := ((below_alloc (Below.refl _ (doW w o A c).drew) _).block _ (by rw [hs2]; omega)).trans (doW_op w o A c)
  have hra2 : ((doW w o A c).drew.alloc (.cells (ansC 0 (fnd now o.f1).isSome ((fnd now o.f1).getD 0) false 0 (.slice none 0 0) 0) 26)).drew.heap[w.heap.size + 1]? = some (.cells (ansC 0 false 0 false 0 (.slice none 0 0) 0) 26 (0, 0)) := ((below_alloc (Below.refl _ (doW w o A c).drew) _).block _ (by rw [hs2]; omega)).trans (doW_ans w o A c)
  have hfa2 : ((doW w o A c).drew.alloc (.cells (ansC 0 (fnd now o.f1).isSome ((fnd now o.f1).getD 0) false 0 (.slice none 0 0) 0) 26)).drew.heap[w.heap.size + 2]? = some (.cells (ansC 0 (fnd now o.f1).isSome ((fnd now o.f1).getD 0) false 0 (.slice none 0 0) 0) 26 (0, 0)) := by
    have := heap_alloc_new (doW w o A c).drew (.cells (ansC 0 (fnd now o.f1).isSome ((fnd now o.f1).getD 0) false 0 (.slice none 0 0) 0) 26)
    rw [hs2] at this
    exact this
  have HS2 : (fun w' : World => w'.cell? ⟨gp, 2, none⟩ = some (.map (some bh)) ∧ w'.cell? ⟨w.heap.size, 4, none⟩ = some (.int .u64 o.f4) ∧ (Instr.lookup 98 (.map (some bh)) (.int .u64 o.f4) true).run Try.prog w' = .ok (.tuple #[vh, .bool (fnd held o.f4).isSome]) w') ((doW w o A c).drew.alloc (.cells (ansC 0 (fnd now o.f1).isSome ((fnd now o.f1).getD 0) false 0 (.slice none 0 0) 0) 26)).drew :=
    ⟨hP2.c2, by rw [blk_cell hop2]; rfl, hrunh⟩
  have hkd : ((doW w o A c).drew.alloc (.cells (ansC 0 (fnd now o.f1).isSome ((fnd now o.f1).getD 0) false 0 (.slice none 0 0) 0) 26)).drew.cell? ⟨w.heap.size, 0, none⟩ = some (.int .u8 2) := by rw [blk_cell hop2, ← hk]; rfl
  have HVH := Lib.hid hvh
  have HW2 := Lib.hid hW2
  have HP2 := Lib.hid hP2
  have HOP2 := Lib.hid hop2
  have HRA2 := Lib.hid hra2
  have HFA2 := Lib.hid hfa2
  have hfnd0 : (fnd now o.f1).isSome = (fnd now o.f1).isSome := rfl
  obtain ⟨fo, hfo⟩ : ∃ b : Bool, b = (fnd now o.f1).isSome := ⟨_, rfl⟩
  obtain ⟨fv, hfv⟩ : ∃ v : Int, v = (fnd now o.f1).getD 0 := ⟨_, rfl⟩
  obtain ⟨hd, hhd⟩ : ∃ b : Bool, b = (fnd held o.f4).isSome := ⟨_, rfl⟩
  rw [← hfo, ← hfv] at HS HS2 HW2 HP2 HOP2 HRA2 HFA2 hkd
  rw [← hhd] at HS2
  have HFO := Lib.hid hfo
  have HFV := Lib.hid hfv
  have HHD := Lib.hid hhd
  clear hM hF hO hh hb0 hP0 hvh hrunh hW2 hP2 hs2 hop2 hra2 hfa2 hfnd0 hfo hfv hhd
  obtain ⟨W1, hW1⟩ : ∃ W1, W1 = doW w o A c := ⟨_, rfl⟩
  have HW1 := Lib.hid hW1
  rw [← hW1] at HS HS2 HW2 HP2 HOP2 HRA2 HFA2 hkd
  go_enter Try.func15, Try.ntmps15
  go_wp2_with fail
  change Code.wp _ _ _ _ (doW w o A c)
  rw [← hW1]
  clear hW1
  go_region_held3 (fun w' => w'.cell? ⟨gp, 1, none⟩ = some (.map (some bn)) ∧ w'.cell? ⟨w.heap.size, 1, none⟩ = some (.int .u64 o.f1) ∧ (Instr.lookup 97 (.map (some bn)) (.int .u64 o.f1) true).run Try.prog w' = .ok (.tuple #[.int .u64 fv, .bool fo]) w')
    (first | go_keep | exact HS)
    (first | fail | fail)
  clear HS
  have hs1 : W1.heap.size = w.heap.size + 2 := by rw [HW1.out]; exact doW_size w o A c
  go_wp2_with fail
  obtain ⟨W2, hW2⟩ : ∃ W2, W2 = W1.drew.alloc (Obj.cells (ansC 0 fo fv false 0 (Value.slice none 0 0) 0) 26) := ⟨_, rfl⟩
  change Code.wp _ _ _ _ (W1.drew.alloc (Obj.cells (ansC 0 fo fv false 0 (Value.slice none 0 0) 0) 26))
  rw [← hW2] at HS2 HW2 HP2 HOP2 HRA2 HFA2 hkd ⊢
  clear hW2
  go_region_held3 (fun w' => w'.cell? ⟨gp, 2, none⟩ = some (.map (some bh)) ∧ w'.cell? ⟨w.heap.size, 4, none⟩ = some (.int .u64 o.f4) ∧ (Instr.lookup 98 (.map (some bh)) (.int .u64 o.f4) true).run Try.prog w' = .ok (.tuple #[vh, .bool hd]) w')
    (first | go_keep | exact HS2)
    (first | fail | fail)
  clear HS2
  obtain ⟨W, hW⟩ : ∃ W, W = W2.drew := ⟨_, rfl⟩
  rw [← hW] at HW2 HP2 HOP2 HRA2 HFA2 hkd ⊢
  clear hW
  obtain ⟨w3, hrun3, ho3, hg3⟩ := now_put (w := W.drew) HP2.out.now HO.out.key HO.out.val (by unfold maxLen; omega)
  replace hg3 := grown_undrew hg3
  have HL3 := Lib.hid (left_now HP2.out (HF.out.kept (Kept.of_below HW2.out (fun _ => False)) (fun _ _ _ e => e)) HW2.out ho3 hg3)
  have hk3 : Kept W w3 (fun k => k = bn) := Kept.of_grown hg3 (Kept.refl _ _) (fun k e => .inl (by cases e; rfl))
  have hcA := HP2.out.c1
  have hcB : W.cell? ⟨w.heap.size, 1, none⟩ = some (.int .u64 o.f1) := by rw [blk_cell HOP2.out]; rfl
  have hcC : W.cell? ⟨w.heap.size, 2, none⟩ = some (.int .u64 o.f2) := by rw [blk_cell HOP2.out]; rfl
  have hdA : w3.cell? ⟨gp, 1, none⟩ = some (.map (some bn)) := cell_kept hcA hk3 HM.out.gn
  have hdB := cell_kept hcB hk3 (show ¬ w.heap.size = bn by omega)
  have hdC := cell_kept hcC hk3 (show ¬ w.heap.size = bn by omega)
  have HFA3 := Lib.hid (blk_kept HFA2.out hk3 (show ¬ w.heap.size + 2 = bn by omega))
  have HRA3 := Lib.hid (blk_kept HRA2.out hk3 (show ¬ w.heap.size + 1 = bn by omega))
  clear hk3 ho3 hg3
  go_wp2_with fail
  go_region_held3 (fun w' => w'.cell? ⟨gp, 1, none⟩ = some (.map (some bn)) ∧ w'.cell? ⟨w.heap.size, 1, none⟩ = some (.int .u64 o.f1) ∧ w'.cell? ⟨w.heap.size, 2, none⟩ = some (.int .u64 o.f2))
    (first | go_keep | exact ⟨hcA, hcB, hcC⟩ | exact ⟨hdA, hdB, hdC⟩)
    (first | fail | fail)
  clear hcA hcB hcC hdA hdB hdC hrun3
  obtain ⟨l0, l1, l2, l3, l4, l5, l6⟩ := ans_cells HFA3.out
  go_wp2_with (first | ((with_reducible refine gate_store (t := 26) (p := 6) rfl ?_); refine wpList_store_row rfl 26 (.tmp 6) (.tmp 68) rfl (w.heap.size + 1) (ansC 0 fo fv false 0 (.slice none 0 0) 0) rfl rfl 26 _ HRA3.out (by kernel_rfl) rfl (ansC_one _ _ _ _ _ _ _ _ _) ?_))
  refine bodyPost_ret (res_ans rfl _ rfl (setRow_heap _ _ _ _ _ _ HRA3.out)) rfl ⟨.slice none 0 0, by rw [HFO.out, HFV.out]; rfl, Kd.R_nil _ _ _ _ _, HL3.out.row (by omega) HRA3.out hgl hnl hhl _⟩
end Go.Proofs.Ytngocadnbpdnoaa.Mo
namespace Go.Proofs.Ytngocadnbpdnoaa.Mo
open Go Go.Maps Go.RowKit Go.Proofs.Ytngocadnbpdnoaa.Srt Go.Proofs.Ytngocadnbpdnoaa.Q Go.Proofs.YtngocadnbpdnoaaW.PrintWords Go.Proofs.YtngocadnbpdnoaaW.PrintLast Go.Proofs.YtngocadnbpdnoaaW.PrintMore
set_option linter.unusedVariables false
set_option linter.unusedSimpArgs false
set_option maxRecDepth 100000 in
set_option maxHeartbeats 8000000 in
theorem do_get (f : Nat → Option PL) (N gp bn bh : Nat) (multi : Int) (now : PL) (held : List (Int × PL)) (o : OpS) (A : Option Addr) (c : Nat) (hdl : Int) (w : World) (hM : PM w f N gp bn bh multi now held) (hF : Fro w f N) (hO : OpWf o) (hh : u64wf hdl) (hN : N ≤ 1099511627776) (hk : o.f0 = 1) :
    Calls Try.prog 15 #[.pointer (some ⟨gp, 0, none⟩), .agg (opC o A c), .int .u64 hdl] w (DoPost w f (N + 1) gp bn bh ⟨multi, now, held⟩ (foundD ⟨multi, now, held⟩ o)) := by
  have hgl := hM.gl
  have hnl := hM.now.lt
  have hhl := hM.held.1.lt
  have HM := Lib.hid hM
  have HF := Lib.hid hF
  have HO := Lib.hid hO
  have HU := Lib.hid hh
  have hb0 : Below w.heap.size w (doW w o A c).drew := below_drew (doW_below w o A c)
  have hP0 := hM.kept (Kept.of_below hb0 (fun _ => False)) (fun e => e) (fun e => e) (fun e => e)
  have HS : (fun w' : World => w'.cell? ⟨gp, 1, none⟩ = some (.map (some bn)) ∧ w'.cell? ⟨w.heap.size, 1, none⟩ = some (.int .u64 o.f1) ∧ (Instr.lookup 97 (.map (some bn)) (.int .u64 o.f1) true).run Try.prog w' = .ok (.tuple #[.int .u64 ((fnd now o.f1).getD 0), .bool (fnd now o.f1).isSome]) w') (doW w o A c).drew :=
    ⟨hP0.c1, by rw [blk_cell (w := (doW w o A c).drew) (doW_op w o A c)]; rfl, now_look hP0.now hO.key⟩
  obtain ⟨vh, hvh, hrunh⟩ := held_look (hM.held.kept (Kept.of_below (below_drew (below_alloc (below_drew (doW_below w o A c)) (.cells (ansC 0 (fnd now o.f1).isSome ((fnd now o.f1).getD 0) false 0 (.slice none 0 0) 0) 26))) (fun _ => False)) (fun e => e)) hO.han
  have hW2 : Below w.heap.size w ((doW w o A c).drew.alloc (.cells (ansC 0 (fnd now o.f1).isSome ((fnd now o.f1).getD 0) false 0 (.slice none 0 0) 0) 26)).drew := below_drew (below_alloc (below_drew (doW_below w o A c)) _)
  have hP2 := hM.kept (Kept.of_below hW2 (fun _ => False)) (fun e => e) (fun e => e) (fun e => e)
  have hs2 : (doW w o A c).drew.heap.size = w.heap.size + 2 := doW_size w o A c
  have hop2 : ((doW w o A c).drew.alloc (.cells (ansC 0 (fnd now o.f1).isSome ((fnd now o.f1).getD 0) false 0 (.slice none 0 0) 0) 26)).drew.heap[w.heap.size]? = some (.cells (opC o A c) 39 (0, 0)) := ((below_alloc (Below.refl _ (doW w o A c).drew) _).block _ (by rw [hs2]; omega)).trans (doW_op w o A c)
  have hra2 : ((doW w o A c).drew.alloc (.cells (ansC 0 (fnd now o.f1).isSome ((fnd now o.f1).getD 0) false 0 (.slice none 0 0) 0) 26)).drew.heap[w.heap.size + 1]? = some (.cells (ansC 0 false 0 false 0 (.slice none 0 0) 0) 26 (0, 0)) := ((below_alloc (Below.refl _ (doW w o A c).drew) _).block _ (by rw [hs2]; omega)).trans (doW_ans w o A c)
  have hfa2 : ((doW w o A c).drew.alloc (.cells (ansC 0 (fnd now o.f1).isSome ((fnd now o.f1).getD 0) false 0 (.slice none 0 0) 0) 26)).drew.heap[w.heap.size + 2]? = some (.cells (ansC 0 (fnd now o.f1).isSome ((fnd now o.f1).getD 0) false 0 (.slice none 0 0) 0) 26 (0, 0)) := by
    have := heap_alloc_new (doW w o A c).drew (.cells (ansC 0 (fnd now o.f1).isSome ((fnd now o.f1).getD 0) false 0 (.slice none 0 0) 0) 26)
    rw [hs2] at this
    exact this
  have HS2 : (fun w' : World => w'.cell? ⟨gp, 2, none⟩ = some (.map (some bh)) ∧ w'.cell? ⟨w.heap.size, 4, none⟩ = some (.int .u64 o.f4) ∧ (Instr.lookup 98 (.map (some bh)) (.int .u64 o.f4) true).run Try.prog w' = .ok (.tuple #[vh, .bool (fnd held o.f4).isSome]) w') ((doW w o A c).drew.alloc (.cells (ansC 0 (fnd now o.f1).isSome ((fnd now o.f1).getD 0) false 0 (.slice none 0 0) 0) 26)).drew :=
    ⟨hP2.c2, by rw [blk_cell hop2]; rfl, hrunh⟩
  have hkd : ((doW w o A c).drew.alloc (.cells (ansC 0 (fnd now o.f1).isSome ((fnd now o.f1).getD 0) false 0 (.slice none 0 0) 0) 26)).drew.cell? ⟨w.heap.size, 0, none⟩ = some (.int .u8 1) := by rw [blk_cell hop2, ← hk]; rfl
  have HVH := Lib.hid hvh
  have HW2 := Lib.hid hW2
  have HP2 := Lib.hid hP2
  have HOP2 := Lib.hid hop2
  have HRA2 := Lib.hid hra2
  have HFA2 := Lib.hid hfa2
  have hfnd0 : (fnd now o.f1).isSome = (fnd now o.f1).isSome := rfl
  obtain ⟨fo, hfo⟩ : ∃ b : Bool, b = (fnd now o.f1).isSome := ⟨_, rfl⟩
  obtain ⟨fv, hfv⟩ : ∃ v : Int, v = (fnd now o.f1).getD 0 := ⟨_, rfl⟩
  obtain ⟨hd, hhd⟩ : ∃ b : Bool, b = (fnd held o.f4).isSome := ⟨_, rfl⟩
  rw [← hfo, ← hfv] at HS HS2 HW2 HP2 HOP2 HRA2 HFA2 hkd
  rw [← hhd] at HS2
  have HFO := Lib.hid hfo
  have HFV := Lib.hid hfv
  have HHD := Lib.hid hhd
  clear hM hF hO hh hb0 hP0 hvh hrunh hW2 hP2 hs2 hop2 hra2 hfa2 hfnd0 hfo hfv hhd
  obtain ⟨W1, hW1⟩ : ∃ W1, W1 = doW w o A c := ⟨_, rfl⟩
  have HW1 := Lib.hid hW1
  rw [← hW1] at HS HS2 HW2 HP2 HOP2 HRA2 HFA2 hkd
  go_enter Try.func15, Try.ntmps15
  go_wp2_with fail
  change Code.wp _ _ _ _ (doW w o A c)
  rw [← hW1]
  clear hW1
  go_region_held3 (fun w' => w'.cell? ⟨gp, 1, none⟩ = some (.map (some bn)) ∧ w'.cell? ⟨w.heap.size, 1, none⟩ = some (.int .u64 o.f1) ∧ (Instr.lookup 97 (.map (some bn)) (.int .u64 o.f1) true).run Try.prog w' = .ok (.tuple #[.int .u64 fv, .bool fo]) w')
    (first | go_keep | exact HS)
    (first | fail | fail)
  clear HS
  have hs1 : W1.heap.size = w.heap.size + 2 := by rw [HW1.out]; exact doW_size w o A c
  go_wp2_with fail
  obtain ⟨W2, hW2⟩ : ∃ W2, W2 = W1.drew.alloc (Obj.cells (ansC 0 fo fv false 0 (Value.slice none 0 0) 0) 26) := ⟨_, rfl⟩
  change Code.wp _ _ _ _ (W1.drew.alloc (Obj.cells (ansC 0 fo fv false 0 (Value.slice none 0 0) 0) 26))
  rw [← hW2] at HS2 HW2 HP2 HOP2 HRA2 HFA2 hkd ⊢
  clear hW2
  go_region_held3 (fun w' => w'.cell? ⟨gp, 2, none⟩ = some (.map (some bh)) ∧ w'.cell? ⟨w.heap.size, 4, none⟩ = some (.int .u64 o.f4) ∧ (Instr.lookup 98 (.map (some bh)) (.int .u64 o.f4) true).run Try.prog w' = .ok (.tuple #[vh, .bool hd]) w')
    (first | go_keep | exact HS2)
    (first | fail | fail)
  clear HS2
  obtain ⟨W, hW⟩ : ∃ W, W = W2.drew := ⟨_, rfl⟩
  rw [← hW] at HW2 HP2 HOP2 HRA2 HFA2 hkd ⊢
  clear hW
  have HL3 := Lib.hid (left_same (K := fun k => k = bn ∨ k = bh) HM.out HF.out HW2.out (Nat.le_succ N))
  have HFA3 := HFA2
  have HRA3 := HRA2
  obtain ⟨l0, l1, l2, l3, l4, l5, l6⟩ := ans_cells HFA3.out
  go_wp2_with (first | ((with_reducible refine gate_store (t := 26) (p := 6) rfl ?_); refine wpList_store_row rfl 26 (.tmp 6) (.tmp 59) rfl (w.heap.size + 1) (ansC 0 fo fv false 0 (.slice none 0 0) 0) rfl rfl 26 _ HRA3.out (by kernel_rfl) rfl (ansC_one _ _ _ _ _ _ _ _ _) ?_))
  refine bodyPost_ret (res_ans rfl _ rfl (setRow_heap _ _ _ _ _ _ HRA3.out)) rfl ⟨.slice none 0 0, by rw [HFO.out, HFV.out]; rfl, Kd.R_nil _ _ _ _ _, HL3.out.row (by omega) HRA3.out hgl hnl hhl _⟩
end Go.Proofs.Ytngocadnbpdnoaa.Mo
namespace Go.Proofs.Ytngocadnbpdnoaa.Mo
open Go Go.Maps Go.RowKit Go.Proofs.Ytngocadnbpdnoaa.Srt Go.Proofs.Ytngocadnbpdnoaa.Q Go.Proofs.YtngocadnbpdnoaaW.PrintWords Go.Proofs.YtngocadnbpdnoaaW.PrintLast Go.Proofs.YtngocadnbpdnoaaW.PrintMore
set_option linter.unusedVariables false
set_option linter.unusedSimpArgs false
set_option maxRecDepth 100000 in
set_option maxHeartbeats 8000000 in
theorem do_snap (f : Nat → Option PL) (N gp bn bh : Nat) (multi : Int) (now : PL) (held : List (Int × PL)) (o : OpS) (A : Option Addr) (c : Nat) (hdl : Int) (w : World) (hM : PM w f N gp bn bh multi now held) (hF : Fro w f N) (hO : OpWf o) (hh : u64wf hdl) (hN : N ≤ 1099511627776) (hk : o.f0 = 5) :
    Calls Try.prog 15 #[.pointer (some ⟨gp, 0, none⟩), .agg (opC o A c), .int .u64 hdl] w (DoPost w f (N + 1) gp bn bh ⟨multi, now, snapHeld hdl now held⟩ (snapD hdl held)) := by
  have hgl := hM.gl
  have hnl := hM.now.lt
  have hhl := hM.held.1.lt
  have HM := Lib.hid hM
  have HF := Lib.hid hF
  have HO := Lib.hid hO
  have HU := Lib.hid hh
  have hb0 : Below w.heap.size w (doW w o A c).drew := below_drew (doW_below w o A c)
  have hP0 := hM.kept (Kept.of_below hb0 (fun _ => False)) (fun e => e) (fun e => e) (fun e => e)
  have HS : (fun w' : World => w'.cell? ⟨gp, 1, none⟩ = some (.map (some bn)) ∧ w'.cell? ⟨w.heap.size, 1, none⟩ = some (.int .u64 o.f1) ∧ (Instr.lookup 97 (.map (some bn)) (.int .u64 o.f1) true).run Try.prog w' = .ok (.tuple #[.int .u64 ((fnd now o.f1).getD 0), .bool (fnd now o.f1).isSome]) w') (doW w o A c).drew :=
    ⟨hP0.c1, by rw [blk_cell (w := (doW w o A c).drew) (doW_op w o A c)]; rfl, now_look hP0.now hO.key⟩
  obtain ⟨vh, hvh, hrunh⟩ := held_look (hM.held.kept (Kept.of_below (below_drew (below_alloc (below_drew (doW_below w o A c)) (.cells (ansC 0 (fnd now o.f1).isSome ((fnd now o.f1).getD 0) false 0 (.slice none 0 0) 0) 26))) (fun _ => False)) (fun e => e)) hO.han
  have hW2 : Below w.heap.size w ((doW w o A c).drew.alloc (.cells (ansC 0 (fnd now o.f1).isSome ((fnd now o.f1).getD 0) false 0 (.slice none 0 0) 0) 26)).drew := below_drew (below_alloc (below_drew (doW_below w o A c)) _)
  have hP2 := hM.kept (Kept.of_below hW2 (fun _ => False)) (fun e => e) (fun e => e) (fun e => e)
  have hs2 : (doW w o A c).drew.heap.size = w.heap.size + 2 := doW_size w o A c
  have hop2 : ((doW w o A c).drew.alloc (.cells (ansC 0 (fnd now o.f1).isSome ((fnd now o.f1).getD 0) false 0 (.slice none 0 0) 0) 26)).drew.heap[w.heap.size]? = some (.cells (opC o A c) 39 (0, 0)) := ((below_alloc (Below.refl _ (doW w o A c).drew) _).block _ (by rw [hs2]; omega)).trans (doW_op w o A c)
  have hra2 : ((doW w o A c).drew.alloc (.cells (ansC 0 (fnd now o.f1).isSome ((fnd now o.f1).getD 0) false 0 (.slice none 0 0) 0) 26)).drew.heap[w.heap.size + 1]? = some (.cells (ansC 0 false 0 false 0 (.slice none 0 0) 0) 26 (0, 0)) := ((below_alloc (Below.refl _ (doW w o A c).drew) _).block _ (by rw [hs2]; omega)).trans (doW_ans w o A c)
  have hfa2 : ((doW w o A c).drew.alloc (.cells (ansC 0 (fnd now o.f1).isSome ((fnd now o.f1).getD 0) false 0 (.slice none 0 0) 0) 26)).drew.heap[w.heap.size + 2]? = some (.cells (ansC 0 (fnd now o.f1).isSome ((fnd now o.f1).getD 0) false 0 (.slice none 0 0) 0) 26 (0, 0)) := by
    have := heap_alloc_new (doW w o A c).drew (.cells (ansC 0 (fnd now o.f1).isSome ((fnd now o.f1).getD 0) false 0 (.slice none 0 0) 0) 26)
    rw [hs2] at this
    exact this
  have HS2 : (fun w' : World => w'.cell? ⟨gp, 2, none⟩ = some (.map (some bh)) ∧ w'.cell? ⟨w.heap.size, 4, none⟩ = some (.int .u64 o.f4) ∧ (Instr.lookup 98 (.map (some bh)) (.int .u64 o.f4) true).run Try.prog w' = .ok (.tuple #[vh, .bool (fnd held o.f4).isSome]) w') ((doW w o A c).drew.alloc (.cells (ansC 0 (fnd now o.f1).isSome ((fnd now o.f1).getD 0) false 0 (.slice none 0 0) 0) 26)).drew :=
    ⟨hP2.c2, by rw [blk_cell hop2]; rfl, hrunh⟩
  have hkd : ((doW w o A c).drew.alloc (.cells (ansC 0 (fnd now o.f1).isSome ((fnd now o.f1).getD 0) false 0 (.slice none 0 0) 0) 26)).drew.cell? ⟨w.heap.size, 0, none⟩ = some (.int .u8 5) := by rw [blk_cell hop2, ← hk]; rfl
  have HVH := Lib.hid hvh
  have HW2 := Lib.hid hW2
  have HP2 := Lib.hid hP2
  have HOP2 := Lib.hid hop2
  have HRA2 := Lib.hid hra2
  have HFA2 := Lib.hid hfa2
  have hfnd0 : (fnd now o.f1).isSome = (fnd now o.f1).isSome := rfl
  obtain ⟨fo, hfo⟩ : ∃ b : Bool, b = (fnd now o.f1).isSome := ⟨_, rfl⟩
  obtain ⟨fv, hfv⟩ : ∃ v : Int, v = (fnd now o.f1).getD 0 := ⟨_, rfl⟩
  obtain ⟨hd, hhd⟩ : ∃ b : Bool, b = (fnd held o.f4).isSome := ⟨_, rfl⟩
  rw [← hfo, ← hfv] at HS HS2 HW2 HP2 HOP2 HRA2 HFA2 hkd
  rw [← hhd] at HS2
  have HFO := Lib.hid hfo
  have HFV := Lib.hid hfv
  have HHD := Lib.hid hhd
  clear hM hF hO hh hb0 hP0 hvh hrunh hW2 hP2 hs2 hop2 hra2 hfa2 hfnd0 hfo hfv hhd
  obtain ⟨W1, hW1⟩ : ∃ W1, W1 = doW w o A c := ⟨_, rfl⟩
  have HW1 := Lib.hid hW1
  rw [← hW1] at HS HS2 HW2 HP2 HOP2 HRA2 HFA2 hkd
  go_enter Try.func15, Try.ntmps15
  go_wp2_with fail
  change Code.wp _ _ _ _ (doW w o A c)
  rw [← hW1]
  clear hW1
  go_region_held3 (fun w' => w'.cell? ⟨gp, 1, none⟩ = some (.map (some bn)) ∧ w'.cell? ⟨w.heap.size, 1, none⟩ = some (.int .u64 o.f1) ∧ (Instr.lookup 97 (.map (some bn)) (.int .u64 o.f1) true).run Try.prog w' = .ok (.tuple #[.int .u64 fv, .bool fo]) w')
    (first | go_keep | exact HS)
    (first | fail | fail)
  clear HS
  have hs1 : W1.heap.size = w.heap.size + 2 := by rw [HW1.out]; exact doW_size w o A c
  go_wp2_with fail
  obtain ⟨W2, hW2⟩ : ∃ W2, W2 = W1.drew.alloc (Obj.cells (ansC 0 fo fv false 0 (Value.slice none 0 0) 0) 26) := ⟨_, rfl⟩
  change Code.wp _ _ _ _ (W1.drew.alloc (Obj.cells (ansC 0 fo fv false 0 (Value.slice none 0 0) 0) 26))
  rw [← hW2] at HS2 HW2 HP2 HOP2 HRA2 HFA2 hkd ⊢
  clear hW2
  go_region_held3 (fun w' => w'.cell? ⟨gp, 2, none⟩ = some (.map (some bh)) ∧ w'.cell? ⟨w.heap.size, 4, none⟩ = some (.int .u64 o.f4) ∧ (Instr.lookup 98 (.map (some bh)) (.int .u64 o.f4) true).run Try.prog w' = .ok (.tuple #[vh, .bool hd]) w')
    (first | go_keep | exact HS2)
    (first | fail | fail)
  clear HS2
  obtain ⟨W, hW⟩ : ∃ W, W = W2.drew := ⟨_, rfl⟩
  rw [← hW] at HW2 HP2 HOP2 HRA2 HFA2 hkd ⊢
  clear hW
  have cS := snapshot_c f N gp bn bh multi now held hdl W HP2.out (HF.out.kept (Kept.of_below HW2.out (fun _ => False)) (fun _ _ _ e => e)) HU.out hN
  obtain ⟨e, vs, hsn⟩ : ∃ (e h : Int), snapAns hdl held = ansV e false 0 false h (.slice none 0 0) 0 ∧ snapD hdl held = ⟨e, false, 0, false, h, [], 0⟩ := by
    unfold snapAns snapD
    split
    · exact ⟨32, 0, rfl, rfl⟩
    · exact ⟨0, hdl, rfl, rfl⟩
  rw [hsn.1] at cS
  unfold ansV at cS
  go_wp2_with (first | (go_at_call 36; (refine cS.mono ?_; rintro e' w3 ⟨rfl, HL⟩; have HRA3 := Lib.hid (blk_kept HRA2.out HL.choose_spec.2.2.2.kept (show ¬ w.heap.size + 1 = bh by omega)); have HL3 := Lib.hid (HL.base (K' := fun k => k = bn ∨ k = bh) HW2.out (fun k e => Or.inr e)); clear HL)) | ((with_reducible refine gate_store (t := 26) (p := 6) rfl ?_); refine wpList_store_row rfl 26 (.tmp 6) (.tmp 95) rfl (w.heap.size + 1) (ansC e false 0 false vs (.slice none 0 0) 0) rfl rfl 26 _ HRA3.out (by kernel_rfl) rfl (ansC_one _ _ _ _ _ _ _ _ _) ?_))
  refine bodyPost_ret (res_ans rfl _ rfl (setRow_heap _ _ _ _ _ _ HRA3.out)) rfl ⟨.slice none 0 0, by rw [hsn.2], by rw [hsn.2]; exact Kd.R_nil _ _ _ _ _, HL3.out.row (by omega) HRA3.out hgl hnl hhl _⟩
end Go.Proofs.Ytngocadnbpdnoaa.Mo
namespace Go.Proofs.Ytngocadnbpdnoaa.Mo
open Go Go.Maps Go.RowKit Go.Proofs.Ytngocadnbpdnoaa.Srt Go.Proofs.Ytngocadnbpdnoaa.Q Go.Proofs.YtngocadnbpdnoaaW.PrintWords Go.Proofs.YtngocadnbpdnoaaW.PrintLast Go.Proofs.YtngocadnbpdnoaaW.PrintMore
set_option linter.unusedVariables false
set_option linter.unusedSimpArgs false
def opL (k key val : Int) : OpS := ⟨k, key, val, 0, 0, ⟨false, 0, 0⟩, [], 0, 0⟩
theorem opL_wf (k key val : Int) (h1 : u64wf key) (h2 : u64wf val) : OpWf (opL k key val) := ⟨h1, h2, by show u64wf 0; unfold u64wf; decide⟩
theorem fro_none (w : World) (N : Nat) : Fro w (fun _ => none) N := fun b l e => by cases e
theorem get_c (o : OpS) (hO : OpWf o) (hk : o.f0 = 1) : DoC o 0 (fun s => (s, foundD s o)) := fun f N gp bn bh multi now held A c w hM hF hN => do_get f N gp bn bh multi now held o A c 0 w hM hF hO (by unfold u64wf; decide) hN hk
theorem DoPost.lit {w : World} {f : Nat → Option PL} {N gp bn bh : Nat} {s : MS} {e : Int} {fo : Bool} {v : Int} {dn : Bool} {h : Int} {en : Ending} {w' : World} (hp : DoPost w f N gp bn bh s ⟨e, fo, v, dn, h, [], 0⟩ en w') :
    ∃ A c, en = .returned (.agg #[.int .i64 e, .bool fo, .int .u64 v, .bool dn, .int .u64 h, .slice A 0 c, .int .u64 0]) ∧ Left w w' f N gp bn bh s.multi s.now s.held (fun k => k = bn ∨ k = bh) := by
  obtain ⟨ps, he, hR, hL⟩ := hp
  obtain ⟨A2, c2, rfl⟩ := Kd.R_slice hR
  exact ⟨A2, c2, he, hL⟩
theorem lp1 (gp bn bh : Nat) (w1 : World) (hP : PM w1 (fun _ => none) 0 gp bn bh 4 [] []) : Calls Try.prog 15 #[.pointer (some ⟨gp, 0, none⟩), .agg #[.int .u8 2, .int .u64 7, .int .u64 1, .int .u64 0, .int .u64 0, .bool false, .int .i64 0, .int .i64 0, .slice none 0 0, .int .u64 0, .int .u64 0], .int .u64 0] w1 fun en w' => ∃ A c, en = .returned (.agg #[.int .i64 0, .bool false, .int .u64 0, .bool false, .int .u64 0, .slice A 0 c, .int .u64 0]) ∧ Left w1 w' (fun _ => none) 1 gp bn bh 4 [(7, 1)] [] (fun k => k = bn ∨ k = bh) :=
  (do_put (fun _ => none) 0 gp bn bh 4 [] [] (opL 2 7 1) none 0 0 w1 hP (fro_none w1 0) (opL_wf _ _ _ (by unfold u64wf; decide) (by unfold u64wf; decide)) (by unfold u64wf; decide) (by omega) rfl).mono fun en w' h => DoPost.lit (s := ⟨4, [(7, 1)], []⟩) h
theorem lp2 (f : Nat → Option PL) (gp bn bh : Nat) (w1 : World) (hP : PM w1 f 1 gp bn bh 4 [(7, 1)] []) (hF : Fro w1 f 1) : Calls Try.prog 15 #[.pointer (some ⟨gp, 0, none⟩), .agg #[.int .u8 5, .int .u64 0, .int .u64 0, .int .u64 0, .int .u64 0, .bool false, .int .i64 0, .int .i64 0, .slice none 0 0, .int .u64 0, .int .u64 0], .int .u64 5] w1 fun en w' => ∃ A c, en = .returned (.agg #[.int .i64 0, .bool false, .int .u64 0, .bool false, .int .u64 5, .slice A 0 c, .int .u64 0]) ∧ Left w1 w' f 2 gp bn bh 4 [(7, 1)] [(5, [(7, 1)])] (fun k => k = bn ∨ k = bh) :=
  (do_snap f 1 gp bn bh 4 [(7, 1)] [] (opL 5 0 0) none 0 5 w1 hP hF (opL_wf _ _ _ (by unfold u64wf; decide) (by unfold u64wf; decide)) (by unfold u64wf; decide) (by omega) rfl).mono fun en w' h => DoPost.lit (s := ⟨4, [(7, 1)], [(5, [(7, 1)])]⟩) h
theorem lp3 (f : Nat → Option PL) (gp bn bh : Nat) (w1 : World) (hP : PM w1 f 2 gp bn bh 4 [(7, 1)] [(5, [(7, 1)])]) (hF : Fro w1 f 2) : Calls Try.prog 15 #[.pointer (some ⟨gp, 0, none⟩), .agg #[.int .u8 2, .int .u64 7, .int .u64 2, .int .u64 0, .int .u64 0, .bool false, .int .i64 0, .int .i64 0, .slice none 0 0, .int .u64 0, .int .u64 0], .int .u64 0] w1 fun en w' => ∃ A c, en = .returned (.agg #[.int .i64 0, .bool true, .int .u64 1, .bool false, .int .u64 0, .slice A 0 c, .int .u64 0]) ∧ Left w1 w' f 3 gp bn bh 4 [(7, 2)] [(5, [(7, 1)])] (fun k => k = bn ∨ k = bh) :=
  (do_put f 2 gp bn bh 4 [(7, 1)] [(5, [(7, 1)])] (opL 2 7 2) none 0 0 w1 hP hF (opL_wf _ _ _ (by unfold u64wf; decide) (by unfold u64wf; decide)) (by unfold u64wf; decide) (by omega) rfl).mono fun en w' h => DoPost.lit (s := ⟨4, [(7, 2)], [(5, [(7, 1)])]⟩) h
theorem lp4 (f : Nat → Option PL) (gp bn bh : Nat) (w1 : World) (hP : PM w1 f 3 gp bn bh 4 [(7, 2)] [(5, [(7, 1)])]) (hF : Fro w1 f 3) : Calls Try.prog 16 #[.pointer (some ⟨gp, 0, none⟩), .int .u64 5] w1 fun en w' => ∃ g c, en = .returned (.tuple #[.slice (some ⟨g, 0, none⟩) 1 c, .bool true]) ∧ w'.cell? ⟨g, 0, none⟩ = some (.int .u64 7) ∧ w'.cell? ⟨g, 1, none⟩ = some (.int .u64 1) ∧ Below w1.heap.size w1 w' :=
  (held_c f 3 gp bn bh 4 [(7, 2)] [(5, [(7, 1)])] 5 w1 hP hF (by unfold u64wf; decide) (by omega)).mono fun en w' h => by
    obtain ⟨v, he, hR, hB⟩ := h
    obtain ⟨A, c, rfl⟩ := Kd.R_slice hR
    obtain ⟨ad, rfl, h0, h1⟩ := at_T90 (Kd.R_reads' hR).2.2 0 (by omega) (by decide)
    obtain ⟨g, rfl⟩ := Kd.R_head hR
    exact ⟨g, c, he, h0, h1, hB⟩
theorem lp5 (f : Nat → Option PL) (gp bn bh : Nat) (w1 : World) (hP : PM w1 f 3 gp bn bh 4 [(7, 2)] [(5, [(7, 1)])]) (hF : Fro w1 f 3) : Calls Try.prog 22 #[.pointer (some ⟨gp, 0, none⟩), .agg #[.int .u8 1, .int .u64 7, .int .u64 0, .int .u64 0, .int .u64 0, .bool false, .int .i64 0, .int .i64 0, .slice none 0 0, .int .u64 0, .int .u64 0], .agg #[.int .i64 0, .bool false, .int .u64 0, .bool false, .int .u64 0, .slice none 0 0, .int .u64 0]] w1 fun en w' => en = .returned (.bool false) ∧ KO w1 w' (fun k => k = bn ∨ k = bh) :=
  (take_rest (opL 1 7 0) ⟨0, false, 0, false, 0, [], 0⟩ none none 0 0 _ (get_c (opL 1 7 0) (opL_wf _ _ _ (by unfold u64wf; decide) (by unfold u64wf; decide)) rfl) f 3 gp bn bh 4 [(7, 2)] [(5, [(7, 1)])] w1 hP hF (by omega) (fun W' _ => Kd.C_nil _ _) (Nat.le_refl _) (fun k h1 h2 h3 => by simp [opL]; omega) (by decide)).mono fun en w' h => by
    obtain ⟨he, f', _, _, _, hK⟩ := h
    exact ⟨he, hK⟩
set_option maxRecDepth 100000 in
set_option maxHeartbeats 16000000 in
theorem live_c (w : World) : Calls Try.prog 11 #[] w fun e w' => e = .returned (.bool true) ∧ Below w.heap.size w w' := by
  have cN := new_c 4 (fun _ => none) w (fro_none w 0) (by omega) (by omega)
  go_enter Try.func11, Try.ntmps11
  go_upto_region 4 with (go_at_call 14; refine cN.mono ?_; rintro e w1 ⟨gp, bn, bh, rfl, hP1, hB1, hg1, hg2, hg3⟩)
  clear cN
  have hgl := hP1.gl
  have hnl := hP1.now.lt
  have hhl := hP1.held.1.lt
  have HP1 := Lib.hid hP1
  have HB1 := Lib.hid hB1
  clear hP1 hB1
  go_upto_region 5 with (go_at_call 15; (refine (lp1 gp bn bh w1 HP1.out).mono ?_; rintro e w2 ⟨A2, c2, rfl, f2, hE2, hP2, hF2, hK2⟩; have HP2 := Lib.hid hP2; have HF2 := Lib.hid hF2; have HK2 := Lib.hid hK2; clear hE2 hP2 hF2 hK2))
  have hz2 := HK2.out.kept.1
  obtain ⟨W2, hW2⟩ : ∃ W2, W2 = w2.alloc (Obj.cells #[Value.int IntKind.i64 0, Value.bool false, Value.int IntKind.u64 0, Value.bool false, Value.int IntKind.u64 0, Value.slice A2 0 c2, Value.int IntKind.u64 0] 26) := ⟨_, rfl⟩
  have hk2 : KO w2 W2 (fun _ => False) := by rw [hW2]; exact KO.of_below (below_alloc (Below.refl _ _) _) _
  have hb2 : W2.heap[w2.heap.size]? = some (.cells #[Value.int IntKind.i64 0, Value.bool false, Value.int IntKind.u64 0, Value.bool false, Value.int IntKind.u64 0, Value.slice A2 0 c2, Value.int IntKind.u64 0] 26 (0, 0)) := by rw [hW2]; exact heap_alloc_new _ _
  rw [← hW2]
  clear hW2
  have hPn2 := HP2.out.kept hk2.kept (fun e => e) (fun e => e) (fun e => e)
  have hFn2 := HF2.out.kept hk2.kept (fun _ _ _ e => e)
  have HPn2 := Lib.hid hPn2
  have HFn2 := Lib.hid hFn2
  have HB2 := Lib.hid hb2
  have HKn2 := Lib.hid hk2
  have hzz2 := blk_lt hb2
  clear hPn2 hFn2 hb2 hk2
  go_upto_region 6 with (go_at_call 15; (refine (lp2 f2 gp bn bh W2 HPn2.out HFn2.out).mono ?_; rintro e w3 ⟨A3, c3, rfl, f3, hE3, hP3, hF3, hK3⟩; have HP3 := Lib.hid hP3; have HF3 := Lib.hid hF3; have HK3 := Lib.hid hK3; clear hE3 hP3 hF3 hK3))
  have hz3 := HK3.out.kept.1
  obtain ⟨W3, hW3⟩ : ∃ W3, W3 = w3.alloc (Obj.cells #[Value.int IntKind.i64 0, Value.bool false, Value.int IntKind.u64 0, Value.bool false, Value.int IntKind.u64 5, Value.slice A3 0 c3, Value.int IntKind.u64 0] 26) := ⟨_, rfl⟩
  have hk3 : KO w3 W3 (fun _ => False) := by rw [hW3]; exact KO.of_below (below_alloc (Below.refl _ _) _) _
  have hb3 : W3.heap[w3.heap.size]? = some (.cells #[Value.int IntKind.i64 0, Value.bool false, Value.int IntKind.u64 0, Value.bool false, Value.int IntKind.u64 5, Value.slice A3 0 c3, Value.int IntKind.u64 0] 26 (0, 0)) := by rw [hW3]; exact heap_alloc_new _ _
  rw [← hW3]
  clear hW3
  have hPn3 := HP3.out.kept hk3.kept (fun e => e) (fun e => e) (fun e => e)
  have hFn3 := HF3.out.kept hk3.kept (fun _ _ _ e => e)
  have HPn3 := Lib.hid hPn3
  have HFn3 := Lib.hid hFn3
  have HB3 := Lib.hid hb3
  have HKn3 := Lib.hid hk3
  have hzz3 := blk_lt hb3
  clear hPn3 hFn3 hb3 hk3
  go_upto_region 7 with (go_at_call 15; (refine (lp3 f3 gp bn bh W3 HPn3.out HFn3.out).mono ?_; rintro e w4 ⟨A4, c4, rfl, f4, hE4, hP4, hF4, hK4⟩; have HP4 := Lib.hid hP4; have HF4 := Lib.hid hF4; have HK4 := Lib.hid hK4; clear hE4 hP4 hF4 hK4))
  have hz4 := HK4.out.kept.1
  obtain ⟨W4, hW4⟩ : ∃ W4, W4 = w4.alloc (Obj.cells #[Value.int IntKind.i64 0, Value.bool true, Value.int IntKind.u64 1, Value.bool false, Value.int IntKind.u64 0, Value.slice A4 0 c4, Value.int IntKind.u64 0] 26) := ⟨_, rfl⟩
  have hk4 : KO w4 W4 (fun _ => False) := by rw [hW4]; exact KO.of_below (below_alloc (Below.refl _ _) _) _
  have hb4 : W4.heap[w4.heap.size]? = some (.cells #[Value.int IntKind.i64 0, Value.bool true, Value.int IntKind.u64 1, Value.bool false, Value.int IntKind.u64 0, Value.slice A4 0 c4, Value.int IntKind.u64 0] 26 (0, 0)) := by rw [hW4]; exact heap_alloc_new _ _
  rw [← hW4]
  clear hW4
  have hPn4 := HP4.out.kept hk4.kept (fun e => e) (fun e => e) (fun e => e)
  have hFn4 := HF4.out.kept hk4.kept (fun _ _ _ e => e)
  have HPn4 := Lib.hid hPn4
  have HFn4 := Lib.hid hFn4
  have HB4 := Lib.hid hb4
  have HKn4 := Lib.hid hk4
  have hzz4 := blk_lt hb4
  clear hPn4 hFn4 hb4 hk4
  go_upto_region 8 with (go_at_call 16; (refine (lp4 f4 gp bn bh W4 HPn4.out HFn4.out).mono ?_; rintro e w5 ⟨g5, c5, rfl, hc7, hc1, hB5⟩; have HB5 := Lib.hid hB5; clear hB5))
  have hP5 := HPn4.out.kept (Kept.of_below HB5.out (fun _ => False)) (fun e => e) (fun e => e) (fun e => e)
  have hF5 := HFn4.out.kept (Kept.of_below HB5.out (fun _ => False)) (fun _ _ _ e => e)
  have b4 : w5.heap[w4.heap.size]? = _ := blk_kept HB4.out (Kept.of_below HB5.out (fun _ => False)) (fun e => e)
  have b3 : w5.heap[w3.heap.size]? = _ := blk_kept (blk_kept (blk_kept HB3.out HK4.out.kept (show ¬ (w3.heap.size = bn ∨ w3.heap.size = bh) by omega)) HKn4.out.kept (fun e => e)) (Kept.of_below HB5.out (fun _ => False)) (fun e => e)
  have b2 : w5.heap[w2.heap.size]? = _ := blk_kept (blk_kept (blk_kept (blk_kept (blk_kept HB2.out HK3.out.kept (show ¬ (w2.heap.size = bn ∨ w2.heap.size = bh) by omega)) HKn3.out.kept (fun e => e)) HK4.out.kept (show ¬ (w2.heap.size = bn ∨ w2.heap.size = bh) by omega)) HKn4.out.kept (fun e => e)) (Kept.of_below HB5.out (fun _ => False)) (fun e => e)
  have k21 : w5.cell? ⟨w2.heap.size, 1, none⟩ = some (.bool false) := by rw [blk_cell b2]; rfl
  have k34 : w5.cell? ⟨w3.heap.size, 4, none⟩ = some (.int .u64 5) := by rw [blk_cell b3]; rfl
  have k41 : w5.cell? ⟨w4.heap.size, 1, none⟩ = some (.bool true) := by rw [blk_cell b4]; rfl
  have k42 : w5.cell? ⟨w4.heap.size, 2, none⟩ = some (.int .u64 1) := by rw [blk_cell b4]; rfl
  have hend : KO w w5 (fun _ => False) := (((((((KO.of_below HB1.out (fun _ => False)).then_ HK2.out (fun k e => .inr (by omega))).then_ HKn2.out (fun _ e => e.elim)).then_ HK3.out (fun k e => .inr (by omega))).then_ HKn3.out (fun _ e => e.elim)).then_ HK4.out (fun k e => .inr (by omega))).then_ HKn4.out (fun _ e => e.elim)).then_ (KO.of_below HB5.out (fun _ => False)) (fun _ e => e.elim)
  have HEND := Lib.hid hend
  have HP5 := Lib.hid hP5
  have HF5 := Lib.hid hF5
  clear hend hP5 hF5 b2 b3 b4
  go_wp2_with (go_at_call 22; (refine (lp5 f4 gp bn bh w5 HP5.out HF5.out).mono ?_; rintro e w6 ⟨rfl, hK6⟩; have HK6 := Lib.hid hK6; clear hK6))
  go_ret
  exact ⟨rfl, (HEND.out.then_ HK6.out (fun k e => .inr (by omega))).below_of (fun _ e => e.elim)⟩
end Go.Proofs.Ytngocadnbpdnoaa.Mo
namespace Go.Proofs.Ytngocadnbpdnoaa.Q
open Go Go.RowKit Go.Proofs.YtngocadnbpdnoaaW.PrintWords
set_option linter.unusedVariables false
def live_hand.f : Option Bool := some true
theorem live_hand.mono : LeO live_hand.f live_hand.f := LeO.refl _
theorem live_hand.calls (r : Bool) (w : World) (h : live_hand.f = some r) : Calls Try.prog 11 #[] w fun e w' => e = .returned (.bool r) ∧ Below w.heap.size w w' := by
  cases h
  exact Go.Proofs.Ytngocadnbpdnoaa.Mo.live_c w
end Go.Proofs.Ytngocadnbpdnoaa.Q
