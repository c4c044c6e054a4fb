import Derived.Test.YtngocadnbpdnoaaMta
import Derived.Test.YtngocadnbpdnoaaQx0
import Derived.Laws.CopyRow
import Derived.Test.YtngocadnbpdnoaaRows
import Derived.Test.YtngocadnbpdnoaaWWords
import Derived.Deep.Slices
import Derived.SizedLaws
import Derived.Deep.CondSized
import Derived.ProofKit
import Derived.OpenShut
-- Written by a program of this session over the kit's print.py, which was handed contracts that were proved by hand. Lean checks it.
namespace Go.Proofs.Ytngocadnbpdnoaa.Q
open Go.RowKit Go.Proofs.YtngocadnbpdnoaaW.PrintWords Go.Proofs.YtngocadnbpdnoaaW.PrintLast Go.Proofs.YtngocadnbpdnoaaW.PrintMore
attribute [local go_sem] max2_int min2_int max_two min_two max_three min_three max_four min_four   -- for this text's walks alone
set_option linter.unusedVariables false
set_option linter.unusedSimpArgs false

/-! ### model_SameAnswer: function 12 -/
def model_SameAnswer.f (k : Nat) (a0_0 : Int) (a0_1 : Bool) (a0_2 : Int) (a0_3 : Bool) (a0_4 : Int) (l0_5 : List (S90)) (a0_6 : Int) (a1_0 : Int) (a1_1 : Bool) (a1_2 : Int) (a1_3 : Bool) (a1_4 : Int) (l1_5 : List (S90)) (a1_6 : Int) : Option (Bool) := (api_Pair.f k l0_5 l1_5).bind fun t105 => (if t105 = true then (if a0_0 = a1_0 then (if (a0_1 == a1_1) = true then (if a0_2 = a1_2 then (if (a0_3 == a1_3) = true then (if a0_4 = a1_4 then (some (a0_6 == a1_6)) else (some false)) else (some false)) else (some false)) else (some false)) else (some false)) else (some false))
theorem model_SameAnswer.mono : ∀ a0 a1 a2 a3 a4 a5 a6 a7 a8 a9 a10 a11 a12 a13 k, LeO (model_SameAnswer.f k a0 a1 a2 a3 a4 a5 a6 a7 a8 a9 a10 a11 a12 a13) (model_SameAnswer.f (k + 1) a0 a1 a2 a3 a4 a5 a6 a7 a8 a9 a10 a11 a12 a13) := by
  intro a0 a1 a2 a3 a4 a5 a6 a7 a8 a9 a10 a11 a12 a13 k
  unfold model_SameAnswer.f
  repeat' first
      | (with_reducible exact api_Pair.mono _ _ _)
      | (with_reducible exact LeO.refl _)
      | (with_reducible exact LeO.none _)
      | (with_reducible refine LeO.ite ?_ ?_)
      | (with_reducible refine LeO.bind ?_ (fun _ => ?_))
      | exact api_Pair.mono _ _ _
      | exact LeO.none _
      | refine LeO.ite ?_ ?_
      | refine LeO.bind ?_ (fun _ => ?_)
set_option maxHeartbeats 8000000 in
set_option maxRecDepth 100000 in
theorem model_SameAnswer.calls (k : Nat) (a0_0 : Int) (a0_1 : Bool) (a0_2 : Int) (a0_3 : Bool) (a0_4 : Int) (A0_5 : Option Addr) (c0_5 : Nat) (l0_5 : List (S90)) (a0_6 : Int) (a1_0 : Int) (a1_1 : Bool) (a1_2 : Int) (a1_3 : Bool) (a1_4 : Int) (A1_5 : Option Addr) (c1_5 : Nat) (l1_5 : List (S90)) (a1_6 : Int) (r : Bool) (w : World) (hr0_5 : Kd.C k90 w A0_5 l0_5.length l0_5) (hc0_5 : l0_5.length ≤ c0_5) (hr1_5 : Kd.C k90 w A1_5 l1_5.length l1_5) (hc1_5 : l1_5.length ≤ c1_5) (h : model_SameAnswer.f k a0_0 a0_1 a0_2 a0_3 a0_4 l0_5 a0_6 a1_0 a1_1 a1_2 a1_3 a1_4 l1_5 a1_6 = some r) :
    Calls Try.prog 12 #[.agg #[.int .i64 a0_0, .bool a0_1, .int .u64 a0_2, .bool a0_3, .int .u64 a0_4, .slice A0_5 l0_5.length c0_5, .int .u64 a0_6], .agg #[.int .i64 a1_0, .bool a1_1, .int .u64 a1_2, .bool a1_3, .int .u64 a1_4, .slice A1_5 l1_5.length c1_5, .int .u64 a1_6]] w fun e w' => e = .returned (.bool r) ∧ Below w.heap.size w w' := by
  have hu26 := Try.underlying26
  have HR0_5 := Aside0.mk hr0_5
  have HC0_5 := Aside0.mk hc0_5
  clear hr0_5 hc0_5
  have HR1_5 := Aside0.mk hr1_5
  have HC1_5 := Aside0.mk hc1_5
  clear hr1_5 hc1_5
  have HB := Aside0.mk (Below.refl w.heap.size w)
  have H : ((api_Pair.f k l0_5 l1_5).bind fun t105 => (if t105 = true then (if a0_0 = a1_0 then (if (a0_1 == a1_1) = true then (if a0_2 = a1_2 then (if (a0_3 == a1_3) = true then (if a0_4 = a1_4 then (some (a0_6 == a1_6)) else (some false)) else (some false)) else (some false)) else (some false)) else (some false)) else (some false))) = some r := h
  clear h
  replace H := Option.bind_eq_some_iff.mp H
  obtain ⟨t105, A30, H⟩ := H
  replace H : (if t105 = true then (if a0_0 = a1_0 then (if (a0_1 == a1_1) = true then (if a0_2 = a1_2 then (if (a0_3 == a1_3) = true then (if a0_4 = a1_4 then (some (a0_6 == a1_6)) else (some false)) else (some false)) else (some false)) else (some false)) else (some false)) else (some false)) = some r := H
  have A3 := Aside0.mk A30
  clear A30
  by_cases c4 : t105 = true
  · subst c4
    have H1 : (if a0_0 = a1_0 then (if (a0_1 == a1_1) = true then (if a0_2 = a1_2 then (if (a0_3 == a1_3) = true then (if a0_4 = a1_4 then (some (a0_6 == a1_6)) else (some false)) else (some false)) else (some false)) else (some false)) else (some false)) = some r := by rw [if_pos rfl] at H; exact H
    clear H
    have H := H1
    clear H1
    by_cases c5 : a0_0 = a1_0
    · rw [if_pos c5] at H
      have c5b0 : (a0_0 == a1_0) = true := beq_iff_eq.mpr c5
      have c5b1 : (a0_0 != a1_0) = false := bne_eq_false_iff_eq.mpr c5
      clear c5
      by_cases c6 : (a0_1 == a1_1) = true
      · rw [if_pos c6] at H
        have c6b0 : (a0_1 == a1_1) = true := c6
        (try (have c6b1 : decide (a0_1 = a1_1) = true := by simpa using c6))
        (try (have c6b2 : (a0_1 == a1_1) = true := by simpa using c6))
        clear c6
        by_cases c7 : a0_2 = a1_2
        · rw [if_pos c7] at H
          have c7b0 : (a0_2 == a1_2) = true := beq_iff_eq.mpr c7
          have c7b1 : (a0_2 != a1_2) = false := bne_eq_false_iff_eq.mpr c7
          clear c7
          by_cases c8 : (a0_3 == a1_3) = true
          · rw [if_pos c8] at H
            have c8b0 : (a0_3 == a1_3) = true := c8
            (try (have c8b1 : decide (a0_3 = a1_3) = true := by simpa using c8))
            (try (have c8b2 : (a0_3 == a1_3) = true := by simpa using c8))
            clear c8
            by_cases c9 : a0_4 = a1_4
            · rw [if_pos c9] at H
              have c9b0 : (a0_4 == a1_4) = true := beq_iff_eq.mpr c9
              have c9b1 : (a0_4 != a1_4) = false := bne_eq_false_iff_eq.mpr c9
              clear c9
              obtain rfl := Option.some.inj H
              go_enter Try.func12, Try.ntmps12
              go_wp2_with (first | ((with_reducible refine gate_dst (N := 2) rfl ?_); refine box_event ?hg (N := 2) ?hd (cs := #[.int .i64 a0_0, .bool a0_1, .int .u64 a0_2, .bool a0_3, .int .u64 a0_4, .slice A0_5 l0_5.length c0_5, .int .u64 a0_6]) (t := 26) ?hr ?_; (case hd => rfl); (case hg => rfl); (case hr => first | (go_simp; done) | (go_simp; rfl)); intro gb103 hg w10 hbox hb; have n0_ := Aside0.mk (below_step (by repeat (first | (with_reducible first | exact HB.out | apply below_alloc | apply pw_below_drewN | apply below_drew1) | exact HB.out)) hb); have n1_ := Aside0.mk (hbox); have n2_ := Aside0.mk ((by rw [hg]; exact (below_size (by repeat (first | (with_reducible first | exact HB.out | apply below_alloc | apply pw_below_drewN | apply below_drew1) | exact HB.out))) : w.heap.size ≤ gb103)); have n3_ := Aside0.mk ((by rw [hg]; exact (below_size (by repeat (first | (with_reducible first | exact HB.out | apply below_alloc | apply pw_below_drewN | apply below_drew1) | exact HB.out))) : w.heap.size ≤ gb103)); clear HB; have HB := n0_; have BK103 := n1_; have GW103 := n2_; have GE103 := n3_; clear n0_ n1_ n2_ n3_; clear hb hbox hg) | ((with_reducible refine gate_dst (N := 3) rfl ?_); refine box_event ?hg (N := 3) ?hd (cs := #[.int .i64 a1_0, .bool a1_1, .int .u64 a1_2, .bool a1_3, .int .u64 a1_4, .slice A1_5 l1_5.length c1_5, .int .u64 a1_6]) (t := 26) ?hr ?_; (case hd => rfl); (case hg => rfl); (case hr => first | (go_simp; done) | (go_simp; rfl)); intro gb104 hg w11 hbox hb; have n0_ := Aside0.mk (blk_below (g := gb103) (o := .cells #[.int .i64 a0_0, .bool a0_1, .int .u64 a0_2, .bool a0_3, .int .u64 a0_4, .slice A0_5 l0_5.length c0_5, .int .u64 a0_6] 26 (0, 0)) (by (with_reducible repeat (first | refine blk_drewN ?_ _ | refine blk_drew ?_ | refine blk_alloc ?_ _)); exact BK103.out) hb); have n1_ := Aside0.mk (below_step (by repeat (first | (with_reducible first | exact HB.out | apply below_alloc | apply pw_below_drewN | apply below_drew1 | refine below_set ?_ GE103.out) | exact HB.out)) hb); have n2_ := Aside0.mk (hbox); have n3_ := Aside0.mk ((by rw [hg]; exact (below_size (by repeat (first | (with_reducible first | exact HB.out | apply below_alloc | apply pw_below_drewN | apply below_drew1 | refine below_set ?_ GE103.out) | exact HB.out))) : w.heap.size ≤ gb104)); have n4_ := Aside0.mk ((by rw [hg]; exact (below_size (by repeat (first | (with_reducible first | exact HB.out | apply below_alloc | apply pw_below_drewN | apply below_drew1 | refine below_set ?_ GE103.out) | exact HB.out))) : w.heap.size ≤ gb104)); have n5_ := Aside0.mk ((by rw [hg]; exact Nat.ne_of_lt (blk_lt (g := gb103) (o := .cells #[.int .i64 a0_0, .bool a0_1, .int .u64 a0_2, .bool a0_3, .int .u64 a0_4, .slice A0_5 l0_5.length c0_5, .int .u64 a0_6] 26 (0, 0)) (by (with_reducible repeat (first | refine blk_drewN ?_ _ | refine blk_drew ?_ | refine blk_alloc ?_ _)); exact BK103.out)) : gb103 ≠ gb104)); have n6_ := Aside0.mk ((by rw [hg]; exact Nat.ne_of_gt (blk_lt (g := gb103) (o := .cells #[.int .i64 a0_0, .bool a0_1, .int .u64 a0_2, .bool a0_3, .int .u64 a0_4, .slice A0_5 l0_5.length c0_5, .int .u64 a0_6] 26 (0, 0)) (by (with_reducible repeat (first | refine blk_drewN ?_ _ | refine blk_drew ?_ | refine blk_alloc ?_ _)); exact BK103.out)) : gb104 ≠ gb103)); clear BK103; clear HB; have BK103 := n0_; have HB := n1_; have BK104 := n2_; have GW104 := n3_; have GE104 := n4_; have NB103_104 := n5_; have NB104_103 := n6_; clear n0_ n1_ n2_ n3_ n4_ n5_ n6_; clear hb hbox hg; have hnb12 := NB103_104.out; have hnc12 := NB104_103.out; have hcz13_0 : w11.cell? ⟨gb103, 0, none⟩ = some (.int .i64 a0_0) := (blk_cell BK103.out 0).trans rfl; have hcz13_1 : w11.cell? ⟨gb103, 1, none⟩ = some (.bool a0_1) := (blk_cell BK103.out 1).trans rfl; have hcz13_2 : w11.cell? ⟨gb103, 2, none⟩ = some (.int .u64 a0_2) := (blk_cell BK103.out 2).trans rfl; have hcz13_3 : w11.cell? ⟨gb103, 3, none⟩ = some (.bool a0_3) := (blk_cell BK103.out 3).trans rfl; have hcz13_4 : w11.cell? ⟨gb103, 4, none⟩ = some (.int .u64 a0_4) := (blk_cell BK103.out 4).trans rfl; have hcz13_5 : w11.cell? ⟨gb103, 5, none⟩ = some (.slice A0_5 l0_5.length c0_5) := (blk_cell BK103.out 5).trans rfl; have hcz13_6 : w11.cell? ⟨gb103, 6, none⟩ = some (.int .u64 a0_6) := (blk_cell BK103.out 6).trans rfl; have hfz13_0 := blk_frozen BK103.out 0; have hfz13_1 := blk_frozen BK103.out 1; have hfz13_2 := blk_frozen BK103.out 2; have hfz13_3 := blk_frozen BK103.out 3; have hfz13_4 := blk_frozen BK103.out 4; have hfz13_5 := blk_frozen BK103.out 5; have hfz13_6 := blk_frozen BK103.out 6; have hcz14_0 : w11.cell? ⟨gb104, 0, none⟩ = some (.int .i64 a1_0) := (blk_cell BK104.out 0).trans rfl; have hcz14_1 : w11.cell? ⟨gb104, 1, none⟩ = some (.bool a1_1) := (blk_cell BK104.out 1).trans rfl; have hcz14_2 : w11.cell? ⟨gb104, 2, none⟩ = some (.int .u64 a1_2) := (blk_cell BK104.out 2).trans rfl; have hcz14_3 : w11.cell? ⟨gb104, 3, none⟩ = some (.bool a1_3) := (blk_cell BK104.out 3).trans rfl; have hcz14_4 : w11.cell? ⟨gb104, 4, none⟩ = some (.int .u64 a1_4) := (blk_cell BK104.out 4).trans rfl; have hcz14_5 : w11.cell? ⟨gb104, 5, none⟩ = some (.slice A1_5 l1_5.length c1_5) := (blk_cell BK104.out 5).trans rfl; have hcz14_6 : w11.cell? ⟨gb104, 6, none⟩ = some (.int .u64 a1_6) := (blk_cell BK104.out 6).trans rfl; have hfz14_0 := blk_frozen BK104.out 0; have hfz14_1 := blk_frozen BK104.out 1; have hfz14_2 := blk_frozen BK104.out 2; have hfz14_3 := blk_frozen BK104.out 3; have hfz14_4 := blk_frozen BK104.out 4; have hfz14_5 := blk_frozen BK104.out 5; have hfz14_6 := blk_frozen BK104.out 6) | ((with_reducible refine gate_callee (f := 34) rfl ?_); refine goesL_ (some 9) rfl rfl Try.func34 (by kernel_rfl) rfl #[.slice A0_5 l0_5.length c0_5, .slice A1_5 l1_5.length c1_5] rfl (by (try simp only [List.map_toArray, List.map_cons, List.map_nil]); first | done | rfl | (simp only [List.length_drop, List.length_take]; rfl)) ?_; (with_reducible refine (api_Pair.calls k _ _ l0_5 _ _ l1_5 true _ ?side1 ?side2 ?side3 ?side4 A3.out).mono ?_); (case side1 => repeat (first | exact (Kd.C_below HR0_5.out HB.out) | (with_reducible refine Kd.C_alloc ?_ _) | (with_reducible refine Kd.C_drewN ?_ _) | (with_reducible refine Kd.C_drew ?_))); (case side2 => exact HC0_5.out); (case side3 => repeat (first | exact (Kd.C_below HR1_5.out HB.out) | (with_reducible refine Kd.C_alloc ?_ _) | (with_reducible refine Kd.C_drewN ?_ _) | (with_reducible refine Kd.C_drew ?_))); (case side4 => exact HC1_5.out); rintro e w' ⟨rfl, ⟨nd, rfl⟩⟩; refine ⟨_, rfl, ?_⟩))
              go_ret
              exact ⟨by first | rfl | (simp [errW_none, errW_some] <;> rfl) | (simp [*, errW_none, errW_some] <;> rfl), by repeat (first | (with_reducible first | exact HB.out | apply below_alloc | apply pw_below_drewN | apply below_drew1 | refine below_set ?_ GE103.out | refine below_set ?_ GE104.out) | exact HB.out)⟩
            · rw [if_neg c9] at H
              have c9b0 : (a0_4 == a1_4) = false := beq_eq_false_iff_ne.mpr c9
              have c9b1 : (a0_4 != a1_4) = true := bne_iff_ne.mpr c9
              obtain rfl := Option.some.inj H
              go_enter Try.func12, Try.ntmps12
              go_wp2_with (first | ((with_reducible refine gate_dst (N := 2) rfl ?_); refine box_event ?hg (N := 2) ?hd (cs := #[.int .i64 a0_0, .bool a0_1, .int .u64 a0_2, .bool a0_3, .int .u64 a0_4, .slice A0_5 l0_5.length c0_5, .int .u64 a0_6]) (t := 26) ?hr ?_; (case hd => rfl); (case hg => rfl); (case hr => first | (go_simp; done) | (go_simp; rfl)); intro gb103 hg w15 hbox hb; have n0_ := Aside0.mk (below_step (by repeat (first | (with_reducible first | exact HB.out | apply below_alloc | apply pw_below_drewN | apply below_drew1) | exact HB.out)) hb); have n1_ := Aside0.mk (hbox); have n2_ := Aside0.mk ((by rw [hg]; exact (below_size (by repeat (first | (with_reducible first | exact HB.out | apply below_alloc | apply pw_below_drewN | apply below_drew1) | exact HB.out))) : w.heap.size ≤ gb103)); have n3_ := Aside0.mk ((by rw [hg]; exact (below_size (by repeat (first | (with_reducible first | exact HB.out | apply below_alloc | apply pw_below_drewN | apply below_drew1) | exact HB.out))) : w.heap.size ≤ gb103)); clear HB; have HB := n0_; have BK103 := n1_; have GW103 := n2_; have GE103 := n3_; clear n0_ n1_ n2_ n3_; clear hb hbox hg) | ((with_reducible refine gate_dst (N := 3) rfl ?_); refine box_event ?hg (N := 3) ?hd (cs := #[.int .i64 a1_0, .bool a1_1, .int .u64 a1_2, .bool a1_3, .int .u64 a1_4, .slice A1_5 l1_5.length c1_5, .int .u64 a1_6]) (t := 26) ?hr ?_; (case hd => rfl); (case hg => rfl); (case hr => first | (go_simp; done) | (go_simp; rfl)); intro gb104 hg w16 hbox hb; have n0_ := Aside0.mk (blk_below (g := gb103) (o := .cells #[.int .i64 a0_0, .bool a0_1, .int .u64 a0_2, .bool a0_3, .int .u64 a0_4, .slice A0_5 l0_5.length c0_5, .int .u64 a0_6] 26 (0, 0)) (by (with_reducible repeat (first | refine blk_drewN ?_ _ | refine blk_drew ?_ | refine blk_alloc ?_ _)); exact BK103.out) hb); have n1_ := Aside0.mk (below_step (by repeat (first | (with_reducible first | exact HB.out | apply below_alloc | apply pw_below_drewN | apply below_drew1 | refine below_set ?_ GE103.out) | exact HB.out)) hb); have n2_ := Aside0.mk (hbox); have n3_ := Aside0.mk ((by rw [hg]; exact (below_size (by repeat (first | (with_reducible first | exact HB.out | apply below_alloc | apply pw_below_drewN | apply below_drew1 | refine below_set ?_ GE103.out) | exact HB.out))) : w.heap.size ≤ gb104)); have n4_ := Aside0.mk ((by rw [hg]; exact (below_size (by repeat (first | (with_reducible first | exact HB.out | apply below_alloc | apply pw_below_drewN | apply below_drew1 | refine below_set ?_ GE103.out) | exact HB.out))) : w.heap.size ≤ gb104)); have n5_ := Aside0.mk ((by rw [hg]; exact Nat.ne_of_lt (blk_lt (g := gb103) (o := .cells #[.int .i64 a0_0, .bool a0_1, .int .u64 a0_2, .bool a0_3, .int .u64 a0_4, .slice A0_5 l0_5.length c0_5, .int .u64 a0_6] 26 (0, 0)) (by (with_reducible repeat (first | refine blk_drewN ?_ _ | refine blk_drew ?_ | refine blk_alloc ?_ _)); exact BK103.out)) : gb103 ≠ gb104)); have n6_ := Aside0.mk ((by rw [hg]; exact Nat.ne_of_gt (blk_lt (g := gb103) (o := .cells #[.int .i64 a0_0, .bool a0_1, .int .u64 a0_2, .bool a0_3, .int .u64 a0_4, .slice A0_5 l0_5.length c0_5, .int .u64 a0_6] 26 (0, 0)) (by (with_reducible repeat (first | refine blk_drewN ?_ _ | refine blk_drew ?_ | refine blk_alloc ?_ _)); exact BK103.out)) : gb104 ≠ gb103)); clear BK103; clear HB; have BK103 := n0_; have HB := n1_; have BK104 := n2_; have GW104 := n3_; have GE104 := n4_; have NB103_104 := n5_; have NB104_103 := n6_; clear n0_ n1_ n2_ n3_ n4_ n5_ n6_; clear hb hbox hg; have hnb17 := NB103_104.out; have hnc17 := NB104_103.out; have hcz18_0 : w16.cell? ⟨gb103, 0, none⟩ = some (.int .i64 a0_0) := (blk_cell BK103.out 0).trans rfl; have hcz18_1 : w16.cell? ⟨gb103, 1, none⟩ = some (.bool a0_1) := (blk_cell BK103.out 1).trans rfl; have hcz18_2 : w16.cell? ⟨gb103, 2, none⟩ = some (.int .u64 a0_2) := (blk_cell BK103.out 2).trans rfl; have hcz18_3 : w16.cell? ⟨gb103, 3, none⟩ = some (.bool a0_3) := (blk_cell BK103.out 3).trans rfl; have hcz18_4 : w16.cell? ⟨gb103, 4, none⟩ = some (.int .u64 a0_4) := (blk_cell BK103.out 4).trans rfl; have hcz18_5 : w16.cell? ⟨gb103, 5, none⟩ = some (.slice A0_5 l0_5.length c0_5) := (blk_cell BK103.out 5).trans rfl; have hcz18_6 : w16.cell? ⟨gb103, 6, none⟩ = some (.int .u64 a0_6) := (blk_cell BK103.out 6).trans rfl; have hfz18_0 := blk_frozen BK103.out 0; have hfz18_1 := blk_frozen BK103.out 1; have hfz18_2 := blk_frozen BK103.out 2; have hfz18_3 := blk_frozen BK103.out 3; have hfz18_4 := blk_frozen BK103.out 4; have hfz18_5 := blk_frozen BK103.out 5; have hfz18_6 := blk_frozen BK103.out 6; have hcz19_0 : w16.cell? ⟨gb104, 0, none⟩ = some (.int .i64 a1_0) := (blk_cell BK104.out 0).trans rfl; have hcz19_1 : w16.cell? ⟨gb104, 1, none⟩ = some (.bool a1_1) := (blk_cell BK104.out 1).trans rfl; have hcz19_2 : w16.cell? ⟨gb104, 2, none⟩ = some (.int .u64 a1_2) := (blk_cell BK104.out 2).trans rfl; have hcz19_3 : w16.cell? ⟨gb104, 3, none⟩ = some (.bool a1_3) := (blk_cell BK104.out 3).trans rfl; have hcz19_4 : w16.cell? ⟨gb104, 4, none⟩ = some (.int .u64 a1_4) := (blk_cell BK104.out 4).trans rfl; have hcz19_5 : w16.cell? ⟨gb104, 5, none⟩ = some (.slice A1_5 l1_5.length c1_5) := (blk_cell BK104.out 5).trans rfl; have hcz19_6 : w16.cell? ⟨gb104, 6, none⟩ = some (.int .u64 a1_6) := (blk_cell BK104.out 6).trans rfl; have hfz19_0 := blk_frozen BK104.out 0; have hfz19_1 := blk_frozen BK104.out 1; have hfz19_2 := blk_frozen BK104.out 2; have hfz19_3 := blk_frozen BK104.out 3; have hfz19_4 := blk_frozen BK104.out 4; have hfz19_5 := blk_frozen BK104.out 5; have hfz19_6 := blk_frozen BK104.out 6) | ((with_reducible refine gate_callee (f := 34) rfl ?_); refine goesL_ (some 9) rfl rfl Try.func34 (by kernel_rfl) rfl #[.slice A0_5 l0_5.length c0_5, .slice A1_5 l1_5.length c1_5] rfl (by (try simp only [List.map_toArray, List.map_cons, List.map_nil]); first | done | rfl | (simp only [List.length_drop, List.length_take]; rfl)) ?_; (with_reducible refine (api_Pair.calls k _ _ l0_5 _ _ l1_5 true _ ?side1 ?side2 ?side3 ?side4 A3.out).mono ?_); (case side1 => repeat (first | exact (Kd.C_below HR0_5.out HB.out) | (with_reducible refine Kd.C_alloc ?_ _) | (with_reducible refine Kd.C_drewN ?_ _) | (with_reducible refine Kd.C_drew ?_))); (case side2 => exact HC0_5.out); (case side3 => repeat (first | exact (Kd.C_below HR1_5.out HB.out) | (with_reducible refine Kd.C_alloc ?_ _) | (with_reducible refine Kd.C_drewN ?_ _) | (with_reducible refine Kd.C_drew ?_))); (case side4 => exact HC1_5.out); rintro e w' ⟨rfl, ⟨nd, rfl⟩⟩; refine ⟨_, rfl, ?_⟩))
              go_ret
              exact ⟨by first | rfl | (simp [errW_none, errW_some] <;> rfl) | (simp [*, errW_none, errW_some] <;> rfl), by repeat (first | (with_reducible first | exact HB.out | apply below_alloc | apply pw_below_drewN | apply below_drew1 | refine below_set ?_ GE103.out | refine below_set ?_ GE104.out) | exact HB.out)⟩
          · rw [if_neg c8] at H
            have c8b0 : (a0_3 == a1_3) = false := by simpa using c8
            (try (have c8b1 : decide (a0_3 = a1_3) = false := by simpa using c8))
            (try (have c8b2 : (a0_3 == a1_3) = false := by simpa using c8))
            (try (have c8b3 : ¬ (a0_3 = a1_3) := by simpa using c8))
            clear c8
            obtain rfl := Option.some.inj H
            go_enter Try.func12, Try.ntmps12
            go_wp2_with (first | ((with_reducible refine gate_dst (N := 2) rfl ?_); refine box_event ?hg (N := 2) ?hd (cs := #[.int .i64 a0_0, .bool a0_1, .int .u64 a0_2, .bool a0_3, .int .u64 a0_4, .slice A0_5 l0_5.length c0_5, .int .u64 a0_6]) (t := 26) ?hr ?_; (case hd => rfl); (case hg => rfl); (case hr => first | (go_simp; done) | (go_simp; rfl)); intro gb103 hg w20 hbox hb; have n0_ := Aside0.mk (below_step (by repeat (first | (with_reducible first | exact HB.out | apply below_alloc | apply pw_below_drewN | apply below_drew1) | exact HB.out)) hb); have n1_ := Aside0.mk (hbox); have n2_ := Aside0.mk ((by rw [hg]; exact (below_size (by repeat (first | (with_reducible first | exact HB.out | apply below_alloc | apply pw_below_drewN | apply below_drew1) | exact HB.out))) : w.heap.size ≤ gb103)); have n3_ := Aside0.mk ((by rw [hg]; exact (below_size (by repeat (first | (with_reducible first | exact HB.out | apply below_alloc | apply pw_below_drewN | apply below_drew1) | exact HB.out))) : w.heap.size ≤ gb103)); clear HB; have HB := n0_; have BK103 := n1_; have GW103 := n2_; have GE103 := n3_; clear n0_ n1_ n2_ n3_; clear hb hbox hg) | ((with_reducible refine gate_dst (N := 3) rfl ?_); refine box_event ?hg (N := 3) ?hd (cs := #[.int .i64 a1_0, .bool a1_1, .int .u64 a1_2, .bool a1_3, .int .u64 a1_4, .slice A1_5 l1_5.length c1_5, .int .u64 a1_6]) (t := 26) ?hr ?_; (case hd => rfl); (case hg => rfl); (case hr => first | (go_simp; done) | (go_simp; rfl)); intro gb104 hg w21 hbox hb; have n0_ := Aside0.mk (blk_below (g := gb103) (o := .cells #[.int .i64 a0_0, .bool a0_1, .int .u64 a0_2, .bool a0_3, .int .u64 a0_4, .slice A0_5 l0_5.length c0_5, .int .u64 a0_6] 26 (0, 0)) (by (with_reducible repeat (first | refine blk_drewN ?_ _ | refine blk_drew ?_ | refine blk_alloc ?_ _)); exact BK103.out) hb); have n1_ := Aside0.mk (below_step (by repeat (first | (with_reducible first | exact HB.out | apply below_alloc | apply pw_below_drewN | apply below_drew1 | refine below_set ?_ GE103.out) | exact HB.out)) hb); have n2_ := Aside0.mk (hbox); have n3_ := Aside0.mk ((by rw [hg]; exact (below_size (by repeat (first | (with_reducible first | exact HB.out | apply below_alloc | apply pw_below_drewN | apply below_drew1 | refine below_set ?_ GE103.out) | exact HB.out))) : w.heap.size ≤ gb104)); have n4_ := Aside0.mk ((by rw [hg]; exact (below_size (by repeat (first | (with_reducible first | exact HB.out | apply below_alloc | apply pw_below_drewN | apply below_drew1 | refine below_set ?_ GE103.out) | exact HB.out))) : w.heap.size ≤ gb104)); have n5_ := Aside0.mk ((by rw [hg]; exact Nat.ne_of_lt (blk_lt (g := gb103) (o := .cells #[.int .i64 a0_0, .bool a0_1, .int .u64 a0_2, .bool a0_3, .int .u64 a0_4, .slice A0_5 l0_5.length c0_5, .int .u64 a0_6] 26 (0, 0)) (by (with_reducible repeat (first | refine blk_drewN ?_ _ | refine blk_drew ?_ | refine blk_alloc ?_ _)); exact BK103.out)) : gb103 ≠ gb104)); have n6_ := Aside0.mk ((by rw [hg]; exact Nat.ne_of_gt (blk_lt (g := gb103) (o := .cells #[.int .i64 a0_0, .bool a0_1, .int .u64 a0_2, .bool a0_3, .int .u64 a0_4, .slice A0_5 l0_5.length c0_5, .int .u64 a0_6] 26 (0, 0)) (by (with_reducible repeat (first | refine blk_drewN ?_ _ | refine blk_drew ?_ | refine blk_alloc ?_ _)); exact BK103.out)) : gb104 ≠ gb103)); clear BK103; clear HB; have BK103 := n0_; have HB := n1_; have BK104 := n2_; have GW104 := n3_; have GE104 := n4_; have NB103_104 := n5_; have NB104_103 := n6_; clear n0_ n1_ n2_ n3_ n4_ n5_ n6_; clear hb hbox hg; have hnb22 := NB103_104.out; have hnc22 := NB104_103.out; have hcz23_0 : w21.cell? ⟨gb103, 0, none⟩ = some (.int .i64 a0_0) := (blk_cell BK103.out 0).trans rfl; have hcz23_1 : w21.cell? ⟨gb103, 1, none⟩ = some (.bool a0_1) := (blk_cell BK103.out 1).trans rfl; have hcz23_2 : w21.cell? ⟨gb103, 2, none⟩ = some (.int .u64 a0_2) := (blk_cell BK103.out 2).trans rfl; have hcz23_3 : w21.cell? ⟨gb103, 3, none⟩ = some (.bool a0_3) := (blk_cell BK103.out 3).trans rfl; have hcz23_4 : w21.cell? ⟨gb103, 4, none⟩ = some (.int .u64 a0_4) := (blk_cell BK103.out 4).trans rfl; have hcz23_5 : w21.cell? ⟨gb103, 5, none⟩ = some (.slice A0_5 l0_5.length c0_5) := (blk_cell BK103.out 5).trans rfl; have hcz23_6 : w21.cell? ⟨gb103, 6, none⟩ = some (.int .u64 a0_6) := (blk_cell BK103.out 6).trans rfl; have hfz23_0 := blk_frozen BK103.out 0; have hfz23_1 := blk_frozen BK103.out 1; have hfz23_2 := blk_frozen BK103.out 2; have hfz23_3 := blk_frozen BK103.out 3; have hfz23_4 := blk_frozen BK103.out 4; have hfz23_5 := blk_frozen BK103.out 5; have hfz23_6 := blk_frozen BK103.out 6; have hcz24_0 : w21.cell? ⟨gb104, 0, none⟩ = some (.int .i64 a1_0) := (blk_cell BK104.out 0).trans rfl; have hcz24_1 : w21.cell? ⟨gb104, 1, none⟩ = some (.bool a1_1) := (blk_cell BK104.out 1).trans rfl; have hcz24_2 : w21.cell? ⟨gb104, 2, none⟩ = some (.int .u64 a1_2) := (blk_cell BK104.out 2).trans rfl; have hcz24_3 : w21.cell? ⟨gb104, 3, none⟩ = some (.bool a1_3) := (blk_cell BK104.out 3).trans rfl; have hcz24_4 : w21.cell? ⟨gb104, 4, none⟩ = some (.int .u64 a1_4) := (blk_cell BK104.out 4).trans rfl; have hcz24_5 : w21.cell? ⟨gb104, 5, none⟩ = some (.slice A1_5 l1_5.length c1_5) := (blk_cell BK104.out 5).trans rfl; have hcz24_6 : w21.cell? ⟨gb104, 6, none⟩ = some (.int .u64 a1_6) := (blk_cell BK104.out 6).trans rfl; have hfz24_0 := blk_frozen BK104.out 0; have hfz24_1 := blk_frozen BK104.out 1; have hfz24_2 := blk_frozen BK104.out 2; have hfz24_3 := blk_frozen BK104.out 3; have hfz24_4 := blk_frozen BK104.out 4; have hfz24_5 := blk_frozen BK104.out 5; have hfz24_6 := blk_frozen BK104.out 6) | ((with_reducible refine gate_callee (f := 34) rfl ?_); refine goesL_ (some 9) rfl rfl Try.func34 (by kernel_rfl) rfl #[.slice A0_5 l0_5.length c0_5, .slice A1_5 l1_5.length c1_5] rfl (by (try simp only [List.map_toArray, List.map_cons, List.map_nil]); first | done | rfl | (simp only [List.length_drop, List.length_take]; rfl)) ?_; (with_reducible refine (api_Pair.calls k _ _ l0_5 _ _ l1_5 true _ ?side1 ?side2 ?side3 ?side4 A3.out).mono ?_); (case side1 => repeat (first | exact (Kd.C_below HR0_5.out HB.out) | (with_reducible refine Kd.C_alloc ?_ _) | (with_reducible refine Kd.C_drewN ?_ _) | (with_reducible refine Kd.C_drew ?_))); (case side2 => exact HC0_5.out); (case side3 => repeat (first | exact (Kd.C_below HR1_5.out HB.out) | (with_reducible refine Kd.C_alloc ?_ _) | (with_reducible refine Kd.C_drewN ?_ _) | (with_reducible refine Kd.C_drew ?_))); (case side4 => exact HC1_5.out); rintro e w' ⟨rfl, ⟨nd, rfl⟩⟩; refine ⟨_, rfl, ?_⟩))
            go_ret
            exact ⟨by first | rfl | (simp [errW_none, errW_some] <;> rfl) | (simp [*, errW_none, errW_some] <;> rfl), by repeat (first | (with_reducible first | exact HB.out | apply below_alloc | apply pw_below_drewN | apply below_drew1 | refine below_set ?_ GE103.out | refine below_set ?_ GE104.out) | exact HB.out)⟩
        · rw [if_neg c7] at H
          have c7b0 : (a0_2 == a1_2) = false := beq_eq_false_iff_ne.mpr c7
          have c7b1 : (a0_2 != a1_2) = true := bne_iff_ne.mpr c7
          obtain rfl := Option.some.inj H
          go_enter Try.func12, Try.ntmps12
          go_wp2_with (first | ((with_reducible refine gate_dst (N := 2) rfl ?_); refine box_event ?hg (N := 2) ?hd (cs := #[.int .i64 a0_0, .bool a0_1, .int .u64 a0_2, .bool a0_3, .int .u64 a0_4, .slice A0_5 l0_5.length c0_5, .int .u64 a0_6]) (t := 26) ?hr ?_; (case hd => rfl); (case hg => rfl); (case hr => first | (go_simp; done) | (go_simp; rfl)); intro gb103 hg w25 hbox hb; have n0_ := Aside0.mk (below_step (by repeat (first | (with_reducible first | exact HB.out | apply below_alloc | apply pw_below_drewN | apply below_drew1) | exact HB.out)) hb); have n1_ := Aside0.mk (hbox); have n2_ := Aside0.mk ((by rw [hg]; exact (below_size (by repeat (first | (with_reducible first | exact HB.out | apply below_alloc | apply pw_below_drewN | apply below_drew1) | exact HB.out))) : w.heap.size ≤ gb103)); have n3_ := Aside0.mk ((by rw [hg]; exact (below_size (by repeat (first | (with_reducible first | exact HB.out | apply below_alloc | apply pw_below_drewN | apply below_drew1) | exact HB.out))) : w.heap.size ≤ gb103)); clear HB; have HB := n0_; have BK103 := n1_; have GW103 := n2_; have GE103 := n3_; clear n0_ n1_ n2_ n3_; clear hb hbox hg) | ((with_reducible refine gate_dst (N := 3) rfl ?_); refine box_event ?hg (N := 3) ?hd (cs := #[.int .i64 a1_0, .bool a1_1, .int .u64 a1_2, .bool a1_3, .int .u64 a1_4, .slice A1_5 l1_5.length c1_5, .int .u64 a1_6]) (t := 26) ?hr ?_; (case hd => rfl); (case hg => rfl); (case hr => first | (go_simp; done) | (go_simp; rfl)); intro gb104 hg w26 hbox hb; have n0_ := Aside0.mk (blk_below (g := gb103) (o := .cells #[.int .i64 a0_0, .bool a0_1, .int .u64 a0_2, .bool a0_3, .int .u64 a0_4, .slice A0_5 l0_5.length c0_5, .int .u64 a0_6] 26 (0, 0)) (by (with_reducible repeat (first | refine blk_drewN ?_ _ | refine blk_drew ?_ | refine blk_alloc ?_ _)); exact BK103.out) hb); have n1_ := Aside0.mk (below_step (by repeat (first | (with_reducible first | exact HB.out | apply below_alloc | apply pw_below_drewN | apply below_drew1 | refine below_set ?_ GE103.out) | exact HB.out)) hb); have n2_ := Aside0.mk (hbox); have n3_ := Aside0.mk ((by rw [hg]; exact (below_size (by repeat (first | (with_reducible first | exact HB.out | apply below_alloc | apply pw_below_drewN | apply below_drew1 | refine below_set ?_ GE103.out) | exact HB.out))) : w.heap.size ≤ gb104)); have n4_ := Aside0.mk ((by rw [hg]; exact (below_size (by repeat (first | (with_reducible first | exact HB.out | apply below_alloc | apply pw_below_drewN | apply below_drew1 | refine below_set ?_ GE103.out) | exact HB.out))) : w.heap.size ≤ gb104)); have n5_ := Aside0.mk ((by rw [hg]; exact Nat.ne_of_lt (blk_lt (g := gb103) (o := .cells #[.int .i64 a0_0, .bool a0_1, .int .u64 a0_2, .bool a0_3, .int .u64 a0_4, .slice A0_5 l0_5.length c0_5, .int .u64 a0_6] 26 (0, 0)) (by (with_reducible repeat (first | refine blk_drewN ?_ _ | refine blk_drew ?_ | refine blk_alloc ?_ _)); exact BK103.out)) : gb103 ≠ gb104)); have n6_ := Aside0.mk ((by rw [hg]; exact Nat.ne_of_gt (blk_lt (g := gb103) (o := .cells #[.int .i64 a0_0, .bool a0_1, .int .u64 a0_2, .bool a0_3, .int .u64 a0_4, .slice A0_5 l0_5.length c0_5, .int .u64 a0_6] 26 (0, 0)) (by (with_reducible repeat (first | refine blk_drewN ?_ _ | refine blk_drew ?_ | refine blk_alloc ?_ _)); exact BK103.out)) : gb104 ≠ gb103)); clear BK103; clear HB; have BK103 := n0_; have HB := n1_; have BK104 := n2_; have GW104 := n3_; have GE104 := n4_; have NB103_104 := n5_; have NB104_103 := n6_; clear n0_ n1_ n2_ n3_ n4_ n5_ n6_; clear hb hbox hg; have hnb27 := NB103_104.out; have hnc27 := NB104_103.out; have hcz28_0 : w26.cell? ⟨gb103, 0, none⟩ = some (.int .i64 a0_0) := (blk_cell BK103.out 0).trans rfl; have hcz28_1 : w26.cell? ⟨gb103, 1, none⟩ = some (.bool a0_1) := (blk_cell BK103.out 1).trans rfl; have hcz28_2 : w26.cell? ⟨gb103, 2, none⟩ = some (.int .u64 a0_2) := (blk_cell BK103.out 2).trans rfl; have hcz28_3 : w26.cell? ⟨gb103, 3, none⟩ = some (.bool a0_3) := (blk_cell BK103.out 3).trans rfl; have hcz28_4 : w26.cell? ⟨gb103, 4, none⟩ = some (.int .u64 a0_4) := (blk_cell BK103.out 4).trans rfl; have hcz28_5 : w26.cell? ⟨gb103, 5, none⟩ = some (.slice A0_5 l0_5.length c0_5) := (blk_cell BK103.out 5).trans rfl; have hcz28_6 : w26.cell? ⟨gb103, 6, none⟩ = some (.int .u64 a0_6) := (blk_cell BK103.out 6).trans rfl; have hfz28_0 := blk_frozen BK103.out 0; have hfz28_1 := blk_frozen BK103.out 1; have hfz28_2 := blk_frozen BK103.out 2; have hfz28_3 := blk_frozen BK103.out 3; have hfz28_4 := blk_frozen BK103.out 4; have hfz28_5 := blk_frozen BK103.out 5; have hfz28_6 := blk_frozen BK103.out 6; have hcz29_0 : w26.cell? ⟨gb104, 0, none⟩ = some (.int .i64 a1_0) := (blk_cell BK104.out 0).trans rfl; have hcz29_1 : w26.cell? ⟨gb104, 1, none⟩ = some (.bool a1_1) := (blk_cell BK104.out 1).trans rfl; have hcz29_2 : w26.cell? ⟨gb104, 2, none⟩ = some (.int .u64 a1_2) := (blk_cell BK104.out 2).trans rfl; have hcz29_3 : w26.cell? ⟨gb104, 3, none⟩ = some (.bool a1_3) := (blk_cell BK104.out 3).trans rfl; have hcz29_4 : w26.cell? ⟨gb104, 4, none⟩ = some (.int .u64 a1_4) := (blk_cell BK104.out 4).trans rfl; have hcz29_5 : w26.cell? ⟨gb104, 5, none⟩ = some (.slice A1_5 l1_5.length c1_5) := (blk_cell BK104.out 5).trans rfl; have hcz29_6 : w26.cell? ⟨gb104, 6, none⟩ = some (.int .u64 a1_6) := (blk_cell BK104.out 6).trans rfl; have hfz29_0 := blk_frozen BK104.out 0; have hfz29_1 := blk_frozen BK104.out 1; have hfz29_2 := blk_frozen BK104.out 2; have hfz29_3 := blk_frozen BK104.out 3; have hfz29_4 := blk_frozen BK104.out 4; have hfz29_5 := blk_frozen BK104.out 5; have hfz29_6 := blk_frozen BK104.out 6) | ((with_reducible refine gate_callee (f := 34) rfl ?_); refine goesL_ (some 9) rfl rfl Try.func34 (by kernel_rfl) rfl #[.slice A0_5 l0_5.length c0_5, .slice A1_5 l1_5.length c1_5] rfl (by (try simp only [List.map_toArray, List.map_cons, List.map_nil]); first | done | rfl | (simp only [List.length_drop, List.length_take]; rfl)) ?_; (with_reducible refine (api_Pair.calls k _ _ l0_5 _ _ l1_5 true _ ?side1 ?side2 ?side3 ?side4 A3.out).mono ?_); (case side1 => repeat (first | exact (Kd.C_below HR0_5.out HB.out) | (with_reducible refine Kd.C_alloc ?_ _) | (with_reducible refine Kd.C_drewN ?_ _) | (with_reducible refine Kd.C_drew ?_))); (case side2 => exact HC0_5.out); (case side3 => repeat (first | exact (Kd.C_below HR1_5.out HB.out) | (with_reducible refine Kd.C_alloc ?_ _) | (with_reducible refine Kd.C_drewN ?_ _) | (with_reducible refine Kd.C_drew ?_))); (case side4 => exact HC1_5.out); rintro e w' ⟨rfl, ⟨nd, rfl⟩⟩; refine ⟨_, rfl, ?_⟩))
          go_ret
          exact ⟨by first | rfl | (simp [errW_none, errW_some] <;> rfl) | (simp [*, errW_none, errW_some] <;> rfl), by repeat (first | (with_reducible first | exact HB.out | apply below_alloc | apply pw_below_drewN | apply below_drew1 | refine below_set ?_ GE103.out | refine below_set ?_ GE104.out) | exact HB.out)⟩
      · rw [if_neg c6] at H
        have c6b0 : (a0_1 == a1_1) = false := by simpa using c6
        (try (have c6b1 : decide (a0_1 = a1_1) = false := by simpa using c6))
        (try (have c6b2 : (a0_1 == a1_1) = false := by simpa using c6))
        (try (have c6b3 : ¬ (a0_1 = a1_1) := by simpa using c6))
        clear c6
        obtain rfl := Option.some.inj H
        go_enter Try.func12, Try.ntmps12
        go_wp2_with (first | ((with_reducible refine gate_dst (N := 2) rfl ?_); refine box_event ?hg (N := 2) ?hd (cs := #[.int .i64 a0_0, .bool a0_1, .int .u64 a0_2, .bool a0_3, .int .u64 a0_4, .slice A0_5 l0_5.length c0_5, .int .u64 a0_6]) (t := 26) ?hr ?_; (case hd => rfl); (case hg => rfl); (case hr => first | (go_simp; done) | (go_simp; rfl)); intro gb103 hg w30 hbox hb; have n0_ := Aside0.mk (below_step (by repeat (first | (with_reducible first | exact HB.out | apply below_alloc | apply pw_below_drewN | apply below_drew1) | exact HB.out)) hb); have n1_ := Aside0.mk (hbox); have n2_ := Aside0.mk ((by rw [hg]; exact (below_size (by repeat (first | (with_reducible first | exact HB.out | apply below_alloc | apply pw_below_drewN | apply below_drew1) | exact HB.out))) : w.heap.size ≤ gb103)); have n3_ := Aside0.mk ((by rw [hg]; exact (below_size (by repeat (first | (with_reducible first | exact HB.out | apply below_alloc | apply pw_below_drewN | apply below_drew1) | exact HB.out))) : w.heap.size ≤ gb103)); clear HB; have HB := n0_; have BK103 := n1_; have GW103 := n2_; have GE103 := n3_; clear n0_ n1_ n2_ n3_; clear hb hbox hg) | ((with_reducible refine gate_dst (N := 3) rfl ?_); refine box_event ?hg (N := 3) ?hd (cs := #[.int .i64 a1_0, .bool a1_1, .int .u64 a1_2, .bool a1_3, .int .u64 a1_4, .slice A1_5 l1_5.length c1_5, .int .u64 a1_6]) (t := 26) ?hr ?_; (case hd => rfl); (case hg => rfl); (case hr => first | (go_simp; done) | (go_simp; rfl)); intro gb104 hg w31 hbox hb; have n0_ := Aside0.mk (blk_below (g := gb103) (o := .cells #[.int .i64 a0_0, .bool a0_1, .int .u64 a0_2, .bool a0_3, .int .u64 a0_4, .slice A0_5 l0_5.length c0_5, .int .u64 a0_6] 26 (0, 0)) (by (with_reducible repeat (first | refine blk_drewN ?_ _ | refine blk_drew ?_ | refine blk_alloc ?_ _)); exact BK103.out) hb); have n1_ := Aside0.mk (below_step (by repeat (first | (with_reducible first | exact HB.out | apply below_alloc | apply pw_below_drewN | apply below_drew1 | refine below_set ?_ GE103.out) | exact HB.out)) hb); have n2_ := Aside0.mk (hbox); have n3_ := Aside0.mk ((by rw [hg]; exact (below_size (by repeat (first | (with_reducible first | exact HB.out | apply below_alloc | apply pw_below_drewN | apply below_drew1 | refine below_set ?_ GE103.out) | exact HB.out))) : w.heap.size ≤ gb104)); have n4_ := Aside0.mk ((by rw [hg]; exact (below_size (by repeat (first | (with_reducible first | exact HB.out | apply below_alloc | apply pw_below_drewN | apply below_drew1 | refine below_set ?_ GE103.out) | exact HB.out))) : w.heap.size ≤ gb104)); have n5_ := Aside0.mk ((by rw [hg]; exact Nat.ne_of_lt (blk_lt (g := gb103) (o := .cells #[.int .i64 a0_0, .bool a0_1, .int .u64 a0_2, .bool a0_3, .int .u64 a0_4, .slice A0_5 l0_5.length c0_5, .int .u64 a0_6] 26 (0, 0)) (by (with_reducible repeat (first | refine blk_drewN ?_ _ | refine blk_drew ?_ | refine blk_alloc ?_ _)); exact BK103.out)) : gb103 ≠ gb104)); have n6_ := Aside0.mk ((by rw [hg]; exact Nat.ne_of_gt (blk_lt (g := gb103) (o := .cells #[.int .i64 a0_0, .bool a0_1, .int .u64 a0_2, .bool a0_3, .int .u64 a0_4, .slice A0_5 l0_5.length c0_5, .int .u64 a0_6] 26 (0, 0)) (by (with_reducible repeat (first | refine blk_drewN ?_ _ | refine blk_drew ?_ | refine blk_alloc ?_ _)); exact BK103.out)) : gb104 ≠ gb103)); clear BK103; clear HB; have BK103 := n0_; have HB := n1_; have BK104 := n2_; have GW104 := n3_; have GE104 := n4_; have NB103_104 := n5_; have NB104_103 := n6_; clear n0_ n1_ n2_ n3_ n4_ n5_ n6_; clear hb hbox hg; have hnb32 := NB103_104.out; have hnc32 := NB104_103.out; have hcz33_0 : w31.cell? ⟨gb103, 0, none⟩ = some (.int .i64 a0_0) := (blk_cell BK103.out 0).trans rfl; have hcz33_1 : w31.cell? ⟨gb103, 1, none⟩ = some (.bool a0_1) := (blk_cell BK103.out 1).trans rfl; have hcz33_2 : w31.cell? ⟨gb103, 2, none⟩ = some (.int .u64 a0_2) := (blk_cell BK103.out 2).trans rfl; have hcz33_3 : w31.cell? ⟨gb103, 3, none⟩ = some (.bool a0_3) := (blk_cell BK103.out 3).trans rfl; have hcz33_4 : w31.cell? ⟨gb103, 4, none⟩ = some (.int .u64 a0_4) := (blk_cell BK103.out 4).trans rfl; have hcz33_5 : w31.cell? ⟨gb103, 5, none⟩ = some (.slice A0_5 l0_5.length c0_5) := (blk_cell BK103.out 5).trans rfl; have hcz33_6 : w31.cell? ⟨gb103, 6, none⟩ = some (.int .u64 a0_6) := (blk_cell BK103.out 6).trans rfl; have hfz33_0 := blk_frozen BK103.out 0; have hfz33_1 := blk_frozen BK103.out 1; have hfz33_2 := blk_frozen BK103.out 2; have hfz33_3 := blk_frozen BK103.out 3; have hfz33_4 := blk_frozen BK103.out 4; have hfz33_5 := blk_frozen BK103.out 5; have hfz33_6 := blk_frozen BK103.out 6; have hcz34_0 : w31.cell? ⟨gb104, 0, none⟩ = some (.int .i64 a1_0) := (blk_cell BK104.out 0).trans rfl; have hcz34_1 : w31.cell? ⟨gb104, 1, none⟩ = some (.bool a1_1) := (blk_cell BK104.out 1).trans rfl; have hcz34_2 : w31.cell? ⟨gb104, 2, none⟩ = some (.int .u64 a1_2) := (blk_cell BK104.out 2).trans rfl; have hcz34_3 : w31.cell? ⟨gb104, 3, none⟩ = some (.bool a1_3) := (blk_cell BK104.out 3).trans rfl; have hcz34_4 : w31.cell? ⟨gb104, 4, none⟩ = some (.int .u64 a1_4) := (blk_cell BK104.out 4).trans rfl; have hcz34_5 : w31.cell? ⟨gb104, 5, none⟩ = some (.slice A1_5 l1_5.length c1_5) := (blk_cell BK104.out 5).trans rfl; have hcz34_6 : w31.cell? ⟨gb104, 6, none⟩ = some (.int .u64 a1_6) := (blk_cell BK104.out 6).trans rfl; have hfz34_0 := blk_frozen BK104.out 0; have hfz34_1 := blk_frozen BK104.out 1; have hfz34_2 := blk_frozen BK104.out 2; have hfz34_3 := blk_frozen BK104.out 3; have hfz34_4 := blk_frozen BK104.out 4; have hfz34_5 := blk_frozen BK104.out 5; have hfz34_6 := blk_frozen BK104.out 6) | ((with_reducible refine gate_callee (f := 34) rfl ?_); refine goesL_ (some 9) rfl rfl Try.func34 (by kernel_rfl) rfl #[.slice A0_5 l0_5.length c0_5, .slice A1_5 l1_5.length c1_5] rfl (by (try simp only [List.map_toArray, List.map_cons, List.map_nil]); first | done | rfl | (simp only [List.length_drop, List.length_take]; rfl)) ?_; (with_reducible refine (api_Pair.calls k _ _ l0_5 _ _ l1_5 true _ ?side1 ?side2 ?side3 ?side4 A3.out).mono ?_); (case side1 => repeat (first | exact (Kd.C_below HR0_5.out HB.out) | (with_reducible refine Kd.C_alloc ?_ _) | (with_reducible refine Kd.C_drewN ?_ _) | (with_reducible refine Kd.C_drew ?_))); (case side2 => exact HC0_5.out); (case side3 => repeat (first | exact (Kd.C_below HR1_5.out HB.out) | (with_reducible refine Kd.C_alloc ?_ _) | (with_reducible refine Kd.C_drewN ?_ _) | (with_reducible refine Kd.C_drew ?_))); (case side4 => exact HC1_5.out); rintro e w' ⟨rfl, ⟨nd, rfl⟩⟩; refine ⟨_, rfl, ?_⟩))
        go_ret
        exact ⟨by first | rfl | (simp [errW_none, errW_some] <;> rfl) | (simp [*, errW_none, errW_some] <;> rfl), by repeat (first | (with_reducible first | exact HB.out | apply below_alloc | apply pw_below_drewN | apply below_drew1 | refine below_set ?_ GE103.out | refine below_set ?_ GE104.out) | exact HB.out)⟩
    · rw [if_neg c5] at H
      have c5b0 : (a0_0 == a1_0) = false := beq_eq_false_iff_ne.mpr c5
      have c5b1 : (a0_0 != a1_0) = true := bne_iff_ne.mpr c5
      obtain rfl := Option.some.inj H
      go_enter Try.func12, Try.ntmps12
      go_wp2_with (first | ((with_reducible refine gate_dst (N := 2) rfl ?_); refine box_event ?hg (N := 2) ?hd (cs := #[.int .i64 a0_0, .bool a0_1, .int .u64 a0_2, .bool a0_3, .int .u64 a0_4, .slice A0_5 l0_5.length c0_5, .int .u64 a0_6]) (t := 26) ?hr ?_; (case hd => rfl); (case hg => rfl); (case hr => first | (go_simp; done) | (go_simp; rfl)); intro gb103 hg w35 hbox hb; have n0_ := Aside0.mk (below_step (by repeat (first | (with_reducible first | exact HB.out | apply below_alloc | apply pw_below_drewN | apply below_drew1) | exact HB.out)) hb); have n1_ := Aside0.mk (hbox); have n2_ := Aside0.mk ((by rw [hg]; exact (below_size (by repeat (first | (with_reducible first | exact HB.out | apply below_alloc | apply pw_below_drewN | apply below_drew1) | exact HB.out))) : w.heap.size ≤ gb103)); have n3_ := Aside0.mk ((by rw [hg]; exact (below_size (by repeat (first | (with_reducible first | exact HB.out | apply below_alloc | apply pw_below_drewN | apply below_drew1) | exact HB.out))) : w.heap.size ≤ gb103)); clear HB; have HB := n0_; have BK103 := n1_; have GW103 := n2_; have GE103 := n3_; clear n0_ n1_ n2_ n3_; clear hb hbox hg) | ((with_reducible refine gate_dst (N := 3) rfl ?_); refine box_event ?hg (N := 3) ?hd (cs := #[.int .i64 a1_0, .bool a1_1, .int .u64 a1_2, .bool a1_3, .int .u64 a1_4, .slice A1_5 l1_5.length c1_5, .int .u64 a1_6]) (t := 26) ?hr ?_; (case hd => rfl); (case hg => rfl); (case hr => first | (go_simp; done) | (go_simp; rfl)); intro gb104 hg w36 hbox hb; have n0_ := Aside0.mk (blk_below (g := gb103) (o := .cells #[.int .i64 a0_0, .bool a0_1, .int .u64 a0_2, .bool a0_3, .int .u64 a0_4, .slice A0_5 l0_5.length c0_5, .int .u64 a0_6] 26 (0, 0)) (by (with_reducible repeat (first | refine blk_drewN ?_ _ | refine blk_drew ?_ | refine blk_alloc ?_ _)); exact BK103.out) hb); have n1_ := Aside0.mk (below_step (by repeat (first | (with_reducible first | exact HB.out | apply below_alloc | apply pw_below_drewN | apply below_drew1 | refine below_set ?_ GE103.out) | exact HB.out)) hb); have n2_ := Aside0.mk (hbox); have n3_ := Aside0.mk ((by rw [hg]; exact (below_size (by repeat (first | (with_reducible first | exact HB.out | apply below_alloc | apply pw_below_drewN | apply below_drew1 | refine below_set ?_ GE103.out) | exact HB.out))) : w.heap.size ≤ gb104)); have n4_ := Aside0.mk ((by rw [hg]; exact (below_size (by repeat (first | (with_reducible first | exact HB.out | apply below_alloc | apply pw_below_drewN | apply below_drew1 | refine below_set ?_ GE103.out) | exact HB.out))) : w.heap.size ≤ gb104)); have n5_ := Aside0.mk ((by rw [hg]; exact Nat.ne_of_lt (blk_lt (g := gb103) (o := .cells #[.int .i64 a0_0, .bool a0_1, .int .u64 a0_2, .bool a0_3, .int .u64 a0_4, .slice A0_5 l0_5.length c0_5, .int .u64 a0_6] 26 (0, 0)) (by (with_reducible repeat (first | refine blk_drewN ?_ _ | refine blk_drew ?_ | refine blk_alloc ?_ _)); exact BK103.out)) : gb103 ≠ gb104)); have n6_ := Aside0.mk ((by rw [hg]; exact Nat.ne_of_gt (blk_lt (g := gb103) (o := .cells #[.int .i64 a0_0, .bool a0_1, .int .u64 a0_2, .bool a0_3, .int .u64 a0_4, .slice A0_5 l0_5.length c0_5, .int .u64 a0_6] 26 (0, 0)) (by (with_reducible repeat (first | refine blk_drewN ?_ _ | refine blk_drew ?_ | refine blk_alloc ?_ _)); exact BK103.out)) : gb104 ≠ gb103)); clear BK103; clear HB; have BK103 := n0_; have HB := n1_; have BK104 := n2_; have GW104 := n3_; have GE104 := n4_; have NB103_104 := n5_; have NB104_103 := n6_; clear n0_ n1_ n2_ n3_ n4_ n5_ n6_; clear hb hbox hg; have hnb37 := NB103_104.out; have hnc37 := NB104_103.out; have hcz38_0 : w36.cell? ⟨gb103, 0, none⟩ = some (.int .i64 a0_0) := (blk_cell BK103.out 0).trans rfl; have hcz38_1 : w36.cell? ⟨gb103, 1, none⟩ = some (.bool a0_1) := (blk_cell BK103.out 1).trans rfl; have hcz38_2 : w36.cell? ⟨gb103, 2, none⟩ = some (.int .u64 a0_2) := (blk_cell BK103.out 2).trans rfl; have hcz38_3 : w36.cell? ⟨gb103, 3, none⟩ = some (.bool a0_3) := (blk_cell BK103.out 3).trans rfl; have hcz38_4 : w36.cell? ⟨gb103, 4, none⟩ = some (.int .u64 a0_4) := (blk_cell BK103.out 4).trans rfl; have hcz38_5 : w36.cell? ⟨gb103, 5, none⟩ = some (.slice A0_5 l0_5.length c0_5) := (blk_cell BK103.out 5).trans rfl; have hcz38_6 : w36.cell? ⟨gb103, 6, none⟩ = some (.int .u64 a0_6) := (blk_cell BK103.out 6).trans rfl; have hfz38_0 := blk_frozen BK103.out 0; have hfz38_1 := blk_frozen BK103.out 1; have hfz38_2 := blk_frozen BK103.out 2; have hfz38_3 := blk_frozen BK103.out 3; have hfz38_4 := blk_frozen BK103.out 4; have hfz38_5 := blk_frozen BK103.out 5; have hfz38_6 := blk_frozen BK103.out 6; have hcz39_0 : w36.cell? ⟨gb104, 0, none⟩ = some (.int .i64 a1_0) := (blk_cell BK104.out 0).trans rfl; have hcz39_1 : w36.cell? ⟨gb104, 1, none⟩ = some (.bool a1_1) := (blk_cell BK104.out 1).trans rfl; have hcz39_2 : w36.cell? ⟨gb104, 2, none⟩ = some (.int .u64 a1_2) := (blk_cell BK104.out 2).trans rfl; have hcz39_3 : w36.cell? ⟨gb104, 3, none⟩ = some (.bool a1_3) := (blk_cell BK104.out 3).trans rfl; have hcz39_4 : w36.cell? ⟨gb104, 4, none⟩ = some (.int .u64 a1_4) := (blk_cell BK104.out 4).trans rfl; have hcz39_5 : w36.cell? ⟨gb104, 5, none⟩ = some (.slice A1_5 l1_5.length c1_5) := (blk_cell BK104.out 5).trans rfl; have hcz39_6 : w36.cell? ⟨gb104, 6, none⟩ = some (.int .u64 a1_6) := (blk_cell BK104.out 6).trans rfl; have hfz39_0 := blk_frozen BK104.out 0; have hfz39_1 := blk_frozen BK104.out 1; have hfz39_2 := blk_frozen BK104.out 2; have hfz39_3 := blk_frozen BK104.out 3; have hfz39_4 := blk_frozen BK104.out 4; have hfz39_5 := blk_frozen BK104.out 5; have hfz39_6 := blk_frozen BK104.out 6) | ((with_reducible refine gate_callee (f := 34) rfl ?_); refine goesL_ (some 9) rfl rfl Try.func34 (by kernel_rfl) rfl #[.slice A0_5 l0_5.length c0_5, .slice A1_5 l1_5.length c1_5] rfl (by (try simp only [List.map_toArray, List.map_cons, List.map_nil]); first | done | rfl | (simp only [List.length_drop, List.length_take]; rfl)) ?_; (with_reducible refine (api_Pair.calls k _ _ l0_5 _ _ l1_5 true _ ?side1 ?side2 ?side3 ?side4 A3.out).mono ?_); (case side1 => repeat (first | exact (Kd.C_below HR0_5.out HB.out) | (with_reducible refine Kd.C_alloc ?_ _) | (with_reducible refine Kd.C_drewN ?_ _) | (with_reducible refine Kd.C_drew ?_))); (case side2 => exact HC0_5.out); (case side3 => repeat (first | exact (Kd.C_below HR1_5.out HB.out) | (with_reducible refine Kd.C_alloc ?_ _) | (with_reducible refine Kd.C_drewN ?_ _) | (with_reducible refine Kd.C_drew ?_))); (case side4 => exact HC1_5.out); rintro e w' ⟨rfl, ⟨nd, rfl⟩⟩; refine ⟨_, rfl, ?_⟩))
      go_ret
      exact ⟨by first | rfl | (simp [errW_none, errW_some] <;> rfl) | (simp [*, errW_none, errW_some] <;> rfl), by repeat (first | (with_reducible first | exact HB.out | apply below_alloc | apply pw_below_drewN | apply below_drew1 | refine below_set ?_ GE103.out | refine below_set ?_ GE104.out) | exact HB.out)⟩
  · replace c4 := Bool.eq_false_iff.mpr c4
    subst c4
    have H1 : (some false) = some r := by rw [if_neg (show ¬ (false = true) by decide)] at H; exact H
    clear H
    have H := H1
    clear H1
    obtain rfl := Option.some.inj H
    go_enter Try.func12, Try.ntmps12
    go_wp2_with (first | ((with_reducible refine gate_dst (N := 2) rfl ?_); refine box_event ?hg (N := 2) ?hd (cs := #[.int .i64 a0_0, .bool a0_1, .int .u64 a0_2, .bool a0_3, .int .u64 a0_4, .slice A0_5 l0_5.length c0_5, .int .u64 a0_6]) (t := 26) ?hr ?_; (case hd => rfl); (case hg => rfl); (case hr => first | (go_simp; done) | (go_simp; rfl)); intro gb103 hg w40 hbox hb; have n0_ := Aside0.mk (below_step (by repeat (first | (with_reducible first | exact HB.out | apply below_alloc | apply pw_below_drewN | apply below_drew1) | exact HB.out)) hb); have n1_ := Aside0.mk (hbox); have n2_ := Aside0.mk ((by rw [hg]; exact (below_size (by repeat (first | (with_reducible first | exact HB.out | apply below_alloc | apply pw_below_drewN | apply below_drew1) | exact HB.out))) : w.heap.size ≤ gb103)); have n3_ := Aside0.mk ((by rw [hg]; exact (below_size (by repeat (first | (with_reducible first | exact HB.out | apply below_alloc | apply pw_below_drewN | apply below_drew1) | exact HB.out))) : w.heap.size ≤ gb103)); clear HB; have HB := n0_; have BK103 := n1_; have GW103 := n2_; have GE103 := n3_; clear n0_ n1_ n2_ n3_; clear hb hbox hg) | ((with_reducible refine gate_dst (N := 3) rfl ?_); refine box_event ?hg (N := 3) ?hd (cs := #[.int .i64 a1_0, .bool a1_1, .int .u64 a1_2, .bool a1_3, .int .u64 a1_4, .slice A1_5 l1_5.length c1_5, .int .u64 a1_6]) (t := 26) ?hr ?_; (case hd => rfl); (case hg => rfl); (case hr => first | (go_simp; done) | (go_simp; rfl)); intro gb104 hg w41 hbox hb; have n0_ := Aside0.mk (blk_below (g := gb103) (o := .cells #[.int .i64 a0_0, .bool a0_1, .int .u64 a0_2, .bool a0_3, .int .u64 a0_4, .slice A0_5 l0_5.length c0_5, .int .u64 a0_6] 26 (0, 0)) (by (with_reducible repeat (first | refine blk_drewN ?_ _ | refine blk_drew ?_ | refine blk_alloc ?_ _)); exact BK103.out) hb); have n1_ := Aside0.mk (below_step (by repeat (first | (with_reducible first | exact HB.out | apply below_alloc | apply pw_below_drewN | apply below_drew1 | refine below_set ?_ GE103.out) | exact HB.out)) hb); have n2_ := Aside0.mk (hbox); have n3_ := Aside0.mk ((by rw [hg]; exact (below_size (by repeat (first | (with_reducible first | exact HB.out | apply below_alloc | apply pw_below_drewN | apply below_drew1 | refine below_set ?_ GE103.out) | exact HB.out))) : w.heap.size ≤ gb104)); have n4_ := Aside0.mk ((by rw [hg]; exact (below_size (by repeat (first | (with_reducible first | exact HB.out | apply below_alloc | apply pw_below_drewN | apply below_drew1 | refine below_set ?_ GE103.out) | exact HB.out))) : w.heap.size ≤ gb104)); have n5_ := Aside0.mk ((by rw [hg]; exact Nat.ne_of_lt (blk_lt (g := gb103) (o := .cells #[.int .i64 a0_0, .bool a0_1, .int .u64 a0_2, .bool a0_3, .int .u64 a0_4, .slice A0_5 l0_5.length c0_5, .int .u64 a0_6] 26 (0, 0)) (by (with_reducible repeat (first | refine blk_drewN ?_ _ | refine blk_drew ?_ | refine blk_alloc ?_ _)); exact BK103.out)) : gb103 ≠ gb104)); have n6_ := Aside0.mk ((by rw [hg]; exact Nat.ne_of_gt (blk_lt (g := gb103) (o := .cells #[.int .i64 a0_0, .bool a0_1, .int .u64 a0_2, .bool a0_3, .int .u64 a0_4, .slice A0_5 l0_5.length c0_5, .int .u64 a0_6] 26 (0, 0)) (by (with_reducible repeat (first | refine blk_drewN ?_ _ | refine blk_drew ?_ | refine blk_alloc ?_ _)); exact BK103.out)) : gb104 ≠ gb103)); clear BK103; clear HB; have BK103 := n0_; have HB := n1_; have BK104 := n2_; have GW104 := n3_; have GE104 := n4_; have NB103_104 := n5_; have NB104_103 := n6_; clear n0_ n1_ n2_ n3_ n4_ n5_ n6_; clear hb hbox hg; have hnb42 := NB103_104.out; have hnc42 := NB104_103.out; have hcz43_0 : w41.cell? ⟨gb103, 0, none⟩ = some (.int .i64 a0_0) := (blk_cell BK103.out 0).trans rfl; have hcz43_1 : w41.cell? ⟨gb103, 1, none⟩ = some (.bool a0_1) := (blk_cell BK103.out 1).trans rfl; have hcz43_2 : w41.cell? ⟨gb103, 2, none⟩ = some (.int .u64 a0_2) := (blk_cell BK103.out 2).trans rfl; have hcz43_3 : w41.cell? ⟨gb103, 3, none⟩ = some (.bool a0_3) := (blk_cell BK103.out 3).trans rfl; have hcz43_4 : w41.cell? ⟨gb103, 4, none⟩ = some (.int .u64 a0_4) := (blk_cell BK103.out 4).trans rfl; have hcz43_5 : w41.cell? ⟨gb103, 5, none⟩ = some (.slice A0_5 l0_5.length c0_5) := (blk_cell BK103.out 5).trans rfl; have hcz43_6 : w41.cell? ⟨gb103, 6, none⟩ = some (.int .u64 a0_6) := (blk_cell BK103.out 6).trans rfl; have hfz43_0 := blk_frozen BK103.out 0; have hfz43_1 := blk_frozen BK103.out 1; have hfz43_2 := blk_frozen BK103.out 2; have hfz43_3 := blk_frozen BK103.out 3; have hfz43_4 := blk_frozen BK103.out 4; have hfz43_5 := blk_frozen BK103.out 5; have hfz43_6 := blk_frozen BK103.out 6; have hcz44_0 : w41.cell? ⟨gb104, 0, none⟩ = some (.int .i64 a1_0) := (blk_cell BK104.out 0).trans rfl; have hcz44_1 : w41.cell? ⟨gb104, 1, none⟩ = some (.bool a1_1) := (blk_cell BK104.out 1).trans rfl; have hcz44_2 : w41.cell? ⟨gb104, 2, none⟩ = some (.int .u64 a1_2) := (blk_cell BK104.out 2).trans rfl; have hcz44_3 : w41.cell? ⟨gb104, 3, none⟩ = some (.bool a1_3) := (blk_cell BK104.out 3).trans rfl; have hcz44_4 : w41.cell? ⟨gb104, 4, none⟩ = some (.int .u64 a1_4) := (blk_cell BK104.out 4).trans rfl; have hcz44_5 : w41.cell? ⟨gb104, 5, none⟩ = some (.slice A1_5 l1_5.length c1_5) := (blk_cell BK104.out 5).trans rfl; have hcz44_6 : w41.cell? ⟨gb104, 6, none⟩ = some (.int .u64 a1_6) := (blk_cell BK104.out 6).trans rfl; have hfz44_0 := blk_frozen BK104.out 0; have hfz44_1 := blk_frozen BK104.out 1; have hfz44_2 := blk_frozen BK104.out 2; have hfz44_3 := blk_frozen BK104.out 3; have hfz44_4 := blk_frozen BK104.out 4; have hfz44_5 := blk_frozen BK104.out 5; have hfz44_6 := blk_frozen BK104.out 6) | ((with_reducible refine gate_callee (f := 34) rfl ?_); refine goesL_ (some 9) rfl rfl Try.func34 (by kernel_rfl) rfl #[.slice A0_5 l0_5.length c0_5, .slice A1_5 l1_5.length c1_5] rfl (by (try simp only [List.map_toArray, List.map_cons, List.map_nil]); first | done | rfl | (simp only [List.length_drop, List.length_take]; rfl)) ?_; (with_reducible refine (api_Pair.calls k _ _ l0_5 _ _ l1_5 false _ ?side1 ?side2 ?side3 ?side4 A3.out).mono ?_); (case side1 => repeat (first | exact (Kd.C_below HR0_5.out HB.out) | (with_reducible refine Kd.C_alloc ?_ _) | (with_reducible refine Kd.C_drewN ?_ _) | (with_reducible refine Kd.C_drew ?_))); (case side2 => exact HC0_5.out); (case side3 => repeat (first | exact (Kd.C_below HR1_5.out HB.out) | (with_reducible refine Kd.C_alloc ?_ _) | (with_reducible refine Kd.C_drewN ?_ _) | (with_reducible refine Kd.C_drew ?_))); (case side4 => exact HC1_5.out); rintro e w' ⟨rfl, ⟨nd, rfl⟩⟩; refine ⟨_, rfl, ?_⟩))
    go_ret
    exact ⟨by first | rfl | (simp [errW_none, errW_some] <;> rfl) | (simp [*, errW_none, errW_some] <;> rfl), by repeat (first | (with_reducible first | exact HB.out | apply below_alloc | apply pw_below_drewN | apply below_drew1 | refine below_set ?_ GE103.out | refine below_set ?_ GE104.out) | exact HB.out)⟩

end Go.Proofs.Ytngocadnbpdnoaa.Q
namespace Go.Proofs.Ytngocadnbpdnoaa.Mo
open Go Go.Maps Go.RowKit Go.Proofs.Ytngocadnbpdnoaa.Srt Go.Proofs.Ytngocadnbpdnoaa.Q Go.Proofs.YtngocadnbpdnoaaW.PrintWords Go.Proofs.YtngocadnbpdnoaaW.PrintLast Go.Proofs.YtngocadnbpdnoaaW.PrintMore
set_option linter.unusedVariables false
set_option linter.unusedSimpArgs false
instance decSP : DecidableEq SP := fun a b => decidable_of_iff (a.f0 = b.f0 ∧ a.f1 = b.f1) (by cases a; cases b; simp)
theorem rd_get {xs : List SP} {i : Nat} (h : i < xs.length) : rd_T90 xs (i : Int) = xs[i] := by
  unfold rd_T90
  simp [List.getD_eq_getElem?_getD, h]
theorem pair_ne {a b : SP} : ((!(a.f0 == b.f0)) || (!(a.f1 == b.f1))) = true ↔ ¬ a = b := by
  rcases a with ⟨a0, a1⟩
  rcases b with ⟨b0, b1⟩
  by_cases h0 : a0 = b0 <;> by_cases h1 : a1 = b1 <;> simp [h0, h1]
theorem drop_iff {x0 x1 : List SP} {i : Nat} (h0 : i < x0.length) (h1 : i < x1.length) : x0.drop i = x1.drop i ↔ x0[i] = x1[i] ∧ x0.drop (i + 1) = x1.drop (i + 1) := by
  rw [List.drop_eq_getElem_cons h0, List.drop_eq_getElem_cons h1, List.cons.injEq]
theorem samP_l0 (x0 x1 : List SP) (hl : x0.length = x1.length) (hm : x0.length ≤ 4398046511104) : ∀ m i : Nat, i + m = x0.length → api_Pair.l0 (m + 1) x0 x1 (x0.length : Int) (i : Int) = some (decide (x0.drop i = x1.drop i))
  | 0, i, e => by
    unfold api_Pair.l0
    rw [if_neg (by omega)]
    rw [List.drop_eq_nil_of_le (by omega), List.drop_eq_nil_of_le (by omega)]; simp
  | m + 1, i, e => by
    unfold api_Pair.l0
    have h0 : i < x0.length := by omega
    have h1 : i < x1.length := by omega
    rw [if_pos (by omega), if_pos (by omega), if_pos (by omega), if_pos (by omega), rd_get h0, rd_get h1]
    by_cases hd : x0[i] = x1[i]
    · rw [if_neg (by rw [pair_ne]; simpa using hd), show wrap64 ((i : Int) + 1) = ((i + 1 : Nat) : Int) by unfold wrap64; omega, samP_l0 x0 x1 hl hm m (i + 1) (by omega)]
      simp [drop_iff h0 h1, hd]
    · rw [if_pos (pair_ne.2 hd)]
      simp [drop_iff h0 h1, hd]
theorem samP_f (x0 x1 : List SP) (hm : x0.length ≤ 4398046511104) : ∃ k, api_Pair.f k x0 x1 = some (decide (x0 = x1)) := by
  unfold api_Pair.f
  by_cases hl : x0.length = x1.length
  · exact ⟨x0.length + 1, by rw [if_pos (by omega)]; simpa using samP_l0 x0 x1 hl hm x0.length 0 (by omega)⟩
  · exact ⟨0, by rw [if_neg (by omega)]; simp; intro e; exact hl (by rw [e])⟩
abbrev AnS := S26
def anV (x : AnS) (A : Option Addr) (c : Nat) : Value := .agg #[.int .i64 x.f0, .bool x.f1, .int .u64 x.f2, .bool x.f3, .int .u64 x.f4, .slice A x.f5.length c, .int .u64 x.f6]
def anEq (x y : AnS) : Bool := decide (x.f5 = y.f5) && (x.f0 == y.f0) && (x.f1 == y.f1) && (x.f2 == y.f2) && (x.f3 == y.f3) && (x.f4 == y.f4) && (x.f6 == y.f6)
theorem ifs {p : Prop} [Decidable p] {a b : Bool} : (if p then (some a) else some false) = some (decide p && a) := by by_cases h : p <;> simp [h]
theorem sameAns_c (x y : AnS) (A B : Option Addr) (c d : Nat) (w : World) (hA : Kd.C k90 w A x.f5.length x.f5) (hc : x.f5.length ≤ c) (hB : Kd.C k90 w B y.f5.length y.f5) (hd : y.f5.length ≤ d) (hm : x.f5.length ≤ 4398046511104) :
    Calls Try.prog 12 #[anV x A c, anV y B d] w fun e w' => e = .returned (.bool (anEq x y)) ∧ Below w.heap.size w w' := by
  obtain ⟨k, hk⟩ := samP_f x.f5 y.f5 hm
  refine model_SameAnswer.calls k _ _ _ _ _ A c x.f5 _ _ _ _ _ _ B d y.f5 _ _ w hA hc hB hd ?_
  unfold model_SameAnswer.f
  rw [hk]
  simp only [Option.bind_some]
  simp only [anEq, ifs, decide_eq_true_eq, Bool.and_assoc]
  congr 1
  by_cases h0 : x.f5 = y.f5 <;> by_cases h1 : x.f0 = y.f0 <;> by_cases h2 : x.f1 = y.f1 <;> by_cases h3 : x.f2 = y.f2 <;> by_cases h4 : x.f3 = y.f3 <;> by_cases h5 : x.f4 = y.f4 <;> simp [h0, h1, h2, h3, h4, h5]
end Go.Proofs.Ytngocadnbpdnoaa.Mo
namespace Go.Proofs.Ytngocadnbpdnoaa.Mo
open Go Go.Maps Go.RowKit Go.Proofs.Ytngocadnbpdnoaa.Srt Go.Proofs.Ytngocadnbpdnoaa.Q Go.Proofs.YtngocadnbpdnoaaW.PrintWords Go.Proofs.YtngocadnbpdnoaaW.PrintLast Go.Proofs.YtngocadnbpdnoaaW.PrintMore
set_option linter.unusedVariables false
set_option linter.unusedSimpArgs false
def ansS (d : AnsD) : AnS := ⟨d.e, d.fo, d.v, d.dn, d.h, toS d.ps, d.c⟩
/-- Do's law for one operation and handle: what it does to a state, and what it tells. -/
def DoC (o : OpS) (hdl : Int) (st : MS → MS × AnsD) : Prop :=
  ∀ (f : Nat → Option PL) (N gp bn bh : Nat) (multi : Int) (now : PL) (held : List (Int × PL)) (A : Option Addr) (c : Nat) (w : World), PM w f N gp bn bh multi now held → Fro w f N → N ≤ 1099511627776 →
    Calls Try.prog 15 #[.pointer (some ⟨gp, 0, none⟩), .agg (opC o A c), .int .u64 hdl] w (DoPost w f (N + 1) gp bn bh (st ⟨multi, now, held⟩).1 (st ⟨multi, now, held⟩).2)
theorem op_cells {w : World} {g : Nat} {o : OpS} {A : Option Addr} {c : Nat} (hb : w.heap[g]? = some (.cells (opC o A c) 39 (0, 0))) :
    w.cell? ⟨g, 0, none⟩ = some (.int .u8 o.f0) ∧ w.cell? ⟨g, 1, none⟩ = some (.int .u64 o.f1) ∧ w.cell? ⟨g, 2, none⟩ = some (.int .u64 o.f2) ∧ w.cell? ⟨g, 3, none⟩ = some (.int .u64 o.f3) ∧ w.cell? ⟨g, 4, none⟩ = some (.int .u64 o.f4) ∧ w.cell? ⟨g, 5, none⟩ = some (.bool o.f5.f0) ∧ w.cell? ⟨g, 6, none⟩ = some (.int .i64 o.f5.f1) ∧ w.cell? ⟨g, 7, none⟩ = some (.int .i64 o.f5.f2) ∧ w.cell? ⟨g, 8, none⟩ = some (.slice A o.f6.length c) ∧ w.cell? ⟨g, 9, none⟩ = some (.int .u64 o.f7) ∧ w.cell? ⟨g, 10, none⟩ = some (.int .u64 o.f8) := by
  refine ⟨?_, ?_, ?_, ?_, ?_, ?_, ?_, ?_, ?_, ?_, ?_⟩ <;> (rw [blk_cell hb]; rfl)
/-- The worlds of Take: behind its boxes. -/
def tkW (w : World) (o : OpS) (A : Option Addr) (c : Nat) (a : AnS) (B : Option Addr) (d : Nat) : World := (w.alloc (.cells (opC o A c) 39)).alloc (.cells (ansC a.f0 a.f1 a.f2 a.f3 a.f4 (.slice B a.f5.length d) a.f6) 26)
theorem tkW_below (w : World) (o : OpS) (A : Option Addr) (c : Nat) (a : AnS) (B : Option Addr) (d : Nat) : Below w.heap.size w (tkW w o A c a B d) := below_alloc (below_alloc (Below.refl _ _) _) _
theorem tkW_size (w : World) (o : OpS) (A : Option Addr) (c : Nat) (a : AnS) (B : Option Addr) (d : Nat) : (tkW w o A c a B d).heap.size = w.heap.size + 2 := by simp [tkW]
theorem tkW_op (w : World) (o : OpS) (A : Option Addr) (c : Nat) (a : AnS) (B : Option Addr) (d : Nat) : (tkW w o A c a B d).heap[w.heap.size]? = some (.cells (opC o A c) 39 (0, 0)) := by
  have h := heap_alloc_new w (.cells (opC o A c) 39)
  have hl : w.heap.size < (w.alloc (.cells (opC o A c) 39)).heap.size := by simp
  exact ((below_alloc (Below.refl _ (w.alloc (.cells (opC o A c) 39))) (.cells (ansC a.f0 a.f1 a.f2 a.f3 a.f4 (.slice B a.f5.length d) a.f6) 26)).block _ hl).trans h
theorem tkW_ans (w : World) (o : OpS) (A : Option Addr) (c : Nat) (a : AnS) (B : Option Addr) (d : Nat) : (tkW w o A c a B d).heap[w.heap.size + 1]? = some (.cells (ansC a.f0 a.f1 a.f2 a.f3 a.f4 (.slice B a.f5.length d) a.f6) 26 (0, 0)) := by
  have h := heap_alloc_new (w.alloc (.cells (opC o A c) 39)) (.cells (ansC a.f0 a.f1 a.f2 a.f3 a.f4 (.slice B a.f5.length d) a.f6) 26)
  simpa [tkW] using h
/-- The cells of both boxes. -/
def TkS (g : Nat) (o : OpS) (A : Option Addr) (c : Nat) (a : AnS) (B : Option Addr) (d : Nat) (w' : World) : Prop :=
  w'.heap[g]? = some (.cells (opC o A c) 39 (0, 0)) ∧ w'.heap[g + 1]? = some (.cells (ansC a.f0 a.f1 a.f2 a.f3 a.f4 (.slice B a.f5.length d) a.f6) 26 (0, 0)) ∧ Kd.C k90 w' B a.f5.length a.f5
theorem Below.low {w W : World} {n : Nat} (h : Below n w W) (m : Nat) (hm : m ≤ n) : Below m w W := h.mono hm
end Go.Proofs.Ytngocadnbpdnoaa.Mo
namespace Go.Proofs.Ytngocadnbpdnoaa.Mo
open Go Go.Maps Go.RowKit Go.Proofs.Ytngocadnbpdnoaa.Srt Go.Proofs.Ytngocadnbpdnoaa.Q Go.Proofs.YtngocadnbpdnoaaW.PrintWords Go.Proofs.YtngocadnbpdnoaaW.PrintLast Go.Proofs.YtngocadnbpdnoaaW.PrintMore
set_option linter.unusedVariables false
set_option linter.unusedSimpArgs false
theorem cells18 {w' : World} {g : Nat} {o : OpS} {A : Option Addr} {c : Nat} {a : AnS} {B : Option Addr} {d : Nat} (h1 : w'.heap[g]? = some (.cells (opC o A c) 39 (0, 0))) (h2 : w'.heap[g + 1]? = some (.cells (ansC a.f0 a.f1 a.f2 a.f3 a.f4 (.slice B a.f5.length d) a.f6) 26 (0, 0))) :
    w'.cell? ⟨g, 0, none⟩ = some (.int .u8 o.f0) ∧ w'.cell? ⟨g, 1, none⟩ = some (.int .u64 o.f1) ∧ w'.cell? ⟨g, 2, none⟩ = some (.int .u64 o.f2) ∧ w'.cell? ⟨g, 3, none⟩ = some (.int .u64 o.f3) ∧ w'.cell? ⟨g, 4, none⟩ = some (.int .u64 o.f4) ∧ w'.cell? ⟨g, 5, none⟩ = some (.bool o.f5.f0) ∧ w'.cell? ⟨g, 6, none⟩ = some (.int .i64 o.f5.f1) ∧ w'.cell? ⟨g, 7, none⟩ = some (.int .i64 o.f5.f2) ∧ w'.cell? ⟨g, 8, none⟩ = some (.slice A o.f6.length c) ∧ w'.cell? ⟨g, 9, none⟩ = some (.int .u64 o.f7) ∧ w'.cell? ⟨g, 10, none⟩ = some (.int .u64 o.f8) ∧ w'.cell? ⟨g + 1, 0, none⟩ = some (.int .i64 a.f0) ∧ w'.cell? ⟨g + 1, 1, none⟩ = some (.bool a.f1) ∧ w'.cell? ⟨g + 1, 2, none⟩ = some (.int .u64 a.f2) ∧ w'.cell? ⟨g + 1, 3, none⟩ = some (.bool a.f3) ∧ w'.cell? ⟨g + 1, 4, none⟩ = some (.int .u64 a.f4) ∧ w'.cell? ⟨g + 1, 5, none⟩ = some (.slice B a.f5.length d) ∧ w'.cell? ⟨g + 1, 6, none⟩ = some (.int .u64 a.f6) := by
  obtain ⟨q0, q1, q2, q3, q4, q5, q6, q7, q8, q9, q10⟩ := op_cells h1
  obtain ⟨p0, p1, p2, p3, p4, p5, p6⟩ := ans_cells h2
  exact ⟨q0, q1, q2, q3, q4, q5, q6, q7, q8, q9, q10, p0, p1, p2, p3, p4, p5, p6⟩
set_option maxRecDepth 100000 in
set_option maxHeartbeats 16000000 in
theorem take_rest (o : OpS) (a : AnS) (A B : Option Addr) (c d : Nat) (st : MS → MS × AnsD) (hD : DoC o 0 st) (f : Nat → Option PL) (N gp bn bh : Nat) (multi : Int) (now : PL) (held : List (Int × PL)) (w : World) (hM : PM w f N gp bn bh multi now held) (hF : Fro w f N) (hN : N + 1 ≤ 1099511627776)
    (hC : ∀ W', Kept w W' (fun k => k = bn ∨ k = bh) → Kd.C k90 W' B a.f5.length a.f5) (hd : a.f5.length ≤ d) (ho : ∀ k : Int, 2 ≤ k → k ≤ 10 → k ≠ 6 → (o.f0 == k) = false) (hps : (st ⟨multi, now, held⟩).2.ps.length ≤ 4398046511104) :
    Calls Try.prog 22 #[.pointer (some ⟨gp, 0, none⟩), .agg (opC o A c), anV a B d] w fun e w' => e = .returned (.bool (anEq (ansS (st ⟨multi, now, held⟩).2) a)) ∧ Left w w' f (N + 2) gp bn bh (if anEq (ansS (st ⟨multi, now, held⟩).2) a = true then (st ⟨multi, now, held⟩).1 else ⟨multi, now, held⟩).multi (if anEq (ansS (st ⟨multi, now, held⟩).2) a = true then (st ⟨multi, now, held⟩).1 else ⟨multi, now, held⟩).now (if anEq (ansS (st ⟨multi, now, held⟩).2) a = true then (st ⟨multi, now, held⟩).1 else ⟨multi, now, held⟩).held (fun k => k = bn ∨ k = bh) := by
  have hgl := hM.gl
  have hnl := hM.now.lt
  have hhl := hM.held.1.lt
  have q2 := ho 2 (by omega) (by omega) (by omega)
  have q3 := ho 3 (by omega) (by omega) (by omega)
  have q4 := ho 4 (by omega) (by omega) (by omega)
  have q5 := ho 5 (by omega) (by omega) (by omega)
  have q7 := ho 7 (by omega) (by omega) (by omega)
  have q8 := ho 8 (by omega) (by omega) (by omega)
  have q9 := ho 9 (by omega) (by omega) (by omega)
  have q10 := ho 10 (by omega) (by omega) (by omega)
  have hb0 := tkW_below w o A c a B d
  have hO0 := tkW_op w o A c a B d
  have hA0 := tkW_ans w o A c a B d
  have hk0 : (tkW w o A c a B d).cell? ⟨w.heap.size, 0, none⟩ = some (.int .u8 o.f0) := (op_cells hO0).1
  have hs0 := tkW_size w o A c a B d
  have HM := Lib.hid hM
  have HF := Lib.hid hF
  have HC := Lib.hid hC
  have HD := Lib.hid hD
  have HB0 := Lib.hid hb0
  have HO0 := Lib.hid hO0
  have HA0 := Lib.hid hA0
  clear hM hF hC hD ho hb0 hO0 hA0
  obtain ⟨s, hs⟩ : ∃ s : MS, s = ⟨multi, now, held⟩ := ⟨_, rfl⟩
  rw [← hs] at hps ⊢
  have HS := Lib.hid hs
  obtain ⟨D, hDD⟩ : ∃ D : AnsD, D = (st s).2 := ⟨_, rfl⟩
  rw [← hDD] at hps ⊢
  have HDD := Lib.hid hDD
  clear hs hDD
  go_enter Try.func22, Try.ntmps22
  go_upto_region 4 with fail
  change Code.wp _ _ _ _ (tkW w o A c a B d)
  obtain ⟨W0, hW0⟩ : ∃ W0, W0 = tkW w o A c a B d := ⟨_, rfl⟩
  rw [← hW0] at HB0 HO0 HA0 hk0 hs0 ⊢
  clear hW0
  go_upto_region 26 with (go_at_call 30; (refine (fork_c f N gp bn bh multi now held W0 (HM.out.kept (Kept.of_below HB0.out (fun _ => False)) (fun e => e) (fun e => e) (fun e => e)) (HF.out.kept (Kept.of_below HB0.out (fun _ => False)) (fun _ _ _ e => e)) (by omega)).mono ?_; rintro e w1 ⟨gq, bm, bi, rfl, f1, hE1, hP1, hF1, hB1, hq1, hq2, hq3⟩))
  have hbw1 : Below w.heap.size w w1 := HB0.out.trans (hB1.mono HB0.out.size)
  have HO1 : Hid (w1.drew.heap[w.heap.size]? = some (.cells (opC o A c) 39 (0, 0))) := Lib.hid ((hB1.block _ (by omega)).trans HO0.out)
  have HA1 : Hid (w1.drew.heap[w.heap.size + 1]? = some (.cells (ansC a.f0 a.f1 a.f2 a.f3 a.f4 (.slice B a.f5.length d) a.f6) 26 (0, 0))) := Lib.hid ((hB1.block _ (by omega)).trans HA0.out)
  have HP1 := Lib.hid hP1
  have HF1 := Lib.hid hF1
  have HE1 := Lib.hid hE1
  have HB1 := Lib.hid hbw1
  have HS1 : Hid (W0.heap.size ≤ w1.drew.heap.size) := Lib.hid hB1.size
  clear hP1 hF1 hE1 hbw1 hB1
  have hS1 := cells18 HO1.out HA1.out
  go_region_held3 (fun w' => w'.cell? ⟨w.heap.size, 0, none⟩ = some (.int .u8 o.f0) ∧ w'.cell? ⟨w.heap.size, 1, none⟩ = some (.int .u64 o.f1) ∧ w'.cell? ⟨w.heap.size, 2, none⟩ = some (.int .u64 o.f2) ∧ w'.cell? ⟨w.heap.size, 3, none⟩ = some (.int .u64 o.f3) ∧ w'.cell? ⟨w.heap.size, 4, none⟩ = some (.int .u64 o.f4) ∧ w'.cell? ⟨w.heap.size, 5, none⟩ = some (.bool o.f5.f0) ∧ w'.cell? ⟨w.heap.size, 6, none⟩ = some (.int .i64 o.f5.f1) ∧ w'.cell? ⟨w.heap.size, 7, none⟩ = some (.int .i64 o.f5.f2) ∧ w'.cell? ⟨w.heap.size, 8, none⟩ = some (.slice A o.f6.length c) ∧ w'.cell? ⟨w.heap.size, 9, none⟩ = some (.int .u64 o.f7) ∧ w'.cell? ⟨w.heap.size, 10, none⟩ = some (.int .u64 o.f8) ∧ w'.cell? ⟨w.heap.size + 1, 0, none⟩ = some (.int .i64 a.f0) ∧ w'.cell? ⟨w.heap.size + 1, 1, none⟩ = some (.bool a.f1) ∧ w'.cell? ⟨w.heap.size + 1, 2, none⟩ = some (.int .u64 a.f2) ∧ w'.cell? ⟨w.heap.size + 1, 3, none⟩ = some (.bool a.f3) ∧ w'.cell? ⟨w.heap.size + 1, 4, none⟩ = some (.int .u64 a.f4) ∧ w'.cell? ⟨w.heap.size + 1, 5, none⟩ = some (.slice B a.f5.length d) ∧ w'.cell? ⟨w.heap.size + 1, 6, none⟩ = some (.int .u64 a.f6))
    (first | go_keep | exact hS1 | exact cells18 HO2.out HA2.out | exact cells18 HO3.out HA3.out)
    (first
      | (go_at_call 15; refine (HD.out f1 N gq bm bi multi now held A c w1.drew (HP1.out.kept (Kept.of_below (below_drew (Below.refl _ w1)) (fun _ => False)) (fun e => e) (fun e => e) (fun e => e)) (HF1.out.kept (Kept.of_below (below_drew (Below.refl _ w1)) (fun _ => False)) (fun _ _ _ e => e)) (by omega)).mono ?_; rintro e w2 ⟨ps, rfl, hR2, f2, hE2, hP2, hF2, hK2'⟩
         rw [← HS.out, ← HDD.out] at hR2
         rw [← HS.out, ← HDD.out]
         obtain ⟨A2, c2, rfl⟩ := Kd.R_slice hR2
         have hK2 := hK2'.kept
         have hK1 : KO w w2 (fun _ => False) := (KO.of_below (below_drew HB1.out) (fun _ => False)).then_ hK2' (fun k e => .inr (by omega))
         have HO2 := Lib.hid (blk_kept (W2 := w2) HO1.out hK2 (show ¬ (w.heap.size = bm ∨ w.heap.size = bi) by omega))
         have HA2 := Lib.hid (blk_kept (W2 := w2) HA1.out hK2 (show ¬ (w.heap.size + 1 = bm ∨ w.heap.size + 1 = bi) by omega))
         have HF2 := Lib.hid hF2
         have HE2 := Lib.hid (HE1.out.trans hE2 HS1.out)
         have HK1 := Lib.hid hK1
         have HK12 := Lib.hid hK2.1
         have HR2 := Lib.hid hR2
         clear hF2 hE2 hK1 hR2 hP2 hK2 hK2')
      | (go_at_call 12; refine (sameAns_c (ansS D) a A2 B c2 d w2 (Kd.R_reads' HR2.out).2.2 (Kd.R_reads' HR2.out).2.1 (HC.out w2 (HK1.out.kept.mono (fun _ e => e.elim))) hd (by simp only [ansS, toS_length]; exact hps)).mono ?_; rintro e w3 ⟨rfl, hB3⟩
         have HO3 := Lib.hid ((hB3.block _ (blk_lt HO2.out)).trans HO2.out)
         have HA3 := Lib.hid ((hB3.block _ (blk_lt HA2.out)).trans HA2.out)
         have HK3 := Lib.hid (HK1.out.below hB3)
         have HB3 := Lib.hid hB3
         clear hB3))
  have hs3 : W0.heap.size ≤ w3.heap.size := Nat.le_trans HS1.out (Nat.le_trans HK12.out HB3.out.size)
  have he2 : Ext w.heap.size f f2 := ⟨HE2.out.1, fun b l e => (HE2.out.2 b l e).imp id (fun h => Nat.le_trans HB0.out.size h)⟩
  have hP3 : PM w3 f2 N gp bn bh multi now held := ((HM.out.kept HK3.out.kept (fun e => e) (fun e => e) (fun e => e)).ext he2 hnl hhl)
  have hF3 : Fro w3 f2 (N + 1) := HF2.out.kept (Kept.of_below HB3.out (fun _ => False)) (fun _ _ _ e => e)
  have HP3 := Lib.hid hP3
  have HF3 := Lib.hid hF3
  have HE3 := Lib.hid he2
  clear hP3 hF3 he2
  by_cases hq : anEq (ansS D) a = true
  case neg =>
    have hq' : anEq (ansS D) a = false := by simpa using hq
    clear hq
    rw [hq']
    go_wp2_with fail
    all_goals go_ret
    all_goals rw [HS.out]
    all_goals exact ⟨rfl, f2, HE3.out, HP3.out.mono (by omega), HF3.out.mono (by omega), HK3.out.mono (fun _ e => e.elim)⟩
  case pos =>
    rw [hq]
    have hS3 := cells18 HO3.out HA3.out
    go_split_ands
    go_wp2_with (go_at_call 15; refine (HD.out f2 (N + 1) gp bn bh multi now held A c w3 (HP3.out.mono (by omega)) HF3.out (by omega)).mono ?_; rintro e w4 ⟨ps4, rfl, hR4, f4, hE4, hP4, hF4, hK4⟩)
    all_goals go_ret
    all_goals rw [← HS.out] at hP4
    all_goals exact ⟨rfl, f4, HE3.out.trans hE4 HK3.out.kept.1, hP4, hF4, (HK3.out.mono (fun _ e => e.elim)).then_ hK4 (fun k e => .inl e)⟩
end Go.Proofs.Ytngocadnbpdnoaa.Mo
namespace Go.Proofs.Ytngocadnbpdnoaa.Mo
open Go Go.Maps Go.RowKit Go.Proofs.Ytngocadnbpdnoaa.Srt Go.Proofs.Ytngocadnbpdnoaa.Q Go.Proofs.YtngocadnbpdnoaaW.PrintWords Go.Proofs.YtngocadnbpdnoaaW.PrintLast Go.Proofs.YtngocadnbpdnoaaW.PrintMore
set_option linter.unusedVariables false
set_option linter.unusedSimpArgs false
set_option maxRecDepth 100000 in
set_option maxHeartbeats 8000000 in
theorem do_put (f : Nat → Option PL) (N gp bn bh : Nat) (multi : Int) (now : PL) (held : List (Int × PL)) (o : OpS) (A : Option Addr) (c : Nat) (hdl : Int) (w : World) (hM : PM w f N gp bn bh multi now held) (hF : Fro w f N) (hO : OpWf o) (hh : u64wf hdl) (hN : N ≤ 1099511627776) (hk : o.f0 = 2) :
    Calls Try.prog 15 #[.pointer (some ⟨gp, 0, none⟩), .agg (opC o A c), .int .u64 hdl] w (DoPost w f (N + 1) gp bn bh ⟨multi, put now o.f1 o.f2, held⟩ (foundD ⟨multi, now, held⟩ o)) := by
  have hgl := hM.gl
  have hnl := hM.now.lt
  have hhl := hM.held.1.lt
  have HM := Lib.hid hM
  have HF := Lib.hid hF
  have HO := Lib.hid hO
  have HU := Lib.hid hh
  have hb0 : Below w.heap.size w (doW w o A c).drew := below_drew (doW_below w o A c)
  have hP0 := hM.kept (Kept.of_below hb0 (fun _ => False)) (fun e => e) (fun e => e) (fun e => e)
  have HS : (fun w' : World => w'.cell? ⟨gp, 1, none⟩ = some (.map (some bn)) ∧ w'.cell? ⟨w.heap.size, 1, none⟩ = some (.int .u64 o.f1) ∧ (Instr.lookup 97 (.map (some bn)) (.int .u64 o.f1) true).run Try.prog w' = .ok (.tuple #[.int .u64 ((fnd now o.f1).getD 0), .bool (fnd now o.f1).isSome]) w') (doW w o A c).drew :=
    ⟨hP0.c1, by rw [blk_cell (w := (doW w o A c).drew) (doW_op w o A c)]; rfl, now_look hP0.now hO.key⟩
  obtain ⟨vh, hvh, hrunh⟩ := held_look (hM.held.kept (Kept.of_below (below_drew (below_alloc (below_drew (doW_below w o A c)) (.cells (ansC 0 (fnd now o.f1).isSome ((fnd now o.f1).getD 0) false 0 (.slice none 0 0) 0) 26))) (fun _ => False)) (fun e => e)) hO.han
  have hW2 : Below w.heap.size w ((doW w o A c).drew.alloc (.cells (ansC 0 (fnd now o.f1).isSome ((fnd now o.f1).getD 0) false 0 (.slice none 0 0) 0) 26)).drew := below_drew (below_alloc (below_drew (doW_below w o A c)) _)
  have hP2 := hM.kept (Kept.of_below hW2 (fun _ => False)) (fun e => e) (fun e => e) (fun e => e)
  have hs2 : (doW w o A c).drew.heap.size = w.heap.size + 2 := doW_size w o A c
  have hop2 : ((doW w o A c).drew.alloc (.cells (ansC 0 (fnd now o.f1).isSome ((fnd now o.f1).getD 0) false 0 (.slice none 0 0) 0) 26)).drew.heap[w.heap.size]? = some (.cells (opC o A c) 39 (0, 0)) := ((below_alloc (Below.refl _ (doW w o A c).drew) _).block _ (by rw [hs2]; omega)).trans (doW_op w o A c)
  have hra2 : ((doW w o A c).drew.alloc (.cells (ansC 0 (fnd now o.f1).isSome ((fnd now o.f1).getD 0) false 0 (.slice none 0 0) 0) 26)).drew.heap[w.heap.size + 1]? = some (.cells (ansC 0 false 0 false 0 (.slice none 0 0) 0) 26 (0, 0)) := ((below_alloc (Below.refl _ (doW w o A c).drew) _).block _ (by rw [hs2]; omega)).trans (doW_ans w o A c)
  have hfa2 : ((doW w o A c).drew.alloc (.cells (ansC 0 (fnd now o.f1).isSome ((fnd now o.f1).getD 0) false 0 (.slice none 0 0) 0) 26)).drew.heap[w.heap.size + 2]? = some (.cells (ansC 0 (fnd now o.f1).isSome ((fnd now o.f1).getD 0) false 0 (.slice none 0 0) 0) 26 (0, 0)) := by
    have := heap_alloc_new (doW w o A c).drew (.cells (ansC 0 (fnd now o.f1).isSome ((fnd now o.f1).getD 0) false 0 (.slice none 0 0) 0) 26)
    rw [hs2] at this
    exact this
  have HS2 : (fun w' : World => w'.cell? ⟨gp, 2, none⟩ = some (.map (some bh)) ∧ w'.cell? ⟨w.heap.size, 4, none⟩ = some (.int .u64 o.f4) ∧ (Instr.lookup 98 (.map (some bh)) (.int .u64 o.f4) true).run Try.prog w' = .ok (.tuple #[vh, .bool (fnd held o.f4).isSome]) w') ((doW w o A c).drew.alloc (.cells (ansC 0 (fnd now o.f1).isSome ((fnd now o.f1).getD 0) false 0 (.slice none 0 0) 0) 26)).drew :=
    ⟨hP2.c2, by rw [blk_cell hop2]; rfl, hrunh⟩
  have hkd : ((doW w o A c).drew.alloc (.cells (ansC 0 (fnd now o.f1).isSome ((fnd now o.f1).getD 0) false 0 (.slice none 0 0) 0) 26)).drew.cell? ⟨w.heap.size, 0, none⟩ = some (.int .u8 2) := by rw [blk_cell hop2, ← hk]; rfl
  have HVH := Lib.hid hvh
  have HW2 := Lib.hid hW2
  have HP2 := Lib.hid hP2
  have HOP2 := Lib.hid hop2
  have HRA2 := Lib.hid hra2
  have HFA2 := Lib.hid hfa2
  have hfnd0 : (fnd now o.f1).isSome = (fnd now o.f1).isSome := rfl
  obtain ⟨fo, hfo⟩ : ∃ b : Bool, b = (fnd now o.f1).isSome := ⟨_, rfl⟩
  obtain ⟨fv, hfv⟩ : ∃ v : Int, v = (fnd now o.f1).getD 0 := ⟨_, rfl⟩
  obtain ⟨hd, hhd⟩ : ∃ b : Bool, b = (fnd held o.f4).isSome := ⟨_, rfl⟩
  rw [← hfo, ← hfv] at HS HS2 HW2 HP2 HOP2 HRA2 HFA2 hkd
  rw [← hhd] at HS2
  have HFO := Lib.hid hfo
  have HFV := Lib.hid hfv
  have HHD := Lib.hid hhd
  clear hM hF hO hh hb0 hP0 hvh hrunh hW2 hP2 hs2 hop2 hra2 hfa2 hfnd0 hfo hfv hhd
  obtain ⟨W1, hW1⟩ : ∃ W1, W1 = doW w o A c := ⟨_, rfl⟩
  have HW1 := Lib.hid hW1
  rw [← hW1] at HS HS2 HW2 HP2 HOP2 HRA2 HFA2 hkd
  go_enter Try.func15, Try.ntmps15
  go_wp2_with fail
  change Code.wp _ _ _ _ (doW w o A c)
  rw [← hW1]
  clear hW1
  go_region_held3 (fun w' => w'.cell? ⟨gp, 1, none⟩ = some (.map (some bn)) ∧ w'.cell? ⟨w.heap.size, 1, none⟩ = some (.int .u64 o.f1) ∧ (Instr.lookup 97 (.map (some bn)) (.int .u64 o.f1) true).run Try.prog w' = .ok (.tuple #[.int .u64 fv, .bool fo]) w')
    (first | go_keep | exact HS)
    (first | fail | fail)
  clear HS
  have hs1 : W1.heap.size = w.heap.size + 2 := by rw [HW1.out]; exact doW_size w o A c
  go_wp2_with fail
  obtain ⟨W2, hW2⟩ : ∃ W2, W2 = W1.drew.alloc (Obj.cells (ansC 0 fo fv false 0 (Value.slice none 0 0) 0) 26) := ⟨_, rfl⟩
  change Code.wp _ _ _ _ (W1.drew.alloc (Obj.cells (ansC 0 fo fv false 0 (Value.slice none 0 0) 0) 26))
  rw [← hW2] at HS2 HW2 HP2 HOP2 HRA2 HFA2 hkd ⊢
  clear hW2
  go_region_held3 (fun w' => w'.cell? ⟨gp, 2, none⟩ = some (.map (some bh)) ∧ w'.cell? ⟨w.heap.size, 4, none⟩ = some (.int .u64 o.f4) ∧ (Instr.lookup 98 (.map (some bh)) (.int .u64 o.f4) true).run Try.prog w' = .ok (.tuple #[vh, .bool hd]) w')
    (first | go_keep | exact HS2)
    (first | fail | fail)
  clear HS2
  obtain ⟨W, hW⟩ : ∃ W, W = W2.drew := ⟨_, rfl⟩
  rw [← hW] at HW2 HP2 HOP2 HRA2 HFA2 hkd ⊢
  clear hW
  obtain ⟨w3, hrun3, ho3, hg3⟩ := now_put (w := W.drew) HP2.out.now HO.out.key HO.out.val (by unfold maxLen; omega)
  replace hg3 := grown_undrew hg3
  have HL3 := Lib.hid (left_now HP2.out (HF.out.kept (Kept.of_below HW2.out (fun _ => False)) (fun _ _ _ e => e)) HW2.out ho3 hg3)
  have hk3 : Kept W w3 (fun k => k = bn) := Kept.of_grown hg3 (Kept.refl _ _) (fun k e => .inl (by cases e; rfl))
  have hcA := HP2.out.c1
  have hcB : W.cell? ⟨w.heap.size, 1, none⟩ = some (.int .u64 o.f1) := by rw [blk_cell HOP2.out]; rfl
  have hcC : W.cell? ⟨w.heap.size, 2, none⟩ = some (.int .u64 o.f2) := by rw [blk_cell HOP2.out]; rfl
  have hdA : w3.cell? ⟨gp, 1, none⟩ = some (.map (some bn)) := cell_kept hcA hk3 HM.out.gn
  have hdB := cell_kept hcB hk3 (show ¬ w.heap.size = bn by omega)
  have hdC := cell_kept hcC hk3 (show ¬ w.heap.size = bn by omega)
  have HFA3 := Lib.hid (blk_kept HFA2.out hk3 (show ¬ w.heap.size + 2 = bn by omega))
  have HRA3 := Lib.hid (blk_kept HRA2.out hk3 (show ¬ w.heap.size + 1 = bn by omega))
  clear hk3 ho3 hg3
  go_wp2_with fail
  go_region_held3 (fun w' => w'.cell? ⟨gp, 1, none⟩ = some (.map (some bn)) ∧ w'.cell? ⟨w.heap.size, 1, none⟩ = some (.int .u64 o.f1) ∧ w'.cell? ⟨w.heap.size, 2, none⟩ = some (.int .u64 o.f2))
    (first | go_keep | exact ⟨hcA, hcB, hcC⟩ | exact ⟨hdA, hdB, hdC⟩)
    (first | fail | fail)
  clear hcA hcB hcC hdA hdB hdC hrun3
  obtain ⟨l0, l1, l2, l3, l4, l5, l6⟩ := ans_cells HFA3.out
  go_wp2_with (first | ((with_reducible refine gate_store (t := 26) (p := 6) rfl ?_); refine wpList_store_row rfl 26 (.tmp 6) (.tmp 68) rfl (w.heap.size + 1) (ansC 0 fo fv false 0 (.slice none 0 0) 0) rfl rfl 26 _ HRA3.out (by kernel_rfl) rfl (ansC_one _ _ _ _ _ _ _ _ _) ?_))
  refine bodyPost_ret (res_ans rfl _ rfl (setRow_heap _ _ _ _ _ _ HRA3.out)) rfl ⟨.slice none 0 0, by rw [HFO.out, HFV.out]; rfl, Kd.R_nil _ _ _ _ _, HL3.out.row (by omega) HRA3.out hgl hnl hhl _⟩
end Go.Proofs.Ytngocadnbpdnoaa.Mo
namespace Go.Proofs.Ytngocadnbpdnoaa.Mo
open Go Go.Maps Go.RowKit Go.Proofs.Ytngocadnbpdnoaa.Srt Go.Proofs.Ytngocadnbpdnoaa.Q Go.Proofs.YtngocadnbpdnoaaW.PrintWords Go.Proofs.YtngocadnbpdnoaaW.PrintLast Go.Proofs.YtngocadnbpdnoaaW.PrintMore
set_option linter.unusedVariables false
set_option linter.unusedSimpArgs false
def opL (k key val : Int) : OpS := ⟨k, key, val, 0, 0, ⟨false, 0, 0⟩, [], 0, 0⟩
theorem opL_wf (k key val : Int) (h1 : u64wf key) (h2 : u64wf val) : OpWf (opL k key val) := ⟨h1, h2, by show u64wf 0; unfold u64wf; decide⟩
theorem fro_none (w : World) (N : Nat) : Fro w (fun _ => none) N := fun b l e => by cases e
theorem get_c (o : OpS) (hO : OpWf o) (hk : o.f0 = 1) : DoC o 0 (fun s => (s, foundD s o)) := fun f N gp bn bh multi now held A c w hM hF hN => do_get f N gp bn bh multi now held o A c 0 w hM hF hO (by unfold u64wf; decide) hN hk
theorem DoPost.lit {w : World} {f : Nat → Option PL} {N gp bn bh : Nat} {s : MS} {e : Int} {fo : Bool} {v : Int} {dn : Bool} {h : Int} {en : Ending} {w' : World} (hp : DoPost w f N gp bn bh s ⟨e, fo, v, dn, h, [], 0⟩ en w') :
    ∃ A c, en = .returned (.agg #[.int .i64 e, .bool fo, .int .u64 v, .bool dn, .int .u64 h, .slice A 0 c, .int .u64 0]) ∧ Left w w' f N gp bn bh s.multi s.now s.held (fun k => k = bn ∨ k = bh) := by
  obtain ⟨ps, he, hR, hL⟩ := hp
  obtain ⟨A2, c2, rfl⟩ := Kd.R_slice hR
  exact ⟨A2, c2, he, hL⟩
theorem lp1 (gp bn bh : Nat) (w1 : World) (hP : PM w1 (fun _ => none) 0 gp bn bh 4 [] []) : Calls Try.prog 15 #[.pointer (some ⟨gp, 0, none⟩), .agg #[.int .u8 2, .int .u64 7, .int .u64 1, .int .u64 0, .int .u64 0, .bool false, .int .i64 0, .int .i64 0, .slice none 0 0, .int .u64 0, .int .u64 0], .int .u64 0] w1 fun en w' => ∃ A c, en = .returned (.agg #[.int .i64 0, .bool false, .int .u64 0, .bool false, .int .u64 0, .slice A 0 c, .int .u64 0]) ∧ Left w1 w' (fun _ => none) 1 gp bn bh 4 [(7, 1)] [] (fun k => k = bn ∨ k = bh) :=
  (do_put (fun _ => none) 0 gp bn bh 4 [] [] (opL 2 7 1) none 0 0 w1 hP (fro_none w1 0) (opL_wf _ _ _ (by unfold u64wf; decide) (by unfold u64wf; decide)) (by unfold u64wf; decide) (by omega) rfl).mono fun en w' h => DoPost.lit (s := ⟨4, [(7, 1)], []⟩) h
theorem lp2 (f : Nat → Option PL) (gp bn bh : Nat) (w1 : World) (hP : PM w1 f 1 gp bn bh 4 [(7, 1)] []) (hF : Fro w1 f 1) : Calls Try.prog 15 #[.pointer (some ⟨gp, 0, none⟩), .agg #[.int .u8 5, .int .u64 0, .int .u64 0, .int .u64 0, .int .u64 0, .bool false, .int .i64 0, .int .i64 0, .slice none 0 0, .int .u64 0, .int .u64 0], .int .u64 5] w1 fun en w' => ∃ A c, en = .returned (.agg #[.int .i64 0, .bool false, .int .u64 0, .bool false, .int .u64 5, .slice A 0 c, .int .u64 0]) ∧ Left w1 w' f 2 gp bn bh 4 [(7, 1)] [(5, [(7, 1)])] (fun k => k = bn ∨ k = bh) :=
  (do_snap f 1 gp bn bh 4 [(7, 1)] [] (opL 5 0 0) none 0 5 w1 hP hF (opL_wf _ _ _ (by unfold u64wf; decide) (by unfold u64wf; decide)) (by unfold u64wf; decide) (by omega) rfl).mono fun en w' h => DoPost.lit (s := ⟨4, [(7, 1)], [(5, [(7, 1)])]⟩) h
theorem lp3 (f : Nat → Option PL) (gp bn bh : Nat) (w1 : World) (hP : PM w1 f 2 gp bn bh 4 [(7, 1)] [(5, [(7, 1)])]) (hF : Fro w1 f 2) : Calls Try.prog 15 #[.pointer (some ⟨gp, 0, none⟩), .agg #[.int .u8 2, .int .u64 7, .int .u64 2, .int .u64 0, .int .u64 0, .bool false, .int .i64 0, .int .i64 0, .slice none 0 0, .int .u64 0, .int .u64 0], .int .u64 0] w1 fun en w' => ∃ A c, en = .returned (.agg #[.int .i64 0, .bool true, .int .u64 1, .bool false, .int .u64 0, .slice A 0 c, .int .u64 0]) ∧ Left w1 w' f 3 gp bn bh 4 [(7, 2)] [(5, [(7, 1)])] (fun k => k = bn ∨ k = bh) :=
  (do_put f 2 gp bn bh 4 [(7, 1)] [(5, [(7, 1)])] (opL 2 7 2) none 0 0 w1 hP hF (opL_wf _ _ _ (by unfold u64wf; decide) (by unfold u64wf; decide)) (by unfold u64wf; decide) (by omega) rfl).mono fun en w' h => DoPost.lit (s := ⟨4, [(7, 2)], [(5, [(7, 1)])]⟩) h
theorem lp4 (f : Nat → Option PL) (gp bn bh : Nat) (w1 : World) (hP : PM w1 f 3 gp bn bh 4 [(7, 2)] [(5, [(7, 1)])]) (hF : Fro w1 f 3) : Calls Try.prog 16 #[.pointer (some ⟨gp, 0, none⟩), .int .u64 5] w1 fun en w' => ∃ g c, en = .returned (.tuple #[.slice (some ⟨g, 0, none⟩) 1 c, .bool true]) ∧ w'.cell? ⟨g, 0, none⟩ = some (.int .u64 7) ∧ w'.cell? ⟨g, 1, none⟩ = some (.int .u64 1) ∧ Below w1.heap.size w1 w' :=
  (held_c f 3 gp bn bh 4 [(7, 2)] [(5, [(7, 1)])] 5 w1 hP hF (by unfold u64wf; decide) (by omega)).mono fun en w' h => by
    obtain ⟨v, he, hR, hB⟩ := h
    obtain ⟨A, c, rfl⟩ := Kd.R_slice hR
    obtain ⟨ad, rfl, h0, h1⟩ := at_T90 (Kd.R_reads' hR).2.2 0 (by omega) (by decide)
    obtain ⟨g, rfl⟩ := Kd.R_head hR
    exact ⟨g, c, he, h0, h1, hB⟩
theorem lp5 (f : Nat → Option PL) (gp bn bh : Nat) (w1 : World) (hP : PM w1 f 3 gp bn bh 4 [(7, 2)] [(5, [(7, 1)])]) (hF : Fro w1 f 3) : Calls Try.prog 22 #[.pointer (some ⟨gp, 0, none⟩), .agg #[.int .u8 1, .int .u64 7, .int .u64 0, .int .u64 0, .int .u64 0, .bool false, .int .i64 0, .int .i64 0, .slice none 0 0, .int .u64 0, .int .u64 0], .agg #[.int .i64 0, .bool false, .int .u64 0, .bool false, .int .u64 0, .slice none 0 0, .int .u64 0]] w1 fun en w' => en = .returned (.bool false) ∧ KO w1 w' (fun k => k = bn ∨ k = bh) :=
  (take_rest (opL 1 7 0) ⟨0, false, 0, false, 0, [], 0⟩ none none 0 0 _ (get_c (opL 1 7 0) (opL_wf _ _ _ (by unfold u64wf; decide) (by unfold u64wf; decide)) rfl) f 3 gp bn bh 4 [(7, 2)] [(5, [(7, 1)])] w1 hP hF (by omega) (fun W' _ => Kd.C_nil _ _) (Nat.le_refl _) (fun k h1 h2 h3 => by simp [opL]; omega) (by decide)).mono fun en w' h => by
    obtain ⟨he, f', _, _, _, hK⟩ := h
    exact ⟨he, hK⟩
set_option maxRecDepth 100000 in
set_option maxHeartbeats 16000000 in
theorem live_c (w : World) : Calls Try.prog 11 #[] w fun e w' => e = .returned (.bool true) ∧ Below w.heap.size w w' := by
  have cN := new_c 4 (fun _ => none) w (fro_none w 0) (by omega) (by omega)
  go_enter Try.func11, Try.ntmps11
  go_upto_region 4 with (go_at_call 14; refine cN.mono ?_; rintro e w1 ⟨gp, bn, bh, rfl, hP1, hB1, hg1, hg2, hg3⟩)
  clear cN
  have hgl := hP1.gl
  have hnl := hP1.now.lt
  have hhl := hP1.held.1.lt
  have HP1 := Lib.hid hP1
  have HB1 := Lib.hid hB1
  clear hP1 hB1
  go_upto_region 5 with (go_at_call 15; (refine (lp1 gp bn bh w1 HP1.out).mono ?_; rintro e w2 ⟨A2, c2, rfl, f2, hE2, hP2, hF2, hK2⟩; have HP2 := Lib.hid hP2; have HF2 := Lib.hid hF2; have HK2 := Lib.hid hK2; clear hE2 hP2 hF2 hK2))
  have hz2 := HK2.out.kept.1
  obtain ⟨W2, hW2⟩ : ∃ W2, W2 = w2.alloc (Obj.cells #[Value.int IntKind.i64 0, Value.bool false, Value.int IntKind.u64 0, Value.bool false, Value.int IntKind.u64 0, Value.slice A2 0 c2, Value.int IntKind.u64 0] 26) := ⟨_, rfl⟩
  have hk2 : KO w2 W2 (fun _ => False) := by rw [hW2]; exact KO.of_below (below_alloc (Below.refl _ _) _) _
  have hb2 : W2.heap[w2.heap.size]? = some (.cells #[Value.int IntKind.i64 0, Value.bool false, Value.int IntKind.u64 0, Value.bool false, Value.int IntKind.u64 0, Value.slice A2 0 c2, Value.int IntKind.u64 0] 26 (0, 0)) := by rw [hW2]; exact heap_alloc_new _ _
  rw [← hW2]
  clear hW2
  have hPn2 := HP2.out.kept hk2.kept (fun e => e) (fun e => e) (fun e => e)
  have hFn2 := HF2.out.kept hk2.kept (fun _ _ _ e => e)
  have HPn2 := Lib.hid hPn2
  have HFn2 := Lib.hid hFn2
  have HB2 := Lib.hid hb2
  have HKn2 := Lib.hid hk2
  have hzz2 := blk_lt hb2
  clear hPn2 hFn2 hb2 hk2
  go_upto_region 6 with (go_at_call 15; (refine (lp2 f2 gp bn bh W2 HPn2.out HFn2.out).mono ?_; rintro e w3 ⟨A3, c3, rfl, f3, hE3, hP3, hF3, hK3⟩; have HP3 := Lib.hid hP3; have HF3 := Lib.hid hF3; have HK3 := Lib.hid hK3; clear hE3 hP3 hF3 hK3))
  have hz3 := HK3.out.kept.1
  obtain ⟨W3, hW3⟩ : ∃ W3, W3 = w3.alloc (Obj.cells #[Value.int IntKind.i64 0, Value.bool false, Value.int IntKind.u64 0, Value.bool false, Value.int IntKind.u64 5, Value.slice A3 0 c3, Value.int IntKind.u64 0] 26) := ⟨_, rfl⟩
  have hk3 : KO w3 W3 (fun _ => False) := by rw [hW3]; exact KO.of_below (below_alloc (Below.refl _ _) _) _
  have hb3 : W3.heap[w3.heap.size]? = some (.cells #[Value.int IntKind.i64 0, Value.bool false, Value.int IntKind.u64 0, Value.bool false, Value.int IntKind.u64 5, Value.slice A3 0 c3, Value.int IntKind.u64 0] 26 (0, 0)) := by rw [hW3]; exact heap_alloc_new _ _
  rw [← hW3]
  clear hW3
  have hPn3 := HP3.out.kept hk3.kept (fun e => e) (fun e => e) (fun e => e)
  have hFn3 := HF3.out.kept hk3.kept (fun _ _ _ e => e)
  have HPn3 := Lib.hid hPn3
  have HFn3 := Lib.hid hFn3
  have HB3 := Lib.hid hb3
  have HKn3 := Lib.hid hk3
  have hzz3 := blk_lt hb3
  clear hPn3 hFn3 hb3 hk3
  go_upto_region 7 with (go_at_call 15; (refine (lp3 f3 gp bn bh W3 HPn3.out HFn3.out).mono ?_; rintro e w4 ⟨A4, c4, rfl, f4, hE4, hP4, hF4, hK4⟩; have HP4 := Lib.hid hP4; have HF4 := Lib.hid hF4; have HK4 := Lib.hid hK4; clear hE4 hP4 hF4 hK4))
  have hz4 := HK4.out.kept.1
  obtain ⟨W4, hW4⟩ : ∃ W4, W4 = w4.alloc (Obj.cells #[Value.int IntKind.i64 0, Value.bool true, Value.int IntKind.u64 1, Value.bool false, Value.int IntKind.u64 0, Value.slice A4 0 c4, Value.int IntKind.u64 0] 26) := ⟨_, rfl⟩
  have hk4 : KO w4 W4 (fun _ => False) := by rw [hW4]; exact KO.of_below (below_alloc (Below.refl _ _) _) _
  have hb4 : W4.heap[w4.heap.size]? = some (.cells #[Value.int IntKind.i64 0, Value.bool true, Value.int IntKind.u64 1, Value.bool false, Value.int IntKind.u64 0, Value.slice A4 0 c4, Value.int IntKind.u64 0] 26 (0, 0)) := by rw [hW4]; exact heap_alloc_new _ _
  rw [← hW4]
  clear hW4
  have hPn4 := HP4.out.kept hk4.kept (fun e => e) (fun e => e) (fun e => e)
  have hFn4 := HF4.out.kept hk4.kept (fun _ _ _ e => e)
  have HPn4 := Lib.hid hPn4
  have HFn4 := Lib.hid hFn4
  have HB4 := Lib.hid hb4
  have HKn4 := Lib.hid hk4
  have hzz4 := blk_lt hb4
  clear hPn4 hFn4 hb4 hk4
  go_upto_region 8 with (go_at_call 16; (refine (lp4 f4 gp bn bh W4 HPn4.out HFn4.out).mono ?_; rintro e w5 ⟨g5, c5, rfl, hc7, hc1, hB5⟩; have HB5 := Lib.hid hB5; clear hB5))
  have hP5 := HPn4.out.kept (Kept.of_below HB5.out (fun _ => False)) (fun e => e) (fun e => e) (fun e => e)
  have hF5 := HFn4.out.kept (Kept.of_below HB5.out (fun _ => False)) (fun _ _ _ e => e)
  have b4 : w5.heap[w4.heap.size]? = _ := blk_kept HB4.out (Kept.of_below HB5.out (fun _ => False)) (fun e => e)
  have b3 : w5.heap[w3.heap.size]? = _ := blk_kept (blk_kept (blk_kept HB3.out HK4.out.kept (show ¬ (w3.heap.size = bn ∨ w3.heap.size = bh) by omega)) HKn4.out.kept (fun e => e)) (Kept.of_below HB5.out (fun _ => False)) (fun e => e)
  have b2 : w5.heap[w2.heap.size]? = _ := blk_kept (blk_kept (blk_kept (blk_kept (blk_kept HB2.out HK3.out.kept (show ¬ (w2.heap.size = bn ∨ w2.heap.size = bh) by omega)) HKn3.out.kept (fun e => e)) HK4.out.kept (show ¬ (w2.heap.size = bn ∨ w2.heap.size = bh) by omega)) HKn4.out.kept (fun e => e)) (Kept.of_below HB5.out (fun _ => False)) (fun e => e)
  have k21 : w5.cell? ⟨w2.heap.size, 1, none⟩ = some (.bool false) := by rw [blk_cell b2]; rfl
  have k34 : w5.cell? ⟨w3.heap.size, 4, none⟩ = some (.int .u64 5) := by rw [blk_cell b3]; rfl
  have k41 : w5.cell? ⟨w4.heap.size, 1, none⟩ = some (.bool true) := by rw [blk_cell b4]; rfl
  have k42 : w5.cell? ⟨w4.heap.size, 2, none⟩ = some (.int .u64 1) := by rw [blk_cell b4]; rfl
  have hend : KO w w5 (fun _ => False) := (((((((KO.of_below HB1.out (fun _ => False)).then_ HK2.out (fun k e => .inr (by omega))).then_ HKn2.out (fun _ e => e.elim)).then_ HK3.out (fun k e => .inr (by omega))).then_ HKn3.out (fun _ e => e.elim)).then_ HK4.out (fun k e => .inr (by omega))).then_ HKn4.out (fun _ e => e.elim)).then_ (KO.of_below HB5.out (fun _ => False)) (fun _ e => e.elim)
  have HEND := Lib.hid hend
  have HP5 := Lib.hid hP5
  have HF5 := Lib.hid hF5
  clear hend hP5 hF5 b2 b3 b4
  go_wp2_with (go_at_call 22; (refine (lp5 f4 gp bn bh w5 HP5.out HF5.out).mono ?_; rintro e w6 ⟨rfl, hK6⟩; have HK6 := Lib.hid hK6; clear hK6))
  go_ret
  exact ⟨rfl, (HEND.out.then_ HK6.out (fun k e => .inr (by omega))).below_of (fun _ e => e.elim)⟩
end Go.Proofs.Ytngocadnbpdnoaa.Mo
namespace Go.Proofs.Ytngocadnbpdnoaa.Mo
open Go Go.Maps Go.RowKit Go.Proofs.Ytngocadnbpdnoaa.Srt Go.Proofs.Ytngocadnbpdnoaa.Q Go.Proofs.YtngocadnbpdnoaaW.PrintWords Go.Proofs.YtngocadnbpdnoaaW.PrintLast Go.Proofs.YtngocadnbpdnoaaW.PrintMore
set_option linter.unusedVariables false
set_option linter.unusedSimpArgs false
/-! slices.DeleteFunc at pairs, with query's closure. -/
def outB (lo hi : Int) (p : SP) : Bool := decide (p.f0 < lo) || decide (hi < p.f0)
/-- Where the closure reads its bounds. -/
structure LoHi (w : World) (B : Nat) (lo hi : Int) : Prop where
  lt : B < w.heap.size
  lo : w.cell? ⟨B, 9, none⟩ = some (.int .u64 lo)
  hi : w.cell? ⟨B, 10, none⟩ = some (.int .u64 hi)
theorem LoHi.kept {w W : World} {B : Nat} {lo hi : Int} {S : Nat → Prop} (h : LoHi w B lo hi) (hk : Kept w W S) (hs : ¬ S B) : LoHi W B lo hi := ⟨Nat.lt_of_lt_of_le h.lt hk.1, cell_kept h.lo hk hs, cell_kept h.hi hk hs⟩
theorem LoHi.below {w W : World} {B : Nat} {lo hi : Int} (h : LoHi w B lo hi) (hb : Below w.heap.size w W) : LoHi W B lo hi := h.kept (Kept.of_below hb (fun _ => False)) (fun e => e)
set_option maxRecDepth 100000 in
theorem pred_c (B : Nat) (lo hi : Int) (p : SP) (w : World) (h : LoHi w B lo hi) :
    Calls Try.prog 84 #[.agg #[.int .u64 p.f0, .int .u64 p.f1], .pointer (some ⟨B, 0, none⟩)] w fun e w' => e = .returned (.bool (outB lo hi p)) ∧ Below w.heap.size w w' := by
  have h2 := h.below (below_alloc (Below.refl _ w) (.cells #[.int .u64 p.f0, .int .u64 p.f1] 90))
  have q0 := h2.lo
  have q1 := h2.hi
  have hl := h.lt
  clear h h2
  by_cases h1 : p.f0 < lo
  · have d1 : decide (p.f0 < lo) = true := decide_eq_true h1
    go_enter Try.func84, Try.ntmps84
    go_wp2
    go_ret
    exact ⟨by unfold outB; rw [d1]; rfl, below_alloc (Below.refl _ w) _⟩
  · have d1 : decide (p.f0 < lo) = false := decide_eq_false h1
    go_enter Try.func84, Try.ntmps84
    go_wp2
    go_ret
    exact ⟨by unfold outB; rw [d1]; rfl, below_alloc (Below.refl _ w) _⟩
theorem heapP' : Kd.Heap k90 := Kd.heap_iso _ (Kd.heap_pair (Kd.heap_int _) (Kd.heap_int _))
set_option maxRecDepth 100000 in
set_option maxHeartbeats 4000000 in
theorem idx_c (B : Nat) (lo hi : Int) (A : Option Addr) (c : Nat) (xs : List SP) (w : World) (h : LoHi w B lo hi) (hC : Kd.C k90 w A xs.length xs) (hm : xs.length ≤ 4398046511104) :
    Calls Try.prog 99 #[.slice A xs.length c, .func (.func 84) #[] #[.pointer (some ⟨B, 0, none⟩)]] w
      fun e w' => ((∃ i : Nat, ∃ hi' : i < xs.length, e = .returned (.int .i64 i) ∧ outB lo hi xs[i] = true ∧ ∀ j (hj : j < i), outB lo hi (xs[j]'(by omega)) = false) ∨ (e = .returned (.int .i64 (-1)) ∧ ∀ p ∈ xs, outB lo hi p = false)) ∧ Below w.heap.size w w' := by
  have HH := Lib.hid h
  have HC := Lib.hid hC
  clear h hC
  go_enter Try.func99, Try.ntmps99
  go_wp2_with fail
  go_loopw [8] (fun v8 wr => ∃ i : Nat, v8 = .int .i64 i ∧ i ≤ xs.length ∧ Hid ((∀ j (hj : j < i) (hl : j < xs.length), outB lo hi xs[j] = false) ∧ Below w.heap.size w wr))
    (fun v8 _ => xs.length - (intOf v8).toNat)
  case atStart => exact ⟨0, rfl, Nat.zero_le _, Lib.hid ⟨fun j hj => absurd hj (by omega), Below.refl _ _⟩⟩
  case round =>
    obtain ⟨i, rfl, hi', HI⟩ := hrel
    by_cases hlt : i < xs.length
    · obtain ⟨ad, rfl, y0, y1⟩ := at_T90 (Kd.Heap.C heapP' (fun k hk => HI.out.2.block k hk) HC.out) (i : Int) (by omega) (by omega)
      simp only [Int.toNat_natCast] at y0 y1
      rw [rd_get hlt] at y0 y1
      obtain ⟨p, hp⟩ : ∃ p, p = xs[i] := ⟨_, rfl⟩
      rw [← hp] at y0 y1
      have HPP := Lib.hid hp
      clear hp
      have hdec : decide ((i : Int) < (xs.length : Int)) = true := decide_eq_true (by omega)
      by_cases ho : outB lo hi p = true
      · go_wp2_with (go_at_call 84; refine (pred_c B lo hi p wr (HH.out.below HI.out.2)).mono ?_; rintro e w1 ⟨rfl, hb⟩; have HB := Lib.hid (HI.out.2.trans (hb.mono HI.out.2.size)); clear hb; rw [ho])
        go_ret
        exact ⟨.inl ⟨i, hlt, rfl, by rw [← HPP.out]; exact ho, fun j hj => HI.out.1 j hj (by omega)⟩, HB.out⟩
      · have ho' : outB lo hi p = false := by simpa using ho
        clear ho
        go_wp2_with (go_at_call 84; refine (pred_c B lo hi p wr (HH.out.below HI.out.2)).mono ?_; rintro e w1 ⟨rfl, hb⟩; have HB := Lib.hid (HI.out.2.trans (hb.mono HI.out.2.size)); clear hb; rw [ho'])
        go_roundw
        case rel => exact ⟨i + 1, by go_num, by omega, Lib.hid ⟨fun j hj hl => by
          by_cases e : j = i
          · subst e; rw [← HPP.out]; exact ho'
          · exact HI.out.1 j (by omega) hl, HB.out⟩⟩
        case measure => simp [intOf]; omega
    · obtain rfl : i = xs.length := by omega
      go_wp2_with fail
      go_ret
      exact ⟨.inr ⟨rfl, fun p hp => by
        obtain ⟨j, hj, rfl⟩ := List.getElem_of_mem hp
        exact HI.out.1 j hj hj⟩, HI.out.2⟩
theorem zero_cells_one (n : Nat) : ∀ v ∈ (Builtin.zeroCells #[.int .u64 0, .int .u64 0] n).toList, v.oneCell' = true := by
  intro v hv
  simp only [Builtin.zeroCells, Array.toList_map, List.mem_map] at hv
  obtain ⟨i, _, rfl⟩ := hv
  have h2 : i % 2 = 0 ∨ i % 2 = 1 := by omega
  show (#[Value.int .u64 0, Value.int .u64 0][i % 2]!).oneCell' = true
  rcases h2 with e | e <;> rw [e] <;> rfl
theorem zero_cells_len (n : Nat) : (Builtin.zeroCells #[.int .u64 0, .int .u64 0] n).toList.length = n * 2 := by
  simp [Builtin.zeroCells]
set_option maxRecDepth 100000 in
/-- clear(s[m:]) of one's own row. -/
theorem clear_row {g n c m c2 : Nat} {base : Nat} {ok : Nat → Prop} {xs : List SP} {W : World} (ty : TypeId) (h : kSP.R 90 W base ok (.slice (some ⟨g, 0, none⟩) n c) xs) (hm : m < n) :
    ∃ W', (Builtin.clear_ #[24] ty #[.slice (some ⟨g, m * 2, none⟩) (n - m) c2]).run Try.prog W = .ok (.tuple #[]) W' ∧ kSP.R 90 W' base ok (.slice (some ⟨g, 0, none⟩) m c) (xs.take m) ∧ W.grownBy W' (some g) := by
  have hr := Kd.R_reads' h
  have hT := Kd.R_take h (m := m) (by rw [← hr.1]; omega)
  obtain ⟨hok, inner, ho, hre⟩ := hT
  have hfull := h
  obtain ⟨_, inner0, ho0, _⟩ := hfull
  rcases ho0.2 with ⟨hv, _⟩ | ⟨g', cap', cur, hv, hb, hh, hnc, hcm, hcs, ht⟩
  · cases hv
  injection hv with ha hn' hc
  injection ha with ha
  injection ha with hg
  subst hg; subst hc
  have hlen := zero_cells_len (n - m)
  have hfit : m * 2 + 0 + (Builtin.zeroCells #[.int .u64 0, .int .u64 0] (n - m)).toList.length ≤ cur.size := by
    rw [hlen, hcs]
    show m * 2 + 0 + (n - m) * 2 ≤ c * 2
    have := hr.2.1
    omega
  have hrun := run_storeCells_at (P := Try.prog) g (m * 2) 90 (Builtin.zeroCells #[.int .u64 0, .int .u64 0] (n - m)).toList 0 cur W hh hfit (zero_cells_one _)
  obtain ⟨cur', hcur'⟩ : ∃ cur', cur' = (cur.toList.take (m * 2 + 0) ++ (Builtin.zeroCells #[.int .u64 0, .int .u64 0] (n - m)).toList ++ cur.toList.drop (m * 2 + 0 + (Builtin.zeroCells #[.int .u64 0, .int .u64 0] (n - m)).toList.length)).toArray := ⟨_, rfl⟩
  rw [← hcur'] at hrun
  have hz : (zeroValue 90).run Try.prog W = .ok (.agg #[.int .u64 0, .int .u64 0]) W := by
    first | (simp [zeroValue, typeInfo, go_sem, info90]; done) | kernel_rfl
  refine ⟨W.setRow g cur', ?_, ?_, ?_⟩
  · obtain ⟨q, hq⟩ : ∃ q, n - m = q + 1 := ⟨n - m - 1, by omega⟩
    rw [hq] at hrun ⊢
    unfold Builtin.clear_
    simp [Sem.run_bind, go_sem, hz, hrun, Value.cells]
  · rcases ho.2 with ⟨hv2, _⟩ | ⟨g2, cap2, cur2, hv2, hb2, hh2, hnc2, hcm2, hcs2, ht2⟩
    · cases hv2
    injection hv2 with ha2 hn2 hc2
    injection ha2 with ha2
    injection ha2 with hg2
    subst hg2; subst hc2
    rw [hh] at hh2
    injection hh2 with hh2
    injection hh2 with hh2
    subst hh2
    have hml : (xs.take m).length = m := by rw [List.length_take]; omega
    rw [hml] at ho ht2 hnc2
    have hsz : m * 2 ≤ cur.size := by
      have h3 : cur.size = c * 2 := hcs
      have := hr.2.1
      omega
    refine ⟨hok, inner, ⟨by rw [hml]; exact ho.1, .inr ⟨g, c, cur', by rw [hml], hb2, setRow_heap W g cur cur' _ _ hh, by rw [hml]; exact hnc2, hcm2, ?_, ?_⟩⟩, hre.imp_ (fun _ _ hk => Kd.M_kept hk (Kept_row W g cur') (fun k hk2 e => hk2.2 (by rw [e]; rfl)))⟩
    · have hl2 : (Builtin.zeroCells #[.int .u64 0, .int .u64 0] (n - m)).size = (n - m) * 2 := by simpa using hlen
      have h3 : cur.size = c * 2 := hcs
      have h4 := hr.2.1
      show cur'.size = c * 2
      rw [hcur']
      simp only [List.size_toArray, List.length_append, List.length_take, List.length_drop, Array.length_toList]
      omega
    · rw [hml, hcur', ← ht2]
      show (_ ++ _ ++ _ : List Value).take (m * 2) = _
      rw [List.append_assoc, List.take_append_of_le_length (by rw [List.length_take, Array.length_toList]; omega), List.take_take, Nat.min_eq_left (by omega)]
      rfl
  · exact ⟨rfl, rfl, rfl, by simp, fun k hk hne => setRow_other W g k cur' (fun e => hne (by rw [e]))⟩
end Go.Proofs.Ytngocadnbpdnoaa.Mo
namespace Go.Proofs.Ytngocadnbpdnoaa.Mo
open Go Go.Maps Go.RowKit Go.Proofs.Ytngocadnbpdnoaa.Srt Go.Proofs.Ytngocadnbpdnoaa.Q Go.Proofs.YtngocadnbpdnoaaW.PrintWords Go.Proofs.YtngocadnbpdnoaaW.PrintLast Go.Proofs.YtngocadnbpdnoaaW.PrintMore
set_option linter.unusedVariables false
set_option linter.unusedSimpArgs false
/-- Which pairs stay. -/
def stays (lo hi : Int) (xs : List SP) : List SP := xs.filter (fun p => !outB lo hi p)
theorem stays_none {lo hi : Int} {xs : List SP} (h : ∀ p ∈ xs, outB lo hi p = false) : stays lo hi xs = xs := List.filter_eq_self.2 (fun p hp => by rw [h p hp]; rfl)
theorem stays_snoc (lo hi : Int) (xs : List SP) (j : Nat) (h : j < xs.length) : stays lo hi (xs.take (j + 1)) = stays lo hi (xs.take j) ++ (if outB lo hi xs[j] = true then [] else [xs[j]]) := by
  unfold stays
  rw [List.take_succ_eq_append_getElem h, List.filter_append]
  congr 1
  by_cases ho : outB lo hi xs[j] = true
  · simp [ho]
  · simp [ho]
/-- What a round of DeleteFunc keeps: i of the first j stand at the front. -/
structure DelI (lo hi : Int) (xs cur : List SP) (i j : Nat) : Prop where
  len : cur.length = xs.length
  lt : i < j
  le : j ≤ xs.length
  front : cur.take i = stays lo hi (xs.take j)
  back : cur.drop j = xs.drop j
theorem DelI.at {lo hi : Int} {xs cur : List SP} {i j : Nat} (h : DelI lo hi xs cur i j) (hj : j < xs.length) : cur[j]'(by rw [h.len]; exact hj) = xs[j] := by
  have h1 : j < cur.length := by rw [h.len]; exact hj
  have := (drop_iff h1 hj).1 h.back
  exact this.1
theorem DelI.skip {lo hi : Int} {xs cur : List SP} {i j : Nat} (h : DelI lo hi xs cur i j) (hj : j < xs.length) (ho : outB lo hi xs[j] = true) : DelI lo hi xs cur i (j + 1) :=
  ⟨h.len, by have := h.lt; omega, hj, by rw [stays_snoc lo hi xs j hj, if_pos ho, List.append_nil]; exact h.front, by
    have h1 : j < cur.length := by rw [h.len]; exact hj
    exact ((drop_iff h1 hj).1 h.back).2⟩
theorem DelI.keep {lo hi : Int} {xs cur : List SP} {i j : Nat} (h : DelI lo hi xs cur i j) (hj : j < xs.length) (ho : outB lo hi xs[j] = false) : DelI lo hi xs (cur.set i xs[j]) (i + 1) (j + 1) := by
  have h1 : j < cur.length := by rw [h.len]; exact hj
  have hci : i < cur.length := by have := h.lt; omega
  refine ⟨by rw [List.length_set]; exact h.len, by have := h.lt; omega, hj, ?_, ?_⟩
  · rw [stays_snoc lo hi xs j hj, if_neg (by rw [ho]; simp), ← h.front, List.take_succ_eq_append_getElem (by rw [List.length_set]; exact hci), List.getElem_set_self, List.take_set_of_le (Nat.le_refl i)]
  · rw [List.drop_set_of_lt (by have := h.lt; omega)]
    exact ((drop_iff h1 hj).1 h.back).2
theorem DelI.start {lo hi : Int} {xs : List SP} {i : Nat} (hi' : i < xs.length) (ho : outB lo hi xs[i] = true) (hn : ∀ j (hj : j < i), outB lo hi (xs[j]'(by omega)) = false) : DelI lo hi xs xs i (i + 1) :=
  ⟨rfl, Nat.lt_succ_self i, hi', by
    rw [stays_snoc lo hi xs i hi', if_pos ho, List.append_nil]
    exact (stays_none (fun p hp => by
      obtain ⟨j, hj, rfl⟩ := List.getElem_of_mem hp
      rw [List.length_take] at hj
      rw [List.getElem_take]
      exact hn j (by omega))).symm, rfl⟩
theorem add0 (g k : Nat) : (⟨g, 0, none⟩ : Addr).add k = ⟨g, k, none⟩ := by unfold Addr.add; split <;> simp_all
set_option maxRecDepth 100000 in
set_option maxHeartbeats 8000000 in
theorem del_c (B : Nat) (lo hi : Int) (A : Option Addr) (c : Nat) (xs : List SP) (base : Nat) (w : World) (h : LoHi w B lo hi) (HO : kSP.R 90 w base (fun _ => True) (.slice A xs.length c) xs) (hBb : B < base) (hm : xs.length ≤ 4398046511104) (hbase : base ≤ w.heap.size) :
    Calls Try.prog 83 #[.slice A xs.length c, .func (.func 84) #[] #[.pointer (some ⟨B, 0, none⟩)]] w
      fun e w' => ∃ v, e = .returned v ∧ kSP.R 90 w' base (fun _ => True) v (stays lo hi xs) ∧ Below base w w' := by
  have cI := idx_c B lo hi A c xs w h (Kd.R_reads' HO).2.2 hm
  have HH := Lib.hid h
  have HR := Lib.hid HO
  clear h HO
  go_enter Try.func83, Try.ntmps83
  go_upto_region 2 with (go_at_call 99; refine cI.mono ?_; rintro e w1 ⟨hcase, hb1⟩; rcases hcase with ⟨i, hi', rfl, ho, hn⟩ | ⟨rfl, hno⟩)
  · have hne : ((i : Int) == -1) = false := beq_eq_false_iff_ne.2 (by omega)
    have HR1 := Lib.hid (Kd.R_below HR.out hb1)
    have HB1 := Lib.hid (hb1.mono hbase)
    have HD1 := Lib.hid (DelI.start hi' ho hn)
    obtain ⟨g, cap, hv, hbg, -, -⟩ := Kd.R_form HR1.out (by omega)
    injection hv with hA _ hc
    subst hA; subst hc
    clear HR hb1 ho hn cI
    go_wp2_with fail
    go_loopw [5, 6, 7] (fun v5 v6 v7 wr => ∃ (i j : Nat) (cur : List SP), v5 = .int .i64 i ∧ v6 = .int .i64 j ∧ Hid (kSP.R 90 wr base (fun _ => True) (.slice (some ⟨g, 0, none⟩) xs.length c) cur) ∧ Hid (DelI lo hi xs cur i j) ∧ Hid (Below base w wr) ∧ w.heap.size ≤ wr.heap.size)
      (fun _ v6 _ _ => xs.length - (intOf v6).toNat)
    case atStart => exact ⟨i, i + 1, xs, by go_num, by go_num, HR1, HD1, HB1, HB1.out.size⟩
    case round =>
      obtain ⟨i, j, cur, rfl, rfl, HR, HD, HB, hws⟩ := hrel
      have hcl := HD.out.len
      have hij := HD.out.lt
      have hjl := HD.out.le
      by_cases hlt : j < xs.length
      · have hdec : decide ((j : Int) < (xs.length : Int)) = true := decide_eq_true (by omega)
        obtain ⟨ad, e', y0, y1⟩ := at_T90 (Kd.R_reads' HR.out).2.2 (j : Int) (by omega) (by omega)
        cases e'
        simp only [Int.toNat_natCast, add0] at y0 y1
        rw [rd_get (by omega), HD.out.at hlt] at y0 y1
        obtain ⟨p, hp⟩ : ∃ p, p = xs[j] := ⟨_, rfl⟩
        rw [← hp] at y0 y1
        have HPP := Lib.hid hp
        clear hp
        have HL : Hid (LoHi wr B lo hi) := Lib.hid (HH.out.kept (S := fun k => base ≤ k) ⟨hws, fun k _ hk => HB.out.block k (by omega)⟩ (by omega))
        by_cases ho : outB lo hi p = true
        · go_wp2_with (go_at_call 84; refine (pred_c B lo hi p _ (HL.out.below (below_alloc (Below.refl _ wr) _))).mono ?_; rintro e w3 ⟨rfl, hb3⟩; have HB3 := Lib.hid ((below_alloc (Below.refl wr.heap.size wr) _).trans (hb3.mono (by simp))); clear hb3; rw [ho])
          go_roundw
          case rel => exact ⟨i, j + 1, cur, rfl, by go_num, Lib.hid (Kd.R_below HR.out HB3.out), Lib.hid (HD.out.skip hlt (by rw [← HPP.out]; exact ho)), Lib.hid (HB.out.trans (HB3.out.mono (by omega))), Nat.le_trans hws HB3.out.size⟩
          case measure => simp [intOf]; omega
        · have ho' : outB lo hi p = false := by simpa using ho
          clear ho
          have hcur : i < cur.length := by omega
          go_wp2_with (first
            | (go_at_call 84
               refine (pred_c B lo hi p (wr.alloc (.cells #[.int .u64 p.f0, .int .u64 p.f1] 90)) (HL.out.below (below_alloc (Below.refl _ wr) _))).mono ?_
               rintro e w3 ⟨rfl, hb3⟩
               have z0 : w3.cell? ⟨wr.heap.size, 0, none⟩ = some (.int .u64 p.f0) := (hb3.cell (p := ⟨wr.heap.size, 0, none⟩) (by simp)).trans (by rw [blk_cell (heap_alloc_new wr _)]; rfl)
               have z1 : w3.cell? ⟨wr.heap.size, 1, none⟩ = some (.int .u64 p.f1) := (hb3.cell (p := ⟨wr.heap.size, 1, none⟩) (by simp)).trans (by rw [blk_cell (heap_alloc_new wr _)]; rfl)
               have HB3 := Lib.hid ((below_alloc (Below.refl wr.heap.size wr) (.cells #[.int .u64 p.f0, .int .u64 p.f1] 90)).trans (hb3.mono (by simp)))
               have HR3 := Lib.hid (Kd.R_below HR.out HB3.out)
               have HBB3 := Lib.hid (HB.out.trans (HB3.out.mono (by omega : base ≤ wr.heap.size)))
               clear hb3
               rw [ho'])
            | ((with_reducible refine gate_store (t := 90) (p := 33) rfl ?_)
               obtain ⟨cc, hcc1, hcc2, hcc3, -⟩ := Kd.R_elem HR3.out z90 (i : Int) (by omega) (by omega)
               refine Kd.R_store kSP (w0 := w) base rfl rfl 90 (.tmp 33) (.tmp 32) rfl 90 (i : Int) 0 cur p (.agg #[.int .u64 p.f0, .int .u64 p.f1]) [.int .u64 p.f0, .int .u64 p.f1] cc (fun _ => True) (fun _ => False) rfl (by show i * 2 = (i : Int).toNat * 2 + 0; simp) rfl rfl (by kernel_rfl) (by intro q hq; simp at hq; rcases hq with rfl | rfl <;> rfl) HR3.out (by omega) (by omega) hcc1 hcc3 (by show 0 + 2 ≤ 2; omega) ?hM (fun _ e => e.elim) HBB3.out ?_
               (case hM => (rw [List.take_zero, List.nil_append, List.drop_eq_nil_of_le (by rw [hcc1]; show 2 ≤ 0 + 2; omega), List.append_nil]; exact k90_mkM _ _ _ p))
               intro w4 hr4 hb4 hg4
               have HR4 := Lib.hid hr4
               have HBB4 := Lib.hid hb4
               have HS4 := Lib.hid (Nat.le_trans HB3.out.size hg4.size)
               clear hr4 hb4 hg4 hcc1 hcc2 hcc3))
          go_roundw
          case rel => exact ⟨i + 1, j + 1, cur.set i p, by go_num, by go_num, HR4, Lib.hid (by rw [HPP.out]; exact HD.out.keep hlt (by rw [← HPP.out]; exact ho')), HBB4, Nat.le_trans hws HS4.out⟩
          case measure => simp [intOf]; omega
      · obtain rfl : j = xs.length := by omega
        have hdec : decide ((xs.length : Int) < (xs.length : Int)) = false := by simp
        have hnc := (Kd.R_reads' HR.out).2.1
        obtain ⟨w5, hrun5, hR5, hg5⟩ := clear_row (c2 := c - i) 0 HR.out (by omega)
        have HR5 := Lib.hid hR5
        have HB5 := Lib.hid (HB.out.grown hg5 (by omega : base ≤ wr.heap.size) (fun k hk => by cases hk; exact hbg))
        have hfr := HD.out.front
        rw [List.take_length] at hfr
        have HFR := Lib.hid hfr
        clear hR5 hg5 hfr
        go_wp2_with fail
        go_ret
        exact ⟨_, rfl, by rw [← HFR.out]; exact HR5.out, HB5.out⟩
  · have HR1 := Lib.hid (Kd.R_below HR.out hb1)
    have HB1 := Lib.hid (hb1.mono hbase)
    have HN := Lib.hid (stays_none hno)
    clear HR hb1 hno cI
    go_wp2_with fail
    go_ret
    exact ⟨_, rfl, by rw [HN.out]; exact HR1.out, HB1.out⟩
end Go.Proofs.Ytngocadnbpdnoaa.Mo
namespace Go.Proofs.Ytngocadnbpdnoaa.Mo
open Go Go.Maps Go.RowKit Go.Proofs.Ytngocadnbpdnoaa.Srt Go.Proofs.Ytngocadnbpdnoaa.Q Go.Proofs.YtngocadnbpdnoaaW.PrintWords Go.Proofs.YtngocadnbpdnoaaW.PrintLast Go.Proofs.YtngocadnbpdnoaaW.PrintMore
set_option linter.unusedVariables false
set_option linter.unusedSimpArgs false
def within (lo hi : Int) (l : PL) : PL := l.filter (fun p => !(decide (p.1 < lo) || decide (hi < p.1)))
theorem stays_toS (lo hi : Int) (l : PL) : stays lo hi (toS l) = toS (within lo hi l) := by
  unfold stays within toS
  rw [List.filter_map]
  rfl
theorem below_row {B : Nat} {w W : World} (h : Below B w W) {g : Nat} (hg : B ≤ g) (cs : Array Value) : Below B w (W.setRow g cs) := h.trans ⟨rfl, rfl, rfl, by simp, fun k hk => setRow_other W g k cs (by omega)⟩
theorem wrapU (n : Nat) (h : n ≤ 1099511627776) : IntKind.u64.wrap (n : Int) = (n : Int) := by simp [IntKind.wrap, IntKind.signed, IntKind.bits]; omega
def zA : Array Value := #[.int .i64 0, .bool false, .int .u64 0, .bool false, .int .u64 0, .slice none 0 0, .int .u64 0]
/-- Behind the boxes of query. -/
def qW (w : World) (o : OpS) (A : Option Addr) (c : Nat) : World := ((w.alloc (.cells (opC o A c) 39)).alloc (.cells (ansC 0 false 0 false 0 (.slice none 0 0) 0) 26)).alloc (.cells (ansC 0 false 0 false 0 (.slice none 0 0) 0) 26)
theorem qW_below (w : World) (o : OpS) (A : Option Addr) (c : Nat) : Below w.heap.size w (qW w o A c) := below_alloc (below_alloc (below_alloc (Below.refl _ _) _) _) _
theorem qW_size (w : World) (o : OpS) (A : Option Addr) (c : Nat) : (qW w o A c).heap.size = w.heap.size + 3 := by simp [qW]
theorem qW_op (w : World) (o : OpS) (A : Option Addr) (c : Nat) : (qW w o A c).heap[w.heap.size]? = some (.cells (opC o A c) 39 (0, 0)) := ((below_alloc (Below.refl _ (doW w o A c)) _).block _ (by rw [doW_size]; omega)).trans (doW_op w o A c)
theorem qW_r (w : World) (o : OpS) (A : Option Addr) (c : Nat) : (qW w o A c).heap[w.heap.size + 1]? = some (.cells (ansC 0 false 0 false 0 (.slice none 0 0) 0) 26 (0, 0)) := ((below_alloc (Below.refl _ (doW w o A c)) _).block _ (by rw [doW_size]; omega)).trans (doW_ans w o A c)
theorem qW_a (w : World) (o : OpS) (A : Option Addr) (c : Nat) : (qW w o A c).heap[w.heap.size + 2]? = some (.cells (ansC 0 false 0 false 0 (.slice none 0 0) 0) 26 (0, 0)) := by
  have := heap_alloc_new (doW w o A c) (.cells (ansC 0 false 0 false 0 (.slice none 0 0) 0) 26)
  rw [doW_size] at this
  exact this
set_option maxRecDepth 100000 in
set_option maxHeartbeats 8000000 in
theorem query_ct (o : OpS) (A : Option Addr) (c bx N : Nat) (l : PL) (w : World) (hM : MapN w bx N l) (hN : l.length ≤ 1099511627776) (hk : o.f0 = 9) :
    Calls Try.prog 37 #[.agg (opC o A c), .map (some bx)] w fun e w' => ∃ ps, e = .returned (ansV 0 false 0 false 0 ps ((toS (within o.f7 o.f8 l)).length : Int)) ∧ kSP.R 90 w' w.heap.size (fun _ => True) ps (toS []) ∧ Below w.heap.size w w' := by
  have hb0 := qW_below w o A c
  have hs0 := qW_size w o A c
  have hO0 := qW_op w o A c
  have hR0 := qW_r w o A c
  have hA0 := qW_a w o A c
  have hkd : (qW w o A c).cell? ⟨w.heap.size, 0, none⟩ = some (.int .u8 o.f0) := (op_cells hO0).1
  have cS := sorted_c bx N l (qW w o A c) (hM.below hb0) hN
  go_enter Try.func37, Try.ntmps37
  go_upto_region 2 with fail
  change Code.wp _ _ _ _ (qW w o A c)
  obtain ⟨W, hW⟩ : ∃ W, W = qW w o A c := ⟨_, rfl⟩
  rw [← hW] at hb0 hs0 hO0 hR0 hA0 hkd cS ⊢
  clear hW
  have HB0 := Lib.hid hb0
  have HO0 := Lib.hid hO0
  have HR0 := Lib.hid hR0
  have HA0 := Lib.hid hA0
  clear hb0 hO0 hR0 hA0 hM
  go_upto_region 12 with (first
    | (go_at_call 38
       refine cS.mono ?_
       rintro e w4 ⟨v4, rfl, hR4, hB4⟩
       obtain ⟨A4, c4, rfl⟩ := Kd.R_slice hR4
       have HR4 := Lib.hid hR4
       have HB4 := Lib.hid hB4
       have HLH : Hid (LoHi w4 w.heap.size o.f7 o.f8) := Lib.hid (LoHi.below ⟨by omega, (op_cells HO0.out).2.2.2.2.2.2.2.2.2.1, (op_cells HO0.out).2.2.2.2.2.2.2.2.2.2⟩ hB4)
       clear hR4 hB4)
    | (go_at_call 83
       refine (del_c w.heap.size o.f7 o.f8 A4 c4 (toS l) W.heap.size w4 HLH.out HR4.out (by omega) (by rw [toS_length]; omega) HB4.out.size).mono ?_
       rintro e w5 ⟨v5, rfl, hR5, hB5⟩
       rw [stays_toS] at hR5
       obtain ⟨A5, c5, rfl⟩ := Kd.R_slice hR5
       have HR5 := Lib.hid hR5
       have HB5 := Lib.hid (HB4.out.trans hB5)
       clear hR5 hB5))
  have hz5 := HB5.out.size
  have hO5 : w5.heap[w.heap.size]? = some (.cells (opC o A c) 39 (0, 0)) := (HB5.out.block _ (by omega)).trans HO0.out
  have hR5' : w5.heap[w.heap.size + 1]? = some (.cells (ansC 0 false 0 false 0 (.slice none 0 0) 0) 26 (0, 0)) := (HB5.out.block _ (by omega)).trans HR0.out
  have hA5 : w5.heap[w.heap.size + 2]? = some (.cells (ansC 0 false 0 false 0 (.slice none 0 0) 0) 26 (0, 0)) := (HB5.out.block _ (by omega)).trans HA0.out
  have hkd5 : w5.cell? ⟨w.heap.size, 0, none⟩ = some (.int .u8 o.f0) := (op_cells hO5).1
  have hBB5 : Below w.heap.size w w5 := HB0.out.trans (HB5.out.mono HB0.out.size)
  have hRR5 : kSP.R 90 w5 w.heap.size (fun k => w.heap.size + 3 ≤ k) (.slice A5 (toS (within o.f7 o.f8 l)).length c5) (toS (within o.f7 o.f8 l)) := Kd.R_lower (Kd.R_mono (Kd.R_bound HR5.out) (fun k hk => by have := hk.2.1; omega)) (by omega)
  have hlen : (toS (within o.f7 o.f8 l)).length ≤ 1099511627776 := by rw [toS_length]; exact Nat.le_trans (List.length_filter_le _ _) hN
  obtain ⟨ws, hws⟩ : ∃ ws, ws = within o.f7 o.f8 l := ⟨_, rfl⟩
  rw [← hws] at hRR5 hlen ⊢
  have HR5' := Lib.hid hR5'
  have HA5 := Lib.hid hA5
  have HRR5 := Lib.hid hRR5
  have HBB5 := Lib.hid hBB5
  have HWS := Lib.hid hws
  clear hws hR5' hA5 hRR5 hBB5 hO5 HR5 HB5 HR4 HB4 HLH cS
  rw [hk] at hkd hkd5
  rw [show w.heap.size + 1 + 1 = w.heap.size + 2 from rfl]
  have hwr := wrapU _ hlen
  have hd6 : w5.cell? ⟨w.heap.size + 2, 6, none⟩ = some (.int .u64 0) := by rw [blk_cell HA5.out]; rfl
  have hf6 : w5.frozen? ⟨w.heap.size + 2, 6, none⟩ = false := by simp [World.frozen?, HA5.out]
  have hsc : w5.setCell ⟨w.heap.size + 2, 6, none⟩ (.int .u64 ((toS ws).length : Int)) = w5.setRow (w.heap.size + 2) (ansC 0 false 0 false 0 (.slice none 0 0) ((toS ws).length : Int)) := setCell_eq_setRow w5 (w.heap.size + 2) 6 _ _ _ (.int .u64 ((toS ws).length : Int)) HA5.out
  obtain ⟨w6, hw6⟩ : ∃ w6, w6 = w5.setRow (w.heap.size + 2) (ansC 0 false 0 false 0 (.slice none 0 0) ((toS ws).length : Int)) := ⟨_, rfl⟩
  have HA6 : Hid (w6.heap[w.heap.size + 2]? = some (.cells (ansC 0 false 0 false 0 (.slice none 0 0) ((toS ws).length : Int)) 26 (0, 0))) := Lib.hid (by rw [hw6]; exact setRow_heap _ _ _ _ _ _ HA5.out)
  have HR6 : Hid (w6.heap[w.heap.size + 1]? = some (.cells (ansC 0 false 0 false 0 (.slice none 0 0) 0) 26 (0, 0))) := Lib.hid (by rw [hw6]; exact (setRow_other w5 (w.heap.size + 2) (w.heap.size + 1) _ (by omega)).trans HR5'.out)
  have HBB6 : Hid (Below w.heap.size w w6) := Lib.hid (by rw [hw6]; exact below_row HBB5.out (by omega) _)
  have HRR6 : Hid (kSP.R 90 w6 w.heap.size (fun k => w.heap.size + 3 ≤ k) (.slice A5 (toS ws).length c5) (toS ws)) := Lib.hid (by rw [hw6]; exact Kd.R_kept HRR5.out (Kept_row w5 (w.heap.size + 2) _) (fun k hk e => by omega))
  rw [← hw6] at hsc
  clear hw6
  obtain ⟨l0, l1, l2, l3, l4, l5, l6⟩ := ans_cells HA6.out
  go_wp2_with (first | ((with_reducible refine gate_store (t := 26) (p := 4) rfl ?_); refine wpList_store_row rfl 26 (.tmp 4) (.tmp 54) rfl (w.heap.size + 1) (ansC 0 false 0 false 0 (.slice none 0 0) ((toS ws).length : Int)) rfl rfl 26 _ HR6.out (by kernel_rfl) rfl (ansC_one _ _ _ _ _ _ _ _ _) ?_))
  refine bodyPost_ret (res_ans rfl _ rfl (setRow_heap _ _ _ _ _ _ HR6.out)) rfl ⟨_, by rw [HWS.out], Kd.R_nil _ _ _ _ _, below_row HBB6.out (by omega) _⟩
set_option maxRecDepth 100000 in
set_option maxHeartbeats 8000000 in
theorem query_rgS (o : OpS) (A : Option Addr) (c bx N : Nat) (l : PL) (w : World) (hM : MapN w bx N l) (hN : l.length ≤ 1099511627776) (h7 : o.f0 ≠ 7) (h9 : o.f0 ≠ 9) (hne : within o.f7 o.f8 l ≠ []) :
    Calls Try.prog 37 #[.agg (opC o A c), .map (some bx)] w fun e w' => ∃ ps, e = .returned (ansV 0 false 0 false 0 ps 0) ∧ kSP.R 90 w' w.heap.size (fun _ => True) ps (toS (within o.f7 o.f8 l)) ∧ Below w.heap.size w w' := by
  have hb0 := qW_below w o A c
  have hs0 := qW_size w o A c
  have hO0 := qW_op w o A c
  have hR0 := qW_r w o A c
  have hA0 := qW_a w o A c
  have hkd : (qW w o A c).cell? ⟨w.heap.size, 0, none⟩ = some (.int .u8 o.f0) := (op_cells hO0).1
  have cS := sorted_c bx N l (qW w o A c) (hM.below hb0) hN
  have k7 : (o.f0 == 7) = false := beq_eq_false_iff_ne.2 h7
  have HNE := Lib.hid hne
  clear hne
  go_enter Try.func37, Try.ntmps37
  go_upto_region 2 with fail
  change Code.wp _ _ _ _ (qW w o A c)
  obtain ⟨W, hW⟩ : ∃ W, W = qW w o A c := ⟨_, rfl⟩
  rw [← hW] at hb0 hs0 hO0 hR0 hA0 hkd cS ⊢
  clear hW
  have HB0 := Lib.hid hb0
  have HO0 := Lib.hid hO0
  have HR0 := Lib.hid hR0
  have HA0 := Lib.hid hA0
  clear hb0 hO0 hR0 hA0 hM
  go_upto_region 12 with (first
    | (go_at_call 38
       refine cS.mono ?_
       rintro e w4 ⟨v4, rfl, hR4, hB4⟩
       obtain ⟨A4, c4, rfl⟩ := Kd.R_slice hR4
       have HR4 := Lib.hid hR4
       have HB4 := Lib.hid hB4
       have HLH : Hid (LoHi w4 w.heap.size o.f7 o.f8) := Lib.hid (LoHi.below ⟨by omega, (op_cells HO0.out).2.2.2.2.2.2.2.2.2.1, (op_cells HO0.out).2.2.2.2.2.2.2.2.2.2⟩ hB4)
       clear hR4 hB4)
    | (go_at_call 83
       refine (del_c w.heap.size o.f7 o.f8 A4 c4 (toS l) W.heap.size w4 HLH.out HR4.out (by omega) (by rw [toS_length]; omega) HB4.out.size).mono ?_
       rintro e w5 ⟨v5, rfl, hR5, hB5⟩
       rw [stays_toS] at hR5
       obtain ⟨A5, c5, rfl⟩ := Kd.R_slice hR5
       have HR5 := Lib.hid hR5
       have HB5 := Lib.hid (HB4.out.trans hB5)
       clear hR5 hB5))
  have hz5 := HB5.out.size
  have hO5 : w5.heap[w.heap.size]? = some (.cells (opC o A c) 39 (0, 0)) := (HB5.out.block _ (by omega)).trans HO0.out
  have hR5' : w5.heap[w.heap.size + 1]? = some (.cells (ansC 0 false 0 false 0 (.slice none 0 0) 0) 26 (0, 0)) := (HB5.out.block _ (by omega)).trans HR0.out
  have hA5 : w5.heap[w.heap.size + 2]? = some (.cells (ansC 0 false 0 false 0 (.slice none 0 0) 0) 26 (0, 0)) := (HB5.out.block _ (by omega)).trans HA0.out
  have hkd5 : w5.cell? ⟨w.heap.size, 0, none⟩ = some (.int .u8 o.f0) := (op_cells hO5).1
  have hBB5 : Below w.heap.size w w5 := HB0.out.trans (HB5.out.mono HB0.out.size)
  have hRR5 : kSP.R 90 w5 w.heap.size (fun k => w.heap.size + 3 ≤ k) (.slice A5 (toS (within o.f7 o.f8 l)).length c5) (toS (within o.f7 o.f8 l)) := Kd.R_lower (Kd.R_mono (Kd.R_bound HR5.out) (fun k hk => by have := hk.2.1; omega)) (by omega)
  have hlen : (toS (within o.f7 o.f8 l)).length ≤ 1099511627776 := by rw [toS_length]; exact Nat.le_trans (List.length_filter_le _ _) hN
  obtain ⟨ws, hws⟩ : ∃ ws, ws = within o.f7 o.f8 l := ⟨_, rfl⟩
  rw [← hws] at hRR5 hlen ⊢
  have HR5' := Lib.hid hR5'
  have HA5 := Lib.hid hA5
  have HRR5 := Lib.hid hRR5
  have HBB5 := Lib.hid hBB5
  have HWS := Lib.hid hws
  clear hws hR5' hA5 hRR5 hBB5 hO5 HR5 HB5 HR4 HB4 HLH cS
  have k9 : (o.f0 == 9) = false := beq_eq_false_iff_ne.2 h9
  have hpos : 0 < (toS ws).length := by
    have hne := HNE.out
    rw [← HWS.out] at hne
    rw [toS_length]; exact List.length_pos_iff.2 hne
  rw [show w.heap.size + 1 + 1 = w.heap.size + 2 from rfl]
  have hd6 : w5.cell? ⟨w.heap.size + 2, 5, none⟩ = some (.slice none 0 0) := by rw [blk_cell HA5.out]; rfl
  have hf6 : w5.frozen? ⟨w.heap.size + 2, 5, none⟩ = false := by simp [World.frozen?, HA5.out]
  have hsc : w5.setCell ⟨w.heap.size + 2, 5, none⟩ (.slice A5 (toS ws).length c5) = w5.setRow (w.heap.size + 2) (ansC 0 false 0 false 0 (.slice A5 (toS ws).length c5) 0) := setCell_eq_setRow w5 (w.heap.size + 2) 5 _ _ _ (.slice A5 (toS ws).length c5) HA5.out
  obtain ⟨w6, hw6⟩ : ∃ w6, w6 = w5.setRow (w.heap.size + 2) (ansC 0 false 0 false 0 (.slice A5 (toS ws).length c5) 0) := ⟨_, rfl⟩
  have HA6 : Hid (w6.heap[w.heap.size + 2]? = some (.cells (ansC 0 false 0 false 0 (.slice A5 (toS ws).length c5) 0) 26 (0, 0))) := Lib.hid (by rw [hw6]; exact setRow_heap _ _ _ _ _ _ HA5.out)
  have HR6 : Hid (w6.heap[w.heap.size + 1]? = some (.cells (ansC 0 false 0 false 0 (.slice none 0 0) 0) 26 (0, 0))) := Lib.hid (by rw [hw6]; exact (setRow_other w5 (w.heap.size + 2) (w.heap.size + 1) _ (by omega)).trans HR5'.out)
  have HBB6 : Hid (Below w.heap.size w w6) := Lib.hid (by rw [hw6]; exact below_row HBB5.out (by omega) _)
  have HRR6 : Hid (kSP.R 90 w6 w.heap.size (fun k => w.heap.size + 3 ≤ k) (.slice A5 (toS ws).length c5) (toS ws)) := Lib.hid (by rw [hw6]; exact Kd.R_kept HRR5.out (Kept_row w5 (w.heap.size + 2) _) (fun k hk e => by omega))
  rw [← hw6] at hsc
  clear hw6
  obtain ⟨l0, l1, l2, l3, l4, l5, l6⟩ := ans_cells HA6.out
  go_wp2_with (first | ((with_reducible refine gate_store (t := 26) (p := 4) rfl ?_); refine wpList_store_row rfl 26 (.tmp 4) (.tmp 54) rfl (w.heap.size + 1) (ansC 0 false 0 false 0 (.slice A5 (toS ws).length c5) 0) rfl rfl 26 _ HR6.out (by kernel_rfl) rfl (ansC_one _ _ _ _ _ _ _ _ _) ?_))
  refine bodyPost_ret (res_ans rfl _ rfl (setRow_heap _ _ _ _ _ _ HR6.out)) rfl ⟨_, rfl, (by rw [← HWS.out]; exact Kd.R_mono (Kd.R_kept HRR6.out (Kept_row w6 (w.heap.size + 1) _) (fun k hk e => by omega)) (fun _ _ => trivial)), below_row HBB6.out (by omega) _⟩
set_option maxRecDepth 100000 in
set_option maxHeartbeats 8000000 in
theorem query_rgE (o : OpS) (A : Option Addr) (c bx N : Nat) (l : PL) (w : World) (hM : MapN w bx N l) (hN : l.length ≤ 1099511627776) (h7 : o.f0 ≠ 7) (h9 : o.f0 ≠ 9) (hne : within o.f7 o.f8 l = []) :
    Calls Try.prog 37 #[.agg (opC o A c), .map (some bx)] w fun e w' => ∃ ps, e = .returned (ansV 0 false 0 false 0 ps 0) ∧ kSP.R 90 w' w.heap.size (fun _ => True) ps (toS (within o.f7 o.f8 l)) ∧ Below w.heap.size w w' := by
  have hb0 := qW_below w o A c
  have hs0 := qW_size w o A c
  have hO0 := qW_op w o A c
  have hR0 := qW_r w o A c
  have hA0 := qW_a w o A c
  have hkd : (qW w o A c).cell? ⟨w.heap.size, 0, none⟩ = some (.int .u8 o.f0) := (op_cells hO0).1
  have cS := sorted_c bx N l (qW w o A c) (hM.below hb0) hN
  have k7 : (o.f0 == 7) = false := beq_eq_false_iff_ne.2 h7
  have HNE := Lib.hid hne
  clear hne
  go_enter Try.func37, Try.ntmps37
  go_upto_region 2 with fail
  change Code.wp _ _ _ _ (qW w o A c)
  obtain ⟨W, hW⟩ : ∃ W, W = qW w o A c := ⟨_, rfl⟩
  rw [← hW] at hb0 hs0 hO0 hR0 hA0 hkd cS ⊢
  clear hW
  have HB0 := Lib.hid hb0
  have HO0 := Lib.hid hO0
  have HR0 := Lib.hid hR0
  have HA0 := Lib.hid hA0
  clear hb0 hO0 hR0 hA0 hM
  go_upto_region 12 with (first
    | (go_at_call 38
       refine cS.mono ?_
       rintro e w4 ⟨v4, rfl, hR4, hB4⟩
       obtain ⟨A4, c4, rfl⟩ := Kd.R_slice hR4
       have HR4 := Lib.hid hR4
       have HB4 := Lib.hid hB4
       have HLH : Hid (LoHi w4 w.heap.size o.f7 o.f8) := Lib.hid (LoHi.below ⟨by omega, (op_cells HO0.out).2.2.2.2.2.2.2.2.2.1, (op_cells HO0.out).2.2.2.2.2.2.2.2.2.2⟩ hB4)
       clear hR4 hB4)
    | (go_at_call 83
       refine (del_c w.heap.size o.f7 o.f8 A4 c4 (toS l) W.heap.size w4 HLH.out HR4.out (by omega) (by rw [toS_length]; omega) HB4.out.size).mono ?_
       rintro e w5 ⟨v5, rfl, hR5, hB5⟩
       rw [stays_toS] at hR5
       obtain ⟨A5, c5, rfl⟩ := Kd.R_slice hR5
       have HR5 := Lib.hid hR5
       have HB5 := Lib.hid (HB4.out.trans hB5)
       clear hR5 hB5))
  have hz5 := HB5.out.size
  have hO5 : w5.heap[w.heap.size]? = some (.cells (opC o A c) 39 (0, 0)) := (HB5.out.block _ (by omega)).trans HO0.out
  have hR5' : w5.heap[w.heap.size + 1]? = some (.cells (ansC 0 false 0 false 0 (.slice none 0 0) 0) 26 (0, 0)) := (HB5.out.block _ (by omega)).trans HR0.out
  have hA5 : w5.heap[w.heap.size + 2]? = some (.cells (ansC 0 false 0 false 0 (.slice none 0 0) 0) 26 (0, 0)) := (HB5.out.block _ (by omega)).trans HA0.out
  have hkd5 : w5.cell? ⟨w.heap.size, 0, none⟩ = some (.int .u8 o.f0) := (op_cells hO5).1
  have hBB5 : Below w.heap.size w w5 := HB0.out.trans (HB5.out.mono HB0.out.size)
  have hRR5 : kSP.R 90 w5 w.heap.size (fun k => w.heap.size + 3 ≤ k) (.slice A5 (toS (within o.f7 o.f8 l)).length c5) (toS (within o.f7 o.f8 l)) := Kd.R_lower (Kd.R_mono (Kd.R_bound HR5.out) (fun k hk => by have := hk.2.1; omega)) (by omega)
  have hlen : (toS (within o.f7 o.f8 l)).length ≤ 1099511627776 := by rw [toS_length]; exact Nat.le_trans (List.length_filter_le _ _) hN
  obtain ⟨ws, hws⟩ : ∃ ws, ws = within o.f7 o.f8 l := ⟨_, rfl⟩
  rw [← hws] at hRR5 hlen ⊢
  have HR5' := Lib.hid hR5'
  have HA5 := Lib.hid hA5
  have HRR5 := Lib.hid hRR5
  have HBB5 := Lib.hid hBB5
  have HWS := Lib.hid hws
  clear hws hR5' hA5 hRR5 hBB5 hO5 HR5 HB5 HR4 HB4 HLH cS
  have k9 : (o.f0 == 9) = false := beq_eq_false_iff_ne.2 h9
  have hwn : ws = [] := by rw [HWS.out]; exact HNE.out
  have hpos : (toS ws).length = 0 := by rw [hwn]; rfl
  rw [show w.heap.size + 1 + 1 = w.heap.size + 2 from rfl]
  have HA6 := HA5
  have HR6 := HR5'
  have HBB6 := HBB5
  have HWN := Lib.hid hwn
  clear hwn
  obtain ⟨l0, l1, l2, l3, l4, l5, l6⟩ := ans_cells HA6.out
  go_wp2_with (first | ((with_reducible refine gate_store (t := 26) (p := 4) rfl ?_); refine wpList_store_row rfl 26 (.tmp 4) (.tmp 54) rfl (w.heap.size + 1) (ansC 0 false 0 false 0 (.slice none 0 0) 0) rfl rfl 26 _ HR6.out (by kernel_rfl) rfl (ansC_one _ _ _ _ _ _ _ _ _) ?_))
  refine bodyPost_ret (res_ans rfl _ rfl (setRow_heap _ _ _ _ _ _ HR6.out)) rfl ⟨_, rfl, (by rw [HNE.out]; exact Kd.R_nil _ _ _ _ _), below_row HBB6.out (by omega) _⟩
end Go.Proofs.Ytngocadnbpdnoaa.Mo
namespace Go.Proofs.Ytngocadnbpdnoaa.Mo
open Go Go.Maps Go.RowKit Go.Proofs.Ytngocadnbpdnoaa.Srt Go.Proofs.Ytngocadnbpdnoaa.Q Go.Proofs.YtngocadnbpdnoaaW.PrintWords Go.Proofs.YtngocadnbpdnoaaW.PrintLast Go.Proofs.YtngocadnbpdnoaaW.PrintMore
set_option linter.unusedVariables false
set_option linter.unusedSimpArgs false
def ofKeys (l : PL) (ks : List Int) : PL := ks.filterMap (fun k => (fnd l k).map (fun v => (k, v)))
theorem ofKeys_some {l : PL} {ks : List Int} {i : Nat} (h : i < ks.length) {v : Int} (hv : fnd l ks[i] = some v) : ofKeys l (ks.take (i + 1)) = ofKeys l (ks.take i) ++ [(ks[i], v)] := by
  unfold ofKeys
  rw [List.take_succ_eq_append_getElem h, List.filterMap_append]
  simp [hv]
theorem ofKeys_none {l : PL} {ks : List Int} {i : Nat} (h : i < ks.length) (hv : fnd l ks[i] = none) : ofKeys l (ks.take (i + 1)) = ofKeys l (ks.take i) := by
  unfold ofKeys
  rw [List.take_succ_eq_append_getElem h, List.filterMap_append]
  simp [hv]
theorem ofKeys_len (l : PL) (ks : List Int) : (ofKeys l ks).length ≤ ks.length := List.length_filterMap_le _ _
/-- What a round of MultiGet keeps. -/
structure MgI (w wr : World) (bx N : Nat) (l : PL) (B : Nat) (o : OpS) (A0 : Option Addr) (c0 : Nat) (A : Option Addr) (c : Nat) (ps : PL) : Prop where
  below : Below w.heap.size w wr
  size : w.heap.size + 3 ≤ wr.heap.size
  map : MapN wr bx N l
  row : kSP.R 90 wr w.heap.size (fun k => w.heap.size + 3 ≤ k) (.slice A (toS ps).length c) (toS ps)
  r : wr.heap[w.heap.size + 1]? = some (.cells (ansC 0 false 0 false 0 (.slice none 0 0) 0) 26 (0, 0))
  a : wr.heap[w.heap.size + 2]? = some (.cells (ansC 0 false 0 false 0 (.slice A (toS ps).length c) 0) 26 (0, 0))
theorem toS_snoc (ps : PL) (k v : Int) : toS (ps ++ [(k, v)]) = toS ps ++ [⟨k, v⟩] := by unfold toS; rw [List.map_append]; rfl
set_option maxRecDepth 100000 in
set_option maxHeartbeats 8000000 in
theorem query_mg (o : OpS) (A : Option Addr) (c bx N : Nat) (l : PL) (w : World) (hM : MapN w bx N l) (hk : o.f0 = 7) (hC : Kd.C (Kd.int .u64) w A o.f6.length o.f6) (hw : ∀ k ∈ o.f6, u64wf k) (hn : o.f6.length ≤ 1099511627776) :
    Calls Try.prog 37 #[.agg (opC o A c), .map (some bx)] w fun e w' => ∃ ps, e = .returned (ansV 0 false 0 false 0 ps 0) ∧ kSP.R 90 w' w.heap.size (fun _ => True) ps (toS (ofKeys l o.f6)) ∧ Below w.heap.size w w' := by
  have hb0 := qW_below w o A c
  have hs0 := qW_size w o A c
  have hO0 := qW_op w o A c
  have hkd : (qW w o A c).cell? ⟨w.heap.size, 0, none⟩ = some (.int .u8 7) := by have := (op_cells hO0).1; rw [hk] at this; exact this
  have hk8 : (qW w o A c).cell? ⟨w.heap.size, 8, none⟩ = some (.slice A o.f6.length c) := (op_cells hO0).2.2.2.2.2.2.2.2.1
  have HI0 : Hid (MgI w (qW w o A c) bx N l w.heap.size o A c none 0 []) := Lib.hid ⟨hb0, by omega, hM.below hb0, Kd.R_nil _ _ _ _ _, qW_r w o A c, qW_a w o A c⟩
  have hbl := hM.lt
  have HC := Lib.hid hC
  have HW := Lib.hid hw
  clear hM hC hw hO0 hb0
  go_enter Try.func37, Try.ntmps37
  go_upto_region 2 with fail
  change Code.wp _ _ _ _ (qW w o A c)
  obtain ⟨W, hW⟩ : ∃ W, W = qW w o A c := ⟨_, rfl⟩
  rw [← hW] at hs0 hkd hk8 HI0 ⊢
  rw [show w.heap.size + 1 + 1 = w.heap.size + 2 from rfl]
  clear hW
  go_wp2_with fail
  go_loopw [17] (fun v17 wr => ∃ (i : Nat) (A2 : Option Addr) (c2 : Nat), v17 = .int .i64 i ∧ i ≤ o.f6.length ∧ Hid (MgI w wr bx N l w.heap.size o A c A2 c2 (ofKeys l (o.f6.take i))))
    (fun v17 _ => o.f6.length - (intOf v17).toNat)
  case atStart => exact ⟨0, none, 0, by go_num, Nat.zero_le _, HI0⟩
  case round =>
    obtain ⟨i, A2, c2, rfl, hi, HI⟩ := hrel
    by_cases hlt : i < o.f6.length
    · have hdec : decide ((i : Int) < (o.f6.length : Int)) = true := decide_eq_true (by omega)
      obtain ⟨ad, rfl, hx⟩ := Kd.at_int (Kd.Heap.C (Kd.heap_int _) (fun k hk => HI.out.below.block k hk) HC.out) (i : Int) (by omega) (by omega)
      obtain ⟨k, hkk⟩ : ∃ k, k = o.f6[i] := ⟨_, rfl⟩
      have hrd : rd o.f6 (i : Int) = k := by
        rw [hkk]
        unfold rd
        simp [List.getD_eq_getElem?_getD, hlt]
      rw [hrd, Int.toNat_natCast] at hx
      have hkw : u64wf k := by rw [hkk]; exact HW.out _ (List.getElem_mem hlt)
      have hrun := now_look HI.out.map hkw
      have HKK := Lib.hid hkk
      clear hkk hrd hkw
      cases hf : fnd l k with
      | none =>
        rw [hf] at hrun
        have HN : Hid (ofKeys l (o.f6.take (i + 1)) = ofKeys l (o.f6.take i)) := Lib.hid (ofKeys_none hlt (by rw [← HKK.out]; exact hf))
        have hrun' : (Instr.lookup 97 (.map (some bx)) (.int .u64 k) true).run Try.prog wr = .ok (.tuple #[.int .u64 0, .bool false]) wr := hrun
        clear hrun hf
        go_wp2_with fail
        go_roundw
        case rel => exact ⟨i + 1, A2, c2, by go_num, by omega, Lib.hid (by rw [HN.out]; exact HI.out)⟩
        case measure => simp [intOf]; omega
      | some v =>
        rw [hf] at hrun
        have HN : Hid (ofKeys l (o.f6.take (i + 1)) = ofKeys l (o.f6.take i) ++ [(k, v)]) := Lib.hid (by have := ofKeys_some (l := l) hlt (v := v) (by rw [← HKK.out]; exact hf); rw [← HKK.out] at this; exact this)
        have hrun' : (Instr.lookup 97 (.map (some bx)) (.int .u64 k) true).run Try.prog wr = .ok (.tuple #[.int .u64 v, .bool true]) wr := hrun
        clear hrun hf
        obtain ⟨ps, hps⟩ : ∃ ps, ps = ofKeys l (o.f6.take i) := ⟨_, rfl⟩
        have hpl : ps.length ≤ 1099511627776 := by rw [hps]; exact Nat.le_trans (ofKeys_len _ _) (by rw [List.length_take]; omega)
        rw [← hps] at HI HN
        clear hps
        have hbnd : Hid (((toS ps).length + 1) * 16 ≤ 140737488355328) := Lib.hid (by rw [toS_length]; omega)
        have l5 : wr.cell? ⟨w.heap.size + 2, 5, none⟩ = some (.slice A2 (toS ps).length c2) := (ans_cells HI.out.a).2.2.2.2.2.1
        obtain ⟨u3, hu3⟩ : ∃ u3, u3 = Value.slice A2 (toS ps).length c2 := ⟨_, rfl⟩
        go_wp2_with (first
          | (at_builtin; (refine Kd.R_append kSP (w0 := w) w.heap.size rfl (.tmp 29) (.tmp 33) 24 90 (.agg #[(.int .u64 0), (.int .u64 0)]) 16 rfl Try.underlying24 info90 rfl (by decide) (by omega) (.slice A2 (toS ps).length c2) (toS ps) (⟨k, v⟩ : SP) [.int .u64 k, .int .u64 v] (fun k => w.heap.size + 3 ≤ k) (fun _ => False) rfl rfl ?aP (fun _ hk => hk.elim) (fun k hk => by have := HI.out.size; omega) ?aO ?aB ?aS ?aL ?_)
             (case aP => exact k90_mkM _ _ _ (⟨k, v⟩ : SP))
             (case aO => exact HI.out.row)
             (case aB => exact HI.out.below)
             (case aS => exact HI.out.below.size)
             (case aL => exact hbnd.out)
             intro v1 w2 hr2 hb2 hg2 hat2
             rw [← toS_snoc] at hr2
             obtain ⟨A3, c3, rfl⟩ := Kd.R_slice hr2
             have hne2 : ∀ q, q < w.heap.size + 3 → some q ≠ (Value.slice A2 (toS ps).length c2).ownBlock := fun q hq e => by have := HI.out.row.1 q e.symm; omega
             have hq1 := (hg2.block (w.heap.size + 1) (by have := HI.out.size; omega) (hne2 _ (by omega))).trans HI.out.r
             have hq2 := (hg2.block (w.heap.size + 2) (by have := HI.out.size; omega) (hne2 _ (by omega))).trans HI.out.a
             have hmk : Kept wr w2 (fun q => w.heap.size + 3 ≤ q) := Kept.of_grown hg2 (Kept.refl _ _) (fun q e => .inl (HI.out.row.1 q e))
             have hz2 := hg2.size
             have hd6 : w2.cell? ⟨w.heap.size + 2, 5, none⟩ = some (.slice A2 (toS ps).length c2) := (ans_cells hq2).2.2.2.2.2.1
             have hf6 : w2.frozen? ⟨w.heap.size + 2, 5, none⟩ = false := by simp [World.frozen?, hq2]
             have hsc : w2.setCell ⟨w.heap.size + 2, 5, none⟩ (.slice A3 (toS (ps ++ [(k, v)])).length c3) = w2.setRow (w.heap.size + 2) (ansC 0 false 0 false 0 (.slice A3 (toS (ps ++ [(k, v)])).length c3) 0) := setCell_eq_setRow w2 (w.heap.size + 2) 5 _ _ _ (.slice A3 (toS (ps ++ [(k, v)])).length c3) hq2
             have HI3 : Hid (MgI w (w2.setRow (w.heap.size + 2) (ansC 0 false 0 false 0 (.slice A3 (toS (ps ++ [(k, v)])).length c3) 0)) bx N l w.heap.size o (some ad) c A3 c3 (ps ++ [(k, v)])) := Lib.hid
               ⟨below_row hb2 (by omega) _, by have := HI.out.size; simp; omega, (HI.out.map.kept hmk (by omega)).kept (Kept_row _ _ _) (by omega), Kd.R_kept hr2 (Kept_row w2 (w.heap.size + 2) _) (fun q hq e => by omega), (setRow_other _ _ _ _ (by omega)).trans hq1, setRow_heap _ _ _ _ _ _ hq2⟩
             obtain ⟨w3, hw3⟩ : ∃ w3, w3 = w2.setRow (w.heap.size + 2) (ansC 0 false 0 false 0 (.slice A3 (toS (ps ++ [(k, v)])).length c3) 0) := ⟨_, rfl⟩
             rw [← hw3] at hsc HI3
             clear hw3 hr2 hb2 hg2 hat2 hne2 hq1 hq2 hmk))
        go_roundw
        case rel => exact ⟨i + 1, A3, c3, by go_num, by omega, Lib.hid (by rw [HN.out]; exact HI3.out)⟩
        case measure => simp [intOf]; omega
    · obtain rfl : i = o.f6.length := by omega
      have hdec : decide ((o.f6.length : Int) < (o.f6.length : Int)) = false := by simp
      have hI := HI.out
      rw [List.take_length] at hI
      have HI1 := Lib.hid hI
      have HR1 := Lib.hid hI.r
      obtain ⟨l0, l1, l2, l3, l4, l5, l6⟩ := ans_cells hI.a
      clear hI HI
      go_wp2_with (first | ((with_reducible refine gate_store (t := 26) (p := 4) rfl ?_); refine wpList_store_row rfl 26 (.tmp 4) (.tmp 37) rfl (w.heap.size + 1) (ansC 0 false 0 false 0 (.slice A2 (toS (ofKeys l o.f6)).length c2) 0) rfl rfl 26 _ HR1.out (by kernel_rfl) rfl (ansC_one _ _ _ _ _ _ _ _ _) ?_))
      refine bodyPost_ret (res_ans rfl _ rfl (setRow_heap _ _ _ _ _ _ HR1.out)) rfl ⟨_, rfl, Kd.R_mono (Kd.R_kept HI1.out.row (Kept_row wr (w.heap.size + 1) _) (fun k hk e => by omega)) (fun _ _ => trivial), below_row HI1.out.below (by omega) _⟩
end Go.Proofs.Ytngocadnbpdnoaa.Mo
namespace Go.Proofs.Ytngocadnbpdnoaa.Mo
open Go Go.Maps Go.RowKit Go.Proofs.Ytngocadnbpdnoaa.Srt Go.Proofs.Ytngocadnbpdnoaa.Q Go.Proofs.YtngocadnbpdnoaaW.PrintWords Go.Proofs.YtngocadnbpdnoaaW.PrintLast Go.Proofs.YtngocadnbpdnoaaW.PrintMore
set_option linter.unusedVariables false
set_option linter.unusedSimpArgs false
set_option maxRecDepth 100000 in
set_option maxHeartbeats 8000000 in
theorem do_ctYes (f : Nat → Option PL) (N gp bn bh : Nat) (multi : Int) (now : PL) (held : List (Int × PL)) (o : OpS) (A : Option Addr) (c : Nat) (hdl : Int) (w : World) (hM : PM w f N gp bn bh multi now held) (hF : Fro w f N) (hO : OpWf o) (hh : u64wf hdl) (hN : N ≤ 1099511627776) (hk : o.f0 = 9) (hl : PL) (hx : fnd held o.f4 = some hl) :
    Calls Try.prog 15 #[.pointer (some ⟨gp, 0, none⟩), .agg (opC o A c), .int .u64 hdl] w (DoPost w f (N + 1) gp bn bh ⟨multi, now, held⟩ ⟨0, false, 0, false, 0, [], ((toS (within o.f7 o.f8 hl)).length : Int)⟩) := by
  have hgl := hM.gl
  have hnl := hM.now.lt
  have hhl := hM.held.1.lt
  have HM := Lib.hid hM
  have HF := Lib.hid hF
  have HO := Lib.hid hO
  have HU := Lib.hid hh
  have hb0 : Below w.heap.size w (doW w o A c).drew := below_drew (doW_below w o A c)
  have hP0 := hM.kept (Kept.of_below hb0 (fun _ => False)) (fun e => e) (fun e => e) (fun e => e)
  have HS : (fun w' : World => w'.cell? ⟨gp, 1, none⟩ = some (.map (some bn)) ∧ w'.cell? ⟨w.heap.size, 1, none⟩ = some (.int .u64 o.f1) ∧ (Instr.lookup 97 (.map (some bn)) (.int .u64 o.f1) true).run Try.prog w' = .ok (.tuple #[.int .u64 ((fnd now o.f1).getD 0), .bool (fnd now o.f1).isSome]) w') (doW w o A c).drew :=
    ⟨hP0.c1, by rw [blk_cell (w := (doW w o A c).drew) (doW_op w o A c)]; rfl, now_look hP0.now hO.key⟩
  obtain ⟨vh, hvh, hrunh⟩ := held_look (hM.held.kept (Kept.of_below (below_drew (below_alloc (below_drew (doW_below w o A c)) (.cells (ansC 0 (fnd now o.f1).isSome ((fnd now o.f1).getD 0) false 0 (.slice none 0 0) 0) 26))) (fun _ => False)) (fun e => e)) hO.han
  have hW2 : Below w.heap.size w ((doW w o A c).drew.alloc (.cells (ansC 0 (fnd now o.f1).isSome ((fnd now o.f1).getD 0) false 0 (.slice none 0 0) 0) 26)).drew := below_drew (below_alloc (below_drew (doW_below w o A c)) _)
  have hP2 := hM.kept (Kept.of_below hW2 (fun _ => False)) (fun e => e) (fun e => e) (fun e => e)
  have hs2 : (doW w o A c).drew.heap.size = w.heap.size + 2 := doW_size w o A c
  have hop2 : ((doW w o A c).drew.alloc (.cells (ansC 0 (fnd now o.f1).isSome ((fnd now o.f1).getD 0) false 0 (.slice none 0 0) 0) 26)).drew.heap[w.heap.size]? = some (.cells (opC o A c) 39 (0, 0)) := ((below_alloc (Below.refl _ (doW w o A c).drew) _).block _ (by rw [hs2]; omega)).trans (doW_op w o A c)
  have hra2 : ((doW w o A c).drew.alloc (.cells (ansC 0 (fnd now o.f1).isSome ((fnd now o.f1).getD 0) false 0 (.slice none 0 0) 0) 26)).drew.heap[w.heap.size + 1]? = some (.cells (ansC 0 false 0 false 0 (.slice none 0 0) 0) 26 (0, 0)) := ((below_alloc (Below.refl _ (doW w o A c).drew) _).block _ (by rw [hs2]; omega)).trans (doW_ans w o A c)
  have hfa2 : ((doW w o A c).drew.alloc (.cells (ansC 0 (fnd now o.f1).isSome ((fnd now o.f1).getD 0) false 0 (.slice none 0 0) 0) 26)).drew.heap[w.heap.size + 2]? = some (.cells (ansC 0 (fnd now o.f1).isSome ((fnd now o.f1).getD 0) false 0 (.slice none 0 0) 0) 26 (0, 0)) := by
    have := heap_alloc_new (doW w o A c).drew (.cells (ansC 0 (fnd now o.f1).isSome ((fnd now o.f1).getD 0) false 0 (.slice none 0 0) 0) 26)
    rw [hs2] at this
    exact this
  have HS2 : (fun w' : World => w'.cell? ⟨gp, 2, none⟩ = some (.map (some bh)) ∧ w'.cell? ⟨w.heap.size, 4, none⟩ = some (.int .u64 o.f4) ∧ (Instr.lookup 98 (.map (some bh)) (.int .u64 o.f4) true).run Try.prog w' = .ok (.tuple #[vh, .bool (fnd held o.f4).isSome]) w') ((doW w o A c).drew.alloc (.cells (ansC 0 (fnd now o.f1).isSome ((fnd now o.f1).getD 0) false 0 (.slice none 0 0) 0) 26)).drew :=
    ⟨hP2.c2, by rw [blk_cell hop2]; rfl, hrunh⟩
  have hkd : ((doW w o A c).drew.alloc (.cells (ansC 0 (fnd now o.f1).isSome ((fnd now o.f1).getD 0) false 0 (.slice none 0 0) 0) 26)).drew.cell? ⟨w.heap.size, 0, none⟩ = some (.int .u8 9) := by rw [blk_cell hop2, ← hk]; rfl
  have HVH := Lib.hid hvh
  have HW2 := Lib.hid hW2
  have HP2 := Lib.hid hP2
  have HOP2 := Lib.hid hop2
  have HRA2 := Lib.hid hra2
  have HFA2 := Lib.hid hfa2
  have hfnd0 : (fnd now o.f1).isSome = (fnd now o.f1).isSome := rfl
  obtain ⟨fo, hfo⟩ : ∃ b : Bool, b = (fnd now o.f1).isSome := ⟨_, rfl⟩
  obtain ⟨fv, hfv⟩ : ∃ v : Int, v = (fnd now o.f1).getD 0 := ⟨_, rfl⟩
  obtain ⟨hd, hhd⟩ : ∃ b : Bool, b = (fnd held o.f4).isSome := ⟨_, rfl⟩
  rw [← hfo, ← hfv] at HS HS2 HW2 HP2 HOP2 HRA2 HFA2 hkd
  rw [← hhd] at HS2
  have HFO := Lib.hid hfo
  have HFV := Lib.hid hfv
  have HHD := Lib.hid hhd
  clear hM hF hO hh hb0 hP0 hvh hrunh hW2 hP2 hs2 hop2 hra2 hfa2 hfnd0 hfo hfv hhd
  obtain ⟨W1, hW1⟩ : ∃ W1, W1 = doW w o A c := ⟨_, rfl⟩
  have HW1 := Lib.hid hW1
  rw [← hW1] at HS HS2 HW2 HP2 HOP2 HRA2 HFA2 hkd
  go_enter Try.func15, Try.ntmps15
  go_wp2_with fail
  change Code.wp _ _ _ _ (doW w o A c)
  rw [← hW1]
  clear hW1
  go_region_held3 (fun w' => w'.cell? ⟨gp, 1, none⟩ = some (.map (some bn)) ∧ w'.cell? ⟨w.heap.size, 1, none⟩ = some (.int .u64 o.f1) ∧ (Instr.lookup 97 (.map (some bn)) (.int .u64 o.f1) true).run Try.prog w' = .ok (.tuple #[.int .u64 fv, .bool fo]) w')
    (first | go_keep | exact HS)
    (first | fail | fail)
  clear HS
  have hs1 : W1.heap.size = w.heap.size + 2 := by rw [HW1.out]; exact doW_size w o A c
  go_wp2_with fail
  obtain ⟨W2, hW2⟩ : ∃ W2, W2 = W1.drew.alloc (Obj.cells (ansC 0 fo fv false 0 (Value.slice none 0 0) 0) 26) := ⟨_, rfl⟩
  change Code.wp _ _ _ _ (W1.drew.alloc (Obj.cells (ansC 0 fo fv false 0 (Value.slice none 0 0) 0) 26))
  rw [← hW2] at HS2 HW2 HP2 HOP2 HRA2 HFA2 hkd ⊢
  clear hW2
  go_region_held3 (fun w' => w'.cell? ⟨gp, 2, none⟩ = some (.map (some bh)) ∧ w'.cell? ⟨w.heap.size, 4, none⟩ = some (.int .u64 o.f4) ∧ (Instr.lookup 98 (.map (some bh)) (.int .u64 o.f4) true).run Try.prog w' = .ok (.tuple #[vh, .bool hd]) w')
    (first | go_keep | exact HS2)
    (first | fail | fail)
  clear HS2
  obtain ⟨W, hW⟩ : ∃ W, W = W2.drew := ⟨_, rfl⟩
  rw [← hW] at HW2 HP2 HOP2 HRA2 HFA2 hkd ⊢
  clear hW
  obtain rfl : hd = true := by rw [HHD.out, hx]; rfl
  obtain ⟨b, rfl, hfb⟩ : ∃ b, vh = .map (some b) ∧ f b = some hl := by
    rcases HVH.out with ⟨h1, _⟩ | ⟨b, l, h1, h2, h3⟩
    · rw [hx] at h1; cases h1
    · rw [hx] at h1; cases h1; exact ⟨b, h2, h3⟩
  have HMB := Lib.hid ((HF.out b hl hfb).below HW2.out)
  have hhlen : hl.length ≤ 1099511627776 := Nat.le_trans (HF.out b hl hfb).len hN
  clear hfb HVH hx
  have HWZ := HW2
  go_upto_region 35 with fail
  have HKD := Lib.hid hk
  clear hk hkd
  obtain ⟨q0, q1, q2, q3, q4, q5, q6, q7, q8, q9, q10⟩ := op_cells HOP2.out
  have hzW := blk_lt HRA2.out
  go_wp2_with (first
    | (go_at_call 37
       refine (query_ct o A c b N hl W HMB.out hhlen HKD.out).mono ?_
       rintro e w3 ⟨ps, rfl, hR, hB⟩
       obtain ⟨A3, c3, rfl⟩ := Kd.R_slice hR
       unfold ansV
       have HB3 := Lib.hid (HWZ.out.trans (hB.mono HWZ.out.size))
       have HRA3 : Hid (w3.heap[w.heap.size + 1]? = some (Obj.cells (ansC 0 false 0 false 0 (.slice none 0 0) 0) 26 (0, 0))) := Lib.hid ((hB.block _ hzW).trans HRA2.out)
       have HL3 := Lib.hid (left_same (K := fun k => k = bn ∨ k = bh) HM.out HF.out HB3.out (Nat.le_succ N))
       have HR3 := Lib.hid (Kd.R_lower (Kd.R_mono (Kd.R_bound hR) (fun k hk => hk.2.1)) HWZ.out.size)
       clear hR hB)
    | ((with_reducible refine gate_store (t := 26) (p := 6) rfl ?_); refine wpList_store_row rfl 26 (.tmp 6) (.tmp 120) rfl (w.heap.size + 1) (ansC 0 false 0 false 0 (.slice A3 (toS []).length c3) ((toS (within o.f7 o.f8 hl)).length : Int)) rfl rfl 26 _ HRA3.out (by kernel_rfl) rfl (ansC_one _ _ _ _ _ _ _ _ _) ?_))
  refine bodyPost_ret (res_ans rfl _ rfl (setRow_heap _ _ _ _ _ _ HRA3.out)) rfl ⟨_, rfl, Kd.R_mono (Kd.R_kept HR3.out (Kept_row w3 (w.heap.size + 1) _) (fun k hk e => by have hk' : W.heap.size ≤ k := hk; omega)) (fun _ _ => trivial), HL3.out.row (by omega) HRA3.out hgl hnl hhl _⟩
end Go.Proofs.Ytngocadnbpdnoaa.Mo
namespace Go.Proofs.Ytngocadnbpdnoaa.Mo
open Go Go.Maps Go.RowKit Go.Proofs.Ytngocadnbpdnoaa.Srt Go.Proofs.Ytngocadnbpdnoaa.Q Go.Proofs.YtngocadnbpdnoaaW.PrintWords Go.Proofs.YtngocadnbpdnoaaW.PrintLast Go.Proofs.YtngocadnbpdnoaaW.PrintMore
set_option linter.unusedVariables false
set_option linter.unusedSimpArgs false
set_option maxRecDepth 100000 in
set_option maxHeartbeats 8000000 in
theorem do_rgYesS (f : Nat → Option PL) (N gp bn bh : Nat) (multi : Int) (now : PL) (held : List (Int × PL)) (o : OpS) (A : Option Addr) (c : Nat) (hdl : Int) (w : World) (hM : PM w f N gp bn bh multi now held) (hF : Fro w f N) (hO : OpWf o) (hh : u64wf hdl) (hN : N ≤ 1099511627776) (hk : o.f0 = 8) (hl : PL) (hx : fnd held o.f4 = some hl) (hne : within o.f7 o.f8 hl ≠ []) :
    Calls Try.prog 15 #[.pointer (some ⟨gp, 0, none⟩), .agg (opC o A c), .int .u64 hdl] w (DoPost w f (N + 1) gp bn bh ⟨multi, now, held⟩ ⟨0, false, 0, false, 0, within o.f7 o.f8 hl, 0⟩) := by
  have hgl := hM.gl
  have hnl := hM.now.lt
  have hhl := hM.held.1.lt
  have HM := Lib.hid hM
  have HF := Lib.hid hF
  have HO := Lib.hid hO
  have HU := Lib.hid hh
  have hb0 : Below w.heap.size w (doW w o A c).drew := below_drew (doW_below w o A c)
  have hP0 := hM.kept (Kept.of_below hb0 (fun _ => False)) (fun e => e) (fun e => e) (fun e => e)
  have HS : (fun w' : World => w'.cell? ⟨gp, 1, none⟩ = some (.map (some bn)) ∧ w'.cell? ⟨w.heap.size, 1, none⟩ = some (.int .u64 o.f1) ∧ (Instr.lookup 97 (.map (some bn)) (.int .u64 o.f1) true).run Try.prog w' = .ok (.tuple #[.int .u64 ((fnd now o.f1).getD 0), .bool (fnd now o.f1).isSome]) w') (doW w o A c).drew :=
    ⟨hP0.c1, by rw [blk_cell (w := (doW w o A c).drew) (doW_op w o A c)]; rfl, now_look hP0.now hO.key⟩
  obtain ⟨vh, hvh, hrunh⟩ := held_look (hM.held.kept (Kept.of_below (below_drew (below_alloc (below_drew (doW_below w o A c)) (.cells (ansC 0 (fnd now o.f1).isSome ((fnd now o.f1).getD 0) false 0 (.slice none 0 0) 0) 26))) (fun _ => False)) (fun e => e)) hO.han
  have hW2 : Below w.heap.size w ((doW w o A c).drew.alloc (.cells (ansC 0 (fnd now o.f1).isSome ((fnd now o.f1).getD 0) false 0 (.slice none 0 0) 0) 26)).drew := below_drew (below_alloc (below_drew (doW_below w o A c)) _)
  have hP2 := hM.kept (Kept.of_below hW2 (fun _ => False)) (fun e => e) (fun e => e) (fun e => e)
  have hs2 : (doW w o A c).drew.heap.size = w.heap.size + 2 := doW_size w o A c
  have hop2 : ((doW w o A c).drew.alloc (.cells (ansC 0 (fnd now o.f1).isSome ((fnd now o.f1).getD 0) false 0 (.slice none 0 0) 0) 26)).drew.heap[w.heap.size]? = some (.cells (opC o A c) 39 (0, 0)) := ((below_alloc (Below.refl _ (doW w o A c).drew) _).block _ (by rw [hs2]; omega)).trans (doW_op w o A c)
  have hra2 : ((doW w o A c).drew.alloc (.cells (ansC 0 (fnd now o.f1).isSome ((fnd now o.f1).getD 0) false 0 (.slice none 0 0) 0) 26)).drew.heap[w.heap.size + 1]? = some (.cells (ansC 0 false 0 false 0 (.slice none 0 0) 0) 26 (0, 0)) := ((below_alloc (Below.refl _ (doW w o A c).drew) _).block _ (by rw [hs2]; omega)).trans (doW_ans w o A c)
  have hfa2 : ((doW w o A c).drew.alloc (.cells (ansC 0 (fnd now o.f1).isSome ((fnd now o.f1).getD 0) false 0 (.slice none 0 0) 0) 26)).drew.heap[w.heap.size + 2]? = some (.cells (ansC 0 (fnd now o.f1).isSome ((fnd now o.f1).getD 0) false 0 (.slice none 0 0) 0) 26 (0, 0)) := by
    have := heap_alloc_new (doW w o A c).drew (.cells (ansC 0 (fnd now o.f1).isSome ((fnd now o.f1).getD 0) false 0 (.slice none 0 0) 0) 26)
    rw [hs2] at this
    exact this
  have HS2 : (fun w' : World => w'.cell? ⟨gp, 2, none⟩ = some (.map (some bh)) ∧ w'.cell? ⟨w.heap.size, 4, none⟩ = some (.int .u64 o.f4) ∧ (Instr.lookup 98 (.map (some bh)) (.int .u64 o.f4) true).run Try.prog w' = .ok (.tuple #[vh, .bool (fnd held o.f4).isSome]) w') ((doW w o A c).drew.alloc (.cells (ansC 0 (fnd now o.f1).isSome ((fnd now o.f1).getD 0) false 0 (.slice none 0 0) 0) 26)).drew :=
    ⟨hP2.c2, by rw [blk_cell hop2]; rfl, hrunh⟩
  have hkd : ((doW w o A c).drew.alloc (.cells (ansC 0 (fnd now o.f1).isSome ((fnd now o.f1).getD 0) false 0 (.slice none 0 0) 0) 26)).drew.cell? ⟨w.heap.size, 0, none⟩ = some (.int .u8 8) := by rw [blk_cell hop2, ← hk]; rfl
  have HVH := Lib.hid hvh
  have HW2 := Lib.hid hW2
  have HP2 := Lib.hid hP2
  have HOP2 := Lib.hid hop2
  have HRA2 := Lib.hid hra2
  have HFA2 := Lib.hid hfa2
  have hfnd0 : (fnd now o.f1).isSome = (fnd now o.f1).isSome := rfl
  obtain ⟨fo, hfo⟩ : ∃ b : Bool, b = (fnd now o.f1).isSome := ⟨_, rfl⟩
  obtain ⟨fv, hfv⟩ : ∃ v : Int, v = (fnd now o.f1).getD 0 := ⟨_, rfl⟩
  obtain ⟨hd, hhd⟩ : ∃ b : Bool, b = (fnd held o.f4).isSome := ⟨_, rfl⟩
  rw [← hfo, ← hfv] at HS HS2 HW2 HP2 HOP2 HRA2 HFA2 hkd
  rw [← hhd] at HS2
  have HFO := Lib.hid hfo
  have HFV := Lib.hid hfv
  have HHD := Lib.hid hhd
  clear hM hF hO hh hb0 hP0 hvh hrunh hW2 hP2 hs2 hop2 hra2 hfa2 hfnd0 hfo hfv hhd
  obtain ⟨W1, hW1⟩ : ∃ W1, W1 = doW w o A c := ⟨_, rfl⟩
  have HW1 := Lib.hid hW1
  rw [← hW1] at HS HS2 HW2 HP2 HOP2 HRA2 HFA2 hkd
  go_enter Try.func15, Try.ntmps15
  go_wp2_with fail
  change Code.wp _ _ _ _ (doW w o A c)
  rw [← hW1]
  clear hW1
  go_region_held3 (fun w' => w'.cell? ⟨gp, 1, none⟩ = some (.map (some bn)) ∧ w'.cell? ⟨w.heap.size, 1, none⟩ = some (.int .u64 o.f1) ∧ (Instr.lookup 97 (.map (some bn)) (.int .u64 o.f1) true).run Try.prog w' = .ok (.tuple #[.int .u64 fv, .bool fo]) w')
    (first | go_keep | exact HS)
    (first | fail | fail)
  clear HS
  have hs1 : W1.heap.size = w.heap.size + 2 := by rw [HW1.out]; exact doW_size w o A c
  go_wp2_with fail
  obtain ⟨W2, hW2⟩ : ∃ W2, W2 = W1.drew.alloc (Obj.cells (ansC 0 fo fv false 0 (Value.slice none 0 0) 0) 26) := ⟨_, rfl⟩
  change Code.wp _ _ _ _ (W1.drew.alloc (Obj.cells (ansC 0 fo fv false 0 (Value.slice none 0 0) 0) 26))
  rw [← hW2] at HS2 HW2 HP2 HOP2 HRA2 HFA2 hkd ⊢
  clear hW2
  go_region_held3 (fun w' => w'.cell? ⟨gp, 2, none⟩ = some (.map (some bh)) ∧ w'.cell? ⟨w.heap.size, 4, none⟩ = some (.int .u64 o.f4) ∧ (Instr.lookup 98 (.map (some bh)) (.int .u64 o.f4) true).run Try.prog w' = .ok (.tuple #[vh, .bool hd]) w')
    (first | go_keep | exact HS2)
    (first | fail | fail)
  clear HS2
  obtain ⟨W, hW⟩ : ∃ W, W = W2.drew := ⟨_, rfl⟩
  rw [← hW] at HW2 HP2 HOP2 HRA2 HFA2 hkd ⊢
  clear hW
  have HNE := Lib.hid hne
  clear hne
  obtain rfl : hd = true := by rw [HHD.out, hx]; rfl
  obtain ⟨b, rfl, hfb⟩ : ∃ b, vh = .map (some b) ∧ f b = some hl := by
    rcases HVH.out with ⟨h1, _⟩ | ⟨b, l, h1, h2, h3⟩
    · rw [hx] at h1; cases h1
    · rw [hx] at h1; cases h1; exact ⟨b, h2, h3⟩
  have HMB := Lib.hid ((HF.out b hl hfb).below HW2.out)
  have hhlen : hl.length ≤ 1099511627776 := Nat.le_trans (HF.out b hl hfb).len hN
  clear hfb HVH hx
  have HWZ := HW2
  go_upto_region 35 with fail
  have HKD := Lib.hid hk
  clear hk hkd
  obtain ⟨q0, q1, q2, q3, q4, q5, q6, q7, q8, q9, q10⟩ := op_cells HOP2.out
  have hzW := blk_lt HRA2.out
  go_wp2_with (first
    | (go_at_call 37
       refine (query_rgS o A c b N hl W HMB.out hhlen (by rw [HKD.out]; decide) (by rw [HKD.out]; decide) HNE.out).mono ?_
       rintro e w3 ⟨ps, rfl, hR, hB⟩
       obtain ⟨A3, c3, rfl⟩ := Kd.R_slice hR
       unfold ansV
       have HB3 := Lib.hid (HWZ.out.trans (hB.mono HWZ.out.size))
       have HRA3 : Hid (w3.heap[w.heap.size + 1]? = some (Obj.cells (ansC 0 false 0 false 0 (.slice none 0 0) 0) 26 (0, 0))) := Lib.hid ((hB.block _ hzW).trans HRA2.out)
       have HL3 := Lib.hid (left_same (K := fun k => k = bn ∨ k = bh) HM.out HF.out HB3.out (Nat.le_succ N))
       have HR3 := Lib.hid (Kd.R_lower (Kd.R_mono (Kd.R_bound hR) (fun k hk => hk.2.1)) HWZ.out.size)
       clear hR hB)
    | ((with_reducible refine gate_store (t := 26) (p := 6) rfl ?_); refine wpList_store_row rfl 26 (.tmp 6) (.tmp 120) rfl (w.heap.size + 1) (ansC 0 false 0 false 0 (.slice A3 (toS (within o.f7 o.f8 hl)).length c3) 0) rfl rfl 26 _ HRA3.out (by kernel_rfl) rfl (ansC_one _ _ _ _ _ _ _ _ _) ?_))
  refine bodyPost_ret (res_ans rfl _ rfl (setRow_heap _ _ _ _ _ _ HRA3.out)) rfl ⟨_, rfl, Kd.R_mono (Kd.R_kept HR3.out (Kept_row w3 (w.heap.size + 1) _) (fun k hk e => by have hk' : W.heap.size ≤ k := hk; omega)) (fun _ _ => trivial), HL3.out.row (by omega) HRA3.out hgl hnl hhl _⟩
end Go.Proofs.Ytngocadnbpdnoaa.Mo
namespace Go.Proofs.Ytngocadnbpdnoaa.Mo
open Go Go.Maps Go.RowKit Go.Proofs.Ytngocadnbpdnoaa.Srt Go.Proofs.Ytngocadnbpdnoaa.Q Go.Proofs.YtngocadnbpdnoaaW.PrintWords Go.Proofs.YtngocadnbpdnoaaW.PrintLast Go.Proofs.YtngocadnbpdnoaaW.PrintMore
set_option linter.unusedVariables false
set_option linter.unusedSimpArgs false
set_option maxRecDepth 100000 in
set_option maxHeartbeats 8000000 in
theorem do_rgYesE (f : Nat → Option PL) (N gp bn bh : Nat) (multi : Int) (now : PL) (held : List (Int × PL)) (o : OpS) (A : Option Addr) (c : Nat) (hdl : Int) (w : World) (hM : PM w f N gp bn bh multi now held) (hF : Fro w f N) (hO : OpWf o) (hh : u64wf hdl) (hN : N ≤ 1099511627776) (hk : o.f0 = 8) (hl : PL) (hx : fnd held o.f4 = some hl) (hne : within o.f7 o.f8 hl = []) :
    Calls Try.prog 15 #[.pointer (some ⟨gp, 0, none⟩), .agg (opC o A c), .int .u64 hdl] w (DoPost w f (N + 1) gp bn bh ⟨multi, now, held⟩ ⟨0, false, 0, false, 0, within o.f7 o.f8 hl, 0⟩) := by
  have hgl := hM.gl
  have hnl := hM.now.lt
  have hhl := hM.held.1.lt
  have HM := Lib.hid hM
  have HF := Lib.hid hF
  have HO := Lib.hid hO
  have HU := Lib.hid hh
  have hb0 : Below w.heap.size w (doW w o A c).drew := below_drew (doW_below w o A c)
  have hP0 := hM.kept (Kept.of_below hb0 (fun _ => False)) (fun e => e) (fun e => e) (fun e => e)
  have HS : (fun w' : World => w'.cell? ⟨gp, 1, none⟩ = some (.map (some bn)) ∧ w'.cell? ⟨w.heap.size, 1, none⟩ = some (.int .u64 o.f1) ∧ (Instr.lookup 97 (.map (some bn)) (.int .u64 o.f1) true).run Try.prog w' = .ok (.tuple #[.int .u64 ((fnd now o.f1).getD 0), .bool (fnd now o.f1).isSome]) w') (doW w o A c).drew :=
    ⟨hP0.c1, by rw [blk_cell (w := (doW w o A c).drew) (doW_op w o A c)]; rfl, now_look hP0.now hO.key⟩
  obtain ⟨vh, hvh, hrunh⟩ := held_look (hM.held.kept (Kept.of_below (below_drew (below_alloc (below_drew (doW_below w o A c)) (.cells (ansC 0 (fnd now o.f1).isSome ((fnd now o.f1).getD 0) false 0 (.slice none 0 0) 0) 26))) (fun _ => False)) (fun e => e)) hO.han
  have hW2 : Below w.heap.size w ((doW w o A c).drew.alloc (.cells (ansC 0 (fnd now o.f1).isSome ((fnd now o.f1).getD 0) false 0 (.slice none 0 0) 0) 26)).drew := below_drew (below_alloc (below_drew (doW_below w o A c)) _)
  have hP2 := hM.kept (Kept.of_below hW2 (fun _ => False)) (fun e => e) (fun e => e) (fun e => e)
  have hs2 : (doW w o A c).drew.heap.size = w.heap.size + 2 := doW_size w o A c
  have hop2 : ((doW w o A c).drew.alloc (.cells (ansC 0 (fnd now o.f1).isSome ((fnd now o.f1).getD 0) false 0 (.slice none 0 0) 0) 26)).drew.heap[w.heap.size]? = some (.cells (opC o A c) 39 (0, 0)) := ((below_alloc (Below.refl _ (doW w o A c).drew) _).block _ (by rw [hs2]; omega)).trans (doW_op w o A c)
  have hra2 : ((doW w o A c).drew.alloc (.cells (ansC 0 (fnd now o.f1).isSome ((fnd now o.f1).getD 0) false 0 (.slice none 0 0) 0) 26)).drew.heap[w.heap.size + 1]? = some (.cells (ansC 0 false 0 false 0 (.slice none 0 0) 0) 26 (0, 0)) := ((below_alloc (Below.refl _ (doW w o A c).drew) _).block _ (by rw [hs2]; omega)).trans (doW_ans w o A c)
  have hfa2 : ((doW w o A c).drew.alloc (.cells (ansC 0 (fnd now o.f1).isSome ((fnd now o.f1).getD 0) false 0 (.slice none 0 0) 0) 26)).drew.heap[w.heap.size + 2]? = some (.cells (ansC 0 (fnd now o.f1).isSome ((fnd now o.f1).getD 0) false 0 (.slice none 0 0) 0) 26 (0, 0)) := by
    have := heap_alloc_new (doW w o A c).drew (.cells (ansC 0 (fnd now o.f1).isSome ((fnd now o.f1).getD 0) false 0 (.slice none 0 0) 0) 26)
    rw [hs2] at this
    exact this
  have HS2 : (fun w' : World => w'.cell? ⟨gp, 2, none⟩ = some (.map (some bh)) ∧ w'.cell? ⟨w.heap.size, 4, none⟩ = some (.int .u64 o.f4) ∧ (Instr.lookup 98 (.map (some bh)) (.int .u64 o.f4) true).run Try.prog w' = .ok (.tuple #[vh, .bool (fnd held o.f4).isSome]) w') ((doW w o A c).drew.alloc (.cells (ansC 0 (fnd now o.f1).isSome ((fnd now o.f1).getD 0) false 0 (.slice none 0 0) 0) 26)).drew :=
    ⟨hP2.c2, by rw [blk_cell hop2]; rfl, hrunh⟩
  have hkd : ((doW w o A c).drew.alloc (.cells (ansC 0 (fnd now o.f1).isSome ((fnd now o.f1).getD 0) false 0 (.slice none 0 0) 0) 26)).drew.cell? ⟨w.heap.size, 0, none⟩ = some (.int .u8 8) := by rw [blk_cell hop2, ← hk]; rfl
  have HVH := Lib.hid hvh
  have HW2 := Lib.hid hW2
  have HP2 := Lib.hid hP2
  have HOP2 := Lib.hid hop2
  have HRA2 := Lib.hid hra2
  have HFA2 := Lib.hid hfa2
  have hfnd0 : (fnd now o.f1).isSome = (fnd now o.f1).isSome := rfl
  obtain ⟨fo, hfo⟩ : ∃ b : Bool, b = (fnd now o.f1).isSome := ⟨_, rfl⟩
  obtain ⟨fv, hfv⟩ : ∃ v : Int, v = (fnd now o.f1).getD 0 := ⟨_, rfl⟩
  obtain ⟨hd, hhd⟩ : ∃ b : Bool, b = (fnd held o.f4).isSome := ⟨_, rfl⟩
  rw [← hfo, ← hfv] at HS HS2 HW2 HP2 HOP2 HRA2 HFA2 hkd
  rw [← hhd] at HS2
  have HFO := Lib.hid hfo
  have HFV := Lib.hid hfv
  have HHD := Lib.hid hhd
  clear hM hF hO hh hb0 hP0 hvh hrunh hW2 hP2 hs2 hop2 hra2 hfa2 hfnd0 hfo hfv hhd
  obtain ⟨W1, hW1⟩ : ∃ W1, W1 = doW w o A c := ⟨_, rfl⟩
  have HW1 := Lib.hid hW1
  rw [← hW1] at HS HS2 HW2 HP2 HOP2 HRA2 HFA2 hkd
  go_enter Try.func15, Try.ntmps15
  go_wp2_with fail
  change Code.wp _ _ _ _ (doW w o A c)
  rw [← hW1]
  clear hW1
  go_region_held3 (fun w' => w'.cell? ⟨gp, 1, none⟩ = some (.map (some bn)) ∧ w'.cell? ⟨w.heap.size, 1, none⟩ = some (.int .u64 o.f1) ∧ (Instr.lookup 97 (.map (some bn)) (.int .u64 o.f1) true).run Try.prog w' = .ok (.tuple #[.int .u64 fv, .bool fo]) w')
    (first | go_keep | exact HS)
    (first | fail | fail)
  clear HS
  have hs1 : W1.heap.size = w.heap.size + 2 := by rw [HW1.out]; exact doW_size w o A c
  go_wp2_with fail
  obtain ⟨W2, hW2⟩ : ∃ W2, W2 = W1.drew.alloc (Obj.cells (ansC 0 fo fv false 0 (Value.slice none 0 0) 0) 26) := ⟨_, rfl⟩
  change Code.wp _ _ _ _ (W1.drew.alloc (Obj.cells (ansC 0 fo fv false 0 (Value.slice none 0 0) 0) 26))
  rw [← hW2] at HS2 HW2 HP2 HOP2 HRA2 HFA2 hkd ⊢
  clear hW2
  go_region_held3 (fun w' => w'.cell? ⟨gp, 2, none⟩ = some (.map (some bh)) ∧ w'.cell? ⟨w.heap.size, 4, none⟩ = some (.int .u64 o.f4) ∧ (Instr.lookup 98 (.map (some bh)) (.int .u64 o.f4) true).run Try.prog w' = .ok (.tuple #[vh, .bool hd]) w')
    (first | go_keep | exact HS2)
    (first | fail | fail)
  clear HS2
  obtain ⟨W, hW⟩ : ∃ W, W = W2.drew := ⟨_, rfl⟩
  rw [← hW] at HW2 HP2 HOP2 HRA2 HFA2 hkd ⊢
  clear hW
  have HNE := Lib.hid hne
  clear hne
  obtain rfl : hd = true := by rw [HHD.out, hx]; rfl
  obtain ⟨b, rfl, hfb⟩ : ∃ b, vh = .map (some b) ∧ f b = some hl := by
    rcases HVH.out with ⟨h1, _⟩ | ⟨b, l, h1, h2, h3⟩
    · rw [hx] at h1; cases h1
    · rw [hx] at h1; cases h1; exact ⟨b, h2, h3⟩
  have HMB := Lib.hid ((HF.out b hl hfb).below HW2.out)
  have hhlen : hl.length ≤ 1099511627776 := Nat.le_trans (HF.out b hl hfb).len hN
  clear hfb HVH hx
  have HWZ := HW2
  go_upto_region 35 with fail
  have HKD := Lib.hid hk
  clear hk hkd
  obtain ⟨q0, q1, q2, q3, q4, q5, q6, q7, q8, q9, q10⟩ := op_cells HOP2.out
  have hzW := blk_lt HRA2.out
  go_wp2_with (first
    | (go_at_call 37
       refine (query_rgE o A c b N hl W HMB.out hhlen (by rw [HKD.out]; decide) (by rw [HKD.out]; decide) HNE.out).mono ?_
       rintro e w3 ⟨ps, rfl, hR, hB⟩
       obtain ⟨A3, c3, rfl⟩ := Kd.R_slice hR
       unfold ansV
       have HB3 := Lib.hid (HWZ.out.trans (hB.mono HWZ.out.size))
       have HRA3 : Hid (w3.heap[w.heap.size + 1]? = some (Obj.cells (ansC 0 false 0 false 0 (.slice none 0 0) 0) 26 (0, 0))) := Lib.hid ((hB.block _ hzW).trans HRA2.out)
       have HL3 := Lib.hid (left_same (K := fun k => k = bn ∨ k = bh) HM.out HF.out HB3.out (Nat.le_succ N))
       have HR3 := Lib.hid (Kd.R_lower (Kd.R_mono (Kd.R_bound hR) (fun k hk => hk.2.1)) HWZ.out.size)
       clear hR hB)
    | ((with_reducible refine gate_store (t := 26) (p := 6) rfl ?_); refine wpList_store_row rfl 26 (.tmp 6) (.tmp 120) rfl (w.heap.size + 1) (ansC 0 false 0 false 0 (.slice A3 (toS (within o.f7 o.f8 hl)).length c3) 0) rfl rfl 26 _ HRA3.out (by kernel_rfl) rfl (ansC_one _ _ _ _ _ _ _ _ _) ?_))
  refine bodyPost_ret (res_ans rfl _ rfl (setRow_heap _ _ _ _ _ _ HRA3.out)) rfl ⟨_, rfl, Kd.R_mono (Kd.R_kept HR3.out (Kept_row w3 (w.heap.size + 1) _) (fun k hk e => by have hk' : W.heap.size ≤ k := hk; omega)) (fun _ _ => trivial), HL3.out.row (by omega) HRA3.out hgl hnl hhl _⟩
end Go.Proofs.Ytngocadnbpdnoaa.Mo
namespace Go.Proofs.Ytngocadnbpdnoaa.Mo
open Go Go.Maps Go.RowKit Go.Proofs.Ytngocadnbpdnoaa.Srt Go.Proofs.Ytngocadnbpdnoaa.Q Go.Proofs.YtngocadnbpdnoaaW.PrintWords Go.Proofs.YtngocadnbpdnoaaW.PrintLast Go.Proofs.YtngocadnbpdnoaaW.PrintMore
set_option linter.unusedVariables false
set_option linter.unusedSimpArgs false
set_option maxRecDepth 100000 in
set_option maxHeartbeats 8000000 in
theorem do_mgYes (f : Nat → Option PL) (N gp bn bh : Nat) (multi : Int) (now : PL) (held : List (Int × PL)) (o : OpS) (A : Option Addr) (c : Nat) (hdl : Int) (w : World) (hM : PM w f N gp bn bh multi now held) (hF : Fro w f N) (hO : OpWf o) (hh : u64wf hdl) (hN : N ≤ 1099511627776) (hk : o.f0 = 7) (hl : PL) (hx : fnd held o.f4 = some hl) (hl2 : ¬ multi < (o.f6.length : Int)) (hC : ∀ W', Kept w W' (fun k => k = bn ∨ k = bh) → Kd.C (Kd.int .u64) W' A o.f6.length o.f6) (hw : ∀ k ∈ o.f6, u64wf k) (hn : o.f6.length ≤ 1099511627776) :
    Calls Try.prog 15 #[.pointer (some ⟨gp, 0, none⟩), .agg (opC o A c), .int .u64 hdl] w (DoPost w f (N + 1) gp bn bh ⟨multi, now, held⟩ ⟨0, false, 0, false, 0, ofKeys hl o.f6, 0⟩) := by
  have hgl := hM.gl
  have hnl := hM.now.lt
  have hhl := hM.held.1.lt
  have HM := Lib.hid hM
  have HF := Lib.hid hF
  have HO := Lib.hid hO
  have HU := Lib.hid hh
  have hb0 : Below w.heap.size w (doW w o A c).drew := below_drew (doW_below w o A c)
  have hP0 := hM.kept (Kept.of_below hb0 (fun _ => False)) (fun e => e) (fun e => e) (fun e => e)
  have HS : (fun w' : World => w'.cell? ⟨gp, 1, none⟩ = some (.map (some bn)) ∧ w'.cell? ⟨w.heap.size, 1, none⟩ = some (.int .u64 o.f1) ∧ (Instr.lookup 97 (.map (some bn)) (.int .u64 o.f1) true).run Try.prog w' = .ok (.tuple #[.int .u64 ((fnd now o.f1).getD 0), .bool (fnd now o.f1).isSome]) w') (doW w o A c).drew :=
    ⟨hP0.c1, by rw [blk_cell (w := (doW w o A c).drew) (doW_op w o A c)]; rfl, now_look hP0.now hO.key⟩
  obtain ⟨vh, hvh, hrunh⟩ := held_look (hM.held.kept (Kept.of_below (below_drew (below_alloc (below_drew (doW_below w o A c)) (.cells (ansC 0 (fnd now o.f1).isSome ((fnd now o.f1).getD 0) false 0 (.slice none 0 0) 0) 26))) (fun _ => False)) (fun e => e)) hO.han
  have hW2 : Below w.heap.size w ((doW w o A c).drew.alloc (.cells (ansC 0 (fnd now o.f1).isSome ((fnd now o.f1).getD 0) false 0 (.slice none 0 0) 0) 26)).drew := below_drew (below_alloc (below_drew (doW_below w o A c)) _)
  have hP2 := hM.kept (Kept.of_below hW2 (fun _ => False)) (fun e => e) (fun e => e) (fun e => e)
  have hs2 : (doW w o A c).drew.heap.size = w.heap.size + 2 := doW_size w o A c
  have hop2 : ((doW w o A c).drew.alloc (.cells (ansC 0 (fnd now o.f1).isSome ((fnd now o.f1).getD 0) false 0 (.slice none 0 0) 0) 26)).drew.heap[w.heap.size]? = some (.cells (opC o A c) 39 (0, 0)) := ((below_alloc (Below.refl _ (doW w o A c).drew) _).block _ (by rw [hs2]; omega)).trans (doW_op w o A c)
  have hra2 : ((doW w o A c).drew.alloc (.cells (ansC 0 (fnd now o.f1).isSome ((fnd now o.f1).getD 0) false 0 (.slice none 0 0) 0) 26)).drew.heap[w.heap.size + 1]? = some (.cells (ansC 0 false 0 false 0 (.slice none 0 0) 0) 26 (0, 0)) := ((below_alloc (Below.refl _ (doW w o A c).drew) _).block _ (by rw [hs2]; omega)).trans (doW_ans w o A c)
  have hfa2 : ((doW w o A c).drew.alloc (.cells (ansC 0 (fnd now o.f1).isSome ((fnd now o.f1).getD 0) false 0 (.slice none 0 0) 0) 26)).drew.heap[w.heap.size + 2]? = some (.cells (ansC 0 (fnd now o.f1).isSome ((fnd now o.f1).getD 0) false 0 (.slice none 0 0) 0) 26 (0, 0)) := by
    have := heap_alloc_new (doW w o A c).drew (.cells (ansC 0 (fnd now o.f1).isSome ((fnd now o.f1).getD 0) false 0 (.slice none 0 0) 0) 26)
    rw [hs2] at this
    exact this
  have HS2 : (fun w' : World => w'.cell? ⟨gp, 2, none⟩ = some (.map (some bh)) ∧ w'.cell? ⟨w.heap.size, 4, none⟩ = some (.int .u64 o.f4) ∧ (Instr.lookup 98 (.map (some bh)) (.int .u64 o.f4) true).run Try.prog w' = .ok (.tuple #[vh, .bool (fnd held o.f4).isSome]) w') ((doW w o A c).drew.alloc (.cells (ansC 0 (fnd now o.f1).isSome ((fnd now o.f1).getD 0) false 0 (.slice none 0 0) 0) 26)).drew :=
    ⟨hP2.c2, by rw [blk_cell hop2]; rfl, hrunh⟩
  have hkd : ((doW w o A c).drew.alloc (.cells (ansC 0 (fnd now o.f1).isSome ((fnd now o.f1).getD 0) false 0 (.slice none 0 0) 0) 26)).drew.cell? ⟨w.heap.size, 0, none⟩ = some (.int .u8 7) := by rw [blk_cell hop2, ← hk]; rfl
  have HVH := Lib.hid hvh
  have HW2 := Lib.hid hW2
  have HP2 := Lib.hid hP2
  have HOP2 := Lib.hid hop2
  have HRA2 := Lib.hid hra2
  have HFA2 := Lib.hid hfa2
  have hfnd0 : (fnd now o.f1).isSome = (fnd now o.f1).isSome := rfl
  obtain ⟨fo, hfo⟩ : ∃ b : Bool, b = (fnd now o.f1).isSome := ⟨_, rfl⟩
  obtain ⟨fv, hfv⟩ : ∃ v : Int, v = (fnd now o.f1).getD 0 := ⟨_, rfl⟩
  obtain ⟨hd, hhd⟩ : ∃ b : Bool, b = (fnd held o.f4).isSome := ⟨_, rfl⟩
  rw [← hfo, ← hfv] at HS HS2 HW2 HP2 HOP2 HRA2 HFA2 hkd
  rw [← hhd] at HS2
  have HFO := Lib.hid hfo
  have HFV := Lib.hid hfv
  have HHD := Lib.hid hhd
  clear hM hF hO hh hb0 hP0 hvh hrunh hW2 hP2 hs2 hop2 hra2 hfa2 hfnd0 hfo hfv hhd
  obtain ⟨W1, hW1⟩ : ∃ W1, W1 = doW w o A c := ⟨_, rfl⟩
  have HW1 := Lib.hid hW1
  rw [← hW1] at HS HS2 HW2 HP2 HOP2 HRA2 HFA2 hkd
  go_enter Try.func15, Try.ntmps15
  go_wp2_with fail
  change Code.wp _ _ _ _ (doW w o A c)
  rw [← hW1]
  clear hW1
  go_region_held3 (fun w' => w'.cell? ⟨gp, 1, none⟩ = some (.map (some bn)) ∧ w'.cell? ⟨w.heap.size, 1, none⟩ = some (.int .u64 o.f1) ∧ (Instr.lookup 97 (.map (some bn)) (.int .u64 o.f1) true).run Try.prog w' = .ok (.tuple #[.int .u64 fv, .bool fo]) w')
    (first | go_keep | exact HS)
    (first | fail | fail)
  clear HS
  have hs1 : W1.heap.size = w.heap.size + 2 := by rw [HW1.out]; exact doW_size w o A c
  go_wp2_with fail
  obtain ⟨W2, hW2⟩ : ∃ W2, W2 = W1.drew.alloc (Obj.cells (ansC 0 fo fv false 0 (Value.slice none 0 0) 0) 26) := ⟨_, rfl⟩
  change Code.wp _ _ _ _ (W1.drew.alloc (Obj.cells (ansC 0 fo fv false 0 (Value.slice none 0 0) 0) 26))
  rw [← hW2] at HS2 HW2 HP2 HOP2 HRA2 HFA2 hkd ⊢
  clear hW2
  go_region_held3 (fun w' => w'.cell? ⟨gp, 2, none⟩ = some (.map (some bh)) ∧ w'.cell? ⟨w.heap.size, 4, none⟩ = some (.int .u64 o.f4) ∧ (Instr.lookup 98 (.map (some bh)) (.int .u64 o.f4) true).run Try.prog w' = .ok (.tuple #[vh, .bool hd]) w')
    (first | go_keep | exact HS2)
    (first | fail | fail)
  clear HS2
  obtain ⟨W, hW⟩ : ∃ W, W = W2.drew := ⟨_, rfl⟩
  rw [← hW] at HW2 HP2 HOP2 HRA2 HFA2 hkd ⊢
  clear hW
  have HC := Lib.hid hC
  have HWK := Lib.hid hw
  clear hC hw
  obtain rfl : hd = true := by rw [HHD.out, hx]; rfl
  obtain ⟨b, rfl, hfb⟩ : ∃ b, vh = .map (some b) ∧ f b = some hl := by
    rcases HVH.out with ⟨h1, _⟩ | ⟨b, l, h1, h2, h3⟩
    · rw [hx] at h1; cases h1
    · rw [hx] at h1; cases h1; exact ⟨b, h2, h3⟩
  have HMB := Lib.hid ((HF.out b hl hfb).below HW2.out)
  have hhlen : hl.length ≤ 1099511627776 := Nat.le_trans (HF.out b hl hfb).len hN
  clear hfb HVH hx
  have kA := HP2.out.c0
  have kB : W.cell? ⟨w.heap.size, 8, none⟩ = some (.slice A o.f6.length c) := by rw [blk_cell HOP2.out]; rfl
  have hlen' : decide (multi < (o.f6.length : Int)) = false := decide_eq_false (by omega)
  go_wp2_with fail
  go_quiet (fail)
  go_upto_region 35 with fail
  have HKD := Lib.hid hk
  clear hk hkd
  have HWZ := Lib.hid (pw_below_drewN HW2.out nq)
  have HRA2 : Hid ((W.drewN nq).heap[w.heap.size + 1]? = some (Obj.cells (ansC 0 false 0 false 0 (.slice none 0 0) 0) 26 (0, 0))) := HRA2
  have HOP3 : Hid ((W.drewN nq).heap[w.heap.size]? = some (Obj.cells (opC o A c) 39 (0, 0))) := HOP2
  obtain ⟨q0, q1, q2, q3, q4, q5, q6, q7, q8, q9, q10⟩ := op_cells HOP3.out
  have hzW := blk_lt HRA2.out
  go_wp2_with (first
    | (go_at_call 37
       refine (query_mg o A c b N hl (W.drewN nq) (HMB.out.below (pw_below_drewN (Below.refl _ _) nq)) HKD.out (HC.out _ (Kept.of_below HWZ.out _)) HWK.out hn).mono ?_
       rintro e w3 ⟨ps, rfl, hR, hB⟩
       obtain ⟨A3, c3, rfl⟩ := Kd.R_slice hR
       unfold ansV
       have HB3 := Lib.hid (HWZ.out.trans (hB.mono HWZ.out.size))
       have HRA3 : Hid (w3.heap[w.heap.size + 1]? = some (Obj.cells (ansC 0 false 0 false 0 (.slice none 0 0) 0) 26 (0, 0))) := Lib.hid ((hB.block _ hzW).trans HRA2.out)
       have HL3 := Lib.hid (left_same (K := fun k => k = bn ∨ k = bh) HM.out HF.out HB3.out (Nat.le_succ N))
       have HR3 := Lib.hid (Kd.R_lower (Kd.R_mono (Kd.R_bound hR) (fun k hk => hk.2.1)) HWZ.out.size)
       clear hR hB)
    | ((with_reducible refine gate_store (t := 26) (p := 6) rfl ?_); refine wpList_store_row rfl 26 (.tmp 6) (.tmp 120) rfl (w.heap.size + 1) (ansC 0 false 0 false 0 (.slice A3 (toS (ofKeys hl o.f6)).length c3) 0) rfl rfl 26 _ HRA3.out (by kernel_rfl) rfl (ansC_one _ _ _ _ _ _ _ _ _) ?_))
  refine bodyPost_ret (res_ans rfl _ rfl (setRow_heap _ _ _ _ _ _ HRA3.out)) rfl ⟨_, rfl, Kd.R_mono (Kd.R_kept HR3.out (Kept_row w3 (w.heap.size + 1) _) (fun k hk e => by have hk' : (W.drewN nq).heap.size ≤ k := hk; omega)) (fun _ _ => trivial), HL3.out.row (by omega) HRA3.out hgl hnl hhl _⟩
end Go.Proofs.Ytngocadnbpdnoaa.Mo
namespace Go.Proofs.Ytngocadnbpdnoaa.Mo
open Go Go.Maps Go.RowKit Go.Proofs.Ytngocadnbpdnoaa.Srt Go.Proofs.Ytngocadnbpdnoaa.Q Go.Proofs.YtngocadnbpdnoaaW.PrintWords Go.Proofs.YtngocadnbpdnoaaW.PrintLast Go.Proofs.YtngocadnbpdnoaaW.PrintMore
set_option linter.unusedVariables false
set_option linter.unusedSimpArgs false
/-- What Do does to a state, and what it tells. -/
def stepD (s : MS) (o : OpS) (h : Int) : MS × AnsD :=
  if o.f0 = 1 then (s, foundD s o)
  else if o.f0 = 2 then (⟨s.multi, put s.now o.f1 o.f2, s.held⟩, foundD s o)
  else if o.f0 = 3 then (⟨s.multi, del s.now o.f1, s.held⟩, foundD s o)
  else if o.f0 = 4 then if fnd s.now o.f1 = some o.f3 then (⟨s.multi, put s.now o.f1 o.f2, s.held⟩, { foundD s o with dn := true }) else (s, foundD s o)
  else if o.f0 = 5 then (⟨s.multi, s.now, snapHeld h s.now s.held⟩, snapD h s.held)
  else if o.f0 = 6 then match fnd s.held o.f4 with | none => (s, errD 33) | some _ => (⟨s.multi, s.now, del s.held o.f4⟩, errD 0)
  else if o.f0 = 7 then if s.multi < (o.f6.length : Int) then (s, errD 6) else match fnd s.held o.f4 with | none => (s, errD 33) | some x => (s, ⟨0, false, 0, false, 0, ofKeys x o.f6, 0⟩)
  else if o.f0 = 8 then match fnd s.held o.f4 with | none => (s, errD 33) | some x => (s, ⟨0, false, 0, false, 0, within o.f7 o.f8 x, 0⟩)
  else if o.f0 = 9 then match fnd s.held o.f4 with | none => (s, errD 33) | some x => (s, ⟨0, false, 0, false, 0, [], ((toS (within o.f7 o.f8 x)).length : Int)⟩)
  else if o.f0 = 10 then (s, errD 0)
  else (s, errD 160)
theorem do_c (f : Nat → Option PL) (N gp bn bh : Nat) (multi : Int) (now : PL) (held : List (Int × PL)) (o : OpS) (A : Option Addr) (c : Nat) (hdl : Int) (w : World) (hM : PM w f N gp bn bh multi now held) (hF : Fro w f N) (hO : OpWf o) (hh : u64wf hdl) (hN : N ≤ 1099511627776)
    (hC : ∀ W', Kept w W' (fun k => k = bn ∨ k = bh) → Kd.C (Kd.int .u64) W' A o.f6.length o.f6) (hw : ∀ k ∈ o.f6, u64wf k) (hn : o.f6.length ≤ 1099511627776) :
    Calls Try.prog 15 #[.pointer (some ⟨gp, 0, none⟩), .agg (opC o A c), .int .u64 hdl] w (DoPost w f (N + 1) gp bn bh (stepD ⟨multi, now, held⟩ o hdl).1 (stepD ⟨multi, now, held⟩ o hdl).2) := by
  by_cases h1 : o.f0 = 1
  · rw [show stepD ⟨multi, now, held⟩ o hdl = (⟨multi, now, held⟩, foundD ⟨multi, now, held⟩ o) by simp [stepD, h1]]
    exact do_get f N gp bn bh multi now held o A c hdl w hM hF hO hh hN h1
  by_cases h2 : o.f0 = 2
  · rw [show stepD ⟨multi, now, held⟩ o hdl = (⟨multi, put now o.f1 o.f2, held⟩, foundD ⟨multi, now, held⟩ o) by simp [stepD, h2]]
    exact do_put f N gp bn bh multi now held o A c hdl w hM hF hO hh hN h2
  by_cases h3 : o.f0 = 3
  · rw [show stepD ⟨multi, now, held⟩ o hdl = (⟨multi, del now o.f1, held⟩, foundD ⟨multi, now, held⟩ o) by simp [stepD, h3]]
    exact do_del f N gp bn bh multi now held o A c hdl w hM hF hO hh hN h3
  by_cases h4 : o.f0 = 4
  · by_cases hx : fnd now o.f1 = some o.f3
    · rw [show stepD ⟨multi, now, held⟩ o hdl = (⟨multi, put now o.f1 o.f2, held⟩, { foundD ⟨multi, now, held⟩ o with dn := true }) by simp [stepD, h4, hx]]
      exact do_swapY f N gp bn bh multi now held o A c hdl w hM hF hO hh hN h4 hx
    · rw [show stepD ⟨multi, now, held⟩ o hdl = (⟨multi, now, held⟩, foundD ⟨multi, now, held⟩ o) by simp [stepD, h4, hx]]
      exact do_swapN f N gp bn bh multi now held o A c hdl w hM hF hO hh hN h4 hx
  by_cases h5 : o.f0 = 5
  · rw [show stepD ⟨multi, now, held⟩ o hdl = (⟨multi, now, snapHeld hdl now held⟩, snapD hdl held) by simp [stepD, h5]]
    exact do_snap f N gp bn bh multi now held o A c hdl w hM hF hO hh hN h5
  by_cases h6 : o.f0 = 6
  · cases hx : fnd held o.f4 with
    | none =>
      rw [show stepD ⟨multi, now, held⟩ o hdl = (⟨multi, now, held⟩, errD 33) by simp [stepD, h6, hx]]
      exact do_relN f N gp bn bh multi now held o A c hdl w hM hF hO hh hN h6 hx
    | some x =>
      rw [show stepD ⟨multi, now, held⟩ o hdl = (⟨multi, now, del held o.f4⟩, errD 0) by simp [stepD, h6, hx]]
      exact do_relY f N gp bn bh multi now held o A c hdl w hM hF hO hh hN h6 (by rw [hx]; rfl)
  by_cases h7 : o.f0 = 7
  · by_cases hl : multi < (o.f6.length : Int)
    · rw [show stepD ⟨multi, now, held⟩ o hdl = (⟨multi, now, held⟩, errD 6) by simp [stepD, h7, hl]]
      exact do_mgLong f N gp bn bh multi now held o A c hdl w hM hF hO hh hN h7 hl
    · cases hx : fnd held o.f4 with
      | none =>
        rw [show stepD ⟨multi, now, held⟩ o hdl = (⟨multi, now, held⟩, errD 33) by simp [stepD, h7, hl, hx]]
        exact do_mgNo f N gp bn bh multi now held o A c hdl w hM hF hO hh hN h7 hx hl
      | some x =>
        rw [show stepD ⟨multi, now, held⟩ o hdl = (⟨multi, now, held⟩, ⟨0, false, 0, false, 0, ofKeys x o.f6, 0⟩) by simp [stepD, h7, hl, hx]]
        exact do_mgYes f N gp bn bh multi now held o A c hdl w hM hF hO hh hN h7 x hx hl hC hw hn
  by_cases h8 : o.f0 = 8
  · cases hx : fnd held o.f4 with
    | none =>
      rw [show stepD ⟨multi, now, held⟩ o hdl = (⟨multi, now, held⟩, errD 33) by simp [stepD, h8, hx]]
      exact do_rgNo f N gp bn bh multi now held o A c hdl w hM hF hO hh hN h8 hx
    | some x =>
      rw [show stepD ⟨multi, now, held⟩ o hdl = (⟨multi, now, held⟩, ⟨0, false, 0, false, 0, within o.f7 o.f8 x, 0⟩) by simp [stepD, h8, hx]]
      by_cases hne : within o.f7 o.f8 x = []
      · exact do_rgYesE f N gp bn bh multi now held o A c hdl w hM hF hO hh hN h8 x hx hne
      · exact do_rgYesS f N gp bn bh multi now held o A c hdl w hM hF hO hh hN h8 x hx hne
  by_cases h9 : o.f0 = 9
  · cases hx : fnd held o.f4 with
    | none =>
      rw [show stepD ⟨multi, now, held⟩ o hdl = (⟨multi, now, held⟩, errD 33) by simp [stepD, h9, hx]]
      exact do_ctNo f N gp bn bh multi now held o A c hdl w hM hF hO hh hN h9 hx
    | some x =>
      rw [show stepD ⟨multi, now, held⟩ o hdl = (⟨multi, now, held⟩, ⟨0, false, 0, false, 0, [], ((toS (within o.f7 o.f8 x)).length : Int)⟩) by simp [stepD, h9, hx]]
      exact do_ctYes f N gp bn bh multi now held o A c hdl w hM hF hO hh hN h9 x hx
  by_cases h10 : o.f0 = 10
  · rw [show stepD ⟨multi, now, held⟩ o hdl = (⟨multi, now, held⟩, errD 0) by simp [stepD, h10]]
    exact do_coll f N gp bn bh multi now held o A c hdl w hM hF hO hh hN h10
  · rw [show stepD ⟨multi, now, held⟩ o hdl = (⟨multi, now, held⟩, errD 160) by simp [stepD, h1, h2, h3, h4, h5, h6, h7, h8, h9, h10]]
    exact do_oth f N gp bn bh multi now held o A c hdl w hM hF hO hh hN trivial (fun k hk1 hk2 => beq_eq_false_iff_ne.2 (by omega))
end Go.Proofs.Ytngocadnbpdnoaa.Mo
namespace Go.Proofs.Ytngocadnbpdnoaa.Mo
open Go Go.Maps Go.RowKit Go.Proofs.Ytngocadnbpdnoaa.Srt Go.Proofs.Ytngocadnbpdnoaa.Q Go.Proofs.YtngocadnbpdnoaaW.PrintWords Go.Proofs.YtngocadnbpdnoaaW.PrintLast Go.Proofs.YtngocadnbpdnoaaW.PrintMore
set_option linter.unusedVariables false
set_option linter.unusedSimpArgs false
/-- An answer that is an error alone. -/
def errS (e : Int) : AnS := ⟨e, false, 0, false, 0, [], 0⟩
/-- What Take leaves and tells: a state, yes or no. -/
def TakePost (w : World) (f : Nat → Option PL) (N gp bn bh : Nat) (r : MS × Bool) (e : Ending) (w' : World) : Prop :=
  e = .returned (.bool r.2) ∧ Left w w' f (N + 2) gp bn bh r.1.multi r.1.now r.1.held (fun k => k = bn ∨ k = bh)
set_option maxHeartbeats 2000000 in
theorem bare_c (a : AnS) (B : Option Addr) (d g : Nat) (e : Int) (w : World) (hb : w.heap[g]? = some (.cells (ansC a.f0 a.f1 a.f2 a.f3 a.f4 (.slice B a.f5.length d) a.f6) 26 (0, 0))) (hC : Kd.C k90 w B a.f5.length a.f5) (hd : a.f5.length ≤ d) (hm : a.f5.length ≤ 4398046511104) :
    Calls Try.prog 48 #[.int .i64 e, .pointer (some ⟨g, 0, none⟩)] w fun en w' => en = .returned (.bool (anEq a (errS e))) ∧ Below w.heap.size w w' := by
  obtain ⟨p0, p1, p2, p3, p4, p5, p6⟩ := ans_cells hb
  have hS := sameAns_c a (errS e) B none d 0 w hC hd (Kd.C_nil _ _) (Nat.le_refl _) hm
  have hg := blk_lt hb
  clear hb hC
  go_enter Try.func48, Try.ntmps48
  go_wp2_with (go_at_call 12; refine hS.mono ?_; rintro e w1 ⟨rfl, hB1⟩)
  go_ret
  exact ⟨rfl, hB1⟩
set_option maxRecDepth 100000 in
set_option maxHeartbeats 16000000 in
theorem take_kv (o : OpS) (a : AnS) (A B : Option Addr) (c d : Nat) (st : MS → MS × AnsD) (hD : DoC o 0 st) (f : Nat → Option PL) (N gp bn bh : Nat) (multi : Int) (now : PL) (held : List (Int × PL)) (w : World) (hM : PM w f N gp bn bh multi now held) (hF : Fro w f N) (hN : N + 1 ≤ 1099511627776)
    (hC : ∀ W', Kept w W' (fun k => k = bn ∨ k = bh) → Kd.C k90 W' B a.f5.length a.f5) (hd : a.f5.length ≤ d) (ho : 2 ≤ o.f0 ∧ o.f0 ≤ 4) (hm : a.f5.length ≤ 4398046511104) (r : MS × Bool) (hr : r = if anEq a (errS 30) = true then (⟨multi, now, held⟩, true) else if anEq (ansS (st ⟨multi, now, held⟩).2) a = true then ((st ⟨multi, now, held⟩).1, true) else (⟨multi, now, held⟩, false)) (hps : (st ⟨multi, now, held⟩).2.ps.length ≤ 4398046511104) :
    Calls Try.prog 22 #[.pointer (some ⟨gp, 0, none⟩), .agg (opC o A c), anV a B d] w (TakePost w f N gp bn bh r) := by
  have hgl := hM.gl
  have hnl := hM.now.lt
  have hhl := hM.held.1.lt
  have hb0 := tkW_below w o A c a B d
  have hO0 := tkW_op w o A c a B d
  have hA0 := tkW_ans w o A c a B d
  have hk0 : (tkW w o A c a B d).cell? ⟨w.heap.size, 0, none⟩ = some (.int .u8 o.f0) := (op_cells hO0).1
  have hs0 := tkW_size w o A c a B d
  have HM := Lib.hid hM
  have HF := Lib.hid hF
  have HC := Lib.hid hC
  have HD := Lib.hid hD
  have HB0 := Lib.hid hb0
  have HO0 := Lib.hid hO0
  have HA0 := Lib.hid hA0
  clear hM hF hC hD hb0 hO0 hA0
  obtain ⟨s, hs⟩ : ∃ s : MS, s = ⟨multi, now, held⟩ := ⟨_, rfl⟩
  rw [← hs] at hps hr
  have HS := Lib.hid hs
  obtain ⟨D, hDD⟩ : ∃ D : AnsD, D = (st s).2 := ⟨_, rfl⟩
  rw [← hDD] at hps hr
  have HDD := Lib.hid hDD
  clear hs hDD
  obtain ⟨b30, hb30⟩ : ∃ b, b = anEq a (errS 30) := ⟨_, rfl⟩
  rw [← hb30] at hr
  have HB30 := Lib.hid hb30
  have HR := Lib.hid hr
  clear hb30 hr
  go_enter Try.func22, Try.ntmps22
  go_upto_region 4 with fail
  change Code.wp _ _ _ _ (tkW w o A c a B d)
  obtain ⟨W0, hW0⟩ : ∃ W0, W0 = tkW w o A c a B d := ⟨_, rfl⟩
  rw [← hW0] at HB0 HO0 HA0 hk0 hs0 ⊢
  clear hW0
  have hcase : (o.f0 == 2) = true ∨ ((o.f0 == 2) = false ∧ (o.f0 == 3) = true) ∨ ((o.f0 == 2) = false ∧ (o.f0 == 3) = false ∧ (o.f0 == 4) = true) := by
    obtain ⟨h1, h2⟩ := ho
    rcases (show o.f0 = 2 ∨ o.f0 = 3 ∨ o.f0 = 4 by omega) with e | e | e <;> rw [e] <;> decide
  clear ho
  have hcB := bare_c a B d (w.heap.size + 1) 30 W0 HA0.out (HC.out W0 (Kept.of_below HB0.out _)) hd hm
  rw [← HB30.out] at hcB
  have HCB := Lib.hid hcB
  clear hcB
  cases b30 with
  | true =>
    rcases hcase with q2 | ⟨q2, q3⟩ | ⟨q2, q3, q4⟩
    all_goals
      go_wp2_with (go_at_call 48; refine HCB.out.mono ?_; rintro e w9 ⟨rfl, hB9⟩; have HB9 := Lib.hid (HB0.out.trans (hB9.mono HB0.out.size)); clear hB9)
      go_ret
      obtain rfl : r = (s, true) := by rw [HR.out]; simp
      rw [HS.out]
      exact ⟨rfl, left_same HM.out HF.out HB9.out (by omega)⟩
  | false =>
    rcases hcase with q2 | ⟨q2, q3⟩ | ⟨q2, q3, q4⟩
    all_goals
      go_upto_region 25 with (go_at_call 48; refine HCB.out.mono ?_; rintro e W1 ⟨rfl, hB9⟩; have HB9 := Lib.hid (HB0.out.trans (hB9.mono HB0.out.size)); have HO9 := Lib.hid (blk_below HO0.out hB9); have HA9 := Lib.hid (blk_below HA0.out hB9); have hs9 := hB9.size; clear hB9)
      clear HB0 HO0 HA0 hk0 HCB
      go_upto_region 26 with (go_at_call 30; (refine (fork_c f N gp bn bh multi now held W1 (HM.out.kept (Kept.of_below HB9.out (fun _ => False)) (fun e => e) (fun e => e) (fun e => e)) (HF.out.kept (Kept.of_below HB9.out (fun _ => False)) (fun _ _ _ e => e)) (by omega)).mono ?_; rintro e w1 ⟨gq, bm, bi, rfl, f1, hE1, hP1, hF1, hB1, hq1, hq2, hq3⟩))
      have hbw1 : Below w.heap.size w w1 := HB9.out.trans (hB1.mono HB9.out.size)
      have HO1 : Hid (w1.drew.heap[w.heap.size]? = some (.cells (opC o A c) 39 (0, 0))) := Lib.hid ((hB1.block _ (by omega)).trans HO9.out)
      have HA1 : Hid (w1.drew.heap[w.heap.size + 1]? = some (.cells (ansC a.f0 a.f1 a.f2 a.f3 a.f4 (.slice B a.f5.length d) a.f6) 26 (0, 0))) := Lib.hid ((hB1.block _ (by omega)).trans HA9.out)
      have HP1 := Lib.hid hP1
      have HF1 := Lib.hid hF1
      have HE1 := Lib.hid hE1
      have HB1 := Lib.hid hbw1
      have HS1 : Hid (W1.heap.size ≤ w1.drew.heap.size) := Lib.hid hB1.size
      clear hP1 hF1 hE1 hbw1 hB1
      have hS1 := cells18 HO1.out HA1.out
      go_region_held3 (fun w' => w'.cell? ⟨w.heap.size, 0, none⟩ = some (.int .u8 o.f0) ∧ w'.cell? ⟨w.heap.size, 1, none⟩ = some (.int .u64 o.f1) ∧ w'.cell? ⟨w.heap.size, 2, none⟩ = some (.int .u64 o.f2) ∧ w'.cell? ⟨w.heap.size, 3, none⟩ = some (.int .u64 o.f3) ∧ w'.cell? ⟨w.heap.size, 4, none⟩ = some (.int .u64 o.f4) ∧ w'.cell? ⟨w.heap.size, 5, none⟩ = some (.bool o.f5.f0) ∧ w'.cell? ⟨w.heap.size, 6, none⟩ = some (.int .i64 o.f5.f1) ∧ w'.cell? ⟨w.heap.size, 7, none⟩ = some (.int .i64 o.f5.f2) ∧ w'.cell? ⟨w.heap.size, 8, none⟩ = some (.slice A o.f6.length c) ∧ w'.cell? ⟨w.heap.size, 9, none⟩ = some (.int .u64 o.f7) ∧ w'.cell? ⟨w.heap.size, 10, none⟩ = some (.int .u64 o.f8) ∧ w'.cell? ⟨w.heap.size + 1, 0, none⟩ = some (.int .i64 a.f0) ∧ w'.cell? ⟨w.heap.size + 1, 1, none⟩ = some (.bool a.f1) ∧ w'.cell? ⟨w.heap.size + 1, 2, none⟩ = some (.int .u64 a.f2) ∧ w'.cell? ⟨w.heap.size + 1, 3, none⟩ = some (.bool a.f3) ∧ w'.cell? ⟨w.heap.size + 1, 4, none⟩ = some (.int .u64 a.f4) ∧ w'.cell? ⟨w.heap.size + 1, 5, none⟩ = some (.slice B a.f5.length d) ∧ w'.cell? ⟨w.heap.size + 1, 6, none⟩ = some (.int .u64 a.f6))
        (first | go_keep | exact hS1 | exact cells18 HO2.out HA2.out | exact cells18 HO3.out HA3.out)
        (first
          | (go_at_call 15; refine (HD.out f1 N gq bm bi multi now held A c w1.drew (HP1.out.kept (Kept.of_below (below_drew (Below.refl _ w1)) (fun _ => False)) (fun e => e) (fun e => e) (fun e => e)) (HF1.out.kept (Kept.of_below (below_drew (Below.refl _ w1)) (fun _ => False)) (fun _ _ _ e => e)) (by omega)).mono ?_; rintro e w2 ⟨ps, rfl, hR2, f2, hE2, hP2, hF2, hK2'⟩
             rw [← HS.out, ← HDD.out] at hR2
             rw [← HS.out, ← HDD.out]
             obtain ⟨A2, c2, rfl⟩ := Kd.R_slice hR2
             have hK2 := hK2'.kept
             have hK1 : KO w w2 (fun _ => False) := (KO.of_below (below_drew HB1.out) (fun _ => False)).then_ hK2' (fun k e => .inr (by omega))
             have HO2 := Lib.hid (blk_kept (W2 := w2) HO1.out hK2 (show ¬ (w.heap.size = bm ∨ w.heap.size = bi) by omega))
             have HA2 := Lib.hid (blk_kept (W2 := w2) HA1.out hK2 (show ¬ (w.heap.size + 1 = bm ∨ w.heap.size + 1 = bi) by omega))
             have HF2 := Lib.hid hF2
             have HE2 := Lib.hid (HE1.out.trans hE2 HS1.out)
             have HK1 := Lib.hid hK1
             have HK12 := Lib.hid hK2.1
             have HR2 := Lib.hid hR2
             clear hF2 hE2 hK1 hR2 hP2 hK2 hK2')
          | (go_at_call 12; refine (sameAns_c (ansS D) a A2 B c2 d w2 (Kd.R_reads' HR2.out).2.2 (Kd.R_reads' HR2.out).2.1 (HC.out w2 (HK1.out.kept.mono (fun _ e => e.elim))) hd (by simp only [ansS, toS_length]; exact hps)).mono ?_; rintro e w3 ⟨rfl, hB3⟩
             have HO3 := Lib.hid ((hB3.block _ (blk_lt HO2.out)).trans HO2.out)
             have HA3 := Lib.hid ((hB3.block _ (blk_lt HA2.out)).trans HA2.out)
             have HK3 := Lib.hid (HK1.out.below hB3)
             have HB3 := Lib.hid hB3
             clear hB3))
      have hs3 : W1.heap.size ≤ w3.heap.size := Nat.le_trans HS1.out (Nat.le_trans HK12.out HB3.out.size)
      have he2 : Ext w.heap.size f f2 := ⟨HE2.out.1, fun b l e => (HE2.out.2 b l e).imp id (fun h => Nat.le_trans HB9.out.size h)⟩
      have hP3 : PM w3 f2 N gp bn bh multi now held := ((HM.out.kept HK3.out.kept (fun e => e) (fun e => e) (fun e => e)).ext he2 hnl hhl)
      have hF3 : Fro w3 f2 (N + 1) := HF2.out.kept (Kept.of_below HB3.out (fun _ => False)) (fun _ _ _ e => e)
      have HP3 := Lib.hid hP3
      have HF3 := Lib.hid hF3
      have HE3 := Lib.hid he2
      clear hP3 hF3 he2
      by_cases hq : anEq (ansS D) a = true
      case neg =>
        obtain rfl : r = (s, false) := by rw [HR.out]; simp [hq]
        have hq' : anEq (ansS D) a = false := by simpa using hq
        clear hq
        rw [hq']
        go_wp2_with fail
        all_goals go_ret
        all_goals rw [HS.out]
        all_goals exact ⟨rfl, f2, HE3.out, HP3.out.mono (by omega), HF3.out.mono (by omega), HK3.out.mono (fun _ e => e.elim)⟩
      case pos =>
        obtain rfl : r = ((st s).1, true) := by rw [HR.out]; simp [hq]
        rw [hq]
        have hS3 := cells18 HO3.out HA3.out
        go_split_ands
        go_wp2_with (go_at_call 15; refine (HD.out f2 (N + 1) gp bn bh multi now held A c w3 (HP3.out.mono (by omega)) HF3.out (by omega)).mono ?_; rintro e w4 ⟨ps4, rfl, hR4, f4, hE4, hP4, hF4, hK4⟩)
        all_goals go_ret
        all_goals rw [← HS.out] at hP4
        all_goals exact ⟨rfl, f4, HE3.out.trans hE4 HK3.out.kept.1, hP4, hF4, (HK3.out.mono (fun _ e => e.elim)).then_ hK4 (fun k e => .inl e)⟩
end Go.Proofs.Ytngocadnbpdnoaa.Mo
namespace Go.Proofs.Ytngocadnbpdnoaa.Mo
open Go Go.Maps Go.RowKit Go.Proofs.Ytngocadnbpdnoaa.Srt Go.Proofs.Ytngocadnbpdnoaa.Q Go.Proofs.YtngocadnbpdnoaaW.PrintWords Go.Proofs.YtngocadnbpdnoaaW.PrintLast Go.Proofs.YtngocadnbpdnoaaW.PrintMore
set_option linter.unusedVariables false
set_option linter.unusedSimpArgs false
theorem DoPost.agg {w : World} {f : Nat → Option PL} {N gp bn bh : Nat} {s : MS} {d : AnsD} {e : Ending} {w' : World} (h : DoPost w f N gp bn bh s d e w') : ∃ A c, e = .returned (.agg #[.int .i64 d.e, .bool d.fo, .int .u64 d.v, .bool d.dn, .int .u64 d.h, .slice A (toS d.ps).length c, .int .u64 d.c]) ∧ kSP.R 90 w' w.heap.size (fun _ => True) (.slice A (toS d.ps).length c) (toS d.ps) ∧ Left w w' f N gp bn bh s.multi s.now s.held (fun k => k = bn ∨ k = bh) := by
  obtain ⟨ps, rfl, hR, hL⟩ := h
  obtain ⟨A, c, rfl⟩ := Kd.R_slice hR
  exact ⟨A, c, rfl, hR, hL⟩
theorem Left.below' {w W W2 : World} {f : Nat → Option PL} {N gp bn bh : Nat} {multi : Int} {now : PL} {held : List (Int × PL)} {K : Nat → Prop} (h : Left w W f N gp bn bh multi now held K) (hb : Below W.heap.size W W2) : Left w W2 f N gp bn bh multi now held K := by
  obtain ⟨f', hE, hP, hF, hK⟩ := h
  exact ⟨f', hE, hP.kept (Kept.of_below hb (fun _ => False)) (fun e => e) (fun e => e) (fun e => e), hF.kept (Kept.of_below hb (fun _ => False)) (fun _ _ _ e => e), hK.below hb⟩
theorem Left.base' {w W w' : World} {f : Nat → Option PL} {N gp bn bh : Nat} {multi : Int} {now : PL} {held : List (Int × PL)} {K : Nat → Prop} (h : Left W w' f (N + 1) gp bn bh multi now held K) (hb : Below w.heap.size w W) : Left w w' f (N + 2) gp bn bh multi now held K := by
  obtain ⟨f', hE, hP, hF, hK⟩ := h.base hb (fun k e => e)
  exact ⟨f', hE, hP.mono (by omega), hF.mono (by omega), hK⟩
theorem cell_below {w W : World} {a : Addr} (h : Below w.heap.size w W) (hl : a.block < w.heap.size) : W.cell? a = w.cell? a := h.cell (p := a) hl
set_option maxRecDepth 100000 in
set_option maxHeartbeats 16000000 in
theorem take_coll (o : OpS) (a : AnS) (A B : Option Addr) (c d : Nat)  (f : Nat → Option PL) (N gp bn bh : Nat) (multi : Int) (now : PL) (held : List (Int × PL)) (w : World) (hM : PM w f N gp bn bh multi now held) (hF : Fro w f N) (hN : N + 1 ≤ 1099511627776)
    (hC : ∀ W', Kept w W' (fun k => k = bn ∨ k = bh) → Kd.C k90 W' B a.f5.length a.f5) (hd : a.f5.length ≤ d) (hm : a.f5.length ≤ 4398046511104) (hk : o.f0 = 10) (r : MS × Bool) (hr : r = (⟨multi, now, held⟩, anEq a ⟨0, false, 0, false, 0, [], a.f6⟩)) :
    Calls Try.prog 22 #[.pointer (some ⟨gp, 0, none⟩), .agg (opC o A c), anV a B d] w (TakePost w f N gp bn bh r) := by
  have hgl := hM.gl
  have hnl := hM.now.lt
  have hhl := hM.held.1.lt
  have hb0 := tkW_below w o A c a B d
  have hO0 := tkW_op w o A c a B d
  have hA0 := tkW_ans w o A c a B d
  have hk0 : (tkW w o A c a B d).cell? ⟨w.heap.size, 0, none⟩ = some (.int .u8 o.f0) := (op_cells hO0).1
  have hs0 := tkW_size w o A c a B d
  have HM := Lib.hid hM
  have HF := Lib.hid hF
  have HC := Lib.hid hC
  have HB0 := Lib.hid hb0
  have HO0 := Lib.hid hO0
  have HA0 := Lib.hid hA0
  clear hM hF hC hb0 hO0 hA0
  obtain ⟨s, hs⟩ : ∃ s : MS, s = ⟨multi, now, held⟩ := ⟨_, rfl⟩
  rw [← hs] at hr
  have HS := Lib.hid hs
  have HR := Lib.hid hr
  clear hs hr
  have q : (o.f0 == 2) = false ∧ (o.f0 == 3) = false ∧ (o.f0 == 4) = false ∧ (o.f0 == 5) = false ∧ (o.f0 == 10) = true := by rw [hk]; decide
  obtain ⟨q2, q3, q4, q5, q10⟩ := q
  clear hk
  go_enter Try.func22, Try.ntmps22
  go_upto_region 4 with fail
  change Code.wp _ _ _ _ (tkW w o A c a B d)
  obtain ⟨W0, hW0⟩ : ∃ W0, W0 = tkW w o A c a B d := ⟨_, rfl⟩
  rw [← hW0] at HB0 HO0 HA0 hk0 hs0 ⊢
  clear hW0
  obtain ⟨p0, p1, p2, p3, p4, p5, p6⟩ := ans_cells HA0.out
  have hcS := sameAns_c a ⟨0, false, 0, false, 0, [], a.f6⟩ B none d 0 W0 (HC.out W0 (Kept.of_below HB0.out _)) hd (Kd.C_nil _ _) (Nat.le_refl _) hm
  go_wp2_with (go_at_call 12; refine hcS.mono ?_; rintro e w1 ⟨rfl, hB1⟩)
  go_ret
  rw [HR.out, HS.out]
  exact ⟨rfl, left_same HM.out HF.out (HB0.out.trans (hB1.mono HB0.out.size)) (by omega)⟩
end Go.Proofs.Ytngocadnbpdnoaa.Mo
namespace Go.Proofs.Ytngocadnbpdnoaa.Mo
open Go Go.Maps Go.RowKit Go.Proofs.Ytngocadnbpdnoaa.Srt Go.Proofs.Ytngocadnbpdnoaa.Q Go.Proofs.YtngocadnbpdnoaaW.PrintWords Go.Proofs.YtngocadnbpdnoaaW.PrintLast Go.Proofs.YtngocadnbpdnoaaW.PrintMore
set_option linter.unusedVariables false
set_option linter.unusedSimpArgs false
set_option maxRecDepth 100000 in
set_option maxHeartbeats 16000000 in
theorem take_query (o : OpS) (a : AnS) (A B : Option Addr) (c d : Nat) (st : MS → MS × AnsD) (f : Nat → Option PL) (N gp bn bh : Nat) (multi : Int) (now : PL) (held : List (Int × PL)) (w : World) (hM : PM w f N gp bn bh multi now held) (hF : Fro w f N) (hN : N + 1 ≤ 1099511627776)
    (hC : ∀ W', Kept w W' (fun k => k = bn ∨ k = bh) → Kd.C k90 W' B a.f5.length a.f5) (hd : a.f5.length ≤ d) (hm : a.f5.length ≤ 4398046511104) (hD : ∀ W', Below w.heap.size w W' → Calls Try.prog 15 #[.pointer (some ⟨gp, 0, none⟩), .agg (opC o A c), .int .u64 0] W' (DoPost W' f (N + 1) gp bn bh (st ⟨multi, now, held⟩).1 (st ⟨multi, now, held⟩).2)) (hk : 7 ≤ o.f0 ∧ o.f0 ≤ 9) (r : MS × Bool) (hr : r = ((st ⟨multi, now, held⟩).1, anEq a (ansS (st ⟨multi, now, held⟩).2) || ((st ⟨multi, now, held⟩).2.e == 33 && anEq a (errS 34)))) :
    Calls Try.prog 22 #[.pointer (some ⟨gp, 0, none⟩), .agg (opC o A c), anV a B d] w (TakePost w f N gp bn bh r) := by
  have hgl := hM.gl
  have hnl := hM.now.lt
  have hhl := hM.held.1.lt
  have hb0 := tkW_below w o A c a B d
  have hO0 := tkW_op w o A c a B d
  have hA0 := tkW_ans w o A c a B d
  have hk0 : (tkW w o A c a B d).cell? ⟨w.heap.size, 0, none⟩ = some (.int .u8 o.f0) := (op_cells hO0).1
  have hs0 := tkW_size w o A c a B d
  have HM := Lib.hid hM
  have HF := Lib.hid hF
  have HC := Lib.hid hC
  have HB0 := Lib.hid hb0
  have HO0 := Lib.hid hO0
  have HA0 := Lib.hid hA0
  clear hM hF hC hb0 hO0 hA0
  obtain ⟨s, hs⟩ : ∃ s : MS, s = ⟨multi, now, held⟩ := ⟨_, rfl⟩
  rw [← hs] at hr
  have HS := Lib.hid hs
  have HR := Lib.hid hr
  clear hs hr
  have HD := Lib.hid hD
  clear hD
  have q : (o.f0 == 2) = false ∧ (o.f0 == 3) = false ∧ (o.f0 == 4) = false ∧ (o.f0 == 5) = false ∧ (o.f0 == 10) = false ∧ ((o.f0 == 7) = true ∨ ((o.f0 == 7) = false ∧ (o.f0 == 8) = true) ∨ ((o.f0 == 7) = false ∧ (o.f0 == 8) = false ∧ (o.f0 == 9) = true)) := by
    obtain ⟨h1, h2⟩ := hk
    rcases (show o.f0 = 7 ∨ o.f0 = 8 ∨ o.f0 = 9 by omega) with e | e | e <;> rw [e] <;> decide
  obtain ⟨q2, q3, q4, q5, q10, hcase⟩ := q
  clear hk
  obtain ⟨D, hDD⟩ : ∃ D : AnsD, D = (st s).2 := ⟨_, rfl⟩
  replace HR : Hid (r = ((st s).1, anEq a (ansS D) || (D.e == 33 && anEq a (errS 34)))) := Lib.hid (by rw [hDD]; exact HR.out)
  have HDD := Lib.hid hDD
  clear hDD
  go_enter Try.func22, Try.ntmps22
  go_upto_region 4 with fail
  change Code.wp _ _ _ _ (tkW w o A c a B d)
  obtain ⟨W0, hW0⟩ : ∃ W0, W0 = tkW w o A c a B d := ⟨_, rfl⟩
  rw [← hW0] at HB0 HO0 HA0 hk0 hs0 ⊢
  clear hW0
  rcases hcase with q7 | ⟨q7, q8⟩ | ⟨q7, q8, q9⟩
  all_goals
    obtain ⟨k0, k1, k2, k3, k4, k5, k6, k7, k8, k9, k10⟩ := op_cells HO0.out
    go_upto_region 24 with (go_at_call 15; (refine (HD.out W0 HB0.out).mono ?_; rw [← HS.out, ← HDD.out]; rintro e w2 hP2; obtain ⟨A2, c2, rfl, hR2, hL2⟩ := DoPost.agg hP2; clear hP2; have HL2 := Lib.hid hL2; have HR2 := Lib.hid hR2; clear hL2 hR2))
    clear k0 k1 k2 k3 k4 k5 k6 k7 k8 k9 k10
    have hb2 := below_alloc (Below.refl _ w2) (.cells (ansC D.e D.fo D.v D.dn D.h (.slice A2 (toS D.ps).length c2) D.c) 26)
    change Code.wp _ _ _ _ (w2.alloc (.cells (ansC D.e D.fo D.v D.dn D.h (.slice A2 (toS D.ps).length c2) D.c) 26))
    have hn2 := heap_alloc_new w2 (.cells (ansC D.e D.fo D.v D.dn D.h (.slice A2 (toS D.ps).length c2) D.c) 26)
    obtain ⟨W2, hW2⟩ : ∃ W2, W2 = w2.alloc (.cells (ansC D.e D.fo D.v D.dn D.h (.slice A2 (toS D.ps).length c2) D.c) 26) := ⟨_, rfl⟩
    rw [← hW2] at hb2 hn2 ⊢
    clear hW2
    have HK2 : Hid (Kept W0 w2 (fun k => k = bn ∨ k = bh)) := Lib.hid (by obtain ⟨_, _, _, _, hK⟩ := HL2.out; exact hK.kept)
    have HA2 := Lib.hid (blk_below (blk_kept HA0.out HK2.out (show ¬ (w.heap.size + 1 = bn ∨ w.heap.size + 1 = bh) by omega)) hb2)
    have HC2 := Lib.hid (HC.out W2 (((Kept.of_below HB0.out _).then_ HK2.out (fun k e => .inl e)).then_ (Kept.of_below hb2 _) (fun k e => .inl e)))
    replace HR2 := Lib.hid (Kd.R_below HR2.out hb2)
    have HN2 := Lib.hid hn2
    have HB2 := Lib.hid hb2
    have hs2 := HK2.out.1
    have hs22 := hb2.size
    have hg2 := blk_lt hn2
    clear hb2 hn2
    obtain ⟨p0, p1, p2, p3, p4, p5, p6⟩ := ans_cells HA2.out
    obtain ⟨n0, n1, n2, n3, n4, n5, n6⟩ := ans_cells HN2.out
    have hcS := sameAns_c a (ansS D) B A2 d c2 W2 HC2.out hd (Kd.R_reads' HR2.out).2.2 (Kd.R_reads' HR2.out).2.1 hm
    obtain ⟨b1, hb1⟩ : ∃ b, b = anEq a (ansS D) := ⟨_, rfl⟩
    rw [← hb1] at hcS HR
    have HCS := Lib.hid hcS
    clear hb1 hcS
    obtain ⟨b2, hb2⟩ : ∃ b, b = anEq a (errS 34) := ⟨_, rfl⟩
    rw [← hb2] at HR
    have HBE := Lib.hid hb2
    clear hb2
    cases b1 with
    | true =>
      go_wp2_with (go_at_call 12; refine HCS.out.mono ?_; rintro e w3 ⟨rfl, hB3⟩; have HB3 := Lib.hid hB3; clear hB3)
      go_ret
      rw [HR.out]
      exact ⟨rfl, (HL2.out.below' (HB2.out.trans (HB3.out.mono HB2.out.size))).base' HB0.out⟩
    | false =>
      cases h33 : (D.e == 33) with
      | false =>
        go_wp2_with (go_at_call 12; refine HCS.out.mono ?_; rintro e w3 ⟨rfl, hB3⟩; have hn3 : w3.cell? ⟨w2.heap.size, 0, none⟩ = some (.int .i64 D.e) := ((cell_below hB3 hg2).trans n0); have HB3 := Lib.hid hB3; clear hB3)
        go_ret
        rw [HR.out]
        exact ⟨by simp [h33], (HL2.out.below' (HB2.out.trans (HB3.out.mono HB2.out.size))).base' HB0.out⟩
      | true =>
        go_wp2_with (first
          | (go_at_call 12; refine HCS.out.mono ?_; rintro e w3 ⟨rfl, hB3⟩; have hn3 : w3.cell? ⟨w2.heap.size, 0, none⟩ = some (.int .i64 D.e) := ((cell_below hB3 hg2).trans n0); have HB3 := Lib.hid hB3; clear hB3)
          | (go_at_call 48; refine (bare_c a B d (w.heap.size + 1) 34 w3 (blk_below HA2.out HB3.out) (Kd.C_below HC2.out HB3.out) hd hm).mono ?_; rw [← HBE.out]; rintro e w4 ⟨rfl, hB4⟩; have HB4 := Lib.hid hB4; clear hB4))
        go_ret
        rw [HR.out]
        exact ⟨by simp [h33], (HL2.out.below' ((HB2.out.trans (HB3.out.mono HB2.out.size)).trans (HB4.out.mono (Nat.le_trans HB2.out.size HB3.out.size)))).base' HB0.out⟩
end Go.Proofs.Ytngocadnbpdnoaa.Mo
namespace Go.Proofs.Ytngocadnbpdnoaa.Mo
open Go Go.Maps Go.RowKit Go.Proofs.Ytngocadnbpdnoaa.Srt Go.Proofs.Ytngocadnbpdnoaa.Q Go.Proofs.YtngocadnbpdnoaaW.PrintWords Go.Proofs.YtngocadnbpdnoaaW.PrintLast Go.Proofs.YtngocadnbpdnoaaW.PrintMore
set_option linter.unusedVariables false
set_option linter.unusedSimpArgs false
set_option maxRecDepth 100000 in
set_option maxHeartbeats 16000000 in
theorem take_snap (o : OpS) (a : AnS) (A B : Option Addr) (c d : Nat)  (f : Nat → Option PL) (N gp bn bh : Nat) (multi : Int) (now : PL) (held : List (Int × PL)) (w : World) (hM : PM w f N gp bn bh multi now held) (hF : Fro w f N) (hN : N + 1 ≤ 1099511627776)
    (hC : ∀ W', Kept w W' (fun k => k = bn ∨ k = bh) → Kd.C k90 W' B a.f5.length a.f5) (hd : a.f5.length ≤ d) (hm : a.f5.length ≤ 4398046511104) (hk : o.f0 = 5) (hu : u64wf a.f4) (r : MS × Bool) (hr : r = if anEq a (errS 32) || anEq a (errS 31) then (⟨multi, now, held⟩, true) else if (fnd held a.f4).isSome || (a.f4 == 0) || !anEq a ⟨0, false, 0, false, a.f4, [], 0⟩ then (⟨multi, now, held⟩, false) else (⟨multi, now, snapHeld a.f4 now held⟩, true)) :
    Calls Try.prog 22 #[.pointer (some ⟨gp, 0, none⟩), .agg (opC o A c), anV a B d] w (TakePost w f N gp bn bh r) := by
  have hgl := hM.gl
  have hnl := hM.now.lt
  have hhl := hM.held.1.lt
  have hb0 := tkW_below w o A c a B d
  have hO0 := tkW_op w o A c a B d
  have hA0 := tkW_ans w o A c a B d
  have hk0 : (tkW w o A c a B d).cell? ⟨w.heap.size, 0, none⟩ = some (.int .u8 o.f0) := (op_cells hO0).1
  have hs0 := tkW_size w o A c a B d
  have HM := Lib.hid hM
  have HF := Lib.hid hF
  have HC := Lib.hid hC
  have HB0 := Lib.hid hb0
  have HO0 := Lib.hid hO0
  have HA0 := Lib.hid hA0
  clear hM hF hC hb0 hO0 hA0
  obtain ⟨s, hs⟩ : ∃ s : MS, s = ⟨multi, now, held⟩ := ⟨_, rfl⟩
  rw [← hs] at hr
  have HS := Lib.hid hs
  have HR := Lib.hid hr
  clear hs hr
  have q : (o.f0 == 2) = false ∧ (o.f0 == 3) = false ∧ (o.f0 == 4) = false ∧ (o.f0 == 5) = true := by rw [hk]; decide
  obtain ⟨q2, q3, q4, q5⟩ := q
  have HU := Lib.hid hu
  clear hk hu
  obtain ⟨b1, hb1⟩ : ∃ b, b = anEq a (errS 32) := ⟨_, rfl⟩
  obtain ⟨b2, hb2⟩ : ∃ b, b = anEq a (errS 31) := ⟨_, rfl⟩
  obtain ⟨b3, hb3⟩ : ∃ b, b = (fnd held a.f4).isSome := ⟨_, rfl⟩
  obtain ⟨b5, hb5⟩ : ∃ b, b = anEq a ⟨0, false, 0, false, a.f4, [], 0⟩ := ⟨_, rfl⟩
  rw [← hb1, ← hb2, ← hb3, ← hb5] at HR
  have HB1 := Lib.hid hb1
  have HB2 := Lib.hid hb2
  have HB3 := Lib.hid hb3
  have HB5 := Lib.hid hb5
  clear hb1 hb2 hb3 hb5
  go_enter Try.func22, Try.ntmps22
  go_upto_region 4 with fail
  change Code.wp _ _ _ _ (tkW w o A c a B d)
  obtain ⟨W0, hW0⟩ : ∃ W0, W0 = tkW w o A c a B d := ⟨_, rfl⟩
  rw [← hW0] at HB0 HO0 HA0 hk0 hs0 ⊢
  clear hW0
  go_wp2_with fail
  go_at_call 48
  refine (bare_c a B d (w.heap.size + 1) 32 W0 HA0.out (HC.out W0 (Kept.of_below HB0.out _)) hd hm).mono ?_
  rw [← HB1.out]
  rintro e w1 ⟨rfl, hB1⟩
  have HW1 := Lib.hid (HB0.out.trans (hB1.mono HB0.out.size))
  have HA1 := Lib.hid (blk_below HA0.out hB1)
  clear hB1
  cases b1 with
  | true =>
    go_wp2_with fail
    go_ret
    obtain rfl : r = (s, true) := by rw [HR.out]; simp
    rw [HS.out]
    exact ⟨rfl, left_same HM.out HF.out HW1.out (by omega)⟩
  | false =>
    go_wp2_with fail
    go_at_call 48
    refine (bare_c a B d (w.heap.size + 1) 31 w1 HA1.out (HC.out w1 (Kept.of_below HW1.out _)) hd hm).mono ?_
    rw [← HB2.out]
    rintro e w2 ⟨rfl, hB2⟩
    have HW2 := Lib.hid (HW1.out.trans (hB2.mono HW1.out.size))
    have HA2 := Lib.hid (blk_below HA1.out hB2)
    clear hB2
    cases b2 with
    | true =>
      go_wp2_with fail
      go_ret
      obtain rfl : r = (s, true) := by rw [HR.out]; simp
      rw [HS.out]
      exact ⟨rfl, left_same HM.out HF.out HW2.out (by omega)⟩
    | false =>
      obtain ⟨v, hv, hrun⟩ := held_look (HM.out.held.kept (Kept.of_below (below_drew HW2.out) (fun _ => False)) (fun e => e)) HU.out
      have hc2 := (HM.out.kept (Kept.of_below (below_drew HW2.out) (fun _ => False)) (fun e => e) (fun e => e) (fun e => e)).c2
      have hca : w2.drew.cell? ⟨w.heap.size + 1, 4, none⟩ = some (.int .u64 a.f4) := (ans_cells HA2.out).2.2.2.2.1
      rw [← HB3.out] at hrun
      have HV := Lib.hid hv
      clear hv
      go_upto_region 13 with fail
      go_region_held3 (fun w' => w'.cell? ⟨gp, 2, none⟩ = some (.map (some bh)) ∧ w'.cell? ⟨w.heap.size + 1, 4, none⟩ = some (.int .u64 a.f4) ∧ (Instr.lookup 98 (.map (some bh)) (.int .u64 a.f4) true).run Try.prog w' = .ok (.tuple #[v, .bool b3]) w')
        (first | go_keep | exact ⟨hc2, hca, hrun⟩)
        (first | fail | fail)
      clear hc2 hca hrun
      have hA2 : w2.drew.heap[w.heap.size + 1]? = some (.cells (ansC a.f0 a.f1 a.f2 a.f3 a.f4 (.slice B a.f5.length d) a.f6) 26 (0, 0)) := HA2.out
      have hlt2 : w.heap.size + 1 < w2.drew.heap.size := blk_lt hA2
      obtain ⟨p0, p1, p2, p3, p4, p5, p6⟩ := ans_cells hA2
      have HD2 := Lib.hid (below_drew HW2.out)
      clear HA1 HA2
      have HA2 := Lib.hid hA2
      clear hA2
      obtain ⟨W2, hW2⟩ : ∃ W2, W2 = w2.drew := ⟨_, rfl⟩
      rw [← hW2] at p0 p1 p2 p3 p4 p5 p6 HD2 HA2 hlt2 ⊢
      clear hW2
      cases b3 with
      | true =>
        go_wp2_with fail
        go_ret
        obtain rfl : r = (s, false) := by rw [HR.out]; simp
        rw [HS.out]
        exact ⟨rfl, left_same HM.out HF.out HD2.out (by omega)⟩
      | false =>
        cases h0 : (a.f4 == 0) with
        | true =>
          go_wp2_with fail
          go_ret
          obtain rfl : r = (s, false) := by rw [HR.out]; simp [h0]
          rw [HS.out]
          exact ⟨rfl, left_same HM.out HF.out HD2.out (by omega)⟩
        | false =>
          have hcS := sameAns_c a ⟨0, false, 0, false, a.f4, [], 0⟩ B none d 0 W2 (HC.out W2 (Kept.of_below HD2.out _)) hd (Kd.C_nil _ _) (Nat.le_refl _) hm
          rw [← HB5.out] at hcS
          cases b5 with
          | false =>
            go_wp2_with (go_at_call 12; refine hcS.mono ?_; rintro e w3 ⟨rfl, hB3⟩; have HD3 := Lib.hid (HD2.out.trans (hB3.mono HD2.out.size)); clear hB3)
            go_ret
            obtain rfl : r = (s, false) := by rw [HR.out]; simp [h0]
            rw [HS.out]
            exact ⟨rfl, left_same HM.out HF.out HD3.out (by omega)⟩
          | true =>
            go_wp2_with (first
              | (go_at_call 12; refine hcS.mono ?_; rintro e w3 ⟨rfl, hB3⟩; have HD3 := Lib.hid (HD2.out.trans (hB3.mono HD2.out.size)); have p43 : w3.cell? ⟨w.heap.size + 1, 4, none⟩ = some (.int .u64 a.f4) := (cell_below hB3 hlt2).trans p4; clear hB3)
              | (go_at_call 36; refine (snapshot_c f N gp bn bh multi now held a.f4 w3 (HM.out.kept (Kept.of_below HD3.out (fun _ => False)) (fun e => e) (fun e => e) (fun e => e)) (HF.out.kept (Kept.of_below HD3.out (fun _ => False)) (fun _ _ _ e => e)) HU.out (by omega)).mono ?_; rintro e w4 ⟨rfl, hL4⟩; have HL4 := Lib.hid (hL4.base HD3.out (fun k e => (.inr e : k = bn ∨ k = bh))); clear hL4; rw [show snapAns a.f4 held = ansV 0 false 0 false a.f4 (.slice none 0 0) 0 by unfold snapAns; rw [← HB3.out]; rfl]))
            go_ret
            obtain rfl : r = (⟨multi, now, snapHeld a.f4 now held⟩, true) := by rw [HR.out]; simp [h0]
            obtain ⟨f', hE, hP, hF, hK⟩ := HL4.out
            exact ⟨rfl, f', hE, hP.mono (by omega), hF.mono (by omega), hK⟩
end Go.Proofs.Ytngocadnbpdnoaa.Mo
-- Written by a program of this session over the kit's print.py, which was handed contracts that were proved by hand. Lean checks it.
namespace Go.Proofs.Ytngocadnbpdnoaa.Q
open Go.RowKit Go.Proofs.YtngocadnbpdnoaaW.PrintWords Go.Proofs.YtngocadnbpdnoaaW.PrintLast Go.Proofs.YtngocadnbpdnoaaW.PrintMore
attribute [local go_sem] max2_int min2_int max_two min_two max_three min_three max_four min_four   -- for this text's walks alone
set_option linter.unusedVariables false
set_option linter.unusedSimpArgs false

attribute [local go_sem high] eqA90
/-! ### shuttermem_SamePairs: function 18 -/
def shuttermem_SamePairs.l0 : Nat → List (S90) → List (S90) → Int → Option (Bool)
  | 0, _, _, _ => none
  | k + 1, x0, x1, x5 => if x5 < (x0.length : Int) then (if 0 ≤ x5 then (if x5 < (x1.length : Int) then (if (!(((rd_T90 x0 x5).f0) == ((rd_T90 x1 x5).f0)) || (!(((rd_T90 x0 x5).f1) == ((rd_T90 x1 x5).f1)))) = true then (some false) else (shuttermem_SamePairs.l0 k x0 x1 (wrap64 (x5 + 1)))) else (none)) else (none)) else (some true)
def shuttermem_SamePairs.f (k : Nat) (l0 : List (S90)) (l1 : List (S90)) : Option (Bool) := if (l0.length : Int) = (l1.length : Int) then (shuttermem_SamePairs.l0 k l0 l1 0) else (some false)
theorem shuttermem_SamePairs.mono_l : ∀ k, (∀ y0 y1 y2, LeO (shuttermem_SamePairs.l0 k y0 y1 y2) (shuttermem_SamePairs.l0 (k + 1) y0 y1 y2))
  | 0 => fun _ _ _ r h => by simp [shuttermem_SamePairs.l0] at h
  | k + 1 => by
    have ih0 := shuttermem_SamePairs.mono_l k
    · intro y0 y1 y2
      unfold shuttermem_SamePairs.l0
      repeat' first
      | (with_reducible exact ih0 _ _ _)
      | (with_reducible exact LeO.refl _)
      | (with_reducible exact LeO.none _)
      | (with_reducible refine LeO.ite ?_ ?_)
      | (with_reducible refine LeO.bind ?_ (fun _ => ?_))
      | exact ih0 _ _ _
      | exact LeO.none _
      | refine LeO.ite ?_ ?_
      | refine LeO.bind ?_ (fun _ => ?_)
theorem shuttermem_SamePairs.mono : ∀ a0 a1 k, LeO (shuttermem_SamePairs.f k a0 a1) (shuttermem_SamePairs.f (k + 1) a0 a1) := by
  intro a0 a1 k
  have ih0 := shuttermem_SamePairs.mono_l k
  unfold shuttermem_SamePairs.f
  repeat' first
      | (with_reducible exact ih0 _ _ _)
      | (with_reducible exact LeO.refl _)
      | (with_reducible exact LeO.none _)
      | (with_reducible refine LeO.ite ?_ ?_)
      | (with_reducible refine LeO.bind ?_ (fun _ => ?_))
      | exact ih0 _ _ _
      | exact LeO.none _
      | refine LeO.ite ?_ ?_
      | refine LeO.bind ?_ (fun _ => ?_)
set_option maxHeartbeats 8000000 in
set_option maxRecDepth 100000 in
theorem shuttermem_SamePairs.calls (k : Nat) (A0 : Option Addr) (c0 : Nat) (l0 : List (S90)) (A1 : Option Addr) (c1 : Nat) (l1 : List (S90)) (r : Bool) (w : World) (hr0 : Kd.C k90 w A0 l0.length l0) (hc0 : l0.length ≤ c0) (hr1 : Kd.C k90 w A1 l1.length l1) (hc1 : l1.length ≤ c1) (h : shuttermem_SamePairs.f k l0 l1 = some r) :
    Calls Try.prog 18 #[.slice A0 l0.length c0, .slice A1 l1.length c1] w fun e w' => e = .returned (.bool r) ∧ Drawn0 w w' := by
  have hu90 := Try.underlying90
  have HR0 := Aside0.mk hr0
  have HC0 := Aside0.mk hc0
  clear hr0 hc0
  have HR1 := Aside0.mk hr1
  have HC1 := Aside0.mk hc1
  clear hr1 hc1
  have H : (if (l0.length : Int) = (l1.length : Int) then (shuttermem_SamePairs.l0 k l0 l1 0) else (some false)) = some r := h
  clear h
  by_cases c3 : (l0.length : Int) = (l1.length : Int)
  · rw [if_pos c3] at H
    have c3b0 : ((l0.length : Int) == (l1.length : Int)) = true := beq_iff_eq.mpr c3
    have c3b1 : ((l0.length : Int) != (l1.length : Int)) = false := bne_eq_false_iff_eq.mpr c3
    have c3b2 : (l0.length == l1.length) = true := by first | simpa using c3 | (simp at c3 ⊢; omega)
    clear c3
    have H' := Aside0.mk H
    clear H
    go_enter Try.func18, Try.ntmps18
    go_wp2
    repeat (go_quiet (fail); try go_wp2)
    go_loopg [5] k (fun kq v5 w' => ∃ (x5_1 : Int), v5 = .int .i64 x5_1 ∧ Aside0 (shuttermem_SamePairs.l0 kq l0 l1 x5_1 = some r) ∧ Aside0 (kq ≤ k) ∧ Drawn0 w w')
    case atStart => exact ⟨(0), (by first | rfl | (simp; done) | (simp [*]; done)), H', ⟨Nat.le_refl _⟩, by repeat (first | exact Drawn0.refl _ | apply Drawn0.step)⟩
    case round =>
      clear H'
      try clear c1
      try clear p2
      try clear c3
      try clear c3b0
      try clear c3b1
      try clear c3b2
      obtain ⟨x5_1, rfl, HA, HK1, ⟨m1, rfl⟩⟩ := hrel
      cases gk with
      | zero => exact absurd HA.out (by simp [shuttermem_SamePairs.l0])
      | succ k1 =>
        have H := HA.out
        clear HA
        simp only [shuttermem_SamePairs.l0] at H
        by_cases c4 : x5_1 < (l0.length : Int)
        · rw [if_pos c4] at H
          have c4b0 : decide (x5_1 < (l0.length : Int)) = true := decide_eq_true c4
          clear c4
          by_cases c5 : 0 ≤ x5_1
          · rw [if_pos c5] at H
            have c5b0 : decide (0 ≤ x5_1) = true := decide_eq_true c5
            clear c5
            by_cases c6 : x5_1 < (l1.length : Int)
            · rw [if_pos c6] at H
              have c6b0 : decide (x5_1 < (l1.length : Int)) = true := decide_eq_true c6
              clear c6
              by_cases c7 : (!(((rd_T90 l0 x5_1).f0) == ((rd_T90 l1 x5_1).f0)) || (!(((rd_T90 l0 x5_1).f1) == ((rd_T90 l1 x5_1).f1)))) = true
              · rw [if_pos c7] at H
                have c7b0 : (!(((rd_T90 l0 x5_1).f0) == ((rd_T90 l1 x5_1).f0)) || (!(((rd_T90 l0 x5_1).f1) == ((rd_T90 l1 x5_1).f1)))) = true := c7
                clear c7
                obtain rfl := Option.some.inj H
                have p111 : 0 ≤ (x5_1 : Int) := of_decide_eq_true (by first | (with_reducible assumption) | assumption)
                have q111 : x5_1 < (l0.length : Int) := of_decide_eq_true (by first | (with_reducible assumption) | assumption)
                obtain ⟨ad111, e111, hx111_0, hx111_1⟩ := at_T90 HR0.out x5_1 p111 q111
                cases e111
                replace p111 := eq_true p111
                replace q111 := eq_true q111
                have p112 : 0 ≤ (x5_1 : Int) := of_decide_eq_true (by first | (with_reducible assumption) | assumption)
                have q112 : x5_1 < (l1.length : Int) := of_decide_eq_true (by first | (with_reducible assumption) | assumption)
                obtain ⟨ad112, e112, hx112_0, hx112_1⟩ := at_T90 HR1.out x5_1 p112 q112
                cases e112
                replace p112 := eq_true p112
                replace q112 := eq_true q112
                go_wp2
                repeat (go_quiet (fail); try go_wp2)
                go_ret
                exact ⟨by first | rfl | (simp; done) | (simp [*]; done), by repeat (first | exact Drawn0.refl _ | apply Drawn0.step)⟩
              · rw [if_neg c7] at H
                have c7b0 : (!(((rd_T90 l0 x5_1).f0) == ((rd_T90 l1 x5_1).f0)) || (!(((rd_T90 l0 x5_1).f1) == ((rd_T90 l1 x5_1).f1)))) = false := by simpa using c7
                clear c7
                have H' := Aside0.mk H
                clear H
                have p111 : 0 ≤ (x5_1 : Int) := of_decide_eq_true (by first | (with_reducible assumption) | assumption)
                have q111 : x5_1 < (l0.length : Int) := of_decide_eq_true (by first | (with_reducible assumption) | assumption)
                obtain ⟨ad111, e111, hx111_0, hx111_1⟩ := at_T90 HR0.out x5_1 p111 q111
                cases e111
                replace p111 := eq_true p111
                replace q111 := eq_true q111
                have p112 : 0 ≤ (x5_1 : Int) := of_decide_eq_true (by first | (with_reducible assumption) | assumption)
                have q112 : x5_1 < (l1.length : Int) := of_decide_eq_true (by first | (with_reducible assumption) | assumption)
                obtain ⟨ad112, e112, hx112_0, hx112_1⟩ := at_T90 HR1.out x5_1 p112 q112
                cases e112
                replace p112 := eq_true p112
                replace q112 := eq_true q112
                go_wp2
                repeat (go_quiet (fail); try go_wp2)
                go_roundg k1
                case measure => have := HK1.out; omega
                case rel => exact ⟨(wrap64 (x5_1 + 1)), (by first | rfl | (simp; done) | (simp [*]; done)), H', ⟨by have := HK1.out; omega⟩, by repeat (first | exact Drawn0.refl _ | apply Drawn0.step)⟩
            · rw [if_neg c6] at H
              exact absurd H (by simp)
          · rw [if_neg c5] at H
            exact absurd H (by simp)
        · rw [if_neg c4] at H
          have c4b0 : decide (x5_1 < (l0.length : Int)) = false := decide_eq_false c4
          clear c4
          obtain rfl := Option.some.inj H
          go_wp2
          repeat (go_quiet (fail); try go_wp2)
          go_ret
          exact ⟨by first | rfl | (simp; done) | (simp [*]; done), by repeat (first | exact Drawn0.refl _ | apply Drawn0.step)⟩
  · rw [if_neg c3] at H
    have c3b0 : ((l0.length : Int) == (l1.length : Int)) = false := beq_eq_false_iff_ne.mpr c3
    have c3b1 : ((l0.length : Int) != (l1.length : Int)) = true := bne_iff_ne.mpr c3
    have c3b2 : (l0.length == l1.length) = false := by first | simpa using c3 | (simp at c3 ⊢; omega)
    obtain rfl := Option.some.inj H
    go_enter Try.func18, Try.ntmps18
    go_wp2
    repeat (go_quiet (fail); try go_wp2)
    go_ret
    exact ⟨by first | rfl | (simp; done) | (simp [*]; done), by repeat (first | exact Drawn0.refl _ | apply Drawn0.step)⟩

end Go.Proofs.Ytngocadnbpdnoaa.Q
namespace Go.Proofs.Ytngocadnbpdnoaa.Mo
open Go Go.Maps Go.RowKit Go.Proofs.Ytngocadnbpdnoaa.Srt Go.Proofs.Ytngocadnbpdnoaa.Q Go.Proofs.YtngocadnbpdnoaaW.PrintWords Go.Proofs.YtngocadnbpdnoaaW.PrintLast Go.Proofs.YtngocadnbpdnoaaW.PrintMore
set_option linter.unusedVariables false
set_option linter.unusedSimpArgs false
/-! The plain law of ModelKeys. -/
def dk (now : PL) (o : OpS) : PL := if o.f0 = 2 then put now o.f1 o.f2 else if o.f0 = 3 then del now o.f1 else if fnd now o.f1 = some o.f3 then put now o.f1 o.f2 else now
def isK (o : OpS) : Prop := 2 ≤ o.f0 ∧ o.f0 ≤ 4
instance (o : OpS) : Decidable (isK o) := by unfold isK; infer_instance
def selK (d : Int) (o : OpS) : Prop := isK o ∧ o.f1.tmod 2 = d
instance (d : Int) (o : OpS) : Decidable (selK d o) := by unfold selK; infer_instance
def runA (s : PL) (l : List OpS) : PL := l.foldl (fun s o => if isK o then dk s o else s) s
def runB (d : Int) (s : PL) (l : List OpS) : PL := l.foldl (fun s o => if selK d o then dk s o else s) s
def eff (v : Option Int) (o : OpS) : Option Int := if o.f0 = 2 then some o.f2 else if o.f0 = 3 then none else if v = some o.f3 then some o.f2 else v
def effs (k : Int) (v : Option Int) (l : List OpS) : Option Int := l.foldl (fun v o => if isK o ∧ o.f1 = k then eff v o else v) v
theorem fnd_dk (s : PL) (o : OpS) (k : Int) : fnd (dk s o) k = if o.f1 = k then eff (fnd s k) o else fnd s k := by
  unfold dk eff
  by_cases hk : o.f1 = k
  · subst hk
    rw [if_pos rfl]
    split
    · rw [fnd_put_same]
    · split
      · rw [fnd_del_same]
      · split
        · rw [fnd_put_same]
        · rfl
  · rw [if_neg hk]
    split
    · rw [fnd_put_other _ _ _ (Ne.symm hk)]
    · split
      · rw [fnd_del_other _ _ (Ne.symm hk)]
      · split
        · rw [fnd_put_other _ _ _ (Ne.symm hk)]
        · rfl
theorem asc_dk {s : PL} (h : Asc s) (o : OpS) : Asc (dk s o) := by
  unfold dk
  split
  · exact asc_put h _ _
  · split
    · exact asc_del h _
    · split
      · exact asc_put h _ _
      · exact h
theorem fnd_runA (k : Int) : ∀ (l : List OpS) (s : PL), fnd (runA s l) k = effs k (fnd s k) l
  | [], s => rfl
  | o :: l, s => by
    show fnd (runA (if isK o then dk s o else s) l) k = effs k (if isK o ∧ o.f1 = k then eff (fnd s k) o else fnd s k) l
    rw [fnd_runA k l]
    congr 1
    by_cases h1 : isK o
    · rw [if_pos h1, fnd_dk]
      by_cases h2 : o.f1 = k <;> simp [h1, h2]
    · simp [h1]
theorem fnd_runB (d k : Int) : ∀ (l : List OpS) (s : PL), fnd (runB d s l) k = if k.tmod 2 = d then effs k (fnd s k) l else fnd s k
  | [], s => by simp [runB, effs]
  | o :: l, s => by
    show fnd (runB d (if selK d o then dk s o else s) l) k = if k.tmod 2 = d then effs k (if isK o ∧ o.f1 = k then eff (fnd s k) o else fnd s k) l else fnd s k
    rw [fnd_runB d k l]
    by_cases h1 : isK o
    · by_cases h2 : o.f1 = k
      · subst h2
        by_cases h3 : o.f1.tmod 2 = d
        · rw [if_pos h3, if_pos h3, if_pos ⟨h1, h3⟩, if_pos ⟨h1, rfl⟩, fnd_dk, if_pos rfl]
        · rw [if_neg h3, if_neg h3, if_neg (fun e => h3 e.2)]
      · have e : fnd (if selK d o then dk s o else s) k = fnd s k := by
          split
          · rw [fnd_dk, if_neg h2]
          · rfl
        rw [e, show (if isK o ∧ o.f1 = k then eff (fnd s k) o else fnd s k) = fnd s k from if_neg (fun e => h2 e.2)]
    · rw [if_neg (fun e : selK d o => h1 e.1), show (if isK o ∧ o.f1 = k then eff (fnd s k) o else fnd s k) = fnd s k from if_neg (fun e => h1 e.1)]
theorem effs_none {k : Int} : ∀ (l : List OpS) (v : Option Int), (∀ o ∈ l, o.f1 ≠ k) → effs k v l = v
  | [], v, _ => rfl
  | o :: l, v, h => by
    show effs k (if isK o ∧ o.f1 = k then eff v o else v) l = v
    rw [if_neg (fun e => h o (by simp) e.2)]
    exact effs_none l v (fun o ho => h o (by simp [ho]))
theorem asc_run (g : OpS → Prop) [DecidablePred g] : ∀ (l : List OpS) (s : PL), Asc s → Asc (l.foldl (fun s o => if g o then dk s o else s) s)
  | [], s, h => h
  | o :: l, s, h => by
    refine asc_run g l _ ?_
    show Asc (if g o then dk s o else s)
    split
    · exact asc_dk h _
    · exact h
theorem keys_law (l : List OpS) (hl : ∀ o ∈ l, 0 ≤ o.f1) : runA [] l = runB 1 (runB 0 [] l) l := by
  have a1 : Asc (runA [] l) := asc_run _ l [] List.Pairwise.nil
  have a2 : Asc (runB 0 [] l) := asc_run _ l [] List.Pairwise.nil
  have a3 : Asc (runB 1 (runB 0 [] l) l) := asc_run _ l _ a2
  refine asc_ext a1 a3 (fun k => ?_)
  rw [fnd_runA, fnd_runB, fnd_runB]
  by_cases hk : 0 ≤ k
  · rcases (show k.tmod 2 = 0 ∨ k.tmod 2 = 1 by rw [Int.tmod_eq_emod_of_nonneg hk]; omega) with h | h
    · rw [if_neg (by rw [h]; decide), if_pos h]
    · rw [if_pos h, if_neg (by rw [h]; decide)]
  · have z : effs k none l = none := effs_none l none (fun o ho e => by have := hl o ho; omega)
    simp only [fnd_nil, z]
    split <;> split <;> first | rfl | exact z.symm
theorem runA_succ (l : List OpS) (i : Nat) (h : i < l.length) : runA [] (l.take (i + 1)) = if isK l[i] then dk (runA [] (l.take i)) l[i] else runA [] (l.take i) := by
  rw [runA, runA, List.take_succ_eq_append_getElem h, List.foldl_append]; rfl
theorem runB_succ (d : Int) (s : PL) (l : List OpS) (i : Nat) (h : i < l.length) : runB d s (l.take (i + 1)) = if selK d l[i] then dk (runB d s (l.take i)) l[i] else runB d s (l.take i) := by
  rw [runB, runB, List.take_succ_eq_append_getElem h, List.foldl_append]; rfl
/-- Do of these kinds. -/
theorem do_kv (f : Nat → Option PL) (N gp bn bh : Nat) (multi : Int) (now : PL) (held : List (Int × PL)) (o : OpS) (A : Option Addr) (c : Nat) (w : World) (hM : PM w f N gp bn bh multi now held) (hF : Fro w f N) (hO : OpWf o) (hN : N ≤ 1099511627776) (hk : isK o) :
    Calls Try.prog 15 #[.pointer (some ⟨gp, 0, none⟩), .agg (opC o A c), .int .u64 0] w fun e w' => ∃ v, e = .returned v ∧ Left w w' f (N + 1) gp bn bh multi (dk now o) held (fun k => k = bn ∨ k = bh) := by
  have h0 : u64wf 0 := by unfold u64wf; decide
  have h3 : o.f0 = 2 ∨ o.f0 = 3 ∨ o.f0 = 4 := by unfold isK at hk; omega
  rcases h3 with h | h | h
  · refine (do_put f N gp bn bh multi now held o A c 0 w hM hF hO h0 hN h).mono fun e w' ⟨ps, he, hR, hL⟩ => ⟨_, he, ?_⟩
    have : dk now o = put now o.f1 o.f2 := by unfold dk; rw [if_pos h]
    rw [this]; exact hL
  · refine (do_del f N gp bn bh multi now held o A c 0 w hM hF hO h0 hN h).mono fun e w' ⟨ps, he, hR, hL⟩ => ⟨_, he, ?_⟩
    have : dk now o = del now o.f1 := by unfold dk; rw [if_neg (by omega), if_pos h]
    rw [this]; exact hL
  · by_cases hx : fnd now o.f1 = some o.f3
    · refine (do_swapY f N gp bn bh multi now held o A c 0 w hM hF hO h0 hN h hx).mono fun e w' ⟨ps, he, hR, hL⟩ => ⟨_, he, ?_⟩
      have : dk now o = put now o.f1 o.f2 := by unfold dk; rw [if_neg (by omega), if_neg (by omega), if_pos hx]
      rw [this]; exact hL
    · refine (do_swapN f N gp bn bh multi now held o A c 0 w hM hF hO h0 hN h hx).mono fun e w' ⟨ps, he, hR, hL⟩ => ⟨_, he, ?_⟩
      have : dk now o = now := by unfold dk; rw [if_neg (by omega), if_neg (by omega), if_neg hx]
      rw [this]; exact hL
theorem samM_l0 (x0 x1 : List SP) (hl : x0.length = x1.length) (hm : x0.length ≤ 4398046511104) : ∀ m i : Nat, i + m = x0.length → shuttermem_SamePairs.l0 (m + 1) x0 x1 (i : Int) = some (decide (x0.drop i = x1.drop i))
  | 0, i, e => by
    unfold shuttermem_SamePairs.l0
    rw [if_neg (by omega)]
    rw [List.drop_eq_nil_of_le (by omega), List.drop_eq_nil_of_le (by omega)]; simp
  | m + 1, i, e => by
    unfold shuttermem_SamePairs.l0
    have h0 : i < x0.length := by omega
    have h1 : i < x1.length := by omega
    rw [if_pos (by omega), if_pos (by omega), if_pos (by omega), rd_get h0, rd_get h1]
    by_cases hd : x0[i] = x1[i]
    · rw [if_neg (by rw [pair_ne]; simpa using hd), show wrap64 ((i : Int) + 1) = ((i + 1 : Nat) : Int) by unfold wrap64; omega, samM_l0 x0 x1 hl hm m (i + 1) (by omega)]
      simp [drop_iff h0 h1, hd]
    · rw [if_pos (pair_ne.2 hd)]
      simp [drop_iff h0 h1, hd]
theorem samM_f (x0 x1 : List SP) (hm : x0.length ≤ 4398046511104) : ∃ k, shuttermem_SamePairs.f k x0 x1 = some (decide (x0 = x1)) := by
  unfold shuttermem_SamePairs.f
  by_cases hl : x0.length = x1.length
  · exact ⟨x0.length + 1, by rw [if_pos (by omega)]; simpa using samM_l0 x0 x1 hl hm x0.length 0 (by omega)⟩
  · exact ⟨0, by rw [if_neg (by omega)]; simp; intro e; exact hl (by rw [e])⟩
theorem samM_c (x y : List SP) (A B : Option Addr) (c d : Nat) (w : World) (hA : Kd.C k90 w A x.length x) (hc : x.length ≤ c) (hB : Kd.C k90 w B y.length y) (hd : y.length ≤ d) (hm : x.length ≤ 4398046511104) :
    Calls Try.prog 18 #[.slice A x.length c, .slice B y.length d] w fun e w' => e = .returned (.bool (decide (x = y))) ∧ Below w.heap.size w w' := by
  obtain ⟨k, hk⟩ := samM_f x y hm
  exact (shuttermem_SamePairs.calls k A c x B d y _ w hA hc hB hd hk).mono fun e w' ⟨he, hb⟩ => ⟨he, hb.below⟩
theorem heapOp : Kd.Heap k39 := Kd.heap_iso _ (Kd.heap_pair (Kd.heap_int _) (Kd.heap_pair (Kd.heap_int _) (Kd.heap_pair (Kd.heap_int _) (Kd.heap_pair (Kd.heap_int _) (Kd.heap_pair (Kd.heap_int _) (Kd.heap_pair (Kd.heap_iso _ (Kd.heap_pair Kd.heap_bool (Kd.heap_pair (Kd.heap_int _) (Kd.heap_int _)))) (Kd.heap_pair (Kd.heap_slice _ (Kd.heap_int _)) (Kd.heap_pair (Kd.heap_int _) (Kd.heap_int _)))))))))
theorem rdO_get {xs : List OpS} {i : Nat} (h : i < xs.length) : rd_T39 xs (i : Int) = xs[i] := by
  unfold rd_T39
  simp [List.getD_eq_getElem?_getD, h]
/-- Two models in one world. -/
structure Two (w wr : World) (f : Nat → Option PL) (N ga na ha gb nb hb : Nat) (m : Int) (now now2 : PL) : Prop where
  a : PM wr f N ga na ha m now []
  b : PM wr f N gb nb hb m now2 []
  fro : Fro wr f N
  ko : KO w wr (fun _ => False)
theorem Two.stepA {w wr w1 : World} {f : Nat → Option PL} {N ga na ha gb nb hb : Nat} {m : Int} {now now' now2 : PL} (h : Two w wr f N ga na ha gb nb hb m now now2) (hL : Left wr w1 f (N + 1) ga na ha m now' [] (fun k => k = na ∨ k = ha)) (h1 : w.heap.size ≤ na) (h2 : w.heap.size ≤ ha) (h3 : gb ≠ na ∧ gb ≠ ha ∧ nb ≠ na ∧ nb ≠ ha ∧ hb ≠ na ∧ hb ≠ ha) : ∃ f', Two w w1 f' (N + 1) ga na ha gb nb hb m now' now2 := by
  obtain ⟨f', hE, hP, hF, hK⟩ := hL
  exact ⟨f', hP, ((h.b.kept hK.kept (by omega) (by omega) (by omega)).ext hE h.b.now.lt h.b.held.1.lt).mono (Nat.le_succ N), hF, h.ko.then_ hK (fun k e => .inr (by omega))⟩
theorem Two.stepB {w wr w1 : World} {f : Nat → Option PL} {N ga na ha gb nb hb : Nat} {m : Int} {now now' now2 : PL} (h : Two w wr f N ga na ha gb nb hb m now now2) (hL : Left wr w1 f (N + 1) gb nb hb m now' [] (fun k => k = nb ∨ k = hb)) (h1 : w.heap.size ≤ nb) (h2 : w.heap.size ≤ hb) (h3 : ga ≠ nb ∧ ga ≠ hb ∧ na ≠ nb ∧ na ≠ hb ∧ ha ≠ nb ∧ ha ≠ hb) : ∃ f', Two w w1 f' (N + 1) ga na ha gb nb hb m now now' := by
  obtain ⟨f', hE, hP, hF, hK⟩ := hL
  exact ⟨f', ((h.a.kept hK.kept (by omega) (by omega) (by omega)).ext hE h.a.now.lt h.a.held.1.lt).mono (Nat.le_succ N), hP, hF, h.ko.then_ hK (fun k e => .inr (by omega))⟩
theorem Two.mono {w wr : World} {f : Nat → Option PL} {N N' ga na ha gb nb hb : Nat} {m : Int} {now now2 : PL} (h : Two w wr f N ga na ha gb nb hb m now now2) (hn : N ≤ N') : Two w wr f N' ga na ha gb nb hb m now now2 := ⟨h.a.mono hn, h.b.mono hn, h.fro.mono hn, h.ko⟩
theorem Two.below {w wr W : World} {f : Nat → Option PL} {N ga na ha gb nb hb : Nat} {m : Int} {now now2 : PL} (h : Two w wr f N ga na ha gb nb hb m now now2) (hB : Below wr.heap.size wr W) : Two w W f N ga na ha gb nb hb m now now2 :=
  ⟨h.a.kept (Kept.of_below hB (fun _ => False)) (fun e => e) (fun e => e) (fun e => e), h.b.kept (Kept.of_below hB (fun _ => False)) (fun e => e) (fun e => e) (fun e => e), h.fro.kept (Kept.of_below hB (fun _ => False)) (fun _ _ _ e => e), h.ko.below hB⟩
theorem heapP : Kd.Heap k90 := Kd.heap_iso _ (Kd.heap_pair (Kd.heap_int _) (Kd.heap_int _))
theorem toS_asc {s : PL} (h : Asc s) (m : Nat) (hm : m + 1 < (toS s).length) : (rd_T90 (toS s) (m : Int)).f0 < (rd_T90 (toS s) ((m + 1 : Nat) : Int)).f0 := by
  rw [rd_get (by omega), rd_get hm]
  have h1 : m + 1 < s.length := by rw [toS_length] at hm; exact hm
  have := List.pairwise_iff_getElem.1 h m (m + 1) (by omega) h1 (by omega)
  simpa [toS] using this
set_option maxRecDepth 100000 in
set_option maxHeartbeats 16000000 in
theorem keys_c (w : World) (A : Option Addr) (c : Nat) (l : List OpS) (hC0 : Kd.C k39 w A l.length l) (hc : l.length ≤ c) (hwf : ∀ o ∈ l, OpWf o) (hn : l.length ≤ 1048576) :
    Calls Try.prog 8 #[.slice A l.length c] w fun e w' => e = .returned (.bool true) ∧ Below w.heap.size w w' := by
  have cL := live_c w
  have HC0 := Lib.hid hC0
  have HWF := Lib.hid hwf
  clear hC0 hwf
  go_enter Try.func8, Try.ntmps8
  go_upto_region 3 with (go_at_call 11; refine cL.mono ?_; rintro e w0 ⟨rfl, hB0⟩)
  clear cL
  have HB0 := Lib.hid hB0
  clear hB0
  go_upto_region 4 with (go_at_call 14; refine (new_c 1 (fun _ => none) w0 (fro_none w0 0) (by omega) (by omega)).mono ?_; rintro e w1 ⟨ga, na, ha, rfl, hP1, hB1, hga, hna, hha⟩; have HP1 := Lib.hid hP1; have HB1 := Lib.hid hB1; clear hP1 hB1)
  go_upto_region 5 with (go_at_call 14; refine (new_c 1 (fun _ => none) w1 (fro_none w1 0) (by omega) (by omega)).mono ?_; rintro e w2 ⟨gb, nb, hb, rfl, hP2, hB2, hgb, hnb, hhb⟩; have HP2 := Lib.hid hP2; have HB2 := Lib.hid hB2; clear hP2 hB2)
  have hs0 := HB0.out.size
  have hs1 := HP1.out.gl
  have hs2 := HP1.out.now.lt
  have hs3 := HP1.out.held.1.lt
  have HT0 : Hid (Two w w2 (fun _ => none) 0 ga na ha gb nb hb 1 [] []) := Lib.hid ⟨HP1.out.kept (Kept.of_below HB2.out (fun _ => False)) (fun e => e) (fun e => e) (fun e => e), HP2.out, fro_none w2 0, ((KO.of_below HB0.out _).below HB1.out).below HB2.out⟩
  have hne1 : gb ≠ na ∧ gb ≠ ha ∧ nb ≠ na ∧ nb ≠ ha ∧ hb ≠ na ∧ hb ≠ ha := by omega
  have hne2 : ga ≠ nb ∧ ga ≠ hb ∧ na ≠ nb ∧ na ≠ hb ∧ ha ≠ nb ∧ ha ≠ hb := by omega
  have hle1 : w.heap.size ≤ na ∧ w.heap.size ≤ ha ∧ w.heap.size ≤ nb ∧ w.heap.size ≤ hb := by omega
  clear HB0 HP1 HB1 HP2 HB2
  go_wp2_with fail
  go_loopw [7] (fun v7 wr => ∃ (i : Nat) (f : Nat → Option PL), v7 = .int .i64 i ∧ i ≤ l.length ∧ Hid (Two w wr f i ga na ha gb nb hb 1 (runA [] (l.take i)) []))
    (fun v7 _ => l.length - (intOf v7).toNat)
  case atStart => exact ⟨0, _, rfl, Nat.zero_le _, HT0⟩
  case round =>
    obtain ⟨i, f, rfl, hi, HT⟩ := hrel
    by_cases hlt : i < l.length
    · obtain ⟨o, ho⟩ : ∃ o, o = l[i] := ⟨_, rfl⟩
      have HO : Hid (OpWf o) := Lib.hid (HWF.out o (by rw [ho]; exact List.getElem_mem hlt))
      obtain ⟨ad, A8, c8, rfl, x0, x1, x2, x3, x4, x5, x6, x7, x8, x9, x10, -⟩ := at_T39 (Kd.Heap.C heapOp (fun k hk => HT.out.ko.kept.2 k hk (fun e => e)) HC0.out) (i : Int) (by omega) (by omega)
      simp only [Int.toNat_natCast] at x0 x1 x2 x3 x4 x5 x6 x7 x8 x9 x10
      rw [rdO_get hlt, ← ho] at x0 x1 x2 x3 x4 x5 x6 x7 x8 x9 x10
      have HSU := Lib.hid (runA_succ l i hlt)
      rw [← ho] at HSU
      by_cases hk : isK o
      · have k1 : decide (2 ≤ o.f0) = true := decide_eq_true hk.1
        have k2 : decide (o.f0 ≤ 4) = true := decide_eq_true hk.2
        rw [if_pos hk] at HSU
        have HK := Lib.hid hk
        clear hk ho
        go_wp2_with (go_at_call 15; refine (do_kv f i ga na ha 1 (runA [] (l.take i)) [] o A8 c8 wr HT.out.a HT.out.fro HO.out (by omega) HK.out).mono ?_; rintro e w3 ⟨v, rfl, hL⟩; obtain ⟨f', hT'⟩ := HT.out.stepA hL hle1.1 hle1.2.1 hne1; have HT' := Lib.hid hT'; clear hT' hL)
        go_roundw
        case rel => exact ⟨i + 1, f', by go_num, by omega, Lib.hid (by rw [HSU.out]; exact HT'.out)⟩
        case measure => simp [intOf]; omega
      · rw [if_neg hk] at HSU
        have HT2 : Hid (Two w wr f (i + 1) ga na ha gb nb hb 1 (runA [] (l.take (i + 1))) []) := Lib.hid (by rw [HSU.out]; exact HT.out.mono (Nat.le_succ i))
        have hcase : (decide (2 ≤ o.f0) = false) ∨ (decide (2 ≤ o.f0) = true ∧ decide (o.f0 ≤ 4) = false) := by
          unfold isK at hk
          simp only [decide_eq_false_iff_not, decide_eq_true_eq]
          omega
        clear hk ho HSU HT
        rcases hcase with k1 | ⟨k1, k2⟩
        · go_wp2_with fail
          go_roundw
          case rel => exact ⟨i + 1, f, by go_num, by omega, HT2⟩
          case measure => simp [intOf]; omega
        · go_wp2_with fail
          go_roundw
          case rel => exact ⟨i + 1, f, by go_num, by omega, HT2⟩
          case measure => simp [intOf]; omega
    · obtain rfl : i = l.length := by omega
      have hT1 := HT.out
      rw [List.take_length] at hT1
      have HT1 := Lib.hid hT1
      clear HT HT0 hT1
      go_wp2_with fail
      go_loopw [8] (fun v8 wr => ∃ (d : Nat) (f : Nat → Option PL), v8 = .int .u64 d ∧ d ≤ 2 ∧ Hid (Two w wr f (l.length + d * l.length) ga na ha gb nb hb 1 (runA [] l) (if d = 0 then [] else if d = 1 then runB 0 [] l else runB 1 (runB 0 [] l) l)))
        (fun v8 _ => 2 - (intOf v8).toNat)
      case atStart => exact ⟨0, _, rfl, by omega, Lib.hid (by simpa using HT1.out)⟩
      case round =>
        obtain ⟨d, f2, rfl, hd, HT2⟩ := hrel
        by_cases hd2 : d < 2
        · obtain ⟨s, hs⟩ : ∃ s, s = (if d = 0 then [] else if d = 1 then runB 0 [] l else runB 1 (runB 0 [] l) l) := ⟨_, rfl⟩
          rw [← hs] at HT2
          have HS := Lib.hid hs
          clear hs
          have hdec : decide ((d : Int) < 2) = true := decide_eq_true (by omega)
          go_wp2_with fail
          go_loopw [9] (fun v9 wr => ∃ (i : Nat) (f : Nat → Option PL), v9 = .int .i64 i ∧ i ≤ l.length ∧ Hid (Two w wr f (l.length + d * l.length + i) ga na ha gb nb hb 1 (runA [] l) (runB d s (l.take i))))
            (fun v9 _ => l.length - (intOf v9).toNat)
          case atStart => exact ⟨0, _, rfl, Nat.zero_le _, HT2⟩
          case round =>
            obtain ⟨i, f, rfl, hi, HT⟩ := hrel
            by_cases hlt : i < l.length
            · obtain ⟨o, ho⟩ : ∃ o, o = l[i] := ⟨_, rfl⟩
              have HO : Hid (OpWf o) := Lib.hid (HWF.out o (by rw [ho]; exact List.getElem_mem hlt))
              obtain ⟨ad, A8, c8, rfl, x0, x1, x2, x3, x4, x5, x6, x7, x8, x9, x10, -⟩ := at_T39 (Kd.Heap.C heapOp (fun k hk => HT.out.ko.kept.2 k hk (fun e => e)) HC0.out) (i : Int) (by omega) (by omega)
              simp only [Int.toNat_natCast] at x0 x1 x2 x3 x4 x5 x6 x7 x8 x9 x10
              rw [rdO_get hlt, ← ho] at x0 x1 x2 x3 x4 x5 x6 x7 x8 x9 x10
              have HSU := Lib.hid (runB_succ d s l i hlt)
              rw [← ho] at HSU
              have hdl : l.length + d * l.length + i ≤ 1099511627776 := by have : d * l.length ≤ 1 * l.length := Nat.mul_le_mul_right _ (by omega); omega
              by_cases hk : isK o
              · have k1 : decide (2 ≤ o.f0) = true := decide_eq_true hk.1
                have k2 : decide (o.f0 ≤ 4) = true := decide_eq_true hk.2
                by_cases hq : o.f1.tmod 2 = (d : Int)
                · have k3 : (o.f1.tmod 2 == (d : Int)) = true := beq_iff_eq.2 hq
                  rw [if_pos ⟨hk, hq⟩] at HSU
                  have HK := Lib.hid hk
                  clear hk ho hq
                  go_wp2_with (go_at_call 15; refine (do_kv f (l.length + d * l.length + i) gb nb hb 1 (runB d s (l.take i)) [] o A8 c8 wr HT.out.b HT.out.fro HO.out hdl HK.out).mono ?_; rintro e w3 ⟨v, rfl, hL⟩; obtain ⟨f', hT'⟩ := HT.out.stepB hL hle1.2.2.1 hle1.2.2.2 hne2; have HT' := Lib.hid hT'; clear hT' hL)
                  go_roundw
                  case rel => exact ⟨i + 1, f', by go_num, by omega, Lib.hid (by rw [HSU.out]; exact HT'.out)⟩
                  case measure => simp [intOf]; omega
                · have k3 : (o.f1.tmod 2 == (d : Int)) = false := beq_eq_false_iff_ne.2 hq
                  rw [if_neg (fun e => hq e.2)] at HSU
                  have HT3 : Hid (Two w wr f (l.length + d * l.length + (i + 1)) ga na ha gb nb hb 1 (runA [] l) (runB d s (l.take (i + 1)))) := Lib.hid (by rw [HSU.out]; exact HT.out.mono (Nat.le_succ _))
                  clear hk ho HSU HT hq
                  go_wp2_with fail
                  go_roundw
                  case rel => exact ⟨i + 1, f, by go_num, by omega, HT3⟩
                  case measure => simp [intOf]; omega
              · rw [if_neg (fun e : selK d o => hk e.1)] at HSU
                have HT3 : Hid (Two w wr f (l.length + d * l.length + (i + 1)) ga na ha gb nb hb 1 (runA [] l) (runB d s (l.take (i + 1)))) := Lib.hid (by rw [HSU.out]; exact HT.out.mono (Nat.le_succ _))
                have hcase : (decide (2 ≤ o.f0) = false) ∨ (decide (2 ≤ o.f0) = true ∧ decide (o.f0 ≤ 4) = false) := by
                  unfold isK at hk
                  simp only [decide_eq_false_iff_not, decide_eq_true_eq]
                  omega
                clear hk ho HSU HT
                rcases hcase with k1 | ⟨k1, k2⟩
                · go_wp2_with fail
                  go_roundw
                  case rel => exact ⟨i + 1, f, by go_num, by omega, HT3⟩
                  case measure => simp [intOf]; omega
                · go_wp2_with fail
                  go_roundw
                  case rel => exact ⟨i + 1, f, by go_num, by omega, HT3⟩
                  case measure => simp [intOf]; omega
            · obtain rfl : i = l.length := by omega
              have hT1 := HT.out
              rw [List.take_length] at hT1
              have HT4 : Hid (Two w wr f (l.length + (d + 1) * l.length) ga na ha gb nb hb 1 (runA [] l) (if d + 1 = 0 then [] else if d + 1 = 1 then runB 0 [] l else runB 1 (runB 0 [] l) l)) := Lib.hid (by
                have e1 : l.length + (d + 1) * l.length = l.length + d * l.length + l.length := by rw [Nat.succ_mul]; omega
                rw [e1]
                have e2 : (if d + 1 = 0 then [] else if d + 1 = 1 then runB 0 [] l else runB 1 (runB 0 [] l) l) = runB d s l := by
                  rw [HS.out]
                  rcases (show d = 0 ∨ d = 1 by omega) with rfl | rfl <;> rfl
                rw [e2]
                exact hT1)
              clear HT hT1
              go_wp2_with fail
              go_roundw
              case rel => exact ⟨d + 1, f, by go_num, by omega, HT4⟩
              case measure => simp [intOf]; omega
        · obtain rfl : d = 2 := by omega
          have HT5 : Hid (Two w wr f2 (l.length + 2 * l.length) ga na ha gb nb hb 1 (runA [] l) (runA [] l)) := Lib.hid (by
            have := HT2.out
            rw [keys_law l (fun o ho => by have := (HWF.out o ho).key; unfold u64wf at this; simp [Lit.wf, IntKind.min, IntKind.signed] at this; omega)]
            rw [keys_law l (fun o ho => by have := (HWF.out o ho).key; unfold u64wf at this; simp [Lit.wf, IntKind.min, IntKind.signed] at this; omega)] at this
            exact this)
          clear HT2
          go_wp2_with (go_at_call 17; refine (content_c f2 (l.length + 2 * l.length) ga na ha 1 (runA [] l) [] wr HT5.out.a (by omega)).mono ?_; rintro e w4 ⟨v, rfl, hR, hB⟩; obtain ⟨A4, c4, rfl⟩ := Kd.R_slice hR; have HR4 := Lib.hid hR; have HB4 := Lib.hid hB; clear hR hB)
          have hAsc : Hid (Asc (runA [] l)) := Lib.hid (asc_run isK l [] List.Pairwise.nil)
          obtain ⟨p, hp⟩ : ∃ p, p = toS (runA [] l) := ⟨_, rfl⟩
          rw [← hp] at HR4 ⊢
          have HP := Lib.hid hp
          clear hp
          have hc4 := (Kd.R_reads' HR4.out).2.1
          have HC4 : Hid (Kd.C k90 w4 A4 p.length p) := Lib.hid (Kd.R_reads' HR4.out).2.2
          have HT6 := Lib.hid (HT5.out.below HB4.out)
          have hpl : p.length ≤ 4398046511104 := by
            rw [HP.out, toS_length]
            have := HT5.out.a.now.len
            omega
          clear HT5 HB4 HR4
          go_wp2_with fail
          go_loopw [11] (fun v11 wr => ∃ m : Nat, v11 = .int .i64 ((m : Int) + 1) ∧ m ≤ p.length ∧ Hid (Two w wr f2 (l.length + 2 * l.length) ga na ha gb nb hb 1 (runA [] l) (runA [] l)) ∧ Hid (Kd.C k90 wr A4 p.length p))
            (fun v11 _ => p.length + 1 - (intOf v11).toNat)
          case atStart => exact ⟨0, rfl, Nat.zero_le _, HT6, HC4⟩
          case round =>
            obtain ⟨m, rfl, hm, HT, HC⟩ := hrel
            by_cases hlt : m + 1 < p.length
            · have hdec2 : decide ((m : Int) + 1 < (p.length : Int)) = true := decide_eq_true (by omega)
              obtain ⟨ad, rfl, y0, -⟩ := at_T90 HC.out (m : Int) (by omega) (by omega)
              obtain ⟨ad', e', z0, -⟩ := at_T90 HC.out ((m + 1 : Nat) : Int) (by omega) (by omega)
              cases e'
              simp only [Int.toNat_natCast] at y0 z0
              have hlt3 : decide ((rd_T90 p ((m + 1 : Nat) : Int)).f0 ≤ (rd_T90 p (m : Int)).f0) = false := by
                have := toS_asc (s := runA [] l) hAsc.out m (by rw [← HP.out]; exact hlt)
                rw [← HP.out] at this
                exact decide_eq_false (by omega)
              obtain ⟨q0, hq0⟩ : ∃ q0, q0 = (rd_T90 p (m : Int)).f0 := ⟨_, rfl⟩
              obtain ⟨q1, hq1⟩ : ∃ q1, q1 = (rd_T90 p ((m + 1 : Nat) : Int)).f0 := ⟨_, rfl⟩
              rw [← hq0] at y0 hlt3
              rw [← hq1] at z0 hlt3
              clear hq0 hq1
              go_wp2_with fail
              go_quiet (fail)
              have HT7 := Lib.hid (HT.out.below (pw_below_drewN (Below.refl _ _) nq))
              have HC7 : Hid (Kd.C k90 (wr.drewN nq) (some ad) p.length p) := Lib.hid (Kd.Heap.C heapP (fun _ _ => rfl) HC.out)
              clear HT HC HT6 HC4
              go_wp2_with fail
              go_roundw
              case rel => exact ⟨m + 1, by go_num, by omega, HT7, HC7⟩
              case measure => simp [intOf]; omega
            · have hdec2 : decide ((m : Int) + 1 < (p.length : Int)) = false := decide_eq_false (by omega)
              go_wp2_with (first
                | (go_at_call 31; refine (same_c f2 (l.length + 2 * l.length) ga na ha gb nb hb 1 1 (runA [] l) (runA [] l) [] [] wr HT.out.a HT.out.b HT.out.fro).mono ?_; rintro e w5 ⟨rfl, hB5⟩; have HT8 := Lib.hid (HT.out.below hB5); have HC8 : Hid (Kd.C k90 w5 A4 p.length p) := Lib.hid (Kd.Heap.C heapP (fun k hk => hB5.block k hk) HC.out); clear hB5; rw [show samB 1 1 (runA [] l) (runA [] l) [] [] = true by simp [samB]])
                | (go_at_call 17; refine (content_c f2 (l.length + 2 * l.length) gb nb hb 1 (runA [] l) [] w5 HT8.out.b (by omega)).mono ?_; rintro e w6 ⟨v6, rfl, hR6, hB6⟩; rw [← HP.out] at hR6; obtain ⟨A6, c6, rfl⟩ := Kd.R_slice hR6; have HR6 := Lib.hid hR6; have HT9 := Lib.hid (HT8.out.below hB6); have HC9 : Hid (Kd.C k90 w6 A4 p.length p) := Lib.hid (Kd.Heap.C heapP (fun k hk => hB6.block k hk) HC8.out); clear hR6 hB6)
                | (go_at_call 18; refine (samM_c p p A4 A6 c4 c6 w6 HC9.out hc4 (Kd.R_reads' HR6.out).2.2 (Kd.R_reads' HR6.out).2.1 hpl).mono ?_; rintro e w7 ⟨rfl, hB7⟩; have HT10 := Lib.hid (HT9.out.below hB7); clear hB7; rw [show decide (p = p) = true by simp]))
              go_ret
              exact ⟨rfl, HT10.out.ko.below_of (fun _ e => e.elim)⟩
end Go.Proofs.Ytngocadnbpdnoaa.Mo
/-! From the reading of an argument as data to what its memory holds, kind by kind ('Kd'); with a bound by the reading's bulk. -/
namespace Go.Proofs.Ytngocadnbpdnoaa.Open
open Go.RowKit Go.Proofs.YtngocadnbpdnoaaW.PrintWords Go.ChangeShapes Go.WideShapes
set_option linter.unusedVariables false
/-- Whatever is read as data of type t is of kind d, of a size B that the reading's bulk bounds, and meets wf. -/
def Opens {α : Type} (P : Program) (d : Kd α) (t : TypeId) (B : α → Nat) (wf : α → Prop) : Prop :=
  ∀ {H : Type} {enc : TypeId × Value → H} {w : World} {base : Nat} {held : Bool} {fuel : Nat} {cs : List Value} {x : DataW H × List MemPlace},
    DataW.trod enc P w base (fun _ => true) held fuel t cs = some x → ∃ a, d.K w a cs ∧ B a ≤ Rows.uptoBulk x.1 ∧ wf a
theorem bulk_pos {H : Type} (d : DataW H) : 1 ≤ Rows.uptoBulk d := by
  cases d with
  | lit l => cases l <;> simp [Rows.uptoBulk]
  | _ => simp [Rows.uptoBulk]
theorem opens_int {P : Program} {t : TypeId} {k : IntKind} (ht : P.underlying t = some (.int k)) : Opens P (Kd.int k) t (fun _ => 1) (fun n => (Lit.int k n).wf = true) := by
  intro H enc w base held fuel cs x h
  obtain ⟨n, rfl, rfl, hw⟩ := DataW.trod_int ht h
  exact ⟨n, rfl, bulk_pos _, hw⟩
theorem opens_bool {P : Program} {t : TypeId} (ht : P.underlying t = some .bool) : Opens P Kd.bool t (fun _ => 1) (fun _ => True) := by
  intro H enc w base held fuel cs x h
  obtain ⟨b, rfl, rfl⟩ := DataW.trod_bool ht h
  exact ⟨b, rfl, bulk_pos _, trivial⟩
theorem opens_string {P : Program} {t : TypeId} (ht : P.underlying t = some .string) : Opens P Kd.string t (fun s => s.size + 1) (fun s => s.size ≤ maxLen) := by
  intro H enc w base held fuel cs x h
  obtain ⟨s, rfl, rfl, hs⟩ := DataW.trod_string ht h
  exact ⟨s, rfl, by simp [Rows.uptoBulk], hs⟩
theorem bulkAll_sum {H : Type} (l : List (DataW H)) : Rows.uptoBulkAll l = (l.map Rows.uptoBulk).sum := by
  induction l with
  | nil => simp [Rows.uptoBulkAll]
  | cons a l ih => simp [Rows.uptoBulkAll, ih]
theorem cells_at {w : World} {base : Nat} {a : Addr} {n : Nat} {cs : List Value} (h : w.cells? base a n = some cs) : cs.length = n ∧ ∀ j u, cs[j]? = some u → w.cell? (a.add j) = some u := by
  obtain ⟨_, h1, h2⟩ := World.cells?_some h
  refine ⟨h1, fun j u hu => ?_⟩
  have hj : j < n := by have := (List.getElem?_eq_some_iff.1 hu).1; omega
  rw [h2 j hj, hu]
theorem sum_getD {α : Type} (B : α → Nat) (z : α) : ∀ (l : List α), (l.map B).sum = ((List.range l.length).map fun i => B (l.getD i z)).sum := by
  intro l
  congr 1
  apply List.ext_getElem
  · simp
  · intro i h1 h2
    have : i < l.length := by simpa using h1
    simp [List.getD_eq_getElem?_getD, List.getElem?_eq_getElem this]
theorem sum_le_sum {α : Type} {f g : α → Nat} : ∀ (l : List α), (∀ x ∈ l, f x ≤ g x) → (l.map f).sum ≤ (l.map g).sum
  | [], _ => by simp
  | a :: l, h => by
    have h1 := h a (by simp)
    have h2 := sum_le_sum l (fun x hx => h x (by simp [hx]))
    simp only [List.map_cons, List.sum_cons]
    omega
theorem opens_slice {α : Type} {P : Program} {d : Kd α} {t e : TypeId} {B : α → Nat} {wf : α → Prop} (ht : P.underlying t = some (.slice e)) (hsz : P.cellsOf e = d.sz) (hd : Opens P d e B wf) :
    Opens P (Kd.slice e d) t (fun xs => (xs.map B).sum + 1) (fun xs => ∀ x ∈ xs, wf x) := by
  intro H enc w base held fuel cs x h
  rcases Deep.open_slice ht h with ⟨rfl, rfl⟩ | ⟨a, len, cap, m, n, D, Pl, rfl, hb, hl, hm, hmm, rfl, hel⟩
  · exact ⟨[], ⟨none, 0, rfl, Nat.le_refl _, rfl, by simp, fun h => absurd h (by simp)⟩, bulk_pos _, fun x hx => by cases hx⟩
  · rw [if_pos rfl] at hmm
    subst hmm
    have hx : ∀ i, i < len → ∃ y : α, (∃ c, c.length = d.sz ∧ d.K w y c ∧ ∀ j u, c[j]? = some u → w.cell? (a.add (i * d.sz + j)) = some u) ∧ B y ≤ Rows.uptoBulk (D i) ∧ wf y := by
      intro i hi
      obtain ⟨cs', hc, ht'⟩ := hel i (by omega)
      obtain ⟨y, hk, hB, hw⟩ := hd ht'
      obtain ⟨h1, h2⟩ := cells_at hc
      rw [hsz] at h1
      refine ⟨y, ⟨cs', h1, hk, fun j u hu => ?_⟩, hB, hw⟩
      rw [← Deep.add_add, ← hsz]
      exact h2 j u hu
    rcases Nat.eq_zero_or_pos len with h0 | h0
    · subst h0
      exact ⟨[], ⟨some a, m, rfl, Nat.zero_le _, rfl, by simp, fun h => absurd h (by simp)⟩, bulk_pos _, fun x hx => by cases hx⟩
    haveI : Inhabited α := ⟨(hx 0 h0).choose⟩
    obtain ⟨f, hf⟩ := Deep.choose_lt hx
    refine ⟨(List.range len).map f, ⟨some a, m, ?_, by simpa using hl, ?_⟩, ?_, ?_⟩
    · simp
    · refine ⟨by simp, by simp; unfold maxLen at hm; omega, fun _ => ⟨a, rfl, fun j p hj => ?_⟩⟩
      rw [List.getElem?_map] at hj
      have hjl : j < len := by
        rcases Nat.lt_or_ge j len with h | h
        · exact h
        · rw [List.getElem?_eq_none (by simpa using h)] at hj
          cases hj
      rw [List.getElem?_range hjl] at hj
      obtain rfl : f j = p := by simpa using hj
      obtain ⟨⟨c, h1, h2, h3⟩, _⟩ := hf j hjl
      exact ⟨c, h1, h2, h3⟩
    · simp only [Rows.uptoBulk, bulkAll_sum, List.map_map]
      have := sum_le_sum (f := fun i => B (f i)) (g := fun i => Rows.uptoBulk (D i)) (List.range len) (fun i hi => (hf i (by simpa using hi)).2.1)
      simp only [Function.comp_def]
      omega
    · intro y hy
      obtain ⟨i, hi, rfl⟩ := List.mem_map.1 hy
      exact (hf i (by simpa using hi)).2.2
/-- The fields fs of a struct, from the offset off on. -/
def OpensFs {α : Type} (P : Program) (d : Kd α) (fs : List Field) (off : Nat) (B : α → Nat) (wf : α → Prop) : Prop :=
  ∀ {H : Type} {enc : TypeId × Value → H} {w : World} {base : Nat} {held : Bool} {n : Nat} {cs : List Value} {xs : List (DataW H × List MemPlace)},
    xs.length = fs.length → cs.length = off + d.sz → (∀ (i : Nat) (f : Field), fs[i]? = some f → DataW.trod enc P w base (fun _ => true) held n f.type ((cs.drop f.offset).take (P.cellsOf f.type)) = xs[i]?) →
    ∃ a, d.K w a (cs.drop off) ∧ B a ≤ (xs.map fun x => Rows.uptoBulk x.1).sum ∧ wf a
theorem opens_last {α : Type} {P : Program} {d : Kd α} {f : Field} {off : Nat} {B : α → Nat} {wf : α → Prop} (hd : Opens P d f.type B wf) (ho : f.offset = off) (hsz : P.cellsOf f.type = d.sz) : OpensFs P d [f] off B wf := by
  intro H enc w base held n cs xs hl hc h
  match xs, hl with
  | [y], _ =>
    have h0 := h 0 f rfl
    rw [ho, hsz, List.take_of_length_le (by rw [List.length_drop]; omega)] at h0
    obtain ⟨a, h1, h2, h3⟩ := hd (x := y) h0
    exact ⟨a, h1, by simpa using h2, h3⟩
theorem opens_cons {α β : Type} {P : Program} {d : Kd α} {d' : Kd β} {f : Field} {fs : List Field} {off : Nat} {B : α → Nat} {B' : β → Nat} {wf : α → Prop} {wf' : β → Prop} (hd : Opens P d f.type B wf) (ho : f.offset = off) (hsz : P.cellsOf f.type = d.sz)
    (hs : OpensFs P d' fs (off + d.sz) B' wf') : OpensFs P (Kd.pair d d') (f :: fs) off (fun x => B x.1 + B' x.2) (fun x => wf x.1 ∧ wf' x.2) := by
  intro H enc w base held n cs xs hl hc h
  match xs, hl with
  | y :: ys, hl =>
    have hc' : cs.length = off + (d.sz + d'.sz) := hc
    have h0 := h 0 f rfl
    rw [ho, hsz] at h0
    obtain ⟨a, h1, h2, h3⟩ := hd (x := y) h0
    obtain ⟨b, h4, h5, h6⟩ := hs (enc := enc) (w := w) (base := base) (held := held) (n := n) (cs := cs) (xs := ys) (by simpa using hl) (by omega) (fun i g hg => h (i + 1) g hg)
    refine ⟨(a, b), ⟨_, _, ?_, h1, h4⟩, by simp only [List.map_cons, List.sum_cons]; omega, h3, h6⟩
    rw [← List.drop_drop, List.take_append_drop]
theorem opens_struct {α β : Type} {P : Program} {d : Kd α} {t : TypeId} {fs : Array Field} {B : α → Nat} {wf : α → Prop} (g : β → α) (g' : α → β) (hg : ∀ a, g (g' a) = a) (ht : P.underlying t = some (.struct fs)) (hsz : P.cellsOf t = d.sz) (hs : OpensFs P d fs.toList 0 B wf) :
    Opens P (Kd.iso d g) t (fun x => B (g x) + 1) (fun x => wf (g x)) := by
  intro H enc w base held fuel cs x h
  obtain ⟨xs, n, _, rfl, hl, hlen, hf⟩ := DataW.trod_struct ht h
  obtain ⟨a, h1, h2, h3⟩ := hs (enc := enc) (w := w) (base := base) (held := held) (n := n) (cs := cs) (xs := xs) (by simpa using hlen) (by omega) (fun i f hi => hf i f (by simpa using hi))
  refine ⟨g' a, ?_, ?_, ?_⟩
  · show d.K w (g (g' a)) cs
    rw [hg]
    simpa using h1
  · show B (g (g' a)) + 1 ≤ _
    rw [hg]
    simp only [Rows.uptoBulk, bulkAll_sum, List.map_map]
    simp only [Function.comp_def]
    omega
  · show wf (g (g' a))
    rw [hg]
    exact h3
end Go.Proofs.Ytngocadnbpdnoaa.Open
namespace Go.Proofs.Ytngocadnbpdnoaa.Mo
open Go Go.RowKit Go.Proofs.Ytngocadnbpdnoaa.Q Go.Proofs.YtngocadnbpdnoaaW.PrintWords Go.Proofs.YtngocadnbpdnoaaW.PrintLast Go.Proofs.YtngocadnbpdnoaaW.PrintMore Go.Proofs.Ytngocadnbpdnoaa.Open
set_option linter.unusedVariables false
def wfP (p : SP) : Prop := (Lit.int .u64 p.f0).wf = true ∧ (Lit.int .u64 p.f1).wf = true
def BP : SP → Nat := fun x => 1 + 1 + 1
theorem opensP : Opens Try.prog k90 90 BP wfP := by
  intro H enc w base held fuel cs x h
  obtain ⟨a, h1, h2, h3⟩ := opens_struct (g := fun x : SP => (x.f0, x.f1)) (fun a => ⟨a.1, a.2⟩) (fun _ => rfl) Try.underlying90 (by kernel_rfl) (opens_cons (opens_int Try.underlying23) rfl (by kernel_rfl) (opens_last (opens_int Try.underlying23) rfl (by kernel_rfl))) h
  exact ⟨a, h1, h2, h3⟩
def wfA (a : AnS) : Prop := ((Lit.int .i64 a.f0).wf = true ∧ True ∧ (Lit.int .u64 a.f2).wf = true ∧ True ∧ (Lit.int .u64 a.f4).wf = true ∧ (∀ x ∈ a.f5, wfP x) ∧ (Lit.int .u64 a.f6).wf = true)
def BA : AnS → Nat := fun a => 1 + (1 + (1 + (1 + (1 + (((a.f5.map BP).sum + 1) + 1))))) + 1
theorem opensA : Opens Try.prog k26 26 BA wfA := by
  intro H enc w base held fuel cs x h
  obtain ⟨a, h1, h2, h3⟩ := opens_struct (g := fun x : AnS => (x.f0, x.f1, x.f2, x.f3, x.f4, x.f5, x.f6)) (fun a => ⟨a.1, a.2.1, a.2.2.1, a.2.2.2.1, a.2.2.2.2.1, a.2.2.2.2.2.1, a.2.2.2.2.2.2⟩) (fun _ => rfl) Try.underlying26 (by kernel_rfl)
    (opens_cons (opens_int Try.underlying22) rfl (by kernel_rfl) (opens_cons (opens_bool Try.underlying4) rfl (by kernel_rfl) (opens_cons (opens_int Try.underlying23) rfl (by kernel_rfl) (opens_cons (opens_bool Try.underlying4) rfl (by kernel_rfl) (opens_cons (opens_int Try.underlying23) rfl (by kernel_rfl) (opens_cons (opens_slice Try.underlying24 (by kernel_rfl) opensP) rfl (by kernel_rfl) (opens_last (opens_int Try.underlying23) rfl (by kernel_rfl)))))))) h
  exact ⟨a, h1, h2, h3⟩
theorem BP_sum (l : List SP) : (l.map BP).sum = 3 * l.length := by
  induction l with
  | nil => rfl
  | cons a l ih => simp only [List.map_cons, List.sum_cons, ih, List.length_cons, BP]; omega
theorem BA_len (a : AnS) : a.f5.length ≤ BA a := by
  unfold BA
  rw [BP_sum]
  omega
end Go.Proofs.Ytngocadnbpdnoaa.Mo
namespace Go.Proofs.Ytngocadnbpdnoaa.Mo
open Go Go.RowKit Go.Proofs.Ytngocadnbpdnoaa.Q Go.Proofs.YtngocadnbpdnoaaW.PrintWords Go.Proofs.YtngocadnbpdnoaaW.PrintLast Go.Proofs.YtngocadnbpdnoaaW.PrintMore Go.Proofs.Ytngocadnbpdnoaa.Open
set_option linter.unusedVariables false
set_option linter.unusedSimpArgs false
theorem opensFence : Opens Try.prog k36 36 (fun _ => 1 + (1 + 1) + 1) (fun _ => True) := by
  intro H enc w base held fuel cs x h
  obtain ⟨a, h1, h2, h3⟩ := opens_struct (g := fun x : S36 => (x.f0, x.f1, x.f2)) (fun a => ⟨a.1, a.2.1, a.2.2⟩) (fun _ => rfl) Try.underlying36 (by kernel_rfl) (opens_cons (opens_bool Try.underlying4) rfl (by kernel_rfl) (opens_cons (opens_int Try.underlying3) rfl (by kernel_rfl) (opens_last (opens_int Try.underlying3) rfl (by kernel_rfl)))) h
  exact ⟨a, h1, h2, trivial⟩
def wfO (x : OpS) : Prop := (Lit.int .u8 x.f0).wf = true ∧ (Lit.int .u64 x.f1).wf = true ∧ (Lit.int .u64 x.f2).wf = true ∧ (Lit.int .u64 x.f3).wf = true ∧ (Lit.int .u64 x.f4).wf = true ∧ True ∧ (∀ y ∈ x.f6, (Lit.int .u64 y).wf = true) ∧ (Lit.int .u64 x.f7).wf = true ∧ (Lit.int .u64 x.f8).wf = true
def BO (x : OpS) : Nat := 1 + (1 + (1 + (1 + (1 + ((1 + (1 + 1) + 1) + (((x.f6.map (fun _ => 1)).sum + 1) + (1 + 1))))))) + 1
theorem opensO : Opens Try.prog k39 39 BO wfO := by
  intro H enc w base held fuel cs x h
  obtain ⟨a, h1, h2, h3⟩ := opens_struct (g := fun x : OpS => (x.f0, x.f1, x.f2, x.f3, x.f4, x.f5, x.f6, x.f7, x.f8)) (fun a => ⟨a.1, a.2.1, a.2.2.1, a.2.2.2.1, a.2.2.2.2.1, a.2.2.2.2.2.1, a.2.2.2.2.2.2.1, a.2.2.2.2.2.2.2.1, a.2.2.2.2.2.2.2.2⟩) (fun _ => rfl) Try.underlying39 (by kernel_rfl)
    (opens_cons (opens_int Try.underlying34) rfl (by kernel_rfl) (opens_cons (opens_int Try.underlying23) rfl (by kernel_rfl) (opens_cons (opens_int Try.underlying23) rfl (by kernel_rfl) (opens_cons (opens_int Try.underlying23) rfl (by kernel_rfl) (opens_cons (opens_int Try.underlying23) rfl (by kernel_rfl) (opens_cons opensFence rfl (by kernel_rfl) (opens_cons (opens_slice Try.underlying37 (by kernel_rfl) (opens_int Try.underlying23)) rfl (by kernel_rfl) (opens_cons (opens_int Try.underlying23) rfl (by kernel_rfl) (opens_last (opens_int Try.underlying23) rfl (by kernel_rfl)))))))))) h
  exact ⟨a, h1, h2, h3⟩
theorem len_le_sum (l : List OpS) : l.length ≤ (l.map BO).sum := by
  induction l with
  | nil => simp
  | cons a l ih => simp only [List.map_cons, List.sum_cons, List.length_cons]; unfold BO; unfold BO at ih; omega
theorem keys_walk (W : World) (a0 : Option Addr) (c0 : Nat) (x0 : List OpS) (h0 : Kd.C k39 W a0 x0.length x0) (l0 : x0.length ≤ c0) {H : Type} {d0 : DataW H} (b0 : (x0.map BO).sum + 1 ≤ Rows.uptoBulk d0) (w0 : ∀ x ∈ x0, wfO x) (hb : Rows.uptoBulk d0 + 0 ≤ 1048576) :
    Calls Try.prog 8 #[.slice a0 x0.length c0] W fun e W' => e = .returned (.bool true) ∧ Below W.heap.size W W' :=
  keys_c W a0 c0 x0 h0 l0 (fun o ho => ⟨(w0 o ho).2.1, (w0 o ho).2.2.1, (w0 o ho).2.2.2.2.1⟩) (by have := len_le_sum x0; omega)
end Go.Proofs.Ytngocadnbpdnoaa.Mo
namespace Go.Proofs.Ytngocadnbpdnoaa.Mo
open Go Go.RowKit Go.Proofs.Ytngocadnbpdnoaa.Q Go.Proofs.YtngocadnbpdnoaaW.PrintWords Go.Proofs.YtngocadnbpdnoaaW.PrintLast Go.Proofs.YtngocadnbpdnoaaW.PrintMore Go.Proofs.Ytngocadnbpdnoaa.Open
set_option linter.unusedVariables false
set_option linter.unusedSimpArgs false
/-- A call of the law. -/
structure CallS where
  tk : Bool
  op : OpS
  an : AnS
  hd : Int
def zCall : CallS := ⟨false, z39, z26, 0⟩
def kCall : Kd CallS := Kd.iso (Kd.pair Kd.bool (Kd.pair k39 (Kd.pair k26 (Kd.int .u64)))) (fun x : CallS => (x.tk, x.op, x.an, x.hd))
theorem kCall_open {w : World} {x : CallS} {cs : List Value} (h : kCall.K w x cs) : ∃ A c B d, cs = [.bool x.tk, .int .u8 x.op.f0, .int .u64 x.op.f1, .int .u64 x.op.f2, .int .u64 x.op.f3, .int .u64 x.op.f4, .bool x.op.f5.f0, .int .i64 x.op.f5.f1, .int .i64 x.op.f5.f2, .slice A x.op.f6.length c, .int .u64 x.op.f7, .int .u64 x.op.f8, .int .i64 x.an.f0, .bool x.an.f1, .int .u64 x.an.f2, .bool x.an.f3, .int .u64 x.an.f4, .slice B x.an.f5.length d, .int .u64 x.an.f6, .int .u64 x.hd] ∧ x.op.f6.length ≤ c ∧ (Kd.int .u64).C w A x.op.f6.length x.op.f6 ∧ x.an.f5.length ≤ d ∧ k90.C w B x.an.f5.length x.an.f5 := by
  obtain ⟨c1, c2, rfl, h1, ⟨c3, c4, rfl, h3, ⟨c5, c6, rfl, h5, h6⟩⟩⟩ := h
  obtain rfl : c1 = [.bool x.tk] := h1
  obtain ⟨A, c, rfl, l1, g1⟩ := k39_open h3
  obtain ⟨B, d, rfl, l2, g2⟩ := k26_open h5
  obtain rfl : c6 = [.int .u64 x.hd] := h6
  exact ⟨A, c, B, d, rfl, l1, g1, l2, g2⟩
def wfC (x : CallS) : Prop := True ∧ wfO x.op ∧ wfA x.an ∧ (Lit.int .u64 x.hd).wf = true
def BC (x : CallS) : Nat := 1 + (BO x.op + (BA x.an + 1)) + 1
theorem opensC : Opens Try.prog kCall 41 BC wfC := by
  intro H enc w base held fuel cs x h
  obtain ⟨a, h1, h2, h3⟩ := opens_struct (g := fun x : CallS => (x.tk, x.op, x.an, x.hd)) (fun a => ⟨a.1, a.2.1, a.2.2.1, a.2.2.2⟩) (fun _ => rfl) Try.underlying41 (by kernel_rfl)
    (opens_cons (opens_bool Try.underlying4) rfl (by kernel_rfl) (opens_cons opensO rfl (by kernel_rfl) (opens_cons opensA rfl (by kernel_rfl) (opens_last (opens_int Try.underlying23) rfl (by kernel_rfl))))) h
  exact ⟨a, h1, h2, h3⟩
theorem BC_len (l : List CallS) : l.length ≤ (l.map BC).sum := by
  induction l with
  | nil => simp
  | cons a l ih => simp only [List.map_cons, List.sum_cons, List.length_cons]; unfold BC at ih ⊢; omega
theorem heapA : Kd.Heap k26 := Kd.heap_iso _ (Kd.heap_pair (Kd.heap_int _) (Kd.heap_pair Kd.heap_bool (Kd.heap_pair (Kd.heap_int _) (Kd.heap_pair Kd.heap_bool (Kd.heap_pair (Kd.heap_int _) (Kd.heap_pair (Kd.heap_slice _ heapP) (Kd.heap_int _)))))))
theorem heapCall : Kd.Heap kCall := Kd.heap_iso _ (Kd.heap_pair Kd.heap_bool (Kd.heap_pair heapOp (Kd.heap_pair heapA (Kd.heap_int _))))
/-- The cells of element i of a row of calls; what its lists hold. -/
theorem at_call {w : World} {A : Option Addr} {n : Nat} {xs : List CallS} (h : Kd.C kCall w A n xs) (i : Nat) (hi : i < n) (hx : i < xs.length) : ∃ ad A1 c1 B1 d1, A = some ad ∧
    (∀ j u, [Value.bool xs[i].tk, .int .u8 xs[i].op.f0, .int .u64 xs[i].op.f1, .int .u64 xs[i].op.f2, .int .u64 xs[i].op.f3, .int .u64 xs[i].op.f4, .bool xs[i].op.f5.f0, .int .i64 xs[i].op.f5.f1, .int .i64 xs[i].op.f5.f2, .slice A1 xs[i].op.f6.length c1, .int .u64 xs[i].op.f7, .int .u64 xs[i].op.f8, .int .i64 xs[i].an.f0, .bool xs[i].an.f1, .int .u64 xs[i].an.f2, .bool xs[i].an.f3, .int .u64 xs[i].an.f4, .slice B1 xs[i].an.f5.length d1, .int .u64 xs[i].an.f6, .int .u64 xs[i].hd][j]? = some u → w.cell? (ad.add (i * 20 + j)) = some u) ∧
    (Kd.int .u64).C w A1 xs[i].op.f6.length xs[i].op.f6 ∧ xs[i].an.f5.length ≤ d1 ∧ k90.C w B1 xs[i].an.f5.length xs[i].an.f5 := by
  obtain ⟨ad, c, e, _, hK, hc0⟩ := Kd.C_get h zCall (i : Int) (by omega) (by omega)
  have hc : ∀ j u, c[j]? = some u → w.cell? (ad.add (i * 20 + j)) = some u := by
    intro j u hj
    have := hc0 j u hj
    rw [Int.toNat_natCast] at this
    exact this
  have hx2 : xs.getD (i : Int).toNat zCall = xs[i] := by rw [Int.toNat_natCast]; simp [List.getD_eq_getElem?_getD, hx]
  rw [hx2] at hK
  obtain ⟨A1, c1, B1, d1, rfl, l1, g1, l2, g2⟩ := kCall_open hK
  exact ⟨ad, A1, c1, B1, d1, e, hc, g1, l2, g2⟩
end Go.Proofs.Ytngocadnbpdnoaa.Mo
namespace Go.Proofs.Ytngocadnbpdnoaa.Mo
open Go Go.Maps Go.RowKit Go.Proofs.Ytngocadnbpdnoaa.Srt Go.Proofs.Ytngocadnbpdnoaa.Q Go.Proofs.YtngocadnbpdnoaaW.PrintWords Go.Proofs.YtngocadnbpdnoaaW.PrintLast Go.Proofs.YtngocadnbpdnoaaW.PrintMore
set_option linter.unusedVariables false
set_option linter.unusedSimpArgs false
/-- Do's law at every kind but MultiGet, whatever the keys. -/
theorem do_nk (o : OpS) (hO : OpWf o) (h7 : o.f0 ≠ 7) : DoC o 0 (fun s => stepD s o 0) := by
  intro f N gp bn bh multi now held A c w hM hF hN
  have hh : u64wf 0 := by unfold u64wf; decide
  show Calls _ _ _ _ (DoPost w f (N + 1) gp bn bh (stepD ⟨multi, now, held⟩ o 0).1 (stepD ⟨multi, now, held⟩ o 0).2)
  by_cases h1 : o.f0 = 1
  · rw [show stepD ⟨multi, now, held⟩ o 0 = (⟨multi, now, held⟩, foundD ⟨multi, now, held⟩ o) by simp [stepD, h1]]
    exact do_get f N gp bn bh multi now held o A c 0 w hM hF hO hh hN h1
  by_cases h2 : o.f0 = 2
  · rw [show stepD ⟨multi, now, held⟩ o 0 = (⟨multi, put now o.f1 o.f2, held⟩, foundD ⟨multi, now, held⟩ o) by simp [stepD, h2]]
    exact do_put f N gp bn bh multi now held o A c 0 w hM hF hO hh hN h2
  by_cases h3 : o.f0 = 3
  · rw [show stepD ⟨multi, now, held⟩ o 0 = (⟨multi, del now o.f1, held⟩, foundD ⟨multi, now, held⟩ o) by simp [stepD, h3]]
    exact do_del f N gp bn bh multi now held o A c 0 w hM hF hO hh hN h3
  by_cases h4 : o.f0 = 4
  · by_cases hx : fnd now o.f1 = some o.f3
    · rw [show stepD ⟨multi, now, held⟩ o 0 = (⟨multi, put now o.f1 o.f2, held⟩, { foundD ⟨multi, now, held⟩ o with dn := true }) by simp [stepD, h4, hx]]
      exact do_swapY f N gp bn bh multi now held o A c 0 w hM hF hO hh hN h4 hx
    · rw [show stepD ⟨multi, now, held⟩ o 0 = (⟨multi, now, held⟩, foundD ⟨multi, now, held⟩ o) by simp [stepD, h4, hx]]
      exact do_swapN f N gp bn bh multi now held o A c 0 w hM hF hO hh hN h4 hx
  by_cases h5 : o.f0 = 5
  · rw [show stepD ⟨multi, now, held⟩ o 0 = (⟨multi, now, snapHeld 0 now held⟩, snapD 0 held) by simp [stepD, h5]]
    exact do_snap f N gp bn bh multi now held o A c 0 w hM hF hO hh hN h5
  by_cases h6 : o.f0 = 6
  · cases hx : fnd held o.f4 with
    | none =>
      rw [show stepD ⟨multi, now, held⟩ o 0 = (⟨multi, now, held⟩, errD 33) by simp [stepD, h6, hx]]
      exact do_relN f N gp bn bh multi now held o A c 0 w hM hF hO hh hN h6 hx
    | some x =>
      rw [show stepD ⟨multi, now, held⟩ o 0 = (⟨multi, now, del held o.f4⟩, errD 0) by simp [stepD, h6, hx]]
      exact do_relY f N gp bn bh multi now held o A c 0 w hM hF hO hh hN h6 (by rw [hx]; rfl)
  by_cases h8 : o.f0 = 8
  · cases hx : fnd held o.f4 with
    | none =>
      rw [show stepD ⟨multi, now, held⟩ o 0 = (⟨multi, now, held⟩, errD 33) by simp [stepD, h7, h8, hx]]
      exact do_rgNo f N gp bn bh multi now held o A c 0 w hM hF hO hh hN h8 hx
    | some x =>
      rw [show stepD ⟨multi, now, held⟩ o 0 = (⟨multi, now, held⟩, ⟨0, false, 0, false, 0, within o.f7 o.f8 x, 0⟩) by simp [stepD, h7, h8, hx]]
      by_cases hne : within o.f7 o.f8 x = []
      · exact do_rgYesE f N gp bn bh multi now held o A c 0 w hM hF hO hh hN h8 x hx hne
      · exact do_rgYesS f N gp bn bh multi now held o A c 0 w hM hF hO hh hN h8 x hx hne
  by_cases h9 : o.f0 = 9
  · cases hx : fnd held o.f4 with
    | none =>
      rw [show stepD ⟨multi, now, held⟩ o 0 = (⟨multi, now, held⟩, errD 33) by simp [stepD, h7, h9, hx]]
      exact do_ctNo f N gp bn bh multi now held o A c 0 w hM hF hO hh hN h9 hx
    | some x =>
      rw [show stepD ⟨multi, now, held⟩ o 0 = (⟨multi, now, held⟩, ⟨0, false, 0, false, 0, [], ((toS (within o.f7 o.f8 x)).length : Int)⟩) by simp [stepD, h7, h9, hx]]
      exact do_ctYes f N gp bn bh multi now held o A c 0 w hM hF hO hh hN h9 x hx
  by_cases h10 : o.f0 = 10
  · rw [show stepD ⟨multi, now, held⟩ o 0 = (⟨multi, now, held⟩, errD 0) by simp [stepD, h7, h10]]
    exact do_coll f N gp bn bh multi now held o A c 0 w hM hF hO hh hN h10
  · rw [show stepD ⟨multi, now, held⟩ o 0 = (⟨multi, now, held⟩, errD 160) by simp [stepD, h1, h2, h3, h4, h5, h6, h7, h8, h9, h10]]
    exact do_oth f N gp bn bh multi now held o A c 0 w hM hF hO hh hN trivial (fun k hk1 hk2 => beq_eq_false_iff_ne.2 (by omega))
/-- What Take does to a state, and what it says. -/
def takeD (s : MS) (o : OpS) (a : AnS) : MS × Bool :=
  if 2 ≤ o.f0 ∧ o.f0 ≤ 4 then (if anEq a (errS 30) = true then (s, true) else if anEq (ansS (stepD s o 0).2) a = true then ((stepD s o 0).1, true) else (s, false))
  else if o.f0 = 5 then (if anEq a (errS 32) || anEq a (errS 31) then (s, true) else if (fnd s.held a.f4).isSome || (a.f4 == 0) || !anEq a ⟨0, false, 0, false, a.f4, [], 0⟩ then (s, false) else (⟨s.multi, s.now, snapHeld a.f4 s.now s.held⟩, true))
  else if o.f0 = 10 then (s, anEq a ⟨0, false, 0, false, 0, [], a.f6⟩)
  else if 7 ≤ o.f0 ∧ o.f0 ≤ 9 then ((stepD s o 0).1, anEq a (ansS (stepD s o 0).2) || ((stepD s o 0).2.e == 33 && anEq a (errS 34)))
  else (if anEq (ansS (stepD s o 0).2) a = true then ((stepD s o 0).1, true) else (s, false))
theorem ps_len (s : MS) (o : OpS) (h : ¬ (7 ≤ o.f0 ∧ o.f0 ≤ 9)) : (stepD s o 0).2.ps = [] := by
  unfold stepD
  by_cases h1 : o.f0 = 1
  · simp [h1, foundD]
  by_cases h2 : o.f0 = 2
  · simp [h2, foundD]
  by_cases h3 : o.f0 = 3
  · simp [h3, foundD]
  by_cases h4 : o.f0 = 4
  · by_cases hx : fnd s.now o.f1 = some o.f3 <;> simp [h4, hx, foundD]
  by_cases h5 : o.f0 = 5
  · by_cases hx : (fnd s.held 0).isSome = true <;> simp [h5, snapD, errD, hx]
  by_cases h6 : o.f0 = 6
  · cases hx : fnd s.held o.f4 <;> simp [h6, hx, errD]
  have h7 : o.f0 ≠ 7 := by omega
  have h8 : o.f0 ≠ 8 := by omega
  have h9 : o.f0 ≠ 9 := by omega
  by_cases h10 : o.f0 = 10 <;> simp [h1, h2, h3, h4, h5, h6, h7, h8, h9, h10, errD]
/-- Take at every operation and answer. -/
theorem take_c (o : OpS) (a : AnS) (A B : Option Addr) (c d : Nat) (f : Nat → Option PL) (N gp bn bh : Nat) (multi : Int) (now : PL) (held : List (Int × PL)) (w : World) (hM : PM w f N gp bn bh multi now held) (hF : Fro w f N) (hN : N + 1 ≤ 1099511627776)
    (hK : ∀ W', Kept w W' (fun k => k = bn ∨ k = bh) → Kd.C (Kd.int .u64) W' A o.f6.length o.f6) (hw : ∀ k ∈ o.f6, u64wf k) (hn : o.f6.length ≤ 1099511627776)
    (hC : ∀ W', Kept w W' (fun k => k = bn ∨ k = bh) → Kd.C k90 W' B a.f5.length a.f5) (hd : a.f5.length ≤ d) (hm : a.f5.length ≤ 4398046511104) (hO : OpWf o) (hu : u64wf a.f4) :
    Calls Try.prog 22 #[.pointer (some ⟨gp, 0, none⟩), .agg (opC o A c), anV a B d] w (TakePost w f N gp bn bh (takeD ⟨multi, now, held⟩ o a)) := by
  by_cases h24 : 2 ≤ o.f0 ∧ o.f0 ≤ 4
  · refine take_kv o a A B c d (fun s => stepD s o 0) (do_nk o hO (by omega)) f N gp bn bh multi now held w hM hF hN hC hd h24 hm _ ?_ ?_
    · unfold takeD; rw [if_pos h24]
    · show (stepD ⟨multi, now, held⟩ o 0).2.ps.length ≤ _; rw [ps_len _ _ (by omega)]; simp
  by_cases h5 : o.f0 = 5
  · refine take_snap o a A B c d f N gp bn bh multi now held w hM hF hN hC hd hm h5 hu _ ?_
    unfold takeD; rw [if_neg h24, if_pos h5]
  by_cases h10 : o.f0 = 10
  · refine take_coll o a A B c d f N gp bn bh multi now held w hM hF hN hC hd hm h10 _ ?_
    unfold takeD; rw [if_neg h24, if_neg h5, if_pos h10]
  by_cases h79 : 7 ≤ o.f0 ∧ o.f0 ≤ 9
  · refine take_query o a A B c d (fun s => stepD s o 0) f N gp bn bh multi now held w hM hF hN hC hd hm (fun W' hb => do_c f N gp bn bh multi now held o A c 0 W' (hM.kept (Kept.of_below hb (fun _ => False)) (fun e => e) (fun e => e) (fun e => e)) (hF.kept (Kept.of_below hb (fun _ => False)) (fun _ _ _ e => e)) hO (by unfold u64wf; decide) (by omega) (fun W2 h2 => hK W2 ((Kept.of_below hb _).then_ h2 (fun k e => .inl e))) hw hn) h79 _ ?_
    unfold takeD; rw [if_neg h24, if_neg h5, if_neg h10, if_pos h79]
  · have hps : (stepD ⟨multi, now, held⟩ o 0).2.ps.length ≤ 4398046511104 := by rw [ps_len _ _ h79]; simp
    refine (take_rest o a A B c d (fun s => stepD s o 0) (do_nk o hO (by omega)) f N gp bn bh multi now held w hM hF hN hC hd (fun k h1 h2 h3 => by
      rw [beq_eq_false_iff_ne]; intro e; rw [e] at h24 h5 h10 h79; omega) hps).mono ?_
    rintro e w' ⟨he, hL⟩
    have hr : takeD ⟨multi, now, held⟩ o a = if anEq (ansS (stepD ⟨multi, now, held⟩ o 0).2) a = true then ((stepD ⟨multi, now, held⟩ o 0).1, true) else (⟨multi, now, held⟩, false) := by
      unfold takeD; rw [if_neg h24, if_neg h5, if_neg h10, if_neg h79]
    by_cases hq : anEq (ansS (stepD ⟨multi, now, held⟩ o 0).2) a = true
    · rw [if_pos hq] at hL hr
      rw [hr]
      exact ⟨by rw [he, hq], hL⟩
    · rw [if_neg hq] at hL hr
      rw [hr]
      exact ⟨by rw [he]; simpa using hq, hL⟩
end Go.Proofs.Ytngocadnbpdnoaa.Mo
