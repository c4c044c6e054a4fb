import Derived.Test.YtngocadnbpdnoaaSQx0
import Derived.Test.YtngocadnbpdnoaaSMo9
import Derived.Test.YtngocadnbpdnoaaSMo17
import Derived.Laws.CopyRow
namespace Go.Proofs.Ytngocadnbpdnoaa.Q
open Go.RowKit Go.Proofs.YtngocadnbpdnoaaW.PrintWords Go.Proofs.YtngocadnbpdnoaaW.PrintLast Go.Proofs.YtngocadnbpdnoaaW.PrintMore
attribute [local go_sem] max2_int min2_int max_two min_two max_three min_three max_four min_four   -- for this text's walks alone
set_option linter.unusedVariables false
set_option linter.unusedSimpArgs false

theorem eqA90 (d : Nat) (w : World) (x0 y0 : Int) (x1 y1 : Int) :
    (Op.equalIn (d + 2) 90 (.agg #[.int .u64 x0, .int .u64 x1]) (.agg #[.int .u64 y0, .int .u64 y1])).run Try.prog w = .ok (x0 == y0 && (x1 == y1)) w := by
  refine eqA_of Try.underlying90 (by kernel_rfl) ?_
  refine eqf_cons (by rfl) (by go_simp; rfl) (by go_simp; rfl) (by go_simp) ?_
  exact eqf_last (by rfl) (by go_simp; rfl) (by go_simp; rfl) (by go_simp)
end Go.Proofs.Ytngocadnbpdnoaa.Q
namespace Go.Proofs.Ytngocadnbpdnoaa.Q
open Go.RowKit Go.Proofs.YtngocadnbpdnoaaW.PrintWords Go.Proofs.YtngocadnbpdnoaaW.PrintLast Go.Proofs.YtngocadnbpdnoaaW.PrintMore
attribute [local go_sem] max2_int min2_int max_two min_two max_three min_three max_four min_four   -- for this text's walks alone
set_option linter.unusedVariables false
set_option linter.unusedSimpArgs false

attribute [local go_sem high] eqA90
def api_Pair.l0 : Nat → List (S90) → List (S90) → Int → Int → Option (Bool)
  | 0, _, _, _, _ => none
  | k + 1, x0, x1, x12, x13 => if x13 < x12 then (if 0 ≤ x13 then (if x13 < (x0.length : Int) then (if x13 < (x1.length : Int) then (if (!(((rd_T90 x0 x13).f0) == ((rd_T90 x1 x13).f0)) || (!(((rd_T90 x0 x13).f1) == ((rd_T90 x1 x13).f1)))) = true then (some false) else (api_Pair.l0 k x0 x1 x12 (wrap64 (x13 + 1)))) else (none)) else (none)) else (none)) else (some true)
def api_Pair.f (k : Nat) (l0 : List (S90)) (l1 : List (S90)) : Option (Bool) := if (l0.length : Int) = (l1.length : Int) then (api_Pair.l0 k l0 l1 (l0.length : Int) 0) else (some false)
theorem api_Pair.mono_l : ∀ k, (∀ y0 y1 y2 y3, LeO (api_Pair.l0 k y0 y1 y2 y3) (api_Pair.l0 (k + 1) y0 y1 y2 y3))
  | 0 => fun _ _ _ _ r h => by simp [api_Pair.l0] at h
  | k + 1 => by
    have ih0 := api_Pair.mono_l k
    · intro y0 y1 y2 y3
      unfold api_Pair.l0
      repeat' first
      | (with_reducible exact ih0 _ _ _ _)
      | (with_reducible exact LeO.refl _)
      | (with_reducible exact LeO.none _)
      | (with_reducible refine LeO.ite ?_ ?_)
      | (with_reducible refine LeO.bind ?_ (fun _ => ?_))
      | exact ih0 _ _ _ _
      | exact LeO.none _
      | refine LeO.ite ?_ ?_
      | refine LeO.bind ?_ (fun _ => ?_)
theorem api_Pair.mono : ∀ a0 a1 k, LeO (api_Pair.f k a0 a1) (api_Pair.f (k + 1) a0 a1) := by
  intro a0 a1 k
  have ih0 := api_Pair.mono_l k
  unfold api_Pair.f
  repeat' first
      | (with_reducible exact ih0 _ _ _ _)
      | (with_reducible exact LeO.refl _)
      | (with_reducible exact LeO.none _)
      | (with_reducible refine LeO.ite ?_ ?_)
      | (with_reducible refine LeO.bind ?_ (fun _ => ?_))
      | exact ih0 _ _ _ _
      | exact LeO.none _
      | refine LeO.ite ?_ ?_
      | refine LeO.bind ?_ (fun _ => ?_)
set_option maxHeartbeats 8000000 in
set_option maxRecDepth 100000 in
theorem api_Pair.calls (k : Nat) (A0 : Option Addr) (c0 : Nat) (l0 : List (S90)) (A1 : Option Addr) (c1 : Nat) (l1 : List (S90)) (r : Bool) (w : World) (hr0 : Kd.C k90 w A0 l0.length l0) (hc0 : l0.length ≤ c0) (hr1 : Kd.C k90 w A1 l1.length l1) (hc1 : l1.length ≤ c1) (h : api_Pair.f k l0 l1 = some r) :
    Calls Try.prog 34 #[.slice A0 l0.length c0, .slice A1 l1.length c1] w fun e w' => e = .returned (.bool r) ∧ Drawn0 w w' := by
  have hu90 := Try.underlying90
  have HR0 := Aside0.mk hr0
  have HC0 := Aside0.mk hc0
  clear hr0 hc0
  have HR1 := Aside0.mk hr1
  have HC1 := Aside0.mk hc1
  clear hr1 hc1
  have H : (if (l0.length : Int) = (l1.length : Int) then (api_Pair.l0 k l0 l1 (l0.length : Int) 0) else (some false)) = some r := h
  clear h
  by_cases c3 : (l0.length : Int) = (l1.length : Int)
  · rw [if_pos c3] at H
    have c3b0 : ((l0.length : Int) == (l1.length : Int)) = true := beq_iff_eq.mpr c3
    have c3b1 : ((l0.length : Int) != (l1.length : Int)) = false := bne_eq_false_iff_eq.mpr c3
    have c3b2 : (l0.length == l1.length) = true := by first | simpa using c3 | (simp at c3 ⊢; omega)
    clear c3
    have H' := Aside0.mk H
    clear H
    go_enter Try.func34, Try.ntmps34
    go_wp2
    repeat (go_quiet (fail); try go_wp2)
    go_loopg [13] k (fun kq v13 w' => ∃ (x13_1 : Int), v13 = .int .i64 x13_1 ∧ Aside0 (api_Pair.l0 kq l0 l1 (l0.length : Int) x13_1 = some r) ∧ Aside0 (kq ≤ k) ∧ Drawn0 w w')
    case atStart => exact ⟨(0), (by first | rfl | (simp; done) | (simp [*]; done)), H', ⟨Nat.le_refl _⟩, by repeat (first | exact Drawn0.refl _ | apply Drawn0.step)⟩
    case round =>
      clear H'
      try clear c1
      try clear p2
      try clear c3
      try clear c3b0
      try clear c3b1
      try clear c3b2
      obtain ⟨x13_1, rfl, HA, HK1, ⟨m1, rfl⟩⟩ := hrel
      cases gk with
      | zero => exact absurd HA.out (by simp [api_Pair.l0])
      | succ k1 =>
        have H := HA.out
        clear HA
        simp only [api_Pair.l0] at H
        by_cases c4 : x13_1 < (l0.length : Int)
        · rw [if_pos c4] at H
          have c4b0 : decide (x13_1 < (l0.length : Int)) = true := decide_eq_true c4
          clear c4
          by_cases c5 : 0 ≤ x13_1
          · rw [if_pos c5] at H
            have c5b0 : decide (0 ≤ x13_1) = true := decide_eq_true c5
            clear c5
            by_cases c6 : x13_1 < (l0.length : Int)
            · rw [if_pos c6] at H
              have c6b0 : decide (x13_1 < (l0.length : Int)) = true := decide_eq_true c6
              clear c6
              by_cases c7 : x13_1 < (l1.length : Int)
              · rw [if_pos c7] at H
                have c7b0 : decide (x13_1 < (l1.length : Int)) = true := decide_eq_true c7
                clear c7
                by_cases c8 : (!(((rd_T90 l0 x13_1).f0) == ((rd_T90 l1 x13_1).f0)) || (!(((rd_T90 l0 x13_1).f1) == ((rd_T90 l1 x13_1).f1)))) = true
                · rw [if_pos c8] at H
                  have c8b0 : (!(((rd_T90 l0 x13_1).f0) == ((rd_T90 l1 x13_1).f0)) || (!(((rd_T90 l0 x13_1).f1) == ((rd_T90 l1 x13_1).f1)))) = true := c8
                  clear c8
                  obtain rfl := Option.some.inj H
                  have p101 : 0 ≤ (x13_1 : Int) := of_decide_eq_true (by first | (with_reducible assumption) | assumption)
                  have q101 : x13_1 < (l0.length : Int) := of_decide_eq_true (by first | (with_reducible assumption) | assumption)
                  obtain ⟨ad101, e101, hx101_0, hx101_1⟩ := at_T90 HR0.out x13_1 p101 q101
                  cases e101
                  replace p101 := eq_true p101
                  replace q101 := eq_true q101
                  have p102 : 0 ≤ (x13_1 : Int) := of_decide_eq_true (by first | (with_reducible assumption) | assumption)
                  have q102 : x13_1 < (l1.length : Int) := of_decide_eq_true (by first | (with_reducible assumption) | assumption)
                  obtain ⟨ad102, e102, hx102_0, hx102_1⟩ := at_T90 HR1.out x13_1 p102 q102
                  cases e102
                  replace p102 := eq_true p102
                  replace q102 := eq_true q102
                  go_wp2
                  repeat (go_quiet (fail); try go_wp2)
                  go_ret
                  exact ⟨by first | rfl | (simp; done) | (simp [*]; done), by repeat (first | exact Drawn0.refl _ | apply Drawn0.step)⟩
                · rw [if_neg c8] at H
                  have c8b0 : (!(((rd_T90 l0 x13_1).f0) == ((rd_T90 l1 x13_1).f0)) || (!(((rd_T90 l0 x13_1).f1) == ((rd_T90 l1 x13_1).f1)))) = false := by simpa using c8
                  clear c8
                  have H' := Aside0.mk H
                  clear H
                  have p101 : 0 ≤ (x13_1 : Int) := of_decide_eq_true (by first | (with_reducible assumption) | assumption)
                  have q101 : x13_1 < (l0.length : Int) := of_decide_eq_true (by first | (with_reducible assumption) | assumption)
                  obtain ⟨ad101, e101, hx101_0, hx101_1⟩ := at_T90 HR0.out x13_1 p101 q101
                  cases e101
                  replace p101 := eq_true p101
                  replace q101 := eq_true q101
                  have p102 : 0 ≤ (x13_1 : Int) := of_decide_eq_true (by first | (with_reducible assumption) | assumption)
                  have q102 : x13_1 < (l1.length : Int) := of_decide_eq_true (by first | (with_reducible assumption) | assumption)
                  obtain ⟨ad102, e102, hx102_0, hx102_1⟩ := at_T90 HR1.out x13_1 p102 q102
                  cases e102
                  replace p102 := eq_true p102
                  replace q102 := eq_true q102
                  go_wp2
                  repeat (go_quiet (fail); try go_wp2)
                  go_roundg k1
                  case measure => have := HK1.out; omega
                  case rel => exact ⟨(wrap64 (x13_1 + 1)), (by first | rfl | (simp; done) | (simp [*]; done)), H', ⟨by have := HK1.out; omega⟩, by repeat (first | exact Drawn0.refl _ | apply Drawn0.step)⟩
              · rw [if_neg c7] at H
                exact absurd H (by simp)
            · rw [if_neg c6] at H
              exact absurd H (by simp)
          · rw [if_neg c5] at H
            exact absurd H (by simp)
        · rw [if_neg c4] at H
          have c4b0 : decide (x13_1 < (l0.length : Int)) = false := decide_eq_false c4
          clear c4
          obtain rfl := Option.some.inj H
          go_wp2
          repeat (go_quiet (fail); try go_wp2)
          go_ret
          exact ⟨by first | rfl | (simp; done) | (simp [*]; done), by repeat (first | exact Drawn0.refl _ | apply Drawn0.step)⟩
  · rw [if_neg c3] at H
    have c3b0 : ((l0.length : Int) == (l1.length : Int)) = false := beq_eq_false_iff_ne.mpr c3
    have c3b1 : ((l0.length : Int) != (l1.length : Int)) = true := bne_iff_ne.mpr c3
    have c3b2 : (l0.length == l1.length) = false := by first | simpa using c3 | (simp at c3 ⊢; omega)
    obtain rfl := Option.some.inj H
    go_enter Try.func34, Try.ntmps34
    go_wp2
    repeat (go_quiet (fail); try go_wp2)
    go_ret
    exact ⟨by first | rfl | (simp; done) | (simp [*]; done), by repeat (first | exact Drawn0.refl _ | apply Drawn0.step)⟩

end Go.Proofs.Ytngocadnbpdnoaa.Q
namespace Go.Proofs.Ytngocadnbpdnoaa.Mo
open Go Go.Maps Go.RowKit Go.Proofs.Ytngocadnbpdnoaa.Srt Go.Proofs.Ytngocadnbpdnoaa.Q Go.Proofs.YtngocadnbpdnoaaW.PrintWords Go.Proofs.YtngocadnbpdnoaaW.PrintLast Go.Proofs.YtngocadnbpdnoaaW.PrintMore
set_option linter.unusedVariables false
set_option linter.unusedSimpArgs false
instance decSP : DecidableEq SP := fun a b => decidable_of_iff (a.f0 = b.f0 ∧ a.f1 = b.f1) (by cases a; cases b; simp)
theorem rd_get {xs : List SP} {i : Nat} (h : i < xs.length) : rd_T90 xs (i : Int) = xs[i] := by
  unfold rd_T90
  simp [List.getD_eq_getElem?_getD, h]
theorem pair_ne {a b : SP} : ((!(a.f0 == b.f0)) || (!(a.f1 == b.f1))) = true ↔ ¬ a = b := by
  rcases a with ⟨a0, a1⟩
  rcases b with ⟨b0, b1⟩
  by_cases h0 : a0 = b0 <;> by_cases h1 : a1 = b1 <;> simp [h0, h1]
theorem drop_iff {x0 x1 : List SP} {i : Nat} (h0 : i < x0.length) (h1 : i < x1.length) : x0.drop i = x1.drop i ↔ x0[i] = x1[i] ∧ x0.drop (i + 1) = x1.drop (i + 1) := by
  rw [List.drop_eq_getElem_cons h0, List.drop_eq_getElem_cons h1, List.cons.injEq]
theorem samP_l0 (x0 x1 : List SP) (hl : x0.length = x1.length) (hm : x0.length ≤ 4398046511104) : ∀ m i : Nat, i + m = x0.length → api_Pair.l0 (m + 1) x0 x1 (x0.length : Int) (i : Int) = some (decide (x0.drop i = x1.drop i))
  | 0, i, e => by
    unfold api_Pair.l0
    rw [if_neg (by omega)]
    rw [List.drop_eq_nil_of_le (by omega), List.drop_eq_nil_of_le (by omega)]; simp
  | m + 1, i, e => by
    unfold api_Pair.l0
    have h0 : i < x0.length := by omega
    have h1 : i < x1.length := by omega
    rw [if_pos (by omega), if_pos (by omega), if_pos (by omega), if_pos (by omega), rd_get h0, rd_get h1]
    by_cases hd : x0[i] = x1[i]
    · rw [if_neg (by rw [pair_ne]; simpa using hd), show wrap64 ((i : Int) + 1) = ((i + 1 : Nat) : Int) by unfold wrap64; omega, samP_l0 x0 x1 hl hm m (i + 1) (by omega)]
      simp [drop_iff h0 h1, hd]
    · rw [if_pos (pair_ne.2 hd)]
      simp [drop_iff h0 h1, hd]
theorem samP_f (x0 x1 : List SP) (hm : x0.length ≤ 4398046511104) : ∃ k, api_Pair.f k x0 x1 = some (decide (x0 = x1)) := by
  unfold api_Pair.f
  by_cases hl : x0.length = x1.length
  · exact ⟨x0.length + 1, by rw [if_pos (by omega)]; simpa using samP_l0 x0 x1 hl hm x0.length 0 (by omega)⟩
  · exact ⟨0, by rw [if_neg (by omega)]; simp; intro e; exact hl (by rw [e])⟩
abbrev AnS := S26
def anV (x : AnS) (A : Option Addr) (c : Nat) : Value := .agg #[.int .i64 x.f0, .bool x.f1, .int .u64 x.f2, .bool x.f3, .int .u64 x.f4, .slice A x.f5.length c, .int .u64 x.f6]
def anEq (x y : AnS) : Bool := decide (x.f5 = y.f5) && (x.f0 == y.f0) && (x.f1 == y.f1) && (x.f2 == y.f2) && (x.f3 == y.f3) && (x.f4 == y.f4) && (x.f6 == y.f6)
theorem eqP_c (x y : List SP) (A B : Option Addr) (c d : Nat) (w : World) (hA : Kd.C k90 w A x.length x) (hc : x.length ≤ c) (hB : Kd.C k90 w B y.length y) (hd : y.length ≤ d) (hm : x.length ≤ 4398046511104) (b : Bool) (hb : b = decide (x = y)) :
    Calls Try.prog 34 #[.slice A x.length c, .slice B y.length d] w fun e w' => e = .returned (.bool b) ∧ Drawn0 w w' := by
  obtain ⟨k, hk⟩ := samP_f x y hm
  rw [← hb] at hk
  exact api_Pair.calls k A c x B d y b w hA hc hB hd hk
set_option maxRecDepth 100000 in
set_option maxHeartbeats 8000000 in
theorem sameAns_c (x y : AnS) (A B : Option Addr) (c d : Nat) (w : World) (hA : Kd.C k90 w A x.f5.length x.f5) (hc : x.f5.length ≤ c) (hB : Kd.C k90 w B y.f5.length y.f5) (hd : y.f5.length ≤ d) (hm : x.f5.length ≤ 4398046511104) :
    Calls Try.prog 12 #[anV x A c, anV y B d] w fun e w' => e = .returned (.bool (anEq x y)) ∧ Below w.heap.size w w' := by
  obtain ⟨b5, hb5⟩ : ∃ b, b = decide (x.f5 = y.f5) := ⟨_, rfl⟩
  have HB5 := Lib.hid hb5
  obtain ⟨W0, hW0⟩ : ∃ W0, W0 = (w.alloc (.cells (ansC x.f0 x.f1 x.f2 x.f3 x.f4 (.slice A x.f5.length c) x.f6) 26)).alloc (.cells (ansC y.f0 y.f1 y.f2 y.f3 y.f4 (.slice B y.f5.length d) y.f6) 26) := ⟨_, rfl⟩
  have HW := Lib.hid hW0
  have hb1 : Below w.heap.size w W0 := by rw [hW0]; exact below_alloc (below_alloc (Below.refl _ w) _) _
  have hn1 : W0.heap[w.heap.size]? = some (.cells (ansC x.f0 x.f1 x.f2 x.f3 x.f4 (.slice A x.f5.length c) x.f6) 26 (0, 0)) := by
    rw [hW0]
    exact ((below_alloc (Below.refl _ (w.alloc (.cells (ansC x.f0 x.f1 x.f2 x.f3 x.f4 (.slice A x.f5.length c) x.f6) 26))) (.cells (ansC y.f0 y.f1 y.f2 y.f3 y.f4 (.slice B y.f5.length d) y.f6) 26)).block _ (by simp)).trans (heap_alloc_new w _)
  have hn2 : W0.heap[w.heap.size + 1]? = some (.cells (ansC y.f0 y.f1 y.f2 y.f3 y.f4 (.slice B y.f5.length d) y.f6) 26 (0, 0)) := by
    rw [hW0]
    have := heap_alloc_new (w.alloc (.cells (ansC x.f0 x.f1 x.f2 x.f3 x.f4 (.slice A x.f5.length c) x.f6) 26)) (.cells (ansC y.f0 y.f1 y.f2 y.f3 y.f4 (.slice B y.f5.length d) y.f6) 26)
    simpa using this
  have HS := Lib.hid (eqP_c x.f5 y.f5 A B c d W0 (Kd.C_below hA hb1) hc (Kd.C_below hB hb1) hd hm b5 hb5)
  have HB := Lib.hid hb1
  obtain ⟨p0, p1, p2, p3, p4, p5, p6⟩ := ans_cells hn1
  obtain ⟨q0, q1, q2, q3, q4, q5, q6⟩ := ans_cells hn2
  clear hA hB hb1 hn1 hn2 hW0 hb5
  go_enter Try.func12, Try.ntmps12
  go_upto_region 1 with fail
  change Code.wp _ _ _ _ ((w.alloc (.cells (ansC x.f0 x.f1 x.f2 x.f3 x.f4 (.slice A x.f5.length c) x.f6) 26)).alloc (.cells (ansC y.f0 y.f1 y.f2 y.f3 y.f4 (.slice B y.f5.length d) y.f6) 26))
  rw [← HW.out]
  cases b5 with
  | false =>
    go_wp2_with (go_at_call 34; refine HS.out.mono ?_; rintro e w1 ⟨rfl, ⟨nd, rfl⟩⟩)
    go_ret
    exact ⟨congrArg (fun b => Ending.returned (.bool b)) (show false = anEq x y from (by unfold anEq; rw [← HB5.out]; try simp)), by first | exact HB.out | exact pw_below_drewN HB.out _⟩
  | true =>
    cases h0 : (x.f0 == y.f0) with
    | false =>
      go_wp2_with (go_at_call 34; refine HS.out.mono ?_; rintro e w1 ⟨rfl, ⟨nd, rfl⟩⟩)
      go_ret
      exact ⟨congrArg (fun b => Ending.returned (.bool b)) (show false = anEq x y from (by unfold anEq; rw [← HB5.out, h0]; try simp)), by first | exact HB.out | exact pw_below_drewN HB.out _⟩
    | true =>
      cases h1 : (x.f1 == y.f1) with
      | false =>
        go_wp2_with (go_at_call 34; refine HS.out.mono ?_; rintro e w1 ⟨rfl, ⟨nd, rfl⟩⟩)
        go_ret
        exact ⟨congrArg (fun b => Ending.returned (.bool b)) (show false = anEq x y from (by unfold anEq; rw [← HB5.out, h0, h1]; try simp)), by first | exact HB.out | exact pw_below_drewN HB.out _⟩
      | true =>
        cases h2 : (x.f2 == y.f2) with
        | false =>
          go_wp2_with (go_at_call 34; refine HS.out.mono ?_; rintro e w1 ⟨rfl, ⟨nd, rfl⟩⟩)
          go_ret
          exact ⟨congrArg (fun b => Ending.returned (.bool b)) (show false = anEq x y from (by unfold anEq; rw [← HB5.out, h0, h1, h2]; try simp)), by first | exact HB.out | exact pw_below_drewN HB.out _⟩
        | true =>
          cases h3 : (x.f3 == y.f3) with
          | false =>
            go_wp2_with (go_at_call 34; refine HS.out.mono ?_; rintro e w1 ⟨rfl, ⟨nd, rfl⟩⟩)
            go_ret
            exact ⟨congrArg (fun b => Ending.returned (.bool b)) (show false = anEq x y from (by unfold anEq; rw [← HB5.out, h0, h1, h2, h3]; try simp)), by first | exact HB.out | exact pw_below_drewN HB.out _⟩
          | true =>
            cases h4 : (x.f4 == y.f4) with
            | false =>
              go_wp2_with (go_at_call 34; refine HS.out.mono ?_; rintro e w1 ⟨rfl, ⟨nd, rfl⟩⟩)
              go_ret
              exact ⟨congrArg (fun b => Ending.returned (.bool b)) (show false = anEq x y from (by unfold anEq; rw [← HB5.out, h0, h1, h2, h3, h4]; try simp)), by first | exact HB.out | exact pw_below_drewN HB.out _⟩
            | true =>
              cases h6 : (x.f6 == y.f6) with
              | false =>
                go_wp2_with (go_at_call 34; refine HS.out.mono ?_; rintro e w1 ⟨rfl, ⟨nd, rfl⟩⟩)
                go_ret
                exact ⟨congrArg (fun b => Ending.returned (.bool b)) (show false = anEq x y from (by unfold anEq; rw [← HB5.out, h0, h1, h2, h3, h4, h6]; try simp)), by first | exact HB.out | exact pw_below_drewN HB.out _⟩
              | true =>
                go_wp2_with (go_at_call 34; refine HS.out.mono ?_; rintro e w1 ⟨rfl, ⟨nd, rfl⟩⟩)
                go_ret
                exact ⟨congrArg (fun b => Ending.returned (.bool b)) (show true = anEq x y from (by unfold anEq; rw [← HB5.out, h0, h1, h2, h3, h4, h6]; try simp)), by first | exact HB.out | exact pw_below_drewN HB.out _⟩
end Go.Proofs.Ytngocadnbpdnoaa.Mo
namespace Go.Proofs.Ytngocadnbpdnoaa.Mo
open Go Go.Maps Go.RowKit Go.Proofs.Ytngocadnbpdnoaa.Srt Go.Proofs.Ytngocadnbpdnoaa.Q Go.Proofs.YtngocadnbpdnoaaW.PrintWords Go.Proofs.YtngocadnbpdnoaaW.PrintLast Go.Proofs.YtngocadnbpdnoaaW.PrintMore
set_option linter.unusedVariables false
set_option linter.unusedSimpArgs false
def ansS (d : AnsD) : AnS := ⟨d.e, d.fo, d.v, d.dn, d.h, toS d.ps, d.c⟩
/-- Do's law for one operation and handle: what it does to a state, and what it tells. -/
def DoC (o : OpS) (hdl : Int) (st : MS → MS × AnsD) : Prop :=
  ∀ (f : Nat → Option PL) (N gp bn bh : Nat) (multi : Int) (now : PL) (held : List (Int × PL)) (A : Option Addr) (c : Nat) (w : World), PM w f N gp bn bh multi now held → Fro w f N → N ≤ 1099511627776 →
    Calls Try.prog 15 #[.pointer (some ⟨gp, 0, none⟩), .agg (opC o A c), .int .u64 hdl] w (DoPost w f (N + 1) gp bn bh (st ⟨multi, now, held⟩).1 (st ⟨multi, now, held⟩).2)
theorem op_cells {w : World} {g : Nat} {o : OpS} {A : Option Addr} {c : Nat} (hb : w.heap[g]? = some (.cells (opC o A c) 39 (0, 0))) :
    w.cell? ⟨g, 0, none⟩ = some (.int .u8 o.f0) ∧ w.cell? ⟨g, 1, none⟩ = some (.int .u64 o.f1) ∧ w.cell? ⟨g, 2, none⟩ = some (.int .u64 o.f2) ∧ w.cell? ⟨g, 3, none⟩ = some (.int .u64 o.f3) ∧ w.cell? ⟨g, 4, none⟩ = some (.int .u64 o.f4) ∧ w.cell? ⟨g, 5, none⟩ = some (.bool o.f5.f0) ∧ w.cell? ⟨g, 6, none⟩ = some (.int .i64 o.f5.f1) ∧ w.cell? ⟨g, 7, none⟩ = some (.int .i64 o.f5.f2) ∧ w.cell? ⟨g, 8, none⟩ = some (.slice A o.f6.length c) ∧ w.cell? ⟨g, 9, none⟩ = some (.int .u64 o.f7) ∧ w.cell? ⟨g, 10, none⟩ = some (.int .u64 o.f8) := by
  refine ⟨?_, ?_, ?_, ?_, ?_, ?_, ?_, ?_, ?_, ?_, ?_⟩ <;> (rw [blk_cell hb]; rfl)
/-- The worlds of Take: behind its boxes. -/
def tkW (w : World) (o : OpS) (A : Option Addr) (c : Nat) (a : AnS) (B : Option Addr) (d : Nat) : World := (w.alloc (.cells (opC o A c) 39)).alloc (.cells (ansC a.f0 a.f1 a.f2 a.f3 a.f4 (.slice B a.f5.length d) a.f6) 26)
theorem tkW_below (w : World) (o : OpS) (A : Option Addr) (c : Nat) (a : AnS) (B : Option Addr) (d : Nat) : Below w.heap.size w (tkW w o A c a B d) := below_alloc (below_alloc (Below.refl _ _) _) _
theorem tkW_size (w : World) (o : OpS) (A : Option Addr) (c : Nat) (a : AnS) (B : Option Addr) (d : Nat) : (tkW w o A c a B d).heap.size = w.heap.size + 2 := by simp [tkW]
theorem tkW_op (w : World) (o : OpS) (A : Option Addr) (c : Nat) (a : AnS) (B : Option Addr) (d : Nat) : (tkW w o A c a B d).heap[w.heap.size]? = some (.cells (opC o A c) 39 (0, 0)) := by
  have h := heap_alloc_new w (.cells (opC o A c) 39)
  have hl : w.heap.size < (w.alloc (.cells (opC o A c) 39)).heap.size := by simp
  exact ((below_alloc (Below.refl _ (w.alloc (.cells (opC o A c) 39))) (.cells (ansC a.f0 a.f1 a.f2 a.f3 a.f4 (.slice B a.f5.length d) a.f6) 26)).block _ hl).trans h
theorem tkW_ans (w : World) (o : OpS) (A : Option Addr) (c : Nat) (a : AnS) (B : Option Addr) (d : Nat) : (tkW w o A c a B d).heap[w.heap.size + 1]? = some (.cells (ansC a.f0 a.f1 a.f2 a.f3 a.f4 (.slice B a.f5.length d) a.f6) 26 (0, 0)) := by
  have h := heap_alloc_new (w.alloc (.cells (opC o A c) 39)) (.cells (ansC a.f0 a.f1 a.f2 a.f3 a.f4 (.slice B a.f5.length d) a.f6) 26)
  simpa [tkW] using h
theorem Below.low {w W : World} {n : Nat} (h : Below n w W) (m : Nat) (hm : m ≤ n) : Below m w W := h.mono hm
end Go.Proofs.Ytngocadnbpdnoaa.Mo
namespace Go.Proofs.Ytngocadnbpdnoaa.Mo
open Go Go.Maps Go.RowKit Go.Proofs.Ytngocadnbpdnoaa.Srt Go.Proofs.Ytngocadnbpdnoaa.Q Go.Proofs.YtngocadnbpdnoaaW.PrintWords Go.Proofs.YtngocadnbpdnoaaW.PrintLast Go.Proofs.YtngocadnbpdnoaaW.PrintMore
set_option linter.unusedVariables false
set_option linter.unusedSimpArgs false
theorem cells18 {w' : World} {g : Nat} {o : OpS} {A : Option Addr} {c : Nat} {a : AnS} {B : Option Addr} {d : Nat} (h1 : w'.heap[g]? = some (.cells (opC o A c) 39 (0, 0))) (h2 : w'.heap[g + 1]? = some (.cells (ansC a.f0 a.f1 a.f2 a.f3 a.f4 (.slice B a.f5.length d) a.f6) 26 (0, 0))) :
    w'.cell? ⟨g, 0, none⟩ = some (.int .u8 o.f0) ∧ w'.cell? ⟨g, 1, none⟩ = some (.int .u64 o.f1) ∧ w'.cell? ⟨g, 2, none⟩ = some (.int .u64 o.f2) ∧ w'.cell? ⟨g, 3, none⟩ = some (.int .u64 o.f3) ∧ w'.cell? ⟨g, 4, none⟩ = some (.int .u64 o.f4) ∧ w'.cell? ⟨g, 5, none⟩ = some (.bool o.f5.f0) ∧ w'.cell? ⟨g, 6, none⟩ = some (.int .i64 o.f5.f1) ∧ w'.cell? ⟨g, 7, none⟩ = some (.int .i64 o.f5.f2) ∧ w'.cell? ⟨g, 8, none⟩ = some (.slice A o.f6.length c) ∧ w'.cell? ⟨g, 9, none⟩ = some (.int .u64 o.f7) ∧ w'.cell? ⟨g, 10, none⟩ = some (.int .u64 o.f8) ∧ w'.cell? ⟨g + 1, 0, none⟩ = some (.int .i64 a.f0) ∧ w'.cell? ⟨g + 1, 1, none⟩ = some (.bool a.f1) ∧ w'.cell? ⟨g + 1, 2, none⟩ = some (.int .u64 a.f2) ∧ w'.cell? ⟨g + 1, 3, none⟩ = some (.bool a.f3) ∧ w'.cell? ⟨g + 1, 4, none⟩ = some (.int .u64 a.f4) ∧ w'.cell? ⟨g + 1, 5, none⟩ = some (.slice B a.f5.length d) ∧ w'.cell? ⟨g + 1, 6, none⟩ = some (.int .u64 a.f6) := by
  obtain ⟨q0, q1, q2, q3, q4, q5, q6, q7, q8, q9, q10⟩ := op_cells h1
  obtain ⟨p0, p1, p2, p3, p4, p5, p6⟩ := ans_cells h2
  exact ⟨q0, q1, q2, q3, q4, q5, q6, q7, q8, q9, q10, p0, p1, p2, p3, p4, p5, p6⟩
set_option maxRecDepth 100000 in
set_option maxHeartbeats 16000000 in
theorem take_rest (o : OpS) (a : AnS) (A B : Option Addr) (c d : Nat) (st : MS → MS × AnsD) (hD : DoC o 0 st) (f : Nat → Option PL) (N gp bn bh : Nat) (multi : Int) (now : PL) (held : List (Int × PL)) (w : World) (hM : PM w f N gp bn bh multi now held) (hF : Fro w f N) (hN : N + 1 ≤ 1099511627776)
    (hC : ∀ W', Kept w W' (fun k => k = bn ∨ k = bh) → Kd.C k90 W' B a.f5.length a.f5) (hd : a.f5.length ≤ d) (ho : ∀ k : Int, 2 ≤ k → k ≤ 10 → k ≠ 6 → (o.f0 == k) = false) (hps : (st ⟨multi, now, held⟩).2.ps.length ≤ 4398046511104) :
    Calls Try.prog 22 #[.pointer (some ⟨gp, 0, none⟩), .agg (opC o A c), anV a B d] w fun e w' => e = .returned (.bool (anEq (ansS (st ⟨multi, now, held⟩).2) a)) ∧ Left w w' f (N + 2) gp bn bh (if anEq (ansS (st ⟨multi, now, held⟩).2) a = true then (st ⟨multi, now, held⟩).1 else ⟨multi, now, held⟩).multi (if anEq (ansS (st ⟨multi, now, held⟩).2) a = true then (st ⟨multi, now, held⟩).1 else ⟨multi, now, held⟩).now (if anEq (ansS (st ⟨multi, now, held⟩).2) a = true then (st ⟨multi, now, held⟩).1 else ⟨multi, now, held⟩).held (fun k => k = bn ∨ k = bh) := by
  have hgl := hM.gl
  have hnl := hM.now.lt
  have hhl := hM.held.1.lt
  have q2 := ho 2 (by omega) (by omega) (by omega)
  have q3 := ho 3 (by omega) (by omega) (by omega)
  have q4 := ho 4 (by omega) (by omega) (by omega)
  have q5 := ho 5 (by omega) (by omega) (by omega)
  have q7 := ho 7 (by omega) (by omega) (by omega)
  have q8 := ho 8 (by omega) (by omega) (by omega)
  have q9 := ho 9 (by omega) (by omega) (by omega)
  have q10 := ho 10 (by omega) (by omega) (by omega)
  have hb0 := tkW_below w o A c a B d
  have hO0 := tkW_op w o A c a B d
  have hA0 := tkW_ans w o A c a B d
  have hk0 : (tkW w o A c a B d).cell? ⟨w.heap.size, 0, none⟩ = some (.int .u8 o.f0) := (op_cells hO0).1
  have hs0 := tkW_size w o A c a B d
  have HM := Lib.hid hM
  have HF := Lib.hid hF
  have HC := Lib.hid hC
  have HD := Lib.hid hD
  have HB0 := Lib.hid hb0
  have HO0 := Lib.hid hO0
  have HA0 := Lib.hid hA0
  clear hM hF hC hD ho hb0 hO0 hA0
  obtain ⟨s, hs⟩ : ∃ s : MS, s = ⟨multi, now, held⟩ := ⟨_, rfl⟩
  rw [← hs] at hps ⊢
  have HS := Lib.hid hs
  obtain ⟨D, hDD⟩ : ∃ D : AnsD, D = (st s).2 := ⟨_, rfl⟩
  rw [← hDD] at hps ⊢
  have HDD := Lib.hid hDD
  clear hs hDD
  go_enter Try.func22, Try.ntmps22
  go_upto_region 4 with fail
  change Code.wp _ _ _ _ (tkW w o A c a B d)
  obtain ⟨W0, hW0⟩ : ∃ W0, W0 = tkW w o A c a B d := ⟨_, rfl⟩
  rw [← hW0] at HB0 HO0 HA0 hk0 hs0 ⊢
  clear hW0
  go_upto_region 26 with (go_at_call 30; (refine (fork_c f N gp bn bh multi now held W0 (HM.out.kept (Kept.of_below HB0.out (fun _ => False)) (fun e => e) (fun e => e) (fun e => e)) (HF.out.kept (Kept.of_below HB0.out (fun _ => False)) (fun _ _ _ e => e)) (by omega)).mono ?_; rintro e w1 ⟨gq, bm, bi, rfl, f1, hE1, hP1, hF1, hB1, hq1, hq2, hq3⟩))
  have hbw1 : Below w.heap.size w w1 := HB0.out.trans (hB1.mono HB0.out.size)
  have HO1 : Hid (w1.drew.heap[w.heap.size]? = some (.cells (opC o A c) 39 (0, 0))) := Lib.hid ((hB1.block _ (by omega)).trans HO0.out)
  have HA1 : Hid (w1.drew.heap[w.heap.size + 1]? = some (.cells (ansC a.f0 a.f1 a.f2 a.f3 a.f4 (.slice B a.f5.length d) a.f6) 26 (0, 0))) := Lib.hid ((hB1.block _ (by omega)).trans HA0.out)
  have HP1 := Lib.hid hP1
  have HF1 := Lib.hid hF1
  have HE1 := Lib.hid hE1
  have HB1 := Lib.hid hbw1
  have HS1 : Hid (W0.heap.size ≤ w1.drew.heap.size) := Lib.hid hB1.size
  clear hP1 hF1 hE1 hbw1 hB1
  have hS1 := cells18 HO1.out HA1.out
  go_region_held3 (fun w' => w'.cell? ⟨w.heap.size, 0, none⟩ = some (.int .u8 o.f0) ∧ w'.cell? ⟨w.heap.size, 1, none⟩ = some (.int .u64 o.f1) ∧ w'.cell? ⟨w.heap.size, 2, none⟩ = some (.int .u64 o.f2) ∧ w'.cell? ⟨w.heap.size, 3, none⟩ = some (.int .u64 o.f3) ∧ w'.cell? ⟨w.heap.size, 4, none⟩ = some (.int .u64 o.f4) ∧ w'.cell? ⟨w.heap.size, 5, none⟩ = some (.bool o.f5.f0) ∧ w'.cell? ⟨w.heap.size, 6, none⟩ = some (.int .i64 o.f5.f1) ∧ w'.cell? ⟨w.heap.size, 7, none⟩ = some (.int .i64 o.f5.f2) ∧ w'.cell? ⟨w.heap.size, 8, none⟩ = some (.slice A o.f6.length c) ∧ w'.cell? ⟨w.heap.size, 9, none⟩ = some (.int .u64 o.f7) ∧ w'.cell? ⟨w.heap.size, 10, none⟩ = some (.int .u64 o.f8) ∧ w'.cell? ⟨w.heap.size + 1, 0, none⟩ = some (.int .i64 a.f0) ∧ w'.cell? ⟨w.heap.size + 1, 1, none⟩ = some (.bool a.f1) ∧ w'.cell? ⟨w.heap.size + 1, 2, none⟩ = some (.int .u64 a.f2) ∧ w'.cell? ⟨w.heap.size + 1, 3, none⟩ = some (.bool a.f3) ∧ w'.cell? ⟨w.heap.size + 1, 4, none⟩ = some (.int .u64 a.f4) ∧ w'.cell? ⟨w.heap.size + 1, 5, none⟩ = some (.slice B a.f5.length d) ∧ w'.cell? ⟨w.heap.size + 1, 6, none⟩ = some (.int .u64 a.f6))
    (first | go_keep | exact hS1 | exact cells18 HO2.out HA2.out | exact cells18 HO3.out HA3.out)
    (first
      | (go_at_call 15; refine (HD.out f1 N gq bm bi multi now held A c w1.drew (HP1.out.kept (Kept.of_below (below_drew (Below.refl _ w1)) (fun _ => False)) (fun e => e) (fun e => e) (fun e => e)) (HF1.out.kept (Kept.of_below (below_drew (Below.refl _ w1)) (fun _ => False)) (fun _ _ _ e => e)) (by omega)).mono ?_; rintro e w2 ⟨ps, rfl, hR2, f2, hE2, hP2, hF2, hK2'⟩
         rw [← HS.out, ← HDD.out] at hR2
         rw [← HS.out, ← HDD.out]
         obtain ⟨A2, c2, rfl⟩ := Kd.R_slice hR2
         have hK2 := hK2'.kept
         have hK1 : KO w w2 (fun _ => False) := (KO.of_below (below_drew HB1.out) (fun _ => False)).then_ hK2' (fun k e => .inr (by omega))
         have HO2 := Lib.hid (blk_kept (W2 := w2) HO1.out hK2 (show ¬ (w.heap.size = bm ∨ w.heap.size = bi) by omega))
         have HA2 := Lib.hid (blk_kept (W2 := w2) HA1.out hK2 (show ¬ (w.heap.size + 1 = bm ∨ w.heap.size + 1 = bi) by omega))
         have HF2 := Lib.hid hF2
         have HE2 := Lib.hid (HE1.out.trans hE2 HS1.out)
         have HK1 := Lib.hid hK1
         have HK12 := Lib.hid hK2.1
         have HR2 := Lib.hid hR2
         clear hF2 hE2 hK1 hR2 hP2 hK2 hK2')
      | (go_at_call 12; refine (sameAns_c (ansS D) a A2 B c2 d w2 (Kd.R_reads' HR2.out).2.2 (Kd.R_reads' HR2.out).2.1 (HC.out w2 (HK1.out.kept.mono (fun _ e => e.elim))) hd (by simp only [ansS, toS_length]; exact hps)).mono ?_; rintro e w3 ⟨rfl, hB3⟩
         have HO3 := Lib.hid ((hB3.block _ (blk_lt HO2.out)).trans HO2.out)
         have HA3 := Lib.hid ((hB3.block _ (blk_lt HA2.out)).trans HA2.out)
         have HK3 := Lib.hid (HK1.out.below hB3)
         have HB3 := Lib.hid hB3
         clear hB3))
  have hs3 : W0.heap.size ≤ w3.heap.size := Nat.le_trans HS1.out (Nat.le_trans HK12.out HB3.out.size)
  have he2 : Ext w.heap.size f f2 := ⟨HE2.out.1, fun b l e => (HE2.out.2 b l e).imp id (fun h => Nat.le_trans HB0.out.size h)⟩
  have hP3 : PM w3 f2 N gp bn bh multi now held := ((HM.out.kept HK3.out.kept (fun e => e) (fun e => e) (fun e => e)).ext he2 hnl hhl)
  have hF3 : Fro w3 f2 (N + 1) := HF2.out.kept (Kept.of_below HB3.out (fun _ => False)) (fun _ _ _ e => e)
  have HP3 := Lib.hid hP3
  have HF3 := Lib.hid hF3
  have HE3 := Lib.hid he2
  clear hP3 hF3 he2
  by_cases hq : anEq (ansS D) a = true
  case neg =>
    have hq' : anEq (ansS D) a = false := by simpa using hq
    clear hq
    rw [hq']
    go_wp2_with fail
    all_goals go_ret
    all_goals rw [HS.out]
    all_goals exact ⟨rfl, f2, HE3.out, HP3.out.mono (by omega), HF3.out.mono (by omega), HK3.out.mono (fun _ e => e.elim)⟩
  case pos =>
    rw [hq]
    have hS3 := cells18 HO3.out HA3.out
    go_split_ands
    go_wp2_with (go_at_call 15; refine (HD.out f2 (N + 1) gp bn bh multi now held A c w3 (HP3.out.mono (by omega)) HF3.out (by omega)).mono ?_; rintro e w4 ⟨ps4, rfl, hR4, f4, hE4, hP4, hF4, hK4⟩)
    all_goals go_ret
    all_goals rw [← HS.out] at hP4
    all_goals exact ⟨rfl, f4, HE3.out.trans hE4 HK3.out.kept.1, hP4, hF4, (HK3.out.mono (fun _ e => e.elim)).then_ hK4 (fun k e => .inl e)⟩
end Go.Proofs.Ytngocadnbpdnoaa.Mo
namespace Go.Proofs.Ytngocadnbpdnoaa.Mo
open Go Go.Maps Go.RowKit Go.Proofs.Ytngocadnbpdnoaa.Srt Go.Proofs.Ytngocadnbpdnoaa.Q Go.Proofs.YtngocadnbpdnoaaW.PrintWords Go.Proofs.YtngocadnbpdnoaaW.PrintLast Go.Proofs.YtngocadnbpdnoaaW.PrintMore
set_option linter.unusedVariables false
set_option linter.unusedSimpArgs false
set_option maxRecDepth 100000 in
set_option maxHeartbeats 8000000 in
theorem do_put (f : Nat → Option PL) (N gp bn bh : Nat) (multi : Int) (now : PL) (held : List (Int × PL)) (o : OpS) (A : Option Addr) (c : Nat) (hdl : Int) (w : World) (hM : PM w f N gp bn bh multi now held) (hF : Fro w f N) (hO : OpWf o) (hh : u64wf hdl) (hN : N ≤ 1099511627776) (hk : o.f0 = 2) :
    Calls Try.prog 15 #[.pointer (some ⟨gp, 0, none⟩), .agg (opC o A c), .int .u64 hdl] w (DoPost w f (N + 1) gp bn bh ⟨multi, put now o.f1 o.f2, held⟩ (foundD ⟨multi, now, held⟩ o)) := by
  have hgl := hM.gl
  have hnl := hM.now.lt
  have hhl := hM.held.1.lt
  have HM := Lib.hid hM
  have HF := Lib.hid hF
  have HO := Lib.hid hO
  have HU := Lib.hid hh
  have hb0 : Below w.heap.size w (doW w o A c).drew := below_drew (doW_below w o A c)
  have hP0 := hM.kept (Kept.of_below hb0 (fun _ => False)) (fun e => e) (fun e => e) (fun e => e)
  have HS : (fun w' : World => w'.cell? ⟨gp, 1, none⟩ = some (.map (some bn)) ∧ w'.cell? ⟨w.heap.size, 1, none⟩ = some (.int .u64 o.f1) ∧ (Instr.lookup 97 (.map (some bn)) (.int .u64 o.f1) true).run Try.prog w' = .ok (.tuple #[.int .u64 ((fnd now o.f1).getD 0), .bool (fnd now o.f1).isSome]) w') (doW w o A c).drew :=
    ⟨hP0.c1, by rw [blk_cell (w := (doW w o A c).drew) (doW_op w o A c)]; rfl, now_look hP0.now hO.key⟩
  obtain ⟨vh, hvh, hrunh⟩ := held_look (hM.held.kept (Kept.of_below (below_drew (below_alloc (below_drew (doW_below w o A c)) (.cells (ansC 0 (fnd now o.f1).isSome ((fnd now o.f1).getD 0) false 0 (.slice none 0 0) 0) 26))) (fun _ => False)) (fun e => e)) hO.han
  have hW2 : Below w.heap.size w ((doW w o A c).drew.alloc (.cells (ansC 0 (fnd now o.f1).isSome ((fnd now o.f1).getD 0) false 0 (.slice none 0 0) 0) 26)).drew := below_drew (below_alloc (below_drew (doW_below w o A c)) _)
  have hP2 := hM.kept (Kept.of_below hW2 (fun _ => False)) (fun e => e) (fun e => e) (fun e => e)
  have hs2 : (doW w o A c).drew.heap.size = w.heap.size + 2 := doW_size w o A c
  have hop2 : ((doW w o A c).drew.alloc (.cells (ansC 0 (fnd now o.f1).isSome ((fnd now o.f1).getD 0) false 0 (.slice none 0 0) 0) 26)).drew.heap[w.heap.size]? = some (.cells (opC o A c) 39 (0, 0)) := ((below_alloc (Below.refl _ (doW w o A c).drew) _).block _ (by rw [hs2]; omega)).trans (doW_op w o A c)
  have hra2 : ((doW w o A c).drew.alloc (.cells (ansC 0 (fnd now o.f1).isSome ((fnd now o.f1).getD 0) false 0 (.slice none 0 0) 0) 26)).drew.heap[w.heap.size + 1]? = some (.cells (ansC 0 false 0 false 0 (.slice none 0 0) 0) 26 (0, 0)) := ((below_alloc (Below.refl _ (doW w o A c).drew) _).block _ (by rw [hs2]; omega)).trans (doW_ans w o A c)
  have hfa2 : ((doW w o A c).drew.alloc (.cells (ansC 0 (fnd now o.f1).isSome ((fnd now o.f1).getD 0) false 0 (.slice none 0 0) 0) 26)).drew.heap[w.heap.size + 2]? = some (.cells (ansC 0 (fnd now o.f1).isSome ((fnd now o.f1).getD 0) false 0 (.slice none 0 0) 0) 26 (0, 0)) := by
    have := heap_alloc_new (doW w o A c).drew (.cells (ansC 0 (fnd now o.f1).isSome ((fnd now o.f1).getD 0) false 0 (.slice none 0 0) 0) 26)
    rw [hs2] at this
    exact this
  have HS2 : (fun w' : World => w'.cell? ⟨gp, 2, none⟩ = some (.map (some bh)) ∧ w'.cell? ⟨w.heap.size, 4, none⟩ = some (.int .u64 o.f4) ∧ (Instr.lookup 98 (.map (some bh)) (.int .u64 o.f4) true).run Try.prog w' = .ok (.tuple #[vh, .bool (fnd held o.f4).isSome]) w') ((doW w o A c).drew.alloc (.cells (ansC 0 (fnd now o.f1).isSome ((fnd now o.f1).getD 0) false 0 (.slice none 0 0) 0) 26)).drew :=
    ⟨hP2.c2, by rw [blk_cell hop2]; rfl, hrunh⟩
  have hkd : ((doW w o A c).drew.alloc (.cells (ansC 0 (fnd now o.f1).isSome ((fnd now o.f1).getD 0) false 0 (.slice none 0 0) 0) 26)).drew.cell? ⟨w.heap.size, 0, none⟩ = some (.int .u8 2) := by rw [blk_cell hop2, ← hk]; rfl
  have HVH := Lib.hid hvh
  have HW2 := Lib.hid hW2
  have HP2 := Lib.hid hP2
  have HOP2 := Lib.hid hop2
  have HRA2 := Lib.hid hra2
  have HFA2 := Lib.hid hfa2
  have hfnd0 : (fnd now o.f1).isSome = (fnd now o.f1).isSome := rfl
  obtain ⟨fo, hfo⟩ : ∃ b : Bool, b = (fnd now o.f1).isSome := ⟨_, rfl⟩
  obtain ⟨fv, hfv⟩ : ∃ v : Int, v = (fnd now o.f1).getD 0 := ⟨_, rfl⟩
  obtain ⟨hd, hhd⟩ : ∃ b : Bool, b = (fnd held o.f4).isSome := ⟨_, rfl⟩
  rw [← hfo, ← hfv] at HS HS2 HW2 HP2 HOP2 HRA2 HFA2 hkd
  rw [← hhd] at HS2
  have HFO := Lib.hid hfo
  have HFV := Lib.hid hfv
  have HHD := Lib.hid hhd
  clear hM hF hO hh hb0 hP0 hvh hrunh hW2 hP2 hs2 hop2 hra2 hfa2 hfnd0 hfo hfv hhd
  obtain ⟨W1, hW1⟩ : ∃ W1, W1 = doW w o A c := ⟨_, rfl⟩
  have HW1 := Lib.hid hW1
  rw [← hW1] at HS HS2 HW2 HP2 HOP2 HRA2 HFA2 hkd
  go_enter Try.func15, Try.ntmps15
  go_wp2_with fail
  change Code.wp _ _ _ _ (doW w o A c)
  rw [← hW1]
  clear hW1
  go_region_held3 (fun w' => w'.cell? ⟨gp, 1, none⟩ = some (.map (some bn)) ∧ w'.cell? ⟨w.heap.size, 1, none⟩ = some (.int .u64 o.f1) ∧ (Instr.lookup 97 (.map (some bn)) (.int .u64 o.f1) true).run Try.prog w' = .ok (.tuple #[.int .u64 fv, .bool fo]) w')
    (first | go_keep | exact HS)
    (first | fail | fail)
  clear HS
  have hs1 : W1.heap.size = w.heap.size + 2 := by rw [HW1.out]; exact doW_size w o A c
  go_wp2_with fail
  obtain ⟨W2, hW2⟩ : ∃ W2, W2 = W1.drew.alloc (Obj.cells (ansC 0 fo fv false 0 (Value.slice none 0 0) 0) 26) := ⟨_, rfl⟩
  change Code.wp _ _ _ _ (W1.drew.alloc (Obj.cells (ansC 0 fo fv false 0 (Value.slice none 0 0) 0) 26))
  rw [← hW2] at HS2 HW2 HP2 HOP2 HRA2 HFA2 hkd ⊢
  clear hW2
  go_region_held3 (fun w' => w'.cell? ⟨gp, 2, none⟩ = some (.map (some bh)) ∧ w'.cell? ⟨w.heap.size, 4, none⟩ = some (.int .u64 o.f4) ∧ (Instr.lookup 98 (.map (some bh)) (.int .u64 o.f4) true).run Try.prog w' = .ok (.tuple #[vh, .bool hd]) w')
    (first | go_keep | exact HS2)
    (first | fail | fail)
  clear HS2
  obtain ⟨W, hW⟩ : ∃ W, W = W2.drew := ⟨_, rfl⟩
  rw [← hW] at HW2 HP2 HOP2 HRA2 HFA2 hkd ⊢
  clear hW
  obtain ⟨w3, hrun3, ho3, hg3⟩ := now_put (w := W.drew) HP2.out.now HO.out.key HO.out.val (by unfold maxLen; omega)
  replace hg3 := grown_undrew hg3
  have HL3 := Lib.hid (left_now HP2.out (HF.out.kept (Kept.of_below HW2.out (fun _ => False)) (fun _ _ _ e => e)) HW2.out ho3 hg3)
  have hk3 : Kept W w3 (fun k => k = bn) := Kept.of_grown hg3 (Kept.refl _ _) (fun k e => .inl (by cases e; rfl))
  have hcA := HP2.out.c1
  have hcB : W.cell? ⟨w.heap.size, 1, none⟩ = some (.int .u64 o.f1) := by rw [blk_cell HOP2.out]; rfl
  have hcC : W.cell? ⟨w.heap.size, 2, none⟩ = some (.int .u64 o.f2) := by rw [blk_cell HOP2.out]; rfl
  have hdA : w3.cell? ⟨gp, 1, none⟩ = some (.map (some bn)) := cell_kept hcA hk3 HM.out.gn
  have hdB := cell_kept hcB hk3 (show ¬ w.heap.size = bn by omega)
  have hdC := cell_kept hcC hk3 (show ¬ w.heap.size = bn by omega)
  have HFA3 := Lib.hid (blk_kept HFA2.out hk3 (show ¬ w.heap.size + 2 = bn by omega))
  have HRA3 := Lib.hid (blk_kept HRA2.out hk3 (show ¬ w.heap.size + 1 = bn by omega))
  clear hk3 ho3 hg3
  go_wp2_with fail
  go_region_held3 (fun w' => w'.cell? ⟨gp, 1, none⟩ = some (.map (some bn)) ∧ w'.cell? ⟨w.heap.size, 1, none⟩ = some (.int .u64 o.f1) ∧ w'.cell? ⟨w.heap.size, 2, none⟩ = some (.int .u64 o.f2))
    (first | go_keep | exact ⟨hcA, hcB, hcC⟩ | exact ⟨hdA, hdB, hdC⟩)
    (first | fail | fail)
  clear hcA hcB hcC hdA hdB hdC hrun3
  obtain ⟨l0, l1, l2, l3, l4, l5, l6⟩ := ans_cells HFA3.out
  go_wp2_with (first | ((with_reducible refine gate_store (t := 26) (p := 6) rfl ?_); refine wpList_store_row rfl 26 (.tmp 6) (.tmp 68) rfl (w.heap.size + 1) (ansC 0 fo fv false 0 (.slice none 0 0) 0) rfl rfl 26 _ HRA3.out (by kernel_rfl) rfl (ansC_one _ _ _ _ _ _ _ _ _) ?_))
  refine bodyPost_ret (res_ans rfl _ rfl (setRow_heap _ _ _ _ _ _ HRA3.out)) rfl ⟨.slice none 0 0, by rw [HFO.out, HFV.out]; rfl, Kd.R_nil _ _ _ _ _, HL3.out.row (by omega) HRA3.out hgl hnl hhl _⟩
end Go.Proofs.Ytngocadnbpdnoaa.Mo
namespace Go.Proofs.Ytngocadnbpdnoaa.Mo
open Go Go.Maps Go.RowKit Go.Proofs.Ytngocadnbpdnoaa.Srt Go.Proofs.Ytngocadnbpdnoaa.Q Go.Proofs.YtngocadnbpdnoaaW.PrintWords Go.Proofs.YtngocadnbpdnoaaW.PrintLast Go.Proofs.YtngocadnbpdnoaaW.PrintMore
set_option linter.unusedVariables false
set_option linter.unusedSimpArgs false
set_option maxRecDepth 100000 in
set_option maxHeartbeats 8000000 in
theorem do_get (f : Nat → Option PL) (N gp bn bh : Nat) (multi : Int) (now : PL) (held : List (Int × PL)) (o : OpS) (A : Option Addr) (c : Nat) (hdl : Int) (w : World) (hM : PM w f N gp bn bh multi now held) (hF : Fro w f N) (hO : OpWf o) (hh : u64wf hdl) (hN : N ≤ 1099511627776) (hk : o.f0 = 1) :
    Calls Try.prog 15 #[.pointer (some ⟨gp, 0, none⟩), .agg (opC o A c), .int .u64 hdl] w (DoPost w f (N + 1) gp bn bh ⟨multi, now, held⟩ (foundD ⟨multi, now, held⟩ o)) := by
  have hgl := hM.gl
  have hnl := hM.now.lt
  have hhl := hM.held.1.lt
  have HM := Lib.hid hM
  have HF := Lib.hid hF
  have HO := Lib.hid hO
  have HU := Lib.hid hh
  have hb0 : Below w.heap.size w (doW w o A c).drew := below_drew (doW_below w o A c)
  have hP0 := hM.kept (Kept.of_below hb0 (fun _ => False)) (fun e => e) (fun e => e) (fun e => e)
  have HS : (fun w' : World => w'.cell? ⟨gp, 1, none⟩ = some (.map (some bn)) ∧ w'.cell? ⟨w.heap.size, 1, none⟩ = some (.int .u64 o.f1) ∧ (Instr.lookup 97 (.map (some bn)) (.int .u64 o.f1) true).run Try.prog w' = .ok (.tuple #[.int .u64 ((fnd now o.f1).getD 0), .bool (fnd now o.f1).isSome]) w') (doW w o A c).drew :=
    ⟨hP0.c1, by rw [blk_cell (w := (doW w o A c).drew) (doW_op w o A c)]; rfl, now_look hP0.now hO.key⟩
  obtain ⟨vh, hvh, hrunh⟩ := held_look (hM.held.kept (Kept.of_below (below_drew (below_alloc (below_drew (doW_below w o A c)) (.cells (ansC 0 (fnd now o.f1).isSome ((fnd now o.f1).getD 0) false 0 (.slice none 0 0) 0) 26))) (fun _ => False)) (fun e => e)) hO.han
  have hW2 : Below w.heap.size w ((doW w o A c).drew.alloc (.cells (ansC 0 (fnd now o.f1).isSome ((fnd now o.f1).getD 0) false 0 (.slice none 0 0) 0) 26)).drew := below_drew (below_alloc (below_drew (doW_below w o A c)) _)
  have hP2 := hM.kept (Kept.of_below hW2 (fun _ => False)) (fun e => e) (fun e => e) (fun e => e)
  have hs2 : (doW w o A c).drew.heap.size = w.heap.size + 2 := doW_size w o A c
  have hop2 : ((doW w o A c).drew.alloc (.cells (ansC 0 (fnd now o.f1).isSome ((fnd now o.f1).getD 0) false 0 (.slice none 0 0) 0) 26)).drew.heap[w.heap.size]? = some (.cells (opC o A c) 39 (0, 0)) := ((below_alloc (Below.refl _ (doW w o A c).drew) _).block _ (by rw [hs2]; omega)).trans (doW_op w o A c)
  have hra2 : ((doW w o A c).drew.alloc (.cells (ansC 0 (fnd now o.f1).isSome ((fnd now o.f1).getD 0) false 0 (.slice none 0 0) 0) 26)).drew.heap[w.heap.size + 1]? = some (.cells (ansC 0 false 0 false 0 (.slice none 0 0) 0) 26 (0, 0)) := ((below_alloc (Below.refl _ (doW w o A c).drew) _).block _ (by rw [hs2]; omega)).trans (doW_ans w o A c)
  have hfa2 : ((doW w o A c).drew.alloc (.cells (ansC 0 (fnd now o.f1).isSome ((fnd now o.f1).getD 0) false 0 (.slice none 0 0) 0) 26)).drew.heap[w.heap.size + 2]? = some (.cells (ansC 0 (fnd now o.f1).isSome ((fnd now o.f1).getD 0) false 0 (.slice none 0 0) 0) 26 (0, 0)) := by
    have := heap_alloc_new (doW w o A c).drew (.cells (ansC 0 (fnd now o.f1).isSome ((fnd now o.f1).getD 0) false 0 (.slice none 0 0) 0) 26)
    rw [hs2] at this
    exact this
  have HS2 : (fun w' : World => w'.cell? ⟨gp, 2, none⟩ = some (.map (some bh)) ∧ w'.cell? ⟨w.heap.size, 4, none⟩ = some (.int .u64 o.f4) ∧ (Instr.lookup 98 (.map (some bh)) (.int .u64 o.f4) true).run Try.prog w' = .ok (.tuple #[vh, .bool (fnd held o.f4).isSome]) w') ((doW w o A c).drew.alloc (.cells (ansC 0 (fnd now o.f1).isSome ((fnd now o.f1).getD 0) false 0 (.slice none 0 0) 0) 26)).drew :=
    ⟨hP2.c2, by rw [blk_cell hop2]; rfl, hrunh⟩
  have hkd : ((doW w o A c).drew.alloc (.cells (ansC 0 (fnd now o.f1).isSome ((fnd now o.f1).getD 0) false 0 (.slice none 0 0) 0) 26)).drew.cell? ⟨w.heap.size, 0, none⟩ = some (.int .u8 1) := by rw [blk_cell hop2, ← hk]; rfl
  have HVH := Lib.hid hvh
  have HW2 := Lib.hid hW2
  have HP2 := Lib.hid hP2
  have HOP2 := Lib.hid hop2
  have HRA2 := Lib.hid hra2
  have HFA2 := Lib.hid hfa2
  have hfnd0 : (fnd now o.f1).isSome = (fnd now o.f1).isSome := rfl
  obtain ⟨fo, hfo⟩ : ∃ b : Bool, b = (fnd now o.f1).isSome := ⟨_, rfl⟩
  obtain ⟨fv, hfv⟩ : ∃ v : Int, v = (fnd now o.f1).getD 0 := ⟨_, rfl⟩
  obtain ⟨hd, hhd⟩ : ∃ b : Bool, b = (fnd held o.f4).isSome := ⟨_, rfl⟩
  rw [← hfo, ← hfv] at HS HS2 HW2 HP2 HOP2 HRA2 HFA2 hkd
  rw [← hhd] at HS2
  have HFO := Lib.hid hfo
  have HFV := Lib.hid hfv
  have HHD := Lib.hid hhd
  clear hM hF hO hh hb0 hP0 hvh hrunh hW2 hP2 hs2 hop2 hra2 hfa2 hfnd0 hfo hfv hhd
  obtain ⟨W1, hW1⟩ : ∃ W1, W1 = doW w o A c := ⟨_, rfl⟩
  have HW1 := Lib.hid hW1
  rw [← hW1] at HS HS2 HW2 HP2 HOP2 HRA2 HFA2 hkd
  go_enter Try.func15, Try.ntmps15
  go_wp2_with fail
  change Code.wp _ _ _ _ (doW w o A c)
  rw [← hW1]
  clear hW1
  go_region_held3 (fun w' => w'.cell? ⟨gp, 1, none⟩ = some (.map (some bn)) ∧ w'.cell? ⟨w.heap.size, 1, none⟩ = some (.int .u64 o.f1) ∧ (Instr.lookup 97 (.map (some bn)) (.int .u64 o.f1) true).run Try.prog w' = .ok (.tuple #[.int .u64 fv, .bool fo]) w')
    (first | go_keep | exact HS)
    (first | fail | fail)
  clear HS
  have hs1 : W1.heap.size = w.heap.size + 2 := by rw [HW1.out]; exact doW_size w o A c
  go_wp2_with fail
  obtain ⟨W2, hW2⟩ : ∃ W2, W2 = W1.drew.alloc (Obj.cells (ansC 0 fo fv false 0 (Value.slice none 0 0) 0) 26) := ⟨_, rfl⟩
  change Code.wp _ _ _ _ (W1.drew.alloc (Obj.cells (ansC 0 fo fv false 0 (Value.slice none 0 0) 0) 26))
  rw [← hW2] at HS2 HW2 HP2 HOP2 HRA2 HFA2 hkd ⊢
  clear hW2
  go_region_held3 (fun w' => w'.cell? ⟨gp, 2, none⟩ = some (.map (some bh)) ∧ w'.cell? ⟨w.heap.size, 4, none⟩ = some (.int .u64 o.f4) ∧ (Instr.lookup 98 (.map (some bh)) (.int .u64 o.f4) true).run Try.prog w' = .ok (.tuple #[vh, .bool hd]) w')
    (first | go_keep | exact HS2)
    (first | fail | fail)
  clear HS2
  obtain ⟨W, hW⟩ : ∃ W, W = W2.drew := ⟨_, rfl⟩
  rw [← hW] at HW2 HP2 HOP2 HRA2 HFA2 hkd ⊢
  clear hW
  have HL3 := Lib.hid (left_same (K := fun k => k = bn ∨ k = bh) HM.out HF.out HW2.out (Nat.le_succ N))
  have HFA3 := HFA2
  have HRA3 := HRA2
  obtain ⟨l0, l1, l2, l3, l4, l5, l6⟩ := ans_cells HFA3.out
  go_wp2_with (first | ((with_reducible refine gate_store (t := 26) (p := 6) rfl ?_); refine wpList_store_row rfl 26 (.tmp 6) (.tmp 59) rfl (w.heap.size + 1) (ansC 0 fo fv false 0 (.slice none 0 0) 0) rfl rfl 26 _ HRA3.out (by kernel_rfl) rfl (ansC_one _ _ _ _ _ _ _ _ _) ?_))
  refine bodyPost_ret (res_ans rfl _ rfl (setRow_heap _ _ _ _ _ _ HRA3.out)) rfl ⟨.slice none 0 0, by rw [HFO.out, HFV.out]; rfl, Kd.R_nil _ _ _ _ _, HL3.out.row (by omega) HRA3.out hgl hnl hhl _⟩
end Go.Proofs.Ytngocadnbpdnoaa.Mo
namespace Go.Proofs.Ytngocadnbpdnoaa.Mo
open Go Go.Maps Go.RowKit Go.Proofs.Ytngocadnbpdnoaa.Srt Go.Proofs.Ytngocadnbpdnoaa.Q Go.Proofs.YtngocadnbpdnoaaW.PrintWords Go.Proofs.YtngocadnbpdnoaaW.PrintLast Go.Proofs.YtngocadnbpdnoaaW.PrintMore
set_option linter.unusedVariables false
set_option linter.unusedSimpArgs false
def opL (k key val : Int) : OpS := ⟨k, key, val, 0, 0, ⟨false, 0, 0⟩, [], 0, 0⟩
theorem opL_wf (k key val : Int) (h1 : u64wf key) (h2 : u64wf val) : OpWf (opL k key val) := ⟨h1, h2, by show u64wf 0; unfold u64wf; decide⟩
theorem fro_none (w : World) (N : Nat) : Fro w (fun _ => none) N := fun b l e => by cases e
theorem get_c (o : OpS) (hO : OpWf o) (hk : o.f0 = 1) : DoC o 0 (fun s => (s, foundD s o)) := fun f N gp bn bh multi now held A c w hM hF hN => do_get f N gp bn bh multi now held o A c 0 w hM hF hO (by unfold u64wf; decide) hN hk
theorem DoPost.lit {w : World} {f : Nat → Option PL} {N gp bn bh : Nat} {s : MS} {e : Int} {fo : Bool} {v : Int} {dn : Bool} {h : Int} {en : Ending} {w' : World} (hp : DoPost w f N gp bn bh s ⟨e, fo, v, dn, h, [], 0⟩ en w') :
    ∃ A c, en = .returned (.agg #[.int .i64 e, .bool fo, .int .u64 v, .bool dn, .int .u64 h, .slice A 0 c, .int .u64 0]) ∧ Left w w' f N gp bn bh s.multi s.now s.held (fun k => k = bn ∨ k = bh) := by
  obtain ⟨ps, he, hR, hL⟩ := hp
  obtain ⟨A2, c2, rfl⟩ := Kd.R_slice hR
  exact ⟨A2, c2, he, hL⟩
theorem lp1 (gp bn bh : Nat) (w1 : World) (hP : PM w1 (fun _ => none) 0 gp bn bh 4 [] []) : Calls Try.prog 15 #[.pointer (some ⟨gp, 0, none⟩), .agg #[.int .u8 2, .int .u64 7, .int .u64 1, .int .u64 0, .int .u64 0, .bool false, .int .i64 0, .int .i64 0, .slice none 0 0, .int .u64 0, .int .u64 0], .int .u64 0] w1 fun en w' => ∃ A c, en = .returned (.agg #[.int .i64 0, .bool false, .int .u64 0, .bool false, .int .u64 0, .slice A 0 c, .int .u64 0]) ∧ Left w1 w' (fun _ => none) 1 gp bn bh 4 [(7, 1)] [] (fun k => k = bn ∨ k = bh) :=
  (do_put (fun _ => none) 0 gp bn bh 4 [] [] (opL 2 7 1) none 0 0 w1 hP (fro_none w1 0) (opL_wf _ _ _ (by unfold u64wf; decide) (by unfold u64wf; decide)) (by unfold u64wf; decide) (by omega) rfl).mono fun en w' h => DoPost.lit (s := ⟨4, [(7, 1)], []⟩) h
theorem lp2 (f : Nat → Option PL) (gp bn bh : Nat) (w1 : World) (hP : PM w1 f 1 gp bn bh 4 [(7, 1)] []) (hF : Fro w1 f 1) : Calls Try.prog 15 #[.pointer (some ⟨gp, 0, none⟩), .agg #[.int .u8 5, .int .u64 0, .int .u64 0, .int .u64 0, .int .u64 0, .bool false, .int .i64 0, .int .i64 0, .slice none 0 0, .int .u64 0, .int .u64 0], .int .u64 5] w1 fun en w' => ∃ A c, en = .returned (.agg #[.int .i64 0, .bool false, .int .u64 0, .bool false, .int .u64 5, .slice A 0 c, .int .u64 0]) ∧ Left w1 w' f 2 gp bn bh 4 [(7, 1)] [(5, [(7, 1)])] (fun k => k = bn ∨ k = bh) :=
  (do_snap f 1 gp bn bh 4 [(7, 1)] [] (opL 5 0 0) none 0 5 w1 hP hF (opL_wf _ _ _ (by unfold u64wf; decide) (by unfold u64wf; decide)) (by unfold u64wf; decide) (by omega) rfl).mono fun en w' h => DoPost.lit (s := ⟨4, [(7, 1)], [(5, [(7, 1)])]⟩) h
theorem lp3 (f : Nat → Option PL) (gp bn bh : Nat) (w1 : World) (hP : PM w1 f 2 gp bn bh 4 [(7, 1)] [(5, [(7, 1)])]) (hF : Fro w1 f 2) : Calls Try.prog 15 #[.pointer (some ⟨gp, 0, none⟩), .agg #[.int .u8 2, .int .u64 7, .int .u64 2, .int .u64 0, .int .u64 0, .bool false, .int .i64 0, .int .i64 0, .slice none 0 0, .int .u64 0, .int .u64 0], .int .u64 0] w1 fun en w' => ∃ A c, en = .returned (.agg #[.int .i64 0, .bool true, .int .u64 1, .bool false, .int .u64 0, .slice A 0 c, .int .u64 0]) ∧ Left w1 w' f 3 gp bn bh 4 [(7, 2)] [(5, [(7, 1)])] (fun k => k = bn ∨ k = bh) :=
  (do_put f 2 gp bn bh 4 [(7, 1)] [(5, [(7, 1)])] (opL 2 7 2) none 0 0 w1 hP hF (opL_wf _ _ _ (by unfold u64wf; decide) (by unfold u64wf; decide)) (by unfold u64wf; decide) (by omega) rfl).mono fun en w' h => DoPost.lit (s := ⟨4, [(7, 2)], [(5, [(7, 1)])]⟩) h
theorem lp4 (f : Nat → Option PL) (gp bn bh : Nat) (w1 : World) (hP : PM w1 f 3 gp bn bh 4 [(7, 2)] [(5, [(7, 1)])]) (hF : Fro w1 f 3) : Calls Try.prog 16 #[.pointer (some ⟨gp, 0, none⟩), .int .u64 5] w1 fun en w' => ∃ g c, en = .returned (.tuple #[.slice (some ⟨g, 0, none⟩) 1 c, .bool true]) ∧ w'.cell? ⟨g, 0, none⟩ = some (.int .u64 7) ∧ w'.cell? ⟨g, 1, none⟩ = some (.int .u64 1) ∧ Below w1.heap.size w1 w' :=
  (held_c f 3 gp bn bh 4 [(7, 2)] [(5, [(7, 1)])] 5 w1 hP hF (by unfold u64wf; decide) (by omega)).mono fun en w' h => by
    obtain ⟨v, he, hR, hB⟩ := h
    obtain ⟨A, c, rfl⟩ := Kd.R_slice hR
    obtain ⟨ad, rfl, h0, h1⟩ := at_T90 (Kd.R_reads' hR).2.2 0 (by omega) (by decide)
    obtain ⟨g, rfl⟩ := Kd.R_head hR
    exact ⟨g, c, he, h0, h1, hB⟩
theorem lp5 (f : Nat → Option PL) (gp bn bh : Nat) (w1 : World) (hP : PM w1 f 3 gp bn bh 4 [(7, 2)] [(5, [(7, 1)])]) (hF : Fro w1 f 3) : Calls Try.prog 22 #[.pointer (some ⟨gp, 0, none⟩), .agg #[.int .u8 1, .int .u64 7, .int .u64 0, .int .u64 0, .int .u64 0, .bool false, .int .i64 0, .int .i64 0, .slice none 0 0, .int .u64 0, .int .u64 0], .agg #[.int .i64 0, .bool false, .int .u64 0, .bool false, .int .u64 0, .slice none 0 0, .int .u64 0]] w1 fun en w' => en = .returned (.bool false) ∧ KO w1 w' (fun k => k = bn ∨ k = bh) :=
  (take_rest (opL 1 7 0) ⟨0, false, 0, false, 0, [], 0⟩ none none 0 0 _ (get_c (opL 1 7 0) (opL_wf _ _ _ (by unfold u64wf; decide) (by unfold u64wf; decide)) rfl) f 3 gp bn bh 4 [(7, 2)] [(5, [(7, 1)])] w1 hP hF (by omega) (fun W' _ => Kd.C_nil _ _) (Nat.le_refl _) (fun k h1 h2 h3 => by simp [opL]; omega) (by decide)).mono fun en w' h => by
    obtain ⟨he, f', _, _, _, hK⟩ := h
    exact ⟨he, hK⟩
set_option maxRecDepth 100000 in
set_option maxHeartbeats 16000000 in
theorem live_c (w : World) : Calls Try.prog 11 #[] w fun e w' => e = .returned (.bool true) ∧ Below w.heap.size w w' := by
  have cN := new_c 4 (fun _ => none) w (fro_none w 0) (by omega) (by omega)
  go_enter Try.func11, Try.ntmps11
  go_upto_region 4 with (go_at_call 14; refine cN.mono ?_; rintro e w1 ⟨gp, bn, bh, rfl, hP1, hB1, hg1, hg2, hg3⟩)
  clear cN
  have hgl := hP1.gl
  have hnl := hP1.now.lt
  have hhl := hP1.held.1.lt
  have HP1 := Lib.hid hP1
  have HB1 := Lib.hid hB1
  clear hP1 hB1
  go_upto_region 5 with (go_at_call 15; (refine (lp1 gp bn bh w1 HP1.out).mono ?_; rintro e w2 ⟨A2, c2, rfl, f2, hE2, hP2, hF2, hK2⟩; have HP2 := Lib.hid hP2; have HF2 := Lib.hid hF2; have HK2 := Lib.hid hK2; clear hE2 hP2 hF2 hK2))
  have hz2 := HK2.out.kept.1
  obtain ⟨W2, hW2⟩ : ∃ W2, W2 = w2.alloc (Obj.cells #[Value.int IntKind.i64 0, Value.bool false, Value.int IntKind.u64 0, Value.bool false, Value.int IntKind.u64 0, Value.slice A2 0 c2, Value.int IntKind.u64 0] 26) := ⟨_, rfl⟩
  have hk2 : KO w2 W2 (fun _ => False) := by rw [hW2]; exact KO.of_below (below_alloc (Below.refl _ _) _) _
  have hb2 : W2.heap[w2.heap.size]? = some (.cells #[Value.int IntKind.i64 0, Value.bool false, Value.int IntKind.u64 0, Value.bool false, Value.int IntKind.u64 0, Value.slice A2 0 c2, Value.int IntKind.u64 0] 26 (0, 0)) := by rw [hW2]; exact heap_alloc_new _ _
  rw [← hW2]
  clear hW2
  have hPn2 := HP2.out.kept hk2.kept (fun e => e) (fun e => e) (fun e => e)
  have hFn2 := HF2.out.kept hk2.kept (fun _ _ _ e => e)
  have HPn2 := Lib.hid hPn2
  have HFn2 := Lib.hid hFn2
  have HB2 := Lib.hid hb2
  have HKn2 := Lib.hid hk2
  have hzz2 := blk_lt hb2
  clear hPn2 hFn2 hb2 hk2
  go_upto_region 6 with (go_at_call 15; (refine (lp2 f2 gp bn bh W2 HPn2.out HFn2.out).mono ?_; rintro e w3 ⟨A3, c3, rfl, f3, hE3, hP3, hF3, hK3⟩; have HP3 := Lib.hid hP3; have HF3 := Lib.hid hF3; have HK3 := Lib.hid hK3; clear hE3 hP3 hF3 hK3))
  have hz3 := HK3.out.kept.1
  obtain ⟨W3, hW3⟩ : ∃ W3, W3 = w3.alloc (Obj.cells #[Value.int IntKind.i64 0, Value.bool false, Value.int IntKind.u64 0, Value.bool false, Value.int IntKind.u64 5, Value.slice A3 0 c3, Value.int IntKind.u64 0] 26) := ⟨_, rfl⟩
  have hk3 : KO w3 W3 (fun _ => False) := by rw [hW3]; exact KO.of_below (below_alloc (Below.refl _ _) _) _
  have hb3 : W3.heap[w3.heap.size]? = some (.cells #[Value.int IntKind.i64 0, Value.bool false, Value.int IntKind.u64 0, Value.bool false, Value.int IntKind.u64 5, Value.slice A3 0 c3, Value.int IntKind.u64 0] 26 (0, 0)) := by rw [hW3]; exact heap_alloc_new _ _
  rw [← hW3]
  clear hW3
  have hPn3 := HP3.out.kept hk3.kept (fun e => e) (fun e => e) (fun e => e)
  have hFn3 := HF3.out.kept hk3.kept (fun _ _ _ e => e)
  have HPn3 := Lib.hid hPn3
  have HFn3 := Lib.hid hFn3
  have HB3 := Lib.hid hb3
  have HKn3 := Lib.hid hk3
  have hzz3 := blk_lt hb3
  clear hPn3 hFn3 hb3 hk3
  go_upto_region 7 with (go_at_call 15; (refine (lp3 f3 gp bn bh W3 HPn3.out HFn3.out).mono ?_; rintro e w4 ⟨A4, c4, rfl, f4, hE4, hP4, hF4, hK4⟩; have HP4 := Lib.hid hP4; have HF4 := Lib.hid hF4; have HK4 := Lib.hid hK4; clear hE4 hP4 hF4 hK4))
  have hz4 := HK4.out.kept.1
  obtain ⟨W4, hW4⟩ : ∃ W4, W4 = w4.alloc (Obj.cells #[Value.int IntKind.i64 0, Value.bool true, Value.int IntKind.u64 1, Value.bool false, Value.int IntKind.u64 0, Value.slice A4 0 c4, Value.int IntKind.u64 0] 26) := ⟨_, rfl⟩
  have hk4 : KO w4 W4 (fun _ => False) := by rw [hW4]; exact KO.of_below (below_alloc (Below.refl _ _) _) _
  have hb4 : W4.heap[w4.heap.size]? = some (.cells #[Value.int IntKind.i64 0, Value.bool true, Value.int IntKind.u64 1, Value.bool false, Value.int IntKind.u64 0, Value.slice A4 0 c4, Value.int IntKind.u64 0] 26 (0, 0)) := by rw [hW4]; exact heap_alloc_new _ _
  rw [← hW4]
  clear hW4
  have hPn4 := HP4.out.kept hk4.kept (fun e => e) (fun e => e) (fun e => e)
  have hFn4 := HF4.out.kept hk4.kept (fun _ _ _ e => e)
  have HPn4 := Lib.hid hPn4
  have HFn4 := Lib.hid hFn4
  have HB4 := Lib.hid hb4
  have HKn4 := Lib.hid hk4
  have hzz4 := blk_lt hb4
  clear hPn4 hFn4 hb4 hk4
  go_upto_region 8 with (go_at_call 16; (refine (lp4 f4 gp bn bh W4 HPn4.out HFn4.out).mono ?_; rintro e w5 ⟨g5, c5, rfl, hc7, hc1, hB5⟩; have HB5 := Lib.hid hB5; clear hB5))
  have hP5 := HPn4.out.kept (Kept.of_below HB5.out (fun _ => False)) (fun e => e) (fun e => e) (fun e => e)
  have hF5 := HFn4.out.kept (Kept.of_below HB5.out (fun _ => False)) (fun _ _ _ e => e)
  have b4 : w5.heap[w4.heap.size]? = _ := blk_kept HB4.out (Kept.of_below HB5.out (fun _ => False)) (fun e => e)
  have b3 : w5.heap[w3.heap.size]? = _ := blk_kept (blk_kept (blk_kept HB3.out HK4.out.kept (show ¬ (w3.heap.size = bn ∨ w3.heap.size = bh) by omega)) HKn4.out.kept (fun e => e)) (Kept.of_below HB5.out (fun _ => False)) (fun e => e)
  have b2 : w5.heap[w2.heap.size]? = _ := blk_kept (blk_kept (blk_kept (blk_kept (blk_kept HB2.out HK3.out.kept (show ¬ (w2.heap.size = bn ∨ w2.heap.size = bh) by omega)) HKn3.out.kept (fun e => e)) HK4.out.kept (show ¬ (w2.heap.size = bn ∨ w2.heap.size = bh) by omega)) HKn4.out.kept (fun e => e)) (Kept.of_below HB5.out (fun _ => False)) (fun e => e)
  have k21 : w5.cell? ⟨w2.heap.size, 1, none⟩ = some (.bool false) := by rw [blk_cell b2]; rfl
  have k34 : w5.cell? ⟨w3.heap.size, 4, none⟩ = some (.int .u64 5) := by rw [blk_cell b3]; rfl
  have k41 : w5.cell? ⟨w4.heap.size, 1, none⟩ = some (.bool true) := by rw [blk_cell b4]; rfl
  have k42 : w5.cell? ⟨w4.heap.size, 2, none⟩ = some (.int .u64 1) := by rw [blk_cell b4]; rfl
  have hend : KO w w5 (fun _ => False) := (((((((KO.of_below HB1.out (fun _ => False)).then_ HK2.out (fun k e => .inr (by omega))).then_ HKn2.out (fun _ e => e.elim)).then_ HK3.out (fun k e => .inr (by omega))).then_ HKn3.out (fun _ e => e.elim)).then_ HK4.out (fun k e => .inr (by omega))).then_ HKn4.out (fun _ e => e.elim)).then_ (KO.of_below HB5.out (fun _ => False)) (fun _ e => e.elim)
  have HEND := Lib.hid hend
  have HP5 := Lib.hid hP5
  have HF5 := Lib.hid hF5
  clear hend hP5 hF5 b2 b3 b4
  go_wp2_with (go_at_call 22; (refine (lp5 f4 gp bn bh w5 HP5.out HF5.out).mono ?_; rintro e w6 ⟨rfl, hK6⟩; have HK6 := Lib.hid hK6; clear hK6))
  go_ret
  exact ⟨rfl, (HEND.out.then_ HK6.out (fun k e => .inr (by omega))).below_of (fun _ e => e.elim)⟩
end Go.Proofs.Ytngocadnbpdnoaa.Mo
namespace Go.Proofs.Ytngocadnbpdnoaa.Mo
open Go Go.Maps Go.RowKit Go.Proofs.Ytngocadnbpdnoaa.Srt Go.Proofs.Ytngocadnbpdnoaa.Q Go.Proofs.YtngocadnbpdnoaaW.PrintWords Go.Proofs.YtngocadnbpdnoaaW.PrintLast Go.Proofs.YtngocadnbpdnoaaW.PrintMore
set_option linter.unusedVariables false
set_option linter.unusedSimpArgs false
def outB (lo hi : Int) (p : SP) : Bool := decide (p.f0 < lo) || decide (hi < p.f0)
/-- Where the closure reads its bounds. -/
structure LoHi (w : World) (B : Nat) (lo hi : Int) : Prop where
  lt : B < w.heap.size
  lo : w.cell? ⟨B, 9, none⟩ = some (.int .u64 lo)
  hi : w.cell? ⟨B, 10, none⟩ = some (.int .u64 hi)
theorem LoHi.kept {w W : World} {B : Nat} {lo hi : Int} {S : Nat → Prop} (h : LoHi w B lo hi) (hk : Kept w W S) (hs : ¬ S B) : LoHi W B lo hi := ⟨Nat.lt_of_lt_of_le h.lt hk.1, cell_kept h.lo hk hs, cell_kept h.hi hk hs⟩
theorem LoHi.below {w W : World} {B : Nat} {lo hi : Int} (h : LoHi w B lo hi) (hb : Below w.heap.size w W) : LoHi W B lo hi := h.kept (Kept.of_below hb (fun _ => False)) (fun e => e)
set_option maxRecDepth 100000 in
theorem pred_c (B : Nat) (lo hi : Int) (p : SP) (w : World) (h : LoHi w B lo hi) :
    Calls Try.prog 84 #[.agg #[.int .u64 p.f0, .int .u64 p.f1], .pointer (some ⟨B, 0, none⟩)] w fun e w' => e = .returned (.bool (outB lo hi p)) ∧ Below w.heap.size w w' := by
  have h2 := h.below (below_alloc (Below.refl _ w) (.cells #[.int .u64 p.f0, .int .u64 p.f1] 90))
  have q0 := h2.lo
  have q1 := h2.hi
  have hl := h.lt
  clear h h2
  by_cases h1 : p.f0 < lo
  · have d1 : decide (p.f0 < lo) = true := decide_eq_true h1
    go_enter Try.func84, Try.ntmps84
    go_wp2
    go_ret
    exact ⟨by unfold outB; rw [d1]; rfl, below_alloc (Below.refl _ w) _⟩
  · have d1 : decide (p.f0 < lo) = false := decide_eq_false h1
    go_enter Try.func84, Try.ntmps84
    go_wp2
    go_ret
    exact ⟨by unfold outB; rw [d1]; rfl, below_alloc (Below.refl _ w) _⟩
theorem heapP' : Kd.Heap k90 := Kd.heap_iso _ (Kd.heap_pair (Kd.heap_int _) (Kd.heap_int _))
set_option maxRecDepth 100000 in
set_option maxHeartbeats 4000000 in
theorem idx_c (B : Nat) (lo hi : Int) (A : Option Addr) (c : Nat) (xs : List SP) (w : World) (h : LoHi w B lo hi) (hC : Kd.C k90 w A xs.length xs) (hm : xs.length ≤ 4398046511104) :
    Calls Try.prog 99 #[.slice A xs.length c, .func (.func 84) #[] #[.pointer (some ⟨B, 0, none⟩)]] w
      fun e w' => ((∃ i : Nat, ∃ hi' : i < xs.length, e = .returned (.int .i64 i) ∧ outB lo hi xs[i] = true ∧ ∀ j (hj : j < i), outB lo hi (xs[j]'(by omega)) = false) ∨ (e = .returned (.int .i64 (-1)) ∧ ∀ p ∈ xs, outB lo hi p = false)) ∧ Below w.heap.size w w' := by
  have HH := Lib.hid h
  have HC := Lib.hid hC
  clear h hC
  go_enter Try.func99, Try.ntmps99
  go_wp2_with fail
  go_loopw [8] (fun v8 wr => ∃ i : Nat, v8 = .int .i64 i ∧ i ≤ xs.length ∧ Hid ((∀ j (hj : j < i) (hl : j < xs.length), outB lo hi xs[j] = false) ∧ Below w.heap.size w wr))
    (fun v8 _ => xs.length - (intOf v8).toNat)
  case atStart => exact ⟨0, rfl, Nat.zero_le _, Lib.hid ⟨fun j hj => absurd hj (by omega), Below.refl _ _⟩⟩
  case round =>
    obtain ⟨i, rfl, hi', HI⟩ := hrel
    by_cases hlt : i < xs.length
    · obtain ⟨ad, rfl, y0, y1⟩ := at_T90 (Kd.Heap.C heapP' (fun k hk => HI.out.2.block k hk) HC.out) (i : Int) (by omega) (by omega)
      simp only [Int.toNat_natCast] at y0 y1
      rw [rd_get hlt] at y0 y1
      obtain ⟨p, hp⟩ : ∃ p, p = xs[i] := ⟨_, rfl⟩
      rw [← hp] at y0 y1
      have HPP := Lib.hid hp
      clear hp
      have hdec : decide ((i : Int) < (xs.length : Int)) = true := decide_eq_true (by omega)
      by_cases ho : outB lo hi p = true
      · go_wp2_with (go_at_call 84; refine (pred_c B lo hi p wr (HH.out.below HI.out.2)).mono ?_; rintro e w1 ⟨rfl, hb⟩; have HB := Lib.hid (HI.out.2.trans (hb.mono HI.out.2.size)); clear hb; rw [ho])
        go_ret
        exact ⟨.inl ⟨i, hlt, rfl, by rw [← HPP.out]; exact ho, fun j hj => HI.out.1 j hj (by omega)⟩, HB.out⟩
      · have ho' : outB lo hi p = false := by simpa using ho
        clear ho
        go_wp2_with (go_at_call 84; refine (pred_c B lo hi p wr (HH.out.below HI.out.2)).mono ?_; rintro e w1 ⟨rfl, hb⟩; have HB := Lib.hid (HI.out.2.trans (hb.mono HI.out.2.size)); clear hb; rw [ho'])
        go_roundw
        case rel => exact ⟨i + 1, by go_num, by omega, Lib.hid ⟨fun j hj hl => by
          by_cases e : j = i
          · subst e; rw [← HPP.out]; exact ho'
          · exact HI.out.1 j (by omega) hl, HB.out⟩⟩
        case measure => simp [intOf]; omega
    · obtain rfl : i = xs.length := by omega
      go_wp2_with fail
      go_ret
      exact ⟨.inr ⟨rfl, fun p hp => by
        obtain ⟨j, hj, rfl⟩ := List.getElem_of_mem hp
        exact HI.out.1 j hj hj⟩, HI.out.2⟩
theorem zero_cells_one (n : Nat) : ∀ v ∈ (Builtin.zeroCells #[.int .u64 0, .int .u64 0] n).toList, v.oneCell' = true := by
  intro v hv
  simp only [Builtin.zeroCells, Array.toList_map, List.mem_map] at hv
  obtain ⟨i, _, rfl⟩ := hv
  have h2 : i % 2 = 0 ∨ i % 2 = 1 := by omega
  show (#[Value.int .u64 0, Value.int .u64 0][i % 2]!).oneCell' = true
  rcases h2 with e | e <;> rw [e] <;> rfl
theorem zero_cells_len (n : Nat) : (Builtin.zeroCells #[.int .u64 0, .int .u64 0] n).toList.length = n * 2 := by
  simp [Builtin.zeroCells]
set_option maxRecDepth 100000 in
/-- clear(s[m:]) of one's own row. -/
theorem clear_row {g n c m c2 : Nat} {base : Nat} {ok : Nat → Prop} {xs : List SP} {W : World} (ty : TypeId) (h : kSP.R 90 W base ok (.slice (some ⟨g, 0, none⟩) n c) xs) (hm : m < n) :
    ∃ W', (Builtin.clear_ #[24] ty #[.slice (some ⟨g, m * 2, none⟩) (n - m) c2]).run Try.prog W = .ok (.tuple #[]) W' ∧ kSP.R 90 W' base ok (.slice (some ⟨g, 0, none⟩) m c) (xs.take m) ∧ W.grownBy W' (some g) := by
  have hr := Kd.R_reads' h
  have hT := Kd.R_take h (m := m) (by rw [← hr.1]; omega)
  obtain ⟨hok, inner, ho, hre⟩ := hT
  have hfull := h
  obtain ⟨_, inner0, ho0, _⟩ := hfull
  rcases ho0.2 with ⟨hv, _⟩ | ⟨g', cap', cur, hv, hb, hh, hnc, hcm, hcs, ht⟩
  · cases hv
  injection hv with ha hn' hc
  injection ha with ha
  injection ha with hg
  subst hg; subst hc
  have hlen := zero_cells_len (n - m)
  have hfit : m * 2 + 0 + (Builtin.zeroCells #[.int .u64 0, .int .u64 0] (n - m)).toList.length ≤ cur.size := by
    rw [hlen, hcs]
    show m * 2 + 0 + (n - m) * 2 ≤ c * 2
    have := hr.2.1
    omega
  have hrun := run_storeCells_at (P := Try.prog) g (m * 2) 90 (Builtin.zeroCells #[.int .u64 0, .int .u64 0] (n - m)).toList 0 cur W hh hfit (zero_cells_one _)
  obtain ⟨cur', hcur'⟩ : ∃ cur', cur' = (cur.toList.take (m * 2 + 0) ++ (Builtin.zeroCells #[.int .u64 0, .int .u64 0] (n - m)).toList ++ cur.toList.drop (m * 2 + 0 + (Builtin.zeroCells #[.int .u64 0, .int .u64 0] (n - m)).toList.length)).toArray := ⟨_, rfl⟩
  rw [← hcur'] at hrun
  have hz : (zeroValue 90).run Try.prog W = .ok (.agg #[.int .u64 0, .int .u64 0]) W := by
    first | (simp [zeroValue, typeInfo, go_sem, info90]; done) | kernel_rfl
  refine ⟨W.setRow g cur', ?_, ?_, ?_⟩
  · obtain ⟨q, hq⟩ : ∃ q, n - m = q + 1 := ⟨n - m - 1, by omega⟩
    rw [hq] at hrun ⊢
    unfold Builtin.clear_
    simp [Sem.run_bind, go_sem, hz, hrun, Value.cells]
  · rcases ho.2 with ⟨hv2, _⟩ | ⟨g2, cap2, cur2, hv2, hb2, hh2, hnc2, hcm2, hcs2, ht2⟩
    · cases hv2
    injection hv2 with ha2 hn2 hc2
    injection ha2 with ha2
    injection ha2 with hg2
    subst hg2; subst hc2
    rw [hh] at hh2
    injection hh2 with hh2
    injection hh2 with hh2
    subst hh2
    have hml : (xs.take m).length = m := by rw [List.length_take]; omega
    rw [hml] at ho ht2 hnc2
    have hsz : m * 2 ≤ cur.size := by
      have h3 : cur.size = c * 2 := hcs
      have := hr.2.1
      omega
    refine ⟨hok, inner, ⟨by rw [hml]; exact ho.1, .inr ⟨g, c, cur', by rw [hml], hb2, setRow_heap W g cur cur' _ _ hh, by rw [hml]; exact hnc2, hcm2, ?_, ?_⟩⟩, hre.imp_ (fun _ _ hk => Kd.M_kept hk (Kept_row W g cur') (fun k hk2 e => hk2.2 (by rw [e]; rfl)))⟩
    · have hl2 : (Builtin.zeroCells #[.int .u64 0, .int .u64 0] (n - m)).size = (n - m) * 2 := by simpa using hlen
      have h3 : cur.size = c * 2 := hcs
      have h4 := hr.2.1
      show cur'.size = c * 2
      rw [hcur']
      simp only [List.size_toArray, List.length_append, List.length_take, List.length_drop, Array.length_toList]
      omega
    · rw [hml, hcur', ← ht2]
      show (_ ++ _ ++ _ : List Value).take (m * 2) = _
      rw [List.append_assoc, List.take_append_of_le_length (by rw [List.length_take, Array.length_toList]; omega), List.take_take, Nat.min_eq_left (by omega)]
      rfl
  · exact ⟨rfl, rfl, rfl, by simp, fun k hk hne => setRow_other W g k cur' (fun e => hne (by rw [e]))⟩
end Go.Proofs.Ytngocadnbpdnoaa.Mo
namespace Go.Proofs.Ytngocadnbpdnoaa.Mo
open Go Go.Maps Go.RowKit Go.Proofs.Ytngocadnbpdnoaa.Srt Go.Proofs.Ytngocadnbpdnoaa.Q Go.Proofs.YtngocadnbpdnoaaW.PrintWords Go.Proofs.YtngocadnbpdnoaaW.PrintLast Go.Proofs.YtngocadnbpdnoaaW.PrintMore
set_option linter.unusedVariables false
set_option linter.unusedSimpArgs false
/-- Which pairs stay. -/
def stays (lo hi : Int) (xs : List SP) : List SP := xs.filter (fun p => !outB lo hi p)
theorem stays_none {lo hi : Int} {xs : List SP} (h : ∀ p ∈ xs, outB lo hi p = false) : stays lo hi xs = xs := List.filter_eq_self.2 (fun p hp => by rw [h p hp]; rfl)
theorem stays_snoc (lo hi : Int) (xs : List SP) (j : Nat) (h : j < xs.length) : stays lo hi (xs.take (j + 1)) = stays lo hi (xs.take j) ++ (if outB lo hi xs[j] = true then [] else [xs[j]]) := by
  unfold stays
  rw [List.take_succ_eq_append_getElem h, List.filter_append]
  congr 1
  by_cases ho : outB lo hi xs[j] = true
  · simp [ho]
  · simp [ho]
/-- What a round of DeleteFunc keeps: i of the first j stand at the front. -/
structure DelI (lo hi : Int) (xs cur : List SP) (i j : Nat) : Prop where
  len : cur.length = xs.length
  lt : i < j
  le : j ≤ xs.length
  front : cur.take i = stays lo hi (xs.take j)
  back : cur.drop j = xs.drop j
theorem DelI.at {lo hi : Int} {xs cur : List SP} {i j : Nat} (h : DelI lo hi xs cur i j) (hj : j < xs.length) : cur[j]'(by rw [h.len]; exact hj) = xs[j] := by
  have h1 : j < cur.length := by rw [h.len]; exact hj
  have := (drop_iff h1 hj).1 h.back
  exact this.1
theorem DelI.skip {lo hi : Int} {xs cur : List SP} {i j : Nat} (h : DelI lo hi xs cur i j) (hj : j < xs.length) (ho : outB lo hi xs[j] = true) : DelI lo hi xs cur i (j + 1) :=
  ⟨h.len, by have := h.lt; omega, hj, by rw [stays_snoc lo hi xs j hj, if_pos ho, List.append_nil]; exact h.front, by
    have h1 : j < cur.length := by rw [h.len]; exact hj
    exact ((drop_iff h1 hj).1 h.back).2⟩
theorem DelI.keep {lo hi : Int} {xs cur : List SP} {i j : Nat} (h : DelI lo hi xs cur i j) (hj : j < xs.length) (ho : outB lo hi xs[j] = false) : DelI lo hi xs (cur.set i xs[j]) (i + 1) (j + 1) := by
  have h1 : j < cur.length := by rw [h.len]; exact hj
  have hci : i < cur.length := by have := h.lt; omega
  refine ⟨by rw [List.length_set]; exact h.len, by have := h.lt; omega, hj, ?_, ?_⟩
  · rw [stays_snoc lo hi xs j hj, if_neg (by rw [ho]; simp), ← h.front, List.take_succ_eq_append_getElem (by rw [List.length_set]; exact hci), List.getElem_set_self, List.take_set_of_le (Nat.le_refl i)]
  · rw [List.drop_set_of_lt (by have := h.lt; omega)]
    exact ((drop_iff h1 hj).1 h.back).2
theorem DelI.start {lo hi : Int} {xs : List SP} {i : Nat} (hi' : i < xs.length) (ho : outB lo hi xs[i] = true) (hn : ∀ j (hj : j < i), outB lo hi (xs[j]'(by omega)) = false) : DelI lo hi xs xs i (i + 1) :=
  ⟨rfl, Nat.lt_succ_self i, hi', by
    rw [stays_snoc lo hi xs i hi', if_pos ho, List.append_nil]
    exact (stays_none (fun p hp => by
      obtain ⟨j, hj, rfl⟩ := List.getElem_of_mem hp
      rw [List.length_take] at hj
      rw [List.getElem_take]
      exact hn j (by omega))).symm, rfl⟩
theorem add0 (g k : Nat) : (⟨g, 0, none⟩ : Addr).add k = ⟨g, k, none⟩ := by unfold Addr.add; split <;> simp_all
set_option maxRecDepth 100000 in
set_option maxHeartbeats 8000000 in
theorem del_c (B : Nat) (lo hi : Int) (A : Option Addr) (c : Nat) (xs : List SP) (base : Nat) (w : World) (h : LoHi w B lo hi) (HO : kSP.R 90 w base (fun _ => True) (.slice A xs.length c) xs) (hBb : B < base) (hm : xs.length ≤ 4398046511104) (hbase : base ≤ w.heap.size) :
    Calls Try.prog 83 #[.slice A xs.length c, .func (.func 84) #[] #[.pointer (some ⟨B, 0, none⟩)]] w
      fun e w' => ∃ v, e = .returned v ∧ kSP.R 90 w' base (fun _ => True) v (stays lo hi xs) ∧ Below base w w' := by
  have cI := idx_c B lo hi A c xs w h (Kd.R_reads' HO).2.2 hm
  have HH := Lib.hid h
  have HR := Lib.hid HO
  clear h HO
  go_enter Try.func83, Try.ntmps83
  go_upto_region 2 with (go_at_call 99; refine cI.mono ?_; rintro e w1 ⟨hcase, hb1⟩; rcases hcase with ⟨i, hi', rfl, ho, hn⟩ | ⟨rfl, hno⟩)
  · have hne : ((i : Int) == -1) = false := beq_eq_false_iff_ne.2 (by omega)
    have HR1 := Lib.hid (Kd.R_below HR.out hb1)
    have HB1 := Lib.hid (hb1.mono hbase)
    have HD1 := Lib.hid (DelI.start hi' ho hn)
    obtain ⟨g, cap, hv, hbg, -, -⟩ := Kd.R_form HR1.out (by omega)
    injection hv with hA _ hc
    subst hA; subst hc
    clear HR hb1 ho hn cI
    go_wp2_with fail
    go_loopw [5, 6, 7] (fun v5 v6 v7 wr => ∃ (i j : Nat) (cur : List SP), v5 = .int .i64 i ∧ v6 = .int .i64 j ∧ Hid (kSP.R 90 wr base (fun _ => True) (.slice (some ⟨g, 0, none⟩) xs.length c) cur) ∧ Hid (DelI lo hi xs cur i j) ∧ Hid (Below base w wr) ∧ w.heap.size ≤ wr.heap.size)
      (fun _ v6 _ _ => xs.length - (intOf v6).toNat)
    case atStart => exact ⟨i, i + 1, xs, by go_num, by go_num, HR1, HD1, HB1, HB1.out.size⟩
    case round =>
      obtain ⟨i, j, cur, rfl, rfl, HR, HD, HB, hws⟩ := hrel
      have hcl := HD.out.len
      have hij := HD.out.lt
      have hjl := HD.out.le
      by_cases hlt : j < xs.length
      · have hdec : decide ((j : Int) < (xs.length : Int)) = true := decide_eq_true (by omega)
        obtain ⟨ad, e', y0, y1⟩ := at_T90 (Kd.R_reads' HR.out).2.2 (j : Int) (by omega) (by omega)
        cases e'
        simp only [Int.toNat_natCast, add0] at y0 y1
        rw [rd_get (by omega), HD.out.at hlt] at y0 y1
        obtain ⟨p, hp⟩ : ∃ p, p = xs[j] := ⟨_, rfl⟩
        rw [← hp] at y0 y1
        have HPP := Lib.hid hp
        clear hp
        have HL : Hid (LoHi wr B lo hi) := Lib.hid (HH.out.kept (S := fun k => base ≤ k) ⟨hws, fun k _ hk => HB.out.block k (by omega)⟩ (by omega))
        by_cases ho : outB lo hi p = true
        · go_wp2_with (go_at_call 84; refine (pred_c B lo hi p _ (HL.out.below (below_alloc (Below.refl _ wr) _))).mono ?_; rintro e w3 ⟨rfl, hb3⟩; have HB3 := Lib.hid ((below_alloc (Below.refl wr.heap.size wr) _).trans (hb3.mono (by simp))); clear hb3; rw [ho])
          go_roundw
          case rel => exact ⟨i, j + 1, cur, rfl, by go_num, Lib.hid (Kd.R_below HR.out HB3.out), Lib.hid (HD.out.skip hlt (by rw [← HPP.out]; exact ho)), Lib.hid (HB.out.trans (HB3.out.mono (by omega))), Nat.le_trans hws HB3.out.size⟩
          case measure => simp [intOf]; omega
        · have ho' : outB lo hi p = false := by simpa using ho
          clear ho
          have hcur : i < cur.length := by omega
          go_wp2_with (first
            | (go_at_call 84
               refine (pred_c B lo hi p (wr.alloc (.cells #[.int .u64 p.f0, .int .u64 p.f1] 90)) (HL.out.below (below_alloc (Below.refl _ wr) _))).mono ?_
               rintro e w3 ⟨rfl, hb3⟩
               have z0 : w3.cell? ⟨wr.heap.size, 0, none⟩ = some (.int .u64 p.f0) := (hb3.cell (p := ⟨wr.heap.size, 0, none⟩) (by simp)).trans (by rw [blk_cell (heap_alloc_new wr _)]; rfl)
               have z1 : w3.cell? ⟨wr.heap.size, 1, none⟩ = some (.int .u64 p.f1) := (hb3.cell (p := ⟨wr.heap.size, 1, none⟩) (by simp)).trans (by rw [blk_cell (heap_alloc_new wr _)]; rfl)
               have HB3 := Lib.hid ((below_alloc (Below.refl wr.heap.size wr) (.cells #[.int .u64 p.f0, .int .u64 p.f1] 90)).trans (hb3.mono (by simp)))
               have HR3 := Lib.hid (Kd.R_below HR.out HB3.out)
               have HBB3 := Lib.hid (HB.out.trans (HB3.out.mono (by omega : base ≤ wr.heap.size)))
               clear hb3
               rw [ho'])
            | ((with_reducible refine gate_store (t := 90) (p := 33) rfl ?_)
               obtain ⟨cc, hcc1, hcc2, hcc3, -⟩ := Kd.R_elem HR3.out z90 (i : Int) (by omega) (by omega)
               refine Kd.R_store kSP (w0 := w) base rfl rfl 90 (.tmp 33) (.tmp 32) rfl 90 (i : Int) 0 cur p (.agg #[.int .u64 p.f0, .int .u64 p.f1]) [.int .u64 p.f0, .int .u64 p.f1] cc (fun _ => True) (fun _ => False) rfl (by show i * 2 = (i : Int).toNat * 2 + 0; simp) rfl rfl (by kernel_rfl) (by intro q hq; simp at hq; rcases hq with rfl | rfl <;> rfl) HR3.out (by omega) (by omega) hcc1 hcc3 (by show 0 + 2 ≤ 2; omega) ?hM (fun _ e => e.elim) HBB3.out ?_
               (case hM => (rw [List.take_zero, List.nil_append, List.drop_eq_nil_of_le (by rw [hcc1]; show 2 ≤ 0 + 2; omega), List.append_nil]; exact k90_mkM _ _ _ p))
               intro w4 hr4 hb4 hg4
               have HR4 := Lib.hid hr4
               have HBB4 := Lib.hid hb4
               have HS4 := Lib.hid (Nat.le_trans HB3.out.size hg4.size)
               clear hr4 hb4 hg4 hcc1 hcc2 hcc3))
          go_roundw
          case rel => exact ⟨i + 1, j + 1, cur.set i p, by go_num, by go_num, HR4, Lib.hid (by rw [HPP.out]; exact HD.out.keep hlt (by rw [← HPP.out]; exact ho')), HBB4, Nat.le_trans hws HS4.out⟩
          case measure => simp [intOf]; omega
      · obtain rfl : j = xs.length := by omega
        have hdec : decide ((xs.length : Int) < (xs.length : Int)) = false := by simp
        have hnc := (Kd.R_reads' HR.out).2.1
        obtain ⟨w5, hrun5, hR5, hg5⟩ := clear_row (c2 := c - i) 0 HR.out (by omega)
        have HR5 := Lib.hid hR5
        have HB5 := Lib.hid (HB.out.grown hg5 (by omega : base ≤ wr.heap.size) (fun k hk => by cases hk; exact hbg))
        have hfr := HD.out.front
        rw [List.take_length] at hfr
        have HFR := Lib.hid hfr
        clear hR5 hg5 hfr
        go_wp2_with fail
        go_ret
        exact ⟨_, rfl, by rw [← HFR.out]; exact HR5.out, HB5.out⟩
  · have HR1 := Lib.hid (Kd.R_below HR.out hb1)
    have HB1 := Lib.hid (hb1.mono hbase)
    have HN := Lib.hid (stays_none hno)
    clear HR hb1 hno cI
    go_wp2_with fail
    go_ret
    exact ⟨_, rfl, by rw [HN.out]; exact HR1.out, HB1.out⟩
end Go.Proofs.Ytngocadnbpdnoaa.Mo
namespace Go.Proofs.Ytngocadnbpdnoaa.Mo
open Go Go.Maps Go.RowKit Go.Proofs.Ytngocadnbpdnoaa.Srt Go.Proofs.Ytngocadnbpdnoaa.Q Go.Proofs.YtngocadnbpdnoaaW.PrintWords Go.Proofs.YtngocadnbpdnoaaW.PrintLast Go.Proofs.YtngocadnbpdnoaaW.PrintMore
set_option linter.unusedVariables false
set_option linter.unusedSimpArgs false
def within (lo hi : Int) (l : PL) : PL := l.filter (fun p => !(decide (p.1 < lo) || decide (hi < p.1)))
theorem stays_toS (lo hi : Int) (l : PL) : stays lo hi (toS l) = toS (within lo hi l) := by
  unfold stays within toS
  rw [List.filter_map]
  rfl
theorem below_row {B : Nat} {w W : World} (h : Below B w W) {g : Nat} (hg : B ≤ g) (cs : Array Value) : Below B w (W.setRow g cs) := h.trans ⟨rfl, rfl, rfl, by simp, fun k hk => setRow_other W g k cs (by omega)⟩
theorem wrapU (n : Nat) (h : n ≤ 1099511627776) : IntKind.u64.wrap (n : Int) = (n : Int) := by simp [IntKind.wrap, IntKind.signed, IntKind.bits]; omega
/-- Behind the boxes of query. -/
def qW (w : World) (o : OpS) (A : Option Addr) (c : Nat) : World := ((w.alloc (.cells (opC o A c) 39)).alloc (.cells (ansC 0 false 0 false 0 (.slice none 0 0) 0) 26)).alloc (.cells (ansC 0 false 0 false 0 (.slice none 0 0) 0) 26)
theorem qW_below (w : World) (o : OpS) (A : Option Addr) (c : Nat) : Below w.heap.size w (qW w o A c) := below_alloc (below_alloc (below_alloc (Below.refl _ _) _) _) _
theorem qW_size (w : World) (o : OpS) (A : Option Addr) (c : Nat) : (qW w o A c).heap.size = w.heap.size + 3 := by simp [qW]
theorem qW_op (w : World) (o : OpS) (A : Option Addr) (c : Nat) : (qW w o A c).heap[w.heap.size]? = some (.cells (opC o A c) 39 (0, 0)) := ((below_alloc (Below.refl _ (doW w o A c)) _).block _ (by rw [doW_size]; omega)).trans (doW_op w o A c)
theorem qW_r (w : World) (o : OpS) (A : Option Addr) (c : Nat) : (qW w o A c).heap[w.heap.size + 1]? = some (.cells (ansC 0 false 0 false 0 (.slice none 0 0) 0) 26 (0, 0)) := ((below_alloc (Below.refl _ (doW w o A c)) _).block _ (by rw [doW_size]; omega)).trans (doW_ans w o A c)
theorem qW_a (w : World) (o : OpS) (A : Option Addr) (c : Nat) : (qW w o A c).heap[w.heap.size + 2]? = some (.cells (ansC 0 false 0 false 0 (.slice none 0 0) 0) 26 (0, 0)) := by
  have := heap_alloc_new (doW w o A c) (.cells (ansC 0 false 0 false 0 (.slice none 0 0) 0) 26)
  rw [doW_size] at this
  exact this
set_option maxRecDepth 100000 in
set_option maxHeartbeats 8000000 in
theorem query_ct (o : OpS) (A : Option Addr) (c bx N : Nat) (l : PL) (w : World) (hM : MapN w bx N l) (hN : l.length ≤ 1099511627776) (hk : o.f0 = 9) :
    Calls Try.prog 37 #[.agg (opC o A c), .map (some bx)] w fun e w' => ∃ ps, e = .returned (ansV 0 false 0 false 0 ps ((toS (within o.f7 o.f8 l)).length : Int)) ∧ kSP.R 90 w' w.heap.size (fun _ => True) ps (toS []) ∧ Below w.heap.size w w' := by
  have hb0 := qW_below w o A c
  have hs0 := qW_size w o A c
  have hO0 := qW_op w o A c
  have hR0 := qW_r w o A c
  have hA0 := qW_a w o A c
  have hkd : (qW w o A c).cell? ⟨w.heap.size, 0, none⟩ = some (.int .u8 o.f0) := (op_cells hO0).1
  have cS := sorted_c bx N l (qW w o A c) (hM.below hb0) hN
  go_enter Try.func37, Try.ntmps37
  go_upto_region 2 with fail
  change Code.wp _ _ _ _ (qW w o A c)
  obtain ⟨W, hW⟩ : ∃ W, W = qW w o A c := ⟨_, rfl⟩
  rw [← hW] at hb0 hs0 hO0 hR0 hA0 hkd cS ⊢
  clear hW
  have HB0 := Lib.hid hb0
  have HO0 := Lib.hid hO0
  have HR0 := Lib.hid hR0
  have HA0 := Lib.hid hA0
  clear hb0 hO0 hR0 hA0 hM
  go_upto_region 12 with (first
    | (go_at_call 38
       refine cS.mono ?_
       rintro e w4 ⟨v4, rfl, hR4, hB4⟩
       obtain ⟨A4, c4, rfl⟩ := Kd.R_slice hR4
       have HR4 := Lib.hid hR4
       have HB4 := Lib.hid hB4
       have HLH : Hid (LoHi w4 w.heap.size o.f7 o.f8) := Lib.hid (LoHi.below ⟨by omega, (op_cells HO0.out).2.2.2.2.2.2.2.2.2.1, (op_cells HO0.out).2.2.2.2.2.2.2.2.2.2⟩ hB4)
       clear hR4 hB4)
    | (go_at_call 83
       refine (del_c w.heap.size o.f7 o.f8 A4 c4 (toS l) W.heap.size w4 HLH.out HR4.out (by omega) (by rw [toS_length]; omega) HB4.out.size).mono ?_
       rintro e w5 ⟨v5, rfl, hR5, hB5⟩
       rw [stays_toS] at hR5
       obtain ⟨A5, c5, rfl⟩ := Kd.R_slice hR5
       have HR5 := Lib.hid hR5
       have HB5 := Lib.hid (HB4.out.trans hB5)
       clear hR5 hB5))
  have hz5 := HB5.out.size
  have hO5 : w5.heap[w.heap.size]? = some (.cells (opC o A c) 39 (0, 0)) := (HB5.out.block _ (by omega)).trans HO0.out
  have hR5' : w5.heap[w.heap.size + 1]? = some (.cells (ansC 0 false 0 false 0 (.slice none 0 0) 0) 26 (0, 0)) := (HB5.out.block _ (by omega)).trans HR0.out
  have hA5 : w5.heap[w.heap.size + 2]? = some (.cells (ansC 0 false 0 false 0 (.slice none 0 0) 0) 26 (0, 0)) := (HB5.out.block _ (by omega)).trans HA0.out
  have hkd5 : w5.cell? ⟨w.heap.size, 0, none⟩ = some (.int .u8 o.f0) := (op_cells hO5).1
  have hBB5 : Below w.heap.size w w5 := HB0.out.trans (HB5.out.mono HB0.out.size)
  have hRR5 : kSP.R 90 w5 w.heap.size (fun k => w.heap.size + 3 ≤ k) (.slice A5 (toS (within o.f7 o.f8 l)).length c5) (toS (within o.f7 o.f8 l)) := Kd.R_lower (Kd.R_mono (Kd.R_bound HR5.out) (fun k hk => by have := hk.2.1; omega)) (by omega)
  have hlen : (toS (within o.f7 o.f8 l)).length ≤ 1099511627776 := by rw [toS_length]; exact Nat.le_trans (List.length_filter_le _ _) hN
  obtain ⟨ws, hws⟩ : ∃ ws, ws = within o.f7 o.f8 l := ⟨_, rfl⟩
  rw [← hws] at hRR5 hlen ⊢
  have HR5' := Lib.hid hR5'
  have HA5 := Lib.hid hA5
  have HRR5 := Lib.hid hRR5
  have HBB5 := Lib.hid hBB5
  have HWS := Lib.hid hws
  clear hws hR5' hA5 hRR5 hBB5 hO5 HR5 HB5 HR4 HB4 HLH cS
  rw [hk] at hkd hkd5
  rw [show w.heap.size + 1 + 1 = w.heap.size + 2 from rfl]
  have hwr := wrapU _ hlen
  have hd6 : w5.cell? ⟨w.heap.size + 2, 6, none⟩ = some (.int .u64 0) := by rw [blk_cell HA5.out]; rfl
  have hf6 : w5.frozen? ⟨w.heap.size + 2, 6, none⟩ = false := by simp [World.frozen?, HA5.out]
  have hsc : w5.setCell ⟨w.heap.size + 2, 6, none⟩ (.int .u64 ((toS ws).length : Int)) = w5.setRow (w.heap.size + 2) (ansC 0 false 0 false 0 (.slice none 0 0) ((toS ws).length : Int)) := setCell_eq_setRow w5 (w.heap.size + 2) 6 _ _ _ (.int .u64 ((toS ws).length : Int)) HA5.out
  obtain ⟨w6, hw6⟩ : ∃ w6, w6 = w5.setRow (w.heap.size + 2) (ansC 0 false 0 false 0 (.slice none 0 0) ((toS ws).length : Int)) := ⟨_, rfl⟩
  have HA6 : Hid (w6.heap[w.heap.size + 2]? = some (.cells (ansC 0 false 0 false 0 (.slice none 0 0) ((toS ws).length : Int)) 26 (0, 0))) := Lib.hid (by rw [hw6]; exact setRow_heap _ _ _ _ _ _ HA5.out)
  have HR6 : Hid (w6.heap[w.heap.size + 1]? = some (.cells (ansC 0 false 0 false 0 (.slice none 0 0) 0) 26 (0, 0))) := Lib.hid (by rw [hw6]; exact (setRow_other w5 (w.heap.size + 2) (w.heap.size + 1) _ (by omega)).trans HR5'.out)
  have HBB6 : Hid (Below w.heap.size w w6) := Lib.hid (by rw [hw6]; exact below_row HBB5.out (by omega) _)
  have HRR6 : Hid (kSP.R 90 w6 w.heap.size (fun k => w.heap.size + 3 ≤ k) (.slice A5 (toS ws).length c5) (toS ws)) := Lib.hid (by rw [hw6]; exact Kd.R_kept HRR5.out (Kept_row w5 (w.heap.size + 2) _) (fun k hk e => by omega))
  rw [← hw6] at hsc
  clear hw6
  obtain ⟨l0, l1, l2, l3, l4, l5, l6⟩ := ans_cells HA6.out
  go_wp2_with (first | ((with_reducible refine gate_store (t := 26) (p := 4) rfl ?_); refine wpList_store_row rfl 26 (.tmp 4) (.tmp 54) rfl (w.heap.size + 1) (ansC 0 false 0 false 0 (.slice none 0 0) ((toS ws).length : Int)) rfl rfl 26 _ HR6.out (by kernel_rfl) rfl (ansC_one _ _ _ _ _ _ _ _ _) ?_))
  refine bodyPost_ret (res_ans rfl _ rfl (setRow_heap _ _ _ _ _ _ HR6.out)) rfl ⟨_, by rw [HWS.out], Kd.R_nil _ _ _ _ _, below_row HBB6.out (by omega) _⟩
set_option maxRecDepth 100000 in
set_option maxHeartbeats 8000000 in
theorem query_rgS (o : OpS) (A : Option Addr) (c bx N : Nat) (l : PL) (w : World) (hM : MapN w bx N l) (hN : l.length ≤ 1099511627776) (h7 : o.f0 ≠ 7) (h9 : o.f0 ≠ 9) (hne : within o.f7 o.f8 l ≠ []) :
    Calls Try.prog 37 #[.agg (opC o A c), .map (some bx)] w fun e w' => ∃ ps, e = .returned (ansV 0 false 0 false 0 ps 0) ∧ kSP.R 90 w' w.heap.size (fun _ => True) ps (toS (within o.f7 o.f8 l)) ∧ Below w.heap.size w w' := by
  have hb0 := qW_below w o A c
  have hs0 := qW_size w o A c
  have hO0 := qW_op w o A c
  have hR0 := qW_r w o A c
  have hA0 := qW_a w o A c
  have hkd : (qW w o A c).cell? ⟨w.heap.size, 0, none⟩ = some (.int .u8 o.f0) := (op_cells hO0).1
  have cS := sorted_c bx N l (qW w o A c) (hM.below hb0) hN
  have k7 : (o.f0 == 7) = false := beq_eq_false_iff_ne.2 h7
  have HNE := Lib.hid hne
  clear hne
  go_enter Try.func37, Try.ntmps37
  go_upto_region 2 with fail
  change Code.wp _ _ _ _ (qW w o A c)
  obtain ⟨W, hW⟩ : ∃ W, W = qW w o A c := ⟨_, rfl⟩
  rw [← hW] at hb0 hs0 hO0 hR0 hA0 hkd cS ⊢
  clear hW
  have HB0 := Lib.hid hb0
  have HO0 := Lib.hid hO0
  have HR0 := Lib.hid hR0
  have HA0 := Lib.hid hA0
  clear hb0 hO0 hR0 hA0 hM
  go_upto_region 12 with (first
    | (go_at_call 38
       refine cS.mono ?_
       rintro e w4 ⟨v4, rfl, hR4, hB4⟩
       obtain ⟨A4, c4, rfl⟩ := Kd.R_slice hR4
       have HR4 := Lib.hid hR4
       have HB4 := Lib.hid hB4
       have HLH : Hid (LoHi w4 w.heap.size o.f7 o.f8) := Lib.hid (LoHi.below ⟨by omega, (op_cells HO0.out).2.2.2.2.2.2.2.2.2.1, (op_cells HO0.out).2.2.2.2.2.2.2.2.2.2⟩ hB4)
       clear hR4 hB4)
    | (go_at_call 83
       refine (del_c w.heap.size o.f7 o.f8 A4 c4 (toS l) W.heap.size w4 HLH.out HR4.out (by omega) (by rw [toS_length]; omega) HB4.out.size).mono ?_
       rintro e w5 ⟨v5, rfl, hR5, hB5⟩
       rw [stays_toS] at hR5
       obtain ⟨A5, c5, rfl⟩ := Kd.R_slice hR5
       have HR5 := Lib.hid hR5
       have HB5 := Lib.hid (HB4.out.trans hB5)
       clear hR5 hB5))
  have hz5 := HB5.out.size
  have hO5 : w5.heap[w.heap.size]? = some (.cells (opC o A c) 39 (0, 0)) := (HB5.out.block _ (by omega)).trans HO0.out
  have hR5' : w5.heap[w.heap.size + 1]? = some (.cells (ansC 0 false 0 false 0 (.slice none 0 0) 0) 26 (0, 0)) := (HB5.out.block _ (by omega)).trans HR0.out
  have hA5 : w5.heap[w.heap.size + 2]? = some (.cells (ansC 0 false 0 false 0 (.slice none 0 0) 0) 26 (0, 0)) := (HB5.out.block _ (by omega)).trans HA0.out
  have hkd5 : w5.cell? ⟨w.heap.size, 0, none⟩ = some (.int .u8 o.f0) := (op_cells hO5).1
  have hBB5 : Below w.heap.size w w5 := HB0.out.trans (HB5.out.mono HB0.out.size)
  have hRR5 : kSP.R 90 w5 w.heap.size (fun k => w.heap.size + 3 ≤ k) (.slice A5 (toS (within o.f7 o.f8 l)).length c5) (toS (within o.f7 o.f8 l)) := Kd.R_lower (Kd.R_mono (Kd.R_bound HR5.out) (fun k hk => by have := hk.2.1; omega)) (by omega)
  have hlen : (toS (within o.f7 o.f8 l)).length ≤ 1099511627776 := by rw [toS_length]; exact Nat.le_trans (List.length_filter_le _ _) hN
  obtain ⟨ws, hws⟩ : ∃ ws, ws = within o.f7 o.f8 l := ⟨_, rfl⟩
  rw [← hws] at hRR5 hlen ⊢
  have HR5' := Lib.hid hR5'
  have HA5 := Lib.hid hA5
  have HRR5 := Lib.hid hRR5
  have HBB5 := Lib.hid hBB5
  have HWS := Lib.hid hws
  clear hws hR5' hA5 hRR5 hBB5 hO5 HR5 HB5 HR4 HB4 HLH cS
  have k9 : (o.f0 == 9) = false := beq_eq_false_iff_ne.2 h9
  have hpos : 0 < (toS ws).length := by
    have hne := HNE.out
    rw [← HWS.out] at hne
    rw [toS_length]; exact List.length_pos_iff.2 hne
  rw [show w.heap.size + 1 + 1 = w.heap.size + 2 from rfl]
  have hd6 : w5.cell? ⟨w.heap.size + 2, 5, none⟩ = some (.slice none 0 0) := by rw [blk_cell HA5.out]; rfl
  have hf6 : w5.frozen? ⟨w.heap.size + 2, 5, none⟩ = false := by simp [World.frozen?, HA5.out]
  have hsc : w5.setCell ⟨w.heap.size + 2, 5, none⟩ (.slice A5 (toS ws).length c5) = w5.setRow (w.heap.size + 2) (ansC 0 false 0 false 0 (.slice A5 (toS ws).length c5) 0) := setCell_eq_setRow w5 (w.heap.size + 2) 5 _ _ _ (.slice A5 (toS ws).length c5) HA5.out
  obtain ⟨w6, hw6⟩ : ∃ w6, w6 = w5.setRow (w.heap.size + 2) (ansC 0 false 0 false 0 (.slice A5 (toS ws).length c5) 0) := ⟨_, rfl⟩
  have HA6 : Hid (w6.heap[w.heap.size + 2]? = some (.cells (ansC 0 false 0 false 0 (.slice A5 (toS ws).length c5) 0) 26 (0, 0))) := Lib.hid (by rw [hw6]; exact setRow_heap _ _ _ _ _ _ HA5.out)
  have HR6 : Hid (w6.heap[w.heap.size + 1]? = some (.cells (ansC 0 false 0 false 0 (.slice none 0 0) 0) 26 (0, 0))) := Lib.hid (by rw [hw6]; exact (setRow_other w5 (w.heap.size + 2) (w.heap.size + 1) _ (by omega)).trans HR5'.out)
  have HBB6 : Hid (Below w.heap.size w w6) := Lib.hid (by rw [hw6]; exact below_row HBB5.out (by omega) _)
  have HRR6 : Hid (kSP.R 90 w6 w.heap.size (fun k => w.heap.size + 3 ≤ k) (.slice A5 (toS ws).length c5) (toS ws)) := Lib.hid (by rw [hw6]; exact Kd.R_kept HRR5.out (Kept_row w5 (w.heap.size + 2) _) (fun k hk e => by omega))
  rw [← hw6] at hsc
  clear hw6
  obtain ⟨l0, l1, l2, l3, l4, l5, l6⟩ := ans_cells HA6.out
  go_wp2_with (first | ((with_reducible refine gate_store (t := 26) (p := 4) rfl ?_); refine wpList_store_row rfl 26 (.tmp 4) (.tmp 54) rfl (w.heap.size + 1) (ansC 0 false 0 false 0 (.slice A5 (toS ws).length c5) 0) rfl rfl 26 _ HR6.out (by kernel_rfl) rfl (ansC_one _ _ _ _ _ _ _ _ _) ?_))
  refine bodyPost_ret (res_ans rfl _ rfl (setRow_heap _ _ _ _ _ _ HR6.out)) rfl ⟨_, rfl, (by rw [← HWS.out]; exact Kd.R_mono (Kd.R_kept HRR6.out (Kept_row w6 (w.heap.size + 1) _) (fun k hk e => by omega)) (fun _ _ => trivial)), below_row HBB6.out (by omega) _⟩
set_option maxRecDepth 100000 in
set_option maxHeartbeats 8000000 in
theorem query_rgE (o : OpS) (A : Option Addr) (c bx N : Nat) (l : PL) (w : World) (hM : MapN w bx N l) (hN : l.length ≤ 1099511627776) (h7 : o.f0 ≠ 7) (h9 : o.f0 ≠ 9) (hne : within o.f7 o.f8 l = []) :
    Calls Try.prog 37 #[.agg (opC o A c), .map (some bx)] w fun e w' => ∃ ps, e = .returned (ansV 0 false 0 false 0 ps 0) ∧ kSP.R 90 w' w.heap.size (fun _ => True) ps (toS (within o.f7 o.f8 l)) ∧ Below w.heap.size w w' := by
  have hb0 := qW_below w o A c
  have hs0 := qW_size w o A c
  have hO0 := qW_op w o A c
  have hR0 := qW_r w o A c
  have hA0 := qW_a w o A c
  have hkd : (qW w o A c).cell? ⟨w.heap.size, 0, none⟩ = some (.int .u8 o.f0) := (op_cells hO0).1
  have cS := sorted_c bx N l (qW w o A c) (hM.below hb0) hN
  have k7 : (o.f0 == 7) = false := beq_eq_false_iff_ne.2 h7
  have HNE := Lib.hid hne
  clear hne
  go_enter Try.func37, Try.ntmps37
  go_upto_region 2 with fail
  change Code.wp _ _ _ _ (qW w o A c)
  obtain ⟨W, hW⟩ : ∃ W, W = qW w o A c := ⟨_, rfl⟩
  rw [← hW] at hb0 hs0 hO0 hR0 hA0 hkd cS ⊢
  clear hW
  have HB0 := Lib.hid hb0
  have HO0 := Lib.hid hO0
  have HR0 := Lib.hid hR0
  have HA0 := Lib.hid hA0
  clear hb0 hO0 hR0 hA0 hM
  go_upto_region 12 with (first
    | (go_at_call 38
       refine cS.mono ?_
       rintro e w4 ⟨v4, rfl, hR4, hB4⟩
       obtain ⟨A4, c4, rfl⟩ := Kd.R_slice hR4
       have HR4 := Lib.hid hR4
       have HB4 := Lib.hid hB4
       have HLH : Hid (LoHi w4 w.heap.size o.f7 o.f8) := Lib.hid (LoHi.below ⟨by omega, (op_cells HO0.out).2.2.2.2.2.2.2.2.2.1, (op_cells HO0.out).2.2.2.2.2.2.2.2.2.2⟩ hB4)
       clear hR4 hB4)
    | (go_at_call 83
       refine (del_c w.heap.size o.f7 o.f8 A4 c4 (toS l) W.heap.size w4 HLH.out HR4.out (by omega) (by rw [toS_length]; omega) HB4.out.size).mono ?_
       rintro e w5 ⟨v5, rfl, hR5, hB5⟩
       rw [stays_toS] at hR5
       obtain ⟨A5, c5, rfl⟩ := Kd.R_slice hR5
       have HR5 := Lib.hid hR5
       have HB5 := Lib.hid (HB4.out.trans hB5)
       clear hR5 hB5))
  have hz5 := HB5.out.size
  have hO5 : w5.heap[w.heap.size]? = some (.cells (opC o A c) 39 (0, 0)) := (HB5.out.block _ (by omega)).trans HO0.out
  have hR5' : w5.heap[w.heap.size + 1]? = some (.cells (ansC 0 false 0 false 0 (.slice none 0 0) 0) 26 (0, 0)) := (HB5.out.block _ (by omega)).trans HR0.out
  have hA5 : w5.heap[w.heap.size + 2]? = some (.cells (ansC 0 false 0 false 0 (.slice none 0 0) 0) 26 (0, 0)) := (HB5.out.block _ (by omega)).trans HA0.out
  have hkd5 : w5.cell? ⟨w.heap.size, 0, none⟩ = some (.int .u8 o.f0) := (op_cells hO5).1
  have hBB5 : Below w.heap.size w w5 := HB0.out.trans (HB5.out.mono HB0.out.size)
  have hRR5 : kSP.R 90 w5 w.heap.size (fun k => w.heap.size + 3 ≤ k) (.slice A5 (toS (within o.f7 o.f8 l)).length c5) (toS (within o.f7 o.f8 l)) := Kd.R_lower (Kd.R_mono (Kd.R_bound HR5.out) (fun k hk => by have := hk.2.1; omega)) (by omega)
  have hlen : (toS (within o.f7 o.f8 l)).length ≤ 1099511627776 := by rw [toS_length]; exact Nat.le_trans (List.length_filter_le _ _) hN
  obtain ⟨ws, hws⟩ : ∃ ws, ws = within o.f7 o.f8 l := ⟨_, rfl⟩
  rw [← hws] at hRR5 hlen ⊢
  have HR5' := Lib.hid hR5'
  have HA5 := Lib.hid hA5
  have HRR5 := Lib.hid hRR5
  have HBB5 := Lib.hid hBB5
  have HWS := Lib.hid hws
  clear hws hR5' hA5 hRR5 hBB5 hO5 HR5 HB5 HR4 HB4 HLH cS
  have k9 : (o.f0 == 9) = false := beq_eq_false_iff_ne.2 h9
  have hwn : ws = [] := by rw [HWS.out]; exact HNE.out
  have hpos : (toS ws).length = 0 := by rw [hwn]; rfl
  rw [show w.heap.size + 1 + 1 = w.heap.size + 2 from rfl]
  have HA6 := HA5
  have HR6 := HR5'
  have HBB6 := HBB5
  have HWN := Lib.hid hwn
  clear hwn
  obtain ⟨l0, l1, l2, l3, l4, l5, l6⟩ := ans_cells HA6.out
  go_wp2_with (first | ((with_reducible refine gate_store (t := 26) (p := 4) rfl ?_); refine wpList_store_row rfl 26 (.tmp 4) (.tmp 54) rfl (w.heap.size + 1) (ansC 0 false 0 false 0 (.slice none 0 0) 0) rfl rfl 26 _ HR6.out (by kernel_rfl) rfl (ansC_one _ _ _ _ _ _ _ _ _) ?_))
  refine bodyPost_ret (res_ans rfl _ rfl (setRow_heap _ _ _ _ _ _ HR6.out)) rfl ⟨_, rfl, (by rw [HNE.out]; exact Kd.R_nil _ _ _ _ _), below_row HBB6.out (by omega) _⟩
end Go.Proofs.Ytngocadnbpdnoaa.Mo
namespace Go.Proofs.Ytngocadnbpdnoaa.Mo
open Go Go.Maps Go.RowKit Go.Proofs.Ytngocadnbpdnoaa.Srt Go.Proofs.Ytngocadnbpdnoaa.Q Go.Proofs.YtngocadnbpdnoaaW.PrintWords Go.Proofs.YtngocadnbpdnoaaW.PrintLast Go.Proofs.YtngocadnbpdnoaaW.PrintMore
set_option linter.unusedVariables false
set_option linter.unusedSimpArgs false
def ofKeys (l : PL) (ks : List Int) : PL := ks.filterMap (fun k => (fnd l k).map (fun v => (k, v)))
theorem ofKeys_some {l : PL} {ks : List Int} {i : Nat} (h : i < ks.length) {v : Int} (hv : fnd l ks[i] = some v) : ofKeys l (ks.take (i + 1)) = ofKeys l (ks.take i) ++ [(ks[i], v)] := by
  unfold ofKeys
  rw [List.take_succ_eq_append_getElem h, List.filterMap_append]
  simp [hv]
theorem ofKeys_none {l : PL} {ks : List Int} {i : Nat} (h : i < ks.length) (hv : fnd l ks[i] = none) : ofKeys l (ks.take (i + 1)) = ofKeys l (ks.take i) := by
  unfold ofKeys
  rw [List.take_succ_eq_append_getElem h, List.filterMap_append]
  simp [hv]
theorem ofKeys_len (l : PL) (ks : List Int) : (ofKeys l ks).length ≤ ks.length := List.length_filterMap_le _ _
/-- What a round of MultiGet keeps. -/
structure MgI (w wr : World) (bx N : Nat) (l : PL) (B : Nat) (o : OpS) (A0 : Option Addr) (c0 : Nat) (A : Option Addr) (c : Nat) (ps : PL) : Prop where
  below : Below w.heap.size w wr
  size : w.heap.size + 3 ≤ wr.heap.size
  map : MapN wr bx N l
  row : kSP.R 90 wr w.heap.size (fun k => w.heap.size + 3 ≤ k) (.slice A (toS ps).length c) (toS ps)
  r : wr.heap[w.heap.size + 1]? = some (.cells (ansC 0 false 0 false 0 (.slice none 0 0) 0) 26 (0, 0))
  a : wr.heap[w.heap.size + 2]? = some (.cells (ansC 0 false 0 false 0 (.slice A (toS ps).length c) 0) 26 (0, 0))
theorem toS_snoc (ps : PL) (k v : Int) : toS (ps ++ [(k, v)]) = toS ps ++ [⟨k, v⟩] := by unfold toS; rw [List.map_append]; rfl
set_option maxRecDepth 100000 in
set_option maxHeartbeats 8000000 in
theorem query_mg (o : OpS) (A : Option Addr) (c bx N : Nat) (l : PL) (w : World) (hM : MapN w bx N l) (hk : o.f0 = 7) (hC : Kd.C (Kd.int .u64) w A o.f6.length o.f6) (hw : ∀ k ∈ o.f6, u64wf k) (hn : o.f6.length ≤ 1099511627776) :
    Calls Try.prog 37 #[.agg (opC o A c), .map (some bx)] w fun e w' => ∃ ps, e = .returned (ansV 0 false 0 false 0 ps 0) ∧ kSP.R 90 w' w.heap.size (fun _ => True) ps (toS (ofKeys l o.f6)) ∧ Below w.heap.size w w' := by
  have hb0 := qW_below w o A c
  have hs0 := qW_size w o A c
  have hO0 := qW_op w o A c
  have hkd : (qW w o A c).cell? ⟨w.heap.size, 0, none⟩ = some (.int .u8 7) := by have := (op_cells hO0).1; rw [hk] at this; exact this
  have hk8 : (qW w o A c).cell? ⟨w.heap.size, 8, none⟩ = some (.slice A o.f6.length c) := (op_cells hO0).2.2.2.2.2.2.2.2.1
  have HI0 : Hid (MgI w (qW w o A c) bx N l w.heap.size o A c none 0 []) := Lib.hid ⟨hb0, by omega, hM.below hb0, Kd.R_nil _ _ _ _ _, qW_r w o A c, qW_a w o A c⟩
  have hbl := hM.lt
  have HC := Lib.hid hC
  have HW := Lib.hid hw
  clear hM hC hw hO0 hb0
  go_enter Try.func37, Try.ntmps37
  go_upto_region 2 with fail
  change Code.wp _ _ _ _ (qW w o A c)
  obtain ⟨W, hW⟩ : ∃ W, W = qW w o A c := ⟨_, rfl⟩
  rw [← hW] at hs0 hkd hk8 HI0 ⊢
  rw [show w.heap.size + 1 + 1 = w.heap.size + 2 from rfl]
  clear hW
  go_wp2_with fail
  go_loopw [17] (fun v17 wr => ∃ (i : Nat) (A2 : Option Addr) (c2 : Nat), v17 = .int .i64 i ∧ i ≤ o.f6.length ∧ Hid (MgI w wr bx N l w.heap.size o A c A2 c2 (ofKeys l (o.f6.take i))))
    (fun v17 _ => o.f6.length - (intOf v17).toNat)
  case atStart => exact ⟨0, none, 0, by go_num, Nat.zero_le _, HI0⟩
  case round =>
    obtain ⟨i, A2, c2, rfl, hi, HI⟩ := hrel
    by_cases hlt : i < o.f6.length
    · have hdec : decide ((i : Int) < (o.f6.length : Int)) = true := decide_eq_true (by omega)
      obtain ⟨ad, rfl, hx⟩ := Kd.at_int (Kd.Heap.C (Kd.heap_int _) (fun k hk => HI.out.below.block k hk) HC.out) (i : Int) (by omega) (by omega)
      obtain ⟨k, hkk⟩ : ∃ k, k = o.f6[i] := ⟨_, rfl⟩
      have hrd : rd o.f6 (i : Int) = k := by
        rw [hkk]
        unfold rd
        simp [List.getD_eq_getElem?_getD, hlt]
      rw [hrd, Int.toNat_natCast] at hx
      have hkw : u64wf k := by rw [hkk]; exact HW.out _ (List.getElem_mem hlt)
      have hrun := now_look HI.out.map hkw
      have HKK := Lib.hid hkk
      clear hkk hrd hkw
      cases hf : fnd l k with
      | none =>
        rw [hf] at hrun
        have HN : Hid (ofKeys l (o.f6.take (i + 1)) = ofKeys l (o.f6.take i)) := Lib.hid (ofKeys_none hlt (by rw [← HKK.out]; exact hf))
        have hrun' : (Instr.lookup 97 (.map (some bx)) (.int .u64 k) true).run Try.prog wr = .ok (.tuple #[.int .u64 0, .bool false]) wr := hrun
        clear hrun hf
        go_wp2_with fail
        go_roundw
        case rel => exact ⟨i + 1, A2, c2, by go_num, by omega, Lib.hid (by rw [HN.out]; exact HI.out)⟩
        case measure => simp [intOf]; omega
      | some v =>
        rw [hf] at hrun
        have HN : Hid (ofKeys l (o.f6.take (i + 1)) = ofKeys l (o.f6.take i) ++ [(k, v)]) := Lib.hid (by have := ofKeys_some (l := l) hlt (v := v) (by rw [← HKK.out]; exact hf); rw [← HKK.out] at this; exact this)
        have hrun' : (Instr.lookup 97 (.map (some bx)) (.int .u64 k) true).run Try.prog wr = .ok (.tuple #[.int .u64 v, .bool true]) wr := hrun
        clear hrun hf
        obtain ⟨ps, hps⟩ : ∃ ps, ps = ofKeys l (o.f6.take i) := ⟨_, rfl⟩
        have hpl : ps.length ≤ 1099511627776 := by rw [hps]; exact Nat.le_trans (ofKeys_len _ _) (by rw [List.length_take]; omega)
        rw [← hps] at HI HN
        clear hps
        have hbnd : Hid (((toS ps).length + 1) * 16 ≤ 140737488355328) := Lib.hid (by rw [toS_length]; omega)
        have l5 : wr.cell? ⟨w.heap.size + 2, 5, none⟩ = some (.slice A2 (toS ps).length c2) := (ans_cells HI.out.a).2.2.2.2.2.1
        obtain ⟨u3, hu3⟩ : ∃ u3, u3 = Value.slice A2 (toS ps).length c2 := ⟨_, rfl⟩
        go_wp2_with (first
          | (at_builtin; (refine Kd.R_append kSP (w0 := w) w.heap.size rfl (.tmp 29) (.tmp 33) 24 90 (.agg #[(.int .u64 0), (.int .u64 0)]) 16 rfl Try.underlying24 info90 rfl (by decide) (by omega) (.slice A2 (toS ps).length c2) (toS ps) (⟨k, v⟩ : SP) [.int .u64 k, .int .u64 v] (fun k => w.heap.size + 3 ≤ k) (fun _ => False) rfl rfl ?aP (fun _ hk => hk.elim) (fun k hk => by have := HI.out.size; omega) ?aO ?aB ?aS ?aL ?_)
             (case aP => exact k90_mkM _ _ _ (⟨k, v⟩ : SP))
             (case aO => exact HI.out.row)
             (case aB => exact HI.out.below)
             (case aS => exact HI.out.below.size)
             (case aL => exact hbnd.out)
             intro v1 w2 hr2 hb2 hg2 hat2
             rw [← toS_snoc] at hr2
             obtain ⟨A3, c3, rfl⟩ := Kd.R_slice hr2
             have hne2 : ∀ q, q < w.heap.size + 3 → some q ≠ (Value.slice A2 (toS ps).length c2).ownBlock := fun q hq e => by have := HI.out.row.1 q e.symm; omega
             have hq1 := (hg2.block (w.heap.size + 1) (by have := HI.out.size; omega) (hne2 _ (by omega))).trans HI.out.r
             have hq2 := (hg2.block (w.heap.size + 2) (by have := HI.out.size; omega) (hne2 _ (by omega))).trans HI.out.a
             have hmk : Kept wr w2 (fun q => w.heap.size + 3 ≤ q) := Kept.of_grown hg2 (Kept.refl _ _) (fun q e => .inl (HI.out.row.1 q e))
             have hz2 := hg2.size
             have hd6 : w2.cell? ⟨w.heap.size + 2, 5, none⟩ = some (.slice A2 (toS ps).length c2) := (ans_cells hq2).2.2.2.2.2.1
             have hf6 : w2.frozen? ⟨w.heap.size + 2, 5, none⟩ = false := by simp [World.frozen?, hq2]
             have hsc : w2.setCell ⟨w.heap.size + 2, 5, none⟩ (.slice A3 (toS (ps ++ [(k, v)])).length c3) = w2.setRow (w.heap.size + 2) (ansC 0 false 0 false 0 (.slice A3 (toS (ps ++ [(k, v)])).length c3) 0) := setCell_eq_setRow w2 (w.heap.size + 2) 5 _ _ _ (.slice A3 (toS (ps ++ [(k, v)])).length c3) hq2
             have HI3 : Hid (MgI w (w2.setRow (w.heap.size + 2) (ansC 0 false 0 false 0 (.slice A3 (toS (ps ++ [(k, v)])).length c3) 0)) bx N l w.heap.size o (some ad) c A3 c3 (ps ++ [(k, v)])) := Lib.hid
               ⟨below_row hb2 (by omega) _, by have := HI.out.size; simp; omega, (HI.out.map.kept hmk (by omega)).kept (Kept_row _ _ _) (by omega), Kd.R_kept hr2 (Kept_row w2 (w.heap.size + 2) _) (fun q hq e => by omega), (setRow_other _ _ _ _ (by omega)).trans hq1, setRow_heap _ _ _ _ _ _ hq2⟩
             obtain ⟨w3, hw3⟩ : ∃ w3, w3 = w2.setRow (w.heap.size + 2) (ansC 0 false 0 false 0 (.slice A3 (toS (ps ++ [(k, v)])).length c3) 0) := ⟨_, rfl⟩
             rw [← hw3] at hsc HI3
             clear hw3 hr2 hb2 hg2 hat2 hne2 hq1 hq2 hmk))
        go_roundw
        case rel => exact ⟨i + 1, A3, c3, by go_num, by omega, Lib.hid (by rw [HN.out]; exact HI3.out)⟩
        case measure => simp [intOf]; omega
    · obtain rfl : i = o.f6.length := by omega
      have hdec : decide ((o.f6.length : Int) < (o.f6.length : Int)) = false := by simp
      have hI := HI.out
      rw [List.take_length] at hI
      have HI1 := Lib.hid hI
      have HR1 := Lib.hid hI.r
      obtain ⟨l0, l1, l2, l3, l4, l5, l6⟩ := ans_cells hI.a
      clear hI HI
      go_wp2_with (first | ((with_reducible refine gate_store (t := 26) (p := 4) rfl ?_); refine wpList_store_row rfl 26 (.tmp 4) (.tmp 37) rfl (w.heap.size + 1) (ansC 0 false 0 false 0 (.slice A2 (toS (ofKeys l o.f6)).length c2) 0) rfl rfl 26 _ HR1.out (by kernel_rfl) rfl (ansC_one _ _ _ _ _ _ _ _ _) ?_))
      refine bodyPost_ret (res_ans rfl _ rfl (setRow_heap _ _ _ _ _ _ HR1.out)) rfl ⟨_, rfl, Kd.R_mono (Kd.R_kept HI1.out.row (Kept_row wr (w.heap.size + 1) _) (fun k hk e => by omega)) (fun _ _ => trivial), below_row HI1.out.below (by omega) _⟩
end Go.Proofs.Ytngocadnbpdnoaa.Mo
namespace Go.Proofs.Ytngocadnbpdnoaa.Q
open Go.RowKit Go.Proofs.YtngocadnbpdnoaaW.PrintWords Go.Proofs.YtngocadnbpdnoaaW.PrintLast Go.Proofs.YtngocadnbpdnoaaW.PrintMore
attribute [local go_sem] max2_int min2_int max_two min_two max_three min_three max_four min_four   -- for this text's walks alone
set_option linter.unusedVariables false
set_option linter.unusedSimpArgs false

def shutterref06_find.l0 : Nat → List (S90) → Int → Int → Option (Int × Bool)
  | 0, _, _, _ => none
  | k + 1, x0, x1, x6 => if x6 < (x0.length : Int) then (if 0 ≤ x6 then (if ((rd_T90 x0 x6).f0) = x1 then (some ((rd_T90 x0 x6).f1, true)) else (shutterref06_find.l0 k x0 x1 (wrap64 (x6 + 1)))) else (none)) else (some (0, false))
def shutterref06_find.f (k : Nat) (l0 : List (S90)) (a1 : Int) : Option (Int × Bool) := shutterref06_find.l0 k l0 a1 0
theorem shutterref06_find.mono_l : ∀ k, (∀ y0 y1 y2, LeO (shutterref06_find.l0 k y0 y1 y2) (shutterref06_find.l0 (k + 1) y0 y1 y2))
  | 0 => fun _ _ _ r h => by simp [shutterref06_find.l0] at h
  | k + 1 => by
    have ih0 := shutterref06_find.mono_l k
    · intro y0 y1 y2
      unfold shutterref06_find.l0
      repeat' first
      | (with_reducible exact ih0 _ _ _)
      | (with_reducible exact LeO.refl _)
      | (with_reducible exact LeO.none _)
      | (with_reducible refine LeO.ite ?_ ?_)
      | (with_reducible refine LeO.bind ?_ (fun _ => ?_))
      | exact ih0 _ _ _
      | exact LeO.none _
      | refine LeO.ite ?_ ?_
      | refine LeO.bind ?_ (fun _ => ?_)
theorem shutterref06_find.mono : ∀ a0 a1 k, LeO (shutterref06_find.f k a0 a1) (shutterref06_find.f (k + 1) a0 a1) := by
  intro a0 a1 k
  have ih0 := shutterref06_find.mono_l k
  unfold shutterref06_find.f
  repeat' first
      | (with_reducible exact ih0 _ _ _)
      | (with_reducible exact LeO.refl _)
      | (with_reducible exact LeO.none _)
      | (with_reducible refine LeO.ite ?_ ?_)
      | (with_reducible refine LeO.bind ?_ (fun _ => ?_))
      | exact ih0 _ _ _
      | exact LeO.none _
      | refine LeO.ite ?_ ?_
      | refine LeO.bind ?_ (fun _ => ?_)
set_option maxHeartbeats 8000000 in
set_option maxRecDepth 100000 in
theorem shutterref06_find.calls (k : Nat) (A0 : Option Addr) (c0 : Nat) (l0 : List (S90)) (a1 : Int) (r1 : Int) (r2 : Bool) (w : World) (hr0 : Kd.C k90 w A0 l0.length l0) (hc0 : l0.length ≤ c0) (h : shutterref06_find.f k l0 a1 = some (r1, r2)) :
    Calls Try.prog 52 #[.slice A0 l0.length c0, .int .u64 a1] w fun e w' => e = .returned (.tuple #[.int .u64 r1, .bool r2]) ∧ Drawn0 w w' := by
  have HR0 := Aside0.mk hr0
  have HC0 := Aside0.mk hc0
  clear hr0 hc0
  have H : (shutterref06_find.l0 k l0 a1 0) = some (r1, r2) := h
  clear h
  have H' := Aside0.mk H
  clear H
  go_enter Try.func52, Try.ntmps52
  go_wp2
  go_loopg [6] k (fun kq v6 w' => ∃ (x6_1 : Int), v6 = .int .i64 x6_1 ∧ Aside0 (shutterref06_find.l0 kq l0 a1 x6_1 = some (r1, r2)) ∧ Aside0 (kq ≤ k) ∧ Drawn0 w w')
  case atStart => exact ⟨(0), (by first | rfl | (simp; done) | (simp [*]; done)), H', ⟨Nat.le_refl _⟩, by repeat (first | exact Drawn0.refl _ | apply Drawn0.step)⟩
  case round =>
    clear H'
    try clear p2
    obtain ⟨x6_1, rfl, HA, HK1, ⟨m1, rfl⟩⟩ := hrel
    cases gk with
    | zero => exact absurd HA.out (by simp [shutterref06_find.l0])
    | succ k1 =>
      have H := HA.out
      clear HA
      simp only [shutterref06_find.l0] at H
      by_cases c3 : x6_1 < (l0.length : Int)
      · rw [if_pos c3] at H
        have c3b0 : decide (x6_1 < (l0.length : Int)) = true := decide_eq_true c3
        clear c3
        by_cases c4 : 0 ≤ x6_1
        · rw [if_pos c4] at H
          have c4b0 : decide (0 ≤ x6_1) = true := decide_eq_true c4
          clear c4
          by_cases c5 : ((rd_T90 l0 x6_1).f0) = a1
          · rw [if_pos c5] at H
            have c5b0 : (((rd_T90 l0 x6_1).f0) == a1) = true := beq_iff_eq.mpr c5
            have c5b1 : (((rd_T90 l0 x6_1).f0) != a1) = false := bne_eq_false_iff_eq.mpr c5
            clear c5
            simp only [Option.some.injEq, Prod.mk.injEq] at H
            obtain ⟨rfl, rfl⟩ := H
            have p180 : 0 ≤ (x6_1 : Int) := of_decide_eq_true (by first | (with_reducible assumption) | assumption)
            have q180 : x6_1 < (l0.length : Int) := of_decide_eq_true (by first | (with_reducible assumption) | assumption)
            obtain ⟨ad180, e180, hx180_0, hx180_1⟩ := at_T90 HR0.out x6_1 p180 q180
            cases e180
            replace p180 := eq_true p180
            replace q180 := eq_true q180
            have p181 : 0 ≤ (x6_1 : Int) := of_decide_eq_true (by first | (with_reducible assumption) | assumption)
            have q181 : x6_1 < (l0.length : Int) := of_decide_eq_true (by first | (with_reducible assumption) | assumption)
            obtain ⟨ad181, e181, hx181_0, hx181_1⟩ := at_T90 HR0.out x6_1 p181 q181
            obtain rfl : ad180 = ad181 := (by injection e181)
            replace p181 := eq_true p181
            replace q181 := eq_true q181
            go_wp2
            go_ret2
            exact ⟨by first | rfl | (simp; done) | (simp [*]; done), by repeat (first | exact Drawn0.refl _ | apply Drawn0.step)⟩
          · rw [if_neg c5] at H
            have c5b0 : (((rd_T90 l0 x6_1).f0) == a1) = false := beq_eq_false_iff_ne.mpr c5
            have c5b1 : (((rd_T90 l0 x6_1).f0) != a1) = true := bne_iff_ne.mpr c5
            have H' := Aside0.mk H
            clear H
            have p180 : 0 ≤ (x6_1 : Int) := of_decide_eq_true (by first | (with_reducible assumption) | assumption)
            have q180 : x6_1 < (l0.length : Int) := of_decide_eq_true (by first | (with_reducible assumption) | assumption)
            obtain ⟨ad180, e180, hx180_0, hx180_1⟩ := at_T90 HR0.out x6_1 p180 q180
            cases e180
            replace p180 := eq_true p180
            replace q180 := eq_true q180
            go_wp2
            go_roundg k1
            case measure => have := HK1.out; omega
            case rel => exact ⟨(wrap64 (x6_1 + 1)), (by first | rfl | (simp; done) | (simp [*]; done)), H', ⟨by have := HK1.out; omega⟩, by repeat (first | exact Drawn0.refl _ | apply Drawn0.step)⟩
        · rw [if_neg c4] at H
          exact absurd H (by simp)
      · rw [if_neg c3] at H
        have c3b0 : decide (x6_1 < (l0.length : Int)) = false := decide_eq_false c3
        clear c3
        simp only [Option.some.injEq, Prod.mk.injEq] at H
        obtain ⟨rfl, rfl⟩ := H
        go_wp2
        go_ret2
        exact ⟨by first | rfl | (simp; done) | (simp [*]; done), by repeat (first | exact Drawn0.refl _ | apply Drawn0.step)⟩

end Go.Proofs.Ytngocadnbpdnoaa.Q
namespace Go.Proofs.Ytngocadnbpdnoaa.Q
open Go.RowKit Go.Proofs.YtngocadnbpdnoaaW.PrintWords Go.Proofs.YtngocadnbpdnoaaW.PrintLast Go.Proofs.YtngocadnbpdnoaaW.PrintMore
attribute [local go_sem] max2_int min2_int max_two min_two max_three min_three max_four min_four   -- for this text's walks alone
set_option linter.unusedVariables false
set_option linter.unusedSimpArgs false

def shutterref06_With.l0 : Nat → List (S90) → Int → Int → List (S90) → Int → Option ((List (S90)))
  | 0, _, _, _, _, _ => none
  | k + 1, x0, x1, x2, x7, x8 => if x8 < (x0.length : Int) then (if 0 ≤ x8 then (if ((rd_T90 x0 x8).f0) < x1 then (if x7.length < 8796093022208 then (shutterref06_With.l0 k x0 x1 x2 (x7 ++ [(⟨(rd_T90 x0 x8).f0, (rd_T90 x0 x8).f1⟩ : S90)]) (wrap64 (x8 + 1))) else (none)) else (if x7.length < 8796093022208 then ((some (x7 ++ [(⟨x1, x2⟩ : S90)] : List (S90))).bind fun y187 => (if ((rd_T90 x0 x8).f0) = x1 then (if 0 ≤ (wrap64 (x8 + 1)) then (if (wrap64 (x8 + 1)) ≤ (x0.length : Int) then ((some (x0.drop ((wrap64 (x8 + 1)) : Int).toNat : List (S90))).bind fun y191 => (if y187.length + y191.length < 8796093022208 then (some (y187 ++ y191)) else (none))) else (none)) else (none)) else (if x8 ≤ (x0.length : Int) then ((some (x0.drop (x8 : Int).toNat : List (S90))).bind fun y198 => (if y187.length + y198.length < 8796093022208 then (some (y187 ++ y198)) else (none))) else (none)))) else (none))) else (none)) else (if x7.length < 8796093022208 then ((some (x7 ++ [(⟨x1, x2⟩ : S90)] : List (S90))).bind fun y205 => (if 0 ≤ x8 then (if x8 ≤ (x0.length : Int) then ((some (x0.drop (x8 : Int).toNat : List (S90))).bind fun y208 => (if y205.length + y208.length < 8796093022208 then (some (y205 ++ y208)) else (none))) else (none)) else (none))) else (none))
def shutterref06_With.f (k : Nat) (l0 : List (S90)) (a1 : Int) (a2 : Int) : Option ((List (S90))) := shutterref06_With.l0 k l0 a1 a2 ([] : List (S90)) 0
theorem shutterref06_With.mono_l : ∀ k, (∀ y0 y1 y2 y3 y4, LeO (shutterref06_With.l0 k y0 y1 y2 y3 y4) (shutterref06_With.l0 (k + 1) y0 y1 y2 y3 y4))
  | 0 => fun _ _ _ _ _ r h => by simp [shutterref06_With.l0] at h
  | k + 1 => by
    have ih0 := shutterref06_With.mono_l k
    · intro y0 y1 y2 y3 y4
      unfold shutterref06_With.l0
      repeat' first
      | (with_reducible exact ih0 _ _ _ _ _)
      | (with_reducible exact LeO.refl _)
      | (with_reducible exact LeO.none _)
      | (with_reducible refine LeO.ite ?_ ?_)
      | (with_reducible refine LeO.bind ?_ (fun _ => ?_))
      | exact ih0 _ _ _ _ _
      | exact LeO.none _
      | refine LeO.ite ?_ ?_
      | refine LeO.bind ?_ (fun _ => ?_)
theorem shutterref06_With.mono : ∀ a0 a1 a2 k, LeO (shutterref06_With.f k a0 a1 a2) (shutterref06_With.f (k + 1) a0 a1 a2) := by
  intro a0 a1 a2 k
  have ih0 := shutterref06_With.mono_l k
  unfold shutterref06_With.f
  repeat' first
      | (with_reducible exact ih0 _ _ _ _ _)
      | (with_reducible exact LeO.refl _)
      | (with_reducible exact LeO.none _)
      | (with_reducible refine LeO.ite ?_ ?_)
      | (with_reducible refine LeO.bind ?_ (fun _ => ?_))
      | exact ih0 _ _ _ _ _
      | exact LeO.none _
      | refine LeO.ite ?_ ?_
      | refine LeO.bind ?_ (fun _ => ?_)
set_option maxHeartbeats 8000000 in
set_option maxRecDepth 100000 in
theorem shutterref06_With.calls (k : Nat) (A0 : Option Addr) (c0 : Nat) (l0 : List (S90)) (a1 : Int) (a2 : Int) (r : List (S90)) (w : World) (hr0 : Kd.C k90 w A0 l0.length l0) (hc0 : l0.length ≤ c0) (h : shutterref06_With.f k l0 a1 a2 = some r) :
    Calls Try.prog 53 #[.slice A0 l0.length c0, .int .u64 a1, .int .u64 a2] w fun e w' => ∃ v0_ : Value, e = .returned (v0_) ∧ Kd.R k90 90 w' w.heap.size (fun _ => True) v0_ r ∧ Below w.heap.size w w' := by
  have hu90 := Try.underlying90
  have HR0 := Aside0.mk hr0
  have HC0 := Aside0.mk hc0
  clear hr0 hc0
  have HB := Aside0.mk (Below.refl w.heap.size w)
  have H : (shutterref06_With.l0 k l0 a1 a2 ([] : List (S90)) 0) = some r := h
  clear h
  have H' := Aside0.mk H
  clear H
  go_enter Try.func53, Try.ntmps53
  go_wp2
  go_loopg [7, 8] k (fun kq v7 v8 w' => ∃ (x7_1 : List (S90)) (x8_1 : Int), v8 = .int .i64 x8_1 ∧ Aside0 (shutterref06_With.l0 kq l0 a1 a2 x7_1 x8_1 = some r) ∧ Aside0 (kq ≤ k) ∧ Aside0 (Kd.R k90 90 w' w.heap.size (fun _ => True) v7 x7_1) ∧ Aside0 (Below w.heap.size w w'))
  case atStart => exact ⟨(([] : List (S90))), (0), (by first | rfl | (simp; done) | (simp [*]; done)), H', ⟨Nat.le_refl _⟩, ⟨by first | exact Kd.R_nil _ _ _ _ _ | exact Kd.N_nil _ _ _ _ _ | exact Kd.V_nil _ _ _ _ _ | exact Kd.Q_nil _ _ _ _ _ | exact Kd.S_nil _ _ _ _ _⟩, ⟨by repeat (first | (with_reducible first | exact HB.out | apply below_alloc | apply pw_below_drewN | apply below_drew1) | exact HB.out)⟩⟩
  case round =>
    clear H'
    try clear p2
    obtain ⟨x7_1, x8_1, rfl, HA, HK1, HO_7, HB⟩ := hrel
    cases gk with
    | zero => exact absurd HA.out (by simp [shutterref06_With.l0])
    | succ k1 =>
      have H := HA.out
      clear HA
      simp only [shutterref06_With.l0] at H
      by_cases c4 : x8_1 < (l0.length : Int)
      · rw [if_pos c4] at H
        have c4b0 : decide (x8_1 < (l0.length : Int)) = true := decide_eq_true c4
        clear c4
        by_cases c5 : 0 ≤ x8_1
        · rw [if_pos c5] at H
          have c5b0 : decide (0 ≤ x8_1) = true := decide_eq_true c5
          clear c5
          by_cases c6 : ((rd_T90 l0 x8_1).f0) < a1
          · rw [if_pos c6] at H
            have c6b0 : decide (((rd_T90 l0 x8_1).f0) < a1) = true := decide_eq_true c6
            clear c6
            by_cases c7 : x7_1.length < 8796093022208
            · rw [if_pos c7] at H
              have LMc7 := Aside0.mk c7
              clear c7
              obtain ⟨y184, hy184⟩ : ∃ y_ : List (S90), y_ = (x7_1 ++ [(⟨(rd_T90 l0 x8_1).f0, (rd_T90 l0 x8_1).f1⟩ : S90)]) := ⟨_, rfl⟩
              replace H : (shutterref06_With.l0 k1 l0 a1 a2 y184 (wrap64 (x8_1 + 1))) = some r := by first | (rw [hy184]; with_reducible exact H) | (have H2_ := (Option.bind_some _ _).symm.trans H; rw [hy184]; with_reducible exact H2_) | (have H2_ := (Option.bind_some _ _).symm.trans H; with_reducible exact H2_) | with_reducible exact H | (rw [hy184]; exact H) | exact H
              have Ny184 := Aside0.mk hy184
              clear hy184
              have H' := Aside0.mk H
              clear H
              have p182 : 0 ≤ (x8_1 : Int) := of_decide_eq_true (by first | (with_reducible assumption) | assumption)
              have q182 : x8_1 < (l0.length : Int) := of_decide_eq_true (by first | (with_reducible assumption) | assumption)
              obtain ⟨ad182, e182, hx182_0, hx182_1⟩ := at_T90 HR0.out x8_1 p182 q182
              cases e182
              replace hx182_0 := (HB.out.cell (World.block_lt_of_cell? w _ hx182_0)).trans hx182_0
              replace hx182_1 := (HB.out.cell (World.block_lt_of_cell? w _ hx182_1)).trans hx182_1
              replace p182 := eq_true p182
              replace q182 := eq_true q182
              have p183 : 0 ≤ (x8_1 : Int) := of_decide_eq_true (by first | (with_reducible assumption) | assumption)
              have q183 : x8_1 < (l0.length : Int) := of_decide_eq_true (by first | (with_reducible assumption) | assumption)
              obtain ⟨ad183, e183, hx183_0, hx183_1⟩ := at_T90 HR0.out x8_1 p183 q183
              obtain rfl : ad182 = ad183 := (by injection e183)
              replace hx183_0 := (HB.out.cell (World.block_lt_of_cell? w _ hx183_0)).trans hx183_0
              replace hx183_1 := (HB.out.cell (World.block_lt_of_cell? w _ hx183_1)).trans hx183_1
              replace p183 := eq_true p183
              replace q183 := eq_true q183
              go_wp2_with (first | ((with_reducible refine gate_builtin (b := .append) (xs := #[.tmp 22, .tmp 27]) rfl ?_); at_builtin; refine Kd.R_append k90 (w0 := w) w.heap.size rfl (.tmp 22) (.tmp 27) 24 90 (.agg #[(.int .u64 0), (.int .u64 0)]) 16 rfl Try.underlying24 info90 rfl (by decide) (by omega) u7 x7_1 (⟨(rd_T90 l0 x8_1).f0, (rd_T90 l0 x8_1).f1⟩ : S90) [.int .u64 ((rd_T90 l0 x8_1).f0), .int .u64 ((rd_T90 l0 x8_1).f1)] (fun _ => True) (fun _ => False) rfl rfl ?aP (fun _ hk => hk.elim) ?aF ?aO ?aB ?aS ?aL ?_; (case aP => exact k90_mkM _ _ _ (⟨(rd_T90 l0 x8_1).f0, (rd_T90 l0 x8_1).f1⟩ : S90)); (case aB => exact (by repeat (first | (with_reducible first | exact HB.out | apply below_alloc | apply pw_below_drewN | apply below_drew1) | exact HB.out))); (case aF => exact (fun _ _ => trivial)); (case aO => exact (by (with_reducible repeat (first | apply Kd.R_alloc | apply Kd.R_drewN | apply Kd.R_drew)); exact HO_7.out)); (case aS => exact (below_size (by repeat (first | (with_reducible first | exact HB.out | apply below_alloc | apply pw_below_drewN | apply below_drew1) | exact HB.out)))); (case aL => have := LMc7.out; omega); intro v185 w8 ho hb hg hat; rw [← Ny184.out] at ho; have n0_ := Aside0.mk (hb); have n1_ := Aside0.mk (ho); clear HB; clear HO_7; have HB := n0_; have HO186 := n1_; clear n0_ n1_; clear ho hb hg hat))
              go_roundg k1
              case measure => have := HK1.out; omega
              case rel => exact ⟨(y184), (wrap64 (x8_1 + 1)), (by first | rfl | (simp; done) | (simp [*]; done)), H', ⟨by have := HK1.out; omega⟩, ⟨by (with_reducible repeat (first | apply Kd.R_alloc | apply Kd.R_drewN | apply Kd.R_drew)); exact HO186.out⟩, ⟨by repeat (first | (with_reducible first | exact HB.out | apply below_alloc | apply pw_below_drewN | apply below_drew1) | exact HB.out)⟩⟩
            · rw [if_neg c7] at H
              exact absurd H (by simp)
          · rw [if_neg c6] at H
            have c6b0 : decide (((rd_T90 l0 x8_1).f0) < a1) = false := decide_eq_false c6
            clear c6
            by_cases c9 : x7_1.length < 8796093022208
            · rw [if_pos c9] at H
              have LMc9 := Aside0.mk c9
              clear c9
              obtain ⟨y187, hy187⟩ : ∃ y_ : List (S90), y_ = (x7_1 ++ [(⟨a1, a2⟩ : S90)]) := ⟨_, rfl⟩
              replace H : (if ((rd_T90 l0 x8_1).f0) = a1 then (if 0 ≤ (wrap64 (x8_1 + 1)) then (if (wrap64 (x8_1 + 1)) ≤ (l0.length : Int) then ((some (l0.drop ((wrap64 (x8_1 + 1)) : Int).toNat : List (S90))).bind fun y191 => (if y187.length + y191.length < 8796093022208 then (some (y187 ++ y191)) else (none))) else (none)) else (none)) else (if x8_1 ≤ (l0.length : Int) then ((some (l0.drop (x8_1 : Int).toNat : List (S90))).bind fun y198 => (if y187.length + y198.length < 8796093022208 then (some (y187 ++ y198)) else (none))) else (none))) = some r := by first | (rw [hy187]; with_reducible exact H) | (have H2_ := (Option.bind_some _ _).symm.trans H; rw [hy187]; with_reducible exact H2_) | (have H2_ := (Option.bind_some _ _).symm.trans H; with_reducible exact H2_) | with_reducible exact H | (rw [hy187]; exact H) | exact H
              have Ny187 := Aside0.mk hy187
              clear hy187
              by_cases c10 : ((rd_T90 l0 x8_1).f0) = a1
              · rw [if_pos c10] at H
                have c10b0 : (((rd_T90 l0 x8_1).f0) == a1) = true := beq_iff_eq.mpr c10
                have c10b1 : (((rd_T90 l0 x8_1).f0) != a1) = false := bne_eq_false_iff_eq.mpr c10
                clear c10
                obtain ⟨ji11, hji11⟩ : ∃ j_ : Int, (wrap64 (x8_1 + 1)) = j_ := ⟨_, rfl⟩
                replace H : (if 0 ≤ (ji11) then (if (ji11) ≤ (l0.length : Int) then ((some (l0.drop ((ji11) : Int).toNat : List (S90))).bind fun y191 => (if y187.length + y191.length < 8796093022208 then (some (y187 ++ y191)) else (none))) else (none)) else (none)) = some r := by first | (rw [hji11] at H; exact H) | (simp only [hji11] at H ⊢; exact H)
                have hji11w : (IntKind.i64.wrap (x8_1 + 1)) = ji11 := (i64_w _).trans hji11
                by_cases c12 : 0 ≤ (ji11)
                · rw [if_pos c12] at H
                  have c12b0 := eq_true c12
                  have c12b1 : decide (0 ≤ (ji11)) = true := decide_eq_true c12
                  clear c12
                  by_cases c13 : (ji11) ≤ (l0.length : Int)
                  · rw [if_pos c13] at H
                    have c13b0 := eq_true c13
                    have c13b1 : decide ((ji11) ≤ (l0.length : Int)) = true := decide_eq_true c13
                    clear c13
                    obtain ⟨y191, hy191⟩ : ∃ y_ : List (S90), y_ = (l0.drop ((ji11) : Int).toNat) := ⟨_, rfl⟩
                    replace H : (if y187.length + y191.length < 8796093022208 then (some (y187 ++ y191)) else (none)) = some r := by first | (rw [hy191]; with_reducible exact H) | (have H2_ := (Option.bind_some _ _).symm.trans H; rw [hy191]; with_reducible exact H2_) | (have H2_ := (Option.bind_some _ _).symm.trans H; with_reducible exact H2_) | with_reducible exact H | (rw [hy191]; exact H) | exact H
                    have Ny191 := Aside0.mk hy191
                    clear hy191
                    by_cases c14 : y187.length + y191.length < 8796093022208
                    · rw [if_pos c14] at H
                      have LMc14 := Aside0.mk c14
                      clear c14
                      obtain ⟨y195, hy195⟩ : ∃ y_ : List (S90), y_ = (y187 ++ y191) := ⟨_, rfl⟩
                      replace H : (some y195) = some r := by first | (rw [hy195]; with_reducible exact H) | (have H2_ := (Option.bind_some _ _).symm.trans H; rw [hy195]; with_reducible exact H2_) | (have H2_ := (Option.bind_some _ _).symm.trans H; with_reducible exact H2_) | with_reducible exact H | (rw [hy195]; exact H) | exact H
                      have Ny195 := Aside0.mk hy195
                      clear hy195
                      obtain rfl := Option.some.inj H
                      have p182 : 0 ≤ (x8_1 : Int) := of_decide_eq_true (by first | (with_reducible assumption) | assumption)
                      have q182 : x8_1 < (l0.length : Int) := of_decide_eq_true (by first | (with_reducible assumption) | assumption)
                      obtain ⟨ad182, e182, hx182_0, hx182_1⟩ := at_T90 HR0.out x8_1 p182 q182
                      cases e182
                      replace hx182_0 := (HB.out.cell (World.block_lt_of_cell? w _ hx182_0)).trans hx182_0
                      replace hx182_1 := (HB.out.cell (World.block_lt_of_cell? w _ hx182_1)).trans hx182_1
                      replace p182 := eq_true p182
                      replace q182 := eq_true q182
                      go_wp2_with (first | ((with_reducible refine gate_builtin (b := .append) (xs := #[.tmp 31, .tmp 35]) rfl ?_); at_builtin; refine Kd.R_append k90 (w0 := w) w.heap.size rfl (.tmp 31) (.tmp 35) 24 90 (.agg #[(.int .u64 0), (.int .u64 0)]) 16 rfl Try.underlying24 info90 rfl (by decide) (by omega) u7 x7_1 (⟨a1, a2⟩ : S90) [.int .u64 a1, .int .u64 a2] (fun _ => True) (fun _ => False) rfl rfl ?aP (fun _ hk => hk.elim) ?aF ?aO ?aB ?aS ?aL ?_; (case aP => exact k90_mkM _ _ _ (⟨a1, a2⟩ : S90)); (case aB => exact (by repeat (first | (with_reducible first | exact HB.out | apply below_alloc | apply pw_below_drewN | apply below_drew1) | exact HB.out))); (case aF => exact (fun _ _ => trivial)); (case aO => exact (by (with_reducible repeat (first | apply Kd.R_alloc | apply Kd.R_drewN | apply Kd.R_drew)); exact HO_7.out)); (case aS => exact (below_size (by repeat (first | (with_reducible first | exact HB.out | apply below_alloc | apply pw_below_drewN | apply below_drew1) | exact HB.out)))); (case aL => have := LMc9.out; omega); intro v188 w15 ho hb hg hat; rw [← Ny187.out] at ho; have n0_ := Aside0.mk (hb); have n1_ := Aside0.mk (ho); clear HB; clear HO_7; have HB := n0_; have HO189 := n1_; clear n0_ n1_; clear ho hb hg hat; have p190 : 0 ≤ (x8_1 : Int) := of_decide_eq_true (by first | (with_reducible assumption) | assumption); have q190 : x8_1 < (l0.length : Int) := of_decide_eq_true (by first | (with_reducible assumption) | assumption); obtain ⟨ad190, e190, hx190_0, hx190_1⟩ := at_T90 HR0.out x8_1 p190 q190; obtain rfl : ad182 = ad190 := (by injection e190); replace hx190_0 := (HB.out.cell (World.block_lt_of_cell? w _ hx190_0)).trans hx190_0; replace hx190_1 := (HB.out.cell (World.block_lt_of_cell? w _ hx190_1)).trans hx190_1; replace p190 := eq_true p190; replace q190 := eq_true q190; have q16 : ((ji11) : Int) ≤ ((l0.length : Int) : Int) := of_decide_eq_true (by first | (with_reducible assumption) | assumption); obtain ⟨i016, hi016, _, hsz16, _⟩ := info_parts info90; have hroom16 : l0.length ≤ c0 := HC0.out; have hC16 : Kd.C k90 _ (some ad182) l0.length l0 := HR0.out; have q016 : (0 : Int) ≤ ((ji11) : Int) := of_decide_eq_true (by first | (with_reducible assumption) | assumption); have hcut16 := cut_from (P := Try.prog) 24 90 .i64 Try.underlying24 hi016 2 hsz16 (some ad182) l0.length c0 (ji11) q016 q16; have hr16 := Kd.C_drop (m := ((ji11) : Int).toNat) (c := c0) hC16 (by omega) hroom16; obtain ⟨A16, hA16⟩ : ∃ A1, A1 = (if c0 = ((ji11) : Int).toNat then (some ad182) else ((some ad182) : Option Addr).map (·.add (((ji11) : Int).toNat * 2))) := ⟨_, rfl⟩; obtain ⟨c16, hc16⟩ : ∃ c1, c1 = c0 - ((ji11) : Int).toNat := ⟨_, rfl⟩; have hy16 : y191.length = l0.length - ((ji11) : Int).toNat := (by rw [Ny191.out, List.length_drop] <;> omega); rw [show (l0).drop ((ji11) : Int).toNat = y191 from Ny191.out.symm] at hr16; replace hr16 : Kd.C k90 _ A16 y191.length y191 := (by rw [hA16]; exact hr16); rw [← hy16, ← hA16, ← hc16] at hcut16; have HR194 := Aside0.mk hr16; have HC194 := Aside0.mk (show y191.length ≤ c16 from by rw [hy16, hc16]; exact Nat.sub_le_sub_right hroom16 _); clear hr16 hC16 hroom16 hi016 hsz16 hc16; have KY16 := Aside0.mk hy16; have KA16 := Aside0.mk hA16; clear hy16 hA16; replace q16 := eq_true q16) | ((with_reducible refine gate_builtin (b := .append) (xs := #[.tmp 52, .tmp 55]) rfl ?_); at_builtin; refine Kd.R_append_rows k90 (w0 := w) w.heap.size rfl (.tmp 52) (.tmp 55) 24 90 (.agg #[(.int .u64 0), (.int .u64 0)]) 16 rfl Try.underlying24 info90 rfl (by decide) (by omega) v188 y187 y191 _ _ _ (fun _ => True) (fun _ => False) rfl rfl ?aO ?aR (fun _ _ h => h) (fun _ h => h.elim) ?aF ?aB ?aS ?aL ?_; (case aR => repeat (first | exact (Kd.C_below HR194.out HB.out) | (with_reducible refine Kd.C_alloc ?_ _) | (with_reducible refine Kd.C_drewN ?_ _) | (with_reducible refine Kd.C_drew ?_))); (case aB => exact (by repeat (first | (with_reducible first | exact HB.out | apply below_alloc | apply pw_below_drewN | apply below_drew1) | exact HB.out))); (case aF => exact (fun _ _ => trivial)); (case aO => exact (by (with_reducible repeat (first | apply Kd.R_alloc | apply Kd.R_drewN | apply Kd.R_drew)); exact HO189.out)); (case aS => exact (below_size (by repeat (first | (with_reducible first | exact HB.out | apply below_alloc | apply pw_below_drewN | apply below_drew1) | exact HB.out)))); (case aL => have := LMc14.out; omega); intro v196 w17 ho hb hg hat; rw [← Ny195.out] at ho; have n0_ := Aside0.mk (hb); have n1_ := Aside0.mk (ho); clear HB; clear HO189; have HB := n0_; have HO197 := n1_; clear n0_ n1_; clear ho hb hg hat))
                      go_ret
                      exact ⟨_, by first | rfl | (simp [errW_none, errW_some] <;> rfl) | (simp only [← hji11]; first | rfl | (simp [errW_none, errW_some] <;> rfl)) | (simp [*, errW_none, errW_some] <;> rfl), by (with_reducible repeat (first | apply Kd.R_alloc | apply Kd.R_drewN | apply Kd.R_drew)); exact HO197.out, by repeat (first | (with_reducible first | exact HB.out | apply below_alloc | apply pw_below_drewN | apply below_drew1) | exact HB.out)⟩
                    · rw [if_neg c14] at H
                      exact absurd H (by simp)
                  · rw [if_neg c13] at H
                    exact absurd H (by simp)
                · rw [if_neg c12] at H
                  exact absurd H (by simp)
              · rw [if_neg c10] at H
                have c10b0 : (((rd_T90 l0 x8_1).f0) == a1) = false := beq_eq_false_iff_ne.mpr c10
                have c10b1 : (((rd_T90 l0 x8_1).f0) != a1) = true := bne_iff_ne.mpr c10
                have c18b0 := eq_true (of_decide_eq_true (by first | (with_reducible assumption) | assumption) : 0 ≤ x8_1)
                by_cases c19 : x8_1 ≤ (l0.length : Int)
                · rw [if_pos c19] at H
                  have c19b0 := eq_true c19
                  have c19b1 : decide (x8_1 ≤ (l0.length : Int)) = true := decide_eq_true c19
                  clear c19
                  obtain ⟨y198, hy198⟩ : ∃ y_ : List (S90), y_ = (l0.drop (x8_1 : Int).toNat) := ⟨_, rfl⟩
                  replace H : (if y187.length + y198.length < 8796093022208 then (some (y187 ++ y198)) else (none)) = some r := by first | (rw [hy198]; with_reducible exact H) | (have H2_ := (Option.bind_some _ _).symm.trans H; rw [hy198]; with_reducible exact H2_) | (have H2_ := (Option.bind_some _ _).symm.trans H; with_reducible exact H2_) | with_reducible exact H | (rw [hy198]; exact H) | exact H
                  have Ny198 := Aside0.mk hy198
                  clear hy198
                  by_cases c20 : y187.length + y198.length < 8796093022208
                  · rw [if_pos c20] at H
                    have LMc20 := Aside0.mk c20
                    clear c20
                    obtain ⟨y202, hy202⟩ : ∃ y_ : List (S90), y_ = (y187 ++ y198) := ⟨_, rfl⟩
                    replace H : (some y202) = some r := by first | (rw [hy202]; with_reducible exact H) | (have H2_ := (Option.bind_some _ _).symm.trans H; rw [hy202]; with_reducible exact H2_) | (have H2_ := (Option.bind_some _ _).symm.trans H; with_reducible exact H2_) | with_reducible exact H | (rw [hy202]; exact H) | exact H
                    have Ny202 := Aside0.mk hy202
                    clear hy202
                    obtain rfl := Option.some.inj H
                    have p182 : 0 ≤ (x8_1 : Int) := of_decide_eq_true (by first | (with_reducible assumption) | assumption)
                    have q182 : x8_1 < (l0.length : Int) := of_decide_eq_true (by first | (with_reducible assumption) | assumption)
                    obtain ⟨ad182, e182, hx182_0, hx182_1⟩ := at_T90 HR0.out x8_1 p182 q182
                    cases e182
                    replace hx182_0 := (HB.out.cell (World.block_lt_of_cell? w _ hx182_0)).trans hx182_0
                    replace hx182_1 := (HB.out.cell (World.block_lt_of_cell? w _ hx182_1)).trans hx182_1
                    replace p182 := eq_true p182
                    replace q182 := eq_true q182
                    go_wp2_with (first | ((with_reducible refine gate_builtin (b := .append) (xs := #[.tmp 31, .tmp 35]) rfl ?_); at_builtin; refine Kd.R_append k90 (w0 := w) w.heap.size rfl (.tmp 31) (.tmp 35) 24 90 (.agg #[(.int .u64 0), (.int .u64 0)]) 16 rfl Try.underlying24 info90 rfl (by decide) (by omega) u7 x7_1 (⟨a1, a2⟩ : S90) [.int .u64 a1, .int .u64 a2] (fun _ => True) (fun _ => False) rfl rfl ?aP (fun _ hk => hk.elim) ?aF ?aO ?aB ?aS ?aL ?_; (case aP => exact k90_mkM _ _ _ (⟨a1, a2⟩ : S90)); (case aB => exact (by repeat (first | (with_reducible first | exact HB.out | apply below_alloc | apply pw_below_drewN | apply below_drew1) | exact HB.out))); (case aF => exact (fun _ _ => trivial)); (case aO => exact (by (with_reducible repeat (first | apply Kd.R_alloc | apply Kd.R_drewN | apply Kd.R_drew)); exact HO_7.out)); (case aS => exact (below_size (by repeat (first | (with_reducible first | exact HB.out | apply below_alloc | apply pw_below_drewN | apply below_drew1) | exact HB.out)))); (case aL => have := LMc9.out; omega); intro v188 w21 ho hb hg hat; rw [← Ny187.out] at ho; have n0_ := Aside0.mk (hb); have n1_ := Aside0.mk (ho); clear HB; clear HO_7; have HB := n0_; have HO189 := n1_; clear n0_ n1_; clear ho hb hg hat; have p190 : 0 ≤ (x8_1 : Int) := of_decide_eq_true (by first | (with_reducible assumption) | assumption); have q190 : x8_1 < (l0.length : Int) := of_decide_eq_true (by first | (with_reducible assumption) | assumption); obtain ⟨ad190, e190, hx190_0, hx190_1⟩ := at_T90 HR0.out x8_1 p190 q190; obtain rfl : ad182 = ad190 := (by injection e190); replace hx190_0 := (HB.out.cell (World.block_lt_of_cell? w _ hx190_0)).trans hx190_0; replace hx190_1 := (HB.out.cell (World.block_lt_of_cell? w _ hx190_1)).trans hx190_1; replace p190 := eq_true p190; replace q190 := eq_true q190; have q22 : (x8_1 : Int) ≤ ((l0.length : Int) : Int) := of_decide_eq_true (by first | (with_reducible assumption) | assumption); obtain ⟨i022, hi022, _, hsz22, _⟩ := info_parts info90; have hroom22 : l0.length ≤ c0 := HC0.out; have hC22 : Kd.C k90 _ (some ad182) l0.length l0 := HR0.out; have q022 : (0 : Int) ≤ (x8_1 : Int) := of_decide_eq_true (by first | (with_reducible assumption) | assumption); have hcut22 := cut_from (P := Try.prog) 24 90 .i64 Try.underlying24 hi022 2 hsz22 (some ad182) l0.length c0 x8_1 q022 q22; have hr22 := Kd.C_drop (m := (x8_1 : Int).toNat) (c := c0) hC22 (by omega) hroom22; obtain ⟨A22, hA22⟩ : ∃ A1, A1 = (if c0 = (x8_1 : Int).toNat then (some ad182) else ((some ad182) : Option Addr).map (·.add ((x8_1 : Int).toNat * 2))) := ⟨_, rfl⟩; obtain ⟨c22, hc22⟩ : ∃ c1, c1 = c0 - (x8_1 : Int).toNat := ⟨_, rfl⟩; have hy22 : y198.length = l0.length - (x8_1 : Int).toNat := (by rw [Ny198.out, List.length_drop] <;> omega); rw [show (l0).drop (x8_1 : Int).toNat = y198 from Ny198.out.symm] at hr22; replace hr22 : Kd.C k90 _ A22 y198.length y198 := (by rw [hA22]; exact hr22); rw [← hy22, ← hA22, ← hc22] at hcut22; have HR201 := Aside0.mk hr22; have HC201 := Aside0.mk (show y198.length ≤ c22 from by rw [hy22, hc22]; exact Nat.sub_le_sub_right hroom22 _); clear hr22 hC22 hroom22 hi022 hsz22 hc22; have KY22 := Aside0.mk hy22; have KA22 := Aside0.mk hA22; clear hy22 hA22; replace q22 := eq_true q22) | ((with_reducible refine gate_builtin (b := .append) (xs := #[.tmp 52, .tmp 55]) rfl ?_); at_builtin; refine Kd.R_append_rows k90 (w0 := w) w.heap.size rfl (.tmp 52) (.tmp 55) 24 90 (.agg #[(.int .u64 0), (.int .u64 0)]) 16 rfl Try.underlying24 info90 rfl (by decide) (by omega) v188 y187 y198 _ _ _ (fun _ => True) (fun _ => False) rfl rfl ?aO ?aR (fun _ _ h => h) (fun _ h => h.elim) ?aF ?aB ?aS ?aL ?_; (case aR => repeat (first | exact (Kd.C_below HR201.out HB.out) | (with_reducible refine Kd.C_alloc ?_ _) | (with_reducible refine Kd.C_drewN ?_ _) | (with_reducible refine Kd.C_drew ?_))); (case aB => exact (by repeat (first | (with_reducible first | exact HB.out | apply below_alloc | apply pw_below_drewN | apply below_drew1) | exact HB.out))); (case aF => exact (fun _ _ => trivial)); (case aO => exact (by (with_reducible repeat (first | apply Kd.R_alloc | apply Kd.R_drewN | apply Kd.R_drew)); exact HO189.out)); (case aS => exact (below_size (by repeat (first | (with_reducible first | exact HB.out | apply below_alloc | apply pw_below_drewN | apply below_drew1) | exact HB.out)))); (case aL => have := LMc20.out; omega); intro v203 w23 ho hb hg hat; rw [← Ny202.out] at ho; have n0_ := Aside0.mk (hb); have n1_ := Aside0.mk (ho); clear HB; clear HO189; have HB := n0_; have HO204 := n1_; clear n0_ n1_; clear ho hb hg hat))
                    go_ret
                    exact ⟨_, by first | rfl | (simp [errW_none, errW_some] <;> rfl) | (simp [*, errW_none, errW_some] <;> rfl), by (with_reducible repeat (first | apply Kd.R_alloc | apply Kd.R_drewN | apply Kd.R_drew)); exact HO204.out, by repeat (first | (with_reducible first | exact HB.out | apply below_alloc | apply pw_below_drewN | apply below_drew1) | exact HB.out)⟩
                  · rw [if_neg c20] at H
                    exact absurd H (by simp)
                · rw [if_neg c19] at H
                  exact absurd H (by simp)
            · rw [if_neg c9] at H
              exact absurd H (by simp)
        · rw [if_neg c5] at H
          exact absurd H (by simp)
      · rw [if_neg c4] at H
        have c4b0 : decide (x8_1 < (l0.length : Int)) = false := decide_eq_false c4
        clear c4
        by_cases c24 : x7_1.length < 8796093022208
        · rw [if_pos c24] at H
          have LMc24 := Aside0.mk c24
          clear c24
          obtain ⟨y205, hy205⟩ : ∃ y_ : List (S90), y_ = (x7_1 ++ [(⟨a1, a2⟩ : S90)]) := ⟨_, rfl⟩
          replace H : (if 0 ≤ x8_1 then (if x8_1 ≤ (l0.length : Int) then ((some (l0.drop (x8_1 : Int).toNat : List (S90))).bind fun y208 => (if y205.length + y208.length < 8796093022208 then (some (y205 ++ y208)) else (none))) else (none)) else (none)) = some r := by first | (rw [hy205]; with_reducible exact H) | (have H2_ := (Option.bind_some _ _).symm.trans H; rw [hy205]; with_reducible exact H2_) | (have H2_ := (Option.bind_some _ _).symm.trans H; with_reducible exact H2_) | with_reducible exact H | (rw [hy205]; exact H) | exact H
          have Ny205 := Aside0.mk hy205
          clear hy205
          by_cases c25 : 0 ≤ x8_1
          · rw [if_pos c25] at H
            have c25b0 := eq_true c25
            have c25b1 : decide (0 ≤ x8_1) = true := decide_eq_true c25
            clear c25
            by_cases c26 : x8_1 ≤ (l0.length : Int)
            · rw [if_pos c26] at H
              have c26b0 := eq_true c26
              have c26b1 : decide (x8_1 ≤ (l0.length : Int)) = true := decide_eq_true c26
              clear c26
              obtain ⟨y208, hy208⟩ : ∃ y_ : List (S90), y_ = (l0.drop (x8_1 : Int).toNat) := ⟨_, rfl⟩
              replace H : (if y205.length + y208.length < 8796093022208 then (some (y205 ++ y208)) else (none)) = some r := by first | (rw [hy208]; with_reducible exact H) | (have H2_ := (Option.bind_some _ _).symm.trans H; rw [hy208]; with_reducible exact H2_) | (have H2_ := (Option.bind_some _ _).symm.trans H; with_reducible exact H2_) | with_reducible exact H | (rw [hy208]; exact H) | exact H
              have Ny208 := Aside0.mk hy208
              clear hy208
              by_cases c27 : y205.length + y208.length < 8796093022208
              · rw [if_pos c27] at H
                have LMc27 := Aside0.mk c27
                clear c27
                obtain ⟨y212, hy212⟩ : ∃ y_ : List (S90), y_ = (y205 ++ y208) := ⟨_, rfl⟩
                replace H : (some y212) = some r := by first | (rw [hy212]; with_reducible exact H) | (have H2_ := (Option.bind_some _ _).symm.trans H; rw [hy212]; with_reducible exact H2_) | (have H2_ := (Option.bind_some _ _).symm.trans H; with_reducible exact H2_) | with_reducible exact H | (rw [hy212]; exact H) | exact H
                have Ny212 := Aside0.mk hy212
                clear hy212
                obtain rfl := Option.some.inj H
                go_wp2_with (first | ((with_reducible refine gate_builtin (b := .append) (xs := #[.tmp 31, .tmp 35]) rfl ?_); at_builtin; refine Kd.R_append k90 (w0 := w) w.heap.size rfl (.tmp 31) (.tmp 35) 24 90 (.agg #[(.int .u64 0), (.int .u64 0)]) 16 rfl Try.underlying24 info90 rfl (by decide) (by omega) u7 x7_1 (⟨a1, a2⟩ : S90) [.int .u64 a1, .int .u64 a2] (fun _ => True) (fun _ => False) rfl rfl ?aP (fun _ hk => hk.elim) ?aF ?aO ?aB ?aS ?aL ?_; (case aP => exact k90_mkM _ _ _ (⟨a1, a2⟩ : S90)); (case aB => exact (by repeat (first | (with_reducible first | exact HB.out | apply below_alloc | apply pw_below_drewN | apply below_drew1) | exact HB.out))); (case aF => exact (fun _ _ => trivial)); (case aO => exact (by (with_reducible repeat (first | apply Kd.R_alloc | apply Kd.R_drewN | apply Kd.R_drew)); exact HO_7.out)); (case aS => exact (below_size (by repeat (first | (with_reducible first | exact HB.out | apply below_alloc | apply pw_below_drewN | apply below_drew1) | exact HB.out)))); (case aL => have := LMc24.out; omega); intro v206 w28 ho hb hg hat; rw [← Ny205.out] at ho; have n0_ := Aside0.mk (hb); have n1_ := Aside0.mk (ho); clear HB; clear HO_7; have HB := n0_; have HO207 := n1_; clear n0_ n1_; clear ho hb hg hat; have q29 : (x8_1 : Int) ≤ ((l0.length : Int) : Int) := of_decide_eq_true (by first | (with_reducible assumption) | assumption); obtain ⟨i029, hi029, _, hsz29, _⟩ := info_parts info90; have hroom29 : l0.length ≤ c0 := HC0.out; have hC29 : Kd.C k90 _ A0 l0.length l0 := HR0.out; have q029 : (0 : Int) ≤ (x8_1 : Int) := of_decide_eq_true (by first | (with_reducible assumption) | assumption); have hcut29 := cut_from (P := Try.prog) 24 90 .i64 Try.underlying24 hi029 2 hsz29 A0 l0.length c0 x8_1 q029 q29; have hr29 := Kd.C_drop (m := (x8_1 : Int).toNat) (c := c0) hC29 (by omega) hroom29; obtain ⟨A29, hA29⟩ : ∃ A1, A1 = (if c0 = (x8_1 : Int).toNat then A0 else (A0 : Option Addr).map (·.add ((x8_1 : Int).toNat * 2))) := ⟨_, rfl⟩; obtain ⟨c29, hc29⟩ : ∃ c1, c1 = c0 - (x8_1 : Int).toNat := ⟨_, rfl⟩; have hy29 : y208.length = l0.length - (x8_1 : Int).toNat := (by rw [Ny208.out, List.length_drop] <;> omega); rw [show (l0).drop (x8_1 : Int).toNat = y208 from Ny208.out.symm] at hr29; replace hr29 : Kd.C k90 _ A29 y208.length y208 := (by rw [hA29]; exact hr29); rw [← hy29, ← hA29, ← hc29] at hcut29; have HR211 := Aside0.mk hr29; have HC211 := Aside0.mk (show y208.length ≤ c29 from by rw [hy29, hc29]; exact Nat.sub_le_sub_right hroom29 _); clear hr29 hC29 hroom29 hi029 hsz29 hc29; have KY29 := Aside0.mk hy29; have KA29 := Aside0.mk hA29; clear hy29 hA29; replace q29 := eq_true q29) | ((with_reducible refine gate_builtin (b := .append) (xs := #[.tmp 52, .tmp 55]) rfl ?_); at_builtin; refine Kd.R_append_rows k90 (w0 := w) w.heap.size rfl (.tmp 52) (.tmp 55) 24 90 (.agg #[(.int .u64 0), (.int .u64 0)]) 16 rfl Try.underlying24 info90 rfl (by decide) (by omega) v206 y205 y208 _ _ _ (fun _ => True) (fun _ => False) rfl rfl ?aO ?aR (fun _ _ h => h) (fun _ h => h.elim) ?aF ?aB ?aS ?aL ?_; (case aR => repeat (first | exact (Kd.C_below HR211.out HB.out) | (with_reducible refine Kd.C_alloc ?_ _) | (with_reducible refine Kd.C_drewN ?_ _) | (with_reducible refine Kd.C_drew ?_))); (case aB => exact (by repeat (first | (with_reducible first | exact HB.out | apply below_alloc | apply pw_below_drewN | apply below_drew1) | exact HB.out))); (case aF => exact (fun _ _ => trivial)); (case aO => exact (by (with_reducible repeat (first | apply Kd.R_alloc | apply Kd.R_drewN | apply Kd.R_drew)); exact HO207.out)); (case aS => exact (below_size (by repeat (first | (with_reducible first | exact HB.out | apply below_alloc | apply pw_below_drewN | apply below_drew1) | exact HB.out)))); (case aL => have := LMc27.out; omega); intro v213 w30 ho hb hg hat; rw [← Ny212.out] at ho; have n0_ := Aside0.mk (hb); have n1_ := Aside0.mk (ho); clear HB; clear HO207; have HB := n0_; have HO214 := n1_; clear n0_ n1_; clear ho hb hg hat))
                go_ret
                exact ⟨_, by first | rfl | (simp [errW_none, errW_some] <;> rfl) | (simp [*, errW_none, errW_some] <;> rfl), by (with_reducible repeat (first | apply Kd.R_alloc | apply Kd.R_drewN | apply Kd.R_drew)); exact HO214.out, by repeat (first | (with_reducible first | exact HB.out | apply below_alloc | apply pw_below_drewN | apply below_drew1) | exact HB.out)⟩
              · rw [if_neg c27] at H
                exact absurd H (by simp)
            · rw [if_neg c26] at H
              exact absurd H (by simp)
          · rw [if_neg c25] at H
            exact absurd H (by simp)
        · rw [if_neg c24] at H
          exact absurd H (by simp)

end Go.Proofs.Ytngocadnbpdnoaa.Q
namespace Go.Proofs.Ytngocadnbpdnoaa.Q
open Go.RowKit Go.Proofs.YtngocadnbpdnoaaW.PrintWords Go.Proofs.YtngocadnbpdnoaaW.PrintLast Go.Proofs.YtngocadnbpdnoaaW.PrintMore
attribute [local go_sem] max2_int min2_int max_two min_two max_three min_three max_four min_four   -- for this text's walks alone
set_option linter.unusedVariables false
set_option linter.unusedSimpArgs false

def shutterref06_Without.l0 : Nat → List (S90) → Int → List (S90) → Int → Option ((List (S90)))
  | 0, _, _, _, _ => none
  | k + 1, x0, x1, x5, x6 => if x6 < (x0.length : Int) then (if 0 ≤ x6 then (if ((rd_T90 x0 x6).f0) = x1 then (shutterref06_Without.l0 k x0 x1 x5 (wrap64 (x6 + 1))) else (if x5.length < 8796093022208 then (shutterref06_Without.l0 k x0 x1 (x5 ++ [(⟨(rd_T90 x0 x6).f0, (rd_T90 x0 x6).f1⟩ : S90)]) (wrap64 (x6 + 1))) else (none))) else (none)) else (some x5)
def shutterref06_Without.f (k : Nat) (l0 : List (S90)) (a1 : Int) : Option ((List (S90))) := shutterref06_Without.l0 k l0 a1 ([] : List (S90)) 0
theorem shutterref06_Without.mono_l : ∀ k, (∀ y0 y1 y2 y3, LeO (shutterref06_Without.l0 k y0 y1 y2 y3) (shutterref06_Without.l0 (k + 1) y0 y1 y2 y3))
  | 0 => fun _ _ _ _ r h => by simp [shutterref06_Without.l0] at h
  | k + 1 => by
    have ih0 := shutterref06_Without.mono_l k
    · intro y0 y1 y2 y3
      unfold shutterref06_Without.l0
      repeat' first
      | (with_reducible exact ih0 _ _ _ _)
      | (with_reducible exact LeO.refl _)
      | (with_reducible exact LeO.none _)
      | (with_reducible refine LeO.ite ?_ ?_)
      | (with_reducible refine LeO.bind ?_ (fun _ => ?_))
      | exact ih0 _ _ _ _
      | exact LeO.none _
      | refine LeO.ite ?_ ?_
      | refine LeO.bind ?_ (fun _ => ?_)
theorem shutterref06_Without.mono : ∀ a0 a1 k, LeO (shutterref06_Without.f k a0 a1) (shutterref06_Without.f (k + 1) a0 a1) := by
  intro a0 a1 k
  have ih0 := shutterref06_Without.mono_l k
  unfold shutterref06_Without.f
  repeat' first
      | (with_reducible exact ih0 _ _ _ _)
      | (with_reducible exact LeO.refl _)
      | (with_reducible exact LeO.none _)
      | (with_reducible refine LeO.ite ?_ ?_)
      | (with_reducible refine LeO.bind ?_ (fun _ => ?_))
      | exact ih0 _ _ _ _
      | exact LeO.none _
      | refine LeO.ite ?_ ?_
      | refine LeO.bind ?_ (fun _ => ?_)
set_option maxHeartbeats 8000000 in
set_option maxRecDepth 100000 in
theorem shutterref06_Without.calls (k : Nat) (A0 : Option Addr) (c0 : Nat) (l0 : List (S90)) (a1 : Int) (r : List (S90)) (w : World) (hr0 : Kd.C k90 w A0 l0.length l0) (hc0 : l0.length ≤ c0) (h : shutterref06_Without.f k l0 a1 = some r) :
    Calls Try.prog 54 #[.slice A0 l0.length c0, .int .u64 a1] w fun e w' => ∃ v0_ : Value, e = .returned (v0_) ∧ Kd.R k90 90 w' w.heap.size (fun _ => True) v0_ r ∧ Below w.heap.size w w' := by
  have hu90 := Try.underlying90
  have HR0 := Aside0.mk hr0
  have HC0 := Aside0.mk hc0
  clear hr0 hc0
  have HB := Aside0.mk (Below.refl w.heap.size w)
  have H : (shutterref06_Without.l0 k l0 a1 ([] : List (S90)) 0) = some r := h
  clear h
  have H' := Aside0.mk H
  clear H
  go_enter Try.func54, Try.ntmps54
  go_wp2
  go_loopg [5, 6] k (fun kq v5 v6 w' => ∃ (x5_1 : List (S90)) (x6_1 : Int), v6 = .int .i64 x6_1 ∧ Aside0 (shutterref06_Without.l0 kq l0 a1 x5_1 x6_1 = some r) ∧ Aside0 (kq ≤ k) ∧ Aside0 (Kd.R k90 90 w' w.heap.size (fun _ => True) v5 x5_1) ∧ Aside0 (Below w.heap.size w w'))
  case atStart => exact ⟨(([] : List (S90))), (0), (by first | rfl | (simp; done) | (simp [*]; done)), H', ⟨Nat.le_refl _⟩, ⟨by first | exact Kd.R_nil _ _ _ _ _ | exact Kd.N_nil _ _ _ _ _ | exact Kd.V_nil _ _ _ _ _ | exact Kd.Q_nil _ _ _ _ _ | exact Kd.S_nil _ _ _ _ _⟩, ⟨by repeat (first | (with_reducible first | exact HB.out | apply below_alloc | apply pw_below_drewN | apply below_drew1) | exact HB.out)⟩⟩
  case round =>
    clear H'
    try clear p2
    obtain ⟨x5_1, x6_1, rfl, HA, HK1, HO_5, HB⟩ := hrel
    cases gk with
    | zero => exact absurd HA.out (by simp [shutterref06_Without.l0])
    | succ k1 =>
      have H := HA.out
      clear HA
      simp only [shutterref06_Without.l0] at H
      by_cases c3 : x6_1 < (l0.length : Int)
      · rw [if_pos c3] at H
        have c3b0 : decide (x6_1 < (l0.length : Int)) = true := decide_eq_true c3
        clear c3
        by_cases c4 : 0 ≤ x6_1
        · rw [if_pos c4] at H
          have c4b0 : decide (0 ≤ x6_1) = true := decide_eq_true c4
          clear c4
          by_cases c5 : ((rd_T90 l0 x6_1).f0) = a1
          · rw [if_pos c5] at H
            have c5b0 : (((rd_T90 l0 x6_1).f0) == a1) = true := beq_iff_eq.mpr c5
            have c5b1 : (((rd_T90 l0 x6_1).f0) != a1) = false := bne_eq_false_iff_eq.mpr c5
            clear c5
            have H' := Aside0.mk H
            clear H
            have p215 : 0 ≤ (x6_1 : Int) := of_decide_eq_true (by first | (with_reducible assumption) | assumption)
            have q215 : x6_1 < (l0.length : Int) := of_decide_eq_true (by first | (with_reducible assumption) | assumption)
            obtain ⟨ad215, e215, hx215_0, hx215_1⟩ := at_T90 HR0.out x6_1 p215 q215
            cases e215
            replace hx215_0 := (HB.out.cell (World.block_lt_of_cell? w _ hx215_0)).trans hx215_0
            replace hx215_1 := (HB.out.cell (World.block_lt_of_cell? w _ hx215_1)).trans hx215_1
            replace p215 := eq_true p215
            replace q215 := eq_true q215
            go_wp2
            go_roundg k1
            case measure => have := HK1.out; omega
            case rel => exact ⟨(x5_1), (wrap64 (x6_1 + 1)), (by first | rfl | (simp; done) | (simp [*]; done)), H', ⟨by have := HK1.out; omega⟩, ⟨by (with_reducible repeat (first | apply Kd.R_alloc | apply Kd.R_drewN | apply Kd.R_drew)); exact HO_5.out⟩, ⟨by repeat (first | (with_reducible first | exact HB.out | apply below_alloc | apply pw_below_drewN | apply below_drew1) | exact HB.out)⟩⟩
          · rw [if_neg c5] at H
            have c5b0 : (((rd_T90 l0 x6_1).f0) == a1) = false := beq_eq_false_iff_ne.mpr c5
            have c5b1 : (((rd_T90 l0 x6_1).f0) != a1) = true := bne_iff_ne.mpr c5
            by_cases c6 : x5_1.length < 8796093022208
            · rw [if_pos c6] at H
              have LMc6 := Aside0.mk c6
              clear c6
              obtain ⟨y217, hy217⟩ : ∃ y_ : List (S90), y_ = (x5_1 ++ [(⟨(rd_T90 l0 x6_1).f0, (rd_T90 l0 x6_1).f1⟩ : S90)]) := ⟨_, rfl⟩
              replace H : (shutterref06_Without.l0 k1 l0 a1 y217 (wrap64 (x6_1 + 1))) = some r := by first | (rw [hy217]; with_reducible exact H) | (have H2_ := (Option.bind_some _ _).symm.trans H; rw [hy217]; with_reducible exact H2_) | (have H2_ := (Option.bind_some _ _).symm.trans H; with_reducible exact H2_) | with_reducible exact H | (rw [hy217]; exact H) | exact H
              have Ny217 := Aside0.mk hy217
              clear hy217
              have H' := Aside0.mk H
              clear H
              have p215 : 0 ≤ (x6_1 : Int) := of_decide_eq_true (by first | (with_reducible assumption) | assumption)
              have q215 : x6_1 < (l0.length : Int) := of_decide_eq_true (by first | (with_reducible assumption) | assumption)
              obtain ⟨ad215, e215, hx215_0, hx215_1⟩ := at_T90 HR0.out x6_1 p215 q215
              cases e215
              replace hx215_0 := (HB.out.cell (World.block_lt_of_cell? w _ hx215_0)).trans hx215_0
              replace hx215_1 := (HB.out.cell (World.block_lt_of_cell? w _ hx215_1)).trans hx215_1
              replace p215 := eq_true p215
              replace q215 := eq_true q215
              have p216 : 0 ≤ (x6_1 : Int) := of_decide_eq_true (by first | (with_reducible assumption) | assumption)
              have q216 : x6_1 < (l0.length : Int) := of_decide_eq_true (by first | (with_reducible assumption) | assumption)
              obtain ⟨ad216, e216, hx216_0, hx216_1⟩ := at_T90 HR0.out x6_1 p216 q216
              obtain rfl : ad215 = ad216 := (by injection e216)
              replace hx216_0 := (HB.out.cell (World.block_lt_of_cell? w _ hx216_0)).trans hx216_0
              replace hx216_1 := (HB.out.cell (World.block_lt_of_cell? w _ hx216_1)).trans hx216_1
              replace p216 := eq_true p216
              replace q216 := eq_true q216
              go_wp2_with (first | ((with_reducible refine gate_builtin (b := .append) (xs := #[.tmp 20, .tmp 25]) rfl ?_); at_builtin; refine Kd.R_append k90 (w0 := w) w.heap.size rfl (.tmp 20) (.tmp 25) 24 90 (.agg #[(.int .u64 0), (.int .u64 0)]) 16 rfl Try.underlying24 info90 rfl (by decide) (by omega) u5 x5_1 (⟨(rd_T90 l0 x6_1).f0, (rd_T90 l0 x6_1).f1⟩ : S90) [.int .u64 ((rd_T90 l0 x6_1).f0), .int .u64 ((rd_T90 l0 x6_1).f1)] (fun _ => True) (fun _ => False) rfl rfl ?aP (fun _ hk => hk.elim) ?aF ?aO ?aB ?aS ?aL ?_; (case aP => exact k90_mkM _ _ _ (⟨(rd_T90 l0 x6_1).f0, (rd_T90 l0 x6_1).f1⟩ : S90)); (case aB => exact (by repeat (first | (with_reducible first | exact HB.out | apply below_alloc | apply pw_below_drewN | apply below_drew1) | exact HB.out))); (case aF => exact (fun _ _ => trivial)); (case aO => exact (by (with_reducible repeat (first | apply Kd.R_alloc | apply Kd.R_drewN | apply Kd.R_drew)); exact HO_5.out)); (case aS => exact (below_size (by repeat (first | (with_reducible first | exact HB.out | apply below_alloc | apply pw_below_drewN | apply below_drew1) | exact HB.out)))); (case aL => have := LMc6.out; omega); intro v218 w7 ho hb hg hat; rw [← Ny217.out] at ho; have n0_ := Aside0.mk (hb); have n1_ := Aside0.mk (ho); clear HB; clear HO_5; have HB := n0_; have HO219 := n1_; clear n0_ n1_; clear ho hb hg hat))
              go_roundg k1
              case measure => have := HK1.out; omega
              case rel => exact ⟨(y217), (wrap64 (x6_1 + 1)), (by first | rfl | (simp; done) | (simp [*]; done)), H', ⟨by have := HK1.out; omega⟩, ⟨by (with_reducible repeat (first | apply Kd.R_alloc | apply Kd.R_drewN | apply Kd.R_drew)); exact HO219.out⟩, ⟨by repeat (first | (with_reducible first | exact HB.out | apply below_alloc | apply pw_below_drewN | apply below_drew1) | exact HB.out)⟩⟩
            · rw [if_neg c6] at H
              exact absurd H (by simp)
        · rw [if_neg c4] at H
          exact absurd H (by simp)
      · rw [if_neg c3] at H
        have c3b0 : decide (x6_1 < (l0.length : Int)) = false := decide_eq_false c3
        clear c3
        obtain rfl := Option.some.inj H
        go_wp2
        go_ret
        exact ⟨_, by first | rfl | (simp [errW_none, errW_some] <;> rfl) | (simp [*, errW_none, errW_some] <;> rfl), by (with_reducible repeat (first | apply Kd.R_alloc | apply Kd.R_drewN | apply Kd.R_drew)); exact HO_5.out, by repeat (first | (with_reducible first | exact HB.out | apply below_alloc | apply pw_below_drewN | apply below_drew1) | exact HB.out)⟩

end Go.Proofs.Ytngocadnbpdnoaa.Q
namespace Go.Proofs.Ytngocadnbpdnoaa.Q
open Go.RowKit Go.Proofs.YtngocadnbpdnoaaW.PrintWords Go.Proofs.YtngocadnbpdnoaaW.PrintLast Go.Proofs.YtngocadnbpdnoaaW.PrintMore
attribute [local go_sem] max2_int min2_int max_two min_two max_three min_three max_four min_four   -- for this text's walks alone
set_option linter.unusedVariables false
set_option linter.unusedSimpArgs false

def shutterref06_Within.l0 : Nat → List (S90) → Int → Int → List (S90) → Int → Option ((List (S90)))
  | 0, _, _, _, _, _ => none
  | k + 1, x0, x1, x2, x7, x8 => if x8 < (x0.length : Int) then (if 0 ≤ x8 then (if ((rd_T90 x0 x8).f0) ≥ x1 then (if ((rd_T90 x0 x8).f0) ≤ x2 then (if x7.length < 8796093022208 then (shutterref06_Within.l0 k x0 x1 x2 (x7 ++ [(⟨(rd_T90 x0 x8).f0, (rd_T90 x0 x8).f1⟩ : S90)]) (wrap64 (x8 + 1))) else (none)) else (shutterref06_Within.l0 k x0 x1 x2 x7 (wrap64 (x8 + 1)))) else (shutterref06_Within.l0 k x0 x1 x2 x7 (wrap64 (x8 + 1)))) else (none)) else (some x7)
def shutterref06_Within.f (k : Nat) (l0 : List (S90)) (a1 : Int) (a2 : Int) : Option ((List (S90))) := shutterref06_Within.l0 k l0 a1 a2 ([] : List (S90)) 0
theorem shutterref06_Within.mono_l : ∀ k, (∀ y0 y1 y2 y3 y4, LeO (shutterref06_Within.l0 k y0 y1 y2 y3 y4) (shutterref06_Within.l0 (k + 1) y0 y1 y2 y3 y4))
  | 0 => fun _ _ _ _ _ r h => by simp [shutterref06_Within.l0] at h
  | k + 1 => by
    have ih0 := shutterref06_Within.mono_l k
    · intro y0 y1 y2 y3 y4
      unfold shutterref06_Within.l0
      repeat' first
      | (with_reducible exact ih0 _ _ _ _ _)
      | (with_reducible exact LeO.refl _)
      | (with_reducible exact LeO.none _)
      | (with_reducible refine LeO.ite ?_ ?_)
      | (with_reducible refine LeO.bind ?_ (fun _ => ?_))
      | exact ih0 _ _ _ _ _
      | exact LeO.none _
      | refine LeO.ite ?_ ?_
      | refine LeO.bind ?_ (fun _ => ?_)
theorem shutterref06_Within.mono : ∀ a0 a1 a2 k, LeO (shutterref06_Within.f k a0 a1 a2) (shutterref06_Within.f (k + 1) a0 a1 a2) := by
  intro a0 a1 a2 k
  have ih0 := shutterref06_Within.mono_l k
  unfold shutterref06_Within.f
  repeat' first
      | (with_reducible exact ih0 _ _ _ _ _)
      | (with_reducible exact LeO.refl _)
      | (with_reducible exact LeO.none _)
      | (with_reducible refine LeO.ite ?_ ?_)
      | (with_reducible refine LeO.bind ?_ (fun _ => ?_))
      | exact ih0 _ _ _ _ _
      | exact LeO.none _
      | refine LeO.ite ?_ ?_
      | refine LeO.bind ?_ (fun _ => ?_)
set_option maxHeartbeats 8000000 in
set_option maxRecDepth 100000 in
theorem shutterref06_Within.calls (k : Nat) (A0 : Option Addr) (c0 : Nat) (l0 : List (S90)) (a1 : Int) (a2 : Int) (r : List (S90)) (w : World) (hr0 : Kd.C k90 w A0 l0.length l0) (hc0 : l0.length ≤ c0) (h : shutterref06_Within.f k l0 a1 a2 = some r) :
    Calls Try.prog 93 #[.slice A0 l0.length c0, .int .u64 a1, .int .u64 a2] w fun e w' => ∃ v0_ : Value, e = .returned (v0_) ∧ Kd.R k90 90 w' w.heap.size (fun _ => True) v0_ r ∧ Below w.heap.size w w' := by
  have hu90 := Try.underlying90
  have HR0 := Aside0.mk hr0
  have HC0 := Aside0.mk hc0
  clear hr0 hc0
  have HB := Aside0.mk (Below.refl w.heap.size w)
  have H : (shutterref06_Within.l0 k l0 a1 a2 ([] : List (S90)) 0) = some r := h
  clear h
  have H' := Aside0.mk H
  clear H
  go_enter Try.func93, Try.ntmps93
  go_wp2
  go_loopg [7, 8] k (fun kq v7 v8 w' => ∃ (x7_1 : List (S90)) (x8_1 : Int), v8 = .int .i64 x8_1 ∧ Aside0 (shutterref06_Within.l0 kq l0 a1 a2 x7_1 x8_1 = some r) ∧ Aside0 (kq ≤ k) ∧ Aside0 (Kd.R k90 90 w' w.heap.size (fun _ => True) v7 x7_1) ∧ Aside0 (Below w.heap.size w w'))
  case atStart => exact ⟨(([] : List (S90))), (0), (by first | rfl | (simp; done) | (simp [*]; done)), H', ⟨Nat.le_refl _⟩, ⟨by first | exact Kd.R_nil _ _ _ _ _ | exact Kd.N_nil _ _ _ _ _ | exact Kd.V_nil _ _ _ _ _ | exact Kd.Q_nil _ _ _ _ _ | exact Kd.S_nil _ _ _ _ _⟩, ⟨by repeat (first | (with_reducible first | exact HB.out | apply below_alloc | apply pw_below_drewN | apply below_drew1) | exact HB.out)⟩⟩
  case round =>
    clear H'
    try clear p2
    obtain ⟨x7_1, x8_1, rfl, HA, HK1, HO_7, HB⟩ := hrel
    cases gk with
    | zero => exact absurd HA.out (by simp [shutterref06_Within.l0])
    | succ k1 =>
      have H := HA.out
      clear HA
      simp only [shutterref06_Within.l0] at H
      by_cases c4 : x8_1 < (l0.length : Int)
      · rw [if_pos c4] at H
        have c4b0 : decide (x8_1 < (l0.length : Int)) = true := decide_eq_true c4
        clear c4
        by_cases c5 : 0 ≤ x8_1
        · rw [if_pos c5] at H
          have c5b0 : decide (0 ≤ x8_1) = true := decide_eq_true c5
          clear c5
          by_cases c6 : ((rd_T90 l0 x8_1).f0) ≥ a1
          · rw [if_pos c6] at H
            have c6b0 : decide (a1 ≤ ((rd_T90 l0 x8_1).f0)) = true := decide_eq_true c6
            clear c6
            by_cases c7 : ((rd_T90 l0 x8_1).f0) ≤ a2
            · rw [if_pos c7] at H
              have c7b0 : decide (((rd_T90 l0 x8_1).f0) ≤ a2) = true := decide_eq_true c7
              clear c7
              by_cases c8 : x7_1.length < 8796093022208
              · rw [if_pos c8] at H
                have LMc8 := Aside0.mk c8
                clear c8
                obtain ⟨y223, hy223⟩ : ∃ y_ : List (S90), y_ = (x7_1 ++ [(⟨(rd_T90 l0 x8_1).f0, (rd_T90 l0 x8_1).f1⟩ : S90)]) := ⟨_, rfl⟩
                replace H : (shutterref06_Within.l0 k1 l0 a1 a2 y223 (wrap64 (x8_1 + 1))) = some r := by first | (rw [hy223]; with_reducible exact H) | (have H2_ := (Option.bind_some _ _).symm.trans H; rw [hy223]; with_reducible exact H2_) | (have H2_ := (Option.bind_some _ _).symm.trans H; with_reducible exact H2_) | with_reducible exact H | (rw [hy223]; exact H) | exact H
                have Ny223 := Aside0.mk hy223
                clear hy223
                have H' := Aside0.mk H
                clear H
                have p220 : 0 ≤ (x8_1 : Int) := of_decide_eq_true (by first | (with_reducible assumption) | assumption)
                have q220 : x8_1 < (l0.length : Int) := of_decide_eq_true (by first | (with_reducible assumption) | assumption)
                obtain ⟨ad220, e220, hx220_0, hx220_1⟩ := at_T90 HR0.out x8_1 p220 q220
                cases e220
                replace hx220_0 := (HB.out.cell (World.block_lt_of_cell? w _ hx220_0)).trans hx220_0
                replace hx220_1 := (HB.out.cell (World.block_lt_of_cell? w _ hx220_1)).trans hx220_1
                replace p220 := eq_true p220
                replace q220 := eq_true q220
                have p221 : 0 ≤ (x8_1 : Int) := of_decide_eq_true (by first | (with_reducible assumption) | assumption)
                have q221 : x8_1 < (l0.length : Int) := of_decide_eq_true (by first | (with_reducible assumption) | assumption)
                obtain ⟨ad221, e221, hx221_0, hx221_1⟩ := at_T90 HR0.out x8_1 p221 q221
                obtain rfl : ad220 = ad221 := (by injection e221)
                replace hx221_0 := (HB.out.cell (World.block_lt_of_cell? w _ hx221_0)).trans hx221_0
                replace hx221_1 := (HB.out.cell (World.block_lt_of_cell? w _ hx221_1)).trans hx221_1
                replace p221 := eq_true p221
                replace q221 := eq_true q221
                have p222 : 0 ≤ (x8_1 : Int) := of_decide_eq_true (by first | (with_reducible assumption) | assumption)
                have q222 : x8_1 < (l0.length : Int) := of_decide_eq_true (by first | (with_reducible assumption) | assumption)
                obtain ⟨ad222, e222, hx222_0, hx222_1⟩ := at_T90 HR0.out x8_1 p222 q222
                obtain rfl : ad220 = ad222 := (by injection e222)
                replace hx222_0 := (HB.out.cell (World.block_lt_of_cell? w _ hx222_0)).trans hx222_0
                replace hx222_1 := (HB.out.cell (World.block_lt_of_cell? w _ hx222_1)).trans hx222_1
                replace p222 := eq_true p222
                replace q222 := eq_true q222
                go_wp2_with (first | ((with_reducible refine gate_builtin (b := .append) (xs := #[.tmp 31, .tmp 36]) rfl ?_); at_builtin; refine Kd.R_append k90 (w0 := w) w.heap.size rfl (.tmp 31) (.tmp 36) 24 90 (.agg #[(.int .u64 0), (.int .u64 0)]) 16 rfl Try.underlying24 info90 rfl (by decide) (by omega) u7 x7_1 (⟨(rd_T90 l0 x8_1).f0, (rd_T90 l0 x8_1).f1⟩ : S90) [.int .u64 ((rd_T90 l0 x8_1).f0), .int .u64 ((rd_T90 l0 x8_1).f1)] (fun _ => True) (fun _ => False) rfl rfl ?aP (fun _ hk => hk.elim) ?aF ?aO ?aB ?aS ?aL ?_; (case aP => exact k90_mkM _ _ _ (⟨(rd_T90 l0 x8_1).f0, (rd_T90 l0 x8_1).f1⟩ : S90)); (case aB => exact (by repeat (first | (with_reducible first | exact HB.out | apply below_alloc | apply pw_below_drewN | apply below_drew1) | exact HB.out))); (case aF => exact (fun _ _ => trivial)); (case aO => exact (by (with_reducible repeat (first | apply Kd.R_alloc | apply Kd.R_drewN | apply Kd.R_drew)); exact HO_7.out)); (case aS => exact (below_size (by repeat (first | (with_reducible first | exact HB.out | apply below_alloc | apply pw_below_drewN | apply below_drew1) | exact HB.out)))); (case aL => have := LMc8.out; omega); intro v224 w9 ho hb hg hat; rw [← Ny223.out] at ho; have n0_ := Aside0.mk (hb); have n1_ := Aside0.mk (ho); clear HB; clear HO_7; have HB := n0_; have HO225 := n1_; clear n0_ n1_; clear ho hb hg hat))
                go_roundg k1
                case measure => have := HK1.out; omega
                case rel => exact ⟨(y223), (wrap64 (x8_1 + 1)), (by first | rfl | (simp; done) | (simp [*]; done)), H', ⟨by have := HK1.out; omega⟩, ⟨by (with_reducible repeat (first | apply Kd.R_alloc | apply Kd.R_drewN | apply Kd.R_drew)); exact HO225.out⟩, ⟨by repeat (first | (with_reducible first | exact HB.out | apply below_alloc | apply pw_below_drewN | apply below_drew1) | exact HB.out)⟩⟩
              · rw [if_neg c8] at H
                exact absurd H (by simp)
            · rw [if_neg c7] at H
              have c7b0 : decide (((rd_T90 l0 x8_1).f0) ≤ a2) = false := decide_eq_false c7
              clear c7
              have H' := Aside0.mk H
              clear H
              have p220 : 0 ≤ (x8_1 : Int) := of_decide_eq_true (by first | (with_reducible assumption) | assumption)
              have q220 : x8_1 < (l0.length : Int) := of_decide_eq_true (by first | (with_reducible assumption) | assumption)
              obtain ⟨ad220, e220, hx220_0, hx220_1⟩ := at_T90 HR0.out x8_1 p220 q220
              cases e220
              replace hx220_0 := (HB.out.cell (World.block_lt_of_cell? w _ hx220_0)).trans hx220_0
              replace hx220_1 := (HB.out.cell (World.block_lt_of_cell? w _ hx220_1)).trans hx220_1
              replace p220 := eq_true p220
              replace q220 := eq_true q220
              have p221 : 0 ≤ (x8_1 : Int) := of_decide_eq_true (by first | (with_reducible assumption) | assumption)
              have q221 : x8_1 < (l0.length : Int) := of_decide_eq_true (by first | (with_reducible assumption) | assumption)
              obtain ⟨ad221, e221, hx221_0, hx221_1⟩ := at_T90 HR0.out x8_1 p221 q221
              obtain rfl : ad220 = ad221 := (by injection e221)
              replace hx221_0 := (HB.out.cell (World.block_lt_of_cell? w _ hx221_0)).trans hx221_0
              replace hx221_1 := (HB.out.cell (World.block_lt_of_cell? w _ hx221_1)).trans hx221_1
              replace p221 := eq_true p221
              replace q221 := eq_true q221
              go_wp2
              go_roundg k1
              case measure => have := HK1.out; omega
              case rel => exact ⟨(x7_1), (wrap64 (x8_1 + 1)), (by first | rfl | (simp; done) | (simp [*]; done)), H', ⟨by have := HK1.out; omega⟩, ⟨by (with_reducible repeat (first | apply Kd.R_alloc | apply Kd.R_drewN | apply Kd.R_drew)); exact HO_7.out⟩, ⟨by repeat (first | (with_reducible first | exact HB.out | apply below_alloc | apply pw_below_drewN | apply below_drew1) | exact HB.out)⟩⟩
          · rw [if_neg c6] at H
            have c6b0 : decide (a1 ≤ ((rd_T90 l0 x8_1).f0)) = false := decide_eq_false c6
            clear c6
            have H' := Aside0.mk H
            clear H
            have p220 : 0 ≤ (x8_1 : Int) := of_decide_eq_true (by first | (with_reducible assumption) | assumption)
            have q220 : x8_1 < (l0.length : Int) := of_decide_eq_true (by first | (with_reducible assumption) | assumption)
            obtain ⟨ad220, e220, hx220_0, hx220_1⟩ := at_T90 HR0.out x8_1 p220 q220
            cases e220
            replace hx220_0 := (HB.out.cell (World.block_lt_of_cell? w _ hx220_0)).trans hx220_0
            replace hx220_1 := (HB.out.cell (World.block_lt_of_cell? w _ hx220_1)).trans hx220_1
            replace p220 := eq_true p220
            replace q220 := eq_true q220
            go_wp2
            go_roundg k1
            case measure => have := HK1.out; omega
            case rel => exact ⟨(x7_1), (wrap64 (x8_1 + 1)), (by first | rfl | (simp; done) | (simp [*]; done)), H', ⟨by have := HK1.out; omega⟩, ⟨by (with_reducible repeat (first | apply Kd.R_alloc | apply Kd.R_drewN | apply Kd.R_drew)); exact HO_7.out⟩, ⟨by repeat (first | (with_reducible first | exact HB.out | apply below_alloc | apply pw_below_drewN | apply below_drew1) | exact HB.out)⟩⟩
        · rw [if_neg c5] at H
          exact absurd H (by simp)
      · rw [if_neg c4] at H
        have c4b0 : decide (x8_1 < (l0.length : Int)) = false := decide_eq_false c4
        clear c4
        obtain rfl := Option.some.inj H
        go_wp2
        go_ret
        exact ⟨_, by first | rfl | (simp [errW_none, errW_some] <;> rfl) | (simp [*, errW_none, errW_some] <;> rfl), by (with_reducible repeat (first | apply Kd.R_alloc | apply Kd.R_drewN | apply Kd.R_drew)); exact HO_7.out, by repeat (first | (with_reducible first | exact HB.out | apply below_alloc | apply pw_below_drewN | apply below_drew1) | exact HB.out)⟩

end Go.Proofs.Ytngocadnbpdnoaa.Q
namespace Go.Proofs.Ytngocadnbpdnoaa.Q
open Go.RowKit Go.Proofs.YtngocadnbpdnoaaW.PrintWords Go.Proofs.YtngocadnbpdnoaaW.PrintLast Go.Proofs.YtngocadnbpdnoaaW.PrintMore
attribute [local go_sem] max2_int min2_int max_two min_two max_three min_three max_four min_four   -- for this text's walks alone
set_option linter.unusedVariables false
set_option linter.unusedSimpArgs false

def shutterref06_Of.l0 : Nat → List (S90) → List Int → List (S90) → Int → Option ((List (S90)))
  | 0, _, _, _, _ => none
  | k + 1, x0, x1, x5, x6 => if x6 < (x1.length : Int) then (if 0 ≤ x6 then ((shutterref06_find.f k x0 (rd x1 x6)).bind fun bt227 => (if bt227.2 = true then (if x5.length < 8796093022208 then (shutterref06_Of.l0 k x0 x1 (x5 ++ [(⟨rd x1 x6, bt227.1⟩ : S90)]) (wrap64 (x6 + 1))) else (none)) else (shutterref06_Of.l0 k x0 x1 x5 (wrap64 (x6 + 1))))) else (none)) else (some x5)
def shutterref06_Of.f (k : Nat) (l0 : List (S90)) (l1 : List Int) : Option ((List (S90))) := shutterref06_Of.l0 k l0 l1 ([] : List (S90)) 0
theorem shutterref06_Of.mono_l : ∀ k, (∀ y0 y1 y2 y3, LeO (shutterref06_Of.l0 k y0 y1 y2 y3) (shutterref06_Of.l0 (k + 1) y0 y1 y2 y3))
  | 0 => fun _ _ _ _ r h => by simp [shutterref06_Of.l0] at h
  | k + 1 => by
    have ih0 := shutterref06_Of.mono_l k
    · intro y0 y1 y2 y3
      unfold shutterref06_Of.l0
      repeat' first
      | (with_reducible exact ih0 _ _ _ _)
      | (with_reducible exact shutterref06_find.mono _ _ _)
      | (with_reducible exact LeO.refl _)
      | (with_reducible exact LeO.none _)
      | (with_reducible refine LeO.ite ?_ ?_)
      | (with_reducible refine LeO.bind ?_ (fun _ => ?_))
      | exact ih0 _ _ _ _
      | exact shutterref06_find.mono _ _ _
      | exact LeO.none _
      | refine LeO.ite ?_ ?_
      | refine LeO.bind ?_ (fun _ => ?_)
theorem shutterref06_Of.mono : ∀ a0 a1 k, LeO (shutterref06_Of.f k a0 a1) (shutterref06_Of.f (k + 1) a0 a1) := by
  intro a0 a1 k
  have ih0 := shutterref06_Of.mono_l k
  unfold shutterref06_Of.f
  repeat' first
      | (with_reducible exact ih0 _ _ _ _)
      | (with_reducible exact shutterref06_find.mono _ _ _)
      | (with_reducible exact LeO.refl _)
      | (with_reducible exact LeO.none _)
      | (with_reducible refine LeO.ite ?_ ?_)
      | (with_reducible refine LeO.bind ?_ (fun _ => ?_))
      | exact ih0 _ _ _ _
      | exact shutterref06_find.mono _ _ _
      | exact LeO.none _
      | refine LeO.ite ?_ ?_
      | refine LeO.bind ?_ (fun _ => ?_)
set_option maxHeartbeats 8000000 in
set_option maxRecDepth 100000 in
theorem shutterref06_Of.calls (k : Nat) (A0 : Option Addr) (c0 : Nat) (l0 : List (S90)) (A1 : Option Addr) (c1 : Nat) (l1 : List Int) (r : List (S90)) (w : World) (hr0 : Kd.C k90 w A0 l0.length l0) (hc0 : l0.length ≤ c0) (hr1 : Kd.C (Kd.int .u64) w A1 l1.length l1) (hc1 : l1.length ≤ c1) (h : shutterref06_Of.f k l0 l1 = some r) :
    Calls Try.prog 92 #[.slice A0 l0.length c0, .slice A1 l1.length c1] w fun e w' => ∃ v0_ : Value, e = .returned (v0_) ∧ Kd.R k90 90 w' w.heap.size (fun _ => True) v0_ r ∧ Below w.heap.size w w' := by
  have hu90 := Try.underlying90
  have HR0 := Aside0.mk hr0
  have HC0 := Aside0.mk hc0
  clear hr0 hc0
  have HR1 := Aside0.mk hr1
  have HC1 := Aside0.mk hc1
  clear hr1 hc1
  have HB := Aside0.mk (Below.refl w.heap.size w)
  have H : (shutterref06_Of.l0 k l0 l1 ([] : List (S90)) 0) = some r := h
  clear h
  have H' := Aside0.mk H
  clear H
  go_enter Try.func92, Try.ntmps92
  go_wp2
  go_loopg [5, 6] k (fun kq v5 v6 w' => ∃ (x5_1 : List (S90)) (x6_1 : Int), v6 = .int .i64 x6_1 ∧ Aside0 (shutterref06_Of.l0 kq l0 l1 x5_1 x6_1 = some r) ∧ Aside0 (kq ≤ k) ∧ Aside0 (Kd.R k90 90 w' w.heap.size (fun _ => True) v5 x5_1) ∧ Aside0 (Below w.heap.size w w'))
  case atStart => exact ⟨(([] : List (S90))), (0), (by first | rfl | (simp; done) | (simp [*]; done)), H', ⟨Nat.le_refl _⟩, ⟨by first | exact Kd.R_nil _ _ _ _ _ | exact Kd.N_nil _ _ _ _ _ | exact Kd.V_nil _ _ _ _ _ | exact Kd.Q_nil _ _ _ _ _ | exact Kd.S_nil _ _ _ _ _⟩, ⟨by repeat (first | (with_reducible first | exact HB.out | apply below_alloc | apply pw_below_drewN | apply below_drew1) | exact HB.out)⟩⟩
  case round =>
    clear H'
    try clear c1
    try clear p2
    obtain ⟨x5_1, x6_1, rfl, HA, HK1, HO_5, HB⟩ := hrel
    cases gk with
    | zero => exact absurd HA.out (by simp [shutterref06_Of.l0])
    | succ k1 =>
      have H := HA.out
      clear HA
      simp only [shutterref06_Of.l0] at H
      by_cases c3 : x6_1 < (l1.length : Int)
      · rw [if_pos c3] at H
        have c3b0 : decide (x6_1 < (l1.length : Int)) = true := decide_eq_true c3
        clear c3
        by_cases c4 : 0 ≤ x6_1
        · rw [if_pos c4] at H
          have c4b0 : decide (0 ≤ x6_1) = true := decide_eq_true c4
          clear c4
          replace H := Option.bind_eq_some_iff.mp H
          obtain ⟨⟨t227, t228⟩, A50, H⟩ := H
          replace H : (if t228 = true then (if x5_1.length < 8796093022208 then (shutterref06_Of.l0 k1 l0 l1 (x5_1 ++ [(⟨rd l1 x6_1, t227⟩ : S90)]) (wrap64 (x6_1 + 1))) else (none)) else (shutterref06_Of.l0 k1 l0 l1 x5_1 (wrap64 (x6_1 + 1)))) = some r := H
          have A5 := Aside0.mk A50
          clear A50
          by_cases c6 : t228 = true
          · subst c6
            have H1 : (if x5_1.length < 8796093022208 then (shutterref06_Of.l0 k1 l0 l1 (x5_1 ++ [(⟨rd l1 x6_1, t227⟩ : S90)]) (wrap64 (x6_1 + 1))) else (none)) = some r := by rw [if_pos rfl] at H; exact H
            clear H
            have H := H1
            clear H1
            by_cases c7 : x5_1.length < 8796093022208
            · rw [if_pos c7] at H
              have LMc7 := Aside0.mk c7
              clear c7
              obtain ⟨y230, hy230⟩ : ∃ y_ : List (S90), y_ = (x5_1 ++ [(⟨rd l1 x6_1, t227⟩ : S90)]) := ⟨_, rfl⟩
              replace H : (shutterref06_Of.l0 k1 l0 l1 y230 (wrap64 (x6_1 + 1))) = some r := by first | (rw [hy230]; with_reducible exact H) | (have H2_ := (Option.bind_some _ _).symm.trans H; rw [hy230]; with_reducible exact H2_) | (have H2_ := (Option.bind_some _ _).symm.trans H; with_reducible exact H2_) | with_reducible exact H | (rw [hy230]; exact H) | exact H
              have Ny230 := Aside0.mk hy230
              clear hy230
              have H' := Aside0.mk H
              clear H
              have p226 : 0 ≤ (x6_1 : Int) := of_decide_eq_true (by first | (with_reducible assumption) | assumption)
              have q226 : x6_1 < (l1.length : Int) := of_decide_eq_true (by first | (with_reducible assumption) | assumption)
              obtain ⟨ad226, e226, hx226_0⟩ := Kd.at_int HR1.out x6_1 p226 q226
              cases e226
              replace hx226_0 := (HB.out.cell (World.block_lt_of_cell? w _ hx226_0)).trans hx226_0
              replace p226 := eq_true p226
              replace q226 := eq_true q226
              go_wp2_with (first | ((with_reducible refine gate_callee (f := 52) rfl ?_); refine goesL_ (some 21) rfl rfl Try.func52 (by kernel_rfl) rfl #[.slice A0 l0.length c0, .int .u64 (rd l1 x6_1)] rfl (by (try simp only [List.map_toArray, List.map_cons, List.map_nil]); first | done | rfl | (simp only [List.length_drop, List.length_take]; rfl)) ?_; (with_reducible refine (shutterref06_find.calls k1 _ _ l0 (rd l1 x6_1) t227 true _ ?side1 ?side2 A5.out).mono ?_); (case side1 => repeat (first | exact (Kd.C_below HR0.out HB.out) | (with_reducible refine Kd.C_alloc ?_ _) | (with_reducible refine Kd.C_drewN ?_ _) | (with_reducible refine Kd.C_drew ?_))); (case side2 => exact HC0.out); rintro e w' ⟨rfl, ⟨nd, rfl⟩⟩; refine ⟨_, rfl, ?_⟩; have p229 : 0 ≤ (x6_1 : Int) := of_decide_eq_true (by first | (with_reducible assumption) | assumption); have q229 : x6_1 < (l1.length : Int) := of_decide_eq_true (by first | (with_reducible assumption) | assumption); obtain ⟨ad229, e229, hx229_0⟩ := Kd.at_int HR1.out x6_1 p229 q229; obtain rfl : ad226 = ad229 := (by injection e229); replace hx229_0 := (HB.out.cell (World.block_lt_of_cell? w _ hx229_0)).trans hx229_0; replace p229 := eq_true p229; replace q229 := eq_true q229) | ((with_reducible refine gate_builtin (b := .append) (xs := #[.tmp 25, .tmp 32]) rfl ?_); at_builtin; refine Kd.R_append k90 (w0 := w) w.heap.size rfl (.tmp 25) (.tmp 32) 24 90 (.agg #[(.int .u64 0), (.int .u64 0)]) 16 rfl Try.underlying24 info90 rfl (by decide) (by omega) u5 x5_1 (⟨rd l1 x6_1, t227⟩ : S90) [.int .u64 (rd l1 x6_1), .int .u64 t227] (fun _ => True) (fun _ => False) rfl rfl ?aP (fun _ hk => hk.elim) ?aF ?aO ?aB ?aS ?aL ?_; (case aP => exact k90_mkM _ _ _ (⟨rd l1 x6_1, t227⟩ : S90)); (case aB => exact (by repeat (first | (with_reducible first | exact HB.out | apply below_alloc | apply pw_below_drewN | apply below_drew1) | exact HB.out))); (case aF => exact (fun _ _ => trivial)); (case aO => exact (by (with_reducible repeat (first | apply Kd.R_alloc | apply Kd.R_drewN | apply Kd.R_drew)); exact HO_5.out)); (case aS => exact (below_size (by repeat (first | (with_reducible first | exact HB.out | apply below_alloc | apply pw_below_drewN | apply below_drew1) | exact HB.out)))); (case aL => have := LMc7.out; omega); intro v231 w8 ho hb hg hat; rw [← Ny230.out] at ho; have n0_ := Aside0.mk (hb); have n1_ := Aside0.mk (ho); clear HB; clear HO_5; have HB := n0_; have HO232 := n1_; clear n0_ n1_; clear ho hb hg hat))
              go_roundg k1
              case measure => have := HK1.out; omega
              case rel => exact ⟨(y230), (wrap64 (x6_1 + 1)), (by first | rfl | (simp; done) | (simp [*]; done)), H', ⟨by have := HK1.out; omega⟩, ⟨by (with_reducible repeat (first | apply Kd.R_alloc | apply Kd.R_drewN | apply Kd.R_drew)); exact HO232.out⟩, ⟨by repeat (first | (with_reducible first | exact HB.out | apply below_alloc | apply pw_below_drewN | apply below_drew1) | exact HB.out)⟩⟩
            · rw [if_neg c7] at H
              exact absurd H (by simp)
          · replace c6 := Bool.eq_false_iff.mpr c6
            subst c6
            have H1 : (shutterref06_Of.l0 k1 l0 l1 x5_1 (wrap64 (x6_1 + 1))) = some r := by rw [if_neg (show ¬ (false = true) by decide)] at H; exact H
            clear H
            have H := H1
            clear H1
            have H' := Aside0.mk H
            clear H
            have p226 : 0 ≤ (x6_1 : Int) := of_decide_eq_true (by first | (with_reducible assumption) | assumption)
            have q226 : x6_1 < (l1.length : Int) := of_decide_eq_true (by first | (with_reducible assumption) | assumption)
            obtain ⟨ad226, e226, hx226_0⟩ := Kd.at_int HR1.out x6_1 p226 q226
            cases e226
            replace hx226_0 := (HB.out.cell (World.block_lt_of_cell? w _ hx226_0)).trans hx226_0
            replace p226 := eq_true p226
            replace q226 := eq_true q226
            go_wp2_with (first | ((with_reducible refine gate_callee (f := 52) rfl ?_); refine goesL_ (some 21) rfl rfl Try.func52 (by kernel_rfl) rfl #[.slice A0 l0.length c0, .int .u64 (rd l1 x6_1)] rfl (by (try simp only [List.map_toArray, List.map_cons, List.map_nil]); first | done | rfl | (simp only [List.length_drop, List.length_take]; rfl)) ?_; (with_reducible refine (shutterref06_find.calls k1 _ _ l0 (rd l1 x6_1) t227 false _ ?side1 ?side2 A5.out).mono ?_); (case side1 => repeat (first | exact (Kd.C_below HR0.out HB.out) | (with_reducible refine Kd.C_alloc ?_ _) | (with_reducible refine Kd.C_drewN ?_ _) | (with_reducible refine Kd.C_drew ?_))); (case side2 => exact HC0.out); rintro e w' ⟨rfl, ⟨nd, rfl⟩⟩; refine ⟨_, rfl, ?_⟩))
            go_roundg k1
            case measure => have := HK1.out; omega
            case rel => exact ⟨(x5_1), (wrap64 (x6_1 + 1)), (by first | rfl | (simp; done) | (simp [*]; done)), H', ⟨by have := HK1.out; omega⟩, ⟨by (with_reducible repeat (first | apply Kd.R_alloc | apply Kd.R_drewN | apply Kd.R_drew)); exact HO_5.out⟩, ⟨by repeat (first | (with_reducible first | exact HB.out | apply below_alloc | apply pw_below_drewN | apply below_drew1) | exact HB.out)⟩⟩
        · rw [if_neg c4] at H
          exact absurd H (by simp)
      · rw [if_neg c3] at H
        have c3b0 : decide (x6_1 < (l1.length : Int)) = false := decide_eq_false c3
        clear c3
        obtain rfl := Option.some.inj H
        go_wp2
        go_ret
        exact ⟨_, by first | rfl | (simp [errW_none, errW_some] <;> rfl) | (simp [*, errW_none, errW_some] <;> rfl), by (with_reducible repeat (first | apply Kd.R_alloc | apply Kd.R_drewN | apply Kd.R_drew)); exact HO_5.out, by repeat (first | (with_reducible first | exact HB.out | apply below_alloc | apply pw_below_drewN | apply below_drew1) | exact HB.out)⟩

end Go.Proofs.Ytngocadnbpdnoaa.Q
namespace Go.Proofs.Ytngocadnbpdnoaa.Mo
open Go Go.Maps Go.RowKit Go.Proofs.Ytngocadnbpdnoaa.Srt Go.Proofs.Ytngocadnbpdnoaa.Q Go.Proofs.YtngocadnbpdnoaaW.PrintWords Go.Proofs.YtngocadnbpdnoaaW.PrintLast Go.Proofs.YtngocadnbpdnoaaW.PrintMore
set_option linter.unusedVariables false
set_option linter.unusedSimpArgs false
theorem wr1 (i : Nat) (h : i ≤ 4398046511104) : wrap64 ((i : Int) + 1) = ((i + 1 : Nat) : Int) := by unfold wrap64; omega
theorem toS_rd {l : PL} {i : Nat} (h : i < l.length) : rd_T90 (toS l) (i : Int) = ⟨l[i].1, l[i].2⟩ := by
  rw [rd_get (by rw [toS_length]; exact h)]; simp [toS]
theorem toS_drop (l : PL) (i : Nat) : (toS l).drop i = toS (l.drop i) := by simp [toS]
theorem find_l0 (l : PL) (key : Int) (hm : l.length ≤ 1099511627776) : ∀ m i : Nat, i + m = l.length → shutterref06_find.l0 (m + 1) (toS l) key (i : Int) = some ((fnd (l.drop i) key).getD 0, (fnd (l.drop i) key).isSome)
  | 0, i, e => by
    unfold shutterref06_find.l0
    rw [if_neg (by rw [toS_length]; omega), List.drop_eq_nil_of_le (by omega)]; rfl
  | m + 1, i, e => by
    unfold shutterref06_find.l0
    have h0 : i < l.length := by omega
    rw [if_pos (by rw [toS_length]; omega), if_pos (by omega), toS_rd h0, List.drop_eq_getElem_cons h0, fnd_cons]
    by_cases hd : l[i].1 = key
    · rw [if_pos hd, if_pos hd]; rfl
    · rw [if_neg hd, if_neg hd, wr1 i (by omega), find_l0 l key hm m (i + 1) (by omega)]
theorem find_f (l : PL) (key : Int) (hm : l.length ≤ 1099511627776) : shutterref06_find.f (l.length + 1) (toS l) key = some ((fnd l key).getD 0, (fnd l key).isSome) := by
  unfold shutterref06_find.f
  simpa using find_l0 l key hm l.length 0 (by omega)
theorem without_l0 (l : PL) (key : Int) (hm : l.length ≤ 1099511627776) : ∀ m i : Nat, i + m = l.length → ∀ acc : List SP, acc.length ≤ i → shutterref06_Without.l0 (m + 1) (toS l) key acc (i : Int) = some (acc ++ toS (del (l.drop i) key))
  | 0, i, e, acc, ha => by
    unfold shutterref06_Without.l0
    rw [if_neg (by rw [toS_length]; omega), List.drop_eq_nil_of_le (by omega)]; simp [del, toS]
  | m + 1, i, e, acc, ha => by
    unfold shutterref06_Without.l0
    have h0 : i < l.length := by omega
    rw [if_pos (by rw [toS_length]; omega), if_pos (by omega), toS_rd h0, List.drop_eq_getElem_cons h0]
    by_cases hd : l[i].1 = key
    · rw [if_pos hd, wr1 i (by omega), without_l0 l key hm m (i + 1) (by omega) acc (by omega)]
      have : del (l[i] :: l.drop (i + 1)) key = del (l.drop (i + 1)) key := by unfold del; rw [List.filter_cons_of_neg (by simp [hd])]
      rw [this]
    · rw [if_neg hd, if_pos (by omega), wr1 i (by omega), without_l0 l key hm m (i + 1) (by omega) _ (by simp; omega)]
      have : del (l[i] :: l.drop (i + 1)) key = l[i] :: del (l.drop (i + 1)) key := by unfold del; rw [List.filter_cons_of_pos (by simp [hd])]
      rw [this]; simp [toS]
theorem without_f (l : PL) (key : Int) (hm : l.length ≤ 1099511627776) : shutterref06_Without.f (l.length + 1) (toS l) key = some (toS (del l key)) := by
  unfold shutterref06_Without.f
  simpa using without_l0 l key hm l.length 0 (by omega) [] (by simp)
theorem within_l0 (l : PL) (lo hi : Int) (hm : l.length ≤ 1099511627776) : ∀ m i : Nat, i + m = l.length → ∀ acc : List SP, acc.length ≤ i → shutterref06_Within.l0 (m + 1) (toS l) lo hi acc (i : Int) = some (acc ++ toS (within lo hi (l.drop i)))
  | 0, i, e, acc, ha => by
    unfold shutterref06_Within.l0
    rw [if_neg (by rw [toS_length]; omega), List.drop_eq_nil_of_le (by omega)]; simp [within, toS]
  | m + 1, i, e, acc, ha => by
    unfold shutterref06_Within.l0
    have h0 : i < l.length := by omega
    rw [if_pos (by rw [toS_length]; omega), if_pos (by omega), toS_rd h0, List.drop_eq_getElem_cons h0]
    by_cases h1 : l[i].1 ≥ lo
    · by_cases h2 : l[i].1 ≤ hi
      · rw [if_pos h1, if_pos h2, if_pos (by omega), wr1 i (by omega), within_l0 l lo hi hm m (i + 1) (by omega) _ (by simp; omega)]
        have : within lo hi (l[i] :: l.drop (i + 1)) = l[i] :: within lo hi (l.drop (i + 1)) := by unfold within; rw [List.filter_cons_of_pos (by simp; omega)]
        rw [this]; simp [toS]
      · rw [if_pos h1, if_neg h2, wr1 i (by omega), within_l0 l lo hi hm m (i + 1) (by omega) acc (by omega)]
        have : within lo hi (l[i] :: l.drop (i + 1)) = within lo hi (l.drop (i + 1)) := by unfold within; rw [List.filter_cons_of_neg (by simp; omega)]
        rw [this]
    · rw [if_neg h1, wr1 i (by omega), within_l0 l lo hi hm m (i + 1) (by omega) acc (by omega)]
      have : within lo hi (l[i] :: l.drop (i + 1)) = within lo hi (l.drop (i + 1)) := by unfold within; rw [List.filter_cons_of_neg (by simp; omega)]
      rw [this]
theorem within_f (l : PL) (lo hi : Int) (hm : l.length ≤ 1099511627776) : shutterref06_Within.f (l.length + 1) (toS l) lo hi = some (toS (within lo hi l)) := by
  unfold shutterref06_Within.f
  simpa using within_l0 l lo hi hm l.length 0 (by omega) [] (by simp)
theorem with_l0 (l : PL) (key v : Int) (hm : l.length ≤ 1099511627776) : ∀ m i : Nat, i + m = l.length → ∀ acc : List SP, acc.length ≤ i → shutterref06_With.l0 (m + 1) (toS l) key v acc (i : Int) = some (acc ++ toS (put (l.drop i) key v)) := by
  intro m
  induction m with
  | zero =>
    intro i e acc hc
    have e2 : i = l.length := by omega
    have hd : l.drop i = [] := List.drop_eq_nil_of_le (by omega)
    have hd2 : (toS l).drop i = [] := by rw [toS_drop, hd]; rfl
    rw [hd]
    unfold shutterref06_With.l0
    rw [if_neg (by rw [toS_length]; omega), if_pos (by omega)]
    simp only [Option.bind_some, Int.toNat_natCast, hd2]
    rw [if_pos (by omega), if_pos (by rw [toS_length]; omega), if_pos (by rw [List.length_append, List.length_singleton, List.length_nil]; omega)]
    simp [put, toS]
  | succ m ihm =>
    intro i e acc hc
    have h0 : i < l.length := by omega
    have hd : l.drop i = l[i] :: l.drop (i + 1) := List.drop_eq_getElem_cons h0
    obtain ⟨p, hp⟩ : ∃ p, p = l[i] := ⟨_, rfl⟩
    obtain ⟨r, hr⟩ : ∃ r, r = l.drop (i + 1) := ⟨_, rfl⟩
    have hrl : r.length + (i + 1) = l.length := by rw [hr, List.length_drop]; omega
    have ht1 : (toS l).drop (i + 1) = toS r := by rw [toS_drop, hr]
    have ht0 : (toS l).drop i = ⟨p.1, p.2⟩ :: toS r := by rw [toS_drop, hd, ← hp, ← hr]; rfl
    have hrd : rd_T90 (toS l) (i : Int) = ⟨p.1, p.2⟩ := by rw [toS_rd h0, hp]
    have ih : ∀ acc2 : List SP, acc2.length ≤ i + 1 → shutterref06_With.l0 (m + 1) (toS l) key v acc2 ((i + 1 : Nat) : Int) = some (acc2 ++ toS (put (l.drop (i + 1)) key v)) := fun acc2 ha2 => ihm (i + 1) (by omega) acc2 ha2
    rw [← hr] at ih
    rw [hd, ← hp, ← hr]
    unfold shutterref06_With.l0
    simp only [hrd]
    rw [if_pos (by rw [toS_length]; omega), if_pos (by omega)]
    by_cases h1 : p.1 < key
    · rw [if_pos h1, if_pos (by omega), wr1 i (by omega), ih _ (by simp; omega)]
      simp [put, h1, toS]
    · rw [if_neg h1, if_pos (by omega)]
      refine (Option.bind_some _ _).trans ?_
      by_cases h2 : p.1 = key
      · rw [if_pos h2, wr1 i (by omega), if_pos (by omega), if_pos (by rw [toS_length]; omega)]
        refine (Option.bind_some _ _).trans ?_
        rw [Int.toNat_natCast, ht1, if_pos (by rw [List.length_append, List.length_singleton, toS_length]; omega)]
        have hput : put (p :: r) key v = (key, v) :: r := by simp [put, h2]
        rw [hput]
        refine congrArg some ?_
        rw [List.append_assoc]
        rfl
      · rw [if_neg h2, if_pos (by rw [toS_length]; omega)]
        refine (Option.bind_some _ _).trans ?_
        rw [Int.toNat_natCast, ht0, if_pos (by rw [List.length_append, List.length_singleton, List.length_cons, toS_length]; omega)]
        have hput : put (p :: r) key v = (key, v) :: p :: r := by simp [put, h1, h2]
        rw [hput]
        refine congrArg some ?_
        rw [List.append_assoc]
        rfl
theorem with_f (l : PL) (key v : Int) (hm : l.length ≤ 1099511627776) : shutterref06_With.f (l.length + 1) (toS l) key v = some (toS (put l key v)) := by
  unfold shutterref06_With.f
  simpa using with_l0 l key v hm l.length 0 (by omega) [] (by simp)
theorem find_up (l : PL) (key : Int) (hm : l.length ≤ 1099511627776) : ∀ k, l.length + 1 ≤ k → shutterref06_find.f k (toS l) key = some ((fnd l key).getD 0, (fnd l key).isSome)
  | 0, h => by omega
  | k + 1, h => by
    by_cases e : l.length = k
    · rw [← e]; exact find_f l key hm
    · exact shutterref06_find.mono (toS l) key k _ (find_up l key hm k (by omega))
theorem ofKeys_cons (l : PL) (k : Int) (ks : List Int) : ofKeys l (k :: ks) = match fnd l k with | some v => (k, v) :: ofKeys l ks | none => ofKeys l ks := by
  unfold ofKeys
  rw [List.filterMap_cons]
  cases fnd l k <;> rfl
theorem of_l0 (l : PL) (ks : List Int) (hm : l.length ≤ 1099511627776) (hk : ks.length ≤ 1099511627776) : ∀ m i : Nat, i + m = ks.length → ∀ acc : List SP, acc.length ≤ i → shutterref06_Of.l0 (m + 1 + (l.length + 1)) (toS l) ks acc (i : Int) = some (acc ++ toS (ofKeys l (ks.drop i)))
  | 0, i, e, acc, ha => by
    rw [show 0 + 1 + (l.length + 1) = (l.length + 1) + 1 by omega]
    unfold shutterref06_Of.l0
    rw [if_neg (by omega), List.drop_eq_nil_of_le (by omega)]; simp [ofKeys, toS]
  | m + 1, i, e, acc, ha => by
    rw [show m + 1 + 1 + (l.length + 1) = (m + 1 + (l.length + 1)) + 1 by omega]
    unfold shutterref06_Of.l0
    have h0 : i < ks.length := by omega
    have hr : rd ks (i : Int) = ks[i] := by unfold rd; simp [List.getD_eq_getElem?_getD, h0]
    rw [if_pos (by omega), if_pos (by omega), hr, find_up l ks[i] hm _ (by omega), List.drop_eq_getElem_cons h0, ofKeys_cons]
    simp only [Option.bind_some]
    cases hf : fnd l ks[i] with
    | none =>
      simp only [Option.isSome_none, Bool.false_eq_true, if_false]
      rw [wr1 i (by omega), of_l0 l ks hm hk m (i + 1) (by omega) acc (by omega)]
    | some x =>
      simp only [Option.isSome_some, if_true, Option.getD_some]
      rw [if_pos (by omega), wr1 i (by omega), of_l0 l ks hm hk m (i + 1) (by omega) _ (by simp; omega)]
      simp [toS]
theorem of_f (l : PL) (ks : List Int) (hm : l.length ≤ 1099511627776) (hk : ks.length ≤ 1099511627776) : shutterref06_Of.f (ks.length + 1 + (l.length + 1)) (toS l) ks = some (toS (ofKeys l ks)) := by
  unfold shutterref06_Of.f
  simpa using of_l0 l ks hm hk ks.length 0 (by omega) [] (by simp)
end Go.Proofs.Ytngocadnbpdnoaa.Mo
namespace Go.Proofs.Ytngocadnbpdnoaa.Q
open Go.RowKit Go.Proofs.YtngocadnbpdnoaaW.PrintWords Go.Proofs.YtngocadnbpdnoaaW.PrintLast Go.Proofs.YtngocadnbpdnoaaW.PrintMore
attribute [local go_sem] max2_int min2_int max_two min_two max_three min_three max_four min_four   -- for this text's walks alone
set_option linter.unusedVariables false
set_option linter.unusedSimpArgs false

attribute [local go_sem high] eqA90
def shutterref06_SamePairs.l0 : Nat → List (S90) → List (S90) → Int → Option (Bool)
  | 0, _, _, _ => none
  | k + 1, x0, x1, x5 => if x5 < (x0.length : Int) then (if 0 ≤ x5 then (if x5 < (x1.length : Int) then (if (!(((rd_T90 x0 x5).f0) == ((rd_T90 x1 x5).f0)) || (!(((rd_T90 x0 x5).f1) == ((rd_T90 x1 x5).f1)))) = true then (some false) else (shutterref06_SamePairs.l0 k x0 x1 (wrap64 (x5 + 1)))) else (none)) else (none)) else (some true)
def shutterref06_SamePairs.f (k : Nat) (l0 : List (S90)) (l1 : List (S90)) : Option (Bool) := if (l0.length : Int) = (l1.length : Int) then (shutterref06_SamePairs.l0 k l0 l1 0) else (some false)
theorem shutterref06_SamePairs.mono_l : ∀ k, (∀ y0 y1 y2, LeO (shutterref06_SamePairs.l0 k y0 y1 y2) (shutterref06_SamePairs.l0 (k + 1) y0 y1 y2))
  | 0 => fun _ _ _ r h => by simp [shutterref06_SamePairs.l0] at h
  | k + 1 => by
    have ih0 := shutterref06_SamePairs.mono_l k
    · intro y0 y1 y2
      unfold shutterref06_SamePairs.l0
      repeat' first
      | (with_reducible exact ih0 _ _ _)
      | (with_reducible exact LeO.refl _)
      | (with_reducible exact LeO.none _)
      | (with_reducible refine LeO.ite ?_ ?_)
      | (with_reducible refine LeO.bind ?_ (fun _ => ?_))
      | exact ih0 _ _ _
      | exact LeO.none _
      | refine LeO.ite ?_ ?_
      | refine LeO.bind ?_ (fun _ => ?_)
theorem shutterref06_SamePairs.mono : ∀ a0 a1 k, LeO (shutterref06_SamePairs.f k a0 a1) (shutterref06_SamePairs.f (k + 1) a0 a1) := by
  intro a0 a1 k
  have ih0 := shutterref06_SamePairs.mono_l k
  unfold shutterref06_SamePairs.f
  repeat' first
      | (with_reducible exact ih0 _ _ _)
      | (with_reducible exact LeO.refl _)
      | (with_reducible exact LeO.none _)
      | (with_reducible refine LeO.ite ?_ ?_)
      | (with_reducible refine LeO.bind ?_ (fun _ => ?_))
      | exact ih0 _ _ _
      | exact LeO.none _
      | refine LeO.ite ?_ ?_
      | refine LeO.bind ?_ (fun _ => ?_)
set_option maxHeartbeats 8000000 in
set_option maxRecDepth 100000 in
theorem shutterref06_SamePairs.calls (k : Nat) (A0 : Option Addr) (c0 : Nat) (l0 : List (S90)) (A1 : Option Addr) (c1 : Nat) (l1 : List (S90)) (r : Bool) (w : World) (hr0 : Kd.C k90 w A0 l0.length l0) (hc0 : l0.length ≤ c0) (hr1 : Kd.C k90 w A1 l1.length l1) (hc1 : l1.length ≤ c1) (h : shutterref06_SamePairs.f k l0 l1 = some r) :
    Calls Try.prog 35 #[.slice A0 l0.length c0, .slice A1 l1.length c1] w fun e w' => e = .returned (.bool r) ∧ Drawn0 w w' := by
  have hu90 := Try.underlying90
  have HR0 := Aside0.mk hr0
  have HC0 := Aside0.mk hc0
  clear hr0 hc0
  have HR1 := Aside0.mk hr1
  have HC1 := Aside0.mk hc1
  clear hr1 hc1
  have H : (if (l0.length : Int) = (l1.length : Int) then (shutterref06_SamePairs.l0 k l0 l1 0) else (some false)) = some r := h
  clear h
  by_cases c3 : (l0.length : Int) = (l1.length : Int)
  · rw [if_pos c3] at H
    have c3b0 : ((l0.length : Int) == (l1.length : Int)) = true := beq_iff_eq.mpr c3
    have c3b1 : ((l0.length : Int) != (l1.length : Int)) = false := bne_eq_false_iff_eq.mpr c3
    have c3b2 : (l0.length == l1.length) = true := by first | simpa using c3 | (simp at c3 ⊢; omega)
    clear c3
    have H' := Aside0.mk H
    clear H
    go_enter Try.func35, Try.ntmps35
    go_wp2
    repeat (go_quiet (fail); try go_wp2)
    go_loopg [5] k (fun kq v5 w' => ∃ (x5_1 : Int), v5 = .int .i64 x5_1 ∧ Aside0 (shutterref06_SamePairs.l0 kq l0 l1 x5_1 = some r) ∧ Aside0 (kq ≤ k) ∧ Drawn0 w w')
    case atStart => exact ⟨(0), (by first | rfl | (simp; done) | (simp [*]; done)), H', ⟨Nat.le_refl _⟩, by repeat (first | exact Drawn0.refl _ | apply Drawn0.step)⟩
    case round =>
      clear H'
      try clear c1
      try clear p2
      try clear c3
      try clear c3b0
      try clear c3b1
      try clear c3b2
      obtain ⟨x5_1, rfl, HA, HK1, ⟨m1, rfl⟩⟩ := hrel
      cases gk with
      | zero => exact absurd HA.out (by simp [shutterref06_SamePairs.l0])
      | succ k1 =>
        have H := HA.out
        clear HA
        simp only [shutterref06_SamePairs.l0] at H
        by_cases c4 : x5_1 < (l0.length : Int)
        · rw [if_pos c4] at H
          have c4b0 : decide (x5_1 < (l0.length : Int)) = true := decide_eq_true c4
          clear c4
          by_cases c5 : 0 ≤ x5_1
          · rw [if_pos c5] at H
            have c5b0 : decide (0 ≤ x5_1) = true := decide_eq_true c5
            clear c5
            by_cases c6 : x5_1 < (l1.length : Int)
            · rw [if_pos c6] at H
              have c6b0 : decide (x5_1 < (l1.length : Int)) = true := decide_eq_true c6
              clear c6
              by_cases c7 : (!(((rd_T90 l0 x5_1).f0) == ((rd_T90 l1 x5_1).f0)) || (!(((rd_T90 l0 x5_1).f1) == ((rd_T90 l1 x5_1).f1)))) = true
              · rw [if_pos c7] at H
                have c7b0 : (!(((rd_T90 l0 x5_1).f0) == ((rd_T90 l1 x5_1).f0)) || (!(((rd_T90 l0 x5_1).f1) == ((rd_T90 l1 x5_1).f1)))) = true := c7
                clear c7
                obtain rfl := Option.some.inj H
                have p106 : 0 ≤ (x5_1 : Int) := of_decide_eq_true (by first | (with_reducible assumption) | assumption)
                have q106 : x5_1 < (l0.length : Int) := of_decide_eq_true (by first | (with_reducible assumption) | assumption)
                obtain ⟨ad106, e106, hx106_0, hx106_1⟩ := at_T90 HR0.out x5_1 p106 q106
                cases e106
                replace p106 := eq_true p106
                replace q106 := eq_true q106
                have p107 : 0 ≤ (x5_1 : Int) := of_decide_eq_true (by first | (with_reducible assumption) | assumption)
                have q107 : x5_1 < (l1.length : Int) := of_decide_eq_true (by first | (with_reducible assumption) | assumption)
                obtain ⟨ad107, e107, hx107_0, hx107_1⟩ := at_T90 HR1.out x5_1 p107 q107
                cases e107
                replace p107 := eq_true p107
                replace q107 := eq_true q107
                go_wp2
                repeat (go_quiet (fail); try go_wp2)
                go_ret
                exact ⟨by first | rfl | (simp; done) | (simp [*]; done), by repeat (first | exact Drawn0.refl _ | apply Drawn0.step)⟩
              · rw [if_neg c7] at H
                have c7b0 : (!(((rd_T90 l0 x5_1).f0) == ((rd_T90 l1 x5_1).f0)) || (!(((rd_T90 l0 x5_1).f1) == ((rd_T90 l1 x5_1).f1)))) = false := by simpa using c7
                clear c7
                have H' := Aside0.mk H
                clear H
                have p106 : 0 ≤ (x5_1 : Int) := of_decide_eq_true (by first | (with_reducible assumption) | assumption)
                have q106 : x5_1 < (l0.length : Int) := of_decide_eq_true (by first | (with_reducible assumption) | assumption)
                obtain ⟨ad106, e106, hx106_0, hx106_1⟩ := at_T90 HR0.out x5_1 p106 q106
                cases e106
                replace p106 := eq_true p106
                replace q106 := eq_true q106
                have p107 : 0 ≤ (x5_1 : Int) := of_decide_eq_true (by first | (with_reducible assumption) | assumption)
                have q107 : x5_1 < (l1.length : Int) := of_decide_eq_true (by first | (with_reducible assumption) | assumption)
                obtain ⟨ad107, e107, hx107_0, hx107_1⟩ := at_T90 HR1.out x5_1 p107 q107
                cases e107
                replace p107 := eq_true p107
                replace q107 := eq_true q107
                go_wp2
                repeat (go_quiet (fail); try go_wp2)
                go_roundg k1
                case measure => have := HK1.out; omega
                case rel => exact ⟨(wrap64 (x5_1 + 1)), (by first | rfl | (simp; done) | (simp [*]; done)), H', ⟨by have := HK1.out; omega⟩, by repeat (first | exact Drawn0.refl _ | apply Drawn0.step)⟩
            · rw [if_neg c6] at H
              exact absurd H (by simp)
          · rw [if_neg c5] at H
            exact absurd H (by simp)
        · rw [if_neg c4] at H
          have c4b0 : decide (x5_1 < (l0.length : Int)) = false := decide_eq_false c4
          clear c4
          obtain rfl := Option.some.inj H
          go_wp2
          repeat (go_quiet (fail); try go_wp2)
          go_ret
          exact ⟨by first | rfl | (simp; done) | (simp [*]; done), by repeat (first | exact Drawn0.refl _ | apply Drawn0.step)⟩
  · rw [if_neg c3] at H
    have c3b0 : ((l0.length : Int) == (l1.length : Int)) = false := beq_eq_false_iff_ne.mpr c3
    have c3b1 : ((l0.length : Int) != (l1.length : Int)) = true := bne_iff_ne.mpr c3
    have c3b2 : (l0.length == l1.length) = false := by first | simpa using c3 | (simp at c3 ⊢; omega)
    obtain rfl := Option.some.inj H
    go_enter Try.func35, Try.ntmps35
    go_wp2
    repeat (go_quiet (fail); try go_wp2)
    go_ret
    exact ⟨by first | rfl | (simp; done) | (simp [*]; done), by repeat (first | exact Drawn0.refl _ | apply Drawn0.step)⟩

end Go.Proofs.Ytngocadnbpdnoaa.Q
namespace Go.Proofs.Ytngocadnbpdnoaa.Mo
open Go Go.Maps Go.RowKit Go.Proofs.Ytngocadnbpdnoaa.Srt Go.Proofs.Ytngocadnbpdnoaa.Q Go.Proofs.YtngocadnbpdnoaaW.PrintWords Go.Proofs.YtngocadnbpdnoaaW.PrintLast Go.Proofs.YtngocadnbpdnoaaW.PrintMore
set_option linter.unusedVariables false
set_option linter.unusedSimpArgs false
theorem samR_l0 (x0 x1 : List SP) (hl : x0.length = x1.length) (hm : x0.length ≤ 4398046511104) : ∀ m i : Nat, i + m = x0.length → shutterref06_SamePairs.l0 (m + 1) x0 x1 (i : Int) = some (decide (x0.drop i = x1.drop i))
  | 0, i, e => by
    unfold shutterref06_SamePairs.l0
    rw [if_neg (by omega)]
    rw [List.drop_eq_nil_of_le (by omega), List.drop_eq_nil_of_le (by omega)]; simp
  | m + 1, i, e => by
    unfold shutterref06_SamePairs.l0
    have h0 : i < x0.length := by omega
    have h1 : i < x1.length := by omega
    rw [if_pos (by omega), if_pos (by omega), if_pos (by omega), rd_get h0, rd_get h1]
    by_cases hd : x0[i] = x1[i]
    · rw [if_neg (by rw [pair_ne]; simpa using hd), show wrap64 ((i : Int) + 1) = ((i + 1 : Nat) : Int) by unfold wrap64; omega, samR_l0 x0 x1 hl hm m (i + 1) (by omega)]
      simp [drop_iff h0 h1, hd]
    · rw [if_pos (pair_ne.2 hd)]
      simp [drop_iff h0 h1, hd]
theorem samR_f (x0 x1 : List SP) (hm : x0.length ≤ 4398046511104) : ∃ k, shutterref06_SamePairs.f k x0 x1 = some (decide (x0 = x1)) := by
  unfold shutterref06_SamePairs.f
  by_cases hl : x0.length = x1.length
  · exact ⟨x0.length + 1, by rw [if_pos (by omega)]; simpa using samR_l0 x0 x1 hl hm x0.length 0 (by omega)⟩
  · exact ⟨0, by rw [if_neg (by omega)]; simp; intro e; exact hl (by rw [e])⟩
theorem eqR_c (x y : List SP) (A B : Option Addr) (c d : Nat) (w : World) (hA : Kd.C k90 w A x.length x) (hc : x.length ≤ c) (hB : Kd.C k90 w B y.length y) (hd : y.length ≤ d) (hm : x.length ≤ 4398046511104) (b : Bool) (hb : b = decide (x = y)) :
    Calls Try.prog 35 #[.slice A x.length c, .slice B y.length d] w fun e w' => e = .returned (.bool b) ∧ Drawn0 w w' := by
  obtain ⟨k, hk⟩ := samR_f x y hm
  rw [← hb] at hk
  exact shutterref06_SamePairs.calls k A c x B d y b w hA hc hB hd hk
set_option maxRecDepth 100000 in
set_option maxHeartbeats 8000000 in
theorem sameAnsR_c (x y : AnS) (A B : Option Addr) (c d : Nat) (w : World) (hA : Kd.C k90 w A x.f5.length x.f5) (hc : x.f5.length ≤ c) (hB : Kd.C k90 w B y.f5.length y.f5) (hd : y.f5.length ≤ d) (hm : x.f5.length ≤ 4398046511104) :
    Calls Try.prog 13 #[anV x A c, anV y B d] w fun e w' => e = .returned (.bool (anEq x y)) ∧ Below w.heap.size w w' := by
  obtain ⟨b5, hb5⟩ : ∃ b, b = decide (x.f5 = y.f5) := ⟨_, rfl⟩
  have HB5 := Lib.hid hb5
  obtain ⟨W0, hW0⟩ : ∃ W0, W0 = (w.alloc (.cells (ansC x.f0 x.f1 x.f2 x.f3 x.f4 (.slice A x.f5.length c) x.f6) 26)).alloc (.cells (ansC y.f0 y.f1 y.f2 y.f3 y.f4 (.slice B y.f5.length d) y.f6) 26) := ⟨_, rfl⟩
  have HW := Lib.hid hW0
  have hb1 : Below w.heap.size w W0 := by rw [hW0]; exact below_alloc (below_alloc (Below.refl _ w) _) _
  have hn1 : W0.heap[w.heap.size]? = some (.cells (ansC x.f0 x.f1 x.f2 x.f3 x.f4 (.slice A x.f5.length c) x.f6) 26 (0, 0)) := by
    rw [hW0]
    exact ((below_alloc (Below.refl _ (w.alloc (.cells (ansC x.f0 x.f1 x.f2 x.f3 x.f4 (.slice A x.f5.length c) x.f6) 26))) (.cells (ansC y.f0 y.f1 y.f2 y.f3 y.f4 (.slice B y.f5.length d) y.f6) 26)).block _ (by simp)).trans (heap_alloc_new w _)
  have hn2 : W0.heap[w.heap.size + 1]? = some (.cells (ansC y.f0 y.f1 y.f2 y.f3 y.f4 (.slice B y.f5.length d) y.f6) 26 (0, 0)) := by
    rw [hW0]
    have := heap_alloc_new (w.alloc (.cells (ansC x.f0 x.f1 x.f2 x.f3 x.f4 (.slice A x.f5.length c) x.f6) 26)) (.cells (ansC y.f0 y.f1 y.f2 y.f3 y.f4 (.slice B y.f5.length d) y.f6) 26)
    simpa using this
  have HS := Lib.hid (eqR_c x.f5 y.f5 A B c d W0 (Kd.C_below hA hb1) hc (Kd.C_below hB hb1) hd hm b5 hb5)
  have HB := Lib.hid hb1
  obtain ⟨p0, p1, p2, p3, p4, p5, p6⟩ := ans_cells hn1
  obtain ⟨q0, q1, q2, q3, q4, q5, q6⟩ := ans_cells hn2
  clear hA hB hb1 hn1 hn2 hW0 hb5
  go_enter Try.func13, Try.ntmps13
  go_upto_region 1 with fail
  change Code.wp _ _ _ _ ((w.alloc (.cells (ansC x.f0 x.f1 x.f2 x.f3 x.f4 (.slice A x.f5.length c) x.f6) 26)).alloc (.cells (ansC y.f0 y.f1 y.f2 y.f3 y.f4 (.slice B y.f5.length d) y.f6) 26))
  rw [← HW.out]
  cases h0 : (x.f0 == y.f0) with
  | false =>
    go_wp2_with (go_at_call 35; refine HS.out.mono ?_; rintro e w1 ⟨rfl, ⟨nd, rfl⟩⟩)
    go_ret
    exact ⟨congrArg (fun b => Ending.returned (.bool b)) (show false = anEq x y from (by unfold anEq; rw [← HB5.out, h0]; try simp)), by first | exact HB.out | exact pw_below_drewN HB.out _⟩
  | true =>
    cases h1 : (x.f1 == y.f1) with
    | false =>
      go_wp2_with (go_at_call 35; refine HS.out.mono ?_; rintro e w1 ⟨rfl, ⟨nd, rfl⟩⟩)
      go_ret
      exact ⟨congrArg (fun b => Ending.returned (.bool b)) (show false = anEq x y from (by unfold anEq; rw [← HB5.out, h0, h1]; try simp)), by first | exact HB.out | exact pw_below_drewN HB.out _⟩
    | true =>
      cases h2 : (x.f2 == y.f2) with
      | false =>
        go_wp2_with (go_at_call 35; refine HS.out.mono ?_; rintro e w1 ⟨rfl, ⟨nd, rfl⟩⟩)
        go_ret
        exact ⟨congrArg (fun b => Ending.returned (.bool b)) (show false = anEq x y from (by unfold anEq; rw [← HB5.out, h0, h1, h2]; try simp)), by first | exact HB.out | exact pw_below_drewN HB.out _⟩
      | true =>
        cases h3 : (x.f3 == y.f3) with
        | false =>
          go_wp2_with (go_at_call 35; refine HS.out.mono ?_; rintro e w1 ⟨rfl, ⟨nd, rfl⟩⟩)
          go_ret
          exact ⟨congrArg (fun b => Ending.returned (.bool b)) (show false = anEq x y from (by unfold anEq; rw [← HB5.out, h0, h1, h2, h3]; try simp)), by first | exact HB.out | exact pw_below_drewN HB.out _⟩
        | true =>
          cases h4 : (x.f4 == y.f4) with
          | false =>
            go_wp2_with (go_at_call 35; refine HS.out.mono ?_; rintro e w1 ⟨rfl, ⟨nd, rfl⟩⟩)
            go_ret
            exact ⟨congrArg (fun b => Ending.returned (.bool b)) (show false = anEq x y from (by unfold anEq; rw [← HB5.out, h0, h1, h2, h3, h4]; try simp)), by first | exact HB.out | exact pw_below_drewN HB.out _⟩
          | true =>
            cases b5 with
            | false =>
              go_wp2_with (go_at_call 35; refine HS.out.mono ?_; rintro e w1 ⟨rfl, ⟨nd, rfl⟩⟩)
              go_ret
              exact ⟨congrArg (fun b => Ending.returned (.bool b)) (show false = anEq x y from (by unfold anEq; rw [← HB5.out, h0, h1, h2, h3, h4]; try simp)), by first | exact HB.out | exact pw_below_drewN HB.out _⟩
            | true =>
              cases h6 : (x.f6 == y.f6) with
              | false =>
                go_wp2_with (go_at_call 35; refine HS.out.mono ?_; rintro e w1 ⟨rfl, ⟨nd, rfl⟩⟩)
                go_ret
                exact ⟨congrArg (fun b => Ending.returned (.bool b)) (show false = anEq x y from (by unfold anEq; rw [← HB5.out, h0, h1, h2, h3, h4, h6]; try simp)), by first | exact HB.out | exact pw_below_drewN HB.out _⟩
              | true =>
                go_wp2_with (go_at_call 35; refine HS.out.mono ?_; rintro e w1 ⟨rfl, ⟨nd, rfl⟩⟩)
                go_ret
                exact ⟨congrArg (fun b => Ending.returned (.bool b)) (show true = anEq x y from (by unfold anEq; rw [← HB5.out, h0, h1, h2, h3, h4, h6]; try simp)), by first | exact HB.out | exact pw_below_drewN HB.out _⟩
end Go.Proofs.Ytngocadnbpdnoaa.Mo
namespace Go.Proofs.Ytngocadnbpdnoaa.Mo
open Go Go.Maps Go.RowKit Go.Proofs.Ytngocadnbpdnoaa.Srt Go.Proofs.Ytngocadnbpdnoaa.Q Go.Proofs.YtngocadnbpdnoaaW.PrintWords Go.Proofs.YtngocadnbpdnoaaW.PrintLast Go.Proofs.YtngocadnbpdnoaaW.PrintMore
set_option linter.unusedVariables false
set_option linter.unusedSimpArgs false
set_option maxRecDepth 100000 in
set_option maxHeartbeats 8000000 in
theorem do_del (f : Nat → Option PL) (N gp bn bh : Nat) (multi : Int) (now : PL) (held : List (Int × PL)) (o : OpS) (A : Option Addr) (c : Nat) (hdl : Int) (w : World) (hM : PM w f N gp bn bh multi now held) (hF : Fro w f N) (hO : OpWf o) (hh : u64wf hdl) (hN : N ≤ 1099511627776) (hk : o.f0 = 3) :
    Calls Try.prog 15 #[.pointer (some ⟨gp, 0, none⟩), .agg (opC o A c), .int .u64 hdl] w (DoPost w f (N + 1) gp bn bh ⟨multi, del now o.f1, held⟩ (foundD ⟨multi, now, held⟩ o)) := by
  have hgl := hM.gl
  have hnl := hM.now.lt
  have hhl := hM.held.1.lt
  have HM := Lib.hid hM
  have HF := Lib.hid hF
  have HO := Lib.hid hO
  have HU := Lib.hid hh
  have hb0 : Below w.heap.size w (doW w o A c).drew := below_drew (doW_below w o A c)
  have hP0 := hM.kept (Kept.of_below hb0 (fun _ => False)) (fun e => e) (fun e => e) (fun e => e)
  have HS : (fun w' : World => w'.cell? ⟨gp, 1, none⟩ = some (.map (some bn)) ∧ w'.cell? ⟨w.heap.size, 1, none⟩ = some (.int .u64 o.f1) ∧ (Instr.lookup 97 (.map (some bn)) (.int .u64 o.f1) true).run Try.prog w' = .ok (.tuple #[.int .u64 ((fnd now o.f1).getD 0), .bool (fnd now o.f1).isSome]) w') (doW w o A c).drew :=
    ⟨hP0.c1, by rw [blk_cell (w := (doW w o A c).drew) (doW_op w o A c)]; rfl, now_look hP0.now hO.key⟩
  obtain ⟨vh, hvh, hrunh⟩ := held_look (hM.held.kept (Kept.of_below (below_drew (below_alloc (below_drew (doW_below w o A c)) (.cells (ansC 0 (fnd now o.f1).isSome ((fnd now o.f1).getD 0) false 0 (.slice none 0 0) 0) 26))) (fun _ => False)) (fun e => e)) hO.han
  have hW2 : Below w.heap.size w ((doW w o A c).drew.alloc (.cells (ansC 0 (fnd now o.f1).isSome ((fnd now o.f1).getD 0) false 0 (.slice none 0 0) 0) 26)).drew := below_drew (below_alloc (below_drew (doW_below w o A c)) _)
  have hP2 := hM.kept (Kept.of_below hW2 (fun _ => False)) (fun e => e) (fun e => e) (fun e => e)
  have hs2 : (doW w o A c).drew.heap.size = w.heap.size + 2 := doW_size w o A c
  have hop2 : ((doW w o A c).drew.alloc (.cells (ansC 0 (fnd now o.f1).isSome ((fnd now o.f1).getD 0) false 0 (.slice none 0 0) 0) 26)).drew.heap[w.heap.size]? = some (.cells (opC o A c) 39 (0, 0)) := ((below_alloc (Below.refl _ (doW w o A c).drew) _).block _ (by rw [hs2]; omega)).trans (doW_op w o A c)
  have hra2 : ((doW w o A c).drew.alloc (.cells (ansC 0 (fnd now o.f1).isSome ((fnd now o.f1).getD 0) false 0 (.slice none 0 0) 0) 26)).drew.heap[w.heap.size + 1]? = some (.cells (ansC 0 false 0 false 0 (.slice none 0 0) 0) 26 (0, 0)) := ((below_alloc (Below.refl _ (doW w o A c).drew) _).block _ (by rw [hs2]; omega)).trans (doW_ans w o A c)
  have hfa2 : ((doW w o A c).drew.alloc (.cells (ansC 0 (fnd now o.f1).isSome ((fnd now o.f1).getD 0) false 0 (.slice none 0 0) 0) 26)).drew.heap[w.heap.size + 2]? = some (.cells (ansC 0 (fnd now o.f1).isSome ((fnd now o.f1).getD 0) false 0 (.slice none 0 0) 0) 26 (0, 0)) := by
    have := heap_alloc_new (doW w o A c).drew (.cells (ansC 0 (fnd now o.f1).isSome ((fnd now o.f1).getD 0) false 0 (.slice none 0 0) 0) 26)
    rw [hs2] at this
    exact this
  have HS2 : (fun w' : World => w'.cell? ⟨gp, 2, none⟩ = some (.map (some bh)) ∧ w'.cell? ⟨w.heap.size, 4, none⟩ = some (.int .u64 o.f4) ∧ (Instr.lookup 98 (.map (some bh)) (.int .u64 o.f4) true).run Try.prog w' = .ok (.tuple #[vh, .bool (fnd held o.f4).isSome]) w') ((doW w o A c).drew.alloc (.cells (ansC 0 (fnd now o.f1).isSome ((fnd now o.f1).getD 0) false 0 (.slice none 0 0) 0) 26)).drew :=
    ⟨hP2.c2, by rw [blk_cell hop2]; rfl, hrunh⟩
  have hkd : ((doW w o A c).drew.alloc (.cells (ansC 0 (fnd now o.f1).isSome ((fnd now o.f1).getD 0) false 0 (.slice none 0 0) 0) 26)).drew.cell? ⟨w.heap.size, 0, none⟩ = some (.int .u8 3) := by rw [blk_cell hop2, ← hk]; rfl
  have HVH := Lib.hid hvh
  have HW2 := Lib.hid hW2
  have HP2 := Lib.hid hP2
  have HOP2 := Lib.hid hop2
  have HRA2 := Lib.hid hra2
  have HFA2 := Lib.hid hfa2
  have hfnd0 : (fnd now o.f1).isSome = (fnd now o.f1).isSome := rfl
  obtain ⟨fo, hfo⟩ : ∃ b : Bool, b = (fnd now o.f1).isSome := ⟨_, rfl⟩
  obtain ⟨fv, hfv⟩ : ∃ v : Int, v = (fnd now o.f1).getD 0 := ⟨_, rfl⟩
  obtain ⟨hd, hhd⟩ : ∃ b : Bool, b = (fnd held o.f4).isSome := ⟨_, rfl⟩
  rw [← hfo, ← hfv] at HS HS2 HW2 HP2 HOP2 HRA2 HFA2 hkd
  rw [← hhd] at HS2
  have HFO := Lib.hid hfo
  have HFV := Lib.hid hfv
  have HHD := Lib.hid hhd
  clear hM hF hO hh hb0 hP0 hvh hrunh hW2 hP2 hs2 hop2 hra2 hfa2 hfnd0 hfo hfv hhd
  obtain ⟨W1, hW1⟩ : ∃ W1, W1 = doW w o A c := ⟨_, rfl⟩
  have HW1 := Lib.hid hW1
  rw [← hW1] at HS HS2 HW2 HP2 HOP2 HRA2 HFA2 hkd
  go_enter Try.func15, Try.ntmps15
  go_wp2_with fail
  change Code.wp _ _ _ _ (doW w o A c)
  rw [← hW1]
  clear hW1
  go_region_held3 (fun w' => w'.cell? ⟨gp, 1, none⟩ = some (.map (some bn)) ∧ w'.cell? ⟨w.heap.size, 1, none⟩ = some (.int .u64 o.f1) ∧ (Instr.lookup 97 (.map (some bn)) (.int .u64 o.f1) true).run Try.prog w' = .ok (.tuple #[.int .u64 fv, .bool fo]) w')
    (first | go_keep | exact HS)
    (first | fail | fail)
  clear HS
  have hs1 : W1.heap.size = w.heap.size + 2 := by rw [HW1.out]; exact doW_size w o A c
  go_wp2_with fail
  obtain ⟨W2, hW2⟩ : ∃ W2, W2 = W1.drew.alloc (Obj.cells (ansC 0 fo fv false 0 (Value.slice none 0 0) 0) 26) := ⟨_, rfl⟩
  change Code.wp _ _ _ _ (W1.drew.alloc (Obj.cells (ansC 0 fo fv false 0 (Value.slice none 0 0) 0) 26))
  rw [← hW2] at HS2 HW2 HP2 HOP2 HRA2 HFA2 hkd ⊢
  clear hW2
  go_region_held3 (fun w' => w'.cell? ⟨gp, 2, none⟩ = some (.map (some bh)) ∧ w'.cell? ⟨w.heap.size, 4, none⟩ = some (.int .u64 o.f4) ∧ (Instr.lookup 98 (.map (some bh)) (.int .u64 o.f4) true).run Try.prog w' = .ok (.tuple #[vh, .bool hd]) w')
    (first | go_keep | exact HS2)
    (first | fail | fail)
  clear HS2
  obtain ⟨W, hW⟩ : ∃ W, W = W2.drew := ⟨_, rfl⟩
  rw [← hW] at HW2 HP2 HOP2 HRA2 HFA2 hkd ⊢
  clear hW
  obtain ⟨w3, hrun3, ho3', hg3⟩ := now_del (w := W.drew) HP2.out.now HO.out.key 0
  have ho3 := ho3'.mono (Nat.le_succ N)
  clear ho3'
  replace hg3 := grown_undrew hg3
  have HL3 := Lib.hid (left_now HP2.out (HF.out.kept (Kept.of_below HW2.out (fun _ => False)) (fun _ _ _ e => e)) HW2.out ho3 hg3)
  have hk3 : Kept W w3 (fun k => k = bn) := Kept.of_grown hg3 (Kept.refl _ _) (fun k e => .inl (by cases e; rfl))
  have hcA := HP2.out.c1
  have hcB : W.cell? ⟨w.heap.size, 1, none⟩ = some (.int .u64 o.f1) := by rw [blk_cell HOP2.out]; rfl
  have hcC : W.cell? ⟨w.heap.size, 2, none⟩ = some (.int .u64 o.f2) := by rw [blk_cell HOP2.out]; rfl
  have hdA : w3.cell? ⟨gp, 1, none⟩ = some (.map (some bn)) := cell_kept hcA hk3 HM.out.gn
  have hdB := cell_kept hcB hk3 (show ¬ w.heap.size = bn by omega)
  have hdC := cell_kept hcC hk3 (show ¬ w.heap.size = bn by omega)
  have HFA3 := Lib.hid (blk_kept HFA2.out hk3 (show ¬ w.heap.size + 2 = bn by omega))
  have HRA3 := Lib.hid (blk_kept HRA2.out hk3 (show ¬ w.heap.size + 1 = bn by omega))
  clear hk3 ho3 hg3
  go_wp2_with fail
  go_region_held3 (fun w' => w'.cell? ⟨gp, 1, none⟩ = some (.map (some bn)) ∧ w'.cell? ⟨w.heap.size, 1, none⟩ = some (.int .u64 o.f1) ∧ w'.cell? ⟨w.heap.size, 2, none⟩ = some (.int .u64 o.f2))
    (first | go_keep | exact ⟨hcA, hcB, hcC⟩ | exact ⟨hdA, hdB, hdC⟩)
    (first | fail | fail)
  clear hcA hcB hcC hdA hdB hdC hrun3
  obtain ⟨l0, l1, l2, l3, l4, l5, l6⟩ := ans_cells HFA3.out
  go_wp2_with (first | ((with_reducible refine gate_store (t := 26) (p := 6) rfl ?_); refine wpList_store_row rfl 26 (.tmp 6) (.tmp 75) rfl (w.heap.size + 1) (ansC 0 fo fv false 0 (.slice none 0 0) 0) rfl rfl 26 _ HRA3.out (by kernel_rfl) rfl (ansC_one _ _ _ _ _ _ _ _ _) ?_))
  refine bodyPost_ret (res_ans rfl _ rfl (setRow_heap _ _ _ _ _ _ HRA3.out)) rfl ⟨.slice none 0 0, by rw [HFO.out, HFV.out]; rfl, Kd.R_nil _ _ _ _ _, HL3.out.row (by omega) HRA3.out hgl hnl hhl _⟩
end Go.Proofs.Ytngocadnbpdnoaa.Mo
namespace Go.Proofs.Ytngocadnbpdnoaa.Mo
open Go Go.Maps Go.RowKit Go.Proofs.Ytngocadnbpdnoaa.Srt Go.Proofs.Ytngocadnbpdnoaa.Q Go.Proofs.YtngocadnbpdnoaaW.PrintWords Go.Proofs.YtngocadnbpdnoaaW.PrintLast Go.Proofs.YtngocadnbpdnoaaW.PrintMore
set_option linter.unusedVariables false
set_option linter.unusedSimpArgs false
set_option maxRecDepth 100000 in
set_option maxHeartbeats 8000000 in
theorem do_coll (f : Nat → Option PL) (N gp bn bh : Nat) (multi : Int) (now : PL) (held : List (Int × PL)) (o : OpS) (A : Option Addr) (c : Nat) (hdl : Int) (w : World) (hM : PM w f N gp bn bh multi now held) (hF : Fro w f N) (hO : OpWf o) (hh : u64wf hdl) (hN : N ≤ 1099511627776) (hk : o.f0 = 10) :
    Calls Try.prog 15 #[.pointer (some ⟨gp, 0, none⟩), .agg (opC o A c), .int .u64 hdl] w (DoPost w f (N + 1) gp bn bh ⟨multi, now, held⟩ (errD 0)) := by
  have hgl := hM.gl
  have hnl := hM.now.lt
  have hhl := hM.held.1.lt
  have HM := Lib.hid hM
  have HF := Lib.hid hF
  have HO := Lib.hid hO
  have HU := Lib.hid hh
  have hb0 : Below w.heap.size w (doW w o A c).drew := below_drew (doW_below w o A c)
  have hP0 := hM.kept (Kept.of_below hb0 (fun _ => False)) (fun e => e) (fun e => e) (fun e => e)
  have HS : (fun w' : World => w'.cell? ⟨gp, 1, none⟩ = some (.map (some bn)) ∧ w'.cell? ⟨w.heap.size, 1, none⟩ = some (.int .u64 o.f1) ∧ (Instr.lookup 97 (.map (some bn)) (.int .u64 o.f1) true).run Try.prog w' = .ok (.tuple #[.int .u64 ((fnd now o.f1).getD 0), .bool (fnd now o.f1).isSome]) w') (doW w o A c).drew :=
    ⟨hP0.c1, by rw [blk_cell (w := (doW w o A c).drew) (doW_op w o A c)]; rfl, now_look hP0.now hO.key⟩
  obtain ⟨vh, hvh, hrunh⟩ := held_look (hM.held.kept (Kept.of_below (below_drew (below_alloc (below_drew (doW_below w o A c)) (.cells (ansC 0 (fnd now o.f1).isSome ((fnd now o.f1).getD 0) false 0 (.slice none 0 0) 0) 26))) (fun _ => False)) (fun e => e)) hO.han
  have hW2 : Below w.heap.size w ((doW w o A c).drew.alloc (.cells (ansC 0 (fnd now o.f1).isSome ((fnd now o.f1).getD 0) false 0 (.slice none 0 0) 0) 26)).drew := below_drew (below_alloc (below_drew (doW_below w o A c)) _)
  have hP2 := hM.kept (Kept.of_below hW2 (fun _ => False)) (fun e => e) (fun e => e) (fun e => e)
  have hs2 : (doW w o A c).drew.heap.size = w.heap.size + 2 := doW_size w o A c
  have hop2 : ((doW w o A c).drew.alloc (.cells (ansC 0 (fnd now o.f1).isSome ((fnd now o.f1).getD 0) false 0 (.slice none 0 0) 0) 26)).drew.heap[w.heap.size]? = some (.cells (opC o A c) 39 (0, 0)) := ((below_alloc (Below.refl _ (doW w o A c).drew) _).block _ (by rw [hs2]; omega)).trans (doW_op w o A c)
  have hra2 : ((doW w o A c).drew.alloc (.cells (ansC 0 (fnd now o.f1).isSome ((fnd now o.f1).getD 0) false 0 (.slice none 0 0) 0) 26)).drew.heap[w.heap.size + 1]? = some (.cells (ansC 0 false 0 false 0 (.slice none 0 0) 0) 26 (0, 0)) := ((below_alloc (Below.refl _ (doW w o A c).drew) _).block _ (by rw [hs2]; omega)).trans (doW_ans w o A c)
  have hfa2 : ((doW w o A c).drew.alloc (.cells (ansC 0 (fnd now o.f1).isSome ((fnd now o.f1).getD 0) false 0 (.slice none 0 0) 0) 26)).drew.heap[w.heap.size + 2]? = some (.cells (ansC 0 (fnd now o.f1).isSome ((fnd now o.f1).getD 0) false 0 (.slice none 0 0) 0) 26 (0, 0)) := by
    have := heap_alloc_new (doW w o A c).drew (.cells (ansC 0 (fnd now o.f1).isSome ((fnd now o.f1).getD 0) false 0 (.slice none 0 0) 0) 26)
    rw [hs2] at this
    exact this
  have HS2 : (fun w' : World => w'.cell? ⟨gp, 2, none⟩ = some (.map (some bh)) ∧ w'.cell? ⟨w.heap.size, 4, none⟩ = some (.int .u64 o.f4) ∧ (Instr.lookup 98 (.map (some bh)) (.int .u64 o.f4) true).run Try.prog w' = .ok (.tuple #[vh, .bool (fnd held o.f4).isSome]) w') ((doW w o A c).drew.alloc (.cells (ansC 0 (fnd now o.f1).isSome ((fnd now o.f1).getD 0) false 0 (.slice none 0 0) 0) 26)).drew :=
    ⟨hP2.c2, by rw [blk_cell hop2]; rfl, hrunh⟩
  have hkd : ((doW w o A c).drew.alloc (.cells (ansC 0 (fnd now o.f1).isSome ((fnd now o.f1).getD 0) false 0 (.slice none 0 0) 0) 26)).drew.cell? ⟨w.heap.size, 0, none⟩ = some (.int .u8 10) := by rw [blk_cell hop2, ← hk]; rfl
  have HVH := Lib.hid hvh
  have HW2 := Lib.hid hW2
  have HP2 := Lib.hid hP2
  have HOP2 := Lib.hid hop2
  have HRA2 := Lib.hid hra2
  have HFA2 := Lib.hid hfa2
  have hfnd0 : (fnd now o.f1).isSome = (fnd now o.f1).isSome := rfl
  obtain ⟨fo, hfo⟩ : ∃ b : Bool, b = (fnd now o.f1).isSome := ⟨_, rfl⟩
  obtain ⟨fv, hfv⟩ : ∃ v : Int, v = (fnd now o.f1).getD 0 := ⟨_, rfl⟩
  obtain ⟨hd, hhd⟩ : ∃ b : Bool, b = (fnd held o.f4).isSome := ⟨_, rfl⟩
  rw [← hfo, ← hfv] at HS HS2 HW2 HP2 HOP2 HRA2 HFA2 hkd
  rw [← hhd] at HS2
  have HFO := Lib.hid hfo
  have HFV := Lib.hid hfv
  have HHD := Lib.hid hhd
  clear hM hF hO hh hb0 hP0 hvh hrunh hW2 hP2 hs2 hop2 hra2 hfa2 hfnd0 hfo hfv hhd
  obtain ⟨W1, hW1⟩ : ∃ W1, W1 = doW w o A c := ⟨_, rfl⟩
  have HW1 := Lib.hid hW1
  rw [← hW1] at HS HS2 HW2 HP2 HOP2 HRA2 HFA2 hkd
  go_enter Try.func15, Try.ntmps15
  go_wp2_with fail
  change Code.wp _ _ _ _ (doW w o A c)
  rw [← hW1]
  clear hW1
  go_region_held3 (fun w' => w'.cell? ⟨gp, 1, none⟩ = some (.map (some bn)) ∧ w'.cell? ⟨w.heap.size, 1, none⟩ = some (.int .u64 o.f1) ∧ (Instr.lookup 97 (.map (some bn)) (.int .u64 o.f1) true).run Try.prog w' = .ok (.tuple #[.int .u64 fv, .bool fo]) w')
    (first | go_keep | exact HS)
    (first | fail | fail)
  clear HS
  have hs1 : W1.heap.size = w.heap.size + 2 := by rw [HW1.out]; exact doW_size w o A c
  go_wp2_with fail
  obtain ⟨W2, hW2⟩ : ∃ W2, W2 = W1.drew.alloc (Obj.cells (ansC 0 fo fv false 0 (Value.slice none 0 0) 0) 26) := ⟨_, rfl⟩
  change Code.wp _ _ _ _ (W1.drew.alloc (Obj.cells (ansC 0 fo fv false 0 (Value.slice none 0 0) 0) 26))
  rw [← hW2] at HS2 HW2 HP2 HOP2 HRA2 HFA2 hkd ⊢
  clear hW2
  go_region_held3 (fun w' => w'.cell? ⟨gp, 2, none⟩ = some (.map (some bh)) ∧ w'.cell? ⟨w.heap.size, 4, none⟩ = some (.int .u64 o.f4) ∧ (Instr.lookup 98 (.map (some bh)) (.int .u64 o.f4) true).run Try.prog w' = .ok (.tuple #[vh, .bool hd]) w')
    (first | go_keep | exact HS2)
    (first | fail | fail)
  clear HS2
  obtain ⟨W, hW⟩ : ∃ W, W = W2.drew := ⟨_, rfl⟩
  rw [← hW] at HW2 HP2 HOP2 HRA2 HFA2 hkd ⊢
  clear hW
  have HL3 := Lib.hid (left_same (K := fun k => k = bn ∨ k = bh) HM.out HF.out HW2.out (Nat.le_succ N))
  have HFA3 := HFA2
  have HRA3 := HRA2
  obtain ⟨l0, l1, l2, l3, l4, l5, l6⟩ := ans_cells HFA3.out
  go_wp2_with (first | ((with_reducible refine gate_store (t := 26) (p := 6) rfl ?_); refine wpList_store_row rfl 26 (.tmp 6) (.tmp 121) rfl (w.heap.size + 1) (ansC 0 false 0 false 0 (.slice none 0 0) 0) rfl rfl 26 _ HRA3.out (by kernel_rfl) rfl (ansC_one _ _ _ _ _ _ _ _ _) ?_))
  refine bodyPost_ret (res_ans rfl _ rfl (setRow_heap _ _ _ _ _ _ HRA3.out)) rfl ⟨.slice none 0 0, by rfl, Kd.R_nil _ _ _ _ _, HL3.out.row (by omega) HRA3.out hgl hnl hhl _⟩
end Go.Proofs.Ytngocadnbpdnoaa.Mo
namespace Go.Proofs.Ytngocadnbpdnoaa.Mo
open Go Go.Maps Go.RowKit Go.Proofs.Ytngocadnbpdnoaa.Srt Go.Proofs.Ytngocadnbpdnoaa.Q Go.Proofs.YtngocadnbpdnoaaW.PrintWords Go.Proofs.YtngocadnbpdnoaaW.PrintLast Go.Proofs.YtngocadnbpdnoaaW.PrintMore
set_option linter.unusedVariables false
set_option linter.unusedSimpArgs false
set_option maxRecDepth 100000 in
set_option maxHeartbeats 8000000 in
theorem do_relN (f : Nat → Option PL) (N gp bn bh : Nat) (multi : Int) (now : PL) (held : List (Int × PL)) (o : OpS) (A : Option Addr) (c : Nat) (hdl : Int) (w : World) (hM : PM w f N gp bn bh multi now held) (hF : Fro w f N) (hO : OpWf o) (hh : u64wf hdl) (hN : N ≤ 1099511627776) (hk : o.f0 = 6) (hx : fnd held o.f4 = none) :
    Calls Try.prog 15 #[.pointer (some ⟨gp, 0, none⟩), .agg (opC o A c), .int .u64 hdl] w (DoPost w f (N + 1) gp bn bh ⟨multi, now, held⟩ (errD 33)) := by
  have hgl := hM.gl
  have hnl := hM.now.lt
  have hhl := hM.held.1.lt
  have HM := Lib.hid hM
  have HF := Lib.hid hF
  have HO := Lib.hid hO
  have HU := Lib.hid hh
  have hb0 : Below w.heap.size w (doW w o A c).drew := below_drew (doW_below w o A c)
  have hP0 := hM.kept (Kept.of_below hb0 (fun _ => False)) (fun e => e) (fun e => e) (fun e => e)
  have HS : (fun w' : World => w'.cell? ⟨gp, 1, none⟩ = some (.map (some bn)) ∧ w'.cell? ⟨w.heap.size, 1, none⟩ = some (.int .u64 o.f1) ∧ (Instr.lookup 97 (.map (some bn)) (.int .u64 o.f1) true).run Try.prog w' = .ok (.tuple #[.int .u64 ((fnd now o.f1).getD 0), .bool (fnd now o.f1).isSome]) w') (doW w o A c).drew :=
    ⟨hP0.c1, by rw [blk_cell (w := (doW w o A c).drew) (doW_op w o A c)]; rfl, now_look hP0.now hO.key⟩
  obtain ⟨vh, hvh, hrunh⟩ := held_look (hM.held.kept (Kept.of_below (below_drew (below_alloc (below_drew (doW_below w o A c)) (.cells (ansC 0 (fnd now o.f1).isSome ((fnd now o.f1).getD 0) false 0 (.slice none 0 0) 0) 26))) (fun _ => False)) (fun e => e)) hO.han
  have hW2 : Below w.heap.size w ((doW w o A c).drew.alloc (.cells (ansC 0 (fnd now o.f1).isSome ((fnd now o.f1).getD 0) false 0 (.slice none 0 0) 0) 26)).drew := below_drew (below_alloc (below_drew (doW_below w o A c)) _)
  have hP2 := hM.kept (Kept.of_below hW2 (fun _ => False)) (fun e => e) (fun e => e) (fun e => e)
  have hs2 : (doW w o A c).drew.heap.size = w.heap.size + 2 := doW_size w o A c
  have hop2 : ((doW w o A c).drew.alloc (.cells (ansC 0 (fnd now o.f1).isSome ((fnd now o.f1).getD 0) false 0 (.slice none 0 0) 0) 26)).drew.heap[w.heap.size]? = some (.cells (opC o A c) 39 (0, 0)) := ((below_alloc (Below.refl _ (doW w o A c).drew) _).block _ (by rw [hs2]; omega)).trans (doW_op w o A c)
  have hra2 : ((doW w o A c).drew.alloc (.cells (ansC 0 (fnd now o.f1).isSome ((fnd now o.f1).getD 0) false 0 (.slice none 0 0) 0) 26)).drew.heap[w.heap.size + 1]? = some (.cells (ansC 0 false 0 false 0 (.slice none 0 0) 0) 26 (0, 0)) := ((below_alloc (Below.refl _ (doW w o A c).drew) _).block _ (by rw [hs2]; omega)).trans (doW_ans w o A c)
  have hfa2 : ((doW w o A c).drew.alloc (.cells (ansC 0 (fnd now o.f1).isSome ((fnd now o.f1).getD 0) false 0 (.slice none 0 0) 0) 26)).drew.heap[w.heap.size + 2]? = some (.cells (ansC 0 (fnd now o.f1).isSome ((fnd now o.f1).getD 0) false 0 (.slice none 0 0) 0) 26 (0, 0)) := by
    have := heap_alloc_new (doW w o A c).drew (.cells (ansC 0 (fnd now o.f1).isSome ((fnd now o.f1).getD 0) false 0 (.slice none 0 0) 0) 26)
    rw [hs2] at this
    exact this
  have HS2 : (fun w' : World => w'.cell? ⟨gp, 2, none⟩ = some (.map (some bh)) ∧ w'.cell? ⟨w.heap.size, 4, none⟩ = some (.int .u64 o.f4) ∧ (Instr.lookup 98 (.map (some bh)) (.int .u64 o.f4) true).run Try.prog w' = .ok (.tuple #[vh, .bool (fnd held o.f4).isSome]) w') ((doW w o A c).drew.alloc (.cells (ansC 0 (fnd now o.f1).isSome ((fnd now o.f1).getD 0) false 0 (.slice none 0 0) 0) 26)).drew :=
    ⟨hP2.c2, by rw [blk_cell hop2]; rfl, hrunh⟩
  have hkd : ((doW w o A c).drew.alloc (.cells (ansC 0 (fnd now o.f1).isSome ((fnd now o.f1).getD 0) false 0 (.slice none 0 0) 0) 26)).drew.cell? ⟨w.heap.size, 0, none⟩ = some (.int .u8 6) := by rw [blk_cell hop2, ← hk]; rfl
  have HVH := Lib.hid hvh
  have HW2 := Lib.hid hW2
  have HP2 := Lib.hid hP2
  have HOP2 := Lib.hid hop2
  have HRA2 := Lib.hid hra2
  have HFA2 := Lib.hid hfa2
  have hfnd0 : (fnd now o.f1).isSome = (fnd now o.f1).isSome := rfl
  obtain ⟨fo, hfo⟩ : ∃ b : Bool, b = (fnd now o.f1).isSome := ⟨_, rfl⟩
  obtain ⟨fv, hfv⟩ : ∃ v : Int, v = (fnd now o.f1).getD 0 := ⟨_, rfl⟩
  obtain ⟨hd, hhd⟩ : ∃ b : Bool, b = (fnd held o.f4).isSome := ⟨_, rfl⟩
  rw [← hfo, ← hfv] at HS HS2 HW2 HP2 HOP2 HRA2 HFA2 hkd
  rw [← hhd] at HS2
  have HFO := Lib.hid hfo
  have HFV := Lib.hid hfv
  have HHD := Lib.hid hhd
  clear hM hF hO hh hb0 hP0 hvh hrunh hW2 hP2 hs2 hop2 hra2 hfa2 hfnd0 hfo hfv hhd
  obtain ⟨W1, hW1⟩ : ∃ W1, W1 = doW w o A c := ⟨_, rfl⟩
  have HW1 := Lib.hid hW1
  rw [← hW1] at HS HS2 HW2 HP2 HOP2 HRA2 HFA2 hkd
  go_enter Try.func15, Try.ntmps15
  go_wp2_with fail
  change Code.wp _ _ _ _ (doW w o A c)
  rw [← hW1]
  clear hW1
  go_region_held3 (fun w' => w'.cell? ⟨gp, 1, none⟩ = some (.map (some bn)) ∧ w'.cell? ⟨w.heap.size, 1, none⟩ = some (.int .u64 o.f1) ∧ (Instr.lookup 97 (.map (some bn)) (.int .u64 o.f1) true).run Try.prog w' = .ok (.tuple #[.int .u64 fv, .bool fo]) w')
    (first | go_keep | exact HS)
    (first | fail | fail)
  clear HS
  have hs1 : W1.heap.size = w.heap.size + 2 := by rw [HW1.out]; exact doW_size w o A c
  go_wp2_with fail
  obtain ⟨W2, hW2⟩ : ∃ W2, W2 = W1.drew.alloc (Obj.cells (ansC 0 fo fv false 0 (Value.slice none 0 0) 0) 26) := ⟨_, rfl⟩
  change Code.wp _ _ _ _ (W1.drew.alloc (Obj.cells (ansC 0 fo fv false 0 (Value.slice none 0 0) 0) 26))
  rw [← hW2] at HS2 HW2 HP2 HOP2 HRA2 HFA2 hkd ⊢
  clear hW2
  go_region_held3 (fun w' => w'.cell? ⟨gp, 2, none⟩ = some (.map (some bh)) ∧ w'.cell? ⟨w.heap.size, 4, none⟩ = some (.int .u64 o.f4) ∧ (Instr.lookup 98 (.map (some bh)) (.int .u64 o.f4) true).run Try.prog w' = .ok (.tuple #[vh, .bool hd]) w')
    (first | go_keep | exact HS2)
    (first | fail | fail)
  clear HS2
  obtain ⟨W, hW⟩ : ∃ W, W = W2.drew := ⟨_, rfl⟩
  rw [← hW] at HW2 HP2 HOP2 HRA2 HFA2 hkd ⊢
  clear hW
  obtain rfl : hd = false := by rw [HHD.out, hx]; rfl
  have HL3 := Lib.hid (left_same (K := fun k => k = bn ∨ k = bh) HM.out HF.out HW2.out (Nat.le_succ N))
  have HFA3 := HFA2
  have HRA3 := HRA2
  obtain ⟨l0, l1, l2, l3, l4, l5, l6⟩ := ans_cells HFA3.out
  go_wp2_with (first | ((with_reducible refine gate_store (t := 26) (p := 6) rfl ?_); refine wpList_store_row rfl 26 (.tmp 6) (.tmp 98) rfl (w.heap.size + 1) (ansC 33 false 0 false 0 (.slice none 0 0) 0) rfl rfl 26 _ HRA3.out (by kernel_rfl) rfl (ansC_one _ _ _ _ _ _ _ _ _) ?_))
  refine bodyPost_ret (res_ans rfl _ rfl (setRow_heap _ _ _ _ _ _ HRA3.out)) rfl ⟨.slice none 0 0, by rfl, Kd.R_nil _ _ _ _ _, HL3.out.row (by omega) HRA3.out hgl hnl hhl _⟩
end Go.Proofs.Ytngocadnbpdnoaa.Mo
namespace Go.Proofs.Ytngocadnbpdnoaa.Mo
open Go Go.Maps Go.RowKit Go.Proofs.Ytngocadnbpdnoaa.Srt Go.Proofs.Ytngocadnbpdnoaa.Q Go.Proofs.YtngocadnbpdnoaaW.PrintWords Go.Proofs.YtngocadnbpdnoaaW.PrintLast Go.Proofs.YtngocadnbpdnoaaW.PrintMore
set_option linter.unusedVariables false
set_option linter.unusedSimpArgs false
set_option maxRecDepth 100000 in
set_option maxHeartbeats 8000000 in
theorem do_swapY (f : Nat → Option PL) (N gp bn bh : Nat) (multi : Int) (now : PL) (held : List (Int × PL)) (o : OpS) (A : Option Addr) (c : Nat) (hdl : Int) (w : World) (hM : PM w f N gp bn bh multi now held) (hF : Fro w f N) (hO : OpWf o) (hh : u64wf hdl) (hN : N ≤ 1099511627776) (hk : o.f0 = 4) (hx : fnd now o.f1 = some o.f3) :
    Calls Try.prog 15 #[.pointer (some ⟨gp, 0, none⟩), .agg (opC o A c), .int .u64 hdl] w (DoPost w f (N + 1) gp bn bh ⟨multi, put now o.f1 o.f2, held⟩ { foundD ⟨multi, now, held⟩ o with dn := true }) := by
  have hgl := hM.gl
  have hnl := hM.now.lt
  have hhl := hM.held.1.lt
  have HM := Lib.hid hM
  have HF := Lib.hid hF
  have HO := Lib.hid hO
  have HU := Lib.hid hh
  have hb0 : Below w.heap.size w (doW w o A c).drew := below_drew (doW_below w o A c)
  have hP0 := hM.kept (Kept.of_below hb0 (fun _ => False)) (fun e => e) (fun e => e) (fun e => e)
  have HS : (fun w' : World => w'.cell? ⟨gp, 1, none⟩ = some (.map (some bn)) ∧ w'.cell? ⟨w.heap.size, 1, none⟩ = some (.int .u64 o.f1) ∧ (Instr.lookup 97 (.map (some bn)) (.int .u64 o.f1) true).run Try.prog w' = .ok (.tuple #[.int .u64 ((fnd now o.f1).getD 0), .bool (fnd now o.f1).isSome]) w') (doW w o A c).drew :=
    ⟨hP0.c1, by rw [blk_cell (w := (doW w o A c).drew) (doW_op w o A c)]; rfl, now_look hP0.now hO.key⟩
  obtain ⟨vh, hvh, hrunh⟩ := held_look (hM.held.kept (Kept.of_below (below_drew (below_alloc (below_drew (doW_below w o A c)) (.cells (ansC 0 (fnd now o.f1).isSome ((fnd now o.f1).getD 0) false 0 (.slice none 0 0) 0) 26))) (fun _ => False)) (fun e => e)) hO.han
  have hW2 : Below w.heap.size w ((doW w o A c).drew.alloc (.cells (ansC 0 (fnd now o.f1).isSome ((fnd now o.f1).getD 0) false 0 (.slice none 0 0) 0) 26)).drew := below_drew (below_alloc (below_drew (doW_below w o A c)) _)
  have hP2 := hM.kept (Kept.of_below hW2 (fun _ => False)) (fun e => e) (fun e => e) (fun e => e)
  have hs2 : (doW w o A c).drew.heap.size = w.heap.size + 2 := doW_size w o A c
  have hop2 : ((doW w o A c).drew.alloc (.cells (ansC 0 (fnd now o.f1).isSome ((fnd now o.f1).getD 0) false 0 (.slice none 0 0) 0) 26)).drew.heap[w.heap.size]? = some (.cells (opC o A c) 39 (0, 0)) := ((below_alloc (Below.refl _ (doW w o A c).drew) _).block _ (by rw [hs2]; omega)).trans (doW_op w o A c)
  have hra2 : ((doW w o A c).drew.alloc (.cells (ansC 0 (fnd now o.f1).isSome ((fnd now o.f1).getD 0) false 0 (.slice none 0 0) 0) 26)).drew.heap[w.heap.size + 1]? = some (.cells (ansC 0 false 0 false 0 (.slice none 0 0) 0) 26 (0, 0)) := ((below_alloc (Below.refl _ (doW w o A c).drew) _).block _ (by rw [hs2]; omega)).trans (doW_ans w o A c)
  have hfa2 : ((doW w o A c).drew.alloc (.cells (ansC 0 (fnd now o.f1).isSome ((fnd now o.f1).getD 0) false 0 (.slice none 0 0) 0) 26)).drew.heap[w.heap.size + 2]? = some (.cells (ansC 0 (fnd now o.f1).isSome ((fnd now o.f1).getD 0) false 0 (.slice none 0 0) 0) 26 (0, 0)) := by
    have := heap_alloc_new (doW w o A c).drew (.cells (ansC 0 (fnd now o.f1).isSome ((fnd now o.f1).getD 0) false 0 (.slice none 0 0) 0) 26)
    rw [hs2] at this
    exact this
  have HS2 : (fun w' : World => w'.cell? ⟨gp, 2, none⟩ = some (.map (some bh)) ∧ w'.cell? ⟨w.heap.size, 4, none⟩ = some (.int .u64 o.f4) ∧ (Instr.lookup 98 (.map (some bh)) (.int .u64 o.f4) true).run Try.prog w' = .ok (.tuple #[vh, .bool (fnd held o.f4).isSome]) w') ((doW w o A c).drew.alloc (.cells (ansC 0 (fnd now o.f1).isSome ((fnd now o.f1).getD 0) false 0 (.slice none 0 0) 0) 26)).drew :=
    ⟨hP2.c2, by rw [blk_cell hop2]; rfl, hrunh⟩
  have hkd : ((doW w o A c).drew.alloc (.cells (ansC 0 (fnd now o.f1).isSome ((fnd now o.f1).getD 0) false 0 (.slice none 0 0) 0) 26)).drew.cell? ⟨w.heap.size, 0, none⟩ = some (.int .u8 4) := by rw [blk_cell hop2, ← hk]; rfl
  have HVH := Lib.hid hvh
  have HW2 := Lib.hid hW2
  have HP2 := Lib.hid hP2
  have HOP2 := Lib.hid hop2
  have HRA2 := Lib.hid hra2
  have HFA2 := Lib.hid hfa2
  have hfnd0 : (fnd now o.f1).isSome = (fnd now o.f1).isSome := rfl
  obtain ⟨fo, hfo⟩ : ∃ b : Bool, b = (fnd now o.f1).isSome := ⟨_, rfl⟩
  obtain ⟨fv, hfv⟩ : ∃ v : Int, v = (fnd now o.f1).getD 0 := ⟨_, rfl⟩
  obtain ⟨hd, hhd⟩ : ∃ b : Bool, b = (fnd held o.f4).isSome := ⟨_, rfl⟩
  rw [← hfo, ← hfv] at HS HS2 HW2 HP2 HOP2 HRA2 HFA2 hkd
  rw [← hhd] at HS2
  have HFO := Lib.hid hfo
  have HFV := Lib.hid hfv
  have HHD := Lib.hid hhd
  clear hM hF hO hh hb0 hP0 hvh hrunh hW2 hP2 hs2 hop2 hra2 hfa2 hfnd0 hfo hfv hhd
  obtain ⟨W1, hW1⟩ : ∃ W1, W1 = doW w o A c := ⟨_, rfl⟩
  have HW1 := Lib.hid hW1
  rw [← hW1] at HS HS2 HW2 HP2 HOP2 HRA2 HFA2 hkd
  go_enter Try.func15, Try.ntmps15
  go_wp2_with fail
  change Code.wp _ _ _ _ (doW w o A c)
  rw [← hW1]
  clear hW1
  go_region_held3 (fun w' => w'.cell? ⟨gp, 1, none⟩ = some (.map (some bn)) ∧ w'.cell? ⟨w.heap.size, 1, none⟩ = some (.int .u64 o.f1) ∧ (Instr.lookup 97 (.map (some bn)) (.int .u64 o.f1) true).run Try.prog w' = .ok (.tuple #[.int .u64 fv, .bool fo]) w')
    (first | go_keep | exact HS)
    (first | fail | fail)
  clear HS
  have hs1 : W1.heap.size = w.heap.size + 2 := by rw [HW1.out]; exact doW_size w o A c
  go_wp2_with fail
  obtain ⟨W2, hW2⟩ : ∃ W2, W2 = W1.drew.alloc (Obj.cells (ansC 0 fo fv false 0 (Value.slice none 0 0) 0) 26) := ⟨_, rfl⟩
  change Code.wp _ _ _ _ (W1.drew.alloc (Obj.cells (ansC 0 fo fv false 0 (Value.slice none 0 0) 0) 26))
  rw [← hW2] at HS2 HW2 HP2 HOP2 HRA2 HFA2 hkd ⊢
  clear hW2
  go_region_held3 (fun w' => w'.cell? ⟨gp, 2, none⟩ = some (.map (some bh)) ∧ w'.cell? ⟨w.heap.size, 4, none⟩ = some (.int .u64 o.f4) ∧ (Instr.lookup 98 (.map (some bh)) (.int .u64 o.f4) true).run Try.prog w' = .ok (.tuple #[vh, .bool hd]) w')
    (first | go_keep | exact HS2)
    (first | fail | fail)
  clear HS2
  obtain ⟨W, hW⟩ : ∃ W, W = W2.drew := ⟨_, rfl⟩
  rw [← hW] at HW2 HP2 HOP2 HRA2 HFA2 hkd ⊢
  clear hW
  obtain rfl : fo = true := by rw [HFO.out, hx]; rfl
  obtain rfl : fv = o.f3 := by rw [HFV.out, hx]; rfl
  have hcD : W.cell? ⟨w.heap.size, 3, none⟩ = some (.int .u64 o.f3) := by rw [blk_cell HOP2.out]; rfl
  obtain ⟨w3, hrun3, ho3, hg3⟩ := now_put (w := W.drew) HP2.out.now HO.out.key HO.out.val (by unfold maxLen; omega)
  replace hg3 := grown_undrew hg3
  have HL3 := Lib.hid (left_now HP2.out (HF.out.kept (Kept.of_below HW2.out (fun _ => False)) (fun _ _ _ e => e)) HW2.out ho3 hg3)
  have hk3 : Kept W w3 (fun k => k = bn) := Kept.of_grown hg3 (Kept.refl _ _) (fun k e => .inl (by cases e; rfl))
  have hcA := HP2.out.c1
  have hcB : W.cell? ⟨w.heap.size, 1, none⟩ = some (.int .u64 o.f1) := by rw [blk_cell HOP2.out]; rfl
  have hcC : W.cell? ⟨w.heap.size, 2, none⟩ = some (.int .u64 o.f2) := by rw [blk_cell HOP2.out]; rfl
  have hdA : w3.cell? ⟨gp, 1, none⟩ = some (.map (some bn)) := cell_kept hcA hk3 HM.out.gn
  have hdB := cell_kept hcB hk3 (show ¬ w.heap.size = bn by omega)
  have hdC := cell_kept hcC hk3 (show ¬ w.heap.size = bn by omega)
  have HFA3 := Lib.hid (blk_kept HFA2.out hk3 (show ¬ w.heap.size + 2 = bn by omega))
  have HRA3 := Lib.hid (blk_kept HRA2.out hk3 (show ¬ w.heap.size + 1 = bn by omega))
  clear hk3 ho3 hg3
  go_wp2_with fail
  go_region_held3 (fun w' => w'.cell? ⟨gp, 1, none⟩ = some (.map (some bn)) ∧ w'.cell? ⟨w.heap.size, 1, none⟩ = some (.int .u64 o.f1) ∧ w'.cell? ⟨w.heap.size, 2, none⟩ = some (.int .u64 o.f2))
    (first | go_keep | exact ⟨hcA, hcB, hcC⟩ | exact ⟨hdA, hdB, hdC⟩)
    (first | fail | fail)
  clear hcA hcB hcC hdA hdB hdC hrun3 hcD
  have hsc : w3.setCell ⟨w.heap.size + 2, 3, none⟩ (.bool true) = w3.setRow (w.heap.size + 2) (ansC 0 true o.f3 true 0 (.slice none 0 0) 0) := setCell_eq_setRow w3 (w.heap.size + 2) 3 _ _ _ (.bool true) HFA3.out
  have HFA4 := Lib.hid (setRow_heap w3 (w.heap.size + 2) _ (ansC 0 true o.f3 true 0 (.slice none 0 0) 0) _ _ HFA3.out)
  have HRA4 := Lib.hid ((setRow_other w3 (w.heap.size + 2) (w.heap.size + 1) (ansC 0 true o.f3 true 0 (.slice none 0 0) 0) (by omega)).trans HRA3.out)
  have HL4 := Lib.hid (HL3.out.row (g := w.heap.size + 2) (by omega) HFA3.out hgl hnl hhl (ansC 0 true o.f3 true 0 (.slice none 0 0) 0))
  have hd3 : w3.cell? ⟨w.heap.size + 2, 3, none⟩ = some (.bool false) := by rw [blk_cell HFA3.out]; rfl
  have hf3 : w3.frozen? ⟨w.heap.size + 2, 3, none⟩ = false := by simp [World.frozen?, HFA3.out]
  clear HFA3 HRA3 HL3
  have HFA3 := HFA4
  have HRA3 := HRA4
  have HL3 := HL4
  clear HFA4 HRA4 HL4
  obtain ⟨w4, hw4⟩ : ∃ w4, w4 = w3.setRow (w.heap.size + 2) (ansC 0 true o.f3 true 0 (.slice none 0 0) 0) := ⟨_, rfl⟩
  rw [← hw4] at hsc HFA3 HRA3 HL3
  clear hw4
  obtain ⟨l0, l1, l2, l3, l4, l5, l6⟩ := ans_cells HFA3.out
  go_wp2_with (first | ((with_reducible refine gate_store (t := 26) (p := 6) rfl ?_); refine wpList_store_row rfl 26 (.tmp 6) (.tmp 92) rfl (w.heap.size + 1) (ansC 0 true o.f3 true 0 (.slice none 0 0) 0) rfl rfl 26 _ HRA3.out (by kernel_rfl) rfl (ansC_one _ _ _ _ _ _ _ _ _) ?_))
  refine bodyPost_ret (res_ans rfl _ rfl (setRow_heap _ _ _ _ _ _ HRA3.out)) rfl ⟨.slice none 0 0, by (simp only [foundD, hx]; rfl), Kd.R_nil _ _ _ _ _, HL3.out.row (by omega) HRA3.out hgl hnl hhl _⟩
end Go.Proofs.Ytngocadnbpdnoaa.Mo
namespace Go.Proofs.Ytngocadnbpdnoaa.Mo
open Go Go.Maps Go.RowKit Go.Proofs.Ytngocadnbpdnoaa.Srt Go.Proofs.Ytngocadnbpdnoaa.Q Go.Proofs.YtngocadnbpdnoaaW.PrintWords Go.Proofs.YtngocadnbpdnoaaW.PrintLast Go.Proofs.YtngocadnbpdnoaaW.PrintMore
set_option linter.unusedVariables false
set_option linter.unusedSimpArgs false
set_option maxRecDepth 100000 in
set_option maxHeartbeats 8000000 in
theorem do_swapN (f : Nat → Option PL) (N gp bn bh : Nat) (multi : Int) (now : PL) (held : List (Int × PL)) (o : OpS) (A : Option Addr) (c : Nat) (hdl : Int) (w : World) (hM : PM w f N gp bn bh multi now held) (hF : Fro w f N) (hO : OpWf o) (hh : u64wf hdl) (hN : N ≤ 1099511627776) (hk : o.f0 = 4) (hx : ¬ fnd now o.f1 = some o.f3) :
    Calls Try.prog 15 #[.pointer (some ⟨gp, 0, none⟩), .agg (opC o A c), .int .u64 hdl] w (DoPost w f (N + 1) gp bn bh ⟨multi, now, held⟩ (foundD ⟨multi, now, held⟩ o)) := by
  have hgl := hM.gl
  have hnl := hM.now.lt
  have hhl := hM.held.1.lt
  have HM := Lib.hid hM
  have HF := Lib.hid hF
  have HO := Lib.hid hO
  have HU := Lib.hid hh
  have hb0 : Below w.heap.size w (doW w o A c).drew := below_drew (doW_below w o A c)
  have hP0 := hM.kept (Kept.of_below hb0 (fun _ => False)) (fun e => e) (fun e => e) (fun e => e)
  have HS : (fun w' : World => w'.cell? ⟨gp, 1, none⟩ = some (.map (some bn)) ∧ w'.cell? ⟨w.heap.size, 1, none⟩ = some (.int .u64 o.f1) ∧ (Instr.lookup 97 (.map (some bn)) (.int .u64 o.f1) true).run Try.prog w' = .ok (.tuple #[.int .u64 ((fnd now o.f1).getD 0), .bool (fnd now o.f1).isSome]) w') (doW w o A c).drew :=
    ⟨hP0.c1, by rw [blk_cell (w := (doW w o A c).drew) (doW_op w o A c)]; rfl, now_look hP0.now hO.key⟩
  obtain ⟨vh, hvh, hrunh⟩ := held_look (hM.held.kept (Kept.of_below (below_drew (below_alloc (below_drew (doW_below w o A c)) (.cells (ansC 0 (fnd now o.f1).isSome ((fnd now o.f1).getD 0) false 0 (.slice none 0 0) 0) 26))) (fun _ => False)) (fun e => e)) hO.han
  have hW2 : Below w.heap.size w ((doW w o A c).drew.alloc (.cells (ansC 0 (fnd now o.f1).isSome ((fnd now o.f1).getD 0) false 0 (.slice none 0 0) 0) 26)).drew := below_drew (below_alloc (below_drew (doW_below w o A c)) _)
  have hP2 := hM.kept (Kept.of_below hW2 (fun _ => False)) (fun e => e) (fun e => e) (fun e => e)
  have hs2 : (doW w o A c).drew.heap.size = w.heap.size + 2 := doW_size w o A c
  have hop2 : ((doW w o A c).drew.alloc (.cells (ansC 0 (fnd now o.f1).isSome ((fnd now o.f1).getD 0) false 0 (.slice none 0 0) 0) 26)).drew.heap[w.heap.size]? = some (.cells (opC o A c) 39 (0, 0)) := ((below_alloc (Below.refl _ (doW w o A c).drew) _).block _ (by rw [hs2]; omega)).trans (doW_op w o A c)
  have hra2 : ((doW w o A c).drew.alloc (.cells (ansC 0 (fnd now o.f1).isSome ((fnd now o.f1).getD 0) false 0 (.slice none 0 0) 0) 26)).drew.heap[w.heap.size + 1]? = some (.cells (ansC 0 false 0 false 0 (.slice none 0 0) 0) 26 (0, 0)) := ((below_alloc (Below.refl _ (doW w o A c).drew) _).block _ (by rw [hs2]; omega)).trans (doW_ans w o A c)
  have hfa2 : ((doW w o A c).drew.alloc (.cells (ansC 0 (fnd now o.f1).isSome ((fnd now o.f1).getD 0) false 0 (.slice none 0 0) 0) 26)).drew.heap[w.heap.size + 2]? = some (.cells (ansC 0 (fnd now o.f1).isSome ((fnd now o.f1).getD 0) false 0 (.slice none 0 0) 0) 26 (0, 0)) := by
    have := heap_alloc_new (doW w o A c).drew (.cells (ansC 0 (fnd now o.f1).isSome ((fnd now o.f1).getD 0) false 0 (.slice none 0 0) 0) 26)
    rw [hs2] at this
    exact this
  have HS2 : (fun w' : World => w'.cell? ⟨gp, 2, none⟩ = some (.map (some bh)) ∧ w'.cell? ⟨w.heap.size, 4, none⟩ = some (.int .u64 o.f4) ∧ (Instr.lookup 98 (.map (some bh)) (.int .u64 o.f4) true).run Try.prog w' = .ok (.tuple #[vh, .bool (fnd held o.f4).isSome]) w') ((doW w o A c).drew.alloc (.cells (ansC 0 (fnd now o.f1).isSome ((fnd now o.f1).getD 0) false 0 (.slice none 0 0) 0) 26)).drew :=
    ⟨hP2.c2, by rw [blk_cell hop2]; rfl, hrunh⟩
  have hkd : ((doW w o A c).drew.alloc (.cells (ansC 0 (fnd now o.f1).isSome ((fnd now o.f1).getD 0) false 0 (.slice none 0 0) 0) 26)).drew.cell? ⟨w.heap.size, 0, none⟩ = some (.int .u8 4) := by rw [blk_cell hop2, ← hk]; rfl
  have HVH := Lib.hid hvh
  have HW2 := Lib.hid hW2
  have HP2 := Lib.hid hP2
  have HOP2 := Lib.hid hop2
  have HRA2 := Lib.hid hra2
  have HFA2 := Lib.hid hfa2
  have hfnd0 : (fnd now o.f1).isSome = (fnd now o.f1).isSome := rfl
  obtain ⟨fo, hfo⟩ : ∃ b : Bool, b = (fnd now o.f1).isSome := ⟨_, rfl⟩
  obtain ⟨fv, hfv⟩ : ∃ v : Int, v = (fnd now o.f1).getD 0 := ⟨_, rfl⟩
  obtain ⟨hd, hhd⟩ : ∃ b : Bool, b = (fnd held o.f4).isSome := ⟨_, rfl⟩
  rw [← hfo, ← hfv] at HS HS2 HW2 HP2 HOP2 HRA2 HFA2 hkd
  rw [← hhd] at HS2
  have HFO := Lib.hid hfo
  have HFV := Lib.hid hfv
  have HHD := Lib.hid hhd
  clear hM hF hO hh hb0 hP0 hvh hrunh hW2 hP2 hs2 hop2 hra2 hfa2 hfnd0 hfo hfv hhd
  obtain ⟨W1, hW1⟩ : ∃ W1, W1 = doW w o A c := ⟨_, rfl⟩
  have HW1 := Lib.hid hW1
  rw [← hW1] at HS HS2 HW2 HP2 HOP2 HRA2 HFA2 hkd
  go_enter Try.func15, Try.ntmps15
  go_wp2_with fail
  change Code.wp _ _ _ _ (doW w o A c)
  rw [← hW1]
  clear hW1
  go_region_held3 (fun w' => w'.cell? ⟨gp, 1, none⟩ = some (.map (some bn)) ∧ w'.cell? ⟨w.heap.size, 1, none⟩ = some (.int .u64 o.f1) ∧ (Instr.lookup 97 (.map (some bn)) (.int .u64 o.f1) true).run Try.prog w' = .ok (.tuple #[.int .u64 fv, .bool fo]) w')
    (first | go_keep | exact HS)
    (first | fail | fail)
  clear HS
  have hs1 : W1.heap.size = w.heap.size + 2 := by rw [HW1.out]; exact doW_size w o A c
  go_wp2_with fail
  obtain ⟨W2, hW2⟩ : ∃ W2, W2 = W1.drew.alloc (Obj.cells (ansC 0 fo fv false 0 (Value.slice none 0 0) 0) 26) := ⟨_, rfl⟩
  change Code.wp _ _ _ _ (W1.drew.alloc (Obj.cells (ansC 0 fo fv false 0 (Value.slice none 0 0) 0) 26))
  rw [← hW2] at HS2 HW2 HP2 HOP2 HRA2 HFA2 hkd ⊢
  clear hW2
  go_region_held3 (fun w' => w'.cell? ⟨gp, 2, none⟩ = some (.map (some bh)) ∧ w'.cell? ⟨w.heap.size, 4, none⟩ = some (.int .u64 o.f4) ∧ (Instr.lookup 98 (.map (some bh)) (.int .u64 o.f4) true).run Try.prog w' = .ok (.tuple #[vh, .bool hd]) w')
    (first | go_keep | exact HS2)
    (first | fail | fail)
  clear HS2
  obtain ⟨W, hW⟩ : ∃ W, W = W2.drew := ⟨_, rfl⟩
  rw [← hW] at HW2 HP2 HOP2 HRA2 HFA2 hkd ⊢
  clear hW
  by_cases hfo : fo = true
  · subst hfo
    have hne : (fv == o.f3) = false := by
      have h1 := HFO.out
      have h2 := HFV.out
      cases hq : fnd now o.f1 with
      | none => rw [hq] at h1; cases h1
      | some v0 =>
        rw [hq] at h2
        simp only [Option.getD_some] at h2
        rw [h2]
        simp only [beq_eq_false_iff_ne, ne_eq]
        intro e
        exact hx (by rw [hq, e])
    have hcD : W.cell? ⟨w.heap.size, 3, none⟩ = some (.int .u64 o.f3) := by rw [blk_cell HOP2.out]; rfl
    have HL3 := Lib.hid (left_same (K := fun k => k = bn ∨ k = bh) HM.out HF.out HW2.out (Nat.le_succ N))
    have HFA3 := HFA2
    have HRA3 := HRA2
    obtain ⟨l0, l1, l2, l3, l4, l5, l6⟩ := ans_cells HFA3.out
    go_wp2_with (first | ((with_reducible refine gate_store (t := 26) (p := 6) rfl ?_); refine wpList_store_row rfl 26 (.tmp 6) (.tmp 92) rfl (w.heap.size + 1) (ansC 0 true fv false 0 (.slice none 0 0) 0) rfl rfl 26 _ HRA3.out (by kernel_rfl) rfl (ansC_one _ _ _ _ _ _ _ _ _) ?_))
    refine bodyPost_ret (res_ans rfl _ rfl (setRow_heap _ _ _ _ _ _ HRA3.out)) rfl ⟨.slice none 0 0, by (simp only [foundD]; rw [← HFO.out, ← HFV.out]), Kd.R_nil _ _ _ _ _, HL3.out.row (by omega) HRA3.out hgl hnl hhl _⟩
  · obtain rfl : fo = false := by simpa using hfo
    have HL3 := Lib.hid (left_same (K := fun k => k = bn ∨ k = bh) HM.out HF.out HW2.out (Nat.le_succ N))
    have HFA3 := HFA2
    have HRA3 := HRA2
    obtain ⟨l0, l1, l2, l3, l4, l5, l6⟩ := ans_cells HFA3.out
    go_wp2_with (first | ((with_reducible refine gate_store (t := 26) (p := 6) rfl ?_); refine wpList_store_row rfl 26 (.tmp 6) (.tmp 92) rfl (w.heap.size + 1) (ansC 0 false fv false 0 (.slice none 0 0) 0) rfl rfl 26 _ HRA3.out (by kernel_rfl) rfl (ansC_one _ _ _ _ _ _ _ _ _) ?_))
    refine bodyPost_ret (res_ans rfl _ rfl (setRow_heap _ _ _ _ _ _ HRA3.out)) rfl ⟨.slice none 0 0, by (simp only [foundD]; rw [← HFO.out, ← HFV.out]), Kd.R_nil _ _ _ _ _, HL3.out.row (by omega) HRA3.out hgl hnl hhl _⟩
end Go.Proofs.Ytngocadnbpdnoaa.Mo
namespace Go.Proofs.Ytngocadnbpdnoaa.Mo
open Go Go.Maps Go.RowKit Go.Proofs.Ytngocadnbpdnoaa.Srt Go.Proofs.Ytngocadnbpdnoaa.Q Go.Proofs.YtngocadnbpdnoaaW.PrintWords Go.Proofs.YtngocadnbpdnoaaW.PrintLast Go.Proofs.YtngocadnbpdnoaaW.PrintMore
set_option linter.unusedVariables false
set_option linter.unusedSimpArgs false
set_option maxRecDepth 100000 in
set_option maxHeartbeats 8000000 in
theorem do_relY (f : Nat → Option PL) (N gp bn bh : Nat) (multi : Int) (now : PL) (held : List (Int × PL)) (o : OpS) (A : Option Addr) (c : Nat) (hdl : Int) (w : World) (hM : PM w f N gp bn bh multi now held) (hF : Fro w f N) (hO : OpWf o) (hh : u64wf hdl) (hN : N ≤ 1099511627776) (hk : o.f0 = 6) (hx : (fnd held o.f4).isSome = true) :
    Calls Try.prog 15 #[.pointer (some ⟨gp, 0, none⟩), .agg (opC o A c), .int .u64 hdl] w (DoPost w f (N + 1) gp bn bh ⟨multi, now, del held o.f4⟩ (errD 0)) := by
  have hgl := hM.gl
  have hnl := hM.now.lt
  have hhl := hM.held.1.lt
  have HM := Lib.hid hM
  have HF := Lib.hid hF
  have HO := Lib.hid hO
  have HU := Lib.hid hh
  have hb0 : Below w.heap.size w (doW w o A c).drew := below_drew (doW_below w o A c)
  have hP0 := hM.kept (Kept.of_below hb0 (fun _ => False)) (fun e => e) (fun e => e) (fun e => e)
  have HS : (fun w' : World => w'.cell? ⟨gp, 1, none⟩ = some (.map (some bn)) ∧ w'.cell? ⟨w.heap.size, 1, none⟩ = some (.int .u64 o.f1) ∧ (Instr.lookup 97 (.map (some bn)) (.int .u64 o.f1) true).run Try.prog w' = .ok (.tuple #[.int .u64 ((fnd now o.f1).getD 0), .bool (fnd now o.f1).isSome]) w') (doW w o A c).drew :=
    ⟨hP0.c1, by rw [blk_cell (w := (doW w o A c).drew) (doW_op w o A c)]; rfl, now_look hP0.now hO.key⟩
  obtain ⟨vh, hvh, hrunh⟩ := held_look (hM.held.kept (Kept.of_below (below_drew (below_alloc (below_drew (doW_below w o A c)) (.cells (ansC 0 (fnd now o.f1).isSome ((fnd now o.f1).getD 0) false 0 (.slice none 0 0) 0) 26))) (fun _ => False)) (fun e => e)) hO.han
  have hW2 : Below w.heap.size w ((doW w o A c).drew.alloc (.cells (ansC 0 (fnd now o.f1).isSome ((fnd now o.f1).getD 0) false 0 (.slice none 0 0) 0) 26)).drew := below_drew (below_alloc (below_drew (doW_below w o A c)) _)
  have hP2 := hM.kept (Kept.of_below hW2 (fun _ => False)) (fun e => e) (fun e => e) (fun e => e)
  have hs2 : (doW w o A c).drew.heap.size = w.heap.size + 2 := doW_size w o A c
  have hop2 : ((doW w o A c).drew.alloc (.cells (ansC 0 (fnd now o.f1).isSome ((fnd now o.f1).getD 0) false 0 (.slice none 0 0) 0) 26)).drew.heap[w.heap.size]? = some (.cells (opC o A c) 39 (0, 0)) := ((below_alloc (Below.refl _ (doW w o A c).drew) _).block _ (by rw [hs2]; omega)).trans (doW_op w o A c)
  have hra2 : ((doW w o A c).drew.alloc (.cells (ansC 0 (fnd now o.f1).isSome ((fnd now o.f1).getD 0) false 0 (.slice none 0 0) 0) 26)).drew.heap[w.heap.size + 1]? = some (.cells (ansC 0 false 0 false 0 (.slice none 0 0) 0) 26 (0, 0)) := ((below_alloc (Below.refl _ (doW w o A c).drew) _).block _ (by rw [hs2]; omega)).trans (doW_ans w o A c)
  have hfa2 : ((doW w o A c).drew.alloc (.cells (ansC 0 (fnd now o.f1).isSome ((fnd now o.f1).getD 0) false 0 (.slice none 0 0) 0) 26)).drew.heap[w.heap.size + 2]? = some (.cells (ansC 0 (fnd now o.f1).isSome ((fnd now o.f1).getD 0) false 0 (.slice none 0 0) 0) 26 (0, 0)) := by
    have := heap_alloc_new (doW w o A c).drew (.cells (ansC 0 (fnd now o.f1).isSome ((fnd now o.f1).getD 0) false 0 (.slice none 0 0) 0) 26)
    rw [hs2] at this
    exact this
  have HS2 : (fun w' : World => w'.cell? ⟨gp, 2, none⟩ = some (.map (some bh)) ∧ w'.cell? ⟨w.heap.size, 4, none⟩ = some (.int .u64 o.f4) ∧ (Instr.lookup 98 (.map (some bh)) (.int .u64 o.f4) true).run Try.prog w' = .ok (.tuple #[vh, .bool (fnd held o.f4).isSome]) w') ((doW w o A c).drew.alloc (.cells (ansC 0 (fnd now o.f1).isSome ((fnd now o.f1).getD 0) false 0 (.slice none 0 0) 0) 26)).drew :=
    ⟨hP2.c2, by rw [blk_cell hop2]; rfl, hrunh⟩
  have hkd : ((doW w o A c).drew.alloc (.cells (ansC 0 (fnd now o.f1).isSome ((fnd now o.f1).getD 0) false 0 (.slice none 0 0) 0) 26)).drew.cell? ⟨w.heap.size, 0, none⟩ = some (.int .u8 6) := by rw [blk_cell hop2, ← hk]; rfl
  have HVH := Lib.hid hvh
  have HW2 := Lib.hid hW2
  have HP2 := Lib.hid hP2
  have HOP2 := Lib.hid hop2
  have HRA2 := Lib.hid hra2
  have HFA2 := Lib.hid hfa2
  have hfnd0 : (fnd now o.f1).isSome = (fnd now o.f1).isSome := rfl
  obtain ⟨fo, hfo⟩ : ∃ b : Bool, b = (fnd now o.f1).isSome := ⟨_, rfl⟩
  obtain ⟨fv, hfv⟩ : ∃ v : Int, v = (fnd now o.f1).getD 0 := ⟨_, rfl⟩
  obtain ⟨hd, hhd⟩ : ∃ b : Bool, b = (fnd held o.f4).isSome := ⟨_, rfl⟩
  rw [← hfo, ← hfv] at HS HS2 HW2 HP2 HOP2 HRA2 HFA2 hkd
  rw [← hhd] at HS2
  have HFO := Lib.hid hfo
  have HFV := Lib.hid hfv
  have HHD := Lib.hid hhd
  clear hM hF hO hh hb0 hP0 hvh hrunh hW2 hP2 hs2 hop2 hra2 hfa2 hfnd0 hfo hfv hhd
  obtain ⟨W1, hW1⟩ : ∃ W1, W1 = doW w o A c := ⟨_, rfl⟩
  have HW1 := Lib.hid hW1
  rw [← hW1] at HS HS2 HW2 HP2 HOP2 HRA2 HFA2 hkd
  go_enter Try.func15, Try.ntmps15
  go_wp2_with fail
  change Code.wp _ _ _ _ (doW w o A c)
  rw [← hW1]
  clear hW1
  go_region_held3 (fun w' => w'.cell? ⟨gp, 1, none⟩ = some (.map (some bn)) ∧ w'.cell? ⟨w.heap.size, 1, none⟩ = some (.int .u64 o.f1) ∧ (Instr.lookup 97 (.map (some bn)) (.int .u64 o.f1) true).run Try.prog w' = .ok (.tuple #[.int .u64 fv, .bool fo]) w')
    (first | go_keep | exact HS)
    (first | fail | fail)
  clear HS
  have hs1 : W1.heap.size = w.heap.size + 2 := by rw [HW1.out]; exact doW_size w o A c
  go_wp2_with fail
  obtain ⟨W2, hW2⟩ : ∃ W2, W2 = W1.drew.alloc (Obj.cells (ansC 0 fo fv false 0 (Value.slice none 0 0) 0) 26) := ⟨_, rfl⟩
  change Code.wp _ _ _ _ (W1.drew.alloc (Obj.cells (ansC 0 fo fv false 0 (Value.slice none 0 0) 0) 26))
  rw [← hW2] at HS2 HW2 HP2 HOP2 HRA2 HFA2 hkd ⊢
  clear hW2
  go_region_held3 (fun w' => w'.cell? ⟨gp, 2, none⟩ = some (.map (some bh)) ∧ w'.cell? ⟨w.heap.size, 4, none⟩ = some (.int .u64 o.f4) ∧ (Instr.lookup 98 (.map (some bh)) (.int .u64 o.f4) true).run Try.prog w' = .ok (.tuple #[vh, .bool hd]) w')
    (first | go_keep | exact HS2)
    (first | fail | fail)
  clear HS2
  obtain ⟨W, hW⟩ : ∃ W, W = W2.drew := ⟨_, rfl⟩
  rw [← hW] at HW2 HP2 HOP2 HRA2 HFA2 hkd ⊢
  clear hW
  obtain rfl : hd = true := by rw [HHD.out, hx]
  obtain ⟨w3, hrun3, ho3', hg3⟩ := held_del (w := W.drew) HP2.out.held HO.out.han 0
  have ho3 := ho3'.mono (Nat.le_succ N)
  clear ho3'
  replace hg3 := grown_undrew hg3
  have HL3 := Lib.hid (left_held HP2.out (HF.out.kept (Kept.of_below HW2.out (fun _ => False)) (fun _ _ _ e => e)) HW2.out ho3 hg3)
  have hk3 : Kept W w3 (fun k => k = bh) := Kept.of_grown hg3 (Kept.refl _ _) (fun k e => .inl (by cases e; rfl))
  have hcA := HP2.out.c2
  have hcB : W.cell? ⟨w.heap.size, 4, none⟩ = some (.int .u64 o.f4) := by rw [blk_cell HOP2.out]; rfl
  have hcC : W.cell? ⟨w.heap.size, 2, none⟩ = some (.int .u64 o.f2) := by rw [blk_cell HOP2.out]; rfl
  have hdA : w3.cell? ⟨gp, 2, none⟩ = some (.map (some bh)) := cell_kept hcA hk3 HM.out.gh
  have hdB := cell_kept hcB hk3 (show ¬ w.heap.size = bh by omega)
  have hdC := cell_kept hcC hk3 (show ¬ w.heap.size = bh by omega)
  have HFA3 := Lib.hid (blk_kept HFA2.out hk3 (show ¬ w.heap.size + 2 = bh by omega))
  have HRA3 := Lib.hid (blk_kept HRA2.out hk3 (show ¬ w.heap.size + 1 = bh by omega))
  clear hk3 ho3 hg3
  go_wp2_with fail
  go_region_held3 (fun w' => w'.cell? ⟨gp, 2, none⟩ = some (.map (some bh)) ∧ w'.cell? ⟨w.heap.size, 4, none⟩ = some (.int .u64 o.f4) ∧ w'.cell? ⟨w.heap.size, 2, none⟩ = some (.int .u64 o.f2))
    (first | go_keep | exact ⟨hcA, hcB, hcC⟩ | exact ⟨hdA, hdB, hdC⟩)
    (first | fail | fail)
  clear hcA hcB hcC hdA hdB hdC hrun3
  obtain ⟨l0, l1, l2, l3, l4, l5, l6⟩ := ans_cells HFA3.out
  go_wp2_with (first | ((with_reducible refine gate_store (t := 26) (p := 6) rfl ?_); refine wpList_store_row rfl 26 (.tmp 6) (.tmp 105) rfl (w.heap.size + 1) (ansC 0 false 0 false 0 (.slice none 0 0) 0) rfl rfl 26 _ HRA3.out (by kernel_rfl) rfl (ansC_one _ _ _ _ _ _ _ _ _) ?_))
  refine bodyPost_ret (res_ans rfl _ rfl (setRow_heap _ _ _ _ _ _ HRA3.out)) rfl ⟨.slice none 0 0, by rfl, Kd.R_nil _ _ _ _ _, HL3.out.row (by omega) HRA3.out hgl hnl hhl _⟩
end Go.Proofs.Ytngocadnbpdnoaa.Mo
namespace Go.Proofs.Ytngocadnbpdnoaa.Mo
open Go Go.Maps Go.RowKit Go.Proofs.Ytngocadnbpdnoaa.Srt Go.Proofs.Ytngocadnbpdnoaa.Q Go.Proofs.YtngocadnbpdnoaaW.PrintWords Go.Proofs.YtngocadnbpdnoaaW.PrintLast Go.Proofs.YtngocadnbpdnoaaW.PrintMore
set_option linter.unusedVariables false
set_option linter.unusedSimpArgs false
set_option maxRecDepth 100000 in
set_option maxHeartbeats 8000000 in
theorem do_mgLong (f : Nat → Option PL) (N gp bn bh : Nat) (multi : Int) (now : PL) (held : List (Int × PL)) (o : OpS) (A : Option Addr) (c : Nat) (hdl : Int) (w : World) (hM : PM w f N gp bn bh multi now held) (hF : Fro w f N) (hO : OpWf o) (hh : u64wf hdl) (hN : N ≤ 1099511627776) (hk : o.f0 = 7) (hl : multi < (o.f6.length : Int)) :
    Calls Try.prog 15 #[.pointer (some ⟨gp, 0, none⟩), .agg (opC o A c), .int .u64 hdl] w (DoPost w f (N + 1) gp bn bh ⟨multi, now, held⟩ (errD 6)) := by
  have hgl := hM.gl
  have hnl := hM.now.lt
  have hhl := hM.held.1.lt
  have HM := Lib.hid hM
  have HF := Lib.hid hF
  have HO := Lib.hid hO
  have HU := Lib.hid hh
  have hb0 : Below w.heap.size w (doW w o A c).drew := below_drew (doW_below w o A c)
  have hP0 := hM.kept (Kept.of_below hb0 (fun _ => False)) (fun e => e) (fun e => e) (fun e => e)
  have HS : (fun w' : World => w'.cell? ⟨gp, 1, none⟩ = some (.map (some bn)) ∧ w'.cell? ⟨w.heap.size, 1, none⟩ = some (.int .u64 o.f1) ∧ (Instr.lookup 97 (.map (some bn)) (.int .u64 o.f1) true).run Try.prog w' = .ok (.tuple #[.int .u64 ((fnd now o.f1).getD 0), .bool (fnd now o.f1).isSome]) w') (doW w o A c).drew :=
    ⟨hP0.c1, by rw [blk_cell (w := (doW w o A c).drew) (doW_op w o A c)]; rfl, now_look hP0.now hO.key⟩
  obtain ⟨vh, hvh, hrunh⟩ := held_look (hM.held.kept (Kept.of_below (below_drew (below_alloc (below_drew (doW_below w o A c)) (.cells (ansC 0 (fnd now o.f1).isSome ((fnd now o.f1).getD 0) false 0 (.slice none 0 0) 0) 26))) (fun _ => False)) (fun e => e)) hO.han
  have hW2 : Below w.heap.size w ((doW w o A c).drew.alloc (.cells (ansC 0 (fnd now o.f1).isSome ((fnd now o.f1).getD 0) false 0 (.slice none 0 0) 0) 26)).drew := below_drew (below_alloc (below_drew (doW_below w o A c)) _)
  have hP2 := hM.kept (Kept.of_below hW2 (fun _ => False)) (fun e => e) (fun e => e) (fun e => e)
  have hs2 : (doW w o A c).drew.heap.size = w.heap.size + 2 := doW_size w o A c
  have hop2 : ((doW w o A c).drew.alloc (.cells (ansC 0 (fnd now o.f1).isSome ((fnd now o.f1).getD 0) false 0 (.slice none 0 0) 0) 26)).drew.heap[w.heap.size]? = some (.cells (opC o A c) 39 (0, 0)) := ((below_alloc (Below.refl _ (doW w o A c).drew) _).block _ (by rw [hs2]; omega)).trans (doW_op w o A c)
  have hra2 : ((doW w o A c).drew.alloc (.cells (ansC 0 (fnd now o.f1).isSome ((fnd now o.f1).getD 0) false 0 (.slice none 0 0) 0) 26)).drew.heap[w.heap.size + 1]? = some (.cells (ansC 0 false 0 false 0 (.slice none 0 0) 0) 26 (0, 0)) := ((below_alloc (Below.refl _ (doW w o A c).drew) _).block _ (by rw [hs2]; omega)).trans (doW_ans w o A c)
  have hfa2 : ((doW w o A c).drew.alloc (.cells (ansC 0 (fnd now o.f1).isSome ((fnd now o.f1).getD 0) false 0 (.slice none 0 0) 0) 26)).drew.heap[w.heap.size + 2]? = some (.cells (ansC 0 (fnd now o.f1).isSome ((fnd now o.f1).getD 0) false 0 (.slice none 0 0) 0) 26 (0, 0)) := by
    have := heap_alloc_new (doW w o A c).drew (.cells (ansC 0 (fnd now o.f1).isSome ((fnd now o.f1).getD 0) false 0 (.slice none 0 0) 0) 26)
    rw [hs2] at this
    exact this
  have HS2 : (fun w' : World => w'.cell? ⟨gp, 2, none⟩ = some (.map (some bh)) ∧ w'.cell? ⟨w.heap.size, 4, none⟩ = some (.int .u64 o.f4) ∧ (Instr.lookup 98 (.map (some bh)) (.int .u64 o.f4) true).run Try.prog w' = .ok (.tuple #[vh, .bool (fnd held o.f4).isSome]) w') ((doW w o A c).drew.alloc (.cells (ansC 0 (fnd now o.f1).isSome ((fnd now o.f1).getD 0) false 0 (.slice none 0 0) 0) 26)).drew :=
    ⟨hP2.c2, by rw [blk_cell hop2]; rfl, hrunh⟩
  have hkd : ((doW w o A c).drew.alloc (.cells (ansC 0 (fnd now o.f1).isSome ((fnd now o.f1).getD 0) false 0 (.slice none 0 0) 0) 26)).drew.cell? ⟨w.heap.size, 0, none⟩ = some (.int .u8 7) := by rw [blk_cell hop2, ← hk]; rfl
  have HVH := Lib.hid hvh
  have HW2 := Lib.hid hW2
  have HP2 := Lib.hid hP2
  have HOP2 := Lib.hid hop2
  have HRA2 := Lib.hid hra2
  have HFA2 := Lib.hid hfa2
  have hfnd0 : (fnd now o.f1).isSome = (fnd now o.f1).isSome := rfl
  obtain ⟨fo, hfo⟩ : ∃ b : Bool, b = (fnd now o.f1).isSome := ⟨_, rfl⟩
  obtain ⟨fv, hfv⟩ : ∃ v : Int, v = (fnd now o.f1).getD 0 := ⟨_, rfl⟩
  obtain ⟨hd, hhd⟩ : ∃ b : Bool, b = (fnd held o.f4).isSome := ⟨_, rfl⟩
  rw [← hfo, ← hfv] at HS HS2 HW2 HP2 HOP2 HRA2 HFA2 hkd
  rw [← hhd] at HS2
  have HFO := Lib.hid hfo
  have HFV := Lib.hid hfv
  have HHD := Lib.hid hhd
  clear hM hF hO hh hb0 hP0 hvh hrunh hW2 hP2 hs2 hop2 hra2 hfa2 hfnd0 hfo hfv hhd
  obtain ⟨W1, hW1⟩ : ∃ W1, W1 = doW w o A c := ⟨_, rfl⟩
  have HW1 := Lib.hid hW1
  rw [← hW1] at HS HS2 HW2 HP2 HOP2 HRA2 HFA2 hkd
  go_enter Try.func15, Try.ntmps15
  go_wp2_with fail
  change Code.wp _ _ _ _ (doW w o A c)
  rw [← hW1]
  clear hW1
  go_region_held3 (fun w' => w'.cell? ⟨gp, 1, none⟩ = some (.map (some bn)) ∧ w'.cell? ⟨w.heap.size, 1, none⟩ = some (.int .u64 o.f1) ∧ (Instr.lookup 97 (.map (some bn)) (.int .u64 o.f1) true).run Try.prog w' = .ok (.tuple #[.int .u64 fv, .bool fo]) w')
    (first | go_keep | exact HS)
    (first | fail | fail)
  clear HS
  have hs1 : W1.heap.size = w.heap.size + 2 := by rw [HW1.out]; exact doW_size w o A c
  go_wp2_with fail
  obtain ⟨W2, hW2⟩ : ∃ W2, W2 = W1.drew.alloc (Obj.cells (ansC 0 fo fv false 0 (Value.slice none 0 0) 0) 26) := ⟨_, rfl⟩
  change Code.wp _ _ _ _ (W1.drew.alloc (Obj.cells (ansC 0 fo fv false 0 (Value.slice none 0 0) 0) 26))
  rw [← hW2] at HS2 HW2 HP2 HOP2 HRA2 HFA2 hkd ⊢
  clear hW2
  go_region_held3 (fun w' => w'.cell? ⟨gp, 2, none⟩ = some (.map (some bh)) ∧ w'.cell? ⟨w.heap.size, 4, none⟩ = some (.int .u64 o.f4) ∧ (Instr.lookup 98 (.map (some bh)) (.int .u64 o.f4) true).run Try.prog w' = .ok (.tuple #[vh, .bool hd]) w')
    (first | go_keep | exact HS2)
    (first | fail | fail)
  clear HS2
  obtain ⟨W, hW⟩ : ∃ W, W = W2.drew := ⟨_, rfl⟩
  rw [← hW] at HW2 HP2 HOP2 HRA2 HFA2 hkd ⊢
  clear hW
  have kA := HP2.out.c0
  have kB : W.cell? ⟨w.heap.size, 8, none⟩ = some (.slice A o.f6.length c) := by rw [blk_cell HOP2.out]; rfl
  have hlen' : decide (multi < (o.f6.length : Int)) = true := decide_eq_true (by omega)
  go_wp2_with fail
  go_quiet (fail)
  have HL3 := Lib.hid (left_same (w' := W.drewN nq) (K := fun k => k = bn ∨ k = bh) HM.out HF.out (pw_below_drewN HW2.out nq) (Nat.le_succ N))
  have HFA3 : Hid ((W.drewN nq).heap[w.heap.size + 2]? = some (Obj.cells (ansC 0 fo fv false 0 (.slice none 0 0) 0) 26)) := HFA2
  have HRA3 : Hid ((W.drewN nq).heap[w.heap.size + 1]? = some (Obj.cells (ansC 0 false 0 false 0 (.slice none 0 0) 0) 26)) := HRA2
  obtain ⟨l0, l1, l2, l3, l4, l5, l6⟩ := ans_cells HFA3.out
  go_wp2_with (first | ((with_reducible refine gate_store (t := 26) (p := 6) rfl ?_); refine wpList_store_row rfl 26 (.tmp 6) (.tmp 114) rfl (w.heap.size + 1) (ansC 6 false 0 false 0 (.slice none 0 0) 0) rfl rfl 26 _ HRA3.out (by kernel_rfl) rfl (ansC_one _ _ _ _ _ _ _ _ _) ?_))
  refine bodyPost_ret (res_ans rfl _ rfl (setRow_heap _ _ _ _ _ _ HRA3.out)) rfl ⟨.slice none 0 0, by rfl, Kd.R_nil _ _ _ _ _, HL3.out.row (by omega) HRA3.out hgl hnl hhl _⟩
end Go.Proofs.Ytngocadnbpdnoaa.Mo
namespace Go.Proofs.Ytngocadnbpdnoaa.Mo
open Go Go.Maps Go.RowKit Go.Proofs.Ytngocadnbpdnoaa.Srt Go.Proofs.Ytngocadnbpdnoaa.Q Go.Proofs.YtngocadnbpdnoaaW.PrintWords Go.Proofs.YtngocadnbpdnoaaW.PrintLast Go.Proofs.YtngocadnbpdnoaaW.PrintMore
set_option linter.unusedVariables false
set_option linter.unusedSimpArgs false
set_option maxRecDepth 100000 in
set_option maxHeartbeats 8000000 in
theorem do_mgNo (f : Nat → Option PL) (N gp bn bh : Nat) (multi : Int) (now : PL) (held : List (Int × PL)) (o : OpS) (A : Option Addr) (c : Nat) (hdl : Int) (w : World) (hM : PM w f N gp bn bh multi now held) (hF : Fro w f N) (hO : OpWf o) (hh : u64wf hdl) (hN : N ≤ 1099511627776) (hk : o.f0 = 7) (hx : fnd held o.f4 = none) (hl : ¬ multi < (o.f6.length : Int)) :
    Calls Try.prog 15 #[.pointer (some ⟨gp, 0, none⟩), .agg (opC o A c), .int .u64 hdl] w (DoPost w f (N + 1) gp bn bh ⟨multi, now, held⟩ (errD 33)) := by
  have hgl := hM.gl
  have hnl := hM.now.lt
  have hhl := hM.held.1.lt
  have HM := Lib.hid hM
  have HF := Lib.hid hF
  have HO := Lib.hid hO
  have HU := Lib.hid hh
  have hb0 : Below w.heap.size w (doW w o A c).drew := below_drew (doW_below w o A c)
  have hP0 := hM.kept (Kept.of_below hb0 (fun _ => False)) (fun e => e) (fun e => e) (fun e => e)
  have HS : (fun w' : World => w'.cell? ⟨gp, 1, none⟩ = some (.map (some bn)) ∧ w'.cell? ⟨w.heap.size, 1, none⟩ = some (.int .u64 o.f1) ∧ (Instr.lookup 97 (.map (some bn)) (.int .u64 o.f1) true).run Try.prog w' = .ok (.tuple #[.int .u64 ((fnd now o.f1).getD 0), .bool (fnd now o.f1).isSome]) w') (doW w o A c).drew :=
    ⟨hP0.c1, by rw [blk_cell (w := (doW w o A c).drew) (doW_op w o A c)]; rfl, now_look hP0.now hO.key⟩
  obtain ⟨vh, hvh, hrunh⟩ := held_look (hM.held.kept (Kept.of_below (below_drew (below_alloc (below_drew (doW_below w o A c)) (.cells (ansC 0 (fnd now o.f1).isSome ((fnd now o.f1).getD 0) false 0 (.slice none 0 0) 0) 26))) (fun _ => False)) (fun e => e)) hO.han
  have hW2 : Below w.heap.size w ((doW w o A c).drew.alloc (.cells (ansC 0 (fnd now o.f1).isSome ((fnd now o.f1).getD 0) false 0 (.slice none 0 0) 0) 26)).drew := below_drew (below_alloc (below_drew (doW_below w o A c)) _)
  have hP2 := hM.kept (Kept.of_below hW2 (fun _ => False)) (fun e => e) (fun e => e) (fun e => e)
  have hs2 : (doW w o A c).drew.heap.size = w.heap.size + 2 := doW_size w o A c
  have hop2 : ((doW w o A c).drew.alloc (.cells (ansC 0 (fnd now o.f1).isSome ((fnd now o.f1).getD 0) false 0 (.slice none 0 0) 0) 26)).drew.heap[w.heap.size]? = some (.cells (opC o A c) 39 (0, 0)) := ((below_alloc (Below.refl _ (doW w o A c).drew) _).block _ (by rw [hs2]; omega)).trans (doW_op w o A c)
  have hra2 : ((doW w o A c).drew.alloc (.cells (ansC 0 (fnd now o.f1).isSome ((fnd now o.f1).getD 0) false 0 (.slice none 0 0) 0) 26)).drew.heap[w.heap.size + 1]? = some (.cells (ansC 0 false 0 false 0 (.slice none 0 0) 0) 26 (0, 0)) := ((below_alloc (Below.refl _ (doW w o A c).drew) _).block _ (by rw [hs2]; omega)).trans (doW_ans w o A c)
  have hfa2 : ((doW w o A c).drew.alloc (.cells (ansC 0 (fnd now o.f1).isSome ((fnd now o.f1).getD 0) false 0 (.slice none 0 0) 0) 26)).drew.heap[w.heap.size + 2]? = some (.cells (ansC 0 (fnd now o.f1).isSome ((fnd now o.f1).getD 0) false 0 (.slice none 0 0) 0) 26 (0, 0)) := by
    have := heap_alloc_new (doW w o A c).drew (.cells (ansC 0 (fnd now o.f1).isSome ((fnd now o.f1).getD 0) false 0 (.slice none 0 0) 0) 26)
    rw [hs2] at this
    exact this
  have HS2 : (fun w' : World => w'.cell? ⟨gp, 2, none⟩ = some (.map (some bh)) ∧ w'.cell? ⟨w.heap.size, 4, none⟩ = some (.int .u64 o.f4) ∧ (Instr.lookup 98 (.map (some bh)) (.int .u64 o.f4) true).run Try.prog w' = .ok (.tuple #[vh, .bool (fnd held o.f4).isSome]) w') ((doW w o A c).drew.alloc (.cells (ansC 0 (fnd now o.f1).isSome ((fnd now o.f1).getD 0) false 0 (.slice none 0 0) 0) 26)).drew :=
    ⟨hP2.c2, by rw [blk_cell hop2]; rfl, hrunh⟩
  have hkd : ((doW w o A c).drew.alloc (.cells (ansC 0 (fnd now o.f1).isSome ((fnd now o.f1).getD 0) false 0 (.slice none 0 0) 0) 26)).drew.cell? ⟨w.heap.size, 0, none⟩ = some (.int .u8 7) := by rw [blk_cell hop2, ← hk]; rfl
  have HVH := Lib.hid hvh
  have HW2 := Lib.hid hW2
  have HP2 := Lib.hid hP2
  have HOP2 := Lib.hid hop2
  have HRA2 := Lib.hid hra2
  have HFA2 := Lib.hid hfa2
  have hfnd0 : (fnd now o.f1).isSome = (fnd now o.f1).isSome := rfl
  obtain ⟨fo, hfo⟩ : ∃ b : Bool, b = (fnd now o.f1).isSome := ⟨_, rfl⟩
  obtain ⟨fv, hfv⟩ : ∃ v : Int, v = (fnd now o.f1).getD 0 := ⟨_, rfl⟩
  obtain ⟨hd, hhd⟩ : ∃ b : Bool, b = (fnd held o.f4).isSome := ⟨_, rfl⟩
  rw [← hfo, ← hfv] at HS HS2 HW2 HP2 HOP2 HRA2 HFA2 hkd
  rw [← hhd] at HS2
  have HFO := Lib.hid hfo
  have HFV := Lib.hid hfv
  have HHD := Lib.hid hhd
  clear hM hF hO hh hb0 hP0 hvh hrunh hW2 hP2 hs2 hop2 hra2 hfa2 hfnd0 hfo hfv hhd
  obtain ⟨W1, hW1⟩ : ∃ W1, W1 = doW w o A c := ⟨_, rfl⟩
  have HW1 := Lib.hid hW1
  rw [← hW1] at HS HS2 HW2 HP2 HOP2 HRA2 HFA2 hkd
  go_enter Try.func15, Try.ntmps15
  go_wp2_with fail
  change Code.wp _ _ _ _ (doW w o A c)
  rw [← hW1]
  clear hW1
  go_region_held3 (fun w' => w'.cell? ⟨gp, 1, none⟩ = some (.map (some bn)) ∧ w'.cell? ⟨w.heap.size, 1, none⟩ = some (.int .u64 o.f1) ∧ (Instr.lookup 97 (.map (some bn)) (.int .u64 o.f1) true).run Try.prog w' = .ok (.tuple #[.int .u64 fv, .bool fo]) w')
    (first | go_keep | exact HS)
    (first | fail | fail)
  clear HS
  have hs1 : W1.heap.size = w.heap.size + 2 := by rw [HW1.out]; exact doW_size w o A c
  go_wp2_with fail
  obtain ⟨W2, hW2⟩ : ∃ W2, W2 = W1.drew.alloc (Obj.cells (ansC 0 fo fv false 0 (Value.slice none 0 0) 0) 26) := ⟨_, rfl⟩
  change Code.wp _ _ _ _ (W1.drew.alloc (Obj.cells (ansC 0 fo fv false 0 (Value.slice none 0 0) 0) 26))
  rw [← hW2] at HS2 HW2 HP2 HOP2 HRA2 HFA2 hkd ⊢
  clear hW2
  go_region_held3 (fun w' => w'.cell? ⟨gp, 2, none⟩ = some (.map (some bh)) ∧ w'.cell? ⟨w.heap.size, 4, none⟩ = some (.int .u64 o.f4) ∧ (Instr.lookup 98 (.map (some bh)) (.int .u64 o.f4) true).run Try.prog w' = .ok (.tuple #[vh, .bool hd]) w')
    (first | go_keep | exact HS2)
    (first | fail | fail)
  clear HS2
  obtain ⟨W, hW⟩ : ∃ W, W = W2.drew := ⟨_, rfl⟩
  rw [← hW] at HW2 HP2 HOP2 HRA2 HFA2 hkd ⊢
  clear hW
  obtain rfl : hd = false := by rw [HHD.out, hx]; rfl
  have kA := HP2.out.c0
  have kB : W.cell? ⟨w.heap.size, 8, none⟩ = some (.slice A o.f6.length c) := by rw [blk_cell HOP2.out]; rfl
  have hlen' : decide (multi < (o.f6.length : Int)) = false := decide_eq_false (by omega)
  go_wp2_with fail
  go_quiet (fail)
  have HL3 := Lib.hid (left_same (w' := W.drewN nq) (K := fun k => k = bn ∨ k = bh) HM.out HF.out (pw_below_drewN HW2.out nq) (Nat.le_succ N))
  have HFA3 : Hid ((W.drewN nq).heap[w.heap.size + 2]? = some (Obj.cells (ansC 0 fo fv false 0 (.slice none 0 0) 0) 26)) := HFA2
  have HRA3 : Hid ((W.drewN nq).heap[w.heap.size + 1]? = some (Obj.cells (ansC 0 false 0 false 0 (.slice none 0 0) 0) 26)) := HRA2
  obtain ⟨l0, l1, l2, l3, l4, l5, l6⟩ := ans_cells HFA3.out
  go_wp2_with (first | ((with_reducible refine gate_store (t := 26) (p := 6) rfl ?_); refine wpList_store_row rfl 26 (.tmp 6) (.tmp 117) rfl (w.heap.size + 1) (ansC 33 false 0 false 0 (.slice none 0 0) 0) rfl rfl 26 _ HRA3.out (by kernel_rfl) rfl (ansC_one _ _ _ _ _ _ _ _ _) ?_))
  refine bodyPost_ret (res_ans rfl _ rfl (setRow_heap _ _ _ _ _ _ HRA3.out)) rfl ⟨.slice none 0 0, by rfl, Kd.R_nil _ _ _ _ _, HL3.out.row (by omega) HRA3.out hgl hnl hhl _⟩
end Go.Proofs.Ytngocadnbpdnoaa.Mo
