import Derived.Test.YtngocadnbpdnoaaMha
import Derived.Test.YtngocadnbpdnoaaQx9
import Derived.Test.YtngocadnbpdnoaaQx6
import Derived.Test.YtngocadnbpdnoaaQx4
import Derived.Laws.CopyRow
import Derived.Test.YtngocadnbpdnoaaQx7
import Derived.Test.YtngocadnbpdnoaaOpen
import Derived.Test.YtngocadnbpdnoaaRows
namespace Go.Proofs.Ytngocadnbpdnoaa.Mo
open Go Go.Maps Go.RowKit Go.Proofs.Ytngocadnbpdnoaa.Srt Go.Proofs.Ytngocadnbpdnoaa.Q Go.Proofs.YtngocadnbpdnoaaW.PrintWords Go.Proofs.YtngocadnbpdnoaaW.PrintLast Go.Proofs.YtngocadnbpdnoaaW.PrintMore
set_option linter.unusedVariables false
set_option linter.unusedSimpArgs false
set_option maxRecDepth 100000 in
set_option maxHeartbeats 8000000 in
theorem do_oth (f : Nat → Option PL) (N gp bn bh : Nat) (multi : Int) (now : PL) (held : List (Int × PL)) (o : OpS) (A : Option Addr) (c : Nat) (hdl : Int) (w : World) (hM : PM w f N gp bn bh multi now held) (hF : Fro w f N) (hO : OpWf o) (hh : u64wf hdl) (hN : N ≤ 1099511627776) (hk : True) (ho : ∀ k : Int, 1 ≤ k → k ≤ 10 → (o.f0 == k) = false) :
    Calls Try.prog 15 #[.pointer (some ⟨gp, 0, none⟩), .agg (opC o A c), .int .u64 hdl] w (DoPost w f (N + 1) gp bn bh ⟨multi, now, held⟩ (errD 160)) := by
  have hgl := hM.gl
  have hnl := hM.now.lt
  have hhl := hM.held.1.lt
  have HM := Lib.hid hM
  have HF := Lib.hid hF
  have HO := Lib.hid hO
  have HU := Lib.hid hh
  have hb0 : Below w.heap.size w (doW w o A c).drew := below_drew (doW_below w o A c)
  have hP0 := hM.kept (Kept.of_below hb0 (fun _ => False)) (fun e => e) (fun e => e) (fun e => e)
  have HS : (fun w' : World => w'.cell? ⟨gp, 1, none⟩ = some (.map (some bn)) ∧ w'.cell? ⟨w.heap.size, 1, none⟩ = some (.int .u64 o.f1) ∧ (Instr.lookup 97 (.map (some bn)) (.int .u64 o.f1) true).run Try.prog w' = .ok (.tuple #[.int .u64 ((fnd now o.f1).getD 0), .bool (fnd now o.f1).isSome]) w') (doW w o A c).drew :=
    ⟨hP0.c1, by rw [blk_cell (w := (doW w o A c).drew) (doW_op w o A c)]; rfl, now_look hP0.now hO.key⟩
  obtain ⟨vh, hvh, hrunh⟩ := held_look (hM.held.kept (Kept.of_below (below_drew (below_alloc (below_drew (doW_below w o A c)) (.cells (ansC 0 (fnd now o.f1).isSome ((fnd now o.f1).getD 0) false 0 (.slice none 0 0) 0) 26))) (fun _ => False)) (fun e => e)) hO.han
  have hW2 : Below w.heap.size w ((doW w o A c).drew.alloc (.cells (ansC 0 (fnd now o.f1).isSome ((fnd now o.f1).getD 0) false 0 (.slice none 0 0) 0) 26)).drew := below_drew (below_alloc (below_drew (doW_below w o A c)) _)
  have hP2 := hM.kept (Kept.of_below hW2 (fun _ => False)) (fun e => e) (fun e => e) (fun e => e)
  have hs2 : (doW w o A c).drew.heap.size = w.heap.size + 2 := doW_size w o A c
  have hop2 : ((doW w o A c).drew.alloc (.cells (ansC 0 (fnd now o.f1).isSome ((fnd now o.f1).getD 0) false 0 (.slice none 0 0) 0) 26)).drew.heap[w.heap.size]? = some (.cells (opC o A c) 39 (0, 0)) := ((below_alloc (Below.refl _ (doW w o A c).drew) _).block _ (by rw [hs2]; omega)).trans (doW_op w o A c)
  have hra2 : ((doW w o A c).drew.alloc (.cells (ansC 0 (fnd now o.f1).isSome ((fnd now o.f1).getD 0) false 0 (.slice none 0 0) 0) 26)).drew.heap[w.heap.size + 1]? = some (.cells (ansC 0 false 0 false 0 (.slice none 0 0) 0) 26 (0, 0)) := ((below_alloc (Below.refl _ (doW w o A c).drew) _).block _ (by rw [hs2]; omega)).trans (doW_ans w o A c)
  have hfa2 : ((doW w o A c).drew.alloc (.cells (ansC 0 (fnd now o.f1).isSome ((fnd now o.f1).getD 0) false 0 (.slice none 0 0) 0) 26)).drew.heap[w.heap.size + 2]? = some (.cells (ansC 0 (fnd now o.f1).isSome ((fnd now o.f1).getD 0) false 0 (.slice none 0 0) 0) 26 (0, 0)) := by
    have := heap_alloc_new (doW w o A c).drew (.cells (ansC 0 (fnd now o.f1).isSome ((fnd now o.f1).getD 0) false 0 (.slice none 0 0) 0) 26)
    rw [hs2] at this
    exact this
  have HS2 : (fun w' : World => w'.cell? ⟨gp, 2, none⟩ = some (.map (some bh)) ∧ w'.cell? ⟨w.heap.size, 4, none⟩ = some (.int .u64 o.f4) ∧ (Instr.lookup 98 (.map (some bh)) (.int .u64 o.f4) true).run Try.prog w' = .ok (.tuple #[vh, .bool (fnd held o.f4).isSome]) w') ((doW w o A c).drew.alloc (.cells (ansC 0 (fnd now o.f1).isSome ((fnd now o.f1).getD 0) false 0 (.slice none 0 0) 0) 26)).drew :=
    ⟨hP2.c2, by rw [blk_cell hop2]; rfl, hrunh⟩
  have hkd : ((doW w o A c).drew.alloc (.cells (ansC 0 (fnd now o.f1).isSome ((fnd now o.f1).getD 0) false 0 (.slice none 0 0) 0) 26)).drew.cell? ⟨w.heap.size, 0, none⟩ = some (.int .u8 o.f0) := by rw [blk_cell hop2]; rfl
  have HVH := Lib.hid hvh
  have HW2 := Lib.hid hW2
  have HP2 := Lib.hid hP2
  have HOP2 := Lib.hid hop2
  have HRA2 := Lib.hid hra2
  have HFA2 := Lib.hid hfa2
  have hfnd0 : (fnd now o.f1).isSome = (fnd now o.f1).isSome := rfl
  obtain ⟨fo, hfo⟩ : ∃ b : Bool, b = (fnd now o.f1).isSome := ⟨_, rfl⟩
  obtain ⟨fv, hfv⟩ : ∃ v : Int, v = (fnd now o.f1).getD 0 := ⟨_, rfl⟩
  obtain ⟨hd, hhd⟩ : ∃ b : Bool, b = (fnd held o.f4).isSome := ⟨_, rfl⟩
  rw [← hfo, ← hfv] at HS HS2 HW2 HP2 HOP2 HRA2 HFA2 hkd
  rw [← hhd] at HS2
  have HFO := Lib.hid hfo
  have HFV := Lib.hid hfv
  have HHD := Lib.hid hhd
  clear hM hF hO hh hb0 hP0 hvh hrunh hW2 hP2 hs2 hop2 hra2 hfa2 hfnd0 hfo hfv hhd
  obtain ⟨W1, hW1⟩ : ∃ W1, W1 = doW w o A c := ⟨_, rfl⟩
  have HW1 := Lib.hid hW1
  rw [← hW1] at HS HS2 HW2 HP2 HOP2 HRA2 HFA2 hkd
  go_enter Try.func15, Try.ntmps15
  go_wp2_with fail
  change Code.wp _ _ _ _ (doW w o A c)
  rw [← hW1]
  clear hW1
  go_region_held3 (fun w' => w'.cell? ⟨gp, 1, none⟩ = some (.map (some bn)) ∧ w'.cell? ⟨w.heap.size, 1, none⟩ = some (.int .u64 o.f1) ∧ (Instr.lookup 97 (.map (some bn)) (.int .u64 o.f1) true).run Try.prog w' = .ok (.tuple #[.int .u64 fv, .bool fo]) w')
    (first | go_keep | exact HS)
    (first | fail | fail)
  clear HS
  have hs1 : W1.heap.size = w.heap.size + 2 := by rw [HW1.out]; exact doW_size w o A c
  go_wp2_with fail
  obtain ⟨W2, hW2⟩ : ∃ W2, W2 = W1.drew.alloc (Obj.cells (ansC 0 fo fv false 0 (Value.slice none 0 0) 0) 26) := ⟨_, rfl⟩
  change Code.wp _ _ _ _ (W1.drew.alloc (Obj.cells (ansC 0 fo fv false 0 (Value.slice none 0 0) 0) 26))
  rw [← hW2] at HS2 HW2 HP2 HOP2 HRA2 HFA2 hkd ⊢
  clear hW2
  go_region_held3 (fun w' => w'.cell? ⟨gp, 2, none⟩ = some (.map (some bh)) ∧ w'.cell? ⟨w.heap.size, 4, none⟩ = some (.int .u64 o.f4) ∧ (Instr.lookup 98 (.map (some bh)) (.int .u64 o.f4) true).run Try.prog w' = .ok (.tuple #[vh, .bool hd]) w')
    (first | go_keep | exact HS2)
    (first | fail | fail)
  clear HS2
  obtain ⟨W, hW⟩ : ∃ W, W = W2.drew := ⟨_, rfl⟩
  rw [← hW] at HW2 HP2 HOP2 HRA2 HFA2 hkd ⊢
  clear hW
  have q1 := ho 1 (by omega) (by omega)
  have q2 := ho 2 (by omega) (by omega)
  have q3 := ho 3 (by omega) (by omega)
  have q4 := ho 4 (by omega) (by omega)
  have q5 := ho 5 (by omega) (by omega)
  have q6 := ho 6 (by omega) (by omega)
  have q7 := ho 7 (by omega) (by omega)
  have q8 := ho 8 (by omega) (by omega)
  have q9 := ho 9 (by omega) (by omega)
  have q10 := ho 10 (by omega) (by omega)
  clear ho hk
  have HL3 := Lib.hid (left_same (K := fun k => k = bn ∨ k = bh) HM.out HF.out HW2.out (Nat.le_succ N))
  have HFA3 := HFA2
  have HRA3 := HRA2
  obtain ⟨l0, l1, l2, l3, l4, l5, l6⟩ := ans_cells HFA3.out
  go_wp2_with (first | ((with_reducible refine gate_store (t := 26) (p := 6) rfl ?_); refine wpList_store_row rfl 26 (.tmp 6) (.tmp 122) rfl (w.heap.size + 1) (ansC 160 false 0 false 0 (.slice none 0 0) 0) rfl rfl 26 _ HRA3.out (by kernel_rfl) rfl (ansC_one _ _ _ _ _ _ _ _ _) ?_))
  refine bodyPost_ret (res_ans rfl _ rfl (setRow_heap _ _ _ _ _ _ HRA3.out)) rfl ⟨.slice none 0 0, by rfl, Kd.R_nil _ _ _ _ _, HL3.out.row (by omega) HRA3.out hgl hnl hhl _⟩
end Go.Proofs.Ytngocadnbpdnoaa.Mo
namespace Go.Proofs.Ytngocadnbpdnoaa.Mo
open Go Go.Maps Go.RowKit Go.Proofs.Ytngocadnbpdnoaa.Srt Go.Proofs.Ytngocadnbpdnoaa.Q Go.Proofs.YtngocadnbpdnoaaW.PrintWords Go.Proofs.YtngocadnbpdnoaaW.PrintLast Go.Proofs.YtngocadnbpdnoaaW.PrintMore
set_option linter.unusedVariables false
set_option linter.unusedSimpArgs false
instance decSP : DecidableEq SP := fun a b => decidable_of_iff (a.f0 = b.f0 ∧ a.f1 = b.f1) (by cases a; cases b; simp)
theorem rd_get {xs : List SP} {i : Nat} (h : i < xs.length) : rd_T90 xs (i : Int) = xs[i] := by
  unfold rd_T90
  simp [List.getD_eq_getElem?_getD, h]
theorem pair_ne {a b : SP} : ((!(a.f0 == b.f0)) || (!(a.f1 == b.f1))) = true ↔ ¬ a = b := by
  rcases a with ⟨a0, a1⟩
  rcases b with ⟨b0, b1⟩
  by_cases h0 : a0 = b0 <;> by_cases h1 : a1 = b1 <;> simp [h0, h1]
theorem drop_iff {x0 x1 : List SP} {i : Nat} (h0 : i < x0.length) (h1 : i < x1.length) : x0.drop i = x1.drop i ↔ x0[i] = x1[i] ∧ x0.drop (i + 1) = x1.drop (i + 1) := by
  rw [List.drop_eq_getElem_cons h0, List.drop_eq_getElem_cons h1, List.cons.injEq]
theorem samP_l0 (x0 x1 : List SP) (hl : x0.length = x1.length) (hm : x0.length ≤ 4398046511104) : ∀ m i : Nat, i + m = x0.length → api_Pair.l0 (m + 1) x0 x1 (x0.length : Int) (i : Int) = some (decide (x0.drop i = x1.drop i))
  | 0, i, e => by
    unfold api_Pair.l0
    rw [if_neg (by omega)]
    rw [List.drop_eq_nil_of_le (by omega), List.drop_eq_nil_of_le (by omega)]; simp
  | m + 1, i, e => by
    unfold api_Pair.l0
    have h0 : i < x0.length := by omega
    have h1 : i < x1.length := by omega
    rw [if_pos (by omega), if_pos (by omega), if_pos (by omega), if_pos (by omega), rd_get h0, rd_get h1]
    by_cases hd : x0[i] = x1[i]
    · rw [if_neg (by rw [pair_ne]; simpa using hd), show wrap64 ((i : Int) + 1) = ((i + 1 : Nat) : Int) by unfold wrap64; omega, samP_l0 x0 x1 hl hm m (i + 1) (by omega)]
      simp [drop_iff h0 h1, hd]
    · rw [if_pos (pair_ne.2 hd)]
      simp [drop_iff h0 h1, hd]
theorem samP_f (x0 x1 : List SP) (hm : x0.length ≤ 4398046511104) : ∃ k, api_Pair.f k x0 x1 = some (decide (x0 = x1)) := by
  unfold api_Pair.f
  by_cases hl : x0.length = x1.length
  · exact ⟨x0.length + 1, by rw [if_pos (by omega)]; simpa using samP_l0 x0 x1 hl hm x0.length 0 (by omega)⟩
  · exact ⟨0, by rw [if_neg (by omega)]; simp; intro e; exact hl (by rw [e])⟩
theorem samR_l0 (x0 x1 : List SP) (hl : x0.length = x1.length) (hm : x0.length ≤ 4398046511104) : ∀ m i : Nat, i + m = x0.length → shutterref06_SamePairs.l0 (m + 1) x0 x1 (i : Int) = some (decide (x0.drop i = x1.drop i))
  | 0, i, e => by
    unfold shutterref06_SamePairs.l0
    rw [if_neg (by omega)]
    rw [List.drop_eq_nil_of_le (by omega), List.drop_eq_nil_of_le (by omega)]; simp
  | m + 1, i, e => by
    unfold shutterref06_SamePairs.l0
    have h0 : i < x0.length := by omega
    have h1 : i < x1.length := by omega
    rw [if_pos (by omega), if_pos (by omega), if_pos (by omega), rd_get h0, rd_get h1]
    by_cases hd : x0[i] = x1[i]
    · rw [if_neg (by rw [pair_ne]; simpa using hd), show wrap64 ((i : Int) + 1) = ((i + 1 : Nat) : Int) by unfold wrap64; omega, samR_l0 x0 x1 hl hm m (i + 1) (by omega)]
      simp [drop_iff h0 h1, hd]
    · rw [if_pos (pair_ne.2 hd)]
      simp [drop_iff h0 h1, hd]
theorem samR_f (x0 x1 : List SP) (hm : x0.length ≤ 4398046511104) : ∃ k, shutterref06_SamePairs.f k x0 x1 = some (decide (x0 = x1)) := by
  unfold shutterref06_SamePairs.f
  by_cases hl : x0.length = x1.length
  · exact ⟨x0.length + 1, by rw [if_pos (by omega)]; simpa using samR_l0 x0 x1 hl hm x0.length 0 (by omega)⟩
  · exact ⟨0, by rw [if_neg (by omega)]; simp; intro e; exact hl (by rw [e])⟩
abbrev AnS := S26
def anV (x : AnS) (A : Option Addr) (c : Nat) : Value := .agg #[.int .i64 x.f0, .bool x.f1, .int .u64 x.f2, .bool x.f3, .int .u64 x.f4, .slice A x.f5.length c, .int .u64 x.f6]
def anEq (x y : AnS) : Bool := decide (x.f5 = y.f5) && (x.f0 == y.f0) && (x.f1 == y.f1) && (x.f2 == y.f2) && (x.f3 == y.f3) && (x.f4 == y.f4) && (x.f6 == y.f6)
theorem ifs {p : Prop} [Decidable p] {a b : Bool} : (if p then (some a) else some false) = some (decide p && a) := by by_cases h : p <;> simp [h]
theorem sameAns_c (x y : AnS) (A B : Option Addr) (c d : Nat) (w : World) (hA : Kd.C k90 w A x.f5.length x.f5) (hc : x.f5.length ≤ c) (hB : Kd.C k90 w B y.f5.length y.f5) (hd : y.f5.length ≤ d) (hm : x.f5.length ≤ 4398046511104) :
    Calls Try.prog 12 #[anV x A c, anV y B d] w fun e w' => e = .returned (.bool (anEq x y)) ∧ Below w.heap.size w w' := by
  obtain ⟨k, hk⟩ := samP_f x.f5 y.f5 hm
  refine model_SameAnswer.calls k _ _ _ _ _ A c x.f5 _ _ _ _ _ _ B d y.f5 _ _ w hA hc hB hd ?_
  unfold model_SameAnswer.f
  rw [hk]
  simp only [Option.bind_some]
  simp only [anEq, ifs, decide_eq_true_eq, Bool.and_assoc]
  congr 1
  by_cases h0 : x.f5 = y.f5 <;> by_cases h1 : x.f0 = y.f0 <;> by_cases h2 : x.f1 = y.f1 <;> by_cases h3 : x.f2 = y.f2 <;> by_cases h4 : x.f3 = y.f3 <;> by_cases h5 : x.f4 = y.f4 <;> simp [h0, h1, h2, h3, h4, h5]
theorem sameAnsR_c (x y : AnS) (A B : Option Addr) (c d : Nat) (w : World) (hA : Kd.C k90 w A x.f5.length x.f5) (hc : x.f5.length ≤ c) (hB : Kd.C k90 w B y.f5.length y.f5) (hd : y.f5.length ≤ d) (hm : x.f5.length ≤ 4398046511104) :
    Calls Try.prog 13 #[anV x A c, anV y B d] w fun e w' => e = .returned (.bool (anEq x y)) ∧ Below w.heap.size w w' := by
  obtain ⟨k, hk⟩ := samR_f x.f5 y.f5 hm
  refine shutterref06_SameAnswer.calls k _ _ _ _ _ A c x.f5 _ _ _ _ _ _ B d y.f5 _ _ w hA hc hB hd ?_
  unfold shutterref06_SameAnswer.f
  rw [hk]
  simp only [Option.bind_some]
  simp only [anEq, ifs, decide_eq_true_eq, Bool.and_assoc]
  congr 1
  by_cases h0 : x.f5 = y.f5 <;> by_cases h1 : x.f0 = y.f0 <;> by_cases h2 : x.f1 = y.f1 <;> by_cases h3 : x.f2 = y.f2 <;> by_cases h4 : x.f3 = y.f3 <;> by_cases h5 : x.f4 = y.f4 <;> simp [h0, h1, h2, h3, h4, h5]
end Go.Proofs.Ytngocadnbpdnoaa.Mo
namespace Go.Proofs.Ytngocadnbpdnoaa.Mo
open Go Go.Maps Go.RowKit Go.Proofs.Ytngocadnbpdnoaa.Srt Go.Proofs.Ytngocadnbpdnoaa.Q Go.Proofs.YtngocadnbpdnoaaW.PrintWords Go.Proofs.YtngocadnbpdnoaaW.PrintLast Go.Proofs.YtngocadnbpdnoaaW.PrintMore
set_option linter.unusedVariables false
set_option linter.unusedSimpArgs false
def ansS (d : AnsD) : AnS := ⟨d.e, d.fo, d.v, d.dn, d.h, toS d.ps, d.c⟩
/-- Do's law for one operation and handle: what it does to a state, and what it tells. -/
def DoC (o : OpS) (hdl : Int) (st : MS → MS × AnsD) : Prop :=
  ∀ (f : Nat → Option PL) (N gp bn bh : Nat) (multi : Int) (now : PL) (held : List (Int × PL)) (A : Option Addr) (c : Nat) (w : World), PM w f N gp bn bh multi now held → Fro w f N → N ≤ 1099511627776 →
    Calls Try.prog 15 #[.pointer (some ⟨gp, 0, none⟩), .agg (opC o A c), .int .u64 hdl] w (DoPost w f (N + 1) gp bn bh (st ⟨multi, now, held⟩).1 (st ⟨multi, now, held⟩).2)
theorem op_cells {w : World} {g : Nat} {o : OpS} {A : Option Addr} {c : Nat} (hb : w.heap[g]? = some (.cells (opC o A c) 39 (0, 0))) :
    w.cell? ⟨g, 0, none⟩ = some (.int .u8 o.f0) ∧ w.cell? ⟨g, 1, none⟩ = some (.int .u64 o.f1) ∧ w.cell? ⟨g, 2, none⟩ = some (.int .u64 o.f2) ∧ w.cell? ⟨g, 3, none⟩ = some (.int .u64 o.f3) ∧ w.cell? ⟨g, 4, none⟩ = some (.int .u64 o.f4) ∧ w.cell? ⟨g, 5, none⟩ = some (.bool o.f5.f0) ∧ w.cell? ⟨g, 6, none⟩ = some (.int .i64 o.f5.f1) ∧ w.cell? ⟨g, 7, none⟩ = some (.int .i64 o.f5.f2) ∧ w.cell? ⟨g, 8, none⟩ = some (.slice A o.f6.length c) ∧ w.cell? ⟨g, 9, none⟩ = some (.int .u64 o.f7) ∧ w.cell? ⟨g, 10, none⟩ = some (.int .u64 o.f8) := by
  refine ⟨?_, ?_, ?_, ?_, ?_, ?_, ?_, ?_, ?_, ?_, ?_⟩ <;> (rw [blk_cell hb]; rfl)
/-- The worlds of Take: behind its boxes. -/
def tkW (w : World) (o : OpS) (A : Option Addr) (c : Nat) (a : AnS) (B : Option Addr) (d : Nat) : World := (w.alloc (.cells (opC o A c) 39)).alloc (.cells (ansC a.f0 a.f1 a.f2 a.f3 a.f4 (.slice B a.f5.length d) a.f6) 26)
theorem tkW_below (w : World) (o : OpS) (A : Option Addr) (c : Nat) (a : AnS) (B : Option Addr) (d : Nat) : Below w.heap.size w (tkW w o A c a B d) := below_alloc (below_alloc (Below.refl _ _) _) _
theorem tkW_size (w : World) (o : OpS) (A : Option Addr) (c : Nat) (a : AnS) (B : Option Addr) (d : Nat) : (tkW w o A c a B d).heap.size = w.heap.size + 2 := by simp [tkW]
theorem tkW_op (w : World) (o : OpS) (A : Option Addr) (c : Nat) (a : AnS) (B : Option Addr) (d : Nat) : (tkW w o A c a B d).heap[w.heap.size]? = some (.cells (opC o A c) 39 (0, 0)) := by
  have h := heap_alloc_new w (.cells (opC o A c) 39)
  have hl : w.heap.size < (w.alloc (.cells (opC o A c) 39)).heap.size := by simp
  exact ((below_alloc (Below.refl _ (w.alloc (.cells (opC o A c) 39))) (.cells (ansC a.f0 a.f1 a.f2 a.f3 a.f4 (.slice B a.f5.length d) a.f6) 26)).block _ hl).trans h
theorem tkW_ans (w : World) (o : OpS) (A : Option Addr) (c : Nat) (a : AnS) (B : Option Addr) (d : Nat) : (tkW w o A c a B d).heap[w.heap.size + 1]? = some (.cells (ansC a.f0 a.f1 a.f2 a.f3 a.f4 (.slice B a.f5.length d) a.f6) 26 (0, 0)) := by
  have h := heap_alloc_new (w.alloc (.cells (opC o A c) 39)) (.cells (ansC a.f0 a.f1 a.f2 a.f3 a.f4 (.slice B a.f5.length d) a.f6) 26)
  simpa [tkW] using h
/-- The cells of both boxes. -/
def TkS (g : Nat) (o : OpS) (A : Option Addr) (c : Nat) (a : AnS) (B : Option Addr) (d : Nat) (w' : World) : Prop :=
  w'.heap[g]? = some (.cells (opC o A c) 39 (0, 0)) ∧ w'.heap[g + 1]? = some (.cells (ansC a.f0 a.f1 a.f2 a.f3 a.f4 (.slice B a.f5.length d) a.f6) 26 (0, 0)) ∧ Kd.C k90 w' B a.f5.length a.f5
theorem Below.low {w W : World} {n : Nat} (h : Below n w W) (m : Nat) (hm : m ≤ n) : Below m w W := h.mono hm
end Go.Proofs.Ytngocadnbpdnoaa.Mo
namespace Go.Proofs.Ytngocadnbpdnoaa.Mo
open Go Go.Maps Go.RowKit Go.Proofs.Ytngocadnbpdnoaa.Srt Go.Proofs.Ytngocadnbpdnoaa.Q Go.Proofs.YtngocadnbpdnoaaW.PrintWords Go.Proofs.YtngocadnbpdnoaaW.PrintLast Go.Proofs.YtngocadnbpdnoaaW.PrintMore
set_option linter.unusedVariables false
set_option linter.unusedSimpArgs false
theorem cells18 {w' : World} {g : Nat} {o : OpS} {A : Option Addr} {c : Nat} {a : AnS} {B : Option Addr} {d : Nat} (h1 : w'.heap[g]? = some (.cells (opC o A c) 39 (0, 0))) (h2 : w'.heap[g + 1]? = some (.cells (ansC a.f0 a.f1 a.f2 a.f3 a.f4 (.slice B a.f5.length d) a.f6) 26 (0, 0))) :
    w'.cell? ⟨g, 0, none⟩ = some (.int .u8 o.f0) ∧ w'.cell? ⟨g, 1, none⟩ = some (.int .u64 o.f1) ∧ w'.cell? ⟨g, 2, none⟩ = some (.int .u64 o.f2) ∧ w'.cell? ⟨g, 3, none⟩ = some (.int .u64 o.f3) ∧ w'.cell? ⟨g, 4, none⟩ = some (.int .u64 o.f4) ∧ w'.cell? ⟨g, 5, none⟩ = some (.bool o.f5.f0) ∧ w'.cell? ⟨g, 6, none⟩ = some (.int .i64 o.f5.f1) ∧ w'.cell? ⟨g, 7, none⟩ = some (.int .i64 o.f5.f2) ∧ w'.cell? ⟨g, 8, none⟩ = some (.slice A o.f6.length c) ∧ w'.cell? ⟨g, 9, none⟩ = some (.int .u64 o.f7) ∧ w'.cell? ⟨g, 10, none⟩ = some (.int .u64 o.f8) ∧ w'.cell? ⟨g + 1, 0, none⟩ = some (.int .i64 a.f0) ∧ w'.cell? ⟨g + 1, 1, none⟩ = some (.bool a.f1) ∧ w'.cell? ⟨g + 1, 2, none⟩ = some (.int .u64 a.f2) ∧ w'.cell? ⟨g + 1, 3, none⟩ = some (.bool a.f3) ∧ w'.cell? ⟨g + 1, 4, none⟩ = some (.int .u64 a.f4) ∧ w'.cell? ⟨g + 1, 5, none⟩ = some (.slice B a.f5.length d) ∧ w'.cell? ⟨g + 1, 6, none⟩ = some (.int .u64 a.f6) := by
  obtain ⟨q0, q1, q2, q3, q4, q5, q6, q7, q8, q9, q10⟩ := op_cells h1
  obtain ⟨p0, p1, p2, p3, p4, p5, p6⟩ := ans_cells h2
  exact ⟨q0, q1, q2, q3, q4, q5, q6, q7, q8, q9, q10, p0, p1, p2, p3, p4, p5, p6⟩
set_option maxRecDepth 100000 in
set_option maxHeartbeats 16000000 in
theorem take_rest (o : OpS) (a : AnS) (A B : Option Addr) (c d : Nat) (st : MS → MS × AnsD) (hD : DoC o 0 st) (f : Nat → Option PL) (N gp bn bh : Nat) (multi : Int) (now : PL) (held : List (Int × PL)) (w : World) (hM : PM w f N gp bn bh multi now held) (hF : Fro w f N) (hN : N + 1 ≤ 1099511627776)
    (hC : ∀ W', Kept w W' (fun k => k = bn ∨ k = bh) → Kd.C k90 W' B a.f5.length a.f5) (hd : a.f5.length ≤ d) (ho : ∀ k : Int, 2 ≤ k → k ≤ 10 → k ≠ 6 → (o.f0 == k) = false) (hps : (st ⟨multi, now, held⟩).2.ps.length ≤ 4398046511104) :
    Calls Try.prog 22 #[.pointer (some ⟨gp, 0, none⟩), .agg (opC o A c), anV a B d] w fun e w' => e = .returned (.bool (anEq (ansS (st ⟨multi, now, held⟩).2) a)) ∧ Left w w' f (N + 2) gp bn bh (if anEq (ansS (st ⟨multi, now, held⟩).2) a = true then (st ⟨multi, now, held⟩).1 else ⟨multi, now, held⟩).multi (if anEq (ansS (st ⟨multi, now, held⟩).2) a = true then (st ⟨multi, now, held⟩).1 else ⟨multi, now, held⟩).now (if anEq (ansS (st ⟨multi, now, held⟩).2) a = true then (st ⟨multi, now, held⟩).1 else ⟨multi, now, held⟩).held (fun k => k = bn ∨ k = bh) := by
  have hgl := hM.gl
  have hnl := hM.now.lt
  have hhl := hM.held.1.lt
  have q2 := ho 2 (by omega) (by omega) (by omega)
  have q3 := ho 3 (by omega) (by omega) (by omega)
  have q4 := ho 4 (by omega) (by omega) (by omega)
  have q5 := ho 5 (by omega) (by omega) (by omega)
  have q7 := ho 7 (by omega) (by omega) (by omega)
  have q8 := ho 8 (by omega) (by omega) (by omega)
  have q9 := ho 9 (by omega) (by omega) (by omega)
  have q10 := ho 10 (by omega) (by omega) (by omega)
  have hb0 := tkW_below w o A c a B d
  have hO0 := tkW_op w o A c a B d
  have hA0 := tkW_ans w o A c a B d
  have hk0 : (tkW w o A c a B d).cell? ⟨w.heap.size, 0, none⟩ = some (.int .u8 o.f0) := (op_cells hO0).1
  have hs0 := tkW_size w o A c a B d
  have HM := Lib.hid hM
  have HF := Lib.hid hF
  have HC := Lib.hid hC
  have HD := Lib.hid hD
  have HB0 := Lib.hid hb0
  have HO0 := Lib.hid hO0
  have HA0 := Lib.hid hA0
  clear hM hF hC hD ho hb0 hO0 hA0
  obtain ⟨s, hs⟩ : ∃ s : MS, s = ⟨multi, now, held⟩ := ⟨_, rfl⟩
  rw [← hs] at hps ⊢
  have HS := Lib.hid hs
  obtain ⟨D, hDD⟩ : ∃ D : AnsD, D = (st s).2 := ⟨_, rfl⟩
  rw [← hDD] at hps ⊢
  have HDD := Lib.hid hDD
  clear hs hDD
  go_enter Try.func22, Try.ntmps22
  go_upto_region 4 with fail
  change Code.wp _ _ _ _ (tkW w o A c a B d)
  obtain ⟨W0, hW0⟩ : ∃ W0, W0 = tkW w o A c a B d := ⟨_, rfl⟩
  rw [← hW0] at HB0 HO0 HA0 hk0 hs0 ⊢
  clear hW0
  go_upto_region 26 with (go_at_call 30; (refine (fork_c f N gp bn bh multi now held W0 (HM.out.kept (Kept.of_below HB0.out (fun _ => False)) (fun e => e) (fun e => e) (fun e => e)) (HF.out.kept (Kept.of_below HB0.out (fun _ => False)) (fun _ _ _ e => e)) (by omega)).mono ?_; rintro e w1 ⟨gq, bm, bi, rfl, f1, hE1, hP1, hF1, hB1, hq1, hq2, hq3⟩))
  have hbw1 : Below w.heap.size w w1 := HB0.out.trans (hB1.mono HB0.out.size)
  have HO1 : Hid (w1.drew.heap[w.heap.size]? = some (.cells (opC o A c) 39 (0, 0))) := Lib.hid ((hB1.block _ (by omega)).trans HO0.out)
  have HA1 : Hid (w1.drew.heap[w.heap.size + 1]? = some (.cells (ansC a.f0 a.f1 a.f2 a.f3 a.f4 (.slice B a.f5.length d) a.f6) 26 (0, 0))) := Lib.hid ((hB1.block _ (by omega)).trans HA0.out)
  have HP1 := Lib.hid hP1
  have HF1 := Lib.hid hF1
  have HE1 := Lib.hid hE1
  have HB1 := Lib.hid hbw1
  have HS1 : Hid (W0.heap.size ≤ w1.drew.heap.size) := Lib.hid hB1.size
  clear hP1 hF1 hE1 hbw1 hB1
  have hS1 := cells18 HO1.out HA1.out
  go_region_held3 (fun w' => w'.cell? ⟨w.heap.size, 0, none⟩ = some (.int .u8 o.f0) ∧ w'.cell? ⟨w.heap.size, 1, none⟩ = some (.int .u64 o.f1) ∧ w'.cell? ⟨w.heap.size, 2, none⟩ = some (.int .u64 o.f2) ∧ w'.cell? ⟨w.heap.size, 3, none⟩ = some (.int .u64 o.f3) ∧ w'.cell? ⟨w.heap.size, 4, none⟩ = some (.int .u64 o.f4) ∧ w'.cell? ⟨w.heap.size, 5, none⟩ = some (.bool o.f5.f0) ∧ w'.cell? ⟨w.heap.size, 6, none⟩ = some (.int .i64 o.f5.f1) ∧ w'.cell? ⟨w.heap.size, 7, none⟩ = some (.int .i64 o.f5.f2) ∧ w'.cell? ⟨w.heap.size, 8, none⟩ = some (.slice A o.f6.length c) ∧ w'.cell? ⟨w.heap.size, 9, none⟩ = some (.int .u64 o.f7) ∧ w'.cell? ⟨w.heap.size, 10, none⟩ = some (.int .u64 o.f8) ∧ w'.cell? ⟨w.heap.size + 1, 0, none⟩ = some (.int .i64 a.f0) ∧ w'.cell? ⟨w.heap.size + 1, 1, none⟩ = some (.bool a.f1) ∧ w'.cell? ⟨w.heap.size + 1, 2, none⟩ = some (.int .u64 a.f2) ∧ w'.cell? ⟨w.heap.size + 1, 3, none⟩ = some (.bool a.f3) ∧ w'.cell? ⟨w.heap.size + 1, 4, none⟩ = some (.int .u64 a.f4) ∧ w'.cell? ⟨w.heap.size + 1, 5, none⟩ = some (.slice B a.f5.length d) ∧ w'.cell? ⟨w.heap.size + 1, 6, none⟩ = some (.int .u64 a.f6))
    (first | go_keep | exact hS1 | exact cells18 HO2.out HA2.out | exact cells18 HO3.out HA3.out)
    (first
      | (go_at_call 15; refine (HD.out f1 N gq bm bi multi now held A c w1.drew (HP1.out.kept (Kept.of_below (below_drew (Below.refl _ w1)) (fun _ => False)) (fun e => e) (fun e => e) (fun e => e)) (HF1.out.kept (Kept.of_below (below_drew (Below.refl _ w1)) (fun _ => False)) (fun _ _ _ e => e)) (by omega)).mono ?_; rintro e w2 ⟨ps, rfl, hR2, f2, hE2, hP2, hF2, hK2'⟩
         rw [← HS.out, ← HDD.out] at hR2
         rw [← HS.out, ← HDD.out]
         obtain ⟨A2, c2, rfl⟩ := Kd.R_slice hR2
         have hK2 := hK2'.kept
         have hK1 : KO w w2 (fun _ => False) := (KO.of_below (below_drew HB1.out) (fun _ => False)).then_ hK2' (fun k e => .inr (by omega))
         have HO2 := Lib.hid (blk_kept (W2 := w2) HO1.out hK2 (show ¬ (w.heap.size = bm ∨ w.heap.size = bi) by omega))
         have HA2 := Lib.hid (blk_kept (W2 := w2) HA1.out hK2 (show ¬ (w.heap.size + 1 = bm ∨ w.heap.size + 1 = bi) by omega))
         have HF2 := Lib.hid hF2
         have HE2 := Lib.hid (HE1.out.trans hE2 HS1.out)
         have HK1 := Lib.hid hK1
         have HK12 := Lib.hid hK2.1
         have HR2 := Lib.hid hR2
         clear hF2 hE2 hK1 hR2 hP2 hK2 hK2')
      | (go_at_call 12; refine (sameAns_c (ansS D) a A2 B c2 d w2 (Kd.R_reads' HR2.out).2.2 (Kd.R_reads' HR2.out).2.1 (HC.out w2 (HK1.out.kept.mono (fun _ e => e.elim))) hd (by simp only [ansS, toS_length]; exact hps)).mono ?_; rintro e w3 ⟨rfl, hB3⟩
         have HO3 := Lib.hid ((hB3.block _ (blk_lt HO2.out)).trans HO2.out)
         have HA3 := Lib.hid ((hB3.block _ (blk_lt HA2.out)).trans HA2.out)
         have HK3 := Lib.hid (HK1.out.below hB3)
         have HB3 := Lib.hid hB3
         clear hB3))
  have hs3 : W0.heap.size ≤ w3.heap.size := Nat.le_trans HS1.out (Nat.le_trans HK12.out HB3.out.size)
  have he2 : Ext w.heap.size f f2 := ⟨HE2.out.1, fun b l e => (HE2.out.2 b l e).imp id (fun h => Nat.le_trans HB0.out.size h)⟩
  have hP3 : PM w3 f2 N gp bn bh multi now held := ((HM.out.kept HK3.out.kept (fun e => e) (fun e => e) (fun e => e)).ext he2 hnl hhl)
  have hF3 : Fro w3 f2 (N + 1) := HF2.out.kept (Kept.of_below HB3.out (fun _ => False)) (fun _ _ _ e => e)
  have HP3 := Lib.hid hP3
  have HF3 := Lib.hid hF3
  have HE3 := Lib.hid he2
  clear hP3 hF3 he2
  by_cases hq : anEq (ansS D) a = true
  case neg =>
    have hq' : anEq (ansS D) a = false := by simpa using hq
    clear hq
    rw [hq']
    go_wp2_with fail
    all_goals go_ret
    all_goals rw [HS.out]
    all_goals exact ⟨rfl, f2, HE3.out, HP3.out.mono (by omega), HF3.out.mono (by omega), HK3.out.mono (fun _ e => e.elim)⟩
  case pos =>
    rw [hq]
    have hS3 := cells18 HO3.out HA3.out
    go_split_ands
    go_wp2_with (go_at_call 15; refine (HD.out f2 (N + 1) gp bn bh multi now held A c w3 (HP3.out.mono (by omega)) HF3.out (by omega)).mono ?_; rintro e w4 ⟨ps4, rfl, hR4, f4, hE4, hP4, hF4, hK4⟩)
    all_goals go_ret
    all_goals rw [← HS.out] at hP4
    all_goals exact ⟨rfl, f4, HE3.out.trans hE4 HK3.out.kept.1, hP4, hF4, (HK3.out.mono (fun _ e => e.elim)).then_ hK4 (fun k e => .inl e)⟩
end Go.Proofs.Ytngocadnbpdnoaa.Mo
namespace Go.Proofs.Ytngocadnbpdnoaa.Mo
open Go Go.Maps Go.RowKit Go.Proofs.Ytngocadnbpdnoaa.Srt Go.Proofs.Ytngocadnbpdnoaa.Q Go.Proofs.YtngocadnbpdnoaaW.PrintWords Go.Proofs.YtngocadnbpdnoaaW.PrintLast Go.Proofs.YtngocadnbpdnoaaW.PrintMore
set_option linter.unusedVariables false
set_option linter.unusedSimpArgs false
set_option maxRecDepth 100000 in
set_option maxHeartbeats 8000000 in
theorem do_put (f : Nat → Option PL) (N gp bn bh : Nat) (multi : Int) (now : PL) (held : List (Int × PL)) (o : OpS) (A : Option Addr) (c : Nat) (hdl : Int) (w : World) (hM : PM w f N gp bn bh multi now held) (hF : Fro w f N) (hO : OpWf o) (hh : u64wf hdl) (hN : N ≤ 1099511627776) (hk : o.f0 = 2) :
    Calls Try.prog 15 #[.pointer (some ⟨gp, 0, none⟩), .agg (opC o A c), .int .u64 hdl] w (DoPost w f (N + 1) gp bn bh ⟨multi, put now o.f1 o.f2, held⟩ (foundD ⟨multi, now, held⟩ o)) := by
  have hgl := hM.gl
  have hnl := hM.now.lt
  have hhl := hM.held.1.lt
  have HM := Lib.hid hM
  have HF := Lib.hid hF
  have HO := Lib.hid hO
  have HU := Lib.hid hh
  have hb0 : Below w.heap.size w (doW w o A c).drew := below_drew (doW_below w o A c)
  have hP0 := hM.kept (Kept.of_below hb0 (fun _ => False)) (fun e => e) (fun e => e) (fun e => e)
  have HS : (fun w' : World => w'.cell? ⟨gp, 1, none⟩ = some (.map (some bn)) ∧ w'.cell? ⟨w.heap.size, 1, none⟩ = some (.int .u64 o.f1) ∧ (Instr.lookup 97 (.map (some bn)) (.int .u64 o.f1) true).run Try.prog w' = .ok (.tuple #[.int .u64 ((fnd now o.f1).getD 0), .bool (fnd now o.f1).isSome]) w') (doW w o A c).drew :=
    ⟨hP0.c1, by rw [blk_cell (w := (doW w o A c).drew) (doW_op w o A c)]; rfl, now_look hP0.now hO.key⟩
  obtain ⟨vh, hvh, hrunh⟩ := held_look (hM.held.kept (Kept.of_below (below_drew (below_alloc (below_drew (doW_below w o A c)) (.cells (ansC 0 (fnd now o.f1).isSome ((fnd now o.f1).getD 0) false 0 (.slice none 0 0) 0) 26))) (fun _ => False)) (fun e => e)) hO.han
  have hW2 : Below w.heap.size w ((doW w o A c).drew.alloc (.cells (ansC 0 (fnd now o.f1).isSome ((fnd now o.f1).getD 0) false 0 (.slice none 0 0) 0) 26)).drew := below_drew (below_alloc (below_drew (doW_below w o A c)) _)
  have hP2 := hM.kept (Kept.of_below hW2 (fun _ => False)) (fun e => e) (fun e => e) (fun e => e)
  have hs2 : (doW w o A c).drew.heap.size = w.heap.size + 2 := doW_size w o A c
  have hop2 : ((doW w o A c).drew.alloc (.cells (ansC 0 (fnd now o.f1).isSome ((fnd now o.f1).getD 0) false 0 (.slice none 0 0) 0) 26)).drew.heap[w.heap.size]? = some (.cells (opC o A c) 39 (0, 0)) := ((below_alloc (Below.refl _ (doW w o A c).drew) _).block _ (by rw [hs2]; omega)).trans (doW_op w o A c)
  have hra2 : ((doW w o A c).drew.alloc (.cells (ansC 0 (fnd now o.f1).isSome ((fnd now o.f1).getD 0) false 0 (.slice none 0 0) 0) 26)).drew.heap[w.heap.size + 1]? = some (.cells (ansC 0 false 0 false 0 (.slice none 0 0) 0) 26 (0, 0)) := ((below_alloc (Below.refl _ (doW w o A c).drew) _).block _ (by rw [hs2]; omega)).trans (doW_ans w o A c)
  have hfa2 : ((doW w o A c).drew.alloc (.cells (ansC 0 (fnd now o.f1).isSome ((fnd now o.f1).getD 0) false 0 (.slice none 0 0) 0) 26)).drew.heap[w.heap.size + 2]? = some (.cells (ansC 0 (fnd now o.f1).isSome ((fnd now o.f1).getD 0) false 0 (.slice none 0 0) 0) 26 (0, 0)) := by
    have := heap_alloc_new (doW w o A c).drew (.cells (ansC 0 (fnd now o.f1).isSome ((fnd now o.f1).getD 0) false 0 (.slice none 0 0) 0) 26)
    rw [hs2] at this
    exact this
  have HS2 : (fun w' : World => w'.cell? ⟨gp, 2, none⟩ = some (.map (some bh)) ∧ w'.cell? ⟨w.heap.size, 4, none⟩ = some (.int .u64 o.f4) ∧ (Instr.lookup 98 (.map (some bh)) (.int .u64 o.f4) true).run Try.prog w' = .ok (.tuple #[vh, .bool (fnd held o.f4).isSome]) w') ((doW w o A c).drew.alloc (.cells (ansC 0 (fnd now o.f1).isSome ((fnd now o.f1).getD 0) false 0 (.slice none 0 0) 0) 26)).drew :=
    ⟨hP2.c2, by rw [blk_cell hop2]; rfl, hrunh⟩
  have hkd : ((doW w o A c).drew.alloc (.cells (ansC 0 (fnd now o.f1).isSome ((fnd now o.f1).getD 0) false 0 (.slice none 0 0) 0) 26)).drew.cell? ⟨w.heap.size, 0, none⟩ = some (.int .u8 2) := by rw [blk_cell hop2, ← hk]; rfl
  have HVH := Lib.hid hvh
  have HW2 := Lib.hid hW2
  have HP2 := Lib.hid hP2
  have HOP2 := Lib.hid hop2
  have HRA2 := Lib.hid hra2
  have HFA2 := Lib.hid hfa2
  have hfnd0 : (fnd now o.f1).isSome = (fnd now o.f1).isSome := rfl
  obtain ⟨fo, hfo⟩ : ∃ b : Bool, b = (fnd now o.f1).isSome := ⟨_, rfl⟩
  obtain ⟨fv, hfv⟩ : ∃ v : Int, v = (fnd now o.f1).getD 0 := ⟨_, rfl⟩
  obtain ⟨hd, hhd⟩ : ∃ b : Bool, b = (fnd held o.f4).isSome := ⟨_, rfl⟩
  rw [← hfo, ← hfv] at HS HS2 HW2 HP2 HOP2 HRA2 HFA2 hkd
  rw [← hhd] at HS2
  have HFO := Lib.hid hfo
  have HFV := Lib.hid hfv
  have HHD := Lib.hid hhd
  clear hM hF hO hh hb0 hP0 hvh hrunh hW2 hP2 hs2 hop2 hra2 hfa2 hfnd0 hfo hfv hhd
  obtain ⟨W1, hW1⟩ : ∃ W1, W1 = doW w o A c := ⟨_, rfl⟩
  have HW1 := Lib.hid hW1
  rw [← hW1] at HS HS2 HW2 HP2 HOP2 HRA2 HFA2 hkd
  go_enter Try.func15, Try.ntmps15
  go_wp2_with fail
  change Code.wp _ _ _ _ (doW w o A c)
  rw [← hW1]
  clear hW1
  go_region_held3 (fun w' => w'.cell? ⟨gp, 1, none⟩ = some (.map (some bn)) ∧ w'.cell? ⟨w.heap.size, 1, none⟩ = some (.int .u64 o.f1) ∧ (Instr.lookup 97 (.map (some bn)) (.int .u64 o.f1) true).run Try.prog w' = .ok (.tuple #[.int .u64 fv, .bool fo]) w')
    (first | go_keep | exact HS)
    (first | fail | fail)
  clear HS
  have hs1 : W1.heap.size = w.heap.size + 2 := by rw [HW1.out]; exact doW_size w o A c
  go_wp2_with fail
  obtain ⟨W2, hW2⟩ : ∃ W2, W2 = W1.drew.alloc (Obj.cells (ansC 0 fo fv false 0 (Value.slice none 0 0) 0) 26) := ⟨_, rfl⟩
  change Code.wp _ _ _ _ (W1.drew.alloc (Obj.cells (ansC 0 fo fv false 0 (Value.slice none 0 0) 0) 26))
  rw [← hW2] at HS2 HW2 HP2 HOP2 HRA2 HFA2 hkd ⊢
  clear hW2
  go_region_held3 (fun w' => w'.cell? ⟨gp, 2, none⟩ = some (.map (some bh)) ∧ w'.cell? ⟨w.heap.size, 4, none⟩ = some (.int .u64 o.f4) ∧ (Instr.lookup 98 (.map (some bh)) (.int .u64 o.f4) true).run Try.prog w' = .ok (.tuple #[vh, .bool hd]) w')
    (first | go_keep | exact HS2)
    (first | fail | fail)
  clear HS2
  obtain ⟨W, hW⟩ : ∃ W, W = W2.drew := ⟨_, rfl⟩
  rw [← hW] at HW2 HP2 HOP2 HRA2 HFA2 hkd ⊢
  clear hW
  obtain ⟨w3, hrun3, ho3, hg3⟩ := now_put (w := W.drew) HP2.out.now HO.out.key HO.out.val (by unfold maxLen; omega)
  replace hg3 := grown_undrew hg3
  have HL3 := Lib.hid (left_now HP2.out (HF.out.kept (Kept.of_below HW2.out (fun _ => False)) (fun _ _ _ e => e)) HW2.out ho3 hg3)
  have hk3 : Kept W w3 (fun k => k = bn) := Kept.of_grown hg3 (Kept.refl _ _) (fun k e => .inl (by cases e; rfl))
  have hcA := HP2.out.c1
  have hcB : W.cell? ⟨w.heap.size, 1, none⟩ = some (.int .u64 o.f1) := by rw [blk_cell HOP2.out]; rfl
  have hcC : W.cell? ⟨w.heap.size, 2, none⟩ = some (.int .u64 o.f2) := by rw [blk_cell HOP2.out]; rfl
  have hdA : w3.cell? ⟨gp, 1, none⟩ = some (.map (some bn)) := cell_kept hcA hk3 HM.out.gn
  have hdB := cell_kept hcB hk3 (show ¬ w.heap.size = bn by omega)
  have hdC := cell_kept hcC hk3 (show ¬ w.heap.size = bn by omega)
  have HFA3 := Lib.hid (blk_kept HFA2.out hk3 (show ¬ w.heap.size + 2 = bn by omega))
  have HRA3 := Lib.hid (blk_kept HRA2.out hk3 (show ¬ w.heap.size + 1 = bn by omega))
  clear hk3 ho3 hg3
  go_wp2_with fail
  go_region_held3 (fun w' => w'.cell? ⟨gp, 1, none⟩ = some (.map (some bn)) ∧ w'.cell? ⟨w.heap.size, 1, none⟩ = some (.int .u64 o.f1) ∧ w'.cell? ⟨w.heap.size, 2, none⟩ = some (.int .u64 o.f2))
    (first | go_keep | exact ⟨hcA, hcB, hcC⟩ | exact ⟨hdA, hdB, hdC⟩)
    (first | fail | fail)
  clear hcA hcB hcC hdA hdB hdC hrun3
  obtain ⟨l0, l1, l2, l3, l4, l5, l6⟩ := ans_cells HFA3.out
  go_wp2_with (first | ((with_reducible refine gate_store (t := 26) (p := 6) rfl ?_); refine wpList_store_row rfl 26 (.tmp 6) (.tmp 68) rfl (w.heap.size + 1) (ansC 0 fo fv false 0 (.slice none 0 0) 0) rfl rfl 26 _ HRA3.out (by kernel_rfl) rfl (ansC_one _ _ _ _ _ _ _ _ _) ?_))
  refine bodyPost_ret (res_ans rfl _ rfl (setRow_heap _ _ _ _ _ _ HRA3.out)) rfl ⟨.slice none 0 0, by rw [HFO.out, HFV.out]; rfl, Kd.R_nil _ _ _ _ _, HL3.out.row (by omega) HRA3.out hgl hnl hhl _⟩
end Go.Proofs.Ytngocadnbpdnoaa.Mo
namespace Go.Proofs.Ytngocadnbpdnoaa.Mo
open Go Go.Maps Go.RowKit Go.Proofs.Ytngocadnbpdnoaa.Srt Go.Proofs.Ytngocadnbpdnoaa.Q Go.Proofs.YtngocadnbpdnoaaW.PrintWords Go.Proofs.YtngocadnbpdnoaaW.PrintLast Go.Proofs.YtngocadnbpdnoaaW.PrintMore
set_option linter.unusedVariables false
set_option linter.unusedSimpArgs false
def opL (k key val : Int) : OpS := ⟨k, key, val, 0, 0, ⟨false, 0, 0⟩, [], 0, 0⟩
theorem opL_wf (k key val : Int) (h1 : u64wf key) (h2 : u64wf val) : OpWf (opL k key val) := ⟨h1, h2, by show u64wf 0; unfold u64wf; decide⟩
theorem fro_none (w : World) (N : Nat) : Fro w (fun _ => none) N := fun b l e => by cases e
theorem get_c (o : OpS) (hO : OpWf o) (hk : o.f0 = 1) : DoC o 0 (fun s => (s, foundD s o)) := fun f N gp bn bh multi now held A c w hM hF hN => do_get f N gp bn bh multi now held o A c 0 w hM hF hO (by unfold u64wf; decide) hN hk
theorem DoPost.lit {w : World} {f : Nat → Option PL} {N gp bn bh : Nat} {s : MS} {e : Int} {fo : Bool} {v : Int} {dn : Bool} {h : Int} {en : Ending} {w' : World} (hp : DoPost w f N gp bn bh s ⟨e, fo, v, dn, h, [], 0⟩ en w') :
    ∃ A c, en = .returned (.agg #[.int .i64 e, .bool fo, .int .u64 v, .bool dn, .int .u64 h, .slice A 0 c, .int .u64 0]) ∧ Left w w' f N gp bn bh s.multi s.now s.held (fun k => k = bn ∨ k = bh) := by
  obtain ⟨ps, he, hR, hL⟩ := hp
  obtain ⟨A2, c2, rfl⟩ := Kd.R_slice hR
  exact ⟨A2, c2, he, hL⟩
theorem lp1 (gp bn bh : Nat) (w1 : World) (hP : PM w1 (fun _ => none) 0 gp bn bh 4 [] []) : Calls Try.prog 15 #[.pointer (some ⟨gp, 0, none⟩), .agg #[.int .u8 2, .int .u64 7, .int .u64 1, .int .u64 0, .int .u64 0, .bool false, .int .i64 0, .int .i64 0, .slice none 0 0, .int .u64 0, .int .u64 0], .int .u64 0] w1 fun en w' => ∃ A c, en = .returned (.agg #[.int .i64 0, .bool false, .int .u64 0, .bool false, .int .u64 0, .slice A 0 c, .int .u64 0]) ∧ Left w1 w' (fun _ => none) 1 gp bn bh 4 [(7, 1)] [] (fun k => k = bn ∨ k = bh) :=
  (do_put (fun _ => none) 0 gp bn bh 4 [] [] (opL 2 7 1) none 0 0 w1 hP (fro_none w1 0) (opL_wf _ _ _ (by unfold u64wf; decide) (by unfold u64wf; decide)) (by unfold u64wf; decide) (by omega) rfl).mono fun en w' h => DoPost.lit (s := ⟨4, [(7, 1)], []⟩) h
theorem lp2 (f : Nat → Option PL) (gp bn bh : Nat) (w1 : World) (hP : PM w1 f 1 gp bn bh 4 [(7, 1)] []) (hF : Fro w1 f 1) : Calls Try.prog 15 #[.pointer (some ⟨gp, 0, none⟩), .agg #[.int .u8 5, .int .u64 0, .int .u64 0, .int .u64 0, .int .u64 0, .bool false, .int .i64 0, .int .i64 0, .slice none 0 0, .int .u64 0, .int .u64 0], .int .u64 5] w1 fun en w' => ∃ A c, en = .returned (.agg #[.int .i64 0, .bool false, .int .u64 0, .bool false, .int .u64 5, .slice A 0 c, .int .u64 0]) ∧ Left w1 w' f 2 gp bn bh 4 [(7, 1)] [(5, [(7, 1)])] (fun k => k = bn ∨ k = bh) :=
  (do_snap f 1 gp bn bh 4 [(7, 1)] [] (opL 5 0 0) none 0 5 w1 hP hF (opL_wf _ _ _ (by unfold u64wf; decide) (by unfold u64wf; decide)) (by unfold u64wf; decide) (by omega) rfl).mono fun en w' h => DoPost.lit (s := ⟨4, [(7, 1)], [(5, [(7, 1)])]⟩) h
theorem lp3 (f : Nat → Option PL) (gp bn bh : Nat) (w1 : World) (hP : PM w1 f 2 gp bn bh 4 [(7, 1)] [(5, [(7, 1)])]) (hF : Fro w1 f 2) : Calls Try.prog 15 #[.pointer (some ⟨gp, 0, none⟩), .agg #[.int .u8 2, .int .u64 7, .int .u64 2, .int .u64 0, .int .u64 0, .bool false, .int .i64 0, .int .i64 0, .slice none 0 0, .int .u64 0, .int .u64 0], .int .u64 0] w1 fun en w' => ∃ A c, en = .returned (.agg #[.int .i64 0, .bool true, .int .u64 1, .bool false, .int .u64 0, .slice A 0 c, .int .u64 0]) ∧ Left w1 w' f 3 gp bn bh 4 [(7, 2)] [(5, [(7, 1)])] (fun k => k = bn ∨ k = bh) :=
  (do_put f 2 gp bn bh 4 [(7, 1)] [(5, [(7, 1)])] (opL 2 7 2) none 0 0 w1 hP hF (opL_wf _ _ _ (by unfold u64wf; decide) (by unfold u64wf; decide)) (by unfold u64wf; decide) (by omega) rfl).mono fun en w' h => DoPost.lit (s := ⟨4, [(7, 2)], [(5, [(7, 1)])]⟩) h
theorem lp4 (f : Nat → Option PL) (gp bn bh : Nat) (w1 : World) (hP : PM w1 f 3 gp bn bh 4 [(7, 2)] [(5, [(7, 1)])]) (hF : Fro w1 f 3) : Calls Try.prog 16 #[.pointer (some ⟨gp, 0, none⟩), .int .u64 5] w1 fun en w' => ∃ g c, en = .returned (.tuple #[.slice (some ⟨g, 0, none⟩) 1 c, .bool true]) ∧ w'.cell? ⟨g, 0, none⟩ = some (.int .u64 7) ∧ w'.cell? ⟨g, 1, none⟩ = some (.int .u64 1) ∧ Below w1.heap.size w1 w' :=
  (held_c f 3 gp bn bh 4 [(7, 2)] [(5, [(7, 1)])] 5 w1 hP hF (by unfold u64wf; decide) (by omega)).mono fun en w' h => by
    obtain ⟨v, he, hR, hB⟩ := h
    obtain ⟨A, c, rfl⟩ := Kd.R_slice hR
    obtain ⟨ad, rfl, h0, h1⟩ := at_T90 (Kd.R_reads' hR).2.2 0 (by omega) (by decide)
    obtain ⟨g, rfl⟩ := Kd.R_head hR
    exact ⟨g, c, he, h0, h1, hB⟩
theorem lp5 (f : Nat → Option PL) (gp bn bh : Nat) (w1 : World) (hP : PM w1 f 3 gp bn bh 4 [(7, 2)] [(5, [(7, 1)])]) (hF : Fro w1 f 3) : Calls Try.prog 22 #[.pointer (some ⟨gp, 0, none⟩), .agg #[.int .u8 1, .int .u64 7, .int .u64 0, .int .u64 0, .int .u64 0, .bool false, .int .i64 0, .int .i64 0, .slice none 0 0, .int .u64 0, .int .u64 0], .agg #[.int .i64 0, .bool false, .int .u64 0, .bool false, .int .u64 0, .slice none 0 0, .int .u64 0]] w1 fun en w' => en = .returned (.bool false) ∧ KO w1 w' (fun k => k = bn ∨ k = bh) :=
  (take_rest (opL 1 7 0) ⟨0, false, 0, false, 0, [], 0⟩ none none 0 0 _ (get_c (opL 1 7 0) (opL_wf _ _ _ (by unfold u64wf; decide) (by unfold u64wf; decide)) rfl) f 3 gp bn bh 4 [(7, 2)] [(5, [(7, 1)])] w1 hP hF (by omega) (fun W' _ => Kd.C_nil _ _) (Nat.le_refl _) (fun k h1 h2 h3 => by simp [opL]; omega) (by decide)).mono fun en w' h => by
    obtain ⟨he, f', _, _, _, hK⟩ := h
    exact ⟨he, hK⟩
set_option maxRecDepth 100000 in
set_option maxHeartbeats 16000000 in
theorem live_c (w : World) : Calls Try.prog 11 #[] w fun e w' => e = .returned (.bool true) ∧ Below w.heap.size w w' := by
  have cN := new_c 4 (fun _ => none) w (fro_none w 0) (by omega) (by omega)
  go_enter Try.func11, Try.ntmps11
  go_upto_region 4 with (go_at_call 14; refine cN.mono ?_; rintro e w1 ⟨gp, bn, bh, rfl, hP1, hB1, hg1, hg2, hg3⟩)
  clear cN
  have hgl := hP1.gl
  have hnl := hP1.now.lt
  have hhl := hP1.held.1.lt
  have HP1 := Lib.hid hP1
  have HB1 := Lib.hid hB1
  clear hP1 hB1
  go_upto_region 5 with (go_at_call 15; (refine (lp1 gp bn bh w1 HP1.out).mono ?_; rintro e w2 ⟨A2, c2, rfl, f2, hE2, hP2, hF2, hK2⟩; have HP2 := Lib.hid hP2; have HF2 := Lib.hid hF2; have HK2 := Lib.hid hK2; clear hE2 hP2 hF2 hK2))
  have hz2 := HK2.out.kept.1
  obtain ⟨W2, hW2⟩ : ∃ W2, W2 = w2.alloc (Obj.cells #[Value.int IntKind.i64 0, Value.bool false, Value.int IntKind.u64 0, Value.bool false, Value.int IntKind.u64 0, Value.slice A2 0 c2, Value.int IntKind.u64 0] 26) := ⟨_, rfl⟩
  have hk2 : KO w2 W2 (fun _ => False) := by rw [hW2]; exact KO.of_below (below_alloc (Below.refl _ _) _) _
  have hb2 : W2.heap[w2.heap.size]? = some (.cells #[Value.int IntKind.i64 0, Value.bool false, Value.int IntKind.u64 0, Value.bool false, Value.int IntKind.u64 0, Value.slice A2 0 c2, Value.int IntKind.u64 0] 26 (0, 0)) := by rw [hW2]; exact heap_alloc_new _ _
  rw [← hW2]
  clear hW2
  have hPn2 := HP2.out.kept hk2.kept (fun e => e) (fun e => e) (fun e => e)
  have hFn2 := HF2.out.kept hk2.kept (fun _ _ _ e => e)
  have HPn2 := Lib.hid hPn2
  have HFn2 := Lib.hid hFn2
  have HB2 := Lib.hid hb2
  have HKn2 := Lib.hid hk2
  have hzz2 := blk_lt hb2
  clear hPn2 hFn2 hb2 hk2
  go_upto_region 6 with (go_at_call 15; (refine (lp2 f2 gp bn bh W2 HPn2.out HFn2.out).mono ?_; rintro e w3 ⟨A3, c3, rfl, f3, hE3, hP3, hF3, hK3⟩; have HP3 := Lib.hid hP3; have HF3 := Lib.hid hF3; have HK3 := Lib.hid hK3; clear hE3 hP3 hF3 hK3))
  have hz3 := HK3.out.kept.1
  obtain ⟨W3, hW3⟩ : ∃ W3, W3 = w3.alloc (Obj.cells #[Value.int IntKind.i64 0, Value.bool false, Value.int IntKind.u64 0, Value.bool false, Value.int IntKind.u64 5, Value.slice A3 0 c3, Value.int IntKind.u64 0] 26) := ⟨_, rfl⟩
  have hk3 : KO w3 W3 (fun _ => False) := by rw [hW3]; exact KO.of_below (below_alloc (Below.refl _ _) _) _
  have hb3 : W3.heap[w3.heap.size]? = some (.cells #[Value.int IntKind.i64 0, Value.bool false, Value.int IntKind.u64 0, Value.bool false, Value.int IntKind.u64 5, Value.slice A3 0 c3, Value.int IntKind.u64 0] 26 (0, 0)) := by rw [hW3]; exact heap_alloc_new _ _
  rw [← hW3]
  clear hW3
  have hPn3 := HP3.out.kept hk3.kept (fun e => e) (fun e => e) (fun e => e)
  have hFn3 := HF3.out.kept hk3.kept (fun _ _ _ e => e)
  have HPn3 := Lib.hid hPn3
  have HFn3 := Lib.hid hFn3
  have HB3 := Lib.hid hb3
  have HKn3 := Lib.hid hk3
  have hzz3 := blk_lt hb3
  clear hPn3 hFn3 hb3 hk3
  go_upto_region 7 with (go_at_call 15; (refine (lp3 f3 gp bn bh W3 HPn3.out HFn3.out).mono ?_; rintro e w4 ⟨A4, c4, rfl, f4, hE4, hP4, hF4, hK4⟩; have HP4 := Lib.hid hP4; have HF4 := Lib.hid hF4; have HK4 := Lib.hid hK4; clear hE4 hP4 hF4 hK4))
  have hz4 := HK4.out.kept.1
  obtain ⟨W4, hW4⟩ : ∃ W4, W4 = w4.alloc (Obj.cells #[Value.int IntKind.i64 0, Value.bool true, Value.int IntKind.u64 1, Value.bool false, Value.int IntKind.u64 0, Value.slice A4 0 c4, Value.int IntKind.u64 0] 26) := ⟨_, rfl⟩
  have hk4 : KO w4 W4 (fun _ => False) := by rw [hW4]; exact KO.of_below (below_alloc (Below.refl _ _) _) _
  have hb4 : W4.heap[w4.heap.size]? = some (.cells #[Value.int IntKind.i64 0, Value.bool true, Value.int IntKind.u64 1, Value.bool false, Value.int IntKind.u64 0, Value.slice A4 0 c4, Value.int IntKind.u64 0] 26 (0, 0)) := by rw [hW4]; exact heap_alloc_new _ _
  rw [← hW4]
  clear hW4
  have hPn4 := HP4.out.kept hk4.kept (fun e => e) (fun e => e) (fun e => e)
  have hFn4 := HF4.out.kept hk4.kept (fun _ _ _ e => e)
  have HPn4 := Lib.hid hPn4
  have HFn4 := Lib.hid hFn4
  have HB4 := Lib.hid hb4
  have HKn4 := Lib.hid hk4
  have hzz4 := blk_lt hb4
  clear hPn4 hFn4 hb4 hk4
  go_upto_region 8 with (go_at_call 16; (refine (lp4 f4 gp bn bh W4 HPn4.out HFn4.out).mono ?_; rintro e w5 ⟨g5, c5, rfl, hc7, hc1, hB5⟩; have HB5 := Lib.hid hB5; clear hB5))
  have hP5 := HPn4.out.kept (Kept.of_below HB5.out (fun _ => False)) (fun e => e) (fun e => e) (fun e => e)
  have hF5 := HFn4.out.kept (Kept.of_below HB5.out (fun _ => False)) (fun _ _ _ e => e)
  have b4 : w5.heap[w4.heap.size]? = _ := blk_kept HB4.out (Kept.of_below HB5.out (fun _ => False)) (fun e => e)
  have b3 : w5.heap[w3.heap.size]? = _ := blk_kept (blk_kept (blk_kept HB3.out HK4.out.kept (show ¬ (w3.heap.size = bn ∨ w3.heap.size = bh) by omega)) HKn4.out.kept (fun e => e)) (Kept.of_below HB5.out (fun _ => False)) (fun e => e)
  have b2 : w5.heap[w2.heap.size]? = _ := blk_kept (blk_kept (blk_kept (blk_kept (blk_kept HB2.out HK3.out.kept (show ¬ (w2.heap.size = bn ∨ w2.heap.size = bh) by omega)) HKn3.out.kept (fun e => e)) HK4.out.kept (show ¬ (w2.heap.size = bn ∨ w2.heap.size = bh) by omega)) HKn4.out.kept (fun e => e)) (Kept.of_below HB5.out (fun _ => False)) (fun e => e)
  have k21 : w5.cell? ⟨w2.heap.size, 1, none⟩ = some (.bool false) := by rw [blk_cell b2]; rfl
  have k34 : w5.cell? ⟨w3.heap.size, 4, none⟩ = some (.int .u64 5) := by rw [blk_cell b3]; rfl
  have k41 : w5.cell? ⟨w4.heap.size, 1, none⟩ = some (.bool true) := by rw [blk_cell b4]; rfl
  have k42 : w5.cell? ⟨w4.heap.size, 2, none⟩ = some (.int .u64 1) := by rw [blk_cell b4]; rfl
  have hend : KO w w5 (fun _ => False) := (((((((KO.of_below HB1.out (fun _ => False)).then_ HK2.out (fun k e => .inr (by omega))).then_ HKn2.out (fun _ e => e.elim)).then_ HK3.out (fun k e => .inr (by omega))).then_ HKn3.out (fun _ e => e.elim)).then_ HK4.out (fun k e => .inr (by omega))).then_ HKn4.out (fun _ e => e.elim)).then_ (KO.of_below HB5.out (fun _ => False)) (fun _ e => e.elim)
  have HEND := Lib.hid hend
  have HP5 := Lib.hid hP5
  have HF5 := Lib.hid hF5
  clear hend hP5 hF5 b2 b3 b4
  go_wp2_with (go_at_call 22; (refine (lp5 f4 gp bn bh w5 HP5.out HF5.out).mono ?_; rintro e w6 ⟨rfl, hK6⟩; have HK6 := Lib.hid hK6; clear hK6))
  go_ret
  exact ⟨rfl, (HEND.out.then_ HK6.out (fun k e => .inr (by omega))).below_of (fun _ e => e.elim)⟩
end Go.Proofs.Ytngocadnbpdnoaa.Mo
namespace Go.Proofs.Ytngocadnbpdnoaa.Mo
open Go Go.Maps Go.RowKit Go.Proofs.Ytngocadnbpdnoaa.Srt Go.Proofs.Ytngocadnbpdnoaa.Q Go.Proofs.YtngocadnbpdnoaaW.PrintWords Go.Proofs.YtngocadnbpdnoaaW.PrintLast Go.Proofs.YtngocadnbpdnoaaW.PrintMore
set_option linter.unusedVariables false
set_option linter.unusedSimpArgs false
/-! slices.DeleteFunc at pairs, with query's closure. -/
def outB (lo hi : Int) (p : SP) : Bool := decide (p.f0 < lo) || decide (hi < p.f0)
/-- Where the closure reads its bounds. -/
structure LoHi (w : World) (B : Nat) (lo hi : Int) : Prop where
  lt : B < w.heap.size
  lo : w.cell? ⟨B, 9, none⟩ = some (.int .u64 lo)
  hi : w.cell? ⟨B, 10, none⟩ = some (.int .u64 hi)
theorem LoHi.kept {w W : World} {B : Nat} {lo hi : Int} {S : Nat → Prop} (h : LoHi w B lo hi) (hk : Kept w W S) (hs : ¬ S B) : LoHi W B lo hi := ⟨Nat.lt_of_lt_of_le h.lt hk.1, cell_kept h.lo hk hs, cell_kept h.hi hk hs⟩
theorem LoHi.below {w W : World} {B : Nat} {lo hi : Int} (h : LoHi w B lo hi) (hb : Below w.heap.size w W) : LoHi W B lo hi := h.kept (Kept.of_below hb (fun _ => False)) (fun e => e)
set_option maxRecDepth 100000 in
theorem pred_c (B : Nat) (lo hi : Int) (p : SP) (w : World) (h : LoHi w B lo hi) :
    Calls Try.prog 84 #[.agg #[.int .u64 p.f0, .int .u64 p.f1], .pointer (some ⟨B, 0, none⟩)] w fun e w' => e = .returned (.bool (outB lo hi p)) ∧ Below w.heap.size w w' := by
  have h2 := h.below (below_alloc (Below.refl _ w) (.cells #[.int .u64 p.f0, .int .u64 p.f1] 90))
  have q0 := h2.lo
  have q1 := h2.hi
  have hl := h.lt
  clear h h2
  by_cases h1 : p.f0 < lo
  · have d1 : decide (p.f0 < lo) = true := decide_eq_true h1
    go_enter Try.func84, Try.ntmps84
    go_wp2
    go_ret
    exact ⟨by unfold outB; rw [d1]; rfl, below_alloc (Below.refl _ w) _⟩
  · have d1 : decide (p.f0 < lo) = false := decide_eq_false h1
    go_enter Try.func84, Try.ntmps84
    go_wp2
    go_ret
    exact ⟨by unfold outB; rw [d1]; rfl, below_alloc (Below.refl _ w) _⟩
theorem heapP' : Kd.Heap k90 := Kd.heap_iso _ (Kd.heap_pair (Kd.heap_int _) (Kd.heap_int _))
set_option maxRecDepth 100000 in
set_option maxHeartbeats 4000000 in
theorem idx_c (B : Nat) (lo hi : Int) (A : Option Addr) (c : Nat) (xs : List SP) (w : World) (h : LoHi w B lo hi) (hC : Kd.C k90 w A xs.length xs) (hm : xs.length ≤ 4398046511104) :
    Calls Try.prog 99 #[.slice A xs.length c, .func (.func 84) #[] #[.pointer (some ⟨B, 0, none⟩)]] w
      fun e w' => ((∃ i : Nat, ∃ hi' : i < xs.length, e = .returned (.int .i64 i) ∧ outB lo hi xs[i] = true ∧ ∀ j (hj : j < i), outB lo hi (xs[j]'(by omega)) = false) ∨ (e = .returned (.int .i64 (-1)) ∧ ∀ p ∈ xs, outB lo hi p = false)) ∧ Below w.heap.size w w' := by
  have HH := Lib.hid h
  have HC := Lib.hid hC
  clear h hC
  go_enter Try.func99, Try.ntmps99
  go_wp2_with fail
  go_loopw [8] (fun v8 wr => ∃ i : Nat, v8 = .int .i64 i ∧ i ≤ xs.length ∧ Hid ((∀ j (hj : j < i) (hl : j < xs.length), outB lo hi xs[j] = false) ∧ Below w.heap.size w wr))
    (fun v8 _ => xs.length - (intOf v8).toNat)
  case atStart => exact ⟨0, rfl, Nat.zero_le _, Lib.hid ⟨fun j hj => absurd hj (by omega), Below.refl _ _⟩⟩
  case round =>
    obtain ⟨i, rfl, hi', HI⟩ := hrel
    by_cases hlt : i < xs.length
    · obtain ⟨ad, rfl, y0, y1⟩ := at_T90 (Kd.Heap.C heapP' (fun k hk => HI.out.2.block k hk) HC.out) (i : Int) (by omega) (by omega)
      simp only [Int.toNat_natCast] at y0 y1
      rw [rd_get hlt] at y0 y1
      obtain ⟨p, hp⟩ : ∃ p, p = xs[i] := ⟨_, rfl⟩
      rw [← hp] at y0 y1
      have HPP := Lib.hid hp
      clear hp
      have hdec : decide ((i : Int) < (xs.length : Int)) = true := decide_eq_true (by omega)
      by_cases ho : outB lo hi p = true
      · go_wp2_with (go_at_call 84; refine (pred_c B lo hi p wr (HH.out.below HI.out.2)).mono ?_; rintro e w1 ⟨rfl, hb⟩; have HB := Lib.hid (HI.out.2.trans (hb.mono HI.out.2.size)); clear hb; rw [ho])
        go_ret
        exact ⟨.inl ⟨i, hlt, rfl, by rw [← HPP.out]; exact ho, fun j hj => HI.out.1 j hj (by omega)⟩, HB.out⟩
      · have ho' : outB lo hi p = false := by simpa using ho
        clear ho
        go_wp2_with (go_at_call 84; refine (pred_c B lo hi p wr (HH.out.below HI.out.2)).mono ?_; rintro e w1 ⟨rfl, hb⟩; have HB := Lib.hid (HI.out.2.trans (hb.mono HI.out.2.size)); clear hb; rw [ho'])
        go_roundw
        case rel => exact ⟨i + 1, by go_num, by omega, Lib.hid ⟨fun j hj hl => by
          by_cases e : j = i
          · subst e; rw [← HPP.out]; exact ho'
          · exact HI.out.1 j (by omega) hl, HB.out⟩⟩
        case measure => simp [intOf]; omega
    · obtain rfl : i = xs.length := by omega
      go_wp2_with fail
      go_ret
      exact ⟨.inr ⟨rfl, fun p hp => by
        obtain ⟨j, hj, rfl⟩ := List.getElem_of_mem hp
        exact HI.out.1 j hj hj⟩, HI.out.2⟩
theorem zero_cells_one (n : Nat) : ∀ v ∈ (Builtin.zeroCells #[.int .u64 0, .int .u64 0] n).toList, v.oneCell' = true := by
  intro v hv
  simp only [Builtin.zeroCells, Array.toList_map, List.mem_map] at hv
  obtain ⟨i, _, rfl⟩ := hv
  have h2 : i % 2 = 0 ∨ i % 2 = 1 := by omega
  show (#[Value.int .u64 0, Value.int .u64 0][i % 2]!).oneCell' = true
  rcases h2 with e | e <;> rw [e] <;> rfl
theorem zero_cells_len (n : Nat) : (Builtin.zeroCells #[.int .u64 0, .int .u64 0] n).toList.length = n * 2 := by
  simp [Builtin.zeroCells]
set_option maxRecDepth 100000 in
/-- clear(s[m:]) of one's own row. -/
theorem clear_row {g n c m c2 : Nat} {base : Nat} {ok : Nat → Prop} {xs : List SP} {W : World} (ty : TypeId) (h : kSP.R 90 W base ok (.slice (some ⟨g, 0, none⟩) n c) xs) (hm : m < n) :
    ∃ W', (Builtin.clear_ #[24] ty #[.slice (some ⟨g, m * 2, none⟩) (n - m) c2]).run Try.prog W = .ok (.tuple #[]) W' ∧ kSP.R 90 W' base ok (.slice (some ⟨g, 0, none⟩) m c) (xs.take m) ∧ W.grownBy W' (some g) := by
  have hr := Kd.R_reads' h
  have hT := Kd.R_take h (m := m) (by rw [← hr.1]; omega)
  obtain ⟨hok, inner, ho, hre⟩ := hT
  have hfull := h
  obtain ⟨_, inner0, ho0, _⟩ := hfull
  rcases ho0.2 with ⟨hv, _⟩ | ⟨g', cap', cur, hv, hb, hh, hnc, hcm, hcs, ht⟩
  · cases hv
  injection hv with ha hn' hc
  injection ha with ha
  injection ha with hg
  subst hg; subst hc
  have hlen := zero_cells_len (n - m)
  have hfit : m * 2 + 0 + (Builtin.zeroCells #[.int .u64 0, .int .u64 0] (n - m)).toList.length ≤ cur.size := by
    rw [hlen, hcs]
    show m * 2 + 0 + (n - m) * 2 ≤ c * 2
    have := hr.2.1
    omega
  have hrun := run_storeCells_at (P := Try.prog) g (m * 2) 90 (Builtin.zeroCells #[.int .u64 0, .int .u64 0] (n - m)).toList 0 cur W hh hfit (zero_cells_one _)
  obtain ⟨cur', hcur'⟩ : ∃ cur', cur' = (cur.toList.take (m * 2 + 0) ++ (Builtin.zeroCells #[.int .u64 0, .int .u64 0] (n - m)).toList ++ cur.toList.drop (m * 2 + 0 + (Builtin.zeroCells #[.int .u64 0, .int .u64 0] (n - m)).toList.length)).toArray := ⟨_, rfl⟩
  rw [← hcur'] at hrun
  have hz : (zeroValue 90).run Try.prog W = .ok (.agg #[.int .u64 0, .int .u64 0]) W := by
    first | (simp [zeroValue, typeInfo, go_sem, info90]; done) | kernel_rfl
  refine ⟨W.setRow g cur', ?_, ?_, ?_⟩
  · obtain ⟨q, hq⟩ : ∃ q, n - m = q + 1 := ⟨n - m - 1, by omega⟩
    rw [hq] at hrun ⊢
    unfold Builtin.clear_
    simp [Sem.run_bind, go_sem, hz, hrun, Value.cells]
  · rcases ho.2 with ⟨hv2, _⟩ | ⟨g2, cap2, cur2, hv2, hb2, hh2, hnc2, hcm2, hcs2, ht2⟩
    · cases hv2
    injection hv2 with ha2 hn2 hc2
    injection ha2 with ha2
    injection ha2 with hg2
    subst hg2; subst hc2
    rw [hh] at hh2
    injection hh2 with hh2
    injection hh2 with hh2
    subst hh2
    have hml : (xs.take m).length = m := by rw [List.length_take]; omega
    rw [hml] at ho ht2 hnc2
    have hsz : m * 2 ≤ cur.size := by
      have h3 : cur.size = c * 2 := hcs
      have := hr.2.1
      omega
    refine ⟨hok, inner, ⟨by rw [hml]; exact ho.1, .inr ⟨g, c, cur', by rw [hml], hb2, setRow_heap W g cur cur' _ _ hh, by rw [hml]; exact hnc2, hcm2, ?_, ?_⟩⟩, hre.imp_ (fun _ _ hk => Kd.M_kept hk (Kept_row W g cur') (fun k hk2 e => hk2.2 (by rw [e]; rfl)))⟩
    · have hl2 : (Builtin.zeroCells #[.int .u64 0, .int .u64 0] (n - m)).size = (n - m) * 2 := by simpa using hlen
      have h3 : cur.size = c * 2 := hcs
      have h4 := hr.2.1
      show cur'.size = c * 2
      rw [hcur']
      simp only [List.size_toArray, List.length_append, List.length_take, List.length_drop, Array.length_toList]
      omega
    · rw [hml, hcur', ← ht2]
      show (_ ++ _ ++ _ : List Value).take (m * 2) = _
      rw [List.append_assoc, List.take_append_of_le_length (by rw [List.length_take, Array.length_toList]; omega), List.take_take, Nat.min_eq_left (by omega)]
      rfl
  · exact ⟨rfl, rfl, rfl, by simp, fun k hk hne => setRow_other W g k cur' (fun e => hne (by rw [e]))⟩
end Go.Proofs.Ytngocadnbpdnoaa.Mo
namespace Go.Proofs.Ytngocadnbpdnoaa.Mo
open Go Go.Maps Go.RowKit Go.Proofs.Ytngocadnbpdnoaa.Srt Go.Proofs.Ytngocadnbpdnoaa.Q Go.Proofs.YtngocadnbpdnoaaW.PrintWords Go.Proofs.YtngocadnbpdnoaaW.PrintLast Go.Proofs.YtngocadnbpdnoaaW.PrintMore
set_option linter.unusedVariables false
set_option linter.unusedSimpArgs false
/-- Which pairs stay. -/
def stays (lo hi : Int) (xs : List SP) : List SP := xs.filter (fun p => !outB lo hi p)
theorem stays_none {lo hi : Int} {xs : List SP} (h : ∀ p ∈ xs, outB lo hi p = false) : stays lo hi xs = xs := List.filter_eq_self.2 (fun p hp => by rw [h p hp]; rfl)
theorem stays_snoc (lo hi : Int) (xs : List SP) (j : Nat) (h : j < xs.length) : stays lo hi (xs.take (j + 1)) = stays lo hi (xs.take j) ++ (if outB lo hi xs[j] = true then [] else [xs[j]]) := by
  unfold stays
  rw [List.take_succ_eq_append_getElem h, List.filter_append]
  congr 1
  by_cases ho : outB lo hi xs[j] = true
  · simp [ho]
  · simp [ho]
/-- What a round of DeleteFunc keeps: i of the first j stand at the front. -/
structure DelI (lo hi : Int) (xs cur : List SP) (i j : Nat) : Prop where
  len : cur.length = xs.length
  lt : i < j
  le : j ≤ xs.length
  front : cur.take i = stays lo hi (xs.take j)
  back : cur.drop j = xs.drop j
theorem DelI.at {lo hi : Int} {xs cur : List SP} {i j : Nat} (h : DelI lo hi xs cur i j) (hj : j < xs.length) : cur[j]'(by rw [h.len]; exact hj) = xs[j] := by
  have h1 : j < cur.length := by rw [h.len]; exact hj
  have := (drop_iff h1 hj).1 h.back
  exact this.1
theorem DelI.skip {lo hi : Int} {xs cur : List SP} {i j : Nat} (h : DelI lo hi xs cur i j) (hj : j < xs.length) (ho : outB lo hi xs[j] = true) : DelI lo hi xs cur i (j + 1) :=
  ⟨h.len, by have := h.lt; omega, hj, by rw [stays_snoc lo hi xs j hj, if_pos ho, List.append_nil]; exact h.front, by
    have h1 : j < cur.length := by rw [h.len]; exact hj
    exact ((drop_iff h1 hj).1 h.back).2⟩
theorem DelI.keep {lo hi : Int} {xs cur : List SP} {i j : Nat} (h : DelI lo hi xs cur i j) (hj : j < xs.length) (ho : outB lo hi xs[j] = false) : DelI lo hi xs (cur.set i xs[j]) (i + 1) (j + 1) := by
  have h1 : j < cur.length := by rw [h.len]; exact hj
  have hci : i < cur.length := by have := h.lt; omega
  refine ⟨by rw [List.length_set]; exact h.len, by have := h.lt; omega, hj, ?_, ?_⟩
  · rw [stays_snoc lo hi xs j hj, if_neg (by rw [ho]; simp), ← h.front, List.take_succ_eq_append_getElem (by rw [List.length_set]; exact hci), List.getElem_set_self, List.take_set_of_le (Nat.le_refl i)]
  · rw [List.drop_set_of_lt (by have := h.lt; omega)]
    exact ((drop_iff h1 hj).1 h.back).2
theorem DelI.start {lo hi : Int} {xs : List SP} {i : Nat} (hi' : i < xs.length) (ho : outB lo hi xs[i] = true) (hn : ∀ j (hj : j < i), outB lo hi (xs[j]'(by omega)) = false) : DelI lo hi xs xs i (i + 1) :=
  ⟨rfl, Nat.lt_succ_self i, hi', by
    rw [stays_snoc lo hi xs i hi', if_pos ho, List.append_nil]
    exact (stays_none (fun p hp => by
      obtain ⟨j, hj, rfl⟩ := List.getElem_of_mem hp
      rw [List.length_take] at hj
      rw [List.getElem_take]
      exact hn j (by omega))).symm, rfl⟩
theorem add0 (g k : Nat) : (⟨g, 0, none⟩ : Addr).add k = ⟨g, k, none⟩ := by unfold Addr.add; split <;> simp_all
set_option maxRecDepth 100000 in
set_option maxHeartbeats 8000000 in
theorem del_c (B : Nat) (lo hi : Int) (A : Option Addr) (c : Nat) (xs : List SP) (base : Nat) (w : World) (h : LoHi w B lo hi) (HO : kSP.R 90 w base (fun _ => True) (.slice A xs.length c) xs) (hBb : B < base) (hm : xs.length ≤ 4398046511104) (hbase : base ≤ w.heap.size) :
    Calls Try.prog 83 #[.slice A xs.length c, .func (.func 84) #[] #[.pointer (some ⟨B, 0, none⟩)]] w
      fun e w' => ∃ v, e = .returned v ∧ kSP.R 90 w' base (fun _ => True) v (stays lo hi xs) ∧ Below base w w' := by
  have cI := idx_c B lo hi A c xs w h (Kd.R_reads' HO).2.2 hm
  have HH := Lib.hid h
  have HR := Lib.hid HO
  clear h HO
  go_enter Try.func83, Try.ntmps83
  go_upto_region 2 with (go_at_call 99; refine cI.mono ?_; rintro e w1 ⟨hcase, hb1⟩; rcases hcase with ⟨i, hi', rfl, ho, hn⟩ | ⟨rfl, hno⟩)
  · have hne : ((i : Int) == -1) = false := beq_eq_false_iff_ne.2 (by omega)
    have HR1 := Lib.hid (Kd.R_below HR.out hb1)
    have HB1 := Lib.hid (hb1.mono hbase)
    have HD1 := Lib.hid (DelI.start hi' ho hn)
    obtain ⟨g, cap, hv, hbg, -, -⟩ := Kd.R_form HR1.out (by omega)
    injection hv with hA _ hc
    subst hA; subst hc
    clear HR hb1 ho hn cI
    go_wp2_with fail
    go_loopw [5, 6, 7] (fun v5 v6 v7 wr => ∃ (i j : Nat) (cur : List SP), v5 = .int .i64 i ∧ v6 = .int .i64 j ∧ Hid (kSP.R 90 wr base (fun _ => True) (.slice (some ⟨g, 0, none⟩) xs.length c) cur) ∧ Hid (DelI lo hi xs cur i j) ∧ Hid (Below base w wr) ∧ w.heap.size ≤ wr.heap.size)
      (fun _ v6 _ _ => xs.length - (intOf v6).toNat)
    case atStart => exact ⟨i, i + 1, xs, by go_num, by go_num, HR1, HD1, HB1, HB1.out.size⟩
    case round =>
      obtain ⟨i, j, cur, rfl, rfl, HR, HD, HB, hws⟩ := hrel
      have hcl := HD.out.len
      have hij := HD.out.lt
      have hjl := HD.out.le
      by_cases hlt : j < xs.length
      · have hdec : decide ((j : Int) < (xs.length : Int)) = true := decide_eq_true (by omega)
        obtain ⟨ad, e', y0, y1⟩ := at_T90 (Kd.R_reads' HR.out).2.2 (j : Int) (by omega) (by omega)
        cases e'
        simp only [Int.toNat_natCast, add0] at y0 y1
        rw [rd_get (by omega), HD.out.at hlt] at y0 y1
        obtain ⟨p, hp⟩ : ∃ p, p = xs[j] := ⟨_, rfl⟩
        rw [← hp] at y0 y1
        have HPP := Lib.hid hp
        clear hp
        have HL : Hid (LoHi wr B lo hi) := Lib.hid (HH.out.kept (S := fun k => base ≤ k) ⟨hws, fun k _ hk => HB.out.block k (by omega)⟩ (by omega))
        by_cases ho : outB lo hi p = true
        · go_wp2_with (go_at_call 84; refine (pred_c B lo hi p _ (HL.out.below (below_alloc (Below.refl _ wr) _))).mono ?_; rintro e w3 ⟨rfl, hb3⟩; have HB3 := Lib.hid ((below_alloc (Below.refl wr.heap.size wr) _).trans (hb3.mono (by simp))); clear hb3; rw [ho])
          go_roundw
          case rel => exact ⟨i, j + 1, cur, rfl, by go_num, Lib.hid (Kd.R_below HR.out HB3.out), Lib.hid (HD.out.skip hlt (by rw [← HPP.out]; exact ho)), Lib.hid (HB.out.trans (HB3.out.mono (by omega))), Nat.le_trans hws HB3.out.size⟩
          case measure => simp [intOf]; omega
        · have ho' : outB lo hi p = false := by simpa using ho
          clear ho
          have hcur : i < cur.length := by omega
          go_wp2_with (first
            | (go_at_call 84
               refine (pred_c B lo hi p (wr.alloc (.cells #[.int .u64 p.f0, .int .u64 p.f1] 90)) (HL.out.below (below_alloc (Below.refl _ wr) _))).mono ?_
               rintro e w3 ⟨rfl, hb3⟩
               have z0 : w3.cell? ⟨wr.heap.size, 0, none⟩ = some (.int .u64 p.f0) := (hb3.cell (p := ⟨wr.heap.size, 0, none⟩) (by simp)).trans (by rw [blk_cell (heap_alloc_new wr _)]; rfl)
               have z1 : w3.cell? ⟨wr.heap.size, 1, none⟩ = some (.int .u64 p.f1) := (hb3.cell (p := ⟨wr.heap.size, 1, none⟩) (by simp)).trans (by rw [blk_cell (heap_alloc_new wr _)]; rfl)
               have HB3 := Lib.hid ((below_alloc (Below.refl wr.heap.size wr) (.cells #[.int .u64 p.f0, .int .u64 p.f1] 90)).trans (hb3.mono (by simp)))
               have HR3 := Lib.hid (Kd.R_below HR.out HB3.out)
               have HBB3 := Lib.hid (HB.out.trans (HB3.out.mono (by omega : base ≤ wr.heap.size)))
               clear hb3
               rw [ho'])
            | ((with_reducible refine gate_store (t := 90) (p := 33) rfl ?_)
               obtain ⟨cc, hcc1, hcc2, hcc3, -⟩ := Kd.R_elem HR3.out z90 (i : Int) (by omega) (by omega)
               refine Kd.R_store kSP (w0 := w) base rfl rfl 90 (.tmp 33) (.tmp 32) rfl 90 (i : Int) 0 cur p (.agg #[.int .u64 p.f0, .int .u64 p.f1]) [.int .u64 p.f0, .int .u64 p.f1] cc (fun _ => True) (fun _ => False) rfl (by show i * 2 = (i : Int).toNat * 2 + 0; simp) rfl rfl (by kernel_rfl) (by intro q hq; simp at hq; rcases hq with rfl | rfl <;> rfl) HR3.out (by omega) (by omega) hcc1 hcc3 (by show 0 + 2 ≤ 2; omega) ?hM (fun _ e => e.elim) HBB3.out ?_
               (case hM => (rw [List.take_zero, List.nil_append, List.drop_eq_nil_of_le (by rw [hcc1]; show 2 ≤ 0 + 2; omega), List.append_nil]; exact k90_mkM _ _ _ p))
               intro w4 hr4 hb4 hg4
               have HR4 := Lib.hid hr4
               have HBB4 := Lib.hid hb4
               have HS4 := Lib.hid (Nat.le_trans HB3.out.size hg4.size)
               clear hr4 hb4 hg4 hcc1 hcc2 hcc3))
          go_roundw
          case rel => exact ⟨i + 1, j + 1, cur.set i p, by go_num, by go_num, HR4, Lib.hid (by rw [HPP.out]; exact HD.out.keep hlt (by rw [← HPP.out]; exact ho')), HBB4, Nat.le_trans hws HS4.out⟩
          case measure => simp [intOf]; omega
      · obtain rfl : j = xs.length := by omega
        have hdec : decide ((xs.length : Int) < (xs.length : Int)) = false := by simp
        have hnc := (Kd.R_reads' HR.out).2.1
        obtain ⟨w5, hrun5, hR5, hg5⟩ := clear_row (c2 := c - i) 0 HR.out (by omega)
        have HR5 := Lib.hid hR5
        have HB5 := Lib.hid (HB.out.grown hg5 (by omega : base ≤ wr.heap.size) (fun k hk => by cases hk; exact hbg))
        have hfr := HD.out.front
        rw [List.take_length] at hfr
        have HFR := Lib.hid hfr
        clear hR5 hg5 hfr
        go_wp2_with fail
        go_ret
        exact ⟨_, rfl, by rw [← HFR.out]; exact HR5.out, HB5.out⟩
  · have HR1 := Lib.hid (Kd.R_below HR.out hb1)
    have HB1 := Lib.hid (hb1.mono hbase)
    have HN := Lib.hid (stays_none hno)
    clear HR hb1 hno cI
    go_wp2_with fail
    go_ret
    exact ⟨_, rfl, by rw [HN.out]; exact HR1.out, HB1.out⟩
end Go.Proofs.Ytngocadnbpdnoaa.Mo
namespace Go.Proofs.Ytngocadnbpdnoaa.Mo
open Go Go.Maps Go.RowKit Go.Proofs.Ytngocadnbpdnoaa.Srt Go.Proofs.Ytngocadnbpdnoaa.Q Go.Proofs.YtngocadnbpdnoaaW.PrintWords Go.Proofs.YtngocadnbpdnoaaW.PrintLast Go.Proofs.YtngocadnbpdnoaaW.PrintMore
set_option linter.unusedVariables false
set_option linter.unusedSimpArgs false
def within (lo hi : Int) (l : PL) : PL := l.filter (fun p => !(decide (p.1 < lo) || decide (hi < p.1)))
theorem stays_toS (lo hi : Int) (l : PL) : stays lo hi (toS l) = toS (within lo hi l) := by
  unfold stays within toS
  rw [List.filter_map]
  rfl
theorem below_row {B : Nat} {w W : World} (h : Below B w W) {g : Nat} (hg : B ≤ g) (cs : Array Value) : Below B w (W.setRow g cs) := h.trans ⟨rfl, rfl, rfl, by simp, fun k hk => setRow_other W g k cs (by omega)⟩
theorem wrapU (n : Nat) (h : n ≤ 1099511627776) : IntKind.u64.wrap (n : Int) = (n : Int) := by simp [IntKind.wrap, IntKind.signed, IntKind.bits]; omega
def zA : Array Value := #[.int .i64 0, .bool false, .int .u64 0, .bool false, .int .u64 0, .slice none 0 0, .int .u64 0]
/-- Behind the boxes of query. -/
def qW (w : World) (o : OpS) (A : Option Addr) (c : Nat) : World := ((w.alloc (.cells (opC o A c) 39)).alloc (.cells (ansC 0 false 0 false 0 (.slice none 0 0) 0) 26)).alloc (.cells (ansC 0 false 0 false 0 (.slice none 0 0) 0) 26)
theorem qW_below (w : World) (o : OpS) (A : Option Addr) (c : Nat) : Below w.heap.size w (qW w o A c) := below_alloc (below_alloc (below_alloc (Below.refl _ _) _) _) _
theorem qW_size (w : World) (o : OpS) (A : Option Addr) (c : Nat) : (qW w o A c).heap.size = w.heap.size + 3 := by simp [qW]
theorem qW_op (w : World) (o : OpS) (A : Option Addr) (c : Nat) : (qW w o A c).heap[w.heap.size]? = some (.cells (opC o A c) 39 (0, 0)) := ((below_alloc (Below.refl _ (doW w o A c)) _).block _ (by rw [doW_size]; omega)).trans (doW_op w o A c)
theorem qW_r (w : World) (o : OpS) (A : Option Addr) (c : Nat) : (qW w o A c).heap[w.heap.size + 1]? = some (.cells (ansC 0 false 0 false 0 (.slice none 0 0) 0) 26 (0, 0)) := ((below_alloc (Below.refl _ (doW w o A c)) _).block _ (by rw [doW_size]; omega)).trans (doW_ans w o A c)
theorem qW_a (w : World) (o : OpS) (A : Option Addr) (c : Nat) : (qW w o A c).heap[w.heap.size + 2]? = some (.cells (ansC 0 false 0 false 0 (.slice none 0 0) 0) 26 (0, 0)) := by
  have := heap_alloc_new (doW w o A c) (.cells (ansC 0 false 0 false 0 (.slice none 0 0) 0) 26)
  rw [doW_size] at this
  exact this
set_option maxRecDepth 100000 in
set_option maxHeartbeats 8000000 in
theorem query_ct (o : OpS) (A : Option Addr) (c bx N : Nat) (l : PL) (w : World) (hM : MapN w bx N l) (hN : l.length ≤ 1099511627776) (hk : o.f0 = 9) :
    Calls Try.prog 37 #[.agg (opC o A c), .map (some bx)] w fun e w' => ∃ ps, e = .returned (ansV 0 false 0 false 0 ps ((toS (within o.f7 o.f8 l)).length : Int)) ∧ kSP.R 90 w' w.heap.size (fun _ => True) ps (toS []) ∧ Below w.heap.size w w' := by
  have hb0 := qW_below w o A c
  have hs0 := qW_size w o A c
  have hO0 := qW_op w o A c
  have hR0 := qW_r w o A c
  have hA0 := qW_a w o A c
  have hkd : (qW w o A c).cell? ⟨w.heap.size, 0, none⟩ = some (.int .u8 o.f0) := (op_cells hO0).1
  have cS := sorted_c bx N l (qW w o A c) (hM.below hb0) hN
  go_enter Try.func37, Try.ntmps37
  go_upto_region 2 with fail
  change Code.wp _ _ _ _ (qW w o A c)
  obtain ⟨W, hW⟩ : ∃ W, W = qW w o A c := ⟨_, rfl⟩
  rw [← hW] at hb0 hs0 hO0 hR0 hA0 hkd cS ⊢
  clear hW
  have HB0 := Lib.hid hb0
  have HO0 := Lib.hid hO0
  have HR0 := Lib.hid hR0
  have HA0 := Lib.hid hA0
  clear hb0 hO0 hR0 hA0 hM
  go_upto_region 12 with (first
    | (go_at_call 38
       refine cS.mono ?_
       rintro e w4 ⟨v4, rfl, hR4, hB4⟩
       obtain ⟨A4, c4, rfl⟩ := Kd.R_slice hR4
       have HR4 := Lib.hid hR4
       have HB4 := Lib.hid hB4
       have HLH : Hid (LoHi w4 w.heap.size o.f7 o.f8) := Lib.hid (LoHi.below ⟨by omega, (op_cells HO0.out).2.2.2.2.2.2.2.2.2.1, (op_cells HO0.out).2.2.2.2.2.2.2.2.2.2⟩ hB4)
       clear hR4 hB4)
    | (go_at_call 83
       refine (del_c w.heap.size o.f7 o.f8 A4 c4 (toS l) W.heap.size w4 HLH.out HR4.out (by omega) (by rw [toS_length]; omega) HB4.out.size).mono ?_
       rintro e w5 ⟨v5, rfl, hR5, hB5⟩
       rw [stays_toS] at hR5
       obtain ⟨A5, c5, rfl⟩ := Kd.R_slice hR5
       have HR5 := Lib.hid hR5
       have HB5 := Lib.hid (HB4.out.trans hB5)
       clear hR5 hB5))
  have hz5 := HB5.out.size
  have hO5 : w5.heap[w.heap.size]? = some (.cells (opC o A c) 39 (0, 0)) := (HB5.out.block _ (by omega)).trans HO0.out
  have hR5' : w5.heap[w.heap.size + 1]? = some (.cells (ansC 0 false 0 false 0 (.slice none 0 0) 0) 26 (0, 0)) := (HB5.out.block _ (by omega)).trans HR0.out
  have hA5 : w5.heap[w.heap.size + 2]? = some (.cells (ansC 0 false 0 false 0 (.slice none 0 0) 0) 26 (0, 0)) := (HB5.out.block _ (by omega)).trans HA0.out
  have hkd5 : w5.cell? ⟨w.heap.size, 0, none⟩ = some (.int .u8 o.f0) := (op_cells hO5).1
  have hBB5 : Below w.heap.size w w5 := HB0.out.trans (HB5.out.mono HB0.out.size)
  have hRR5 : kSP.R 90 w5 w.heap.size (fun k => w.heap.size + 3 ≤ k) (.slice A5 (toS (within o.f7 o.f8 l)).length c5) (toS (within o.f7 o.f8 l)) := Kd.R_lower (Kd.R_mono (Kd.R_bound HR5.out) (fun k hk => by have := hk.2.1; omega)) (by omega)
  have hlen : (toS (within o.f7 o.f8 l)).length ≤ 1099511627776 := by rw [toS_length]; exact Nat.le_trans (List.length_filter_le _ _) hN
  obtain ⟨ws, hws⟩ : ∃ ws, ws = within o.f7 o.f8 l := ⟨_, rfl⟩
  rw [← hws] at hRR5 hlen ⊢
  have HR5' := Lib.hid hR5'
  have HA5 := Lib.hid hA5
  have HRR5 := Lib.hid hRR5
  have HBB5 := Lib.hid hBB5
  have HWS := Lib.hid hws
  clear hws hR5' hA5 hRR5 hBB5 hO5 HR5 HB5 HR4 HB4 HLH cS
  rw [hk] at hkd hkd5
  rw [show w.heap.size + 1 + 1 = w.heap.size + 2 from rfl]
  have hwr := wrapU _ hlen
  have hd6 : w5.cell? ⟨w.heap.size + 2, 6, none⟩ = some (.int .u64 0) := by rw [blk_cell HA5.out]; rfl
  have hf6 : w5.frozen? ⟨w.heap.size + 2, 6, none⟩ = false := by simp [World.frozen?, HA5.out]
  have hsc : w5.setCell ⟨w.heap.size + 2, 6, none⟩ (.int .u64 ((toS ws).length : Int)) = w5.setRow (w.heap.size + 2) (ansC 0 false 0 false 0 (.slice none 0 0) ((toS ws).length : Int)) := setCell_eq_setRow w5 (w.heap.size + 2) 6 _ _ _ (.int .u64 ((toS ws).length : Int)) HA5.out
  obtain ⟨w6, hw6⟩ : ∃ w6, w6 = w5.setRow (w.heap.size + 2) (ansC 0 false 0 false 0 (.slice none 0 0) ((toS ws).length : Int)) := ⟨_, rfl⟩
  have HA6 : Hid (w6.heap[w.heap.size + 2]? = some (.cells (ansC 0 false 0 false 0 (.slice none 0 0) ((toS ws).length : Int)) 26 (0, 0))) := Lib.hid (by rw [hw6]; exact setRow_heap _ _ _ _ _ _ HA5.out)
  have HR6 : Hid (w6.heap[w.heap.size + 1]? = some (.cells (ansC 0 false 0 false 0 (.slice none 0 0) 0) 26 (0, 0))) := Lib.hid (by rw [hw6]; exact (setRow_other w5 (w.heap.size + 2) (w.heap.size + 1) _ (by omega)).trans HR5'.out)
  have HBB6 : Hid (Below w.heap.size w w6) := Lib.hid (by rw [hw6]; exact below_row HBB5.out (by omega) _)
  have HRR6 : Hid (kSP.R 90 w6 w.heap.size (fun k => w.heap.size + 3 ≤ k) (.slice A5 (toS ws).length c5) (toS ws)) := Lib.hid (by rw [hw6]; exact Kd.R_kept HRR5.out (Kept_row w5 (w.heap.size + 2) _) (fun k hk e => by omega))
  rw [← hw6] at hsc
  clear hw6
  obtain ⟨l0, l1, l2, l3, l4, l5, l6⟩ := ans_cells HA6.out
  go_wp2_with (first | ((with_reducible refine gate_store (t := 26) (p := 4) rfl ?_); refine wpList_store_row rfl 26 (.tmp 4) (.tmp 54) rfl (w.heap.size + 1) (ansC 0 false 0 false 0 (.slice none 0 0) ((toS ws).length : Int)) rfl rfl 26 _ HR6.out (by kernel_rfl) rfl (ansC_one _ _ _ _ _ _ _ _ _) ?_))
  refine bodyPost_ret (res_ans rfl _ rfl (setRow_heap _ _ _ _ _ _ HR6.out)) rfl ⟨_, by rw [HWS.out], Kd.R_nil _ _ _ _ _, below_row HBB6.out (by omega) _⟩
set_option maxRecDepth 100000 in
set_option maxHeartbeats 8000000 in
theorem query_rgS (o : OpS) (A : Option Addr) (c bx N : Nat) (l : PL) (w : World) (hM : MapN w bx N l) (hN : l.length ≤ 1099511627776) (h7 : o.f0 ≠ 7) (h9 : o.f0 ≠ 9) (hne : within o.f7 o.f8 l ≠ []) :
    Calls Try.prog 37 #[.agg (opC o A c), .map (some bx)] w fun e w' => ∃ ps, e = .returned (ansV 0 false 0 false 0 ps 0) ∧ kSP.R 90 w' w.heap.size (fun _ => True) ps (toS (within o.f7 o.f8 l)) ∧ Below w.heap.size w w' := by
  have hb0 := qW_below w o A c
  have hs0 := qW_size w o A c
  have hO0 := qW_op w o A c
  have hR0 := qW_r w o A c
  have hA0 := qW_a w o A c
  have hkd : (qW w o A c).cell? ⟨w.heap.size, 0, none⟩ = some (.int .u8 o.f0) := (op_cells hO0).1
  have cS := sorted_c bx N l (qW w o A c) (hM.below hb0) hN
  have k7 : (o.f0 == 7) = false := beq_eq_false_iff_ne.2 h7
  have HNE := Lib.hid hne
  clear hne
  go_enter Try.func37, Try.ntmps37
  go_upto_region 2 with fail
  change Code.wp _ _ _ _ (qW w o A c)
  obtain ⟨W, hW⟩ : ∃ W, W = qW w o A c := ⟨_, rfl⟩
  rw [← hW] at hb0 hs0 hO0 hR0 hA0 hkd cS ⊢
  clear hW
  have HB0 := Lib.hid hb0
  have HO0 := Lib.hid hO0
  have HR0 := Lib.hid hR0
  have HA0 := Lib.hid hA0
  clear hb0 hO0 hR0 hA0 hM
  go_upto_region 12 with (first
    | (go_at_call 38
       refine cS.mono ?_
       rintro e w4 ⟨v4, rfl, hR4, hB4⟩
       obtain ⟨A4, c4, rfl⟩ := Kd.R_slice hR4
       have HR4 := Lib.hid hR4
       have HB4 := Lib.hid hB4
       have HLH : Hid (LoHi w4 w.heap.size o.f7 o.f8) := Lib.hid (LoHi.below ⟨by omega, (op_cells HO0.out).2.2.2.2.2.2.2.2.2.1, (op_cells HO0.out).2.2.2.2.2.2.2.2.2.2⟩ hB4)
       clear hR4 hB4)
    | (go_at_call 83
       refine (del_c w.heap.size o.f7 o.f8 A4 c4 (toS l) W.heap.size w4 HLH.out HR4.out (by omega) (by rw [toS_length]; omega) HB4.out.size).mono ?_
       rintro e w5 ⟨v5, rfl, hR5, hB5⟩
       rw [stays_toS] at hR5
       obtain ⟨A5, c5, rfl⟩ := Kd.R_slice hR5
       have HR5 := Lib.hid hR5
       have HB5 := Lib.hid (HB4.out.trans hB5)
       clear hR5 hB5))
  have hz5 := HB5.out.size
  have hO5 : w5.heap[w.heap.size]? = some (.cells (opC o A c) 39 (0, 0)) := (HB5.out.block _ (by omega)).trans HO0.out
  have hR5' : w5.heap[w.heap.size + 1]? = some (.cells (ansC 0 false 0 false 0 (.slice none 0 0) 0) 26 (0, 0)) := (HB5.out.block _ (by omega)).trans HR0.out
  have hA5 : w5.heap[w.heap.size + 2]? = some (.cells (ansC 0 false 0 false 0 (.slice none 0 0) 0) 26 (0, 0)) := (HB5.out.block _ (by omega)).trans HA0.out
  have hkd5 : w5.cell? ⟨w.heap.size, 0, none⟩ = some (.int .u8 o.f0) := (op_cells hO5).1
  have hBB5 : Below w.heap.size w w5 := HB0.out.trans (HB5.out.mono HB0.out.size)
  have hRR5 : kSP.R 90 w5 w.heap.size (fun k => w.heap.size + 3 ≤ k) (.slice A5 (toS (within o.f7 o.f8 l)).length c5) (toS (within o.f7 o.f8 l)) := Kd.R_lower (Kd.R_mono (Kd.R_bound HR5.out) (fun k hk => by have := hk.2.1; omega)) (by omega)
  have hlen : (toS (within o.f7 o.f8 l)).length ≤ 1099511627776 := by rw [toS_length]; exact Nat.le_trans (List.length_filter_le _ _) hN
  obtain ⟨ws, hws⟩ : ∃ ws, ws = within o.f7 o.f8 l := ⟨_, rfl⟩
  rw [← hws] at hRR5 hlen ⊢
  have HR5' := Lib.hid hR5'
  have HA5 := Lib.hid hA5
  have HRR5 := Lib.hid hRR5
  have HBB5 := Lib.hid hBB5
  have HWS := Lib.hid hws
  clear hws hR5' hA5 hRR5 hBB5 hO5 HR5 HB5 HR4 HB4 HLH cS
  have k9 : (o.f0 == 9) = false := beq_eq_false_iff_ne.2 h9
  have hpos : 0 < (toS ws).length := by
    have hne := HNE.out
    rw [← HWS.out] at hne
    rw [toS_length]; exact List.length_pos_iff.2 hne
  rw [show w.heap.size + 1 + 1 = w.heap.size + 2 from rfl]
  have hd6 : w5.cell? ⟨w.heap.size + 2, 5, none⟩ = some (.slice none 0 0) := by rw [blk_cell HA5.out]; rfl
  have hf6 : w5.frozen? ⟨w.heap.size + 2, 5, none⟩ = false := by simp [World.frozen?, HA5.out]
  have hsc : w5.setCell ⟨w.heap.size + 2, 5, none⟩ (.slice A5 (toS ws).length c5) = w5.setRow (w.heap.size + 2) (ansC 0 false 0 false 0 (.slice A5 (toS ws).length c5) 0) := setCell_eq_setRow w5 (w.heap.size + 2) 5 _ _ _ (.slice A5 (toS ws).length c5) HA5.out
  obtain ⟨w6, hw6⟩ : ∃ w6, w6 = w5.setRow (w.heap.size + 2) (ansC 0 false 0 false 0 (.slice A5 (toS ws).length c5) 0) := ⟨_, rfl⟩
  have HA6 : Hid (w6.heap[w.heap.size + 2]? = some (.cells (ansC 0 false 0 false 0 (.slice A5 (toS ws).length c5) 0) 26 (0, 0))) := Lib.hid (by rw [hw6]; exact setRow_heap _ _ _ _ _ _ HA5.out)
  have HR6 : Hid (w6.heap[w.heap.size + 1]? = some (.cells (ansC 0 false 0 false 0 (.slice none 0 0) 0) 26 (0, 0))) := Lib.hid (by rw [hw6]; exact (setRow_other w5 (w.heap.size + 2) (w.heap.size + 1) _ (by omega)).trans HR5'.out)
  have HBB6 : Hid (Below w.heap.size w w6) := Lib.hid (by rw [hw6]; exact below_row HBB5.out (by omega) _)
  have HRR6 : Hid (kSP.R 90 w6 w.heap.size (fun k => w.heap.size + 3 ≤ k) (.slice A5 (toS ws).length c5) (toS ws)) := Lib.hid (by rw [hw6]; exact Kd.R_kept HRR5.out (Kept_row w5 (w.heap.size + 2) _) (fun k hk e => by omega))
  rw [← hw6] at hsc
  clear hw6
  obtain ⟨l0, l1, l2, l3, l4, l5, l6⟩ := ans_cells HA6.out
  go_wp2_with (first | ((with_reducible refine gate_store (t := 26) (p := 4) rfl ?_); refine wpList_store_row rfl 26 (.tmp 4) (.tmp 54) rfl (w.heap.size + 1) (ansC 0 false 0 false 0 (.slice A5 (toS ws).length c5) 0) rfl rfl 26 _ HR6.out (by kernel_rfl) rfl (ansC_one _ _ _ _ _ _ _ _ _) ?_))
  refine bodyPost_ret (res_ans rfl _ rfl (setRow_heap _ _ _ _ _ _ HR6.out)) rfl ⟨_, rfl, (by rw [← HWS.out]; exact Kd.R_mono (Kd.R_kept HRR6.out (Kept_row w6 (w.heap.size + 1) _) (fun k hk e => by omega)) (fun _ _ => trivial)), below_row HBB6.out (by omega) _⟩
set_option maxRecDepth 100000 in
set_option maxHeartbeats 8000000 in
theorem query_rgE (o : OpS) (A : Option Addr) (c bx N : Nat) (l : PL) (w : World) (hM : MapN w bx N l) (hN : l.length ≤ 1099511627776) (h7 : o.f0 ≠ 7) (h9 : o.f0 ≠ 9) (hne : within o.f7 o.f8 l = []) :
    Calls Try.prog 37 #[.agg (opC o A c), .map (some bx)] w fun e w' => ∃ ps, e = .returned (ansV 0 false 0 false 0 ps 0) ∧ kSP.R 90 w' w.heap.size (fun _ => True) ps (toS (within o.f7 o.f8 l)) ∧ Below w.heap.size w w' := by
  have hb0 := qW_below w o A c
  have hs0 := qW_size w o A c
  have hO0 := qW_op w o A c
  have hR0 := qW_r w o A c
  have hA0 := qW_a w o A c
  have hkd : (qW w o A c).cell? ⟨w.heap.size, 0, none⟩ = some (.int .u8 o.f0) := (op_cells hO0).1
  have cS := sorted_c bx N l (qW w o A c) (hM.below hb0) hN
  have k7 : (o.f0 == 7) = false := beq_eq_false_iff_ne.2 h7
  have HNE := Lib.hid hne
  clear hne
  go_enter Try.func37, Try.ntmps37
  go_upto_region 2 with fail
  change Code.wp _ _ _ _ (qW w o A c)
  obtain ⟨W, hW⟩ : ∃ W, W = qW w o A c := ⟨_, rfl⟩
  rw [← hW] at hb0 hs0 hO0 hR0 hA0 hkd cS ⊢
  clear hW
  have HB0 := Lib.hid hb0
  have HO0 := Lib.hid hO0
  have HR0 := Lib.hid hR0
  have HA0 := Lib.hid hA0
  clear hb0 hO0 hR0 hA0 hM
  go_upto_region 12 with (first
    | (go_at_call 38
       refine cS.mono ?_
       rintro e w4 ⟨v4, rfl, hR4, hB4⟩
       obtain ⟨A4, c4, rfl⟩ := Kd.R_slice hR4
       have HR4 := Lib.hid hR4
       have HB4 := Lib.hid hB4
       have HLH : Hid (LoHi w4 w.heap.size o.f7 o.f8) := Lib.hid (LoHi.below ⟨by omega, (op_cells HO0.out).2.2.2.2.2.2.2.2.2.1, (op_cells HO0.out).2.2.2.2.2.2.2.2.2.2⟩ hB4)
       clear hR4 hB4)
    | (go_at_call 83
       refine (del_c w.heap.size o.f7 o.f8 A4 c4 (toS l) W.heap.size w4 HLH.out HR4.out (by omega) (by rw [toS_length]; omega) HB4.out.size).mono ?_
       rintro e w5 ⟨v5, rfl, hR5, hB5⟩
       rw [stays_toS] at hR5
       obtain ⟨A5, c5, rfl⟩ := Kd.R_slice hR5
       have HR5 := Lib.hid hR5
       have HB5 := Lib.hid (HB4.out.trans hB5)
       clear hR5 hB5))
  have hz5 := HB5.out.size
  have hO5 : w5.heap[w.heap.size]? = some (.cells (opC o A c) 39 (0, 0)) := (HB5.out.block _ (by omega)).trans HO0.out
  have hR5' : w5.heap[w.heap.size + 1]? = some (.cells (ansC 0 false 0 false 0 (.slice none 0 0) 0) 26 (0, 0)) := (HB5.out.block _ (by omega)).trans HR0.out
  have hA5 : w5.heap[w.heap.size + 2]? = some (.cells (ansC 0 false 0 false 0 (.slice none 0 0) 0) 26 (0, 0)) := (HB5.out.block _ (by omega)).trans HA0.out
  have hkd5 : w5.cell? ⟨w.heap.size, 0, none⟩ = some (.int .u8 o.f0) := (op_cells hO5).1
  have hBB5 : Below w.heap.size w w5 := HB0.out.trans (HB5.out.mono HB0.out.size)
  have hRR5 : kSP.R 90 w5 w.heap.size (fun k => w.heap.size + 3 ≤ k) (.slice A5 (toS (within o.f7 o.f8 l)).length c5) (toS (within o.f7 o.f8 l)) := Kd.R_lower (Kd.R_mono (Kd.R_bound HR5.out) (fun k hk => by have := hk.2.1; omega)) (by omega)
  have hlen : (toS (within o.f7 o.f8 l)).length ≤ 1099511627776 := by rw [toS_length]; exact Nat.le_trans (List.length_filter_le _ _) hN
  obtain ⟨ws, hws⟩ : ∃ ws, ws = within o.f7 o.f8 l := ⟨_, rfl⟩
  rw [← hws] at hRR5 hlen ⊢
  have HR5' := Lib.hid hR5'
  have HA5 := Lib.hid hA5
  have HRR5 := Lib.hid hRR5
  have HBB5 := Lib.hid hBB5
  have HWS := Lib.hid hws
  clear hws hR5' hA5 hRR5 hBB5 hO5 HR5 HB5 HR4 HB4 HLH cS
  have k9 : (o.f0 == 9) = false := beq_eq_false_iff_ne.2 h9
  have hwn : ws = [] := by rw [HWS.out]; exact HNE.out
  have hpos : (toS ws).length = 0 := by rw [hwn]; rfl
  rw [show w.heap.size + 1 + 1 = w.heap.size + 2 from rfl]
  have HA6 := HA5
  have HR6 := HR5'
  have HBB6 := HBB5
  have HWN := Lib.hid hwn
  clear hwn
  obtain ⟨l0, l1, l2, l3, l4, l5, l6⟩ := ans_cells HA6.out
  go_wp2_with (first | ((with_reducible refine gate_store (t := 26) (p := 4) rfl ?_); refine wpList_store_row rfl 26 (.tmp 4) (.tmp 54) rfl (w.heap.size + 1) (ansC 0 false 0 false 0 (.slice none 0 0) 0) rfl rfl 26 _ HR6.out (by kernel_rfl) rfl (ansC_one _ _ _ _ _ _ _ _ _) ?_))
  refine bodyPost_ret (res_ans rfl _ rfl (setRow_heap _ _ _ _ _ _ HR6.out)) rfl ⟨_, rfl, (by rw [HNE.out]; exact Kd.R_nil _ _ _ _ _), below_row HBB6.out (by omega) _⟩
end Go.Proofs.Ytngocadnbpdnoaa.Mo
namespace Go.Proofs.Ytngocadnbpdnoaa.Mo
open Go Go.Maps Go.RowKit Go.Proofs.Ytngocadnbpdnoaa.Srt Go.Proofs.Ytngocadnbpdnoaa.Q Go.Proofs.YtngocadnbpdnoaaW.PrintWords Go.Proofs.YtngocadnbpdnoaaW.PrintLast Go.Proofs.YtngocadnbpdnoaaW.PrintMore
set_option linter.unusedVariables false
set_option linter.unusedSimpArgs false
def ofKeys (l : PL) (ks : List Int) : PL := ks.filterMap (fun k => (fnd l k).map (fun v => (k, v)))
theorem ofKeys_some {l : PL} {ks : List Int} {i : Nat} (h : i < ks.length) {v : Int} (hv : fnd l ks[i] = some v) : ofKeys l (ks.take (i + 1)) = ofKeys l (ks.take i) ++ [(ks[i], v)] := by
  unfold ofKeys
  rw [List.take_succ_eq_append_getElem h, List.filterMap_append]
  simp [hv]
theorem ofKeys_none {l : PL} {ks : List Int} {i : Nat} (h : i < ks.length) (hv : fnd l ks[i] = none) : ofKeys l (ks.take (i + 1)) = ofKeys l (ks.take i) := by
  unfold ofKeys
  rw [List.take_succ_eq_append_getElem h, List.filterMap_append]
  simp [hv]
theorem ofKeys_len (l : PL) (ks : List Int) : (ofKeys l ks).length ≤ ks.length := List.length_filterMap_le _ _
/-- What a round of MultiGet keeps. -/
structure MgI (w wr : World) (bx N : Nat) (l : PL) (B : Nat) (o : OpS) (A0 : Option Addr) (c0 : Nat) (A : Option Addr) (c : Nat) (ps : PL) : Prop where
  below : Below w.heap.size w wr
  size : w.heap.size + 3 ≤ wr.heap.size
  map : MapN wr bx N l
  row : kSP.R 90 wr w.heap.size (fun k => w.heap.size + 3 ≤ k) (.slice A (toS ps).length c) (toS ps)
  r : wr.heap[w.heap.size + 1]? = some (.cells (ansC 0 false 0 false 0 (.slice none 0 0) 0) 26 (0, 0))
  a : wr.heap[w.heap.size + 2]? = some (.cells (ansC 0 false 0 false 0 (.slice A (toS ps).length c) 0) 26 (0, 0))
theorem toS_snoc (ps : PL) (k v : Int) : toS (ps ++ [(k, v)]) = toS ps ++ [⟨k, v⟩] := by unfold toS; rw [List.map_append]; rfl
set_option maxRecDepth 100000 in
set_option maxHeartbeats 8000000 in
theorem query_mg (o : OpS) (A : Option Addr) (c bx N : Nat) (l : PL) (w : World) (hM : MapN w bx N l) (hk : o.f0 = 7) (hC : Kd.C (Kd.int .u64) w A o.f6.length o.f6) (hw : ∀ k ∈ o.f6, u64wf k) (hn : o.f6.length ≤ 1099511627776) :
    Calls Try.prog 37 #[.agg (opC o A c), .map (some bx)] w fun e w' => ∃ ps, e = .returned (ansV 0 false 0 false 0 ps 0) ∧ kSP.R 90 w' w.heap.size (fun _ => True) ps (toS (ofKeys l o.f6)) ∧ Below w.heap.size w w' := by
  have hb0 := qW_below w o A c
  have hs0 := qW_size w o A c
  have hO0 := qW_op w o A c
  have hkd : (qW w o A c).cell? ⟨w.heap.size, 0, none⟩ = some (.int .u8 7) := by have := (op_cells hO0).1; rw [hk] at this; exact this
  have hk8 : (qW w o A c).cell? ⟨w.heap.size, 8, none⟩ = some (.slice A o.f6.length c) := (op_cells hO0).2.2.2.2.2.2.2.2.1
  have HI0 : Hid (MgI w (qW w o A c) bx N l w.heap.size o A c none 0 []) := Lib.hid ⟨hb0, by omega, hM.below hb0, Kd.R_nil _ _ _ _ _, qW_r w o A c, qW_a w o A c⟩
  have hbl := hM.lt
  have HC := Lib.hid hC
  have HW := Lib.hid hw
  clear hM hC hw hO0 hb0
  go_enter Try.func37, Try.ntmps37
  go_upto_region 2 with fail
  change Code.wp _ _ _ _ (qW w o A c)
  obtain ⟨W, hW⟩ : ∃ W, W = qW w o A c := ⟨_, rfl⟩
  rw [← hW] at hs0 hkd hk8 HI0 ⊢
  rw [show w.heap.size + 1 + 1 = w.heap.size + 2 from rfl]
  clear hW
  go_wp2_with fail
  go_loopw [17] (fun v17 wr => ∃ (i : Nat) (A2 : Option Addr) (c2 : Nat), v17 = .int .i64 i ∧ i ≤ o.f6.length ∧ Hid (MgI w wr bx N l w.heap.size o A c A2 c2 (ofKeys l (o.f6.take i))))
    (fun v17 _ => o.f6.length - (intOf v17).toNat)
  case atStart => exact ⟨0, none, 0, by go_num, Nat.zero_le _, HI0⟩
  case round =>
    obtain ⟨i, A2, c2, rfl, hi, HI⟩ := hrel
    by_cases hlt : i < o.f6.length
    · have hdec : decide ((i : Int) < (o.f6.length : Int)) = true := decide_eq_true (by omega)
      obtain ⟨ad, rfl, hx⟩ := Kd.at_int (Kd.Heap.C (Kd.heap_int _) (fun k hk => HI.out.below.block k hk) HC.out) (i : Int) (by omega) (by omega)
      obtain ⟨k, hkk⟩ : ∃ k, k = o.f6[i] := ⟨_, rfl⟩
      have hrd : rd o.f6 (i : Int) = k := by
        rw [hkk]
        unfold rd
        simp [List.getD_eq_getElem?_getD, hlt]
      rw [hrd, Int.toNat_natCast] at hx
      have hkw : u64wf k := by rw [hkk]; exact HW.out _ (List.getElem_mem hlt)
      have hrun := now_look HI.out.map hkw
      have HKK := Lib.hid hkk
      clear hkk hrd hkw
      cases hf : fnd l k with
      | none =>
        rw [hf] at hrun
        have HN : Hid (ofKeys l (o.f6.take (i + 1)) = ofKeys l (o.f6.take i)) := Lib.hid (ofKeys_none hlt (by rw [← HKK.out]; exact hf))
        have hrun' : (Instr.lookup 97 (.map (some bx)) (.int .u64 k) true).run Try.prog wr = .ok (.tuple #[.int .u64 0, .bool false]) wr := hrun
        clear hrun hf
        go_wp2_with fail
        go_roundw
        case rel => exact ⟨i + 1, A2, c2, by go_num, by omega, Lib.hid (by rw [HN.out]; exact HI.out)⟩
        case measure => simp [intOf]; omega
      | some v =>
        rw [hf] at hrun
        have HN : Hid (ofKeys l (o.f6.take (i + 1)) = ofKeys l (o.f6.take i) ++ [(k, v)]) := Lib.hid (by have := ofKeys_some (l := l) hlt (v := v) (by rw [← HKK.out]; exact hf); rw [← HKK.out] at this; exact this)
        have hrun' : (Instr.lookup 97 (.map (some bx)) (.int .u64 k) true).run Try.prog wr = .ok (.tuple #[.int .u64 v, .bool true]) wr := hrun
        clear hrun hf
        obtain ⟨ps, hps⟩ : ∃ ps, ps = ofKeys l (o.f6.take i) := ⟨_, rfl⟩
        have hpl : ps.length ≤ 1099511627776 := by rw [hps]; exact Nat.le_trans (ofKeys_len _ _) (by rw [List.length_take]; omega)
        rw [← hps] at HI HN
        clear hps
        have hbnd : Hid (((toS ps).length + 1) * 16 ≤ 140737488355328) := Lib.hid (by rw [toS_length]; omega)
        have l5 : wr.cell? ⟨w.heap.size + 2, 5, none⟩ = some (.slice A2 (toS ps).length c2) := (ans_cells HI.out.a).2.2.2.2.2.1
        obtain ⟨u3, hu3⟩ : ∃ u3, u3 = Value.slice A2 (toS ps).length c2 := ⟨_, rfl⟩
        go_wp2_with (first
          | (at_builtin; (refine Kd.R_append kSP (w0 := w) w.heap.size rfl (.tmp 29) (.tmp 33) 24 90 (.agg #[(.int .u64 0), (.int .u64 0)]) 16 rfl Try.underlying24 info90 rfl (by decide) (by omega) (.slice A2 (toS ps).length c2) (toS ps) (⟨k, v⟩ : SP) [.int .u64 k, .int .u64 v] (fun k => w.heap.size + 3 ≤ k) (fun _ => False) rfl rfl ?aP (fun _ hk => hk.elim) (fun k hk => by have := HI.out.size; omega) ?aO ?aB ?aS ?aL ?_)
             (case aP => exact k90_mkM _ _ _ (⟨k, v⟩ : SP))
             (case aO => exact HI.out.row)
             (case aB => exact HI.out.below)
             (case aS => exact HI.out.below.size)
             (case aL => exact hbnd.out)
             intro v1 w2 hr2 hb2 hg2 hat2
             rw [← toS_snoc] at hr2
             obtain ⟨A3, c3, rfl⟩ := Kd.R_slice hr2
             have hne2 : ∀ q, q < w.heap.size + 3 → some q ≠ (Value.slice A2 (toS ps).length c2).ownBlock := fun q hq e => by have := HI.out.row.1 q e.symm; omega
             have hq1 := (hg2.block (w.heap.size + 1) (by have := HI.out.size; omega) (hne2 _ (by omega))).trans HI.out.r
             have hq2 := (hg2.block (w.heap.size + 2) (by have := HI.out.size; omega) (hne2 _ (by omega))).trans HI.out.a
             have hmk : Kept wr w2 (fun q => w.heap.size + 3 ≤ q) := Kept.of_grown hg2 (Kept.refl _ _) (fun q e => .inl (HI.out.row.1 q e))
             have hz2 := hg2.size
             have hd6 : w2.cell? ⟨w.heap.size + 2, 5, none⟩ = some (.slice A2 (toS ps).length c2) := (ans_cells hq2).2.2.2.2.2.1
             have hf6 : w2.frozen? ⟨w.heap.size + 2, 5, none⟩ = false := by simp [World.frozen?, hq2]
             have hsc : w2.setCell ⟨w.heap.size + 2, 5, none⟩ (.slice A3 (toS (ps ++ [(k, v)])).length c3) = w2.setRow (w.heap.size + 2) (ansC 0 false 0 false 0 (.slice A3 (toS (ps ++ [(k, v)])).length c3) 0) := setCell_eq_setRow w2 (w.heap.size + 2) 5 _ _ _ (.slice A3 (toS (ps ++ [(k, v)])).length c3) hq2
             have HI3 : Hid (MgI w (w2.setRow (w.heap.size + 2) (ansC 0 false 0 false 0 (.slice A3 (toS (ps ++ [(k, v)])).length c3) 0)) bx N l w.heap.size o (some ad) c A3 c3 (ps ++ [(k, v)])) := Lib.hid
               ⟨below_row hb2 (by omega) _, by have := HI.out.size; simp; omega, (HI.out.map.kept hmk (by omega)).kept (Kept_row _ _ _) (by omega), Kd.R_kept hr2 (Kept_row w2 (w.heap.size + 2) _) (fun q hq e => by omega), (setRow_other _ _ _ _ (by omega)).trans hq1, setRow_heap _ _ _ _ _ _ hq2⟩
             obtain ⟨w3, hw3⟩ : ∃ w3, w3 = w2.setRow (w.heap.size + 2) (ansC 0 false 0 false 0 (.slice A3 (toS (ps ++ [(k, v)])).length c3) 0) := ⟨_, rfl⟩
             rw [← hw3] at hsc HI3
             clear hw3 hr2 hb2 hg2 hat2 hne2 hq1 hq2 hmk))
        go_roundw
        case rel => exact ⟨i + 1, A3, c3, by go_num, by omega, Lib.hid (by rw [HN.out]; exact HI3.out)⟩
        case measure => simp [intOf]; omega
    · obtain rfl : i = o.f6.length := by omega
      have hdec : decide ((o.f6.length : Int) < (o.f6.length : Int)) = false := by simp
      have hI := HI.out
      rw [List.take_length] at hI
      have HI1 := Lib.hid hI
      have HR1 := Lib.hid hI.r
      obtain ⟨l0, l1, l2, l3, l4, l5, l6⟩ := ans_cells hI.a
      clear hI HI
      go_wp2_with (first | ((with_reducible refine gate_store (t := 26) (p := 4) rfl ?_); refine wpList_store_row rfl 26 (.tmp 4) (.tmp 37) rfl (w.heap.size + 1) (ansC 0 false 0 false 0 (.slice A2 (toS (ofKeys l o.f6)).length c2) 0) rfl rfl 26 _ HR1.out (by kernel_rfl) rfl (ansC_one _ _ _ _ _ _ _ _ _) ?_))
      refine bodyPost_ret (res_ans rfl _ rfl (setRow_heap _ _ _ _ _ _ HR1.out)) rfl ⟨_, rfl, Kd.R_mono (Kd.R_kept HI1.out.row (Kept_row wr (w.heap.size + 1) _) (fun k hk e => by omega)) (fun _ _ => trivial), below_row HI1.out.below (by omega) _⟩
end Go.Proofs.Ytngocadnbpdnoaa.Mo
namespace Go.Proofs.Ytngocadnbpdnoaa.Mo
open Go Go.Maps Go.RowKit Go.Proofs.Ytngocadnbpdnoaa.Srt Go.Proofs.Ytngocadnbpdnoaa.Q Go.Proofs.YtngocadnbpdnoaaW.PrintWords Go.Proofs.YtngocadnbpdnoaaW.PrintLast Go.Proofs.YtngocadnbpdnoaaW.PrintMore
set_option linter.unusedVariables false
set_option linter.unusedSimpArgs false
set_option maxRecDepth 100000 in
set_option maxHeartbeats 8000000 in
theorem do_ctYes (f : Nat → Option PL) (N gp bn bh : Nat) (multi : Int) (now : PL) (held : List (Int × PL)) (o : OpS) (A : Option Addr) (c : Nat) (hdl : Int) (w : World) (hM : PM w f N gp bn bh multi now held) (hF : Fro w f N) (hO : OpWf o) (hh : u64wf hdl) (hN : N ≤ 1099511627776) (hk : o.f0 = 9) (hl : PL) (hx : fnd held o.f4 = some hl) :
    Calls Try.prog 15 #[.pointer (some ⟨gp, 0, none⟩), .agg (opC o A c), .int .u64 hdl] w (DoPost w f (N + 1) gp bn bh ⟨multi, now, held⟩ ⟨0, false, 0, false, 0, [], ((toS (within o.f7 o.f8 hl)).length : Int)⟩) := by
  have hgl := hM.gl
  have hnl := hM.now.lt
  have hhl := hM.held.1.lt
  have HM := Lib.hid hM
  have HF := Lib.hid hF
  have HO := Lib.hid hO
  have HU := Lib.hid hh
  have hb0 : Below w.heap.size w (doW w o A c).drew := below_drew (doW_below w o A c)
  have hP0 := hM.kept (Kept.of_below hb0 (fun _ => False)) (fun e => e) (fun e => e) (fun e => e)
  have HS : (fun w' : World => w'.cell? ⟨gp, 1, none⟩ = some (.map (some bn)) ∧ w'.cell? ⟨w.heap.size, 1, none⟩ = some (.int .u64 o.f1) ∧ (Instr.lookup 97 (.map (some bn)) (.int .u64 o.f1) true).run Try.prog w' = .ok (.tuple #[.int .u64 ((fnd now o.f1).getD 0), .bool (fnd now o.f1).isSome]) w') (doW w o A c).drew :=
    ⟨hP0.c1, by rw [blk_cell (w := (doW w o A c).drew) (doW_op w o A c)]; rfl, now_look hP0.now hO.key⟩
  obtain ⟨vh, hvh, hrunh⟩ := held_look (hM.held.kept (Kept.of_below (below_drew (below_alloc (below_drew (doW_below w o A c)) (.cells (ansC 0 (fnd now o.f1).isSome ((fnd now o.f1).getD 0) false 0 (.slice none 0 0) 0) 26))) (fun _ => False)) (fun e => e)) hO.han
  have hW2 : Below w.heap.size w ((doW w o A c).drew.alloc (.cells (ansC 0 (fnd now o.f1).isSome ((fnd now o.f1).getD 0) false 0 (.slice none 0 0) 0) 26)).drew := below_drew (below_alloc (below_drew (doW_below w o A c)) _)
  have hP2 := hM.kept (Kept.of_below hW2 (fun _ => False)) (fun e => e) (fun e => e) (fun e => e)
  have hs2 : (doW w o A c).drew.heap.size = w.heap.size + 2 := doW_size w o A c
  have hop2 : ((doW w o A c).drew.alloc (.cells (ansC 0 (fnd now o.f1).isSome ((fnd now o.f1).getD 0) false 0 (.slice none 0 0) 0) 26)).drew.heap[w.heap.size]? = some (.cells (opC o A c) 39 (0, 0)) := ((below_alloc (Below.refl _ (doW w o A c).drew) _).block _ (by rw [hs2]; omega)).trans (doW_op w o A c)
  have hra2 : ((doW w o A c).drew.alloc (.cells (ansC 0 (fnd now o.f1).isSome ((fnd now o.f1).getD 0) false 0 (.slice none 0 0) 0) 26)).drew.heap[w.heap.size + 1]? = some (.cells (ansC 0 false 0 false 0 (.slice none 0 0) 0) 26 (0, 0)) := ((below_alloc (Below.refl _ (doW w o A c).drew) _).block _ (by rw [hs2]; omega)).trans (doW_ans w o A c)
  have hfa2 : ((doW w o A c).drew.alloc (.cells (ansC 0 (fnd now o.f1).isSome ((fnd now o.f1).getD 0) false 0 (.slice none 0 0) 0) 26)).drew.heap[w.heap.size + 2]? = some (.cells (ansC 0 (fnd now o.f1).isSome ((fnd now o.f1).getD 0) false 0 (.slice none 0 0) 0) 26 (0, 0)) := by
    have := heap_alloc_new (doW w o A c).drew (.cells (ansC 0 (fnd now o.f1).isSome ((fnd now o.f1).getD 0) false 0 (.slice none 0 0) 0) 26)
    rw [hs2] at this
    exact this
  have HS2 : (fun w' : World => w'.cell? ⟨gp, 2, none⟩ = some (.map (some bh)) ∧ w'.cell? ⟨w.heap.size, 4, none⟩ = some (.int .u64 o.f4) ∧ (Instr.lookup 98 (.map (some bh)) (.int .u64 o.f4) true).run Try.prog w' = .ok (.tuple #[vh, .bool (fnd held o.f4).isSome]) w') ((doW w o A c).drew.alloc (.cells (ansC 0 (fnd now o.f1).isSome ((fnd now o.f1).getD 0) false 0 (.slice none 0 0) 0) 26)).drew :=
    ⟨hP2.c2, by rw [blk_cell hop2]; rfl, hrunh⟩
  have hkd : ((doW w o A c).drew.alloc (.cells (ansC 0 (fnd now o.f1).isSome ((fnd now o.f1).getD 0) false 0 (.slice none 0 0) 0) 26)).drew.cell? ⟨w.heap.size, 0, none⟩ = some (.int .u8 9) := by rw [blk_cell hop2, ← hk]; rfl
  have HVH := Lib.hid hvh
  have HW2 := Lib.hid hW2
  have HP2 := Lib.hid hP2
  have HOP2 := Lib.hid hop2
  have HRA2 := Lib.hid hra2
  have HFA2 := Lib.hid hfa2
  have hfnd0 : (fnd now o.f1).isSome = (fnd now o.f1).isSome := rfl
  obtain ⟨fo, hfo⟩ : ∃ b : Bool, b = (fnd now o.f1).isSome := ⟨_, rfl⟩
  obtain ⟨fv, hfv⟩ : ∃ v : Int, v = (fnd now o.f1).getD 0 := ⟨_, rfl⟩
  obtain ⟨hd, hhd⟩ : ∃ b : Bool, b = (fnd held o.f4).isSome := ⟨_, rfl⟩
  rw [← hfo, ← hfv] at HS HS2 HW2 HP2 HOP2 HRA2 HFA2 hkd
  rw [← hhd] at HS2
  have HFO := Lib.hid hfo
  have HFV := Lib.hid hfv
  have HHD := Lib.hid hhd
  clear hM hF hO hh hb0 hP0 hvh hrunh hW2 hP2 hs2 hop2 hra2 hfa2 hfnd0 hfo hfv hhd
  obtain ⟨W1, hW1⟩ : ∃ W1, W1 = doW w o A c := ⟨_, rfl⟩
  have HW1 := Lib.hid hW1
  rw [← hW1] at HS HS2 HW2 HP2 HOP2 HRA2 HFA2 hkd
  go_enter Try.func15, Try.ntmps15
  go_wp2_with fail
  change Code.wp _ _ _ _ (doW w o A c)
  rw [← hW1]
  clear hW1
  go_region_held3 (fun w' => w'.cell? ⟨gp, 1, none⟩ = some (.map (some bn)) ∧ w'.cell? ⟨w.heap.size, 1, none⟩ = some (.int .u64 o.f1) ∧ (Instr.lookup 97 (.map (some bn)) (.int .u64 o.f1) true).run Try.prog w' = .ok (.tuple #[.int .u64 fv, .bool fo]) w')
    (first | go_keep | exact HS)
    (first | fail | fail)
  clear HS
  have hs1 : W1.heap.size = w.heap.size + 2 := by rw [HW1.out]; exact doW_size w o A c
  go_wp2_with fail
  obtain ⟨W2, hW2⟩ : ∃ W2, W2 = W1.drew.alloc (Obj.cells (ansC 0 fo fv false 0 (Value.slice none 0 0) 0) 26) := ⟨_, rfl⟩
  change Code.wp _ _ _ _ (W1.drew.alloc (Obj.cells (ansC 0 fo fv false 0 (Value.slice none 0 0) 0) 26))
  rw [← hW2] at HS2 HW2 HP2 HOP2 HRA2 HFA2 hkd ⊢
  clear hW2
  go_region_held3 (fun w' => w'.cell? ⟨gp, 2, none⟩ = some (.map (some bh)) ∧ w'.cell? ⟨w.heap.size, 4, none⟩ = some (.int .u64 o.f4) ∧ (Instr.lookup 98 (.map (some bh)) (.int .u64 o.f4) true).run Try.prog w' = .ok (.tuple #[vh, .bool hd]) w')
    (first | go_keep | exact HS2)
    (first | fail | fail)
  clear HS2
  obtain ⟨W, hW⟩ : ∃ W, W = W2.drew := ⟨_, rfl⟩
  rw [← hW] at HW2 HP2 HOP2 HRA2 HFA2 hkd ⊢
  clear hW
  obtain rfl : hd = true := by rw [HHD.out, hx]; rfl
  obtain ⟨b, rfl, hfb⟩ : ∃ b, vh = .map (some b) ∧ f b = some hl := by
    rcases HVH.out with ⟨h1, _⟩ | ⟨b, l, h1, h2, h3⟩
    · rw [hx] at h1; cases h1
    · rw [hx] at h1; cases h1; exact ⟨b, h2, h3⟩
  have HMB := Lib.hid ((HF.out b hl hfb).below HW2.out)
  have hhlen : hl.length ≤ 1099511627776 := Nat.le_trans (HF.out b hl hfb).len hN
  clear hfb HVH hx
  have HWZ := HW2
  go_upto_region 35 with fail
  have HKD := Lib.hid hk
  clear hk hkd
  obtain ⟨q0, q1, q2, q3, q4, q5, q6, q7, q8, q9, q10⟩ := op_cells HOP2.out
  have hzW := blk_lt HRA2.out
  go_wp2_with (first
    | (go_at_call 37
       refine (query_ct o A c b N hl W HMB.out hhlen HKD.out).mono ?_
       rintro e w3 ⟨ps, rfl, hR, hB⟩
       obtain ⟨A3, c3, rfl⟩ := Kd.R_slice hR
       unfold ansV
       have HB3 := Lib.hid (HWZ.out.trans (hB.mono HWZ.out.size))
       have HRA3 : Hid (w3.heap[w.heap.size + 1]? = some (Obj.cells (ansC 0 false 0 false 0 (.slice none 0 0) 0) 26 (0, 0))) := Lib.hid ((hB.block _ hzW).trans HRA2.out)
       have HL3 := Lib.hid (left_same (K := fun k => k = bn ∨ k = bh) HM.out HF.out HB3.out (Nat.le_succ N))
       have HR3 := Lib.hid (Kd.R_lower (Kd.R_mono (Kd.R_bound hR) (fun k hk => hk.2.1)) HWZ.out.size)
       clear hR hB)
    | ((with_reducible refine gate_store (t := 26) (p := 6) rfl ?_); refine wpList_store_row rfl 26 (.tmp 6) (.tmp 120) rfl (w.heap.size + 1) (ansC 0 false 0 false 0 (.slice A3 (toS []).length c3) ((toS (within o.f7 o.f8 hl)).length : Int)) rfl rfl 26 _ HRA3.out (by kernel_rfl) rfl (ansC_one _ _ _ _ _ _ _ _ _) ?_))
  refine bodyPost_ret (res_ans rfl _ rfl (setRow_heap _ _ _ _ _ _ HRA3.out)) rfl ⟨_, rfl, Kd.R_mono (Kd.R_kept HR3.out (Kept_row w3 (w.heap.size + 1) _) (fun k hk e => by have hk' : W.heap.size ≤ k := hk; omega)) (fun _ _ => trivial), HL3.out.row (by omega) HRA3.out hgl hnl hhl _⟩
end Go.Proofs.Ytngocadnbpdnoaa.Mo
namespace Go.Proofs.Ytngocadnbpdnoaa.Mo
open Go Go.Maps Go.RowKit Go.Proofs.Ytngocadnbpdnoaa.Srt Go.Proofs.Ytngocadnbpdnoaa.Q Go.Proofs.YtngocadnbpdnoaaW.PrintWords Go.Proofs.YtngocadnbpdnoaaW.PrintLast Go.Proofs.YtngocadnbpdnoaaW.PrintMore
set_option linter.unusedVariables false
set_option linter.unusedSimpArgs false
set_option maxRecDepth 100000 in
set_option maxHeartbeats 8000000 in
theorem do_rgYesS (f : Nat → Option PL) (N gp bn bh : Nat) (multi : Int) (now : PL) (held : List (Int × PL)) (o : OpS) (A : Option Addr) (c : Nat) (hdl : Int) (w : World) (hM : PM w f N gp bn bh multi now held) (hF : Fro w f N) (hO : OpWf o) (hh : u64wf hdl) (hN : N ≤ 1099511627776) (hk : o.f0 = 8) (hl : PL) (hx : fnd held o.f4 = some hl) (hne : within o.f7 o.f8 hl ≠ []) :
    Calls Try.prog 15 #[.pointer (some ⟨gp, 0, none⟩), .agg (opC o A c), .int .u64 hdl] w (DoPost w f (N + 1) gp bn bh ⟨multi, now, held⟩ ⟨0, false, 0, false, 0, within o.f7 o.f8 hl, 0⟩) := by
  have hgl := hM.gl
  have hnl := hM.now.lt
  have hhl := hM.held.1.lt
  have HM := Lib.hid hM
  have HF := Lib.hid hF
  have HO := Lib.hid hO
  have HU := Lib.hid hh
  have hb0 : Below w.heap.size w (doW w o A c).drew := below_drew (doW_below w o A c)
  have hP0 := hM.kept (Kept.of_below hb0 (fun _ => False)) (fun e => e) (fun e => e) (fun e => e)
  have HS : (fun w' : World => w'.cell? ⟨gp, 1, none⟩ = some (.map (some bn)) ∧ w'.cell? ⟨w.heap.size, 1, none⟩ = some (.int .u64 o.f1) ∧ (Instr.lookup 97 (.map (some bn)) (.int .u64 o.f1) true).run Try.prog w' = .ok (.tuple #[.int .u64 ((fnd now o.f1).getD 0), .bool (fnd now o.f1).isSome]) w') (doW w o A c).drew :=
    ⟨hP0.c1, by rw [blk_cell (w := (doW w o A c).drew) (doW_op w o A c)]; rfl, now_look hP0.now hO.key⟩
  obtain ⟨vh, hvh, hrunh⟩ := held_look (hM.held.kept (Kept.of_below (below_drew (below_alloc (below_drew (doW_below w o A c)) (.cells (ansC 0 (fnd now o.f1).isSome ((fnd now o.f1).getD 0) false 0 (.slice none 0 0) 0) 26))) (fun _ => False)) (fun e => e)) hO.han
  have hW2 : Below w.heap.size w ((doW w o A c).drew.alloc (.cells (ansC 0 (fnd now o.f1).isSome ((fnd now o.f1).getD 0) false 0 (.slice none 0 0) 0) 26)).drew := below_drew (below_alloc (below_drew (doW_below w o A c)) _)
  have hP2 := hM.kept (Kept.of_below hW2 (fun _ => False)) (fun e => e) (fun e => e) (fun e => e)
  have hs2 : (doW w o A c).drew.heap.size = w.heap.size + 2 := doW_size w o A c
  have hop2 : ((doW w o A c).drew.alloc (.cells (ansC 0 (fnd now o.f1).isSome ((fnd now o.f1).getD 0) false 0 (.slice none 0 0) 0) 26)).drew.heap[w.heap.size]? = some (.cells (opC o A c) 39 (0, 0)) := ((below_alloc (Below.refl _ (doW w o A c).drew) _).block _ (by rw [hs2]; omega)).trans (doW_op w o A c)
  have hra2 : ((doW w o A c).drew.alloc (.cells (ansC 0 (fnd now o.f1).isSome ((fnd now o.f1).getD 0) false 0 (.slice none 0 0) 0) 26)).drew.heap[w.heap.size + 1]? = some (.cells (ansC 0 false 0 false 0 (.slice none 0 0) 0) 26 (0, 0)) := ((below_alloc (Below.refl _ (doW w o A c).drew) _).block _ (by rw [hs2]; omega)).trans (doW_ans w o A c)
  have hfa2 : ((doW w o A c).drew.alloc (.cells (ansC 0 (fnd now o.f1).isSome ((fnd now o.f1).getD 0) false 0 (.slice none 0 0) 0) 26)).drew.heap[w.heap.size + 2]? = some (.cells (ansC 0 (fnd now o.f1).isSome ((fnd now o.f1).getD 0) false 0 (.slice none 0 0) 0) 26 (0, 0)) := by
    have := heap_alloc_new (doW w o A c).drew (.cells (ansC 0 (fnd now o.f1).isSome ((fnd now o.f1).getD 0) false 0 (.slice none 0 0) 0) 26)
    rw [hs2] at this
    exact this
  have HS2 : (fun w' : World => w'.cell? ⟨gp, 2, none⟩ = some (.map (some bh)) ∧ w'.cell? ⟨w.heap.size, 4, none⟩ = some (.int .u64 o.f4) ∧ (Instr.lookup 98 (.map (some bh)) (.int .u64 o.f4) true).run Try.prog w' = .ok (.tuple #[vh, .bool (fnd held o.f4).isSome]) w') ((doW w o A c).drew.alloc (.cells (ansC 0 (fnd now o.f1).isSome ((fnd now o.f1).getD 0) false 0 (.slice none 0 0) 0) 26)).drew :=
    ⟨hP2.c2, by rw [blk_cell hop2]; rfl, hrunh⟩
  have hkd : ((doW w o A c).drew.alloc (.cells (ansC 0 (fnd now o.f1).isSome ((fnd now o.f1).getD 0) false 0 (.slice none 0 0) 0) 26)).drew.cell? ⟨w.heap.size, 0, none⟩ = some (.int .u8 8) := by rw [blk_cell hop2, ← hk]; rfl
  have HVH := Lib.hid hvh
  have HW2 := Lib.hid hW2
  have HP2 := Lib.hid hP2
  have HOP2 := Lib.hid hop2
  have HRA2 := Lib.hid hra2
  have HFA2 := Lib.hid hfa2
  have hfnd0 : (fnd now o.f1).isSome = (fnd now o.f1).isSome := rfl
  obtain ⟨fo, hfo⟩ : ∃ b : Bool, b = (fnd now o.f1).isSome := ⟨_, rfl⟩
  obtain ⟨fv, hfv⟩ : ∃ v : Int, v = (fnd now o.f1).getD 0 := ⟨_, rfl⟩
  obtain ⟨hd, hhd⟩ : ∃ b : Bool, b = (fnd held o.f4).isSome := ⟨_, rfl⟩
  rw [← hfo, ← hfv] at HS HS2 HW2 HP2 HOP2 HRA2 HFA2 hkd
  rw [← hhd] at HS2
  have HFO := Lib.hid hfo
  have HFV := Lib.hid hfv
  have HHD := Lib.hid hhd
  clear hM hF hO hh hb0 hP0 hvh hrunh hW2 hP2 hs2 hop2 hra2 hfa2 hfnd0 hfo hfv hhd
  obtain ⟨W1, hW1⟩ : ∃ W1, W1 = doW w o A c := ⟨_, rfl⟩
  have HW1 := Lib.hid hW1
  rw [← hW1] at HS HS2 HW2 HP2 HOP2 HRA2 HFA2 hkd
  go_enter Try.func15, Try.ntmps15
  go_wp2_with fail
  change Code.wp _ _ _ _ (doW w o A c)
  rw [← hW1]
  clear hW1
  go_region_held3 (fun w' => w'.cell? ⟨gp, 1, none⟩ = some (.map (some bn)) ∧ w'.cell? ⟨w.heap.size, 1, none⟩ = some (.int .u64 o.f1) ∧ (Instr.lookup 97 (.map (some bn)) (.int .u64 o.f1) true).run Try.prog w' = .ok (.tuple #[.int .u64 fv, .bool fo]) w')
    (first | go_keep | exact HS)
    (first | fail | fail)
  clear HS
  have hs1 : W1.heap.size = w.heap.size + 2 := by rw [HW1.out]; exact doW_size w o A c
  go_wp2_with fail
  obtain ⟨W2, hW2⟩ : ∃ W2, W2 = W1.drew.alloc (Obj.cells (ansC 0 fo fv false 0 (Value.slice none 0 0) 0) 26) := ⟨_, rfl⟩
  change Code.wp _ _ _ _ (W1.drew.alloc (Obj.cells (ansC 0 fo fv false 0 (Value.slice none 0 0) 0) 26))
  rw [← hW2] at HS2 HW2 HP2 HOP2 HRA2 HFA2 hkd ⊢
  clear hW2
  go_region_held3 (fun w' => w'.cell? ⟨gp, 2, none⟩ = some (.map (some bh)) ∧ w'.cell? ⟨w.heap.size, 4, none⟩ = some (.int .u64 o.f4) ∧ (Instr.lookup 98 (.map (some bh)) (.int .u64 o.f4) true).run Try.prog w' = .ok (.tuple #[vh, .bool hd]) w')
    (first | go_keep | exact HS2)
    (first | fail | fail)
  clear HS2
  obtain ⟨W, hW⟩ : ∃ W, W = W2.drew := ⟨_, rfl⟩
  rw [← hW] at HW2 HP2 HOP2 HRA2 HFA2 hkd ⊢
  clear hW
  have HNE := Lib.hid hne
  clear hne
  obtain rfl : hd = true := by rw [HHD.out, hx]; rfl
  obtain ⟨b, rfl, hfb⟩ : ∃ b, vh = .map (some b) ∧ f b = some hl := by
    rcases HVH.out with ⟨h1, _⟩ | ⟨b, l, h1, h2, h3⟩
    · rw [hx] at h1; cases h1
    · rw [hx] at h1; cases h1; exact ⟨b, h2, h3⟩
  have HMB := Lib.hid ((HF.out b hl hfb).below HW2.out)
  have hhlen : hl.length ≤ 1099511627776 := Nat.le_trans (HF.out b hl hfb).len hN
  clear hfb HVH hx
  have HWZ := HW2
  go_upto_region 35 with fail
  have HKD := Lib.hid hk
  clear hk hkd
  obtain ⟨q0, q1, q2, q3, q4, q5, q6, q7, q8, q9, q10⟩ := op_cells HOP2.out
  have hzW := blk_lt HRA2.out
  go_wp2_with (first
    | (go_at_call 37
       refine (query_rgS o A c b N hl W HMB.out hhlen (by rw [HKD.out]; decide) (by rw [HKD.out]; decide) HNE.out).mono ?_
       rintro e w3 ⟨ps, rfl, hR, hB⟩
       obtain ⟨A3, c3, rfl⟩ := Kd.R_slice hR
       unfold ansV
       have HB3 := Lib.hid (HWZ.out.trans (hB.mono HWZ.out.size))
       have HRA3 : Hid (w3.heap[w.heap.size + 1]? = some (Obj.cells (ansC 0 false 0 false 0 (.slice none 0 0) 0) 26 (0, 0))) := Lib.hid ((hB.block _ hzW).trans HRA2.out)
       have HL3 := Lib.hid (left_same (K := fun k => k = bn ∨ k = bh) HM.out HF.out HB3.out (Nat.le_succ N))
       have HR3 := Lib.hid (Kd.R_lower (Kd.R_mono (Kd.R_bound hR) (fun k hk => hk.2.1)) HWZ.out.size)
       clear hR hB)
    | ((with_reducible refine gate_store (t := 26) (p := 6) rfl ?_); refine wpList_store_row rfl 26 (.tmp 6) (.tmp 120) rfl (w.heap.size + 1) (ansC 0 false 0 false 0 (.slice A3 (toS (within o.f7 o.f8 hl)).length c3) 0) rfl rfl 26 _ HRA3.out (by kernel_rfl) rfl (ansC_one _ _ _ _ _ _ _ _ _) ?_))
  refine bodyPost_ret (res_ans rfl _ rfl (setRow_heap _ _ _ _ _ _ HRA3.out)) rfl ⟨_, rfl, Kd.R_mono (Kd.R_kept HR3.out (Kept_row w3 (w.heap.size + 1) _) (fun k hk e => by have hk' : W.heap.size ≤ k := hk; omega)) (fun _ _ => trivial), HL3.out.row (by omega) HRA3.out hgl hnl hhl _⟩
end Go.Proofs.Ytngocadnbpdnoaa.Mo
namespace Go.Proofs.Ytngocadnbpdnoaa.Mo
open Go Go.Maps Go.RowKit Go.Proofs.Ytngocadnbpdnoaa.Srt Go.Proofs.Ytngocadnbpdnoaa.Q Go.Proofs.YtngocadnbpdnoaaW.PrintWords Go.Proofs.YtngocadnbpdnoaaW.PrintLast Go.Proofs.YtngocadnbpdnoaaW.PrintMore
set_option linter.unusedVariables false
set_option linter.unusedSimpArgs false
set_option maxRecDepth 100000 in
set_option maxHeartbeats 8000000 in
theorem do_rgYesE (f : Nat → Option PL) (N gp bn bh : Nat) (multi : Int) (now : PL) (held : List (Int × PL)) (o : OpS) (A : Option Addr) (c : Nat) (hdl : Int) (w : World) (hM : PM w f N gp bn bh multi now held) (hF : Fro w f N) (hO : OpWf o) (hh : u64wf hdl) (hN : N ≤ 1099511627776) (hk : o.f0 = 8) (hl : PL) (hx : fnd held o.f4 = some hl) (hne : within o.f7 o.f8 hl = []) :
    Calls Try.prog 15 #[.pointer (some ⟨gp, 0, none⟩), .agg (opC o A c), .int .u64 hdl] w (DoPost w f (N + 1) gp bn bh ⟨multi, now, held⟩ ⟨0, false, 0, false, 0, within o.f7 o.f8 hl, 0⟩) := by
  have hgl := hM.gl
  have hnl := hM.now.lt
  have hhl := hM.held.1.lt
  have HM := Lib.hid hM
  have HF := Lib.hid hF
  have HO := Lib.hid hO
  have HU := Lib.hid hh
  have hb0 : Below w.heap.size w (doW w o A c).drew := below_drew (doW_below w o A c)
  have hP0 := hM.kept (Kept.of_below hb0 (fun _ => False)) (fun e => e) (fun e => e) (fun e => e)
  have HS : (fun w' : World => w'.cell? ⟨gp, 1, none⟩ = some (.map (some bn)) ∧ w'.cell? ⟨w.heap.size, 1, none⟩ = some (.int .u64 o.f1) ∧ (Instr.lookup 97 (.map (some bn)) (.int .u64 o.f1) true).run Try.prog w' = .ok (.tuple #[.int .u64 ((fnd now o.f1).getD 0), .bool (fnd now o.f1).isSome]) w') (doW w o A c).drew :=
    ⟨hP0.c1, by rw [blk_cell (w := (doW w o A c).drew) (doW_op w o A c)]; rfl, now_look hP0.now hO.key⟩
  obtain ⟨vh, hvh, hrunh⟩ := held_look (hM.held.kept (Kept.of_below (below_drew (below_alloc (below_drew (doW_below w o A c)) (.cells (ansC 0 (fnd now o.f1).isSome ((fnd now o.f1).getD 0) false 0 (.slice none 0 0) 0) 26))) (fun _ => False)) (fun e => e)) hO.han
  have hW2 : Below w.heap.size w ((doW w o A c).drew.alloc (.cells (ansC 0 (fnd now o.f1).isSome ((fnd now o.f1).getD 0) false 0 (.slice none 0 0) 0) 26)).drew := below_drew (below_alloc (below_drew (doW_below w o A c)) _)
  have hP2 := hM.kept (Kept.of_below hW2 (fun _ => False)) (fun e => e) (fun e => e) (fun e => e)
  have hs2 : (doW w o A c).drew.heap.size = w.heap.size + 2 := doW_size w o A c
  have hop2 : ((doW w o A c).drew.alloc (.cells (ansC 0 (fnd now o.f1).isSome ((fnd now o.f1).getD 0) false 0 (.slice none 0 0) 0) 26)).drew.heap[w.heap.size]? = some (.cells (opC o A c) 39 (0, 0)) := ((below_alloc (Below.refl _ (doW w o A c).drew) _).block _ (by rw [hs2]; omega)).trans (doW_op w o A c)
  have hra2 : ((doW w o A c).drew.alloc (.cells (ansC 0 (fnd now o.f1).isSome ((fnd now o.f1).getD 0) false 0 (.slice none 0 0) 0) 26)).drew.heap[w.heap.size + 1]? = some (.cells (ansC 0 false 0 false 0 (.slice none 0 0) 0) 26 (0, 0)) := ((below_alloc (Below.refl _ (doW w o A c).drew) _).block _ (by rw [hs2]; omega)).trans (doW_ans w o A c)
  have hfa2 : ((doW w o A c).drew.alloc (.cells (ansC 0 (fnd now o.f1).isSome ((fnd now o.f1).getD 0) false 0 (.slice none 0 0) 0) 26)).drew.heap[w.heap.size + 2]? = some (.cells (ansC 0 (fnd now o.f1).isSome ((fnd now o.f1).getD 0) false 0 (.slice none 0 0) 0) 26 (0, 0)) := by
    have := heap_alloc_new (doW w o A c).drew (.cells (ansC 0 (fnd now o.f1).isSome ((fnd now o.f1).getD 0) false 0 (.slice none 0 0) 0) 26)
    rw [hs2] at this
    exact this
  have HS2 : (fun w' : World => w'.cell? ⟨gp, 2, none⟩ = some (.map (some bh)) ∧ w'.cell? ⟨w.heap.size, 4, none⟩ = some (.int .u64 o.f4) ∧ (Instr.lookup 98 (.map (some bh)) (.int .u64 o.f4) true).run Try.prog w' = .ok (.tuple #[vh, .bool (fnd held o.f4).isSome]) w') ((doW w o A c).drew.alloc (.cells (ansC 0 (fnd now o.f1).isSome ((fnd now o.f1).getD 0) false 0 (.slice none 0 0) 0) 26)).drew :=
    ⟨hP2.c2, by rw [blk_cell hop2]; rfl, hrunh⟩
  have hkd : ((doW w o A c).drew.alloc (.cells (ansC 0 (fnd now o.f1).isSome ((fnd now o.f1).getD 0) false 0 (.slice none 0 0) 0) 26)).drew.cell? ⟨w.heap.size, 0, none⟩ = some (.int .u8 8) := by rw [blk_cell hop2, ← hk]; rfl
  have HVH := Lib.hid hvh
  have HW2 := Lib.hid hW2
  have HP2 := Lib.hid hP2
  have HOP2 := Lib.hid hop2
  have HRA2 := Lib.hid hra2
  have HFA2 := Lib.hid hfa2
  have hfnd0 : (fnd now o.f1).isSome = (fnd now o.f1).isSome := rfl
  obtain ⟨fo, hfo⟩ : ∃ b : Bool, b = (fnd now o.f1).isSome := ⟨_, rfl⟩
  obtain ⟨fv, hfv⟩ : ∃ v : Int, v = (fnd now o.f1).getD 0 := ⟨_, rfl⟩
  obtain ⟨hd, hhd⟩ : ∃ b : Bool, b = (fnd held o.f4).isSome := ⟨_, rfl⟩
  rw [← hfo, ← hfv] at HS HS2 HW2 HP2 HOP2 HRA2 HFA2 hkd
  rw [← hhd] at HS2
  have HFO := Lib.hid hfo
  have HFV := Lib.hid hfv
  have HHD := Lib.hid hhd
  clear hM hF hO hh hb0 hP0 hvh hrunh hW2 hP2 hs2 hop2 hra2 hfa2 hfnd0 hfo hfv hhd
  obtain ⟨W1, hW1⟩ : ∃ W1, W1 = doW w o A c := ⟨_, rfl⟩
  have HW1 := Lib.hid hW1
  rw [← hW1] at HS HS2 HW2 HP2 HOP2 HRA2 HFA2 hkd
  go_enter Try.func15, Try.ntmps15
  go_wp2_with fail
  change Code.wp _ _ _ _ (doW w o A c)
  rw [← hW1]
  clear hW1
  go_region_held3 (fun w' => w'.cell? ⟨gp, 1, none⟩ = some (.map (some bn)) ∧ w'.cell? ⟨w.heap.size, 1, none⟩ = some (.int .u64 o.f1) ∧ (Instr.lookup 97 (.map (some bn)) (.int .u64 o.f1) true).run Try.prog w' = .ok (.tuple #[.int .u64 fv, .bool fo]) w')
    (first | go_keep | exact HS)
    (first | fail | fail)
  clear HS
  have hs1 : W1.heap.size = w.heap.size + 2 := by rw [HW1.out]; exact doW_size w o A c
  go_wp2_with fail
  obtain ⟨W2, hW2⟩ : ∃ W2, W2 = W1.drew.alloc (Obj.cells (ansC 0 fo fv false 0 (Value.slice none 0 0) 0) 26) := ⟨_, rfl⟩
  change Code.wp _ _ _ _ (W1.drew.alloc (Obj.cells (ansC 0 fo fv false 0 (Value.slice none 0 0) 0) 26))
  rw [← hW2] at HS2 HW2 HP2 HOP2 HRA2 HFA2 hkd ⊢
  clear hW2
  go_region_held3 (fun w' => w'.cell? ⟨gp, 2, none⟩ = some (.map (some bh)) ∧ w'.cell? ⟨w.heap.size, 4, none⟩ = some (.int .u64 o.f4) ∧ (Instr.lookup 98 (.map (some bh)) (.int .u64 o.f4) true).run Try.prog w' = .ok (.tuple #[vh, .bool hd]) w')
    (first | go_keep | exact HS2)
    (first | fail | fail)
  clear HS2
  obtain ⟨W, hW⟩ : ∃ W, W = W2.drew := ⟨_, rfl⟩
  rw [← hW] at HW2 HP2 HOP2 HRA2 HFA2 hkd ⊢
  clear hW
  have HNE := Lib.hid hne
  clear hne
  obtain rfl : hd = true := by rw [HHD.out, hx]; rfl
  obtain ⟨b, rfl, hfb⟩ : ∃ b, vh = .map (some b) ∧ f b = some hl := by
    rcases HVH.out with ⟨h1, _⟩ | ⟨b, l, h1, h2, h3⟩
    · rw [hx] at h1; cases h1
    · rw [hx] at h1; cases h1; exact ⟨b, h2, h3⟩
  have HMB := Lib.hid ((HF.out b hl hfb).below HW2.out)
  have hhlen : hl.length ≤ 1099511627776 := Nat.le_trans (HF.out b hl hfb).len hN
  clear hfb HVH hx
  have HWZ := HW2
  go_upto_region 35 with fail
  have HKD := Lib.hid hk
  clear hk hkd
  obtain ⟨q0, q1, q2, q3, q4, q5, q6, q7, q8, q9, q10⟩ := op_cells HOP2.out
  have hzW := blk_lt HRA2.out
  go_wp2_with (first
    | (go_at_call 37
       refine (query_rgE o A c b N hl W HMB.out hhlen (by rw [HKD.out]; decide) (by rw [HKD.out]; decide) HNE.out).mono ?_
       rintro e w3 ⟨ps, rfl, hR, hB⟩
       obtain ⟨A3, c3, rfl⟩ := Kd.R_slice hR
       unfold ansV
       have HB3 := Lib.hid (HWZ.out.trans (hB.mono HWZ.out.size))
       have HRA3 : Hid (w3.heap[w.heap.size + 1]? = some (Obj.cells (ansC 0 false 0 false 0 (.slice none 0 0) 0) 26 (0, 0))) := Lib.hid ((hB.block _ hzW).trans HRA2.out)
       have HL3 := Lib.hid (left_same (K := fun k => k = bn ∨ k = bh) HM.out HF.out HB3.out (Nat.le_succ N))
       have HR3 := Lib.hid (Kd.R_lower (Kd.R_mono (Kd.R_bound hR) (fun k hk => hk.2.1)) HWZ.out.size)
       clear hR hB)
    | ((with_reducible refine gate_store (t := 26) (p := 6) rfl ?_); refine wpList_store_row rfl 26 (.tmp 6) (.tmp 120) rfl (w.heap.size + 1) (ansC 0 false 0 false 0 (.slice A3 (toS (within o.f7 o.f8 hl)).length c3) 0) rfl rfl 26 _ HRA3.out (by kernel_rfl) rfl (ansC_one _ _ _ _ _ _ _ _ _) ?_))
  refine bodyPost_ret (res_ans rfl _ rfl (setRow_heap _ _ _ _ _ _ HRA3.out)) rfl ⟨_, rfl, Kd.R_mono (Kd.R_kept HR3.out (Kept_row w3 (w.heap.size + 1) _) (fun k hk e => by have hk' : W.heap.size ≤ k := hk; omega)) (fun _ _ => trivial), HL3.out.row (by omega) HRA3.out hgl hnl hhl _⟩
end Go.Proofs.Ytngocadnbpdnoaa.Mo
namespace Go.Proofs.Ytngocadnbpdnoaa.Mo
open Go Go.Maps Go.RowKit Go.Proofs.Ytngocadnbpdnoaa.Srt Go.Proofs.Ytngocadnbpdnoaa.Q Go.Proofs.YtngocadnbpdnoaaW.PrintWords Go.Proofs.YtngocadnbpdnoaaW.PrintLast Go.Proofs.YtngocadnbpdnoaaW.PrintMore
set_option linter.unusedVariables false
set_option linter.unusedSimpArgs false
set_option maxRecDepth 100000 in
set_option maxHeartbeats 8000000 in
theorem do_mgYes (f : Nat → Option PL) (N gp bn bh : Nat) (multi : Int) (now : PL) (held : List (Int × PL)) (o : OpS) (A : Option Addr) (c : Nat) (hdl : Int) (w : World) (hM : PM w f N gp bn bh multi now held) (hF : Fro w f N) (hO : OpWf o) (hh : u64wf hdl) (hN : N ≤ 1099511627776) (hk : o.f0 = 7) (hl : PL) (hx : fnd held o.f4 = some hl) (hl2 : ¬ multi < (o.f6.length : Int)) (hC : ∀ W', Kept w W' (fun k => k = bn ∨ k = bh) → Kd.C (Kd.int .u64) W' A o.f6.length o.f6) (hw : ∀ k ∈ o.f6, u64wf k) (hn : o.f6.length ≤ 1099511627776) :
    Calls Try.prog 15 #[.pointer (some ⟨gp, 0, none⟩), .agg (opC o A c), .int .u64 hdl] w (DoPost w f (N + 1) gp bn bh ⟨multi, now, held⟩ ⟨0, false, 0, false, 0, ofKeys hl o.f6, 0⟩) := by
  have hgl := hM.gl
  have hnl := hM.now.lt
  have hhl := hM.held.1.lt
  have HM := Lib.hid hM
  have HF := Lib.hid hF
  have HO := Lib.hid hO
  have HU := Lib.hid hh
  have hb0 : Below w.heap.size w (doW w o A c).drew := below_drew (doW_below w o A c)
  have hP0 := hM.kept (Kept.of_below hb0 (fun _ => False)) (fun e => e) (fun e => e) (fun e => e)
  have HS : (fun w' : World => w'.cell? ⟨gp, 1, none⟩ = some (.map (some bn)) ∧ w'.cell? ⟨w.heap.size, 1, none⟩ = some (.int .u64 o.f1) ∧ (Instr.lookup 97 (.map (some bn)) (.int .u64 o.f1) true).run Try.prog w' = .ok (.tuple #[.int .u64 ((fnd now o.f1).getD 0), .bool (fnd now o.f1).isSome]) w') (doW w o A c).drew :=
    ⟨hP0.c1, by rw [blk_cell (w := (doW w o A c).drew) (doW_op w o A c)]; rfl, now_look hP0.now hO.key⟩
  obtain ⟨vh, hvh, hrunh⟩ := held_look (hM.held.kept (Kept.of_below (below_drew (below_alloc (below_drew (doW_below w o A c)) (.cells (ansC 0 (fnd now o.f1).isSome ((fnd now o.f1).getD 0) false 0 (.slice none 0 0) 0) 26))) (fun _ => False)) (fun e => e)) hO.han
  have hW2 : Below w.heap.size w ((doW w o A c).drew.alloc (.cells (ansC 0 (fnd now o.f1).isSome ((fnd now o.f1).getD 0) false 0 (.slice none 0 0) 0) 26)).drew := below_drew (below_alloc (below_drew (doW_below w o A c)) _)
  have hP2 := hM.kept (Kept.of_below hW2 (fun _ => False)) (fun e => e) (fun e => e) (fun e => e)
  have hs2 : (doW w o A c).drew.heap.size = w.heap.size + 2 := doW_size w o A c
  have hop2 : ((doW w o A c).drew.alloc (.cells (ansC 0 (fnd now o.f1).isSome ((fnd now o.f1).getD 0) false 0 (.slice none 0 0) 0) 26)).drew.heap[w.heap.size]? = some (.cells (opC o A c) 39 (0, 0)) := ((below_alloc (Below.refl _ (doW w o A c).drew) _).block _ (by rw [hs2]; omega)).trans (doW_op w o A c)
  have hra2 : ((doW w o A c).drew.alloc (.cells (ansC 0 (fnd now o.f1).isSome ((fnd now o.f1).getD 0) false 0 (.slice none 0 0) 0) 26)).drew.heap[w.heap.size + 1]? = some (.cells (ansC 0 false 0 false 0 (.slice none 0 0) 0) 26 (0, 0)) := ((below_alloc (Below.refl _ (doW w o A c).drew) _).block _ (by rw [hs2]; omega)).trans (doW_ans w o A c)
  have hfa2 : ((doW w o A c).drew.alloc (.cells (ansC 0 (fnd now o.f1).isSome ((fnd now o.f1).getD 0) false 0 (.slice none 0 0) 0) 26)).drew.heap[w.heap.size + 2]? = some (.cells (ansC 0 (fnd now o.f1).isSome ((fnd now o.f1).getD 0) false 0 (.slice none 0 0) 0) 26 (0, 0)) := by
    have := heap_alloc_new (doW w o A c).drew (.cells (ansC 0 (fnd now o.f1).isSome ((fnd now o.f1).getD 0) false 0 (.slice none 0 0) 0) 26)
    rw [hs2] at this
    exact this
  have HS2 : (fun w' : World => w'.cell? ⟨gp, 2, none⟩ = some (.map (some bh)) ∧ w'.cell? ⟨w.heap.size, 4, none⟩ = some (.int .u64 o.f4) ∧ (Instr.lookup 98 (.map (some bh)) (.int .u64 o.f4) true).run Try.prog w' = .ok (.tuple #[vh, .bool (fnd held o.f4).isSome]) w') ((doW w o A c).drew.alloc (.cells (ansC 0 (fnd now o.f1).isSome ((fnd now o.f1).getD 0) false 0 (.slice none 0 0) 0) 26)).drew :=
    ⟨hP2.c2, by rw [blk_cell hop2]; rfl, hrunh⟩
  have hkd : ((doW w o A c).drew.alloc (.cells (ansC 0 (fnd now o.f1).isSome ((fnd now o.f1).getD 0) false 0 (.slice none 0 0) 0) 26)).drew.cell? ⟨w.heap.size, 0, none⟩ = some (.int .u8 7) := by rw [blk_cell hop2, ← hk]; rfl
  have HVH := Lib.hid hvh
  have HW2 := Lib.hid hW2
  have HP2 := Lib.hid hP2
  have HOP2 := Lib.hid hop2
  have HRA2 := Lib.hid hra2
  have HFA2 := Lib.hid hfa2
  have hfnd0 : (fnd now o.f1).isSome = (fnd now o.f1).isSome := rfl
  obtain ⟨fo, hfo⟩ : ∃ b : Bool, b = (fnd now o.f1).isSome := ⟨_, rfl⟩
  obtain ⟨fv, hfv⟩ : ∃ v : Int, v = (fnd now o.f1).getD 0 := ⟨_, rfl⟩
  obtain ⟨hd, hhd⟩ : ∃ b : Bool, b = (fnd held o.f4).isSome := ⟨_, rfl⟩
  rw [← hfo, ← hfv] at HS HS2 HW2 HP2 HOP2 HRA2 HFA2 hkd
  rw [← hhd] at HS2
  have HFO := Lib.hid hfo
  have HFV := Lib.hid hfv
  have HHD := Lib.hid hhd
  clear hM hF hO hh hb0 hP0 hvh hrunh hW2 hP2 hs2 hop2 hra2 hfa2 hfnd0 hfo hfv hhd
  obtain ⟨W1, hW1⟩ : ∃ W1, W1 = doW w o A c := ⟨_, rfl⟩
  have HW1 := Lib.hid hW1
  rw [← hW1] at HS HS2 HW2 HP2 HOP2 HRA2 HFA2 hkd
  go_enter Try.func15, Try.ntmps15
  go_wp2_with fail
  change Code.wp _ _ _ _ (doW w o A c)
  rw [← hW1]
  clear hW1
  go_region_held3 (fun w' => w'.cell? ⟨gp, 1, none⟩ = some (.map (some bn)) ∧ w'.cell? ⟨w.heap.size, 1, none⟩ = some (.int .u64 o.f1) ∧ (Instr.lookup 97 (.map (some bn)) (.int .u64 o.f1) true).run Try.prog w' = .ok (.tuple #[.int .u64 fv, .bool fo]) w')
    (first | go_keep | exact HS)
    (first | fail | fail)
  clear HS
  have hs1 : W1.heap.size = w.heap.size + 2 := by rw [HW1.out]; exact doW_size w o A c
  go_wp2_with fail
  obtain ⟨W2, hW2⟩ : ∃ W2, W2 = W1.drew.alloc (Obj.cells (ansC 0 fo fv false 0 (Value.slice none 0 0) 0) 26) := ⟨_, rfl⟩
  change Code.wp _ _ _ _ (W1.drew.alloc (Obj.cells (ansC 0 fo fv false 0 (Value.slice none 0 0) 0) 26))
  rw [← hW2] at HS2 HW2 HP2 HOP2 HRA2 HFA2 hkd ⊢
  clear hW2
  go_region_held3 (fun w' => w'.cell? ⟨gp, 2, none⟩ = some (.map (some bh)) ∧ w'.cell? ⟨w.heap.size, 4, none⟩ = some (.int .u64 o.f4) ∧ (Instr.lookup 98 (.map (some bh)) (.int .u64 o.f4) true).run Try.prog w' = .ok (.tuple #[vh, .bool hd]) w')
    (first | go_keep | exact HS2)
    (first | fail | fail)
  clear HS2
  obtain ⟨W, hW⟩ : ∃ W, W = W2.drew := ⟨_, rfl⟩
  rw [← hW] at HW2 HP2 HOP2 HRA2 HFA2 hkd ⊢
  clear hW
  have HC := Lib.hid hC
  have HWK := Lib.hid hw
  clear hC hw
  obtain rfl : hd = true := by rw [HHD.out, hx]; rfl
  obtain ⟨b, rfl, hfb⟩ : ∃ b, vh = .map (some b) ∧ f b = some hl := by
    rcases HVH.out with ⟨h1, _⟩ | ⟨b, l, h1, h2, h3⟩
    · rw [hx] at h1; cases h1
    · rw [hx] at h1; cases h1; exact ⟨b, h2, h3⟩
  have HMB := Lib.hid ((HF.out b hl hfb).below HW2.out)
  have hhlen : hl.length ≤ 1099511627776 := Nat.le_trans (HF.out b hl hfb).len hN
  clear hfb HVH hx
  have kA := HP2.out.c0
  have kB : W.cell? ⟨w.heap.size, 8, none⟩ = some (.slice A o.f6.length c) := by rw [blk_cell HOP2.out]; rfl
  have hlen' : decide (multi < (o.f6.length : Int)) = false := decide_eq_false (by omega)
  go_wp2_with fail
  go_quiet (fail)
  go_upto_region 35 with fail
  have HKD := Lib.hid hk
  clear hk hkd
  have HWZ := Lib.hid (pw_below_drewN HW2.out nq)
  have HRA2 : Hid ((W.drewN nq).heap[w.heap.size + 1]? = some (Obj.cells (ansC 0 false 0 false 0 (.slice none 0 0) 0) 26 (0, 0))) := HRA2
  have HOP3 : Hid ((W.drewN nq).heap[w.heap.size]? = some (Obj.cells (opC o A c) 39 (0, 0))) := HOP2
  obtain ⟨q0, q1, q2, q3, q4, q5, q6, q7, q8, q9, q10⟩ := op_cells HOP3.out
  have hzW := blk_lt HRA2.out
  go_wp2_with (first
    | (go_at_call 37
       refine (query_mg o A c b N hl (W.drewN nq) (HMB.out.below (pw_below_drewN (Below.refl _ _) nq)) HKD.out (HC.out _ (Kept.of_below HWZ.out _)) HWK.out hn).mono ?_
       rintro e w3 ⟨ps, rfl, hR, hB⟩
       obtain ⟨A3, c3, rfl⟩ := Kd.R_slice hR
       unfold ansV
       have HB3 := Lib.hid (HWZ.out.trans (hB.mono HWZ.out.size))
       have HRA3 : Hid (w3.heap[w.heap.size + 1]? = some (Obj.cells (ansC 0 false 0 false 0 (.slice none 0 0) 0) 26 (0, 0))) := Lib.hid ((hB.block _ hzW).trans HRA2.out)
       have HL3 := Lib.hid (left_same (K := fun k => k = bn ∨ k = bh) HM.out HF.out HB3.out (Nat.le_succ N))
       have HR3 := Lib.hid (Kd.R_lower (Kd.R_mono (Kd.R_bound hR) (fun k hk => hk.2.1)) HWZ.out.size)
       clear hR hB)
    | ((with_reducible refine gate_store (t := 26) (p := 6) rfl ?_); refine wpList_store_row rfl 26 (.tmp 6) (.tmp 120) rfl (w.heap.size + 1) (ansC 0 false 0 false 0 (.slice A3 (toS (ofKeys hl o.f6)).length c3) 0) rfl rfl 26 _ HRA3.out (by kernel_rfl) rfl (ansC_one _ _ _ _ _ _ _ _ _) ?_))
  refine bodyPost_ret (res_ans rfl _ rfl (setRow_heap _ _ _ _ _ _ HRA3.out)) rfl ⟨_, rfl, Kd.R_mono (Kd.R_kept HR3.out (Kept_row w3 (w.heap.size + 1) _) (fun k hk e => by have hk' : (W.drewN nq).heap.size ≤ k := hk; omega)) (fun _ _ => trivial), HL3.out.row (by omega) HRA3.out hgl hnl hhl _⟩
end Go.Proofs.Ytngocadnbpdnoaa.Mo
namespace Go.Proofs.Ytngocadnbpdnoaa.Mo
open Go Go.Maps Go.RowKit Go.Proofs.Ytngocadnbpdnoaa.Srt Go.Proofs.Ytngocadnbpdnoaa.Q Go.Proofs.YtngocadnbpdnoaaW.PrintWords Go.Proofs.YtngocadnbpdnoaaW.PrintLast Go.Proofs.YtngocadnbpdnoaaW.PrintMore
set_option linter.unusedVariables false
set_option linter.unusedSimpArgs false
/-- What Do does to a state, and what it tells. -/
def stepD (s : MS) (o : OpS) (h : Int) : MS × AnsD :=
  if o.f0 = 1 then (s, foundD s o)
  else if o.f0 = 2 then (⟨s.multi, put s.now o.f1 o.f2, s.held⟩, foundD s o)
  else if o.f0 = 3 then (⟨s.multi, del s.now o.f1, s.held⟩, foundD s o)
  else if o.f0 = 4 then if fnd s.now o.f1 = some o.f3 then (⟨s.multi, put s.now o.f1 o.f2, s.held⟩, { foundD s o with dn := true }) else (s, foundD s o)
  else if o.f0 = 5 then (⟨s.multi, s.now, snapHeld h s.now s.held⟩, snapD h s.held)
  else if o.f0 = 6 then match fnd s.held o.f4 with | none => (s, errD 33) | some _ => (⟨s.multi, s.now, del s.held o.f4⟩, errD 0)
  else if o.f0 = 7 then if s.multi < (o.f6.length : Int) then (s, errD 6) else match fnd s.held o.f4 with | none => (s, errD 33) | some x => (s, ⟨0, false, 0, false, 0, ofKeys x o.f6, 0⟩)
  else if o.f0 = 8 then match fnd s.held o.f4 with | none => (s, errD 33) | some x => (s, ⟨0, false, 0, false, 0, within o.f7 o.f8 x, 0⟩)
  else if o.f0 = 9 then match fnd s.held o.f4 with | none => (s, errD 33) | some x => (s, ⟨0, false, 0, false, 0, [], ((toS (within o.f7 o.f8 x)).length : Int)⟩)
  else if o.f0 = 10 then (s, errD 0)
  else (s, errD 160)
theorem do_c (f : Nat → Option PL) (N gp bn bh : Nat) (multi : Int) (now : PL) (held : List (Int × PL)) (o : OpS) (A : Option Addr) (c : Nat) (hdl : Int) (w : World) (hM : PM w f N gp bn bh multi now held) (hF : Fro w f N) (hO : OpWf o) (hh : u64wf hdl) (hN : N ≤ 1099511627776)
    (hC : ∀ W', Kept w W' (fun k => k = bn ∨ k = bh) → Kd.C (Kd.int .u64) W' A o.f6.length o.f6) (hw : ∀ k ∈ o.f6, u64wf k) (hn : o.f6.length ≤ 1099511627776) :
    Calls Try.prog 15 #[.pointer (some ⟨gp, 0, none⟩), .agg (opC o A c), .int .u64 hdl] w (DoPost w f (N + 1) gp bn bh (stepD ⟨multi, now, held⟩ o hdl).1 (stepD ⟨multi, now, held⟩ o hdl).2) := by
  by_cases h1 : o.f0 = 1
  · rw [show stepD ⟨multi, now, held⟩ o hdl = (⟨multi, now, held⟩, foundD ⟨multi, now, held⟩ o) by simp [stepD, h1]]
    exact do_get f N gp bn bh multi now held o A c hdl w hM hF hO hh hN h1
  by_cases h2 : o.f0 = 2
  · rw [show stepD ⟨multi, now, held⟩ o hdl = (⟨multi, put now o.f1 o.f2, held⟩, foundD ⟨multi, now, held⟩ o) by simp [stepD, h2]]
    exact do_put f N gp bn bh multi now held o A c hdl w hM hF hO hh hN h2
  by_cases h3 : o.f0 = 3
  · rw [show stepD ⟨multi, now, held⟩ o hdl = (⟨multi, del now o.f1, held⟩, foundD ⟨multi, now, held⟩ o) by simp [stepD, h3]]
    exact do_del f N gp bn bh multi now held o A c hdl w hM hF hO hh hN h3
  by_cases h4 : o.f0 = 4
  · by_cases hx : fnd now o.f1 = some o.f3
    · rw [show stepD ⟨multi, now, held⟩ o hdl = (⟨multi, put now o.f1 o.f2, held⟩, { foundD ⟨multi, now, held⟩ o with dn := true }) by simp [stepD, h4, hx]]
      exact do_swapY f N gp bn bh multi now held o A c hdl w hM hF hO hh hN h4 hx
    · rw [show stepD ⟨multi, now, held⟩ o hdl = (⟨multi, now, held⟩, foundD ⟨multi, now, held⟩ o) by simp [stepD, h4, hx]]
      exact do_swapN f N gp bn bh multi now held o A c hdl w hM hF hO hh hN h4 hx
  by_cases h5 : o.f0 = 5
  · rw [show stepD ⟨multi, now, held⟩ o hdl = (⟨multi, now, snapHeld hdl now held⟩, snapD hdl held) by simp [stepD, h5]]
    exact do_snap f N gp bn bh multi now held o A c hdl w hM hF hO hh hN h5
  by_cases h6 : o.f0 = 6
  · cases hx : fnd held o.f4 with
    | none =>
      rw [show stepD ⟨multi, now, held⟩ o hdl = (⟨multi, now, held⟩, errD 33) by simp [stepD, h6, hx]]
      exact do_relN f N gp bn bh multi now held o A c hdl w hM hF hO hh hN h6 hx
    | some x =>
      rw [show stepD ⟨multi, now, held⟩ o hdl = (⟨multi, now, del held o.f4⟩, errD 0) by simp [stepD, h6, hx]]
      exact do_relY f N gp bn bh multi now held o A c hdl w hM hF hO hh hN h6 (by rw [hx]; rfl)
  by_cases h7 : o.f0 = 7
  · by_cases hl : multi < (o.f6.length : Int)
    · rw [show stepD ⟨multi, now, held⟩ o hdl = (⟨multi, now, held⟩, errD 6) by simp [stepD, h7, hl]]
      exact do_mgLong f N gp bn bh multi now held o A c hdl w hM hF hO hh hN h7 hl
    · cases hx : fnd held o.f4 with
      | none =>
        rw [show stepD ⟨multi, now, held⟩ o hdl = (⟨multi, now, held⟩, errD 33) by simp [stepD, h7, hl, hx]]
        exact do_mgNo f N gp bn bh multi now held o A c hdl w hM hF hO hh hN h7 hx hl
      | some x =>
        rw [show stepD ⟨multi, now, held⟩ o hdl = (⟨multi, now, held⟩, ⟨0, false, 0, false, 0, ofKeys x o.f6, 0⟩) by simp [stepD, h7, hl, hx]]
        exact do_mgYes f N gp bn bh multi now held o A c hdl w hM hF hO hh hN h7 x hx hl hC hw hn
  by_cases h8 : o.f0 = 8
  · cases hx : fnd held o.f4 with
    | none =>
      rw [show stepD ⟨multi, now, held⟩ o hdl = (⟨multi, now, held⟩, errD 33) by simp [stepD, h8, hx]]
      exact do_rgNo f N gp bn bh multi now held o A c hdl w hM hF hO hh hN h8 hx
    | some x =>
      rw [show stepD ⟨multi, now, held⟩ o hdl = (⟨multi, now, held⟩, ⟨0, false, 0, false, 0, within o.f7 o.f8 x, 0⟩) by simp [stepD, h8, hx]]
      by_cases hne : within o.f7 o.f8 x = []
      · exact do_rgYesE f N gp bn bh multi now held o A c hdl w hM hF hO hh hN h8 x hx hne
      · exact do_rgYesS f N gp bn bh multi now held o A c hdl w hM hF hO hh hN h8 x hx hne
  by_cases h9 : o.f0 = 9
  · cases hx : fnd held o.f4 with
    | none =>
      rw [show stepD ⟨multi, now, held⟩ o hdl = (⟨multi, now, held⟩, errD 33) by simp [stepD, h9, hx]]
      exact do_ctNo f N gp bn bh multi now held o A c hdl w hM hF hO hh hN h9 hx
    | some x =>
      rw [show stepD ⟨multi, now, held⟩ o hdl = (⟨multi, now, held⟩, ⟨0, false, 0, false, 0, [], ((toS (within o.f7 o.f8 x)).length : Int)⟩) by simp [stepD, h9, hx]]
      exact do_ctYes f N gp bn bh multi now held o A c hdl w hM hF hO hh hN h9 x hx
  by_cases h10 : o.f0 = 10
  · rw [show stepD ⟨multi, now, held⟩ o hdl = (⟨multi, now, held⟩, errD 0) by simp [stepD, h10]]
    exact do_coll f N gp bn bh multi now held o A c hdl w hM hF hO hh hN h10
  · rw [show stepD ⟨multi, now, held⟩ o hdl = (⟨multi, now, held⟩, errD 160) by simp [stepD, h1, h2, h3, h4, h5, h6, h7, h8, h9, h10]]
    exact do_oth f N gp bn bh multi now held o A c hdl w hM hF hO hh hN trivial (fun k hk1 hk2 => beq_eq_false_iff_ne.2 (by omega))
end Go.Proofs.Ytngocadnbpdnoaa.Mo
namespace Go.Proofs.Ytngocadnbpdnoaa.Mo
open Go Go.Maps Go.RowKit Go.Proofs.Ytngocadnbpdnoaa.Srt Go.Proofs.Ytngocadnbpdnoaa.Q Go.Proofs.YtngocadnbpdnoaaW.PrintWords Go.Proofs.YtngocadnbpdnoaaW.PrintLast Go.Proofs.YtngocadnbpdnoaaW.PrintMore
set_option linter.unusedVariables false
set_option linter.unusedSimpArgs false
/-! The plain law of ModelHeld. -/
theorem within_all {l : PL} (h : ∀ q ∈ l, u64wf q.1) : within 0 18446744073709551615 l = l := by
  unfold within
  refine List.filter_eq_self.2 (fun q hq => ?_)
  have h1 := h q hq
  unfold u64wf at h1
  simp [Lit.wf, IntKind.min, IntKind.max, IntKind.signed, IntKind.bits] at h1
  simp only [Bool.not_eq_true', Bool.or_eq_false_iff, decide_eq_false_iff_not]
  omega
theorem snapHeld_keep {held : List (Int × PL)} {hd h : Int} {now c : PL} (hk : fnd held hd = some c) : fnd (snapHeld h now held) hd = some c := by
  unfold snapHeld
  split
  · exact hk
  · rename_i hs
    split
    · exact hk
    · rw [fnd_put_other _ _ _ (fun e => by rw [← e, hk] at hs; exact hs rfl)]
      exact hk
/-- A handle holds what it held, unless it is released. -/
theorem stepD_held {s : MS} {o : OpS} {h hd : Int} {c : PL} (hk : fnd s.held hd = some c) (hr : ¬ (o.f0 = 6 ∧ o.f4 = hd)) : fnd (stepD s o h).1.held hd = some c := by
  unfold stepD
  by_cases h1 : o.f0 = 1
  · simp [h1, hk]
  by_cases h2 : o.f0 = 2
  · simp [h2, hk]
  by_cases h3 : o.f0 = 3
  · simp [h3, hk]
  by_cases h4 : o.f0 = 4
  · by_cases hx : fnd s.now o.f1 = some o.f3 <;> simp [h4, hx, hk]
  by_cases h5 : o.f0 = 5
  · simp [h5, snapHeld_keep hk]
  by_cases h6 : o.f0 = 6
  · have hne : hd ≠ o.f4 := fun e => hr ⟨h6, e.symm⟩
    cases hx : fnd s.held o.f4 <;> simp [h6, hx, hk, fnd_del_other _ _ hne]
  by_cases h7 : o.f0 = 7
  · by_cases hl : s.multi < (o.f6.length : Int)
    · simp [h7, hl, hk]
    · cases hx : fnd s.held o.f4 <;> simp [h7, hl, hx, hk]
  by_cases h8 : o.f0 = 8
  · cases hx : fnd s.held o.f4 <;> simp [h8, hx, hk]
  by_cases h9 : o.f0 = 9
  · cases hx : fnd s.held o.f4 <;> simp [h9, hx, hk]
  by_cases h10 : o.f0 = 10
  · simp [h10, hk]
  · simp [h1, h2, h3, h4, h5, h6, h7, h8, h9, h10, hk]
theorem stepD_multi (s : MS) (o : OpS) (h : Int) : (stepD s o h).1.multi = s.multi := by
  unfold stepD
  repeat' split
  all_goals rfl
theorem snap_new {held : List (Int × PL)} {hd : Int} {now : PL} (hn : fnd held hd = none) (h0 : hd ≠ 0) : fnd (snapHeld hd now held) hd = some now ∧ snapD hd held = ⟨0, false, 0, false, hd, [], 0⟩ := by
  unfold snapHeld snapD
  rw [hn]
  simp [h0, fnd_put_same]
end Go.Proofs.Ytngocadnbpdnoaa.Mo
namespace Go.Proofs.Ytngocadnbpdnoaa.Mo
open Go Go.Maps Go.RowKit Go.Proofs.Ytngocadnbpdnoaa.Srt Go.Proofs.Ytngocadnbpdnoaa.Q Go.Proofs.YtngocadnbpdnoaaW.PrintWords Go.Proofs.YtngocadnbpdnoaaW.PrintLast Go.Proofs.YtngocadnbpdnoaaW.PrintMore
set_option linter.unusedVariables false
set_option linter.unusedSimpArgs false
/-! The plain law of ModelKeys. -/
def dk (now : PL) (o : OpS) : PL := if o.f0 = 2 then put now o.f1 o.f2 else if o.f0 = 3 then del now o.f1 else if fnd now o.f1 = some o.f3 then put now o.f1 o.f2 else now
def isK (o : OpS) : Prop := 2 ≤ o.f0 ∧ o.f0 ≤ 4
instance (o : OpS) : Decidable (isK o) := by unfold isK; infer_instance
def selK (d : Int) (o : OpS) : Prop := isK o ∧ o.f1.tmod 2 = d
instance (d : Int) (o : OpS) : Decidable (selK d o) := by unfold selK; infer_instance
def runA (s : PL) (l : List OpS) : PL := l.foldl (fun s o => if isK o then dk s o else s) s
def runB (d : Int) (s : PL) (l : List OpS) : PL := l.foldl (fun s o => if selK d o then dk s o else s) s
def eff (v : Option Int) (o : OpS) : Option Int := if o.f0 = 2 then some o.f2 else if o.f0 = 3 then none else if v = some o.f3 then some o.f2 else v
def effs (k : Int) (v : Option Int) (l : List OpS) : Option Int := l.foldl (fun v o => if isK o ∧ o.f1 = k then eff v o else v) v
theorem fnd_dk (s : PL) (o : OpS) (k : Int) : fnd (dk s o) k = if o.f1 = k then eff (fnd s k) o else fnd s k := by
  unfold dk eff
  by_cases hk : o.f1 = k
  · subst hk
    rw [if_pos rfl]
    split
    · rw [fnd_put_same]
    · split
      · rw [fnd_del_same]
      · split
        · rw [fnd_put_same]
        · rfl
  · rw [if_neg hk]
    split
    · rw [fnd_put_other _ _ _ (Ne.symm hk)]
    · split
      · rw [fnd_del_other _ _ (Ne.symm hk)]
      · split
        · rw [fnd_put_other _ _ _ (Ne.symm hk)]
        · rfl
theorem asc_dk {s : PL} (h : Asc s) (o : OpS) : Asc (dk s o) := by
  unfold dk
  split
  · exact asc_put h _ _
  · split
    · exact asc_del h _
    · split
      · exact asc_put h _ _
      · exact h
theorem fnd_runA (k : Int) : ∀ (l : List OpS) (s : PL), fnd (runA s l) k = effs k (fnd s k) l
  | [], s => rfl
  | o :: l, s => by
    show fnd (runA (if isK o then dk s o else s) l) k = effs k (if isK o ∧ o.f1 = k then eff (fnd s k) o else fnd s k) l
    rw [fnd_runA k l]
    congr 1
    by_cases h1 : isK o
    · rw [if_pos h1, fnd_dk]
      by_cases h2 : o.f1 = k <;> simp [h1, h2]
    · simp [h1]
theorem fnd_runB (d k : Int) : ∀ (l : List OpS) (s : PL), fnd (runB d s l) k = if k.tmod 2 = d then effs k (fnd s k) l else fnd s k
  | [], s => by simp [runB, effs]
  | o :: l, s => by
    show fnd (runB d (if selK d o then dk s o else s) l) k = if k.tmod 2 = d then effs k (if isK o ∧ o.f1 = k then eff (fnd s k) o else fnd s k) l else fnd s k
    rw [fnd_runB d k l]
    by_cases h1 : isK o
    · by_cases h2 : o.f1 = k
      · subst h2
        by_cases h3 : o.f1.tmod 2 = d
        · rw [if_pos h3, if_pos h3, if_pos ⟨h1, h3⟩, if_pos ⟨h1, rfl⟩, fnd_dk, if_pos rfl]
        · rw [if_neg h3, if_neg h3, if_neg (fun e => h3 e.2)]
      · have e : fnd (if selK d o then dk s o else s) k = fnd s k := by
          split
          · rw [fnd_dk, if_neg h2]
          · rfl
        rw [e, show (if isK o ∧ o.f1 = k then eff (fnd s k) o else fnd s k) = fnd s k from if_neg (fun e => h2 e.2)]
    · rw [if_neg (fun e : selK d o => h1 e.1), show (if isK o ∧ o.f1 = k then eff (fnd s k) o else fnd s k) = fnd s k from if_neg (fun e => h1 e.1)]
theorem effs_none {k : Int} : ∀ (l : List OpS) (v : Option Int), (∀ o ∈ l, o.f1 ≠ k) → effs k v l = v
  | [], v, _ => rfl
  | o :: l, v, h => by
    show effs k (if isK o ∧ o.f1 = k then eff v o else v) l = v
    rw [if_neg (fun e => h o (by simp) e.2)]
    exact effs_none l v (fun o ho => h o (by simp [ho]))
theorem asc_run (g : OpS → Prop) [DecidablePred g] : ∀ (l : List OpS) (s : PL), Asc s → Asc (l.foldl (fun s o => if g o then dk s o else s) s)
  | [], s, h => h
  | o :: l, s, h => by
    refine asc_run g l _ ?_
    show Asc (if g o then dk s o else s)
    split
    · exact asc_dk h _
    · exact h
theorem keys_law (l : List OpS) (hl : ∀ o ∈ l, 0 ≤ o.f1) : runA [] l = runB 1 (runB 0 [] l) l := by
  have a1 : Asc (runA [] l) := asc_run _ l [] List.Pairwise.nil
  have a2 : Asc (runB 0 [] l) := asc_run _ l [] List.Pairwise.nil
  have a3 : Asc (runB 1 (runB 0 [] l) l) := asc_run _ l _ a2
  refine asc_ext a1 a3 (fun k => ?_)
  rw [fnd_runA, fnd_runB, fnd_runB]
  by_cases hk : 0 ≤ k
  · rcases (show k.tmod 2 = 0 ∨ k.tmod 2 = 1 by rw [Int.tmod_eq_emod_of_nonneg hk]; omega) with h | h
    · rw [if_neg (by rw [h]; decide), if_pos h]
    · rw [if_pos h, if_neg (by rw [h]; decide)]
  · have z : effs k none l = none := effs_none l none (fun o ho e => by have := hl o ho; omega)
    simp only [fnd_nil, z]
    split <;> split <;> first | rfl | exact z.symm
theorem runA_succ (l : List OpS) (i : Nat) (h : i < l.length) : runA [] (l.take (i + 1)) = if isK l[i] then dk (runA [] (l.take i)) l[i] else runA [] (l.take i) := by
  rw [runA, runA, List.take_succ_eq_append_getElem h, List.foldl_append]; rfl
theorem runB_succ (d : Int) (s : PL) (l : List OpS) (i : Nat) (h : i < l.length) : runB d s (l.take (i + 1)) = if selK d l[i] then dk (runB d s (l.take i)) l[i] else runB d s (l.take i) := by
  rw [runB, runB, List.take_succ_eq_append_getElem h, List.foldl_append]; rfl
/-- Do of these kinds. -/
theorem do_kv (f : Nat → Option PL) (N gp bn bh : Nat) (multi : Int) (now : PL) (held : List (Int × PL)) (o : OpS) (A : Option Addr) (c : Nat) (w : World) (hM : PM w f N gp bn bh multi now held) (hF : Fro w f N) (hO : OpWf o) (hN : N ≤ 1099511627776) (hk : isK o) :
    Calls Try.prog 15 #[.pointer (some ⟨gp, 0, none⟩), .agg (opC o A c), .int .u64 0] w fun e w' => ∃ v, e = .returned v ∧ Left w w' f (N + 1) gp bn bh multi (dk now o) held (fun k => k = bn ∨ k = bh) := by
  have h0 : u64wf 0 := by unfold u64wf; decide
  have h3 : o.f0 = 2 ∨ o.f0 = 3 ∨ o.f0 = 4 := by unfold isK at hk; omega
  rcases h3 with h | h | h
  · refine (do_put f N gp bn bh multi now held o A c 0 w hM hF hO h0 hN h).mono fun e w' ⟨ps, he, hR, hL⟩ => ⟨_, he, ?_⟩
    have : dk now o = put now o.f1 o.f2 := by unfold dk; rw [if_pos h]
    rw [this]; exact hL
  · refine (do_del f N gp bn bh multi now held o A c 0 w hM hF hO h0 hN h).mono fun e w' ⟨ps, he, hR, hL⟩ => ⟨_, he, ?_⟩
    have : dk now o = del now o.f1 := by unfold dk; rw [if_neg (by omega), if_pos h]
    rw [this]; exact hL
  · by_cases hx : fnd now o.f1 = some o.f3
    · refine (do_swapY f N gp bn bh multi now held o A c 0 w hM hF hO h0 hN h hx).mono fun e w' ⟨ps, he, hR, hL⟩ => ⟨_, he, ?_⟩
      have : dk now o = put now o.f1 o.f2 := by unfold dk; rw [if_neg (by omega), if_neg (by omega), if_pos hx]
      rw [this]; exact hL
    · refine (do_swapN f N gp bn bh multi now held o A c 0 w hM hF hO h0 hN h hx).mono fun e w' ⟨ps, he, hR, hL⟩ => ⟨_, he, ?_⟩
      have : dk now o = now := by unfold dk; rw [if_neg (by omega), if_neg (by omega), if_neg hx]
      rw [this]; exact hL
theorem samM_l0 (x0 x1 : List SP) (hl : x0.length = x1.length) (hm : x0.length ≤ 4398046511104) : ∀ m i : Nat, i + m = x0.length → shuttermem_SamePairs.l0 (m + 1) x0 x1 (i : Int) = some (decide (x0.drop i = x1.drop i))
  | 0, i, e => by
    unfold shuttermem_SamePairs.l0
    rw [if_neg (by omega)]
    rw [List.drop_eq_nil_of_le (by omega), List.drop_eq_nil_of_le (by omega)]; simp
  | m + 1, i, e => by
    unfold shuttermem_SamePairs.l0
    have h0 : i < x0.length := by omega
    have h1 : i < x1.length := by omega
    rw [if_pos (by omega), if_pos (by omega), if_pos (by omega), rd_get h0, rd_get h1]
    by_cases hd : x0[i] = x1[i]
    · rw [if_neg (by rw [pair_ne]; simpa using hd), show wrap64 ((i : Int) + 1) = ((i + 1 : Nat) : Int) by unfold wrap64; omega, samM_l0 x0 x1 hl hm m (i + 1) (by omega)]
      simp [drop_iff h0 h1, hd]
    · rw [if_pos (pair_ne.2 hd)]
      simp [drop_iff h0 h1, hd]
theorem samM_f (x0 x1 : List SP) (hm : x0.length ≤ 4398046511104) : ∃ k, shuttermem_SamePairs.f k x0 x1 = some (decide (x0 = x1)) := by
  unfold shuttermem_SamePairs.f
  by_cases hl : x0.length = x1.length
  · exact ⟨x0.length + 1, by rw [if_pos (by omega)]; simpa using samM_l0 x0 x1 hl hm x0.length 0 (by omega)⟩
  · exact ⟨0, by rw [if_neg (by omega)]; simp; intro e; exact hl (by rw [e])⟩
theorem samM_c (x y : List SP) (A B : Option Addr) (c d : Nat) (w : World) (hA : Kd.C k90 w A x.length x) (hc : x.length ≤ c) (hB : Kd.C k90 w B y.length y) (hd : y.length ≤ d) (hm : x.length ≤ 4398046511104) :
    Calls Try.prog 18 #[.slice A x.length c, .slice B y.length d] w fun e w' => e = .returned (.bool (decide (x = y))) ∧ Below w.heap.size w w' := by
  obtain ⟨k, hk⟩ := samM_f x y hm
  exact (shuttermem_SamePairs.calls k A c x B d y _ w hA hc hB hd hk).mono fun e w' ⟨he, hb⟩ => ⟨he, hb.below⟩
theorem heapOp : Kd.Heap k39 := Kd.heap_iso _ (Kd.heap_pair (Kd.heap_int _) (Kd.heap_pair (Kd.heap_int _) (Kd.heap_pair (Kd.heap_int _) (Kd.heap_pair (Kd.heap_int _) (Kd.heap_pair (Kd.heap_int _) (Kd.heap_pair (Kd.heap_iso _ (Kd.heap_pair Kd.heap_bool (Kd.heap_pair (Kd.heap_int _) (Kd.heap_int _)))) (Kd.heap_pair (Kd.heap_slice _ (Kd.heap_int _)) (Kd.heap_pair (Kd.heap_int _) (Kd.heap_int _)))))))))
theorem rdO_get {xs : List OpS} {i : Nat} (h : i < xs.length) : rd_T39 xs (i : Int) = xs[i] := by
  unfold rd_T39
  simp [List.getD_eq_getElem?_getD, h]
/-- Two models in one world. -/
structure Two (w wr : World) (f : Nat → Option PL) (N ga na ha gb nb hb : Nat) (m : Int) (now now2 : PL) : Prop where
  a : PM wr f N ga na ha m now []
  b : PM wr f N gb nb hb m now2 []
  fro : Fro wr f N
  ko : KO w wr (fun _ => False)
theorem Two.stepA {w wr w1 : World} {f : Nat → Option PL} {N ga na ha gb nb hb : Nat} {m : Int} {now now' now2 : PL} (h : Two w wr f N ga na ha gb nb hb m now now2) (hL : Left wr w1 f (N + 1) ga na ha m now' [] (fun k => k = na ∨ k = ha)) (h1 : w.heap.size ≤ na) (h2 : w.heap.size ≤ ha) (h3 : gb ≠ na ∧ gb ≠ ha ∧ nb ≠ na ∧ nb ≠ ha ∧ hb ≠ na ∧ hb ≠ ha) : ∃ f', Two w w1 f' (N + 1) ga na ha gb nb hb m now' now2 := by
  obtain ⟨f', hE, hP, hF, hK⟩ := hL
  exact ⟨f', hP, ((h.b.kept hK.kept (by omega) (by omega) (by omega)).ext hE h.b.now.lt h.b.held.1.lt).mono (Nat.le_succ N), hF, h.ko.then_ hK (fun k e => .inr (by omega))⟩
theorem Two.stepB {w wr w1 : World} {f : Nat → Option PL} {N ga na ha gb nb hb : Nat} {m : Int} {now now' now2 : PL} (h : Two w wr f N ga na ha gb nb hb m now now2) (hL : Left wr w1 f (N + 1) gb nb hb m now' [] (fun k => k = nb ∨ k = hb)) (h1 : w.heap.size ≤ nb) (h2 : w.heap.size ≤ hb) (h3 : ga ≠ nb ∧ ga ≠ hb ∧ na ≠ nb ∧ na ≠ hb ∧ ha ≠ nb ∧ ha ≠ hb) : ∃ f', Two w w1 f' (N + 1) ga na ha gb nb hb m now now' := by
  obtain ⟨f', hE, hP, hF, hK⟩ := hL
  exact ⟨f', ((h.a.kept hK.kept (by omega) (by omega) (by omega)).ext hE h.a.now.lt h.a.held.1.lt).mono (Nat.le_succ N), hP, hF, h.ko.then_ hK (fun k e => .inr (by omega))⟩
theorem Two.mono {w wr : World} {f : Nat → Option PL} {N N' ga na ha gb nb hb : Nat} {m : Int} {now now2 : PL} (h : Two w wr f N ga na ha gb nb hb m now now2) (hn : N ≤ N') : Two w wr f N' ga na ha gb nb hb m now now2 := ⟨h.a.mono hn, h.b.mono hn, h.fro.mono hn, h.ko⟩
theorem Two.below {w wr W : World} {f : Nat → Option PL} {N ga na ha gb nb hb : Nat} {m : Int} {now now2 : PL} (h : Two w wr f N ga na ha gb nb hb m now now2) (hB : Below wr.heap.size wr W) : Two w W f N ga na ha gb nb hb m now now2 :=
  ⟨h.a.kept (Kept.of_below hB (fun _ => False)) (fun e => e) (fun e => e) (fun e => e), h.b.kept (Kept.of_below hB (fun _ => False)) (fun e => e) (fun e => e) (fun e => e), h.fro.kept (Kept.of_below hB (fun _ => False)) (fun _ _ _ e => e), h.ko.below hB⟩
theorem heapP : Kd.Heap k90 := Kd.heap_iso _ (Kd.heap_pair (Kd.heap_int _) (Kd.heap_int _))
theorem toS_asc {s : PL} (h : Asc s) (m : Nat) (hm : m + 1 < (toS s).length) : (rd_T90 (toS s) (m : Int)).f0 < (rd_T90 (toS s) ((m + 1 : Nat) : Int)).f0 := by
  rw [rd_get (by omega), rd_get hm]
  have h1 : m + 1 < s.length := by rw [toS_length] at hm; exact hm
  have := List.pairwise_iff_getElem.1 h m (m + 1) (by omega) h1 (by omega)
  simpa [toS] using this
set_option maxRecDepth 100000 in
set_option maxHeartbeats 16000000 in
theorem keys_c (w : World) (A : Option Addr) (c : Nat) (l : List OpS) (hC0 : Kd.C k39 w A l.length l) (hc : l.length ≤ c) (hwf : ∀ o ∈ l, OpWf o) (hn : l.length ≤ 1048576) :
    Calls Try.prog 8 #[.slice A l.length c] w fun e w' => e = .returned (.bool true) ∧ Below w.heap.size w w' := by
  have cL := live_c w
  have HC0 := Lib.hid hC0
  have HWF := Lib.hid hwf
  clear hC0 hwf
  go_enter Try.func8, Try.ntmps8
  go_upto_region 3 with (go_at_call 11; refine cL.mono ?_; rintro e w0 ⟨rfl, hB0⟩)
  clear cL
  have HB0 := Lib.hid hB0
  clear hB0
  go_upto_region 4 with (go_at_call 14; refine (new_c 1 (fun _ => none) w0 (fro_none w0 0) (by omega) (by omega)).mono ?_; rintro e w1 ⟨ga, na, ha, rfl, hP1, hB1, hga, hna, hha⟩; have HP1 := Lib.hid hP1; have HB1 := Lib.hid hB1; clear hP1 hB1)
  go_upto_region 5 with (go_at_call 14; refine (new_c 1 (fun _ => none) w1 (fro_none w1 0) (by omega) (by omega)).mono ?_; rintro e w2 ⟨gb, nb, hb, rfl, hP2, hB2, hgb, hnb, hhb⟩; have HP2 := Lib.hid hP2; have HB2 := Lib.hid hB2; clear hP2 hB2)
  have hs0 := HB0.out.size
  have hs1 := HP1.out.gl
  have hs2 := HP1.out.now.lt
  have hs3 := HP1.out.held.1.lt
  have HT0 : Hid (Two w w2 (fun _ => none) 0 ga na ha gb nb hb 1 [] []) := Lib.hid ⟨HP1.out.kept (Kept.of_below HB2.out (fun _ => False)) (fun e => e) (fun e => e) (fun e => e), HP2.out, fro_none w2 0, ((KO.of_below HB0.out _).below HB1.out).below HB2.out⟩
  have hne1 : gb ≠ na ∧ gb ≠ ha ∧ nb ≠ na ∧ nb ≠ ha ∧ hb ≠ na ∧ hb ≠ ha := by omega
  have hne2 : ga ≠ nb ∧ ga ≠ hb ∧ na ≠ nb ∧ na ≠ hb ∧ ha ≠ nb ∧ ha ≠ hb := by omega
  have hle1 : w.heap.size ≤ na ∧ w.heap.size ≤ ha ∧ w.heap.size ≤ nb ∧ w.heap.size ≤ hb := by omega
  clear HB0 HP1 HB1 HP2 HB2
  go_wp2_with fail
  go_loopw [7] (fun v7 wr => ∃ (i : Nat) (f : Nat → Option PL), v7 = .int .i64 i ∧ i ≤ l.length ∧ Hid (Two w wr f i ga na ha gb nb hb 1 (runA [] (l.take i)) []))
    (fun v7 _ => l.length - (intOf v7).toNat)
  case atStart => exact ⟨0, _, rfl, Nat.zero_le _, HT0⟩
  case round =>
    obtain ⟨i, f, rfl, hi, HT⟩ := hrel
    by_cases hlt : i < l.length
    · obtain ⟨o, ho⟩ : ∃ o, o = l[i] := ⟨_, rfl⟩
      have HO : Hid (OpWf o) := Lib.hid (HWF.out o (by rw [ho]; exact List.getElem_mem hlt))
      obtain ⟨ad, A8, c8, rfl, x0, x1, x2, x3, x4, x5, x6, x7, x8, x9, x10, -⟩ := at_T39 (Kd.Heap.C heapOp (fun k hk => HT.out.ko.kept.2 k hk (fun e => e)) HC0.out) (i : Int) (by omega) (by omega)
      simp only [Int.toNat_natCast] at x0 x1 x2 x3 x4 x5 x6 x7 x8 x9 x10
      rw [rdO_get hlt, ← ho] at x0 x1 x2 x3 x4 x5 x6 x7 x8 x9 x10
      have HSU := Lib.hid (runA_succ l i hlt)
      rw [← ho] at HSU
      by_cases hk : isK o
      · have k1 : decide (2 ≤ o.f0) = true := decide_eq_true hk.1
        have k2 : decide (o.f0 ≤ 4) = true := decide_eq_true hk.2
        rw [if_pos hk] at HSU
        have HK := Lib.hid hk
        clear hk ho
        go_wp2_with (go_at_call 15; refine (do_kv f i ga na ha 1 (runA [] (l.take i)) [] o A8 c8 wr HT.out.a HT.out.fro HO.out (by omega) HK.out).mono ?_; rintro e w3 ⟨v, rfl, hL⟩; obtain ⟨f', hT'⟩ := HT.out.stepA hL hle1.1 hle1.2.1 hne1; have HT' := Lib.hid hT'; clear hT' hL)
        go_roundw
        case rel => exact ⟨i + 1, f', by go_num, by omega, Lib.hid (by rw [HSU.out]; exact HT'.out)⟩
        case measure => simp [intOf]; omega
      · rw [if_neg hk] at HSU
        have HT2 : Hid (Two w wr f (i + 1) ga na ha gb nb hb 1 (runA [] (l.take (i + 1))) []) := Lib.hid (by rw [HSU.out]; exact HT.out.mono (Nat.le_succ i))
        have hcase : (decide (2 ≤ o.f0) = false) ∨ (decide (2 ≤ o.f0) = true ∧ decide (o.f0 ≤ 4) = false) := by
          unfold isK at hk
          simp only [decide_eq_false_iff_not, decide_eq_true_eq]
          omega
        clear hk ho HSU HT
        rcases hcase with k1 | ⟨k1, k2⟩
        · go_wp2_with fail
          go_roundw
          case rel => exact ⟨i + 1, f, by go_num, by omega, HT2⟩
          case measure => simp [intOf]; omega
        · go_wp2_with fail
          go_roundw
          case rel => exact ⟨i + 1, f, by go_num, by omega, HT2⟩
          case measure => simp [intOf]; omega
    · obtain rfl : i = l.length := by omega
      have hT1 := HT.out
      rw [List.take_length] at hT1
      have HT1 := Lib.hid hT1
      clear HT HT0 hT1
      go_wp2_with fail
      go_loopw [8] (fun v8 wr => ∃ (d : Nat) (f : Nat → Option PL), v8 = .int .u64 d ∧ d ≤ 2 ∧ Hid (Two w wr f (l.length + d * l.length) ga na ha gb nb hb 1 (runA [] l) (if d = 0 then [] else if d = 1 then runB 0 [] l else runB 1 (runB 0 [] l) l)))
        (fun v8 _ => 2 - (intOf v8).toNat)
      case atStart => exact ⟨0, _, rfl, by omega, Lib.hid (by simpa using HT1.out)⟩
      case round =>
        obtain ⟨d, f2, rfl, hd, HT2⟩ := hrel
        by_cases hd2 : d < 2
        · obtain ⟨s, hs⟩ : ∃ s, s = (if d = 0 then [] else if d = 1 then runB 0 [] l else runB 1 (runB 0 [] l) l) := ⟨_, rfl⟩
          rw [← hs] at HT2
          have HS := Lib.hid hs
          clear hs
          have hdec : decide ((d : Int) < 2) = true := decide_eq_true (by omega)
          go_wp2_with fail
          go_loopw [9] (fun v9 wr => ∃ (i : Nat) (f : Nat → Option PL), v9 = .int .i64 i ∧ i ≤ l.length ∧ Hid (Two w wr f (l.length + d * l.length + i) ga na ha gb nb hb 1 (runA [] l) (runB d s (l.take i))))
            (fun v9 _ => l.length - (intOf v9).toNat)
          case atStart => exact ⟨0, _, rfl, Nat.zero_le _, HT2⟩
          case round =>
            obtain ⟨i, f, rfl, hi, HT⟩ := hrel
            by_cases hlt : i < l.length
            · obtain ⟨o, ho⟩ : ∃ o, o = l[i] := ⟨_, rfl⟩
              have HO : Hid (OpWf o) := Lib.hid (HWF.out o (by rw [ho]; exact List.getElem_mem hlt))
              obtain ⟨ad, A8, c8, rfl, x0, x1, x2, x3, x4, x5, x6, x7, x8, x9, x10, -⟩ := at_T39 (Kd.Heap.C heapOp (fun k hk => HT.out.ko.kept.2 k hk (fun e => e)) HC0.out) (i : Int) (by omega) (by omega)
              simp only [Int.toNat_natCast] at x0 x1 x2 x3 x4 x5 x6 x7 x8 x9 x10
              rw [rdO_get hlt, ← ho] at x0 x1 x2 x3 x4 x5 x6 x7 x8 x9 x10
              have HSU := Lib.hid (runB_succ d s l i hlt)
              rw [← ho] at HSU
              have hdl : l.length + d * l.length + i ≤ 1099511627776 := by have : d * l.length ≤ 1 * l.length := Nat.mul_le_mul_right _ (by omega); omega
              by_cases hk : isK o
              · have k1 : decide (2 ≤ o.f0) = true := decide_eq_true hk.1
                have k2 : decide (o.f0 ≤ 4) = true := decide_eq_true hk.2
                by_cases hq : o.f1.tmod 2 = (d : Int)
                · have k3 : (o.f1.tmod 2 == (d : Int)) = true := beq_iff_eq.2 hq
                  rw [if_pos ⟨hk, hq⟩] at HSU
                  have HK := Lib.hid hk
                  clear hk ho hq
                  go_wp2_with (go_at_call 15; refine (do_kv f (l.length + d * l.length + i) gb nb hb 1 (runB d s (l.take i)) [] o A8 c8 wr HT.out.b HT.out.fro HO.out hdl HK.out).mono ?_; rintro e w3 ⟨v, rfl, hL⟩; obtain ⟨f', hT'⟩ := HT.out.stepB hL hle1.2.2.1 hle1.2.2.2 hne2; have HT' := Lib.hid hT'; clear hT' hL)
                  go_roundw
                  case rel => exact ⟨i + 1, f', by go_num, by omega, Lib.hid (by rw [HSU.out]; exact HT'.out)⟩
                  case measure => simp [intOf]; omega
                · have k3 : (o.f1.tmod 2 == (d : Int)) = false := beq_eq_false_iff_ne.2 hq
                  rw [if_neg (fun e => hq e.2)] at HSU
                  have HT3 : Hid (Two w wr f (l.length + d * l.length + (i + 1)) ga na ha gb nb hb 1 (runA [] l) (runB d s (l.take (i + 1)))) := Lib.hid (by rw [HSU.out]; exact HT.out.mono (Nat.le_succ _))
                  clear hk ho HSU HT hq
                  go_wp2_with fail
                  go_roundw
                  case rel => exact ⟨i + 1, f, by go_num, by omega, HT3⟩
                  case measure => simp [intOf]; omega
              · rw [if_neg (fun e : selK d o => hk e.1)] at HSU
                have HT3 : Hid (Two w wr f (l.length + d * l.length + (i + 1)) ga na ha gb nb hb 1 (runA [] l) (runB d s (l.take (i + 1)))) := Lib.hid (by rw [HSU.out]; exact HT.out.mono (Nat.le_succ _))
                have hcase : (decide (2 ≤ o.f0) = false) ∨ (decide (2 ≤ o.f0) = true ∧ decide (o.f0 ≤ 4) = false) := by
                  unfold isK at hk
                  simp only [decide_eq_false_iff_not, decide_eq_true_eq]
                  omega
                clear hk ho HSU HT
                rcases hcase with k1 | ⟨k1, k2⟩
                · go_wp2_with fail
                  go_roundw
                  case rel => exact ⟨i + 1, f, by go_num, by omega, HT3⟩
                  case measure => simp [intOf]; omega
                · go_wp2_with fail
                  go_roundw
                  case rel => exact ⟨i + 1, f, by go_num, by omega, HT3⟩
                  case measure => simp [intOf]; omega
            · obtain rfl : i = l.length := by omega
              have hT1 := HT.out
              rw [List.take_length] at hT1
              have HT4 : Hid (Two w wr f (l.length + (d + 1) * l.length) ga na ha gb nb hb 1 (runA [] l) (if d + 1 = 0 then [] else if d + 1 = 1 then runB 0 [] l else runB 1 (runB 0 [] l) l)) := Lib.hid (by
                have e1 : l.length + (d + 1) * l.length = l.length + d * l.length + l.length := by rw [Nat.succ_mul]; omega
                rw [e1]
                have e2 : (if d + 1 = 0 then [] else if d + 1 = 1 then runB 0 [] l else runB 1 (runB 0 [] l) l) = runB d s l := by
                  rw [HS.out]
                  rcases (show d = 0 ∨ d = 1 by omega) with rfl | rfl <;> rfl
                rw [e2]
                exact hT1)
              clear HT hT1
              go_wp2_with fail
              go_roundw
              case rel => exact ⟨d + 1, f, by go_num, by omega, HT4⟩
              case measure => simp [intOf]; omega
        · obtain rfl : d = 2 := by omega
          have HT5 : Hid (Two w wr f2 (l.length + 2 * l.length) ga na ha gb nb hb 1 (runA [] l) (runA [] l)) := Lib.hid (by
            have := HT2.out
            rw [keys_law l (fun o ho => by have := (HWF.out o ho).key; unfold u64wf at this; simp [Lit.wf, IntKind.min, IntKind.signed] at this; omega)]
            rw [keys_law l (fun o ho => by have := (HWF.out o ho).key; unfold u64wf at this; simp [Lit.wf, IntKind.min, IntKind.signed] at this; omega)] at this
            exact this)
          clear HT2
          go_wp2_with (go_at_call 17; refine (content_c f2 (l.length + 2 * l.length) ga na ha 1 (runA [] l) [] wr HT5.out.a (by omega)).mono ?_; rintro e w4 ⟨v, rfl, hR, hB⟩; obtain ⟨A4, c4, rfl⟩ := Kd.R_slice hR; have HR4 := Lib.hid hR; have HB4 := Lib.hid hB; clear hR hB)
          have hAsc : Hid (Asc (runA [] l)) := Lib.hid (asc_run isK l [] List.Pairwise.nil)
          obtain ⟨p, hp⟩ : ∃ p, p = toS (runA [] l) := ⟨_, rfl⟩
          rw [← hp] at HR4 ⊢
          have HP := Lib.hid hp
          clear hp
          have hc4 := (Kd.R_reads' HR4.out).2.1
          have HC4 : Hid (Kd.C k90 w4 A4 p.length p) := Lib.hid (Kd.R_reads' HR4.out).2.2
          have HT6 := Lib.hid (HT5.out.below HB4.out)
          have hpl : p.length ≤ 4398046511104 := by
            rw [HP.out, toS_length]
            have := HT5.out.a.now.len
            omega
          clear HT5 HB4 HR4
          go_wp2_with fail
          go_loopw [11] (fun v11 wr => ∃ m : Nat, v11 = .int .i64 ((m : Int) + 1) ∧ m ≤ p.length ∧ Hid (Two w wr f2 (l.length + 2 * l.length) ga na ha gb nb hb 1 (runA [] l) (runA [] l)) ∧ Hid (Kd.C k90 wr A4 p.length p))
            (fun v11 _ => p.length + 1 - (intOf v11).toNat)
          case atStart => exact ⟨0, rfl, Nat.zero_le _, HT6, HC4⟩
          case round =>
            obtain ⟨m, rfl, hm, HT, HC⟩ := hrel
            by_cases hlt : m + 1 < p.length
            · have hdec2 : decide ((m : Int) + 1 < (p.length : Int)) = true := decide_eq_true (by omega)
              obtain ⟨ad, rfl, y0, -⟩ := at_T90 HC.out (m : Int) (by omega) (by omega)
              obtain ⟨ad', e', z0, -⟩ := at_T90 HC.out ((m + 1 : Nat) : Int) (by omega) (by omega)
              cases e'
              simp only [Int.toNat_natCast] at y0 z0
              have hlt3 : decide ((rd_T90 p ((m + 1 : Nat) : Int)).f0 ≤ (rd_T90 p (m : Int)).f0) = false := by
                have := toS_asc (s := runA [] l) hAsc.out m (by rw [← HP.out]; exact hlt)
                rw [← HP.out] at this
                exact decide_eq_false (by omega)
              obtain ⟨q0, hq0⟩ : ∃ q0, q0 = (rd_T90 p (m : Int)).f0 := ⟨_, rfl⟩
              obtain ⟨q1, hq1⟩ : ∃ q1, q1 = (rd_T90 p ((m + 1 : Nat) : Int)).f0 := ⟨_, rfl⟩
              rw [← hq0] at y0 hlt3
              rw [← hq1] at z0 hlt3
              clear hq0 hq1
              go_wp2_with fail
              go_quiet (fail)
              have HT7 := Lib.hid (HT.out.below (pw_below_drewN (Below.refl _ _) nq))
              have HC7 : Hid (Kd.C k90 (wr.drewN nq) (some ad) p.length p) := Lib.hid (Kd.Heap.C heapP (fun _ _ => rfl) HC.out)
              clear HT HC HT6 HC4
              go_wp2_with fail
              go_roundw
              case rel => exact ⟨m + 1, by go_num, by omega, HT7, HC7⟩
              case measure => simp [intOf]; omega
            · have hdec2 : decide ((m : Int) + 1 < (p.length : Int)) = false := decide_eq_false (by omega)
              go_wp2_with (first
                | (go_at_call 31; refine (same_c f2 (l.length + 2 * l.length) ga na ha gb nb hb 1 1 (runA [] l) (runA [] l) [] [] wr HT.out.a HT.out.b HT.out.fro).mono ?_; rintro e w5 ⟨rfl, hB5⟩; have HT8 := Lib.hid (HT.out.below hB5); have HC8 : Hid (Kd.C k90 w5 A4 p.length p) := Lib.hid (Kd.Heap.C heapP (fun k hk => hB5.block k hk) HC.out); clear hB5; rw [show samB 1 1 (runA [] l) (runA [] l) [] [] = true by simp [samB]])
                | (go_at_call 17; refine (content_c f2 (l.length + 2 * l.length) gb nb hb 1 (runA [] l) [] w5 HT8.out.b (by omega)).mono ?_; rintro e w6 ⟨v6, rfl, hR6, hB6⟩; rw [← HP.out] at hR6; obtain ⟨A6, c6, rfl⟩ := Kd.R_slice hR6; have HR6 := Lib.hid hR6; have HT9 := Lib.hid (HT8.out.below hB6); have HC9 : Hid (Kd.C k90 w6 A4 p.length p) := Lib.hid (Kd.Heap.C heapP (fun k hk => hB6.block k hk) HC8.out); clear hR6 hB6)
                | (go_at_call 18; refine (samM_c p p A4 A6 c4 c6 w6 HC9.out hc4 (Kd.R_reads' HR6.out).2.2 (Kd.R_reads' HR6.out).2.1 hpl).mono ?_; rintro e w7 ⟨rfl, hB7⟩; have HT10 := Lib.hid (HT9.out.below hB7); clear hB7; rw [show decide (p = p) = true by simp]))
              go_ret
              exact ⟨rfl, HT10.out.ko.below_of (fun _ e => e.elim)⟩
end Go.Proofs.Ytngocadnbpdnoaa.Mo
namespace Go.Proofs.Ytngocadnbpdnoaa.Mo
open Go Go.RowKit Go.Proofs.Ytngocadnbpdnoaa.Q Go.Proofs.YtngocadnbpdnoaaW.PrintWords Go.Proofs.YtngocadnbpdnoaaW.PrintLast Go.Proofs.YtngocadnbpdnoaaW.PrintMore Go.Proofs.Ytngocadnbpdnoaa.Open
set_option linter.unusedVariables false
def wfP (p : SP) : Prop := (Lit.int .u64 p.f0).wf = true ∧ (Lit.int .u64 p.f1).wf = true
def BP : SP → Nat := fun x => 1 + 1 + 1
theorem opensP : Opens Try.prog k90 90 BP wfP := by
  intro H enc w base held fuel cs x h
  obtain ⟨a, h1, h2, h3⟩ := opens_struct (g := fun x : SP => (x.f0, x.f1)) (fun a => ⟨a.1, a.2⟩) (fun _ => rfl) Try.underlying90 (by kernel_rfl) (opens_cons (opens_int Try.underlying23) rfl (by kernel_rfl) (opens_last (opens_int Try.underlying23) rfl (by kernel_rfl))) h
  exact ⟨a, h1, h2, h3⟩
def wfA (a : AnS) : Prop := ((Lit.int .i64 a.f0).wf = true ∧ True ∧ (Lit.int .u64 a.f2).wf = true ∧ True ∧ (Lit.int .u64 a.f4).wf = true ∧ (∀ x ∈ a.f5, wfP x) ∧ (Lit.int .u64 a.f6).wf = true)
def BA : AnS → Nat := fun a => 1 + (1 + (1 + (1 + (1 + (((a.f5.map BP).sum + 1) + 1))))) + 1
theorem opensA : Opens Try.prog k26 26 BA wfA := by
  intro H enc w base held fuel cs x h
  obtain ⟨a, h1, h2, h3⟩ := opens_struct (g := fun x : AnS => (x.f0, x.f1, x.f2, x.f3, x.f4, x.f5, x.f6)) (fun a => ⟨a.1, a.2.1, a.2.2.1, a.2.2.2.1, a.2.2.2.2.1, a.2.2.2.2.2.1, a.2.2.2.2.2.2⟩) (fun _ => rfl) Try.underlying26 (by kernel_rfl)
    (opens_cons (opens_int Try.underlying22) rfl (by kernel_rfl) (opens_cons (opens_bool Try.underlying4) rfl (by kernel_rfl) (opens_cons (opens_int Try.underlying23) rfl (by kernel_rfl) (opens_cons (opens_bool Try.underlying4) rfl (by kernel_rfl) (opens_cons (opens_int Try.underlying23) rfl (by kernel_rfl) (opens_cons (opens_slice Try.underlying24 (by kernel_rfl) opensP) rfl (by kernel_rfl) (opens_last (opens_int Try.underlying23) rfl (by kernel_rfl)))))))) h
  exact ⟨a, h1, h2, h3⟩
theorem BP_sum (l : List SP) : (l.map BP).sum = 3 * l.length := by
  induction l with
  | nil => rfl
  | cons a l ih => simp only [List.map_cons, List.sum_cons, ih, List.length_cons, BP]; omega
theorem BA_len (a : AnS) : a.f5.length ≤ BA a := by
  unfold BA
  rw [BP_sum]
  omega
end Go.Proofs.Ytngocadnbpdnoaa.Mo
namespace Go.Proofs.Ytngocadnbpdnoaa.Mo
open Go Go.RowKit Go.Proofs.Ytngocadnbpdnoaa.Q Go.Proofs.YtngocadnbpdnoaaW.PrintWords Go.Proofs.YtngocadnbpdnoaaW.PrintLast Go.Proofs.YtngocadnbpdnoaaW.PrintMore Go.Proofs.Ytngocadnbpdnoaa.Open
set_option linter.unusedVariables false
set_option linter.unusedSimpArgs false
theorem opensFence : Opens Try.prog k36 36 (fun _ => 1 + (1 + 1) + 1) (fun _ => True) := by
  intro H enc w base held fuel cs x h
  obtain ⟨a, h1, h2, h3⟩ := opens_struct (g := fun x : S36 => (x.f0, x.f1, x.f2)) (fun a => ⟨a.1, a.2.1, a.2.2⟩) (fun _ => rfl) Try.underlying36 (by kernel_rfl) (opens_cons (opens_bool Try.underlying4) rfl (by kernel_rfl) (opens_cons (opens_int Try.underlying3) rfl (by kernel_rfl) (opens_last (opens_int Try.underlying3) rfl (by kernel_rfl)))) h
  exact ⟨a, h1, h2, trivial⟩
def wfO (x : OpS) : Prop := (Lit.int .u8 x.f0).wf = true ∧ (Lit.int .u64 x.f1).wf = true ∧ (Lit.int .u64 x.f2).wf = true ∧ (Lit.int .u64 x.f3).wf = true ∧ (Lit.int .u64 x.f4).wf = true ∧ True ∧ (∀ y ∈ x.f6, (Lit.int .u64 y).wf = true) ∧ (Lit.int .u64 x.f7).wf = true ∧ (Lit.int .u64 x.f8).wf = true
def BO (x : OpS) : Nat := 1 + (1 + (1 + (1 + (1 + ((1 + (1 + 1) + 1) + (((x.f6.map (fun _ => 1)).sum + 1) + (1 + 1))))))) + 1
theorem opensO : Opens Try.prog k39 39 BO wfO := by
  intro H enc w base held fuel cs x h
  obtain ⟨a, h1, h2, h3⟩ := opens_struct (g := fun x : OpS => (x.f0, x.f1, x.f2, x.f3, x.f4, x.f5, x.f6, x.f7, x.f8)) (fun a => ⟨a.1, a.2.1, a.2.2.1, a.2.2.2.1, a.2.2.2.2.1, a.2.2.2.2.2.1, a.2.2.2.2.2.2.1, a.2.2.2.2.2.2.2.1, a.2.2.2.2.2.2.2.2⟩) (fun _ => rfl) Try.underlying39 (by kernel_rfl)
    (opens_cons (opens_int Try.underlying34) rfl (by kernel_rfl) (opens_cons (opens_int Try.underlying23) rfl (by kernel_rfl) (opens_cons (opens_int Try.underlying23) rfl (by kernel_rfl) (opens_cons (opens_int Try.underlying23) rfl (by kernel_rfl) (opens_cons (opens_int Try.underlying23) rfl (by kernel_rfl) (opens_cons opensFence rfl (by kernel_rfl) (opens_cons (opens_slice Try.underlying37 (by kernel_rfl) (opens_int Try.underlying23)) rfl (by kernel_rfl) (opens_cons (opens_int Try.underlying23) rfl (by kernel_rfl) (opens_last (opens_int Try.underlying23) rfl (by kernel_rfl)))))))))) h
  exact ⟨a, h1, h2, h3⟩
theorem len_le_sum (l : List OpS) : l.length ≤ (l.map BO).sum := by
  induction l with
  | nil => simp
  | cons a l ih => simp only [List.map_cons, List.sum_cons, List.length_cons]; unfold BO; unfold BO at ih; omega
theorem keys_walk (W : World) (a0 : Option Addr) (c0 : Nat) (x0 : List OpS) (h0 : Kd.C k39 W a0 x0.length x0) (l0 : x0.length ≤ c0) {H : Type} {d0 : DataW H} (b0 : (x0.map BO).sum + 1 ≤ Rows.uptoBulk d0) (w0 : ∀ x ∈ x0, wfO x) (hb : Rows.uptoBulk d0 + 0 ≤ 1048576) :
    Calls Try.prog 8 #[.slice a0 x0.length c0] W fun e W' => e = .returned (.bool true) ∧ Below W.heap.size W W' :=
  keys_c W a0 c0 x0 h0 l0 (fun o ho => ⟨(w0 o ho).2.1, (w0 o ho).2.2.1, (w0 o ho).2.2.2.2.1⟩) (by have := len_le_sum x0; omega)
end Go.Proofs.Ytngocadnbpdnoaa.Mo
namespace Go.Proofs.Ytngocadnbpdnoaa.Mo
open Go Go.RowKit Go.Proofs.Ytngocadnbpdnoaa.Q Go.Proofs.YtngocadnbpdnoaaW.PrintWords Go.Proofs.YtngocadnbpdnoaaW.PrintLast Go.Proofs.YtngocadnbpdnoaaW.PrintMore Go.Proofs.Ytngocadnbpdnoaa.Open
set_option linter.unusedVariables false
set_option linter.unusedSimpArgs false
/-- A call of the law. -/
structure CallS where
  tk : Bool
  op : OpS
  an : AnS
  hd : Int
def zCall : CallS := ⟨false, z39, z26, 0⟩
def kCall : Kd CallS := Kd.iso (Kd.pair Kd.bool (Kd.pair k39 (Kd.pair k26 (Kd.int .u64)))) (fun x : CallS => (x.tk, x.op, x.an, x.hd))
theorem kCall_open {w : World} {x : CallS} {cs : List Value} (h : kCall.K w x cs) : ∃ A c B d, cs = [.bool x.tk, .int .u8 x.op.f0, .int .u64 x.op.f1, .int .u64 x.op.f2, .int .u64 x.op.f3, .int .u64 x.op.f4, .bool x.op.f5.f0, .int .i64 x.op.f5.f1, .int .i64 x.op.f5.f2, .slice A x.op.f6.length c, .int .u64 x.op.f7, .int .u64 x.op.f8, .int .i64 x.an.f0, .bool x.an.f1, .int .u64 x.an.f2, .bool x.an.f3, .int .u64 x.an.f4, .slice B x.an.f5.length d, .int .u64 x.an.f6, .int .u64 x.hd] ∧ x.op.f6.length ≤ c ∧ (Kd.int .u64).C w A x.op.f6.length x.op.f6 ∧ x.an.f5.length ≤ d ∧ k90.C w B x.an.f5.length x.an.f5 := by
  obtain ⟨c1, c2, rfl, h1, ⟨c3, c4, rfl, h3, ⟨c5, c6, rfl, h5, h6⟩⟩⟩ := h
  obtain rfl : c1 = [.bool x.tk] := h1
  obtain ⟨A, c, rfl, l1, g1⟩ := k39_open h3
  obtain ⟨B, d, rfl, l2, g2⟩ := k26_open h5
  obtain rfl : c6 = [.int .u64 x.hd] := h6
  exact ⟨A, c, B, d, rfl, l1, g1, l2, g2⟩
def wfC (x : CallS) : Prop := True ∧ wfO x.op ∧ wfA x.an ∧ (Lit.int .u64 x.hd).wf = true
def BC (x : CallS) : Nat := 1 + (BO x.op + (BA x.an + 1)) + 1
theorem opensC : Opens Try.prog kCall 41 BC wfC := by
  intro H enc w base held fuel cs x h
  obtain ⟨a, h1, h2, h3⟩ := opens_struct (g := fun x : CallS => (x.tk, x.op, x.an, x.hd)) (fun a => ⟨a.1, a.2.1, a.2.2.1, a.2.2.2⟩) (fun _ => rfl) Try.underlying41 (by kernel_rfl)
    (opens_cons (opens_bool Try.underlying4) rfl (by kernel_rfl) (opens_cons opensO rfl (by kernel_rfl) (opens_cons opensA rfl (by kernel_rfl) (opens_last (opens_int Try.underlying23) rfl (by kernel_rfl))))) h
  exact ⟨a, h1, h2, h3⟩
theorem BC_len (l : List CallS) : l.length ≤ (l.map BC).sum := by
  induction l with
  | nil => simp
  | cons a l ih => simp only [List.map_cons, List.sum_cons, List.length_cons]; unfold BC at ih ⊢; omega
theorem heapA : Kd.Heap k26 := Kd.heap_iso _ (Kd.heap_pair (Kd.heap_int _) (Kd.heap_pair Kd.heap_bool (Kd.heap_pair (Kd.heap_int _) (Kd.heap_pair Kd.heap_bool (Kd.heap_pair (Kd.heap_int _) (Kd.heap_pair (Kd.heap_slice _ heapP) (Kd.heap_int _)))))))
theorem heapCall : Kd.Heap kCall := Kd.heap_iso _ (Kd.heap_pair Kd.heap_bool (Kd.heap_pair heapOp (Kd.heap_pair heapA (Kd.heap_int _))))
/-- The cells of element i of a row of calls; what its lists hold. -/
theorem at_call {w : World} {A : Option Addr} {n : Nat} {xs : List CallS} (h : Kd.C kCall w A n xs) (i : Nat) (hi : i < n) (hx : i < xs.length) : ∃ ad A1 c1 B1 d1, A = some ad ∧
    (∀ j u, [Value.bool xs[i].tk, .int .u8 xs[i].op.f0, .int .u64 xs[i].op.f1, .int .u64 xs[i].op.f2, .int .u64 xs[i].op.f3, .int .u64 xs[i].op.f4, .bool xs[i].op.f5.f0, .int .i64 xs[i].op.f5.f1, .int .i64 xs[i].op.f5.f2, .slice A1 xs[i].op.f6.length c1, .int .u64 xs[i].op.f7, .int .u64 xs[i].op.f8, .int .i64 xs[i].an.f0, .bool xs[i].an.f1, .int .u64 xs[i].an.f2, .bool xs[i].an.f3, .int .u64 xs[i].an.f4, .slice B1 xs[i].an.f5.length d1, .int .u64 xs[i].an.f6, .int .u64 xs[i].hd][j]? = some u → w.cell? (ad.add (i * 20 + j)) = some u) ∧
    (Kd.int .u64).C w A1 xs[i].op.f6.length xs[i].op.f6 ∧ xs[i].an.f5.length ≤ d1 ∧ k90.C w B1 xs[i].an.f5.length xs[i].an.f5 := by
  obtain ⟨ad, c, e, _, hK, hc0⟩ := Kd.C_get h zCall (i : Int) (by omega) (by omega)
  have hc : ∀ j u, c[j]? = some u → w.cell? (ad.add (i * 20 + j)) = some u := by
    intro j u hj
    have := hc0 j u hj
    rw [Int.toNat_natCast] at this
    exact this
  have hx2 : xs.getD (i : Int).toNat zCall = xs[i] := by rw [Int.toNat_natCast]; simp [List.getD_eq_getElem?_getD, hx]
  rw [hx2] at hK
  obtain ⟨A1, c1, B1, d1, rfl, l1, g1, l2, g2⟩ := kCall_open hK
  exact ⟨ad, A1, c1, B1, d1, e, hc, g1, l2, g2⟩
end Go.Proofs.Ytngocadnbpdnoaa.Mo
namespace Go.Proofs.Ytngocadnbpdnoaa.Mo
open Go Go.Maps Go.RowKit Go.Proofs.Ytngocadnbpdnoaa.Srt Go.Proofs.Ytngocadnbpdnoaa.Q Go.Proofs.YtngocadnbpdnoaaW.PrintWords Go.Proofs.YtngocadnbpdnoaaW.PrintLast Go.Proofs.YtngocadnbpdnoaaW.PrintMore
set_option linter.unusedVariables false
set_option linter.unusedSimpArgs false
def runD (s : MS) (l : List CallS) : MS := l.foldl (fun s c => (stepD s c.op c.hd).1) s
theorem runD_succ (s : MS) (l : List CallS) (i : Nat) (h : i < l.length) : runD s (l.take (i + 1)) = (stepD (runD s (l.take i)) l[i].op l[i].hd).1 := by
  rw [runD, runD, List.take_succ_eq_append_getElem h, List.foldl_append]; rfl
/-- One model in a world. -/
structure One (w wr : World) (f : Nat → Option PL) (N gp bn bh : Nat) (s : MS) : Prop where
  pm : PM wr f N gp bn bh s.multi s.now s.held
  fro : Fro wr f N
  ko : KO w wr (fun _ => False)
theorem One.below {w wr W : World} {f : Nat → Option PL} {N gp bn bh : Nat} {s : MS} (h : One w wr f N gp bn bh s) (hB : Below wr.heap.size wr W) : One w W f N gp bn bh s :=
  ⟨h.pm.kept (Kept.of_below hB (fun _ => False)) (fun e => e) (fun e => e) (fun e => e), h.fro.kept (Kept.of_below hB (fun _ => False)) (fun _ _ _ e => e), h.ko.below hB⟩
theorem One.step {w wr w1 : World} {f : Nat → Option PL} {N gp bn bh : Nat} {s s' : MS} (h : One w wr f N gp bn bh s) (hL : Left wr w1 f (N + 1) gp bn bh s'.multi s'.now s'.held (fun k => k = bn ∨ k = bh)) (h1 : w.heap.size ≤ bn) (h2 : w.heap.size ≤ bh) : ∃ f', One w w1 f' (N + 1) gp bn bh s' := by
  obtain ⟨f', hE, hP, hF, hK⟩ := hL
  exact ⟨f', hP, hF, h.ko.then_ hK (fun k e => .inr (by omega))⟩
/-- An operation of the law's own. -/
def litO (k hd hi : Int) : OpS := ⟨k, 0, 0, 0, hd, ⟨false, 0, 0⟩, [], 0, hi⟩
theorem do_lit (k hd hi hdl : Int) (f : Nat → Option PL) (N gp bn bh : Nat) (s : MS) (w : World) (hM : PM w f N gp bn bh s.multi s.now s.held) (hF : Fro w f N) (h1 : u64wf hd) (h2 : u64wf hdl) (hN : N ≤ 1099511627776) :
    Calls Try.prog 15 #[.pointer (some ⟨gp, 0, none⟩), .agg #[.int .u8 k, .int .u64 0, .int .u64 0, .int .u64 0, .int .u64 hd, .bool false, .int .i64 0, .int .i64 0, .slice none 0 0, .int .u64 0, .int .u64 hi], .int .u64 hdl] w (DoPost w f (N + 1) gp bn bh (stepD s (litO k hd hi) hdl).1 (stepD s (litO k hd hi) hdl).2) :=
  do_c f N gp bn bh s.multi s.now s.held (litO k hd hi) none 0 hdl w hM hF ⟨by show u64wf 0; unfold u64wf; decide, by show u64wf 0; unfold u64wf; decide, h1⟩ h2 hN (fun _ _ => Kd.C_nil _ _) (fun k hk => by cases hk) (by show 0 ≤ _; omega)
theorem One.mono {w wr : World} {f : Nat → Option PL} {N N' gp bn bh : Nat} {s : MS} (h : One w wr f N gp bn bh s) (hn : N ≤ N') : One w wr f N' gp bn bh s := ⟨h.pm.mono hn, h.fro.mono hn, h.ko⟩
/-- One step; what is told; what else is new stays. -/
theorem One.told {w wr w1 : World} {f : Nat → Option PL} {N gp bn bh : Nat} {s s' : MS} {d : AnsD} {e : Ending} (h : One w wr f N gp bn bh s) (hD : DoPost wr f (N + 1) gp bn bh s' d e w1) (h1 : w.heap.size ≤ bn) (h2 : w.heap.size ≤ bh) :
    ∃ f' A c, e = .returned (.agg #[.int .i64 d.e, .bool d.fo, .int .u64 d.v, .bool d.dn, .int .u64 d.h, .slice A (toS d.ps).length c, .int .u64 d.c]) ∧ One w w1 f' (N + 1) gp bn bh s' ∧ kSP.R 90 w1 wr.heap.size (fun _ => True) (.slice A (toS d.ps).length c) (toS d.ps) ∧ Kept wr w1 (fun k => k = bn ∨ k = bh) := by
  obtain ⟨ps, rfl, hR, hL⟩ := hD
  obtain ⟨A, c, rfl⟩ := Kd.R_slice hR
  obtain ⟨f', hT⟩ := h.step hL h1 h2
  obtain ⟨f2, _, _, _, hK⟩ := hL
  exact ⟨f', A, c, rfl, hT, hR, hK.kept⟩
theorem held_some (f : Nat → Option PL) (N gp bn bh : Nat) (s : MS) (k : Int) (c : PL) (w : World) (hM : PM w f N gp bn bh s.multi s.now s.held) (hF : Fro w f N) (hk : u64wf k) (hN : N ≤ 1099511627776) (hc : fnd s.held k = some c) :
    Calls Try.prog 16 #[.pointer (some ⟨gp, 0, none⟩), .int .u64 k] w fun e w' => ∃ A n, e = .returned (.tuple #[.slice A (toS c).length n, .bool true]) ∧ kSP.R 90 w' w.heap.size (fun _ => True) (.slice A (toS c).length n) (toS c) ∧ Below w.heap.size w w' :=
  (held_c f N gp bn bh s.multi s.now s.held k w hM hF hk hN).mono fun e w' ⟨v, he, hR, hB⟩ => by
    rw [hc] at he hR
    obtain ⟨A, n, rfl⟩ := Kd.R_slice hR
    exact ⟨A, n, he, hR, hB⟩
theorem held_none (f : Nat → Option PL) (N gp bn bh : Nat) (s : MS) (k : Int) (w : World) (hM : PM w f N gp bn bh s.multi s.now s.held) (hF : Fro w f N) (hk : u64wf k) (hN : N ≤ 1099511627776) (hc : fnd s.held k = none) :
    Calls Try.prog 16 #[.pointer (some ⟨gp, 0, none⟩), .int .u64 k] w fun e w' => ∃ A n, e = .returned (.tuple #[.slice A 0 n, .bool false]) ∧ Below w.heap.size w w' :=
  (held_c f N gp bn bh s.multi s.now s.held k w hM hF hk hN).mono fun e w' ⟨v, he, hR, hB⟩ => by
    rw [hc] at he hR
    obtain ⟨A, n, rfl⟩ := Kd.R_slice hR
    exact ⟨A, n, he, hB⟩
set_option maxRecDepth 100000 in
set_option maxHeartbeats 16000000 in
theorem held_law (w : World) (A : Option Addr) (c : Nat) (l : List CallS) (hC0 : Kd.C kCall w A l.length l) (hc : l.length ≤ c) (hwf : ∀ x ∈ l, wfC x) (hdl : Int) (A2 : Option Addr) (c2 : Nat) (l2 : List CallS) (hC2 : Kd.C kCall w A2 l2.length l2) (hc2 : l2.length ≤ c2) (hwf2 : ∀ x ∈ l2, wfC x) (hn : l.length ≤ 1048576) (hn2 : l2.length ≤ 1048576) (hh : u64wf hdl) (hkl : ∀ x ∈ l, x.op.f6.length ≤ 1048576) (hkl2 : ∀ x ∈ l2, x.op.f6.length ≤ 1048576) :
    Calls Try.prog 4 #[.slice A l.length c, .int .u64 hdl, .slice A2 l2.length c2] w fun e w' => e = .returned (.bool true) ∧ Below w.heap.size w w' := by
  have cL := live_c w
  have HC0 := Lib.hid hC0
  have HC2 := Lib.hid hC2
  have HWF := Lib.hid hwf
  have HWF2 := Lib.hid hwf2
  have HU := Lib.hid hh
  have HKL := Lib.hid hkl
  have HKL2 := Lib.hid hkl2
  clear hC0 hC2 hwf hwf2 hh hkl hkl2
  go_enter Try.func4, Try.ntmps4
  go_upto_region 3 with (go_at_call 11; refine cL.mono ?_; rintro e w0 ⟨rfl, hB0⟩; have HB0 := Lib.hid hB0; clear hB0)
  clear cL
  go_upto_region 4 with (go_at_call 14; refine (new_c 3 (fun _ => none) w0 (fro_none w0 0) (by omega) (by omega)).mono ?_; rintro e w1 ⟨gp, bn, bh, rfl, hP1, hB1, hg1, hg2, hg3⟩; have HP1 := Lib.hid hP1; have HB1 := Lib.hid hB1; clear hP1 hB1)
  have hs0 := HB0.out.size
  have HT0 : Hid (One w w1 (fun _ => none) 0 gp bn bh ⟨3, [], []⟩) := Lib.hid ⟨HP1.out, fro_none w1 0, (KO.of_below HB0.out _).below HB1.out⟩
  have hle1 : w.heap.size ≤ bn ∧ w.heap.size ≤ bh := by omega
  clear HB0 HP1 HB1
  go_wp2_with fail
  go_loopw [9] (fun v9 wr => ∃ (i : Nat) (f : Nat → Option PL), v9 = .int .i64 i ∧ i ≤ l.length ∧ Hid (One w wr f i gp bn bh (runD ⟨3, [], []⟩ (l.take i))))
    (fun v9 _ => l.length - (intOf v9).toNat)
  case atStart => exact ⟨0, _, rfl, Nat.zero_le _, HT0⟩
  case round =>
    obtain ⟨i, f, rfl, hi, HT⟩ := hrel
    by_cases hlt : i < l.length
    · obtain ⟨ad, A1, c1, B1, d1, rfl, hcell0, g1, hd1, g2⟩ := at_call HC0.out i hlt hlt

      obtain ⟨x, hx⟩ : ∃ x, x = l[i] := ⟨_, rfl⟩
      rw [← hx] at hcell0 g1 hd1 g2
      have HX := Lib.hid hx
      have HWX : Hid (wfC x) := Lib.hid (by rw [hx]; exact HWF.out _ (List.getElem_mem hlt))
      have hkn : x.op.f6.length ≤ 1099511627776 := by have := HKL.out x (by rw [HX.out]; exact List.getElem_mem hlt); omega
      have HKC : Hid (∀ W', Kept wr.drew W' (fun k => k = bn ∨ k = bh) → Kd.C (Kd.int .u64) W' A1 x.op.f6.length x.op.f6) := Lib.hid (fun W' hk => Kd.Heap.C (Kd.heap_int _) (fun k hlt2 => (hk.2 k (Nat.lt_of_lt_of_le hlt2 HT.out.ko.kept.1) (by omega)).trans (HT.out.ko.kept.2 k hlt2 (fun e => e))) g1)
      have HCELL0 := Lib.hid hcell0
      clear hx hcell0
      go_wp2_with fail
      have HSG : ∀ W' : World, Kept w W' (fun _ => False) → (fun w' : World => w'.cell? ⟨(ad.add (i * 20)).block, (ad.add (i * 20)).off + 1, none⟩ = some (.int .u8 x.op.f0) ∧ w'.cell? ⟨(ad.add (i * 20)).block, (ad.add (i * 20)).off + 1 + 1, none⟩ = some (.int .u64 x.op.f1) ∧ w'.cell? ⟨(ad.add (i * 20)).block, (ad.add (i * 20)).off + 1 + 2, none⟩ = some (.int .u64 x.op.f2) ∧ w'.cell? ⟨(ad.add (i * 20)).block, (ad.add (i * 20)).off + 1 + 3, none⟩ = some (.int .u64 x.op.f3) ∧ w'.cell? ⟨(ad.add (i * 20)).block, (ad.add (i * 20)).off + 1 + 4, none⟩ = some (.int .u64 x.op.f4) ∧ w'.cell? ⟨(ad.add (i * 20)).block, (ad.add (i * 20)).off + 1 + 5, none⟩ = some (.bool x.op.f5.f0) ∧ w'.cell? ⟨(ad.add (i * 20)).block, (ad.add (i * 20)).off + 1 + 6, none⟩ = some (.int .i64 x.op.f5.f1) ∧ w'.cell? ⟨(ad.add (i * 20)).block, (ad.add (i * 20)).off + 1 + 7, none⟩ = some (.int .i64 x.op.f5.f2) ∧ w'.cell? ⟨(ad.add (i * 20)).block, (ad.add (i * 20)).off + 1 + 8, none⟩ = some (.slice A1 x.op.f6.length c1) ∧ w'.cell? ⟨(ad.add (i * 20)).block, (ad.add (i * 20)).off + 1 + 9, none⟩ = some (.int .u64 x.op.f7) ∧ w'.cell? ⟨(ad.add (i * 20)).block, (ad.add (i * 20)).off + 1 + 10, none⟩ = some (.int .u64 x.op.f8) ∧ w'.cell? ⟨(ad.add (i * 20)).block, (ad.add (i * 20)).off + 19, none⟩ = some (.int .u64 x.hd)) W' := fun W' hk => by
        have hcell := fun j u hj => cell_kept (HCELL0.out j u hj) hk (fun e => e)
        exact ⟨by rw [← add_field _ _ 1 (by omega)]; exact hcell 1 _ rfl, by rw [Nat.add_assoc, ← add_field _ _ 2 (by omega)]; exact hcell 2 _ rfl, by rw [Nat.add_assoc, ← add_field _ _ 3 (by omega)]; exact hcell 3 _ rfl, by rw [Nat.add_assoc, ← add_field _ _ 4 (by omega)]; exact hcell 4 _ rfl, by rw [Nat.add_assoc, ← add_field _ _ 5 (by omega)]; exact hcell 5 _ rfl, by rw [Nat.add_assoc, ← add_field _ _ 6 (by omega)]; exact hcell 6 _ rfl, by rw [Nat.add_assoc, ← add_field _ _ 7 (by omega)]; exact hcell 7 _ rfl, by rw [Nat.add_assoc, ← add_field _ _ 8 (by omega)]; exact hcell 8 _ rfl, by rw [Nat.add_assoc, ← add_field _ _ 9 (by omega)]; exact hcell 9 _ rfl, by rw [Nat.add_assoc, ← add_field _ _ 10 (by omega)]; exact hcell 10 _ rfl, by rw [Nat.add_assoc, ← add_field _ _ 11 (by omega)]; exact hcell 11 _ rfl, by rw [← add_field _ _ 19 (by omega)]; exact hcell 19 _ rfl⟩
      have HSS := HSG wr HT.out.ko.kept
      go_region_held3 (fun w' : World => w'.cell? ⟨(ad.add (i * 20)).block, (ad.add (i * 20)).off + 1, none⟩ = some (.int .u8 x.op.f0) ∧ w'.cell? ⟨(ad.add (i * 20)).block, (ad.add (i * 20)).off + 1 + 1, none⟩ = some (.int .u64 x.op.f1) ∧ w'.cell? ⟨(ad.add (i * 20)).block, (ad.add (i * 20)).off + 1 + 2, none⟩ = some (.int .u64 x.op.f2) ∧ w'.cell? ⟨(ad.add (i * 20)).block, (ad.add (i * 20)).off + 1 + 3, none⟩ = some (.int .u64 x.op.f3) ∧ w'.cell? ⟨(ad.add (i * 20)).block, (ad.add (i * 20)).off + 1 + 4, none⟩ = some (.int .u64 x.op.f4) ∧ w'.cell? ⟨(ad.add (i * 20)).block, (ad.add (i * 20)).off + 1 + 5, none⟩ = some (.bool x.op.f5.f0) ∧ w'.cell? ⟨(ad.add (i * 20)).block, (ad.add (i * 20)).off + 1 + 6, none⟩ = some (.int .i64 x.op.f5.f1) ∧ w'.cell? ⟨(ad.add (i * 20)).block, (ad.add (i * 20)).off + 1 + 7, none⟩ = some (.int .i64 x.op.f5.f2) ∧ w'.cell? ⟨(ad.add (i * 20)).block, (ad.add (i * 20)).off + 1 + 8, none⟩ = some (.slice A1 x.op.f6.length c1) ∧ w'.cell? ⟨(ad.add (i * 20)).block, (ad.add (i * 20)).off + 1 + 9, none⟩ = some (.int .u64 x.op.f7) ∧ w'.cell? ⟨(ad.add (i * 20)).block, (ad.add (i * 20)).off + 1 + 10, none⟩ = some (.int .u64 x.op.f8) ∧ w'.cell? ⟨(ad.add (i * 20)).block, (ad.add (i * 20)).off + 19, none⟩ = some (.int .u64 x.hd))
        (first | go_keep | exact HSS | exact HSS3)
        ((go_at_call 15
          have hD := Lib.hid (HT.out.below (below_drew (Below.refl _ wr)))
          refine (do_c f i gp bn bh _ _ _ x.op A1 c1 x.hd wr.drew hD.out.pm hD.out.fro ⟨HWX.out.2.1.2.1, HWX.out.2.1.2.2.1, HWX.out.2.1.2.2.2.2.1⟩ HWX.out.2.2.2 (by omega) HKC.out HWX.out.2.1.2.2.2.2.2.2.1 hkn).mono ?_
          rintro e w3 ⟨v, rfl, -, hL⟩
          obtain ⟨f', hT'⟩ := hD.out.step hL hle1.1 hle1.2
          have HT' := Lib.hid hT'
          have HSS3 := HSG w3 HT'.out.ko.kept
          clear hT' hL hD))
      clear HSS HSG
      go_wp2_with fail
      go_roundw
      case rel => exact ⟨i + 1, f', by go_num, by omega, Lib.hid (by rw [runD_succ _ l i hlt, ← HX.out]; exact HT'.out)⟩
      case measure => simp [intOf]; omega
    · obtain rfl : i = l.length := by omega
      have hT1 := HT.out
      rw [List.take_length] at hT1
      obtain ⟨s, hs⟩ : ∃ s, s = runD ⟨3, [], []⟩ l := ⟨_, rfl⟩
      rw [← hs] at hT1
      have HT1 := Lib.hid hT1
      clear HT HT0 hT1 hs
      cases hx : fnd s.held hdl with
      | some z =>
        have HX := Lib.hid hx
        clear hx
        go_upto_region 9 with (go_at_call 16; refine (held_some f l.length gp bn bh s hdl z wr HT1.out.pm HT1.out.fro HU.out (by omega) HX.out).mono ?_; rintro e w4 ⟨A4, n4, rfl, -, hB4⟩; have HT4 := Lib.hid (HT1.out.below hB4); clear hB4)
        by_cases h0 : hdl = 0
        · have d0 : (hdl == 0) = true := beq_iff_eq.2 h0
          clear h0
          go_wp2_with fail
          go_ret
          exact ⟨rfl, HT4.out.ko.below_of (fun _ e => e.elim)⟩
        · have d0 : (hdl == 0) = false := beq_eq_false_iff_ne.2 h0
          clear h0
          go_wp2_with fail
          go_ret
          exact ⟨rfl, HT4.out.ko.below_of (fun _ e => e.elim)⟩
      | none =>
        have HX := Lib.hid hx
        clear hx
        go_upto_region 9 with (go_at_call 16; refine (held_none f l.length gp bn bh s hdl wr HT1.out.pm HT1.out.fro HU.out (by omega) HX.out).mono ?_; rintro e w4 ⟨A4, n4, rfl, hB4⟩; have HT4 := Lib.hid (HT1.out.below hB4); clear hB4)
        by_cases h0 : hdl = 0
        · have d0 : (hdl == 0) = true := beq_iff_eq.2 h0
          clear h0
          go_wp2_with fail
          go_ret
          exact ⟨rfl, HT4.out.ko.below_of (fun _ e => e.elim)⟩
        · have d0 : (hdl == 0) = false := beq_eq_false_iff_ne.2 h0
          have HSN := Lib.hid (snap_new (now := s.now) HX.out h0)
          have HWK : Hid (∀ q ∈ s.now, u64wf q.1) := Lib.hid (fun q hq => wf_keys HT4.out.pm.now.1 hq)
          clear h0
          obtain ⟨p, hp⟩ : ∃ p, p = toS s.now := ⟨_, rfl⟩
          have HP := Lib.hid hp
          clear hp
          have hpl : p.length ≤ 4398046511104 := by
            rw [HP.out, toS_length]
            have := HT4.out.pm.now.len
            omega
          go_upto_region 12 with (go_at_call 17; refine (content_c f l.length gp bn bh s.multi s.now s.held w4 HT4.out.pm (by omega)).mono ?_; rintro e w5 ⟨v5, rfl, hR5, hB5⟩; rw [← HP.out] at hR5; obtain ⟨A5, c5, rfl⟩ := Kd.R_slice hR5; have HT5 := Lib.hid (HT4.out.below hB5); have HR5 := Lib.hid (Kd.R_mono (ok' := fun k => w4.heap.size ≤ k) (Kd.R_bound hR5) (fun k hk => hk.2.1)); clear hR5 hB5)
          have hlt4 : bn < w4.heap.size ∧ bh < w4.heap.size := ⟨HT4.out.pm.now.lt, HT4.out.pm.held.1.lt⟩
          obtain ⟨B4, hB4⟩ : ∃ B4, B4 = w4.heap.size := ⟨_, rfl⟩
          rw [← hB4] at hlt4 HR5
          clear hB4
          have hc5 : p.length ≤ c5 := (Kd.R_reads' HR5.out).2.1
          go_upto_region 13 with (go_at_call 15; refine (do_lit 5 0 0 hdl f l.length gp bn bh s w5 HT5.out.pm HT5.out.fro (by unfold u64wf; decide) HU.out (by omega)).mono ?_; rw [show (stepD s (litO 5 0 0) hdl).2 = ⟨0, false, 0, false, hdl, [], 0⟩ from HSN.out.2]; rintro e w6 hD6; obtain ⟨f6, A6, c6, rfl, hT6, -, hK6⟩ := HT5.out.told hD6 hle1.1 hle1.2; have HT6 := Lib.hid hT6; have HR6 := Lib.hid (Kd.R_kept HR5.out hK6 (fun k hk e => by omega)); clear hT6 hK6 hD6)
          have hb6 := below_alloc (Below.refl _ w6) (Obj.cells #[Value.int IntKind.i64 0, Value.bool false, Value.int IntKind.u64 0, Value.bool false, Value.int IntKind.u64 hdl, Value.slice A6 (toS []).length c6, Value.int IntKind.u64 0] 26)
          obtain ⟨W6, hW6⟩ : ∃ W6, W6 = w6.alloc (Obj.cells #[Value.int IntKind.i64 0, Value.bool false, Value.int IntKind.u64 0, Value.bool false, Value.int IntKind.u64 hdl, Value.slice A6 (toS []).length c6, Value.int IntKind.u64 0] 26) := ⟨_, rfl⟩
          rw [← hW6] at hb6
          have HBK6 : Hid (W6.heap[w6.heap.size]? = some (.cells #[Value.int IntKind.i64 0, Value.bool false, Value.int IntKind.u64 0, Value.bool false, Value.int IntKind.u64 hdl, Value.slice A6 (toS []).length c6, Value.int IntKind.u64 0] 26 (0, 0))) := Lib.hid (by rw [hW6]; exact heap_alloc_new _ _)
          have HZ6 : Hid (∃ z, z = w6.heap.size) := Lib.hid ⟨_, rfl⟩
          rw [← hW6]
          clear hW6
          have hc64 : W6.cell? ⟨w6.heap.size, 4, none⟩ = some (.int .u64 hdl) := by rw [blk_cell HBK6.out]; rfl
          have HT7 : Hid (One w W6 f6 (l.length + 1) gp bn bh (stepD s (litO 5 0 0) hdl).1) := Lib.hid (HT6.out.below hb6)
          have HR7 := Lib.hid (Kd.R_below HR6.out hb6)
          have HS1 : Hid (fnd (stepD s (litO 5 0 0) hdl).1.held hdl = some s.now) := Lib.hid HSN.out.1
          clear HT6 HR6 HBK6 hb6 HZ6
          go_wp2_with fail
          clear hc64
          go_loopw [14, 15, 16] (fun v14 _ _ wr => ∃ (j : Nat) (f : Nat → Option PL) (s2 : MS), v14 = .int .i64 j ∧ j ≤ l2.length ∧ Hid (One w wr f (l.length + 1 + j) gp bn bh s2) ∧ Hid (fnd s2.held hdl = some s.now) ∧ Hid (kSP.R 90 wr B4 (fun k => B4 ≤ k) (.slice A5 p.length c5) p))
            (fun v14 _ _ _ => l2.length - (intOf v14).toNat)
          case atStart => exact ⟨0, f6, _, rfl, Nat.zero_le _, HT7, HS1, HR7⟩
          case round =>
            clear HT7 HS1 HR7 HT1 HT4 HT5 HR5
            obtain ⟨j, f2, s2, rfl, hj, HT2, HF2, HR2⟩ := hrel
            by_cases hlt2 : j < l2.length
            · obtain ⟨ad2, A2y, c2y, B2y, d2y, rfl, hcell2, g3, -, -⟩ := at_call HC2.out j hlt2 hlt2
              obtain ⟨y, hy⟩ : ∃ y, y = l2[j] := ⟨_, rfl⟩
              rw [← hy] at hcell2 g3
              have HY := Lib.hid hy
              have HWY : Hid (wfC y) := Lib.hid (by rw [hy]; exact HWF2.out _ (List.getElem_mem hlt2))
              have hkn2 : y.op.f6.length ≤ 1099511627776 := by have := HKL2.out y (by rw [HY.out]; exact List.getElem_mem hlt2); omega
              have HKD : Hid (∀ W', Kept wr.drew W' (fun k => k = bn ∨ k = bh) → Kd.C (Kd.int .u64) W' A2y y.op.f6.length y.op.f6) := Lib.hid (fun W' hk => Kd.Heap.C (Kd.heap_int _) (fun k hlt2 => (hk.2 k (Nat.lt_of_lt_of_le hlt2 HT2.out.ko.kept.1) (by omega)).trans (HT2.out.ko.kept.2 k hlt2 (fun e => e))) g3)
              have HCELL2 := Lib.hid hcell2
              clear hy hcell2 g3
              have HSG : ∀ W' : World, Kept w W' (fun _ => False) → (fun w' : World => w'.cell? ⟨(ad2.add (j * 20)).block, (ad2.add (j * 20)).off + 1, none⟩ = some (.int .u8 y.op.f0) ∧ w'.cell? ⟨(ad2.add (j * 20)).block, (ad2.add (j * 20)).off + 1 + 1, none⟩ = some (.int .u64 y.op.f1) ∧ w'.cell? ⟨(ad2.add (j * 20)).block, (ad2.add (j * 20)).off + 1 + 2, none⟩ = some (.int .u64 y.op.f2) ∧ w'.cell? ⟨(ad2.add (j * 20)).block, (ad2.add (j * 20)).off + 1 + 3, none⟩ = some (.int .u64 y.op.f3) ∧ w'.cell? ⟨(ad2.add (j * 20)).block, (ad2.add (j * 20)).off + 1 + 4, none⟩ = some (.int .u64 y.op.f4) ∧ w'.cell? ⟨(ad2.add (j * 20)).block, (ad2.add (j * 20)).off + 1 + 5, none⟩ = some (.bool y.op.f5.f0) ∧ w'.cell? ⟨(ad2.add (j * 20)).block, (ad2.add (j * 20)).off + 1 + 6, none⟩ = some (.int .i64 y.op.f5.f1) ∧ w'.cell? ⟨(ad2.add (j * 20)).block, (ad2.add (j * 20)).off + 1 + 7, none⟩ = some (.int .i64 y.op.f5.f2) ∧ w'.cell? ⟨(ad2.add (j * 20)).block, (ad2.add (j * 20)).off + 1 + 8, none⟩ = some (.slice A2y y.op.f6.length c2y) ∧ w'.cell? ⟨(ad2.add (j * 20)).block, (ad2.add (j * 20)).off + 1 + 9, none⟩ = some (.int .u64 y.op.f7) ∧ w'.cell? ⟨(ad2.add (j * 20)).block, (ad2.add (j * 20)).off + 1 + 10, none⟩ = some (.int .u64 y.op.f8) ∧ w'.cell? ⟨(ad2.add (j * 20)).block, (ad2.add (j * 20)).off + 19, none⟩ = some (.int .u64 y.hd)) W' := fun W' hk => by
                have hcell := fun j u hj => cell_kept (HCELL2.out j u hj) hk (fun e => e)
                exact ⟨by rw [← add_field _ _ 1 (by omega)]; exact hcell 1 _ rfl, by rw [Nat.add_assoc, ← add_field _ _ 2 (by omega)]; exact hcell 2 _ rfl, by rw [Nat.add_assoc, ← add_field _ _ 3 (by omega)]; exact hcell 3 _ rfl, by rw [Nat.add_assoc, ← add_field _ _ 4 (by omega)]; exact hcell 4 _ rfl, by rw [Nat.add_assoc, ← add_field _ _ 5 (by omega)]; exact hcell 5 _ rfl, by rw [Nat.add_assoc, ← add_field _ _ 6 (by omega)]; exact hcell 6 _ rfl, by rw [Nat.add_assoc, ← add_field _ _ 7 (by omega)]; exact hcell 7 _ rfl, by rw [Nat.add_assoc, ← add_field _ _ 8 (by omega)]; exact hcell 8 _ rfl, by rw [Nat.add_assoc, ← add_field _ _ 9 (by omega)]; exact hcell 9 _ rfl, by rw [Nat.add_assoc, ← add_field _ _ 10 (by omega)]; exact hcell 10 _ rfl, by rw [Nat.add_assoc, ← add_field _ _ 11 (by omega)]; exact hcell 11 _ rfl, by rw [← add_field _ _ 19 (by omega)]; exact hcell 19 _ rfl⟩
              have HSS := HSG wr HT2.out.ko.kept
              obtain ⟨z0, z1, z2, z3, z4, z5, z6, z7, z8, z9, z10, z11⟩ := HSS
              have hcase : ((y.op.f0 == 6) = true ∧ (y.op.f4 == hdl) = true) ∨ (((y.op.f0 == 6) = true ∧ (y.op.f4 == hdl) = false) ∨ (y.op.f0 == 6) = false) := by
                cases hq : (y.op.f0 == 6) <;> cases hr : (y.op.f4 == hdl) <;> simp
              rcases hcase with ⟨q1, q2⟩ | hcase
              · go_wp2_with fail
                go_roundw
                case rel => exact ⟨j + 1, f2, s2, by go_num, by omega, Lib.hid (HT2.out.mono (by omega)), HF2, HR2⟩
                case measure => simp [intOf]; omega
              · have HNR : Hid (¬ (y.op.f0 = 6 ∧ y.op.f4 = hdl)) := Lib.hid (by
                  rintro ⟨e1, e2⟩
                  rcases hcase with ⟨_, q2⟩ | q1
                  · rw [e2] at q2; simp at q2
                  · rw [e1] at q1; simp at q1)
                rcases hcase with ⟨q1, q2⟩ | q1
                all_goals
                  go_upto_region 19 with fail
                  go_region_held3 (fun w' : World => w'.cell? ⟨(ad2.add (j * 20)).block, (ad2.add (j * 20)).off + 1, none⟩ = some (.int .u8 y.op.f0) ∧ w'.cell? ⟨(ad2.add (j * 20)).block, (ad2.add (j * 20)).off + 1 + 1, none⟩ = some (.int .u64 y.op.f1) ∧ w'.cell? ⟨(ad2.add (j * 20)).block, (ad2.add (j * 20)).off + 1 + 2, none⟩ = some (.int .u64 y.op.f2) ∧ w'.cell? ⟨(ad2.add (j * 20)).block, (ad2.add (j * 20)).off + 1 + 3, none⟩ = some (.int .u64 y.op.f3) ∧ w'.cell? ⟨(ad2.add (j * 20)).block, (ad2.add (j * 20)).off + 1 + 4, none⟩ = some (.int .u64 y.op.f4) ∧ w'.cell? ⟨(ad2.add (j * 20)).block, (ad2.add (j * 20)).off + 1 + 5, none⟩ = some (.bool y.op.f5.f0) ∧ w'.cell? ⟨(ad2.add (j * 20)).block, (ad2.add (j * 20)).off + 1 + 6, none⟩ = some (.int .i64 y.op.f5.f1) ∧ w'.cell? ⟨(ad2.add (j * 20)).block, (ad2.add (j * 20)).off + 1 + 7, none⟩ = some (.int .i64 y.op.f5.f2) ∧ w'.cell? ⟨(ad2.add (j * 20)).block, (ad2.add (j * 20)).off + 1 + 8, none⟩ = some (.slice A2y y.op.f6.length c2y) ∧ w'.cell? ⟨(ad2.add (j * 20)).block, (ad2.add (j * 20)).off + 1 + 9, none⟩ = some (.int .u64 y.op.f7) ∧ w'.cell? ⟨(ad2.add (j * 20)).block, (ad2.add (j * 20)).off + 1 + 10, none⟩ = some (.int .u64 y.op.f8) ∧ w'.cell? ⟨(ad2.add (j * 20)).block, (ad2.add (j * 20)).off + 19, none⟩ = some (.int .u64 y.hd))
                    (first | go_keep | exact ⟨z0, z1, z2, z3, z4, z5, z6, z7, z8, z9, z10, z11⟩ | exact HSS3)
                    ((go_at_call 15
                      have hD := Lib.hid (HT2.out.below (below_drew (Below.refl _ wr)))
                      refine (do_c f2 (l.length + 1 + j) gp bn bh _ _ _ y.op A2y c2y y.hd wr.drew hD.out.pm hD.out.fro ⟨HWY.out.2.1.2.1, HWY.out.2.1.2.2.1, HWY.out.2.1.2.2.2.2.1⟩ HWY.out.2.2.2 (by omega) HKD.out HWY.out.2.1.2.2.2.2.2.2.1 hkn2).mono ?_
                      rintro e w3 ⟨v, rfl, -, hL⟩
                      obtain ⟨f', hT'⟩ := hD.out.step hL hle1.1 hle1.2
                      have HK' : Hid (Kept wr w3 (fun k => k = bn ∨ k = bh)) := Lib.hid (by obtain ⟨_, _, _, _, hK⟩ := hL; exact hK.kept)
                      have HT' := Lib.hid hT'
                      have HSS3 := HSG w3 HT'.out.ko.kept
                      clear hT' hL hD))
                  have HF3 : Hid (fnd (stepD s2 y.op y.hd).1.held hdl = some s.now) := Lib.hid (stepD_held HF2.out HNR.out)
                  have HR3 := Lib.hid (Kd.R_kept (Kd.R_drew HR2.out) HK'.out (fun k hk e => by omega))
                  obtain ⟨s3, hs3⟩ : ∃ s3, s3 = (stepD s2 y.op y.hd).1 := ⟨_, rfl⟩
                  rw [← hs3] at HT' HF3
                  clear hs3 HSS3 HK' HT2 HR2 HF2 HCELL2 HKD HSG z0 z1 z2 z3 z4 z5 z6 z7 z8 z9 z10 z11
                  go_upto_region 21 with (go_at_call 16; refine (held_some f' (l.length + 1 + j + 1) gp bn bh s3 hdl s.now w3 HT'.out.pm HT'.out.fro HU.out (by omega) HF3.out).mono ?_; rw [← HP.out]; rintro e w7 ⟨A7, c7, rfl, hR7, hB7⟩; have HT7 := Lib.hid (HT'.out.below hB7); have HR8 := Lib.hid (Kd.R_below HR3.out hB7); have HR7 := Lib.hid hR7; clear hB7 hR7)
                  go_wp2_with (go_at_call 18; refine (samM_c p p A7 A5 c7 c5 w7 (Kd.R_reads' HR7.out).2.2 (Kd.R_reads' HR7.out).2.1 (Kd.R_reads' HR8.out).2.2 hc5 hpl).mono ?_; rw [show decide (p = p) = true by simp]; rintro e w8 ⟨rfl, hB8⟩; have HT8 := Lib.hid (HT7.out.below hB8); have HR9 := Lib.hid (Kd.R_below HR8.out hB8); clear hB8)
                  go_roundw
                  case rel => exact ⟨j + 1, f', s3, by go_num, by omega, HT8, HF3, HR9⟩
                  case measure => simp [intOf]; omega
            · obtain rfl : j = l2.length := by omega
              obtain ⟨M, hM⟩ : ∃ M, M = l.length + 1 + l2.length := ⟨_, rfl⟩
              have hMl : M ≤ 3000000 := by omega
              rw [← hM] at HT2
              clear hM hlt2
              have hst8 : ∀ hi, 0 ≤ hi → hi = 18446744073709551615 → stepD s2 (litO 8 hdl hi) 0 = (s2, ⟨0, false, 0, false, 0, s.now, 0⟩) := fun hi _ e => by
                rw [e]; simp only [stepD, litO]; simp [HF2.out, within_all HWK.out]
              have hst9 : ∀ hi, 0 ≤ hi → hi = 18446744073709551615 → stepD s2 (litO 9 hdl hi) 0 = (s2, ⟨0, false, 0, false, 0, [], (p.length : Int)⟩) := fun hi _ e => by
                rw [e]; simp only [stepD, litO]; simp [HF2.out, within_all HWK.out, HP.out]
              have hst6 : stepD s2 (litO 6 hdl 0) 0 = (⟨s2.multi, s2.now, del s2.held hdl⟩, ⟨0, false, 0, false, 0, [], 0⟩) := by
                simp only [stepD, litO]; simp [HF2.out, errD]
              have HST8 := Lib.hid (hst8 _ (by decide) rfl)
              have HST9 := Lib.hid (hst9 _ (by decide) rfl)
              have HST6 := Lib.hid hst6
              clear hst8 hst9 hst6
              go_upto_region 24 with (go_at_call 15; refine (do_lit 8 hdl _ 0 f2 M gp bn bh s2 wr HT2.out.pm HT2.out.fro HU.out (by unfold u64wf; decide) (by omega)).mono ?_; rw [HST8.out]; rintro e w10 hD10; obtain ⟨f10, A10, c10, rfl, hT10, hR10, hK10⟩ := HT2.out.told hD10 hle1.1 hle1.2; rw [← HP.out] at hR10 ⊢; have HT10 := Lib.hid hT10; have HRP := Lib.hid (Kd.R_kept HR2.out hK10 (fun k hk e => by omega)); have HQP := Lib.hid (Kd.R_mono (ok' := fun k => wr.heap.size ≤ k) (Kd.R_bound hR10) (fun k hk => hk.2.1)); have hwz := hK10.1; clear hT10 hR10 hK10 hD10)
              have hb10 := below_alloc (Below.refl _ w10) (Obj.cells #[Value.int IntKind.i64 0, Value.bool false, Value.int IntKind.u64 0, Value.bool false, Value.int IntKind.u64 0, Value.slice A10 p.length c10, Value.int IntKind.u64 0] 26)
              obtain ⟨W10, hW10⟩ : ∃ W10, W10 = w10.alloc (Obj.cells #[Value.int IntKind.i64 0, Value.bool false, Value.int IntKind.u64 0, Value.bool false, Value.int IntKind.u64 0, Value.slice A10 p.length c10, Value.int IntKind.u64 0] 26) := ⟨_, rfl⟩
              rw [← hW10] at hb10
              have HBK10 : Hid (W10.heap[w10.heap.size]? = some (.cells #[Value.int IntKind.i64 0, Value.bool false, Value.int IntKind.u64 0, Value.bool false, Value.int IntKind.u64 0, Value.slice A10 p.length c10, Value.int IntKind.u64 0] 26 (0, 0))) := Lib.hid (by rw [hW10]; exact heap_alloc_new _ _)
              rw [← hW10]
              clear hW10
              have HTA10 := Lib.hid (HT10.out.below hb10)
              have hz10 := hb10.size
              replace HRP := Lib.hid (Kd.R_below HRP.out hb10)
              replace HQP := Lib.hid (Kd.R_below HQP.out hb10)
              clear HT10 hb10
              have hnew : bn < wr.heap.size ∧ bh < wr.heap.size := ⟨HT2.out.pm.now.lt, HT2.out.pm.held.1.lt⟩
              go_upto_region 25 with (go_at_call 15; refine (do_lit 9 hdl _ 0 f10 (M + 1) gp bn bh s2 W10 HTA10.out.pm HTA10.out.fro HU.out (by unfold u64wf; decide) (by omega)).mono ?_; rw [HST9.out]; rintro e w11 hD11; obtain ⟨f11, A11, c11, rfl, hT11, -, hK11⟩ := HTA10.out.told hD11 hle1.1 hle1.2; have HT11 := Lib.hid hT11; replace HRP := Lib.hid (Kd.R_kept HRP.out hK11 (fun k hk e => by omega)); replace HQP := Lib.hid (Kd.R_kept HQP.out hK11 (fun k hk e => by omega)); replace HBK10 := Lib.hid (blk_kept HBK10.out hK11 (by omega)); have hwz2 := hK11.1; clear hT11 hK11 hD11)
              have hb11 := below_alloc (Below.refl _ w11) (Obj.cells #[Value.int IntKind.i64 0, Value.bool false, Value.int IntKind.u64 0, Value.bool false, Value.int IntKind.u64 0, Value.slice A11 (toS []).length c11, Value.int IntKind.u64 p.length] 26)
              obtain ⟨W11, hW11⟩ : ∃ W11, W11 = w11.alloc (Obj.cells #[Value.int IntKind.i64 0, Value.bool false, Value.int IntKind.u64 0, Value.bool false, Value.int IntKind.u64 0, Value.slice A11 (toS []).length c11, Value.int IntKind.u64 p.length] 26) := ⟨_, rfl⟩
              rw [← hW11] at hb11
              have HBK11 : Hid (W11.heap[w11.heap.size]? = some (.cells #[Value.int IntKind.i64 0, Value.bool false, Value.int IntKind.u64 0, Value.bool false, Value.int IntKind.u64 0, Value.slice A11 (toS []).length c11, Value.int IntKind.u64 p.length] 26 (0, 0))) := Lib.hid (by rw [hW11]; exact heap_alloc_new _ _)
              rw [← hW11]
              clear hW11
              have HTA11 := Lib.hid (HT11.out.below hb11)
              have hz11 := hb11.size
              replace HRP := Lib.hid (Kd.R_below HRP.out hb11)
              replace HQP := Lib.hid (Kd.R_below HQP.out hb11)
              replace HBK10 := Lib.hid (blk_below HBK10.out hb11)
              clear HT11 hb11
              go_upto_region 26 with (go_at_call 15; refine (do_lit 6 hdl 0 0 f11 (M + 1 + 1) gp bn bh s2 W11 HTA11.out.pm HTA11.out.fro HU.out (by unfold u64wf; decide) (by omega)).mono ?_; rw [HST6.out]; rintro e w12 hD12; obtain ⟨f12, A12, c12, rfl, hT12, -, hK12⟩ := HTA11.out.told hD12 hle1.1 hle1.2; have HT12 := Lib.hid hT12; replace HRP := Lib.hid (Kd.R_kept HRP.out hK12 (fun k hk e => by omega)); replace HQP := Lib.hid (Kd.R_kept HQP.out hK12 (fun k hk e => by omega)); replace HBK10 := Lib.hid (blk_kept HBK10.out hK12 (by omega)); replace HBK11 := Lib.hid (blk_kept HBK11.out hK12 (by omega)); have hwz3 := hK12.1; clear hT12 hK12 hD12)
              have hb12 := below_alloc (Below.refl _ w12) (Obj.cells #[Value.int IntKind.i64 0, Value.bool false, Value.int IntKind.u64 0, Value.bool false, Value.int IntKind.u64 0, Value.slice A12 (toS []).length c12, Value.int IntKind.u64 0] 26)
              obtain ⟨W12, hW12⟩ : ∃ W12, W12 = w12.alloc (Obj.cells #[Value.int IntKind.i64 0, Value.bool false, Value.int IntKind.u64 0, Value.bool false, Value.int IntKind.u64 0, Value.slice A12 (toS []).length c12, Value.int IntKind.u64 0] 26) := ⟨_, rfl⟩
              rw [← hW12] at hb12
              have HBK12 : Hid (W12.heap[w12.heap.size]? = some (.cells #[Value.int IntKind.i64 0, Value.bool false, Value.int IntKind.u64 0, Value.bool false, Value.int IntKind.u64 0, Value.slice A12 (toS []).length c12, Value.int IntKind.u64 0] 26 (0, 0))) := Lib.hid (by rw [hW12]; exact heap_alloc_new _ _)
              rw [← hW12]
              clear hW12
              have HTA12 := Lib.hid (HT12.out.below hb12)
              have hz12 := hb12.size
              replace HRP := Lib.hid (Kd.R_below HRP.out hb12)
              replace HQP := Lib.hid (Kd.R_below HQP.out hb12)
              replace HBK10 := Lib.hid (blk_below HBK10.out hb12)
              replace HBK11 := Lib.hid (blk_below HBK11.out hb12)
              clear HT12 hb12
              go_upto_region 27 with (go_at_call 16; refine (held_none f12 (M + 1 + 1 + 1) gp bn bh ⟨s2.multi, s2.now, del s2.held hdl⟩ hdl W12 HTA12.out.pm HTA12.out.fro HU.out (by omega) (fnd_del_same _ _)).mono ?_; rintro e w13 ⟨A13, n13, rfl, hB13⟩; have HT13 := Lib.hid (HTA12.out.below hB13); replace HRP := Lib.hid (Kd.R_below HRP.out hB13); replace HQP := Lib.hid (Kd.R_below HQP.out hB13); replace HBK10 := Lib.hid (blk_below HBK10.out hB13); replace HBK11 := Lib.hid (blk_below HBK11.out hB13); replace HBK12 := Lib.hid (blk_below HBK12.out hB13); clear hB13)
              have k10 : w13.cell? ⟨w10.heap.size, 5, none⟩ = some (.slice A10 p.length c10) := by rw [blk_cell HBK10.out]; rfl
              have HK11 : Hid (∀ W, Below w13.heap.size w13 W → W.cell? ⟨w11.heap.size, 6, none⟩ = some (.int .u64 p.length)) := Lib.hid (fun W h => by rw [blk_cell (blk_below HBK11.out h)]; rfl)
              have HK12 : Hid (∀ W, Below w13.heap.size w13 W → W.cell? ⟨w12.heap.size, 0, none⟩ = some (.int .i64 0)) := Lib.hid (fun W h => by rw [blk_cell (blk_below HBK12.out h)]; rfl)
              have hwr : IntKind.u64.wrap (p.length : Int) = (p.length : Int) := by unfold IntKind.wrap; simp [IntKind.signed, IntKind.bits]; omega
              have hbb : ((p.length : Int) == (p.length : Int)) = true := by simp
              go_wp2_with (go_at_call 18; refine (samM_c p p A10 A5 c10 c5 w13 (Kd.R_reads' HQP.out).2.2 (Kd.R_reads' HQP.out).2.1 (Kd.R_reads' HRP.out).2.2 hc5 hpl).mono ?_; rw [show decide (p = p) = true by simp]; rintro e w14 ⟨rfl, hB14⟩; have HT14 := Lib.hid (HT13.out.below hB14); have k11 := HK11.out _ hB14; have k12 := HK12.out _ hB14; clear hB14)
              go_ret
              exact ⟨rfl, HT14.out.ko.below_of (fun _ e => e.elim)⟩
theorem BC_mem {l : List CallS} {x : CallS} (h : x ∈ l) : x.op.f6.length ≤ (l.map BC).sum := by
  induction l with
  | nil => cases h
  | cons a l ih =>
    have hs : x.op.f6.length ≤ (x.op.f6.map (fun _ => 1)).sum := by
      rw [List.map_const', List.sum_replicate_nat]; omega
    rw [List.map_cons, List.sum_cons]
    rcases List.mem_cons.1 h with rfl | h
    · unfold BC BO; omega
    · have := ih h; omega
theorem held_walk (W : World) (a0 : Option Addr) (c0 : Nat) (x0 : List CallS) (h0 : Kd.C kCall W a0 x0.length x0) (l0 : x0.length ≤ c0) {H : Type} {d0 d1 d2 : DataW H} (b0 : (x0.map BC).sum + 1 ≤ Rows.uptoBulk d0) (w0 : ∀ x ∈ x0, wfC x) (hdl : Int) (wh : (Lit.int .u64 hdl).wf = true)
    (a2 : Option Addr) (c2 : Nat) (x2 : List CallS) (h2 : Kd.C kCall W a2 x2.length x2) (l2 : x2.length ≤ c2) (b2 : (x2.map BC).sum + 1 ≤ Rows.uptoBulk d2) (w2 : ∀ x ∈ x2, wfC x) (hb : Rows.uptoBulk d0 + (Rows.uptoBulk d1 + (Rows.uptoBulk d2 + 0)) ≤ 1048576) :
    Calls Try.prog 4 #[.slice a0 x0.length c0, .int .u64 hdl, .slice a2 x2.length c2] W fun e W' => e = .returned (.bool true) ∧ Below W.heap.size W W' :=
  held_law W a0 c0 x0 h0 l0 w0 hdl a2 c2 x2 h2 l2 w2 (by have := BC_len x0; omega) (by have := BC_len x2; omega) wh (fun x hx => by have := BC_mem hx; omega) (fun x hx => by have := BC_mem hx; omega)
end Go.Proofs.Ytngocadnbpdnoaa.Mo
