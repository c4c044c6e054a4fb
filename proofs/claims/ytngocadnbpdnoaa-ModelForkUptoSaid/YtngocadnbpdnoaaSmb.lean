import Derived.Test.YtngocadnbpdnoaaSma
import Derived.Test.YtngocadnbpdnoaaSMo9
import Derived.Test.YtngocadnbpdnoaaSMo17
import Derived.StillTailTactics
import Derived.Deep.RegionLaw
namespace Go.Proofs.Ytngocadnbpdnoaa.Mo
open Go Go.Maps Go.RowKit Go.Proofs.Ytngocadnbpdnoaa.Srt Go.Proofs.Ytngocadnbpdnoaa.Q Go.Proofs.YtngocadnbpdnoaaW.PrintWords Go.Proofs.YtngocadnbpdnoaaW.PrintLast Go.Proofs.YtngocadnbpdnoaaW.PrintMore
set_option linter.unusedVariables false
set_option linter.unusedSimpArgs false
set_option maxRecDepth 100000 in
set_option maxHeartbeats 8000000 in
theorem do_rgNo (f : Nat → Option PL) (N gp bn bh : Nat) (multi : Int) (now : PL) (held : List (Int × PL)) (o : OpS) (A : Option Addr) (c : Nat) (hdl : Int) (w : World) (hM : PM w f N gp bn bh multi now held) (hF : Fro w f N) (hO : OpWf o) (hh : u64wf hdl) (hN : N ≤ 1099511627776) (hk : o.f0 = 8) (hx : fnd held o.f4 = none) :
    Calls Try.prog 15 #[.pointer (some ⟨gp, 0, none⟩), .agg (opC o A c), .int .u64 hdl] w (DoPost w f (N + 1) gp bn bh ⟨multi, now, held⟩ (errD 33)) := by
  have hgl := hM.gl
  have hnl := hM.now.lt
  have hhl := hM.held.1.lt
  have HM := Lib.hid hM
  have HF := Lib.hid hF
  have HO := Lib.hid hO
  have HU := Lib.hid hh
  have hb0 : Below w.heap.size w (doW w o A c).drew := below_drew (doW_below w o A c)
  have hP0 := hM.kept (Kept.of_below hb0 (fun _ => False)) (fun e => e) (fun e => e) (fun e => e)
  have HS : (fun w' : World => w'.cell? ⟨gp, 1, none⟩ = some (.map (some bn)) ∧ w'.cell? ⟨w.heap.size, 1, none⟩ = some (.int .u64 o.f1) ∧ (Instr.lookup 97 (.map (some bn)) (.int .u64 o.f1) true).run Try.prog w' = .ok (.tuple #[.int .u64 ((fnd now o.f1).getD 0), .bool (fnd now o.f1).isSome]) w') (doW w o A c).drew :=
    ⟨hP0.c1, by rw [blk_cell (w := (doW w o A c).drew) (doW_op w o A c)]; rfl, now_look hP0.now hO.key⟩
  obtain ⟨vh, hvh, hrunh⟩ := held_look (hM.held.kept (Kept.of_below (below_drew (below_alloc (below_drew (doW_below w o A c)) (.cells (ansC 0 (fnd now o.f1).isSome ((fnd now o.f1).getD 0) false 0 (.slice none 0 0) 0) 26))) (fun _ => False)) (fun e => e)) hO.han
  have hW2 : Below w.heap.size w ((doW w o A c).drew.alloc (.cells (ansC 0 (fnd now o.f1).isSome ((fnd now o.f1).getD 0) false 0 (.slice none 0 0) 0) 26)).drew := below_drew (below_alloc (below_drew (doW_below w o A c)) _)
  have hP2 := hM.kept (Kept.of_below hW2 (fun _ => False)) (fun e => e) (fun e => e) (fun e => e)
  have hs2 : (doW w o A c).drew.heap.size = w.heap.size + 2 := doW_size w o A c
  have hop2 : ((doW w o A c).drew.alloc (.cells (ansC 0 (fnd now o.f1).isSome ((fnd now o.f1).getD 0) false 0 (.slice none 0 0) 0) 26)).drew.heap[w.heap.size]? = some (.cells (opC o A c) 39 (0, 0)) := ((below_alloc (Below.refl _ (doW w o A c).drew) _).block _ (by rw [hs2]; omega)).trans (doW_op w o A c)
  have hra2 : ((doW w o A c).drew.alloc (.cells (ansC 0 (fnd now o.f1).isSome ((fnd now o.f1).getD 0) false 0 (.slice none 0 0) 0) 26)).drew.heap[w.heap.size + 1]? = some (.cells (ansC 0 false 0 false 0 (.slice none 0 0) 0) 26 (0, 0)) := ((below_alloc (Below.refl _ (doW w o A c).drew) _).block _ (by rw [hs2]; omega)).trans (doW_ans w o A c)
  have hfa2 : ((doW w o A c).drew.alloc (.cells (ansC 0 (fnd now o.f1).isSome ((fnd now o.f1).getD 0) false 0 (.slice none 0 0) 0) 26)).drew.heap[w.heap.size + 2]? = some (.cells (ansC 0 (fnd now o.f1).isSome ((fnd now o.f1).getD 0) false 0 (.slice none 0 0) 0) 26 (0, 0)) := by
    have := heap_alloc_new (doW w o A c).drew (.cells (ansC 0 (fnd now o.f1).isSome ((fnd now o.f1).getD 0) false 0 (.slice none 0 0) 0) 26)
    rw [hs2] at this
    exact this
  have HS2 : (fun w' : World => w'.cell? ⟨gp, 2, none⟩ = some (.map (some bh)) ∧ w'.cell? ⟨w.heap.size, 4, none⟩ = some (.int .u64 o.f4) ∧ (Instr.lookup 98 (.map (some bh)) (.int .u64 o.f4) true).run Try.prog w' = .ok (.tuple #[vh, .bool (fnd held o.f4).isSome]) w') ((doW w o A c).drew.alloc (.cells (ansC 0 (fnd now o.f1).isSome ((fnd now o.f1).getD 0) false 0 (.slice none 0 0) 0) 26)).drew :=
    ⟨hP2.c2, by rw [blk_cell hop2]; rfl, hrunh⟩
  have hkd : ((doW w o A c).drew.alloc (.cells (ansC 0 (fnd now o.f1).isSome ((fnd now o.f1).getD 0) false 0 (.slice none 0 0) 0) 26)).drew.cell? ⟨w.heap.size, 0, none⟩ = some (.int .u8 8) := by rw [blk_cell hop2, ← hk]; rfl
  have HVH := Lib.hid hvh
  have HW2 := Lib.hid hW2
  have HP2 := Lib.hid hP2
  have HOP2 := Lib.hid hop2
  have HRA2 := Lib.hid hra2
  have HFA2 := Lib.hid hfa2
  have hfnd0 : (fnd now o.f1).isSome = (fnd now o.f1).isSome := rfl
  obtain ⟨fo, hfo⟩ : ∃ b : Bool, b = (fnd now o.f1).isSome := ⟨_, rfl⟩
  obtain ⟨fv, hfv⟩ : ∃ v : Int, v = (fnd now o.f1).getD 0 := ⟨_, rfl⟩
  obtain ⟨hd, hhd⟩ : ∃ b : Bool, b = (fnd held o.f4).isSome := ⟨_, rfl⟩
  rw [← hfo, ← hfv] at HS HS2 HW2 HP2 HOP2 HRA2 HFA2 hkd
  rw [← hhd] at HS2
  have HFO := Lib.hid hfo
  have HFV := Lib.hid hfv
  have HHD := Lib.hid hhd
  clear hM hF hO hh hb0 hP0 hvh hrunh hW2 hP2 hs2 hop2 hra2 hfa2 hfnd0 hfo hfv hhd
  obtain ⟨W1, hW1⟩ : ∃ W1, W1 = doW w o A c := ⟨_, rfl⟩
  have HW1 := Lib.hid hW1
  rw [← hW1] at HS HS2 HW2 HP2 HOP2 HRA2 HFA2 hkd
  go_enter Try.func15, Try.ntmps15
  go_wp2_with fail
  change Code.wp _ _ _ _ (doW w o A c)
  rw [← hW1]
  clear hW1
  go_region_held3 (fun w' => w'.cell? ⟨gp, 1, none⟩ = some (.map (some bn)) ∧ w'.cell? ⟨w.heap.size, 1, none⟩ = some (.int .u64 o.f1) ∧ (Instr.lookup 97 (.map (some bn)) (.int .u64 o.f1) true).run Try.prog w' = .ok (.tuple #[.int .u64 fv, .bool fo]) w')
    (first | go_keep | exact HS)
    (first | fail | fail)
  clear HS
  have hs1 : W1.heap.size = w.heap.size + 2 := by rw [HW1.out]; exact doW_size w o A c
  go_wp2_with fail
  obtain ⟨W2, hW2⟩ : ∃ W2, W2 = W1.drew.alloc (Obj.cells (ansC 0 fo fv false 0 (Value.slice none 0 0) 0) 26) := ⟨_, rfl⟩
  change Code.wp _ _ _ _ (W1.drew.alloc (Obj.cells (ansC 0 fo fv false 0 (Value.slice none 0 0) 0) 26))
  rw [← hW2] at HS2 HW2 HP2 HOP2 HRA2 HFA2 hkd ⊢
  clear hW2
  go_region_held3 (fun w' => w'.cell? ⟨gp, 2, none⟩ = some (.map (some bh)) ∧ w'.cell? ⟨w.heap.size, 4, none⟩ = some (.int .u64 o.f4) ∧ (Instr.lookup 98 (.map (some bh)) (.int .u64 o.f4) true).run Try.prog w' = .ok (.tuple #[vh, .bool hd]) w')
    (first | go_keep | exact HS2)
    (first | fail | fail)
  clear HS2
  obtain ⟨W, hW⟩ : ∃ W, W = W2.drew := ⟨_, rfl⟩
  rw [← hW] at HW2 HP2 HOP2 HRA2 HFA2 hkd ⊢
  clear hW
  obtain rfl : hd = false := by rw [HHD.out, hx]; rfl
  have HL3 := Lib.hid (left_same (K := fun k => k = bn ∨ k = bh) HM.out HF.out HW2.out (Nat.le_succ N))
  have HFA3 := HFA2
  have HRA3 := HRA2
  obtain ⟨l0, l1, l2, l3, l4, l5, l6⟩ := ans_cells HFA3.out
  go_wp2_with (first | ((with_reducible refine gate_store (t := 26) (p := 6) rfl ?_); refine wpList_store_row rfl 26 (.tmp 6) (.tmp 117) rfl (w.heap.size + 1) (ansC 33 false 0 false 0 (.slice none 0 0) 0) rfl rfl 26 _ HRA3.out (by kernel_rfl) rfl (ansC_one _ _ _ _ _ _ _ _ _) ?_))
  refine bodyPost_ret (res_ans rfl _ rfl (setRow_heap _ _ _ _ _ _ HRA3.out)) rfl ⟨.slice none 0 0, by rfl, Kd.R_nil _ _ _ _ _, HL3.out.row (by omega) HRA3.out hgl hnl hhl _⟩
end Go.Proofs.Ytngocadnbpdnoaa.Mo
namespace Go.Proofs.Ytngocadnbpdnoaa.Mo
open Go Go.Maps Go.RowKit Go.Proofs.Ytngocadnbpdnoaa.Srt Go.Proofs.Ytngocadnbpdnoaa.Q Go.Proofs.YtngocadnbpdnoaaW.PrintWords Go.Proofs.YtngocadnbpdnoaaW.PrintLast Go.Proofs.YtngocadnbpdnoaaW.PrintMore
set_option linter.unusedVariables false
set_option linter.unusedSimpArgs false
set_option maxRecDepth 100000 in
set_option maxHeartbeats 8000000 in
theorem do_ctNo (f : Nat → Option PL) (N gp bn bh : Nat) (multi : Int) (now : PL) (held : List (Int × PL)) (o : OpS) (A : Option Addr) (c : Nat) (hdl : Int) (w : World) (hM : PM w f N gp bn bh multi now held) (hF : Fro w f N) (hO : OpWf o) (hh : u64wf hdl) (hN : N ≤ 1099511627776) (hk : o.f0 = 9) (hx : fnd held o.f4 = none) :
    Calls Try.prog 15 #[.pointer (some ⟨gp, 0, none⟩), .agg (opC o A c), .int .u64 hdl] w (DoPost w f (N + 1) gp bn bh ⟨multi, now, held⟩ (errD 33)) := by
  have hgl := hM.gl
  have hnl := hM.now.lt
  have hhl := hM.held.1.lt
  have HM := Lib.hid hM
  have HF := Lib.hid hF
  have HO := Lib.hid hO
  have HU := Lib.hid hh
  have hb0 : Below w.heap.size w (doW w o A c).drew := below_drew (doW_below w o A c)
  have hP0 := hM.kept (Kept.of_below hb0 (fun _ => False)) (fun e => e) (fun e => e) (fun e => e)
  have HS : (fun w' : World => w'.cell? ⟨gp, 1, none⟩ = some (.map (some bn)) ∧ w'.cell? ⟨w.heap.size, 1, none⟩ = some (.int .u64 o.f1) ∧ (Instr.lookup 97 (.map (some bn)) (.int .u64 o.f1) true).run Try.prog w' = .ok (.tuple #[.int .u64 ((fnd now o.f1).getD 0), .bool (fnd now o.f1).isSome]) w') (doW w o A c).drew :=
    ⟨hP0.c1, by rw [blk_cell (w := (doW w o A c).drew) (doW_op w o A c)]; rfl, now_look hP0.now hO.key⟩
  obtain ⟨vh, hvh, hrunh⟩ := held_look (hM.held.kept (Kept.of_below (below_drew (below_alloc (below_drew (doW_below w o A c)) (.cells (ansC 0 (fnd now o.f1).isSome ((fnd now o.f1).getD 0) false 0 (.slice none 0 0) 0) 26))) (fun _ => False)) (fun e => e)) hO.han
  have hW2 : Below w.heap.size w ((doW w o A c).drew.alloc (.cells (ansC 0 (fnd now o.f1).isSome ((fnd now o.f1).getD 0) false 0 (.slice none 0 0) 0) 26)).drew := below_drew (below_alloc (below_drew (doW_below w o A c)) _)
  have hP2 := hM.kept (Kept.of_below hW2 (fun _ => False)) (fun e => e) (fun e => e) (fun e => e)
  have hs2 : (doW w o A c).drew.heap.size = w.heap.size + 2 := doW_size w o A c
  have hop2 : ((doW w o A c).drew.alloc (.cells (ansC 0 (fnd now o.f1).isSome ((fnd now o.f1).getD 0) false 0 (.slice none 0 0) 0) 26)).drew.heap[w.heap.size]? = some (.cells (opC o A c) 39 (0, 0)) := ((below_alloc (Below.refl _ (doW w o A c).drew) _).block _ (by rw [hs2]; omega)).trans (doW_op w o A c)
  have hra2 : ((doW w o A c).drew.alloc (.cells (ansC 0 (fnd now o.f1).isSome ((fnd now o.f1).getD 0) false 0 (.slice none 0 0) 0) 26)).drew.heap[w.heap.size + 1]? = some (.cells (ansC 0 false 0 false 0 (.slice none 0 0) 0) 26 (0, 0)) := ((below_alloc (Below.refl _ (doW w o A c).drew) _).block _ (by rw [hs2]; omega)).trans (doW_ans w o A c)
  have hfa2 : ((doW w o A c).drew.alloc (.cells (ansC 0 (fnd now o.f1).isSome ((fnd now o.f1).getD 0) false 0 (.slice none 0 0) 0) 26)).drew.heap[w.heap.size + 2]? = some (.cells (ansC 0 (fnd now o.f1).isSome ((fnd now o.f1).getD 0) false 0 (.slice none 0 0) 0) 26 (0, 0)) := by
    have := heap_alloc_new (doW w o A c).drew (.cells (ansC 0 (fnd now o.f1).isSome ((fnd now o.f1).getD 0) false 0 (.slice none 0 0) 0) 26)
    rw [hs2] at this
    exact this
  have HS2 : (fun w' : World => w'.cell? ⟨gp, 2, none⟩ = some (.map (some bh)) ∧ w'.cell? ⟨w.heap.size, 4, none⟩ = some (.int .u64 o.f4) ∧ (Instr.lookup 98 (.map (some bh)) (.int .u64 o.f4) true).run Try.prog w' = .ok (.tuple #[vh, .bool (fnd held o.f4).isSome]) w') ((doW w o A c).drew.alloc (.cells (ansC 0 (fnd now o.f1).isSome ((fnd now o.f1).getD 0) false 0 (.slice none 0 0) 0) 26)).drew :=
    ⟨hP2.c2, by rw [blk_cell hop2]; rfl, hrunh⟩
  have hkd : ((doW w o A c).drew.alloc (.cells (ansC 0 (fnd now o.f1).isSome ((fnd now o.f1).getD 0) false 0 (.slice none 0 0) 0) 26)).drew.cell? ⟨w.heap.size, 0, none⟩ = some (.int .u8 9) := by rw [blk_cell hop2, ← hk]; rfl
  have HVH := Lib.hid hvh
  have HW2 := Lib.hid hW2
  have HP2 := Lib.hid hP2
  have HOP2 := Lib.hid hop2
  have HRA2 := Lib.hid hra2
  have HFA2 := Lib.hid hfa2
  have hfnd0 : (fnd now o.f1).isSome = (fnd now o.f1).isSome := rfl
  obtain ⟨fo, hfo⟩ : ∃ b : Bool, b = (fnd now o.f1).isSome := ⟨_, rfl⟩
  obtain ⟨fv, hfv⟩ : ∃ v : Int, v = (fnd now o.f1).getD 0 := ⟨_, rfl⟩
  obtain ⟨hd, hhd⟩ : ∃ b : Bool, b = (fnd held o.f4).isSome := ⟨_, rfl⟩
  rw [← hfo, ← hfv] at HS HS2 HW2 HP2 HOP2 HRA2 HFA2 hkd
  rw [← hhd] at HS2
  have HFO := Lib.hid hfo
  have HFV := Lib.hid hfv
  have HHD := Lib.hid hhd
  clear hM hF hO hh hb0 hP0 hvh hrunh hW2 hP2 hs2 hop2 hra2 hfa2 hfnd0 hfo hfv hhd
  obtain ⟨W1, hW1⟩ : ∃ W1, W1 = doW w o A c := ⟨_, rfl⟩
  have HW1 := Lib.hid hW1
  rw [← hW1] at HS HS2 HW2 HP2 HOP2 HRA2 HFA2 hkd
  go_enter Try.func15, Try.ntmps15
  go_wp2_with fail
  change Code.wp _ _ _ _ (doW w o A c)
  rw [← hW1]
  clear hW1
  go_region_held3 (fun w' => w'.cell? ⟨gp, 1, none⟩ = some (.map (some bn)) ∧ w'.cell? ⟨w.heap.size, 1, none⟩ = some (.int .u64 o.f1) ∧ (Instr.lookup 97 (.map (some bn)) (.int .u64 o.f1) true).run Try.prog w' = .ok (.tuple #[.int .u64 fv, .bool fo]) w')
    (first | go_keep | exact HS)
    (first | fail | fail)
  clear HS
  have hs1 : W1.heap.size = w.heap.size + 2 := by rw [HW1.out]; exact doW_size w o A c
  go_wp2_with fail
  obtain ⟨W2, hW2⟩ : ∃ W2, W2 = W1.drew.alloc (Obj.cells (ansC 0 fo fv false 0 (Value.slice none 0 0) 0) 26) := ⟨_, rfl⟩
  change Code.wp _ _ _ _ (W1.drew.alloc (Obj.cells (ansC 0 fo fv false 0 (Value.slice none 0 0) 0) 26))
  rw [← hW2] at HS2 HW2 HP2 HOP2 HRA2 HFA2 hkd ⊢
  clear hW2
  go_region_held3 (fun w' => w'.cell? ⟨gp, 2, none⟩ = some (.map (some bh)) ∧ w'.cell? ⟨w.heap.size, 4, none⟩ = some (.int .u64 o.f4) ∧ (Instr.lookup 98 (.map (some bh)) (.int .u64 o.f4) true).run Try.prog w' = .ok (.tuple #[vh, .bool hd]) w')
    (first | go_keep | exact HS2)
    (first | fail | fail)
  clear HS2
  obtain ⟨W, hW⟩ : ∃ W, W = W2.drew := ⟨_, rfl⟩
  rw [← hW] at HW2 HP2 HOP2 HRA2 HFA2 hkd ⊢
  clear hW
  obtain rfl : hd = false := by rw [HHD.out, hx]; rfl
  have HL3 := Lib.hid (left_same (K := fun k => k = bn ∨ k = bh) HM.out HF.out HW2.out (Nat.le_succ N))
  have HFA3 := HFA2
  have HRA3 := HRA2
  obtain ⟨l0, l1, l2, l3, l4, l5, l6⟩ := ans_cells HFA3.out
  go_wp2_with (first | ((with_reducible refine gate_store (t := 26) (p := 6) rfl ?_); refine wpList_store_row rfl 26 (.tmp 6) (.tmp 117) rfl (w.heap.size + 1) (ansC 33 false 0 false 0 (.slice none 0 0) 0) rfl rfl 26 _ HRA3.out (by kernel_rfl) rfl (ansC_one _ _ _ _ _ _ _ _ _) ?_))
  refine bodyPost_ret (res_ans rfl _ rfl (setRow_heap _ _ _ _ _ _ HRA3.out)) rfl ⟨.slice none 0 0, by rfl, Kd.R_nil _ _ _ _ _, HL3.out.row (by omega) HRA3.out hgl hnl hhl _⟩
end Go.Proofs.Ytngocadnbpdnoaa.Mo
namespace Go.Proofs.Ytngocadnbpdnoaa.Mo
open Go Go.Maps Go.RowKit Go.Proofs.Ytngocadnbpdnoaa.Srt Go.Proofs.Ytngocadnbpdnoaa.Q Go.Proofs.YtngocadnbpdnoaaW.PrintWords Go.Proofs.YtngocadnbpdnoaaW.PrintLast Go.Proofs.YtngocadnbpdnoaaW.PrintMore
set_option linter.unusedVariables false
set_option linter.unusedSimpArgs false
set_option maxRecDepth 100000 in
set_option maxHeartbeats 8000000 in
theorem do_oth (f : Nat → Option PL) (N gp bn bh : Nat) (multi : Int) (now : PL) (held : List (Int × PL)) (o : OpS) (A : Option Addr) (c : Nat) (hdl : Int) (w : World) (hM : PM w f N gp bn bh multi now held) (hF : Fro w f N) (hO : OpWf o) (hh : u64wf hdl) (hN : N ≤ 1099511627776) (hk : True) (ho : ∀ k : Int, 1 ≤ k → k ≤ 10 → (o.f0 == k) = false) :
    Calls Try.prog 15 #[.pointer (some ⟨gp, 0, none⟩), .agg (opC o A c), .int .u64 hdl] w (DoPost w f (N + 1) gp bn bh ⟨multi, now, held⟩ (errD 160)) := by
  have hgl := hM.gl
  have hnl := hM.now.lt
  have hhl := hM.held.1.lt
  have HM := Lib.hid hM
  have HF := Lib.hid hF
  have HO := Lib.hid hO
  have HU := Lib.hid hh
  have hb0 : Below w.heap.size w (doW w o A c).drew := below_drew (doW_below w o A c)
  have hP0 := hM.kept (Kept.of_below hb0 (fun _ => False)) (fun e => e) (fun e => e) (fun e => e)
  have HS : (fun w' : World => w'.cell? ⟨gp, 1, none⟩ = some (.map (some bn)) ∧ w'.cell? ⟨w.heap.size, 1, none⟩ = some (.int .u64 o.f1) ∧ (Instr.lookup 97 (.map (some bn)) (.int .u64 o.f1) true).run Try.prog w' = .ok (.tuple #[.int .u64 ((fnd now o.f1).getD 0), .bool (fnd now o.f1).isSome]) w') (doW w o A c).drew :=
    ⟨hP0.c1, by rw [blk_cell (w := (doW w o A c).drew) (doW_op w o A c)]; rfl, now_look hP0.now hO.key⟩
  obtain ⟨vh, hvh, hrunh⟩ := held_look (hM.held.kept (Kept.of_below (below_drew (below_alloc (below_drew (doW_below w o A c)) (.cells (ansC 0 (fnd now o.f1).isSome ((fnd now o.f1).getD 0) false 0 (.slice none 0 0) 0) 26))) (fun _ => False)) (fun e => e)) hO.han
  have hW2 : Below w.heap.size w ((doW w o A c).drew.alloc (.cells (ansC 0 (fnd now o.f1).isSome ((fnd now o.f1).getD 0) false 0 (.slice none 0 0) 0) 26)).drew := below_drew (below_alloc (below_drew (doW_below w o A c)) _)
  have hP2 := hM.kept (Kept.of_below hW2 (fun _ => False)) (fun e => e) (fun e => e) (fun e => e)
  have hs2 : (doW w o A c).drew.heap.size = w.heap.size + 2 := doW_size w o A c
  have hop2 : ((doW w o A c).drew.alloc (.cells (ansC 0 (fnd now o.f1).isSome ((fnd now o.f1).getD 0) false 0 (.slice none 0 0) 0) 26)).drew.heap[w.heap.size]? = some (.cells (opC o A c) 39 (0, 0)) := ((below_alloc (Below.refl _ (doW w o A c).drew) _).block _ (by rw [hs2]; omega)).trans (doW_op w o A c)
  have hra2 : ((doW w o A c).drew.alloc (.cells (ansC 0 (fnd now o.f1).isSome ((fnd now o.f1).getD 0) false 0 (.slice none 0 0) 0) 26)).drew.heap[w.heap.size + 1]? = some (.cells (ansC 0 false 0 false 0 (.slice none 0 0) 0) 26 (0, 0)) := ((below_alloc (Below.refl _ (doW w o A c).drew) _).block _ (by rw [hs2]; omega)).trans (doW_ans w o A c)
  have hfa2 : ((doW w o A c).drew.alloc (.cells (ansC 0 (fnd now o.f1).isSome ((fnd now o.f1).getD 0) false 0 (.slice none 0 0) 0) 26)).drew.heap[w.heap.size + 2]? = some (.cells (ansC 0 (fnd now o.f1).isSome ((fnd now o.f1).getD 0) false 0 (.slice none 0 0) 0) 26 (0, 0)) := by
    have := heap_alloc_new (doW w o A c).drew (.cells (ansC 0 (fnd now o.f1).isSome ((fnd now o.f1).getD 0) false 0 (.slice none 0 0) 0) 26)
    rw [hs2] at this
    exact this
  have HS2 : (fun w' : World => w'.cell? ⟨gp, 2, none⟩ = some (.map (some bh)) ∧ w'.cell? ⟨w.heap.size, 4, none⟩ = some (.int .u64 o.f4) ∧ (Instr.lookup 98 (.map (some bh)) (.int .u64 o.f4) true).run Try.prog w' = .ok (.tuple #[vh, .bool (fnd held o.f4).isSome]) w') ((doW w o A c).drew.alloc (.cells (ansC 0 (fnd now o.f1).isSome ((fnd now o.f1).getD 0) false 0 (.slice none 0 0) 0) 26)).drew :=
    ⟨hP2.c2, by rw [blk_cell hop2]; rfl, hrunh⟩
  have hkd : ((doW w o A c).drew.alloc (.cells (ansC 0 (fnd now o.f1).isSome ((fnd now o.f1).getD 0) false 0 (.slice none 0 0) 0) 26)).drew.cell? ⟨w.heap.size, 0, none⟩ = some (.int .u8 o.f0) := by rw [blk_cell hop2]; rfl
  have HVH := Lib.hid hvh
  have HW2 := Lib.hid hW2
  have HP2 := Lib.hid hP2
  have HOP2 := Lib.hid hop2
  have HRA2 := Lib.hid hra2
  have HFA2 := Lib.hid hfa2
  have hfnd0 : (fnd now o.f1).isSome = (fnd now o.f1).isSome := rfl
  obtain ⟨fo, hfo⟩ : ∃ b : Bool, b = (fnd now o.f1).isSome := ⟨_, rfl⟩
  obtain ⟨fv, hfv⟩ : ∃ v : Int, v = (fnd now o.f1).getD 0 := ⟨_, rfl⟩
  obtain ⟨hd, hhd⟩ : ∃ b : Bool, b = (fnd held o.f4).isSome := ⟨_, rfl⟩
  rw [← hfo, ← hfv] at HS HS2 HW2 HP2 HOP2 HRA2 HFA2 hkd
  rw [← hhd] at HS2
  have HFO := Lib.hid hfo
  have HFV := Lib.hid hfv
  have HHD := Lib.hid hhd
  clear hM hF hO hh hb0 hP0 hvh hrunh hW2 hP2 hs2 hop2 hra2 hfa2 hfnd0 hfo hfv hhd
  obtain ⟨W1, hW1⟩ : ∃ W1, W1 = doW w o A c := ⟨_, rfl⟩
  have HW1 := Lib.hid hW1
  rw [← hW1] at HS HS2 HW2 HP2 HOP2 HRA2 HFA2 hkd
  go_enter Try.func15, Try.ntmps15
  go_wp2_with fail
  change Code.wp _ _ _ _ (doW w o A c)
  rw [← hW1]
  clear hW1
  go_region_held3 (fun w' => w'.cell? ⟨gp, 1, none⟩ = some (.map (some bn)) ∧ w'.cell? ⟨w.heap.size, 1, none⟩ = some (.int .u64 o.f1) ∧ (Instr.lookup 97 (.map (some bn)) (.int .u64 o.f1) true).run Try.prog w' = .ok (.tuple #[.int .u64 fv, .bool fo]) w')
    (first | go_keep | exact HS)
    (first | fail | fail)
  clear HS
  have hs1 : W1.heap.size = w.heap.size + 2 := by rw [HW1.out]; exact doW_size w o A c
  go_wp2_with fail
  obtain ⟨W2, hW2⟩ : ∃ W2, W2 = W1.drew.alloc (Obj.cells (ansC 0 fo fv false 0 (Value.slice none 0 0) 0) 26) := ⟨_, rfl⟩
  change Code.wp _ _ _ _ (W1.drew.alloc (Obj.cells (ansC 0 fo fv false 0 (Value.slice none 0 0) 0) 26))
  rw [← hW2] at HS2 HW2 HP2 HOP2 HRA2 HFA2 hkd ⊢
  clear hW2
  go_region_held3 (fun w' => w'.cell? ⟨gp, 2, none⟩ = some (.map (some bh)) ∧ w'.cell? ⟨w.heap.size, 4, none⟩ = some (.int .u64 o.f4) ∧ (Instr.lookup 98 (.map (some bh)) (.int .u64 o.f4) true).run Try.prog w' = .ok (.tuple #[vh, .bool hd]) w')
    (first | go_keep | exact HS2)
    (first | fail | fail)
  clear HS2
  obtain ⟨W, hW⟩ : ∃ W, W = W2.drew := ⟨_, rfl⟩
  rw [← hW] at HW2 HP2 HOP2 HRA2 HFA2 hkd ⊢
  clear hW
  have q1 := ho 1 (by omega) (by omega)
  have q2 := ho 2 (by omega) (by omega)
  have q3 := ho 3 (by omega) (by omega)
  have q4 := ho 4 (by omega) (by omega)
  have q5 := ho 5 (by omega) (by omega)
  have q6 := ho 6 (by omega) (by omega)
  have q7 := ho 7 (by omega) (by omega)
  have q8 := ho 8 (by omega) (by omega)
  have q9 := ho 9 (by omega) (by omega)
  have q10 := ho 10 (by omega) (by omega)
  clear ho hk
  have HL3 := Lib.hid (left_same (K := fun k => k = bn ∨ k = bh) HM.out HF.out HW2.out (Nat.le_succ N))
  have HFA3 := HFA2
  have HRA3 := HRA2
  obtain ⟨l0, l1, l2, l3, l4, l5, l6⟩ := ans_cells HFA3.out
  go_wp2_with (first | ((with_reducible refine gate_store (t := 26) (p := 6) rfl ?_); refine wpList_store_row rfl 26 (.tmp 6) (.tmp 122) rfl (w.heap.size + 1) (ansC 160 false 0 false 0 (.slice none 0 0) 0) rfl rfl 26 _ HRA3.out (by kernel_rfl) rfl (ansC_one _ _ _ _ _ _ _ _ _) ?_))
  refine bodyPost_ret (res_ans rfl _ rfl (setRow_heap _ _ _ _ _ _ HRA3.out)) rfl ⟨.slice none 0 0, by rfl, Kd.R_nil _ _ _ _ _, HL3.out.row (by omega) HRA3.out hgl hnl hhl _⟩
end Go.Proofs.Ytngocadnbpdnoaa.Mo
namespace Go.Proofs.Ytngocadnbpdnoaa.Mo
open Go Go.Maps Go.RowKit Go.Proofs.Ytngocadnbpdnoaa.Srt Go.Proofs.Ytngocadnbpdnoaa.Q Go.Proofs.YtngocadnbpdnoaaW.PrintWords Go.Proofs.YtngocadnbpdnoaaW.PrintLast Go.Proofs.YtngocadnbpdnoaaW.PrintMore
set_option linter.unusedVariables false
set_option linter.unusedSimpArgs false
set_option maxRecDepth 100000 in
set_option maxHeartbeats 8000000 in
theorem do_ctYes (f : Nat → Option PL) (N gp bn bh : Nat) (multi : Int) (now : PL) (held : List (Int × PL)) (o : OpS) (A : Option Addr) (c : Nat) (hdl : Int) (w : World) (hM : PM w f N gp bn bh multi now held) (hF : Fro w f N) (hO : OpWf o) (hh : u64wf hdl) (hN : N ≤ 1099511627776) (hk : o.f0 = 9) (hl : PL) (hx : fnd held o.f4 = some hl) :
    Calls Try.prog 15 #[.pointer (some ⟨gp, 0, none⟩), .agg (opC o A c), .int .u64 hdl] w (DoPost w f (N + 1) gp bn bh ⟨multi, now, held⟩ ⟨0, false, 0, false, 0, [], ((toS (within o.f7 o.f8 hl)).length : Int)⟩) := by
  have hgl := hM.gl
  have hnl := hM.now.lt
  have hhl := hM.held.1.lt
  have HM := Lib.hid hM
  have HF := Lib.hid hF
  have HO := Lib.hid hO
  have HU := Lib.hid hh
  have hb0 : Below w.heap.size w (doW w o A c).drew := below_drew (doW_below w o A c)
  have hP0 := hM.kept (Kept.of_below hb0 (fun _ => False)) (fun e => e) (fun e => e) (fun e => e)
  have HS : (fun w' : World => w'.cell? ⟨gp, 1, none⟩ = some (.map (some bn)) ∧ w'.cell? ⟨w.heap.size, 1, none⟩ = some (.int .u64 o.f1) ∧ (Instr.lookup 97 (.map (some bn)) (.int .u64 o.f1) true).run Try.prog w' = .ok (.tuple #[.int .u64 ((fnd now o.f1).getD 0), .bool (fnd now o.f1).isSome]) w') (doW w o A c).drew :=
    ⟨hP0.c1, by rw [blk_cell (w := (doW w o A c).drew) (doW_op w o A c)]; rfl, now_look hP0.now hO.key⟩
  obtain ⟨vh, hvh, hrunh⟩ := held_look (hM.held.kept (Kept.of_below (below_drew (below_alloc (below_drew (doW_below w o A c)) (.cells (ansC 0 (fnd now o.f1).isSome ((fnd now o.f1).getD 0) false 0 (.slice none 0 0) 0) 26))) (fun _ => False)) (fun e => e)) hO.han
  have hW2 : Below w.heap.size w ((doW w o A c).drew.alloc (.cells (ansC 0 (fnd now o.f1).isSome ((fnd now o.f1).getD 0) false 0 (.slice none 0 0) 0) 26)).drew := below_drew (below_alloc (below_drew (doW_below w o A c)) _)
  have hP2 := hM.kept (Kept.of_below hW2 (fun _ => False)) (fun e => e) (fun e => e) (fun e => e)
  have hs2 : (doW w o A c).drew.heap.size = w.heap.size + 2 := doW_size w o A c
  have hop2 : ((doW w o A c).drew.alloc (.cells (ansC 0 (fnd now o.f1).isSome ((fnd now o.f1).getD 0) false 0 (.slice none 0 0) 0) 26)).drew.heap[w.heap.size]? = some (.cells (opC o A c) 39 (0, 0)) := ((below_alloc (Below.refl _ (doW w o A c).drew) _).block _ (by rw [hs2]; omega)).trans (doW_op w o A c)
  have hra2 : ((doW w o A c).drew.alloc (.cells (ansC 0 (fnd now o.f1).isSome ((fnd now o.f1).getD 0) false 0 (.slice none 0 0) 0) 26)).drew.heap[w.heap.size + 1]? = some (.cells (ansC 0 false 0 false 0 (.slice none 0 0) 0) 26 (0, 0)) := ((below_alloc (Below.refl _ (doW w o A c).drew) _).block _ (by rw [hs2]; omega)).trans (doW_ans w o A c)
  have hfa2 : ((doW w o A c).drew.alloc (.cells (ansC 0 (fnd now o.f1).isSome ((fnd now o.f1).getD 0) false 0 (.slice none 0 0) 0) 26)).drew.heap[w.heap.size + 2]? = some (.cells (ansC 0 (fnd now o.f1).isSome ((fnd now o.f1).getD 0) false 0 (.slice none 0 0) 0) 26 (0, 0)) := by
    have := heap_alloc_new (doW w o A c).drew (.cells (ansC 0 (fnd now o.f1).isSome ((fnd now o.f1).getD 0) false 0 (.slice none 0 0) 0) 26)
    rw [hs2] at this
    exact this
  have HS2 : (fun w' : World => w'.cell? ⟨gp, 2, none⟩ = some (.map (some bh)) ∧ w'.cell? ⟨w.heap.size, 4, none⟩ = some (.int .u64 o.f4) ∧ (Instr.lookup 98 (.map (some bh)) (.int .u64 o.f4) true).run Try.prog w' = .ok (.tuple #[vh, .bool (fnd held o.f4).isSome]) w') ((doW w o A c).drew.alloc (.cells (ansC 0 (fnd now o.f1).isSome ((fnd now o.f1).getD 0) false 0 (.slice none 0 0) 0) 26)).drew :=
    ⟨hP2.c2, by rw [blk_cell hop2]; rfl, hrunh⟩
  have hkd : ((doW w o A c).drew.alloc (.cells (ansC 0 (fnd now o.f1).isSome ((fnd now o.f1).getD 0) false 0 (.slice none 0 0) 0) 26)).drew.cell? ⟨w.heap.size, 0, none⟩ = some (.int .u8 9) := by rw [blk_cell hop2, ← hk]; rfl
  have HVH := Lib.hid hvh
  have HW2 := Lib.hid hW2
  have HP2 := Lib.hid hP2
  have HOP2 := Lib.hid hop2
  have HRA2 := Lib.hid hra2
  have HFA2 := Lib.hid hfa2
  have hfnd0 : (fnd now o.f1).isSome = (fnd now o.f1).isSome := rfl
  obtain ⟨fo, hfo⟩ : ∃ b : Bool, b = (fnd now o.f1).isSome := ⟨_, rfl⟩
  obtain ⟨fv, hfv⟩ : ∃ v : Int, v = (fnd now o.f1).getD 0 := ⟨_, rfl⟩
  obtain ⟨hd, hhd⟩ : ∃ b : Bool, b = (fnd held o.f4).isSome := ⟨_, rfl⟩
  rw [← hfo, ← hfv] at HS HS2 HW2 HP2 HOP2 HRA2 HFA2 hkd
  rw [← hhd] at HS2
  have HFO := Lib.hid hfo
  have HFV := Lib.hid hfv
  have HHD := Lib.hid hhd
  clear hM hF hO hh hb0 hP0 hvh hrunh hW2 hP2 hs2 hop2 hra2 hfa2 hfnd0 hfo hfv hhd
  obtain ⟨W1, hW1⟩ : ∃ W1, W1 = doW w o A c := ⟨_, rfl⟩
  have HW1 := Lib.hid hW1
  rw [← hW1] at HS HS2 HW2 HP2 HOP2 HRA2 HFA2 hkd
  go_enter Try.func15, Try.ntmps15
  go_wp2_with fail
  change Code.wp _ _ _ _ (doW w o A c)
  rw [← hW1]
  clear hW1
  go_region_held3 (fun w' => w'.cell? ⟨gp, 1, none⟩ = some (.map (some bn)) ∧ w'.cell? ⟨w.heap.size, 1, none⟩ = some (.int .u64 o.f1) ∧ (Instr.lookup 97 (.map (some bn)) (.int .u64 o.f1) true).run Try.prog w' = .ok (.tuple #[.int .u64 fv, .bool fo]) w')
    (first | go_keep | exact HS)
    (first | fail | fail)
  clear HS
  have hs1 : W1.heap.size = w.heap.size + 2 := by rw [HW1.out]; exact doW_size w o A c
  go_wp2_with fail
  obtain ⟨W2, hW2⟩ : ∃ W2, W2 = W1.drew.alloc (Obj.cells (ansC 0 fo fv false 0 (Value.slice none 0 0) 0) 26) := ⟨_, rfl⟩
  change Code.wp _ _ _ _ (W1.drew.alloc (Obj.cells (ansC 0 fo fv false 0 (Value.slice none 0 0) 0) 26))
  rw [← hW2] at HS2 HW2 HP2 HOP2 HRA2 HFA2 hkd ⊢
  clear hW2
  go_region_held3 (fun w' => w'.cell? ⟨gp, 2, none⟩ = some (.map (some bh)) ∧ w'.cell? ⟨w.heap.size, 4, none⟩ = some (.int .u64 o.f4) ∧ (Instr.lookup 98 (.map (some bh)) (.int .u64 o.f4) true).run Try.prog w' = .ok (.tuple #[vh, .bool hd]) w')
    (first | go_keep | exact HS2)
    (first | fail | fail)
  clear HS2
  obtain ⟨W, hW⟩ : ∃ W, W = W2.drew := ⟨_, rfl⟩
  rw [← hW] at HW2 HP2 HOP2 HRA2 HFA2 hkd ⊢
  clear hW
  obtain rfl : hd = true := by rw [HHD.out, hx]; rfl
  obtain ⟨b, rfl, hfb⟩ : ∃ b, vh = .map (some b) ∧ f b = some hl := by
    rcases HVH.out with ⟨h1, _⟩ | ⟨b, l, h1, h2, h3⟩
    · rw [hx] at h1; cases h1
    · rw [hx] at h1; cases h1; exact ⟨b, h2, h3⟩
  have HMB := Lib.hid ((HF.out b hl hfb).below HW2.out)
  have hhlen : hl.length ≤ 1099511627776 := Nat.le_trans (HF.out b hl hfb).len hN
  clear hfb HVH hx
  have HWZ := HW2
  go_upto_region 35 with fail
  have HKD := Lib.hid hk
  clear hk hkd
  obtain ⟨q0, q1, q2, q3, q4, q5, q6, q7, q8, q9, q10⟩ := op_cells HOP2.out
  have hzW := blk_lt HRA2.out
  go_wp2_with (first
    | (go_at_call 37
       refine (query_ct o A c b N hl W HMB.out hhlen HKD.out).mono ?_
       rintro e w3 ⟨ps, rfl, hR, hB⟩
       obtain ⟨A3, c3, rfl⟩ := Kd.R_slice hR
       unfold ansV
       have HB3 := Lib.hid (HWZ.out.trans (hB.mono HWZ.out.size))
       have HRA3 : Hid (w3.heap[w.heap.size + 1]? = some (Obj.cells (ansC 0 false 0 false 0 (.slice none 0 0) 0) 26 (0, 0))) := Lib.hid ((hB.block _ hzW).trans HRA2.out)
       have HL3 := Lib.hid (left_same (K := fun k => k = bn ∨ k = bh) HM.out HF.out HB3.out (Nat.le_succ N))
       have HR3 := Lib.hid (Kd.R_lower (Kd.R_mono (Kd.R_bound hR) (fun k hk => hk.2.1)) HWZ.out.size)
       clear hR hB)
    | ((with_reducible refine gate_store (t := 26) (p := 6) rfl ?_); refine wpList_store_row rfl 26 (.tmp 6) (.tmp 120) rfl (w.heap.size + 1) (ansC 0 false 0 false 0 (.slice A3 (toS []).length c3) ((toS (within o.f7 o.f8 hl)).length : Int)) rfl rfl 26 _ HRA3.out (by kernel_rfl) rfl (ansC_one _ _ _ _ _ _ _ _ _) ?_))
  refine bodyPost_ret (res_ans rfl _ rfl (setRow_heap _ _ _ _ _ _ HRA3.out)) rfl ⟨_, rfl, Kd.R_mono (Kd.R_kept HR3.out (Kept_row w3 (w.heap.size + 1) _) (fun k hk e => by have hk' : W.heap.size ≤ k := hk; omega)) (fun _ _ => trivial), HL3.out.row (by omega) HRA3.out hgl hnl hhl _⟩
end Go.Proofs.Ytngocadnbpdnoaa.Mo
namespace Go.Proofs.Ytngocadnbpdnoaa.Mo
open Go Go.Maps Go.RowKit Go.Proofs.Ytngocadnbpdnoaa.Srt Go.Proofs.Ytngocadnbpdnoaa.Q Go.Proofs.YtngocadnbpdnoaaW.PrintWords Go.Proofs.YtngocadnbpdnoaaW.PrintLast Go.Proofs.YtngocadnbpdnoaaW.PrintMore
set_option linter.unusedVariables false
set_option linter.unusedSimpArgs false
set_option maxRecDepth 100000 in
set_option maxHeartbeats 8000000 in
theorem do_rgYesS (f : Nat → Option PL) (N gp bn bh : Nat) (multi : Int) (now : PL) (held : List (Int × PL)) (o : OpS) (A : Option Addr) (c : Nat) (hdl : Int) (w : World) (hM : PM w f N gp bn bh multi now held) (hF : Fro w f N) (hO : OpWf o) (hh : u64wf hdl) (hN : N ≤ 1099511627776) (hk : o.f0 = 8) (hl : PL) (hx : fnd held o.f4 = some hl) (hne : within o.f7 o.f8 hl ≠ []) :
    Calls Try.prog 15 #[.pointer (some ⟨gp, 0, none⟩), .agg (opC o A c), .int .u64 hdl] w (DoPost w f (N + 1) gp bn bh ⟨multi, now, held⟩ ⟨0, false, 0, false, 0, within o.f7 o.f8 hl, 0⟩) := by
  have hgl := hM.gl
  have hnl := hM.now.lt
  have hhl := hM.held.1.lt
  have HM := Lib.hid hM
  have HF := Lib.hid hF
  have HO := Lib.hid hO
  have HU := Lib.hid hh
  have hb0 : Below w.heap.size w (doW w o A c).drew := below_drew (doW_below w o A c)
  have hP0 := hM.kept (Kept.of_below hb0 (fun _ => False)) (fun e => e) (fun e => e) (fun e => e)
  have HS : (fun w' : World => w'.cell? ⟨gp, 1, none⟩ = some (.map (some bn)) ∧ w'.cell? ⟨w.heap.size, 1, none⟩ = some (.int .u64 o.f1) ∧ (Instr.lookup 97 (.map (some bn)) (.int .u64 o.f1) true).run Try.prog w' = .ok (.tuple #[.int .u64 ((fnd now o.f1).getD 0), .bool (fnd now o.f1).isSome]) w') (doW w o A c).drew :=
    ⟨hP0.c1, by rw [blk_cell (w := (doW w o A c).drew) (doW_op w o A c)]; rfl, now_look hP0.now hO.key⟩
  obtain ⟨vh, hvh, hrunh⟩ := held_look (hM.held.kept (Kept.of_below (below_drew (below_alloc (below_drew (doW_below w o A c)) (.cells (ansC 0 (fnd now o.f1).isSome ((fnd now o.f1).getD 0) false 0 (.slice none 0 0) 0) 26))) (fun _ => False)) (fun e => e)) hO.han
  have hW2 : Below w.heap.size w ((doW w o A c).drew.alloc (.cells (ansC 0 (fnd now o.f1).isSome ((fnd now o.f1).getD 0) false 0 (.slice none 0 0) 0) 26)).drew := below_drew (below_alloc (below_drew (doW_below w o A c)) _)
  have hP2 := hM.kept (Kept.of_below hW2 (fun _ => False)) (fun e => e) (fun e => e) (fun e => e)
  have hs2 : (doW w o A c).drew.heap.size = w.heap.size + 2 := doW_size w o A c
  have hop2 : ((doW w o A c).drew.alloc (.cells (ansC 0 (fnd now o.f1).isSome ((fnd now o.f1).getD 0) false 0 (.slice none 0 0) 0) 26)).drew.heap[w.heap.size]? = some (.cells (opC o A c) 39 (0, 0)) := ((below_alloc (Below.refl _ (doW w o A c).drew) _).block _ (by rw [hs2]; omega)).trans (doW_op w o A c)
  have hra2 : ((doW w o A c).drew.alloc (.cells (ansC 0 (fnd now o.f1).isSome ((fnd now o.f1).getD 0) false 0 (.slice none 0 0) 0) 26)).drew.heap[w.heap.size + 1]? = some (.cells (ansC 0 false 0 false 0 (.slice none 0 0) 0) 26 (0, 0)) := ((below_alloc (Below.refl _ (doW w o A c).drew) _).block _ (by rw [hs2]; omega)).trans (doW_ans w o A c)
  have hfa2 : ((doW w o A c).drew.alloc (.cells (ansC 0 (fnd now o.f1).isSome ((fnd now o.f1).getD 0) false 0 (.slice none 0 0) 0) 26)).drew.heap[w.heap.size + 2]? = some (.cells (ansC 0 (fnd now o.f1).isSome ((fnd now o.f1).getD 0) false 0 (.slice none 0 0) 0) 26 (0, 0)) := by
    have := heap_alloc_new (doW w o A c).drew (.cells (ansC 0 (fnd now o.f1).isSome ((fnd now o.f1).getD 0) false 0 (.slice none 0 0) 0) 26)
    rw [hs2] at this
    exact this
  have HS2 : (fun w' : World => w'.cell? ⟨gp, 2, none⟩ = some (.map (some bh)) ∧ w'.cell? ⟨w.heap.size, 4, none⟩ = some (.int .u64 o.f4) ∧ (Instr.lookup 98 (.map (some bh)) (.int .u64 o.f4) true).run Try.prog w' = .ok (.tuple #[vh, .bool (fnd held o.f4).isSome]) w') ((doW w o A c).drew.alloc (.cells (ansC 0 (fnd now o.f1).isSome ((fnd now o.f1).getD 0) false 0 (.slice none 0 0) 0) 26)).drew :=
    ⟨hP2.c2, by rw [blk_cell hop2]; rfl, hrunh⟩
  have hkd : ((doW w o A c).drew.alloc (.cells (ansC 0 (fnd now o.f1).isSome ((fnd now o.f1).getD 0) false 0 (.slice none 0 0) 0) 26)).drew.cell? ⟨w.heap.size, 0, none⟩ = some (.int .u8 8) := by rw [blk_cell hop2, ← hk]; rfl
  have HVH := Lib.hid hvh
  have HW2 := Lib.hid hW2
  have HP2 := Lib.hid hP2
  have HOP2 := Lib.hid hop2
  have HRA2 := Lib.hid hra2
  have HFA2 := Lib.hid hfa2
  have hfnd0 : (fnd now o.f1).isSome = (fnd now o.f1).isSome := rfl
  obtain ⟨fo, hfo⟩ : ∃ b : Bool, b = (fnd now o.f1).isSome := ⟨_, rfl⟩
  obtain ⟨fv, hfv⟩ : ∃ v : Int, v = (fnd now o.f1).getD 0 := ⟨_, rfl⟩
  obtain ⟨hd, hhd⟩ : ∃ b : Bool, b = (fnd held o.f4).isSome := ⟨_, rfl⟩
  rw [← hfo, ← hfv] at HS HS2 HW2 HP2 HOP2 HRA2 HFA2 hkd
  rw [← hhd] at HS2
  have HFO := Lib.hid hfo
  have HFV := Lib.hid hfv
  have HHD := Lib.hid hhd
  clear hM hF hO hh hb0 hP0 hvh hrunh hW2 hP2 hs2 hop2 hra2 hfa2 hfnd0 hfo hfv hhd
  obtain ⟨W1, hW1⟩ : ∃ W1, W1 = doW w o A c := ⟨_, rfl⟩
  have HW1 := Lib.hid hW1
  rw [← hW1] at HS HS2 HW2 HP2 HOP2 HRA2 HFA2 hkd
  go_enter Try.func15, Try.ntmps15
  go_wp2_with fail
  change Code.wp _ _ _ _ (doW w o A c)
  rw [← hW1]
  clear hW1
  go_region_held3 (fun w' => w'.cell? ⟨gp, 1, none⟩ = some (.map (some bn)) ∧ w'.cell? ⟨w.heap.size, 1, none⟩ = some (.int .u64 o.f1) ∧ (Instr.lookup 97 (.map (some bn)) (.int .u64 o.f1) true).run Try.prog w' = .ok (.tuple #[.int .u64 fv, .bool fo]) w')
    (first | go_keep | exact HS)
    (first | fail | fail)
  clear HS
  have hs1 : W1.heap.size = w.heap.size + 2 := by rw [HW1.out]; exact doW_size w o A c
  go_wp2_with fail
  obtain ⟨W2, hW2⟩ : ∃ W2, W2 = W1.drew.alloc (Obj.cells (ansC 0 fo fv false 0 (Value.slice none 0 0) 0) 26) := ⟨_, rfl⟩
  change Code.wp _ _ _ _ (W1.drew.alloc (Obj.cells (ansC 0 fo fv false 0 (Value.slice none 0 0) 0) 26))
  rw [← hW2] at HS2 HW2 HP2 HOP2 HRA2 HFA2 hkd ⊢
  clear hW2
  go_region_held3 (fun w' => w'.cell? ⟨gp, 2, none⟩ = some (.map (some bh)) ∧ w'.cell? ⟨w.heap.size, 4, none⟩ = some (.int .u64 o.f4) ∧ (Instr.lookup 98 (.map (some bh)) (.int .u64 o.f4) true).run Try.prog w' = .ok (.tuple #[vh, .bool hd]) w')
    (first | go_keep | exact HS2)
    (first | fail | fail)
  clear HS2
  obtain ⟨W, hW⟩ : ∃ W, W = W2.drew := ⟨_, rfl⟩
  rw [← hW] at HW2 HP2 HOP2 HRA2 HFA2 hkd ⊢
  clear hW
  have HNE := Lib.hid hne
  clear hne
  obtain rfl : hd = true := by rw [HHD.out, hx]; rfl
  obtain ⟨b, rfl, hfb⟩ : ∃ b, vh = .map (some b) ∧ f b = some hl := by
    rcases HVH.out with ⟨h1, _⟩ | ⟨b, l, h1, h2, h3⟩
    · rw [hx] at h1; cases h1
    · rw [hx] at h1; cases h1; exact ⟨b, h2, h3⟩
  have HMB := Lib.hid ((HF.out b hl hfb).below HW2.out)
  have hhlen : hl.length ≤ 1099511627776 := Nat.le_trans (HF.out b hl hfb).len hN
  clear hfb HVH hx
  have HWZ := HW2
  go_upto_region 35 with fail
  have HKD := Lib.hid hk
  clear hk hkd
  obtain ⟨q0, q1, q2, q3, q4, q5, q6, q7, q8, q9, q10⟩ := op_cells HOP2.out
  have hzW := blk_lt HRA2.out
  go_wp2_with (first
    | (go_at_call 37
       refine (query_rgS o A c b N hl W HMB.out hhlen (by rw [HKD.out]; decide) (by rw [HKD.out]; decide) HNE.out).mono ?_
       rintro e w3 ⟨ps, rfl, hR, hB⟩
       obtain ⟨A3, c3, rfl⟩ := Kd.R_slice hR
       unfold ansV
       have HB3 := Lib.hid (HWZ.out.trans (hB.mono HWZ.out.size))
       have HRA3 : Hid (w3.heap[w.heap.size + 1]? = some (Obj.cells (ansC 0 false 0 false 0 (.slice none 0 0) 0) 26 (0, 0))) := Lib.hid ((hB.block _ hzW).trans HRA2.out)
       have HL3 := Lib.hid (left_same (K := fun k => k = bn ∨ k = bh) HM.out HF.out HB3.out (Nat.le_succ N))
       have HR3 := Lib.hid (Kd.R_lower (Kd.R_mono (Kd.R_bound hR) (fun k hk => hk.2.1)) HWZ.out.size)
       clear hR hB)
    | ((with_reducible refine gate_store (t := 26) (p := 6) rfl ?_); refine wpList_store_row rfl 26 (.tmp 6) (.tmp 120) rfl (w.heap.size + 1) (ansC 0 false 0 false 0 (.slice A3 (toS (within o.f7 o.f8 hl)).length c3) 0) rfl rfl 26 _ HRA3.out (by kernel_rfl) rfl (ansC_one _ _ _ _ _ _ _ _ _) ?_))
  refine bodyPost_ret (res_ans rfl _ rfl (setRow_heap _ _ _ _ _ _ HRA3.out)) rfl ⟨_, rfl, Kd.R_mono (Kd.R_kept HR3.out (Kept_row w3 (w.heap.size + 1) _) (fun k hk e => by have hk' : W.heap.size ≤ k := hk; omega)) (fun _ _ => trivial), HL3.out.row (by omega) HRA3.out hgl hnl hhl _⟩
end Go.Proofs.Ytngocadnbpdnoaa.Mo
namespace Go.Proofs.Ytngocadnbpdnoaa.Mo
open Go Go.Maps Go.RowKit Go.Proofs.Ytngocadnbpdnoaa.Srt Go.Proofs.Ytngocadnbpdnoaa.Q Go.Proofs.YtngocadnbpdnoaaW.PrintWords Go.Proofs.YtngocadnbpdnoaaW.PrintLast Go.Proofs.YtngocadnbpdnoaaW.PrintMore
set_option linter.unusedVariables false
set_option linter.unusedSimpArgs false
set_option maxRecDepth 100000 in
set_option maxHeartbeats 8000000 in
theorem do_rgYesE (f : Nat → Option PL) (N gp bn bh : Nat) (multi : Int) (now : PL) (held : List (Int × PL)) (o : OpS) (A : Option Addr) (c : Nat) (hdl : Int) (w : World) (hM : PM w f N gp bn bh multi now held) (hF : Fro w f N) (hO : OpWf o) (hh : u64wf hdl) (hN : N ≤ 1099511627776) (hk : o.f0 = 8) (hl : PL) (hx : fnd held o.f4 = some hl) (hne : within o.f7 o.f8 hl = []) :
    Calls Try.prog 15 #[.pointer (some ⟨gp, 0, none⟩), .agg (opC o A c), .int .u64 hdl] w (DoPost w f (N + 1) gp bn bh ⟨multi, now, held⟩ ⟨0, false, 0, false, 0, within o.f7 o.f8 hl, 0⟩) := by
  have hgl := hM.gl
  have hnl := hM.now.lt
  have hhl := hM.held.1.lt
  have HM := Lib.hid hM
  have HF := Lib.hid hF
  have HO := Lib.hid hO
  have HU := Lib.hid hh
  have hb0 : Below w.heap.size w (doW w o A c).drew := below_drew (doW_below w o A c)
  have hP0 := hM.kept (Kept.of_below hb0 (fun _ => False)) (fun e => e) (fun e => e) (fun e => e)
  have HS : (fun w' : World => w'.cell? ⟨gp, 1, none⟩ = some (.map (some bn)) ∧ w'.cell? ⟨w.heap.size, 1, none⟩ = some (.int .u64 o.f1) ∧ (Instr.lookup 97 (.map (some bn)) (.int .u64 o.f1) true).run Try.prog w' = .ok (.tuple #[.int .u64 ((fnd now o.f1).getD 0), .bool (fnd now o.f1).isSome]) w') (doW w o A c).drew :=
    ⟨hP0.c1, by rw [blk_cell (w := (doW w o A c).drew) (doW_op w o A c)]; rfl, now_look hP0.now hO.key⟩
  obtain ⟨vh, hvh, hrunh⟩ := held_look (hM.held.kept (Kept.of_below (below_drew (below_alloc (below_drew (doW_below w o A c)) (.cells (ansC 0 (fnd now o.f1).isSome ((fnd now o.f1).getD 0) false 0 (.slice none 0 0) 0) 26))) (fun _ => False)) (fun e => e)) hO.han
  have hW2 : Below w.heap.size w ((doW w o A c).drew.alloc (.cells (ansC 0 (fnd now o.f1).isSome ((fnd now o.f1).getD 0) false 0 (.slice none 0 0) 0) 26)).drew := below_drew (below_alloc (below_drew (doW_below w o A c)) _)
  have hP2 := hM.kept (Kept.of_below hW2 (fun _ => False)) (fun e => e) (fun e => e) (fun e => e)
  have hs2 : (doW w o A c).drew.heap.size = w.heap.size + 2 := doW_size w o A c
  have hop2 : ((doW w o A c).drew.alloc (.cells (ansC 0 (fnd now o.f1).isSome ((fnd now o.f1).getD 0) false 0 (.slice none 0 0) 0) 26)).drew.heap[w.heap.size]? = some (.cells (opC o A c) 39 (0, 0)) := ((below_alloc (Below.refl _ (doW w o A c).drew) _).block _ (by rw [hs2]; omega)).trans (doW_op w o A c)
  have hra2 : ((doW w o A c).drew.alloc (.cells (ansC 0 (fnd now o.f1).isSome ((fnd now o.f1).getD 0) false 0 (.slice none 0 0) 0) 26)).drew.heap[w.heap.size + 1]? = some (.cells (ansC 0 false 0 false 0 (.slice none 0 0) 0) 26 (0, 0)) := ((below_alloc (Below.refl _ (doW w o A c).drew) _).block _ (by rw [hs2]; omega)).trans (doW_ans w o A c)
  have hfa2 : ((doW w o A c).drew.alloc (.cells (ansC 0 (fnd now o.f1).isSome ((fnd now o.f1).getD 0) false 0 (.slice none 0 0) 0) 26)).drew.heap[w.heap.size + 2]? = some (.cells (ansC 0 (fnd now o.f1).isSome ((fnd now o.f1).getD 0) false 0 (.slice none 0 0) 0) 26 (0, 0)) := by
    have := heap_alloc_new (doW w o A c).drew (.cells (ansC 0 (fnd now o.f1).isSome ((fnd now o.f1).getD 0) false 0 (.slice none 0 0) 0) 26)
    rw [hs2] at this
    exact this
  have HS2 : (fun w' : World => w'.cell? ⟨gp, 2, none⟩ = some (.map (some bh)) ∧ w'.cell? ⟨w.heap.size, 4, none⟩ = some (.int .u64 o.f4) ∧ (Instr.lookup 98 (.map (some bh)) (.int .u64 o.f4) true).run Try.prog w' = .ok (.tuple #[vh, .bool (fnd held o.f4).isSome]) w') ((doW w o A c).drew.alloc (.cells (ansC 0 (fnd now o.f1).isSome ((fnd now o.f1).getD 0) false 0 (.slice none 0 0) 0) 26)).drew :=
    ⟨hP2.c2, by rw [blk_cell hop2]; rfl, hrunh⟩
  have hkd : ((doW w o A c).drew.alloc (.cells (ansC 0 (fnd now o.f1).isSome ((fnd now o.f1).getD 0) false 0 (.slice none 0 0) 0) 26)).drew.cell? ⟨w.heap.size, 0, none⟩ = some (.int .u8 8) := by rw [blk_cell hop2, ← hk]; rfl
  have HVH := Lib.hid hvh
  have HW2 := Lib.hid hW2
  have HP2 := Lib.hid hP2
  have HOP2 := Lib.hid hop2
  have HRA2 := Lib.hid hra2
  have HFA2 := Lib.hid hfa2
  have hfnd0 : (fnd now o.f1).isSome = (fnd now o.f1).isSome := rfl
  obtain ⟨fo, hfo⟩ : ∃ b : Bool, b = (fnd now o.f1).isSome := ⟨_, rfl⟩
  obtain ⟨fv, hfv⟩ : ∃ v : Int, v = (fnd now o.f1).getD 0 := ⟨_, rfl⟩
  obtain ⟨hd, hhd⟩ : ∃ b : Bool, b = (fnd held o.f4).isSome := ⟨_, rfl⟩
  rw [← hfo, ← hfv] at HS HS2 HW2 HP2 HOP2 HRA2 HFA2 hkd
  rw [← hhd] at HS2
  have HFO := Lib.hid hfo
  have HFV := Lib.hid hfv
  have HHD := Lib.hid hhd
  clear hM hF hO hh hb0 hP0 hvh hrunh hW2 hP2 hs2 hop2 hra2 hfa2 hfnd0 hfo hfv hhd
  obtain ⟨W1, hW1⟩ : ∃ W1, W1 = doW w o A c := ⟨_, rfl⟩
  have HW1 := Lib.hid hW1
  rw [← hW1] at HS HS2 HW2 HP2 HOP2 HRA2 HFA2 hkd
  go_enter Try.func15, Try.ntmps15
  go_wp2_with fail
  change Code.wp _ _ _ _ (doW w o A c)
  rw [← hW1]
  clear hW1
  go_region_held3 (fun w' => w'.cell? ⟨gp, 1, none⟩ = some (.map (some bn)) ∧ w'.cell? ⟨w.heap.size, 1, none⟩ = some (.int .u64 o.f1) ∧ (Instr.lookup 97 (.map (some bn)) (.int .u64 o.f1) true).run Try.prog w' = .ok (.tuple #[.int .u64 fv, .bool fo]) w')
    (first | go_keep | exact HS)
    (first | fail | fail)
  clear HS
  have hs1 : W1.heap.size = w.heap.size + 2 := by rw [HW1.out]; exact doW_size w o A c
  go_wp2_with fail
  obtain ⟨W2, hW2⟩ : ∃ W2, W2 = W1.drew.alloc (Obj.cells (ansC 0 fo fv false 0 (Value.slice none 0 0) 0) 26) := ⟨_, rfl⟩
  change Code.wp _ _ _ _ (W1.drew.alloc (Obj.cells (ansC 0 fo fv false 0 (Value.slice none 0 0) 0) 26))
  rw [← hW2] at HS2 HW2 HP2 HOP2 HRA2 HFA2 hkd ⊢
  clear hW2
  go_region_held3 (fun w' => w'.cell? ⟨gp, 2, none⟩ = some (.map (some bh)) ∧ w'.cell? ⟨w.heap.size, 4, none⟩ = some (.int .u64 o.f4) ∧ (Instr.lookup 98 (.map (some bh)) (.int .u64 o.f4) true).run Try.prog w' = .ok (.tuple #[vh, .bool hd]) w')
    (first | go_keep | exact HS2)
    (first | fail | fail)
  clear HS2
  obtain ⟨W, hW⟩ : ∃ W, W = W2.drew := ⟨_, rfl⟩
  rw [← hW] at HW2 HP2 HOP2 HRA2 HFA2 hkd ⊢
  clear hW
  have HNE := Lib.hid hne
  clear hne
  obtain rfl : hd = true := by rw [HHD.out, hx]; rfl
  obtain ⟨b, rfl, hfb⟩ : ∃ b, vh = .map (some b) ∧ f b = some hl := by
    rcases HVH.out with ⟨h1, _⟩ | ⟨b, l, h1, h2, h3⟩
    · rw [hx] at h1; cases h1
    · rw [hx] at h1; cases h1; exact ⟨b, h2, h3⟩
  have HMB := Lib.hid ((HF.out b hl hfb).below HW2.out)
  have hhlen : hl.length ≤ 1099511627776 := Nat.le_trans (HF.out b hl hfb).len hN
  clear hfb HVH hx
  have HWZ := HW2
  go_upto_region 35 with fail
  have HKD := Lib.hid hk
  clear hk hkd
  obtain ⟨q0, q1, q2, q3, q4, q5, q6, q7, q8, q9, q10⟩ := op_cells HOP2.out
  have hzW := blk_lt HRA2.out
  go_wp2_with (first
    | (go_at_call 37
       refine (query_rgE o A c b N hl W HMB.out hhlen (by rw [HKD.out]; decide) (by rw [HKD.out]; decide) HNE.out).mono ?_
       rintro e w3 ⟨ps, rfl, hR, hB⟩
       obtain ⟨A3, c3, rfl⟩ := Kd.R_slice hR
       unfold ansV
       have HB3 := Lib.hid (HWZ.out.trans (hB.mono HWZ.out.size))
       have HRA3 : Hid (w3.heap[w.heap.size + 1]? = some (Obj.cells (ansC 0 false 0 false 0 (.slice none 0 0) 0) 26 (0, 0))) := Lib.hid ((hB.block _ hzW).trans HRA2.out)
       have HL3 := Lib.hid (left_same (K := fun k => k = bn ∨ k = bh) HM.out HF.out HB3.out (Nat.le_succ N))
       have HR3 := Lib.hid (Kd.R_lower (Kd.R_mono (Kd.R_bound hR) (fun k hk => hk.2.1)) HWZ.out.size)
       clear hR hB)
    | ((with_reducible refine gate_store (t := 26) (p := 6) rfl ?_); refine wpList_store_row rfl 26 (.tmp 6) (.tmp 120) rfl (w.heap.size + 1) (ansC 0 false 0 false 0 (.slice A3 (toS (within o.f7 o.f8 hl)).length c3) 0) rfl rfl 26 _ HRA3.out (by kernel_rfl) rfl (ansC_one _ _ _ _ _ _ _ _ _) ?_))
  refine bodyPost_ret (res_ans rfl _ rfl (setRow_heap _ _ _ _ _ _ HRA3.out)) rfl ⟨_, rfl, Kd.R_mono (Kd.R_kept HR3.out (Kept_row w3 (w.heap.size + 1) _) (fun k hk e => by have hk' : W.heap.size ≤ k := hk; omega)) (fun _ _ => trivial), HL3.out.row (by omega) HRA3.out hgl hnl hhl _⟩
end Go.Proofs.Ytngocadnbpdnoaa.Mo
namespace Go.Proofs.Ytngocadnbpdnoaa.Mo
open Go Go.Maps Go.RowKit Go.Proofs.Ytngocadnbpdnoaa.Srt Go.Proofs.Ytngocadnbpdnoaa.Q Go.Proofs.YtngocadnbpdnoaaW.PrintWords Go.Proofs.YtngocadnbpdnoaaW.PrintLast Go.Proofs.YtngocadnbpdnoaaW.PrintMore
set_option linter.unusedVariables false
set_option linter.unusedSimpArgs false
set_option maxRecDepth 100000 in
set_option maxHeartbeats 8000000 in
theorem do_mgYes (f : Nat → Option PL) (N gp bn bh : Nat) (multi : Int) (now : PL) (held : List (Int × PL)) (o : OpS) (A : Option Addr) (c : Nat) (hdl : Int) (w : World) (hM : PM w f N gp bn bh multi now held) (hF : Fro w f N) (hO : OpWf o) (hh : u64wf hdl) (hN : N ≤ 1099511627776) (hk : o.f0 = 7) (hl : PL) (hx : fnd held o.f4 = some hl) (hl2 : ¬ multi < (o.f6.length : Int)) (hC : ∀ W', Kept w W' (fun k => k = bn ∨ k = bh) → Kd.C (Kd.int .u64) W' A o.f6.length o.f6) (hw : ∀ k ∈ o.f6, u64wf k) (hn : o.f6.length ≤ 1099511627776) :
    Calls Try.prog 15 #[.pointer (some ⟨gp, 0, none⟩), .agg (opC o A c), .int .u64 hdl] w (DoPost w f (N + 1) gp bn bh ⟨multi, now, held⟩ ⟨0, false, 0, false, 0, ofKeys hl o.f6, 0⟩) := by
  have hgl := hM.gl
  have hnl := hM.now.lt
  have hhl := hM.held.1.lt
  have HM := Lib.hid hM
  have HF := Lib.hid hF
  have HO := Lib.hid hO
  have HU := Lib.hid hh
  have hb0 : Below w.heap.size w (doW w o A c).drew := below_drew (doW_below w o A c)
  have hP0 := hM.kept (Kept.of_below hb0 (fun _ => False)) (fun e => e) (fun e => e) (fun e => e)
  have HS : (fun w' : World => w'.cell? ⟨gp, 1, none⟩ = some (.map (some bn)) ∧ w'.cell? ⟨w.heap.size, 1, none⟩ = some (.int .u64 o.f1) ∧ (Instr.lookup 97 (.map (some bn)) (.int .u64 o.f1) true).run Try.prog w' = .ok (.tuple #[.int .u64 ((fnd now o.f1).getD 0), .bool (fnd now o.f1).isSome]) w') (doW w o A c).drew :=
    ⟨hP0.c1, by rw [blk_cell (w := (doW w o A c).drew) (doW_op w o A c)]; rfl, now_look hP0.now hO.key⟩
  obtain ⟨vh, hvh, hrunh⟩ := held_look (hM.held.kept (Kept.of_below (below_drew (below_alloc (below_drew (doW_below w o A c)) (.cells (ansC 0 (fnd now o.f1).isSome ((fnd now o.f1).getD 0) false 0 (.slice none 0 0) 0) 26))) (fun _ => False)) (fun e => e)) hO.han
  have hW2 : Below w.heap.size w ((doW w o A c).drew.alloc (.cells (ansC 0 (fnd now o.f1).isSome ((fnd now o.f1).getD 0) false 0 (.slice none 0 0) 0) 26)).drew := below_drew (below_alloc (below_drew (doW_below w o A c)) _)
  have hP2 := hM.kept (Kept.of_below hW2 (fun _ => False)) (fun e => e) (fun e => e) (fun e => e)
  have hs2 : (doW w o A c).drew.heap.size = w.heap.size + 2 := doW_size w o A c
  have hop2 : ((doW w o A c).drew.alloc (.cells (ansC 0 (fnd now o.f1).isSome ((fnd now o.f1).getD 0) false 0 (.slice none 0 0) 0) 26)).drew.heap[w.heap.size]? = some (.cells (opC o A c) 39 (0, 0)) := ((below_alloc (Below.refl _ (doW w o A c).drew) _).block _ (by rw [hs2]; omega)).trans (doW_op w o A c)
  have hra2 : ((doW w o A c).drew.alloc (.cells (ansC 0 (fnd now o.f1).isSome ((fnd now o.f1).getD 0) false 0 (.slice none 0 0) 0) 26)).drew.heap[w.heap.size + 1]? = some (.cells (ansC 0 false 0 false 0 (.slice none 0 0) 0) 26 (0, 0)) := ((below_alloc (Below.refl _ (doW w o A c).drew) _).block _ (by rw [hs2]; omega)).trans (doW_ans w o A c)
  have hfa2 : ((doW w o A c).drew.alloc (.cells (ansC 0 (fnd now o.f1).isSome ((fnd now o.f1).getD 0) false 0 (.slice none 0 0) 0) 26)).drew.heap[w.heap.size + 2]? = some (.cells (ansC 0 (fnd now o.f1).isSome ((fnd now o.f1).getD 0) false 0 (.slice none 0 0) 0) 26 (0, 0)) := by
    have := heap_alloc_new (doW w o A c).drew (.cells (ansC 0 (fnd now o.f1).isSome ((fnd now o.f1).getD 0) false 0 (.slice none 0 0) 0) 26)
    rw [hs2] at this
    exact this
  have HS2 : (fun w' : World => w'.cell? ⟨gp, 2, none⟩ = some (.map (some bh)) ∧ w'.cell? ⟨w.heap.size, 4, none⟩ = some (.int .u64 o.f4) ∧ (Instr.lookup 98 (.map (some bh)) (.int .u64 o.f4) true).run Try.prog w' = .ok (.tuple #[vh, .bool (fnd held o.f4).isSome]) w') ((doW w o A c).drew.alloc (.cells (ansC 0 (fnd now o.f1).isSome ((fnd now o.f1).getD 0) false 0 (.slice none 0 0) 0) 26)).drew :=
    ⟨hP2.c2, by rw [blk_cell hop2]; rfl, hrunh⟩
  have hkd : ((doW w o A c).drew.alloc (.cells (ansC 0 (fnd now o.f1).isSome ((fnd now o.f1).getD 0) false 0 (.slice none 0 0) 0) 26)).drew.cell? ⟨w.heap.size, 0, none⟩ = some (.int .u8 7) := by rw [blk_cell hop2, ← hk]; rfl
  have HVH := Lib.hid hvh
  have HW2 := Lib.hid hW2
  have HP2 := Lib.hid hP2
  have HOP2 := Lib.hid hop2
  have HRA2 := Lib.hid hra2
  have HFA2 := Lib.hid hfa2
  have hfnd0 : (fnd now o.f1).isSome = (fnd now o.f1).isSome := rfl
  obtain ⟨fo, hfo⟩ : ∃ b : Bool, b = (fnd now o.f1).isSome := ⟨_, rfl⟩
  obtain ⟨fv, hfv⟩ : ∃ v : Int, v = (fnd now o.f1).getD 0 := ⟨_, rfl⟩
  obtain ⟨hd, hhd⟩ : ∃ b : Bool, b = (fnd held o.f4).isSome := ⟨_, rfl⟩
  rw [← hfo, ← hfv] at HS HS2 HW2 HP2 HOP2 HRA2 HFA2 hkd
  rw [← hhd] at HS2
  have HFO := Lib.hid hfo
  have HFV := Lib.hid hfv
  have HHD := Lib.hid hhd
  clear hM hF hO hh hb0 hP0 hvh hrunh hW2 hP2 hs2 hop2 hra2 hfa2 hfnd0 hfo hfv hhd
  obtain ⟨W1, hW1⟩ : ∃ W1, W1 = doW w o A c := ⟨_, rfl⟩
  have HW1 := Lib.hid hW1
  rw [← hW1] at HS HS2 HW2 HP2 HOP2 HRA2 HFA2 hkd
  go_enter Try.func15, Try.ntmps15
  go_wp2_with fail
  change Code.wp _ _ _ _ (doW w o A c)
  rw [← hW1]
  clear hW1
  go_region_held3 (fun w' => w'.cell? ⟨gp, 1, none⟩ = some (.map (some bn)) ∧ w'.cell? ⟨w.heap.size, 1, none⟩ = some (.int .u64 o.f1) ∧ (Instr.lookup 97 (.map (some bn)) (.int .u64 o.f1) true).run Try.prog w' = .ok (.tuple #[.int .u64 fv, .bool fo]) w')
    (first | go_keep | exact HS)
    (first | fail | fail)
  clear HS
  have hs1 : W1.heap.size = w.heap.size + 2 := by rw [HW1.out]; exact doW_size w o A c
  go_wp2_with fail
  obtain ⟨W2, hW2⟩ : ∃ W2, W2 = W1.drew.alloc (Obj.cells (ansC 0 fo fv false 0 (Value.slice none 0 0) 0) 26) := ⟨_, rfl⟩
  change Code.wp _ _ _ _ (W1.drew.alloc (Obj.cells (ansC 0 fo fv false 0 (Value.slice none 0 0) 0) 26))
  rw [← hW2] at HS2 HW2 HP2 HOP2 HRA2 HFA2 hkd ⊢
  clear hW2
  go_region_held3 (fun w' => w'.cell? ⟨gp, 2, none⟩ = some (.map (some bh)) ∧ w'.cell? ⟨w.heap.size, 4, none⟩ = some (.int .u64 o.f4) ∧ (Instr.lookup 98 (.map (some bh)) (.int .u64 o.f4) true).run Try.prog w' = .ok (.tuple #[vh, .bool hd]) w')
    (first | go_keep | exact HS2)
    (first | fail | fail)
  clear HS2
  obtain ⟨W, hW⟩ : ∃ W, W = W2.drew := ⟨_, rfl⟩
  rw [← hW] at HW2 HP2 HOP2 HRA2 HFA2 hkd ⊢
  clear hW
  have HC := Lib.hid hC
  have HWK := Lib.hid hw
  clear hC hw
  obtain rfl : hd = true := by rw [HHD.out, hx]; rfl
  obtain ⟨b, rfl, hfb⟩ : ∃ b, vh = .map (some b) ∧ f b = some hl := by
    rcases HVH.out with ⟨h1, _⟩ | ⟨b, l, h1, h2, h3⟩
    · rw [hx] at h1; cases h1
    · rw [hx] at h1; cases h1; exact ⟨b, h2, h3⟩
  have HMB := Lib.hid ((HF.out b hl hfb).below HW2.out)
  have hhlen : hl.length ≤ 1099511627776 := Nat.le_trans (HF.out b hl hfb).len hN
  clear hfb HVH hx
  have kA := HP2.out.c0
  have kB : W.cell? ⟨w.heap.size, 8, none⟩ = some (.slice A o.f6.length c) := by rw [blk_cell HOP2.out]; rfl
  have hlen' : decide (multi < (o.f6.length : Int)) = false := decide_eq_false (by omega)
  go_wp2_with fail
  go_quiet (fail)
  go_upto_region 35 with fail
  have HKD := Lib.hid hk
  clear hk hkd
  have HWZ := Lib.hid (pw_below_drewN HW2.out nq)
  have HRA2 : Hid ((W.drewN nq).heap[w.heap.size + 1]? = some (Obj.cells (ansC 0 false 0 false 0 (.slice none 0 0) 0) 26 (0, 0))) := HRA2
  have HOP3 : Hid ((W.drewN nq).heap[w.heap.size]? = some (Obj.cells (opC o A c) 39 (0, 0))) := HOP2
  obtain ⟨q0, q1, q2, q3, q4, q5, q6, q7, q8, q9, q10⟩ := op_cells HOP3.out
  have hzW := blk_lt HRA2.out
  go_wp2_with (first
    | (go_at_call 37
       refine (query_mg o A c b N hl (W.drewN nq) (HMB.out.below (pw_below_drewN (Below.refl _ _) nq)) HKD.out (HC.out _ (Kept.of_below HWZ.out _)) HWK.out hn).mono ?_
       rintro e w3 ⟨ps, rfl, hR, hB⟩
       obtain ⟨A3, c3, rfl⟩ := Kd.R_slice hR
       unfold ansV
       have HB3 := Lib.hid (HWZ.out.trans (hB.mono HWZ.out.size))
       have HRA3 : Hid (w3.heap[w.heap.size + 1]? = some (Obj.cells (ansC 0 false 0 false 0 (.slice none 0 0) 0) 26 (0, 0))) := Lib.hid ((hB.block _ hzW).trans HRA2.out)
       have HL3 := Lib.hid (left_same (K := fun k => k = bn ∨ k = bh) HM.out HF.out HB3.out (Nat.le_succ N))
       have HR3 := Lib.hid (Kd.R_lower (Kd.R_mono (Kd.R_bound hR) (fun k hk => hk.2.1)) HWZ.out.size)
       clear hR hB)
    | ((with_reducible refine gate_store (t := 26) (p := 6) rfl ?_); refine wpList_store_row rfl 26 (.tmp 6) (.tmp 120) rfl (w.heap.size + 1) (ansC 0 false 0 false 0 (.slice A3 (toS (ofKeys hl o.f6)).length c3) 0) rfl rfl 26 _ HRA3.out (by kernel_rfl) rfl (ansC_one _ _ _ _ _ _ _ _ _) ?_))
  refine bodyPost_ret (res_ans rfl _ rfl (setRow_heap _ _ _ _ _ _ HRA3.out)) rfl ⟨_, rfl, Kd.R_mono (Kd.R_kept HR3.out (Kept_row w3 (w.heap.size + 1) _) (fun k hk e => by have hk' : (W.drewN nq).heap.size ≤ k := hk; omega)) (fun _ _ => trivial), HL3.out.row (by omega) HRA3.out hgl hnl hhl _⟩
end Go.Proofs.Ytngocadnbpdnoaa.Mo
namespace Go.Proofs.Ytngocadnbpdnoaa.Mo
open Go Go.Maps Go.RowKit Go.Proofs.Ytngocadnbpdnoaa.Srt Go.Proofs.Ytngocadnbpdnoaa.Q Go.Proofs.YtngocadnbpdnoaaW.PrintWords Go.Proofs.YtngocadnbpdnoaaW.PrintLast Go.Proofs.YtngocadnbpdnoaaW.PrintMore
set_option linter.unusedVariables false
set_option linter.unusedSimpArgs false
/-- What Do does to a state, and what it tells. -/
def stepD (s : MS) (o : OpS) (h : Int) : MS × AnsD :=
  if o.f0 = 1 then (s, foundD s o)
  else if o.f0 = 2 then (⟨s.multi, put s.now o.f1 o.f2, s.held⟩, foundD s o)
  else if o.f0 = 3 then (⟨s.multi, del s.now o.f1, s.held⟩, foundD s o)
  else if o.f0 = 4 then if fnd s.now o.f1 = some o.f3 then (⟨s.multi, put s.now o.f1 o.f2, s.held⟩, { foundD s o with dn := true }) else (s, foundD s o)
  else if o.f0 = 5 then (⟨s.multi, s.now, snapHeld h s.now s.held⟩, snapD h s.held)
  else if o.f0 = 6 then match fnd s.held o.f4 with | none => (s, errD 33) | some _ => (⟨s.multi, s.now, del s.held o.f4⟩, errD 0)
  else if o.f0 = 7 then if s.multi < (o.f6.length : Int) then (s, errD 6) else match fnd s.held o.f4 with | none => (s, errD 33) | some x => (s, ⟨0, false, 0, false, 0, ofKeys x o.f6, 0⟩)
  else if o.f0 = 8 then match fnd s.held o.f4 with | none => (s, errD 33) | some x => (s, ⟨0, false, 0, false, 0, within o.f7 o.f8 x, 0⟩)
  else if o.f0 = 9 then match fnd s.held o.f4 with | none => (s, errD 33) | some x => (s, ⟨0, false, 0, false, 0, [], ((toS (within o.f7 o.f8 x)).length : Int)⟩)
  else if o.f0 = 10 then (s, errD 0)
  else (s, errD 160)
theorem do_c (f : Nat → Option PL) (N gp bn bh : Nat) (multi : Int) (now : PL) (held : List (Int × PL)) (o : OpS) (A : Option Addr) (c : Nat) (hdl : Int) (w : World) (hM : PM w f N gp bn bh multi now held) (hF : Fro w f N) (hO : OpWf o) (hh : u64wf hdl) (hN : N ≤ 1099511627776)
    (hC : ∀ W', Kept w W' (fun k => k = bn ∨ k = bh) → Kd.C (Kd.int .u64) W' A o.f6.length o.f6) (hw : ∀ k ∈ o.f6, u64wf k) (hn : o.f6.length ≤ 1099511627776) :
    Calls Try.prog 15 #[.pointer (some ⟨gp, 0, none⟩), .agg (opC o A c), .int .u64 hdl] w (DoPost w f (N + 1) gp bn bh (stepD ⟨multi, now, held⟩ o hdl).1 (stepD ⟨multi, now, held⟩ o hdl).2) := by
  by_cases h1 : o.f0 = 1
  · rw [show stepD ⟨multi, now, held⟩ o hdl = (⟨multi, now, held⟩, foundD ⟨multi, now, held⟩ o) by simp [stepD, h1]]
    exact do_get f N gp bn bh multi now held o A c hdl w hM hF hO hh hN h1
  by_cases h2 : o.f0 = 2
  · rw [show stepD ⟨multi, now, held⟩ o hdl = (⟨multi, put now o.f1 o.f2, held⟩, foundD ⟨multi, now, held⟩ o) by simp [stepD, h2]]
    exact do_put f N gp bn bh multi now held o A c hdl w hM hF hO hh hN h2
  by_cases h3 : o.f0 = 3
  · rw [show stepD ⟨multi, now, held⟩ o hdl = (⟨multi, del now o.f1, held⟩, foundD ⟨multi, now, held⟩ o) by simp [stepD, h3]]
    exact do_del f N gp bn bh multi now held o A c hdl w hM hF hO hh hN h3
  by_cases h4 : o.f0 = 4
  · by_cases hx : fnd now o.f1 = some o.f3
    · rw [show stepD ⟨multi, now, held⟩ o hdl = (⟨multi, put now o.f1 o.f2, held⟩, { foundD ⟨multi, now, held⟩ o with dn := true }) by simp [stepD, h4, hx]]
      exact do_swapY f N gp bn bh multi now held o A c hdl w hM hF hO hh hN h4 hx
    · rw [show stepD ⟨multi, now, held⟩ o hdl = (⟨multi, now, held⟩, foundD ⟨multi, now, held⟩ o) by simp [stepD, h4, hx]]
      exact do_swapN f N gp bn bh multi now held o A c hdl w hM hF hO hh hN h4 hx
  by_cases h5 : o.f0 = 5
  · rw [show stepD ⟨multi, now, held⟩ o hdl = (⟨multi, now, snapHeld hdl now held⟩, snapD hdl held) by simp [stepD, h5]]
    exact do_snap f N gp bn bh multi now held o A c hdl w hM hF hO hh hN h5
  by_cases h6 : o.f0 = 6
  · cases hx : fnd held o.f4 with
    | none =>
      rw [show stepD ⟨multi, now, held⟩ o hdl = (⟨multi, now, held⟩, errD 33) by simp [stepD, h6, hx]]
      exact do_relN f N gp bn bh multi now held o A c hdl w hM hF hO hh hN h6 hx
    | some x =>
      rw [show stepD ⟨multi, now, held⟩ o hdl = (⟨multi, now, del held o.f4⟩, errD 0) by simp [stepD, h6, hx]]
      exact do_relY f N gp bn bh multi now held o A c hdl w hM hF hO hh hN h6 (by rw [hx]; rfl)
  by_cases h7 : o.f0 = 7
  · by_cases hl : multi < (o.f6.length : Int)
    · rw [show stepD ⟨multi, now, held⟩ o hdl = (⟨multi, now, held⟩, errD 6) by simp [stepD, h7, hl]]
      exact do_mgLong f N gp bn bh multi now held o A c hdl w hM hF hO hh hN h7 hl
    · cases hx : fnd held o.f4 with
      | none =>
        rw [show stepD ⟨multi, now, held⟩ o hdl = (⟨multi, now, held⟩, errD 33) by simp [stepD, h7, hl, hx]]
        exact do_mgNo f N gp bn bh multi now held o A c hdl w hM hF hO hh hN h7 hx hl
      | some x =>
        rw [show stepD ⟨multi, now, held⟩ o hdl = (⟨multi, now, held⟩, ⟨0, false, 0, false, 0, ofKeys x o.f6, 0⟩) by simp [stepD, h7, hl, hx]]
        exact do_mgYes f N gp bn bh multi now held o A c hdl w hM hF hO hh hN h7 x hx hl hC hw hn
  by_cases h8 : o.f0 = 8
  · cases hx : fnd held o.f4 with
    | none =>
      rw [show stepD ⟨multi, now, held⟩ o hdl = (⟨multi, now, held⟩, errD 33) by simp [stepD, h8, hx]]
      exact do_rgNo f N gp bn bh multi now held o A c hdl w hM hF hO hh hN h8 hx
    | some x =>
      rw [show stepD ⟨multi, now, held⟩ o hdl = (⟨multi, now, held⟩, ⟨0, false, 0, false, 0, within o.f7 o.f8 x, 0⟩) by simp [stepD, h8, hx]]
      by_cases hne : within o.f7 o.f8 x = []
      · exact do_rgYesE f N gp bn bh multi now held o A c hdl w hM hF hO hh hN h8 x hx hne
      · exact do_rgYesS f N gp bn bh multi now held o A c hdl w hM hF hO hh hN h8 x hx hne
  by_cases h9 : o.f0 = 9
  · cases hx : fnd held o.f4 with
    | none =>
      rw [show stepD ⟨multi, now, held⟩ o hdl = (⟨multi, now, held⟩, errD 33) by simp [stepD, h9, hx]]
      exact do_ctNo f N gp bn bh multi now held o A c hdl w hM hF hO hh hN h9 hx
    | some x =>
      rw [show stepD ⟨multi, now, held⟩ o hdl = (⟨multi, now, held⟩, ⟨0, false, 0, false, 0, [], ((toS (within o.f7 o.f8 x)).length : Int)⟩) by simp [stepD, h9, hx]]
      exact do_ctYes f N gp bn bh multi now held o A c hdl w hM hF hO hh hN h9 x hx
  by_cases h10 : o.f0 = 10
  · rw [show stepD ⟨multi, now, held⟩ o hdl = (⟨multi, now, held⟩, errD 0) by simp [stepD, h10]]
    exact do_coll f N gp bn bh multi now held o A c hdl w hM hF hO hh hN h10
  · rw [show stepD ⟨multi, now, held⟩ o hdl = (⟨multi, now, held⟩, errD 160) by simp [stepD, h1, h2, h3, h4, h5, h6, h7, h8, h9, h10]]
    exact do_oth f N gp bn bh multi now held o A c hdl w hM hF hO hh hN trivial (fun k hk1 hk2 => beq_eq_false_iff_ne.2 (by omega))
end Go.Proofs.Ytngocadnbpdnoaa.Mo
namespace Go.Proofs.Ytngocadnbpdnoaa.Mo
open Go Go.Maps Go.RowKit Go.Proofs.Ytngocadnbpdnoaa.Srt Go.Proofs.Ytngocadnbpdnoaa.Q Go.Proofs.YtngocadnbpdnoaaW.PrintWords Go.Proofs.YtngocadnbpdnoaaW.PrintLast Go.Proofs.YtngocadnbpdnoaaW.PrintMore
set_option linter.unusedVariables false
set_option linter.unusedSimpArgs false
/-- An answer that is an error alone. -/
def errS (e : Int) : AnS := ⟨e, false, 0, false, 0, [], 0⟩
/-- What Take leaves and tells: a state, yes or no. -/
def TakePost (w : World) (f : Nat → Option PL) (N gp bn bh : Nat) (r : MS × Bool) (e : Ending) (w' : World) : Prop :=
  e = .returned (.bool r.2) ∧ Left w w' f (N + 2) gp bn bh r.1.multi r.1.now r.1.held (fun k => k = bn ∨ k = bh)
set_option maxHeartbeats 2000000 in
theorem bare_c (a : AnS) (B : Option Addr) (d g : Nat) (e : Int) (w : World) (hb : w.heap[g]? = some (.cells (ansC a.f0 a.f1 a.f2 a.f3 a.f4 (.slice B a.f5.length d) a.f6) 26 (0, 0))) (hC : Kd.C k90 w B a.f5.length a.f5) (hd : a.f5.length ≤ d) (hm : a.f5.length ≤ 4398046511104) :
    Calls Try.prog 48 #[.int .i64 e, .pointer (some ⟨g, 0, none⟩)] w fun en w' => en = .returned (.bool (anEq a (errS e))) ∧ Below w.heap.size w w' := by
  obtain ⟨p0, p1, p2, p3, p4, p5, p6⟩ := ans_cells hb
  have hS := sameAns_c a (errS e) B none d 0 w hC hd (Kd.C_nil _ _) (Nat.le_refl _) hm
  have hg := blk_lt hb
  clear hb hC
  go_enter Try.func48, Try.ntmps48
  go_wp2_with (go_at_call 12; refine hS.mono ?_; rintro e w1 ⟨rfl, hB1⟩)
  go_ret
  exact ⟨rfl, hB1⟩
set_option maxRecDepth 100000 in
set_option maxHeartbeats 16000000 in
theorem take_kv (o : OpS) (a : AnS) (A B : Option Addr) (c d : Nat) (st : MS → MS × AnsD) (hD : DoC o 0 st) (f : Nat → Option PL) (N gp bn bh : Nat) (multi : Int) (now : PL) (held : List (Int × PL)) (w : World) (hM : PM w f N gp bn bh multi now held) (hF : Fro w f N) (hN : N + 1 ≤ 1099511627776)
    (hC : ∀ W', Kept w W' (fun k => k = bn ∨ k = bh) → Kd.C k90 W' B a.f5.length a.f5) (hd : a.f5.length ≤ d) (ho : 2 ≤ o.f0 ∧ o.f0 ≤ 4) (hm : a.f5.length ≤ 4398046511104) (r : MS × Bool) (hr : r = if anEq a (errS 30) = true then (⟨multi, now, held⟩, true) else if anEq (ansS (st ⟨multi, now, held⟩).2) a = true then ((st ⟨multi, now, held⟩).1, true) else (⟨multi, now, held⟩, false)) (hps : (st ⟨multi, now, held⟩).2.ps.length ≤ 4398046511104) :
    Calls Try.prog 22 #[.pointer (some ⟨gp, 0, none⟩), .agg (opC o A c), anV a B d] w (TakePost w f N gp bn bh r) := by
  have hgl := hM.gl
  have hnl := hM.now.lt
  have hhl := hM.held.1.lt
  have hb0 := tkW_below w o A c a B d
  have hO0 := tkW_op w o A c a B d
  have hA0 := tkW_ans w o A c a B d
  have hk0 : (tkW w o A c a B d).cell? ⟨w.heap.size, 0, none⟩ = some (.int .u8 o.f0) := (op_cells hO0).1
  have hs0 := tkW_size w o A c a B d
  have HM := Lib.hid hM
  have HF := Lib.hid hF
  have HC := Lib.hid hC
  have HD := Lib.hid hD
  have HB0 := Lib.hid hb0
  have HO0 := Lib.hid hO0
  have HA0 := Lib.hid hA0
  clear hM hF hC hD hb0 hO0 hA0
  obtain ⟨s, hs⟩ : ∃ s : MS, s = ⟨multi, now, held⟩ := ⟨_, rfl⟩
  rw [← hs] at hps hr
  have HS := Lib.hid hs
  obtain ⟨D, hDD⟩ : ∃ D : AnsD, D = (st s).2 := ⟨_, rfl⟩
  rw [← hDD] at hps hr
  have HDD := Lib.hid hDD
  clear hs hDD
  obtain ⟨b30, hb30⟩ : ∃ b, b = anEq a (errS 30) := ⟨_, rfl⟩
  rw [← hb30] at hr
  have HB30 := Lib.hid hb30
  have HR := Lib.hid hr
  clear hb30 hr
  go_enter Try.func22, Try.ntmps22
  go_upto_region 4 with fail
  change Code.wp _ _ _ _ (tkW w o A c a B d)
  obtain ⟨W0, hW0⟩ : ∃ W0, W0 = tkW w o A c a B d := ⟨_, rfl⟩
  rw [← hW0] at HB0 HO0 HA0 hk0 hs0 ⊢
  clear hW0
  have hcase : (o.f0 == 2) = true ∨ ((o.f0 == 2) = false ∧ (o.f0 == 3) = true) ∨ ((o.f0 == 2) = false ∧ (o.f0 == 3) = false ∧ (o.f0 == 4) = true) := by
    obtain ⟨h1, h2⟩ := ho
    rcases (show o.f0 = 2 ∨ o.f0 = 3 ∨ o.f0 = 4 by omega) with e | e | e <;> rw [e] <;> decide
  clear ho
  have hcB := bare_c a B d (w.heap.size + 1) 30 W0 HA0.out (HC.out W0 (Kept.of_below HB0.out _)) hd hm
  rw [← HB30.out] at hcB
  have HCB := Lib.hid hcB
  clear hcB
  cases b30 with
  | true =>
    rcases hcase with q2 | ⟨q2, q3⟩ | ⟨q2, q3, q4⟩
    all_goals
      go_wp2_with (go_at_call 48; refine HCB.out.mono ?_; rintro e w9 ⟨rfl, hB9⟩; have HB9 := Lib.hid (HB0.out.trans (hB9.mono HB0.out.size)); clear hB9)
      go_ret
      obtain rfl : r = (s, true) := by rw [HR.out]; simp
      rw [HS.out]
      exact ⟨rfl, left_same HM.out HF.out HB9.out (by omega)⟩
  | false =>
    rcases hcase with q2 | ⟨q2, q3⟩ | ⟨q2, q3, q4⟩
    all_goals
      go_upto_region 25 with (go_at_call 48; refine HCB.out.mono ?_; rintro e W1 ⟨rfl, hB9⟩; have HB9 := Lib.hid (HB0.out.trans (hB9.mono HB0.out.size)); have HO9 := Lib.hid (blk_below HO0.out hB9); have HA9 := Lib.hid (blk_below HA0.out hB9); have hs9 := hB9.size; clear hB9)
      clear HB0 HO0 HA0 hk0 HCB
      go_upto_region 26 with (go_at_call 30; (refine (fork_c f N gp bn bh multi now held W1 (HM.out.kept (Kept.of_below HB9.out (fun _ => False)) (fun e => e) (fun e => e) (fun e => e)) (HF.out.kept (Kept.of_below HB9.out (fun _ => False)) (fun _ _ _ e => e)) (by omega)).mono ?_; rintro e w1 ⟨gq, bm, bi, rfl, f1, hE1, hP1, hF1, hB1, hq1, hq2, hq3⟩))
      have hbw1 : Below w.heap.size w w1 := HB9.out.trans (hB1.mono HB9.out.size)
      have HO1 : Hid (w1.drew.heap[w.heap.size]? = some (.cells (opC o A c) 39 (0, 0))) := Lib.hid ((hB1.block _ (by omega)).trans HO9.out)
      have HA1 : Hid (w1.drew.heap[w.heap.size + 1]? = some (.cells (ansC a.f0 a.f1 a.f2 a.f3 a.f4 (.slice B a.f5.length d) a.f6) 26 (0, 0))) := Lib.hid ((hB1.block _ (by omega)).trans HA9.out)
      have HP1 := Lib.hid hP1
      have HF1 := Lib.hid hF1
      have HE1 := Lib.hid hE1
      have HB1 := Lib.hid hbw1
      have HS1 : Hid (W1.heap.size ≤ w1.drew.heap.size) := Lib.hid hB1.size
      clear hP1 hF1 hE1 hbw1 hB1
      have hS1 := cells18 HO1.out HA1.out
      go_region_held3 (fun w' => w'.cell? ⟨w.heap.size, 0, none⟩ = some (.int .u8 o.f0) ∧ w'.cell? ⟨w.heap.size, 1, none⟩ = some (.int .u64 o.f1) ∧ w'.cell? ⟨w.heap.size, 2, none⟩ = some (.int .u64 o.f2) ∧ w'.cell? ⟨w.heap.size, 3, none⟩ = some (.int .u64 o.f3) ∧ w'.cell? ⟨w.heap.size, 4, none⟩ = some (.int .u64 o.f4) ∧ w'.cell? ⟨w.heap.size, 5, none⟩ = some (.bool o.f5.f0) ∧ w'.cell? ⟨w.heap.size, 6, none⟩ = some (.int .i64 o.f5.f1) ∧ w'.cell? ⟨w.heap.size, 7, none⟩ = some (.int .i64 o.f5.f2) ∧ w'.cell? ⟨w.heap.size, 8, none⟩ = some (.slice A o.f6.length c) ∧ w'.cell? ⟨w.heap.size, 9, none⟩ = some (.int .u64 o.f7) ∧ w'.cell? ⟨w.heap.size, 10, none⟩ = some (.int .u64 o.f8) ∧ w'.cell? ⟨w.heap.size + 1, 0, none⟩ = some (.int .i64 a.f0) ∧ w'.cell? ⟨w.heap.size + 1, 1, none⟩ = some (.bool a.f1) ∧ w'.cell? ⟨w.heap.size + 1, 2, none⟩ = some (.int .u64 a.f2) ∧ w'.cell? ⟨w.heap.size + 1, 3, none⟩ = some (.bool a.f3) ∧ w'.cell? ⟨w.heap.size + 1, 4, none⟩ = some (.int .u64 a.f4) ∧ w'.cell? ⟨w.heap.size + 1, 5, none⟩ = some (.slice B a.f5.length d) ∧ w'.cell? ⟨w.heap.size + 1, 6, none⟩ = some (.int .u64 a.f6))
        (first | go_keep | exact hS1 | exact cells18 HO2.out HA2.out | exact cells18 HO3.out HA3.out)
        (first
          | (go_at_call 15; refine (HD.out f1 N gq bm bi multi now held A c w1.drew (HP1.out.kept (Kept.of_below (below_drew (Below.refl _ w1)) (fun _ => False)) (fun e => e) (fun e => e) (fun e => e)) (HF1.out.kept (Kept.of_below (below_drew (Below.refl _ w1)) (fun _ => False)) (fun _ _ _ e => e)) (by omega)).mono ?_; rintro e w2 ⟨ps, rfl, hR2, f2, hE2, hP2, hF2, hK2'⟩
             rw [← HS.out, ← HDD.out] at hR2
             rw [← HS.out, ← HDD.out]
             obtain ⟨A2, c2, rfl⟩ := Kd.R_slice hR2
             have hK2 := hK2'.kept
             have hK1 : KO w w2 (fun _ => False) := (KO.of_below (below_drew HB1.out) (fun _ => False)).then_ hK2' (fun k e => .inr (by omega))
             have HO2 := Lib.hid (blk_kept (W2 := w2) HO1.out hK2 (show ¬ (w.heap.size = bm ∨ w.heap.size = bi) by omega))
             have HA2 := Lib.hid (blk_kept (W2 := w2) HA1.out hK2 (show ¬ (w.heap.size + 1 = bm ∨ w.heap.size + 1 = bi) by omega))
             have HF2 := Lib.hid hF2
             have HE2 := Lib.hid (HE1.out.trans hE2 HS1.out)
             have HK1 := Lib.hid hK1
             have HK12 := Lib.hid hK2.1
             have HR2 := Lib.hid hR2
             clear hF2 hE2 hK1 hR2 hP2 hK2 hK2')
          | (go_at_call 12; refine (sameAns_c (ansS D) a A2 B c2 d w2 (Kd.R_reads' HR2.out).2.2 (Kd.R_reads' HR2.out).2.1 (HC.out w2 (HK1.out.kept.mono (fun _ e => e.elim))) hd (by simp only [ansS, toS_length]; exact hps)).mono ?_; rintro e w3 ⟨rfl, hB3⟩
             have HO3 := Lib.hid ((hB3.block _ (blk_lt HO2.out)).trans HO2.out)
             have HA3 := Lib.hid ((hB3.block _ (blk_lt HA2.out)).trans HA2.out)
             have HK3 := Lib.hid (HK1.out.below hB3)
             have HB3 := Lib.hid hB3
             clear hB3))
      have hs3 : W1.heap.size ≤ w3.heap.size := Nat.le_trans HS1.out (Nat.le_trans HK12.out HB3.out.size)
      have he2 : Ext w.heap.size f f2 := ⟨HE2.out.1, fun b l e => (HE2.out.2 b l e).imp id (fun h => Nat.le_trans HB9.out.size h)⟩
      have hP3 : PM w3 f2 N gp bn bh multi now held := ((HM.out.kept HK3.out.kept (fun e => e) (fun e => e) (fun e => e)).ext he2 hnl hhl)
      have hF3 : Fro w3 f2 (N + 1) := HF2.out.kept (Kept.of_below HB3.out (fun _ => False)) (fun _ _ _ e => e)
      have HP3 := Lib.hid hP3
      have HF3 := Lib.hid hF3
      have HE3 := Lib.hid he2
      clear hP3 hF3 he2
      by_cases hq : anEq (ansS D) a = true
      case neg =>
        obtain rfl : r = (s, false) := by rw [HR.out]; simp [hq]
        have hq' : anEq (ansS D) a = false := by simpa using hq
        clear hq
        rw [hq']
        go_wp2_with fail
        all_goals go_ret
        all_goals rw [HS.out]
        all_goals exact ⟨rfl, f2, HE3.out, HP3.out.mono (by omega), HF3.out.mono (by omega), HK3.out.mono (fun _ e => e.elim)⟩
      case pos =>
        obtain rfl : r = ((st s).1, true) := by rw [HR.out]; simp [hq]
        rw [hq]
        have hS3 := cells18 HO3.out HA3.out
        go_split_ands
        go_wp2_with (go_at_call 15; refine (HD.out f2 (N + 1) gp bn bh multi now held A c w3 (HP3.out.mono (by omega)) HF3.out (by omega)).mono ?_; rintro e w4 ⟨ps4, rfl, hR4, f4, hE4, hP4, hF4, hK4⟩)
        all_goals go_ret
        all_goals rw [← HS.out] at hP4
        all_goals exact ⟨rfl, f4, HE3.out.trans hE4 HK3.out.kept.1, hP4, hF4, (HK3.out.mono (fun _ e => e.elim)).then_ hK4 (fun k e => .inl e)⟩
end Go.Proofs.Ytngocadnbpdnoaa.Mo
namespace Go.Proofs.Ytngocadnbpdnoaa.Mo
open Go Go.Maps Go.RowKit Go.Proofs.Ytngocadnbpdnoaa.Srt Go.Proofs.Ytngocadnbpdnoaa.Q Go.Proofs.YtngocadnbpdnoaaW.PrintWords Go.Proofs.YtngocadnbpdnoaaW.PrintLast Go.Proofs.YtngocadnbpdnoaaW.PrintMore
set_option linter.unusedVariables false
set_option linter.unusedSimpArgs false
def Raw (n : Nat) : Type := { l : List Value // l.length = n ∧ ∀ u ∈ l, u.oneCell' = true }
/-- Elements as they lie, whatever they lead to. -/
def kRaw (n : Nat) : Kd (Raw n) where
  sz := n
  E := []
  K := fun _ x cs => cs = x.1
  M := fun _ _ _ x cs => cs = x.1
  K_len := by rintro w x cs rfl; exact x.2.1
  K_one := by rintro w x cs rfl; exact x.2.2
  K_below := fun _ h => h
  K_of_M := fun h => h
  M_mono := fun _ h => h
  M_bound := fun h => h
  M_move := fun _ h => h
  M_lower := fun _ h => h
structure HdS where
  h : Int
  l : PL
  A : Option Addr
  c : Nat
def HdS.raw (x : HdS) : Raw 2 := ⟨[.int .u64 x.h, .slice x.A x.l.length x.c], rfl, by simp [Value.oneCell']⟩
abbrev kHR : Kd (Raw 2) := kRaw 2
structure RMd (wr : World) (S : Nat → Prop) (rp N : Nat) (s : MS) (A : Option Addr) (c : Nat) (B : Option Addr) (d : Nat) (hs : List HdS) : Prop where
  blk : wr.heap[rp]? = some (.cells #[.int .i64 s.multi, .slice A s.now.length c, .slice B hs.length d] 119 (0, 0))
  rp : S rp
  nc : s.now.length ≤ c
  hc : hs.length ≤ d
  hd : s.held = hs.map (fun x => (x.h, x.l))
  now : ∀ W', Kept wr W' S → Kd.C kSP W' A s.now.length (toS s.now)
  row : ∀ W', Kept wr W' S → Kd.C kHR W' B hs.length (hs.map HdS.raw)
  each : ∀ x ∈ hs, x.l.length ≤ x.c ∧ x.l.length ≤ N ∧ ∀ W', Kept wr W' S → Kd.C kSP W' x.A x.l.length (toS x.l)
  nle : s.now.length ≤ N
  hle : hs.length ≤ N
  asc : Asc s.now
  asch : Asc s.held
  zero : fnd s.held 0 = none
def RM (wr : World) (S : Nat → Prop) (rp N : Nat) (s : MS) : Prop := ∃ A c B d hs, RMd wr S rp N s A c B d hs
theorem RMd.kept {wr W : World} {S S' : Nat → Prop} {rp N : Nat} {s : MS} {A : Option Addr} {c : Nat} {B : Option Addr} {d : Nat} {hs : List HdS} (h : RMd wr S rp N s A c B d hs) (hk : Kept wr W S') (hS : ∀ k, S' k → S k) (hr : ¬ S' rp) : RMd W S rp N s A c B d hs :=
  have hk2 : ∀ W', Kept W W' S → Kept wr W' S := fun W' h2 => (hk.mono hS).then_ h2 (fun k e => .inl e)
  ⟨(hk.2 rp (blk_lt h.blk) hr).trans h.blk, h.rp, h.nc, h.hc, h.hd, fun W' h2 => h.now W' (hk2 W' h2), fun W' h2 => h.row W' (hk2 W' h2), fun x hx => ⟨(h.each x hx).1, (h.each x hx).2.1, fun W' h2 => (h.each x hx).2.2 W' (hk2 W' h2)⟩, h.nle, h.hle, h.asc, h.asch, h.zero⟩
theorem RMd.below {wr W : World} {S : Nat → Prop} {rp N : Nat} {s : MS} {A : Option Addr} {c : Nat} {B : Option Addr} {d : Nat} {hs : List HdS} (h : RMd wr S rp N s A c B d hs) (hB : Below wr.heap.size wr W) : RMd W S rp N s A c B d hs := h.kept (Kept.of_below hB (fun _ => False)) (fun _ e => e.elim) (fun e => e)
/-- More may change, of what is new. -/
theorem RMd.more {wr : World} {S S' : Nat → Prop} {rp N : Nat} {s : MS} {A : Option Addr} {c : Nat} {B : Option Addr} {d : Nat} {hs : List HdS} (h : RMd wr S rp N s A c B d hs) (hS : ∀ k, S' k → S k ∨ wr.heap.size ≤ k) (hr : S' rp) : RMd wr S' rp N s A c B d hs :=
  have hk2 : ∀ W', Kept wr W' S' → Kept wr W' S := fun W' h2 => ⟨h2.1, fun i hi hn => h2.2 i hi (fun e => (hS i e).elim hn (fun h3 => by omega))⟩
  ⟨h.blk, hr, h.nc, h.hc, h.hd, fun W' h2 => h.now W' (hk2 W' h2), fun W' h2 => h.row W' (hk2 W' h2), fun x hx => ⟨(h.each x hx).1, (h.each x hx).2.1, fun W' h2 => (h.each x hx).2.2 W' (hk2 W' h2)⟩, h.nle, h.hle, h.asc, h.asch, h.zero⟩
theorem RMd.mono {wr : World} {S : Nat → Prop} {rp N N' : Nat} {s : MS} {A : Option Addr} {c : Nat} {B : Option Addr} {d : Nat} {hs : List HdS} (h : RMd wr S rp N s A c B d hs) (hn : N ≤ N') : RMd wr S rp N' s A c B d hs :=
  ⟨h.blk, h.rp, h.nc, h.hc, h.hd, h.now, h.row, fun x hx => ⟨(h.each x hx).1, Nat.le_trans (h.each x hx).2.1 hn, (h.each x hx).2.2⟩, Nat.le_trans h.nle hn, Nat.le_trans h.hle hn, h.asc, h.asch, h.zero⟩
/-- Element i of the row of pictures. -/
theorem at_hd {w : World} {B : Option Addr} {hs : List HdS} (h : Kd.C kHR w B hs.length (hs.map HdS.raw)) (i : Nat) (hi : i < hs.length) : ∃ ad, B = some ad ∧
    w.cell? (ad.add (i * 2)) = some (.int .u64 hs[i].h) ∧ w.cell? ⟨(ad.add (i * 2)).block, (ad.add (i * 2)).off + 1, none⟩ = some (.slice hs[i].A hs[i].l.length hs[i].c) := by
  obtain ⟨ad, c, e, _, hK, hc0⟩ := Kd.C_get h (HdS.raw ⟨0, [], none, 0⟩) (i : Int) (by omega) (by omega)
  have hx : (hs.map HdS.raw).getD (i : Int).toNat (HdS.raw ⟨0, [], none, 0⟩) = hs[i].raw := by rw [Int.toNat_natCast]; simp [List.getD_eq_getElem?_getD, hi]
  rw [hx] at hK
  have hc : c = [.int .u64 hs[i].h, .slice hs[i].A hs[i].l.length hs[i].c] := hK
  rw [hc] at hc0
  have h0 := hc0 0 _ rfl
  have h1 := hc0 1 _ rfl
  rw [Int.toNat_natCast] at h0 h1
  refine ⟨ad, e, h0, ?_⟩
  rw [← add_field _ _ 1 (by omega)]; exact h1
end Go.Proofs.Ytngocadnbpdnoaa.Mo
namespace Go.Proofs.Ytngocadnbpdnoaa.Mo
open Go Go.Maps Go.RowKit Go.Proofs.Ytngocadnbpdnoaa.Srt Go.Proofs.Ytngocadnbpdnoaa.Q Go.Proofs.YtngocadnbpdnoaaW.PrintWords Go.Proofs.YtngocadnbpdnoaaW.PrintLast Go.Proofs.YtngocadnbpdnoaaW.PrintMore
set_option linter.unusedVariables false
set_option linter.unusedSimpArgs false
section
variable {w : World} {S : Nat → Prop} {rp N : Nat} {s : MS} {A : Option Addr} {c : Nat} {B : Option Addr} {d : Nat} {hs : List HdS}
theorem RMd.c0 (h : RMd w S rp N s A c B d hs) : w.cell? ⟨rp, 0, none⟩ = some (.int .i64 s.multi) := by rw [blk_cell h.blk]; rfl
theorem RMd.c1 (h : RMd w S rp N s A c B d hs) : w.cell? ⟨rp, 1, none⟩ = some (.slice A s.now.length c) := by rw [blk_cell h.blk]; rfl
theorem RMd.c2 (h : RMd w S rp N s A c B d hs) : w.cell? ⟨rp, 2, none⟩ = some (.slice B hs.length d) := by rw [blk_cell h.blk]; rfl
set_option maxHeartbeats 4000000 in
/-- Where a handle is held: behind i0 others; at i0, if there is such. -/
theorem place_c (h : RMd w S rp N s A c B d hs) (hdl : Int) (i0 : Nat) (hi0 : i0 ≤ hs.length) (hno : ∀ j (hj : j < hs.length), j < i0 → hs[j].h ≠ hdl) (hyes : ∀ (hj : i0 < hs.length), hs[i0].h = hdl) (hN : N ≤ 1099511627776) :
    Calls Try.prog 50 #[.pointer (some ⟨rp, 0, none⟩), .int .u64 hdl] w fun e w' => e = .returned (.int .i64 (if i0 < hs.length then (i0 : Int) else -1)) ∧ w = w' := by
  have c2 := h.c2
  have hl := h.hle
  have HR := Lib.hid (h.row w (Kept.refl _ _))
  have HNO := Lib.hid hno
  have HYES := Lib.hid hyes
  clear h hno hyes
  obtain ⟨r, hr⟩ : ∃ r : Int, r = (if i0 < hs.length then (i0 : Int) else -1) := ⟨_, rfl⟩
  rw [← hr]
  have HRR := Lib.hid hr
  clear hr
  go_enter Try.func50, Try.ntmps50
  go_wp2
  go_loop [5] (fun v5 => ∃ k : Nat, v5 = .int .i64 k ∧ k ≤ i0) (fun v5 => hs.length - (intOf v5).toNat)
  case atStart => exact ⟨0, rfl, Nat.zero_le _⟩
  case round =>
    obtain ⟨k, rfl, hk⟩ := hrel
    by_cases hlt : k < hs.length
    · obtain ⟨ad, rfl, y0, y1⟩ := at_hd HR.out k hlt
      by_cases hk0 : k < i0
      · have hne : (hs[k].h == hdl) = false := beq_eq_false_iff_ne.2 (HNO.out k hlt hk0)
        obtain ⟨q, hq⟩ : ∃ q, q = hs[k].h := ⟨_, rfl⟩
        rw [← hq] at y0 hne
        clear hq y1
        go_wp2
        go_round
        case rel => exact ⟨k + 1, by go_num, by omega⟩
        case measure => simp [intOf]; omega
      · obtain rfl : k = i0 := by omega
        have heq : (hs[k].h == hdl) = true := beq_iff_eq.2 (HYES.out hlt)
        obtain ⟨q, hq⟩ : ∃ q, q = hs[k].h := ⟨_, rfl⟩
        rw [← hq] at y0 heq
        clear hq y1
        go_wp2
        go_ret
        obtain rfl : r = (k : Int) := by rw [HRR.out]; simp [hlt]
        exact ⟨rfl, rfl⟩
    · obtain rfl : k = i0 := by omega
      go_wp2
      go_ret
      obtain rfl : r = -1 := by rw [HRR.out]; simp [hlt]
      exact ⟨rfl, rfl⟩
end
/-- A handle that is not held, and one that is. -/
theorem place_none {w : World} {S : Nat → Prop} {rp N : Nat} {s : MS} {A : Option Addr} {c : Nat} {B : Option Addr} {d : Nat} {hs : List HdS} (h : RMd w S rp N s A c B d hs) (hdl : Int) (hf : fnd s.held hdl = none) (hN : N ≤ 1099511627776) :
    Calls Try.prog 50 #[.pointer (some ⟨rp, 0, none⟩), .int .u64 hdl] w fun e w' => e = .returned (.int .i64 (-1)) ∧ w = w' := by
  have hno : ∀ j (hj : j < hs.length), hs[j].h ≠ hdl := fun j hj e => by
    have hm : (hs[j].h, hs[j].l) ∈ s.held := by rw [h.hd]; exact List.mem_map.2 ⟨hs[j], List.getElem_mem hj, rfl⟩
    have := fnd_of_mem h.asch hm
    rw [show (hs[j].h, hs[j].l).1 = hdl from e, hf] at this
    cases this
  have := place_c h hdl hs.length (Nat.le_refl _) (fun j hj _ => hno j hj) (fun hj => absurd hj (Nat.lt_irrefl _)) hN
  rw [if_neg (Nat.lt_irrefl _)] at this
  exact this
theorem place_some {w : World} {S : Nat → Prop} {rp N : Nat} {s : MS} {A : Option Addr} {c : Nat} {B : Option Addr} {d : Nat} {hs : List HdS} (h : RMd w S rp N s A c B d hs) (hdl : Int) (l : PL) (hf : fnd s.held hdl = some l) (hN : N ≤ 1099511627776) :
    ∃ i, ∃ hi : i < hs.length, hs[i].h = hdl ∧ hs[i].l = l ∧ Calls Try.prog 50 #[.pointer (some ⟨rp, 0, none⟩), .int .u64 hdl] w fun e w' => e = .returned (.int .i64 (i : Int)) ∧ w = w' := by
  have hm := fnd_mem hf
  rw [h.hd] at hm
  obtain ⟨x, hx, e⟩ := List.mem_map.1 hm
  obtain ⟨i, hi, rfl⟩ := List.getElem_of_mem hx
  have e1 : hs[i].h = hdl := congrArg Prod.fst e
  have e2 : hs[i].l = l := congrArg Prod.snd e
  refine ⟨i, hi, e1, e2, ?_⟩
  have hno : ∀ j (hj : j < hs.length), j < i → hs[j].h ≠ hdl := fun j hj hji e3 => by
    have ha := h.asch
    rw [h.hd] at ha
    have := List.pairwise_iff_getElem.1 ha j i (by simpa using hj) (by simpa using hi) hji
    simp only [List.getElem_map] at this
    omega
  have := place_c h hdl i (by omega) hno (fun _ => e1) hN
  rw [if_pos hi] at this
  exact this
set_option maxHeartbeats 4000000 in
theorem what_none {w : World} {S : Nat → Prop} {rp N : Nat} {s : MS} {A : Option Addr} {c : Nat} {B : Option Addr} {d : Nat} {hs : List HdS} (h : RMd w S rp N s A c B d hs) (hdl : Int) (hf : fnd s.held hdl = none) (hN : N ≤ 1099511627776) :
    Calls Try.prog 47 #[.pointer (some ⟨rp, 0, none⟩), .int .u64 hdl] w fun e w' => e = .returned (.tuple #[.slice none 0 0, .bool false]) ∧ w = w' := by
  have hP := place_none h hdl hf hN
  clear h hf
  go_enter Try.func47, Try.ntmps47
  go_wp2_with (go_at_call 50; refine hP.mono ?_; rintro e w1 ⟨rfl, rfl⟩)
  go_ret2
  exact ⟨rfl, rfl⟩
set_option maxHeartbeats 4000000 in
theorem what_some {w : World} {S : Nat → Prop} {rp N : Nat} {s : MS} {A : Option Addr} {c : Nat} {B : Option Addr} {d : Nat} {hs : List HdS} (h : RMd w S rp N s A c B d hs) (hdl : Int) (l : PL) (hf : fnd s.held hdl = some l) (hN : N ≤ 1099511627776) :
    Calls Try.prog 47 #[.pointer (some ⟨rp, 0, none⟩), .int .u64 hdl] w fun e w' => ∃ A1 c1, e = .returned (.tuple #[.slice A1 (toS l).length c1, .bool true]) ∧ (toS l).length ≤ c1 ∧ (∀ W', Kept w W' S → Kd.C kSP W' A1 (toS l).length (toS l)) ∧ w = w' := by
  obtain ⟨i, hi, e1, e2, hP⟩ := place_some h hdl l hf hN
  have hE := h.each hs[i] (List.getElem_mem hi)
  obtain ⟨ad, rfl, y0, y1⟩ := at_hd (h.row w (Kept.refl _ _)) i hi
  have c2 := h.c2
  have hl := h.hle
  obtain ⟨A1, hA1⟩ : ∃ x, x = hs[i].A := ⟨_, rfl⟩
  obtain ⟨c1, hc1⟩ : ∃ x, x = hs[i].c := ⟨_, rfl⟩
  rw [e2, ← hA1, ← hc1] at y1
  rw [e2, ← hA1, ← hc1] at hE
  rw [← toS_length] at hE y1
  have HE := Lib.hid hE
  clear h hf hE e1 e2 hA1 hc1 y0
  go_enter Try.func47, Try.ntmps47
  go_wp2_with (go_at_call 50; refine hP.mono ?_; rintro e w1 ⟨rfl, rfl⟩)
  go_ret2
  exact ⟨_, _, rfl, HE.out.1, HE.out.2.2, rfl⟩
theorem contentR_c {w : World} {S : Nat → Prop} {rp N : Nat} {s : MS} {A : Option Addr} {c : Nat} {B : Option Addr} {d : Nat} {hs : List HdS} (h : RMd w S rp N s A c B d hs) :
    Calls Try.prog 45 #[.pointer (some ⟨rp, 0, none⟩)] w fun e w' => e = .returned (.slice A s.now.length c) ∧ w = w' := by
  have c1 := h.c1
  clear h
  go_enter Try.func45, Try.ntmps45
  go_wp2
  go_ret
  exact ⟨rfl, rfl⟩
end Go.Proofs.Ytngocadnbpdnoaa.Mo
namespace Go.Proofs.Ytngocadnbpdnoaa.Mo
open Go Go.Maps Go.RowKit Go.Proofs.Ytngocadnbpdnoaa.Srt Go.Proofs.Ytngocadnbpdnoaa.Q Go.Proofs.YtngocadnbpdnoaaW.PrintWords Go.Proofs.YtngocadnbpdnoaaW.PrintLast Go.Proofs.YtngocadnbpdnoaaW.PrintMore
set_option linter.unusedVariables false
set_option linter.unusedSimpArgs false
theorem infoH : (Try.prog.info? 130).map (fun i => (i.zero, i.size, i.bytes)) = some (some (.agg #[.int .u64 0, .slice none 0 0]), 2, 32) := by kernel_rfl
/-- A pair less. -/
theorem asc_erase {β : Type} : ∀ (l : List (Int × β)) (i : Nat) (hi : i < l.length), Asc l → l.take i ++ l.drop (i + 1) = del l l[i].1
  | [], i, hi, _ => absurd hi (Nat.not_lt_zero _)
  | p :: r, 0, hi, ha => by
    have h1 : ∀ q ∈ r, (!(q.1 == p.1)) = true := fun q hq => by
      have := asc_head ha q hq
      simp; omega
    show r = List.filter (fun q => !(q.1 == p.1)) (p :: r)
    rw [List.filter_cons_of_neg (by simp), List.filter_eq_self.2 h1]
  | p :: r, i + 1, hi, ha => by
    have hi' : i < r.length := by simpa using hi
    have h1 : p.1 < (r[i]).1 := asc_head ha _ (List.getElem_mem hi')
    show p :: (r.take i ++ r.drop (i + 1)) = List.filter (fun q => !(q.1 == (r[i]).1)) (p :: r)
    rw [asc_erase r i hi' (asc_tail ha), List.filter_cons_of_pos (by simp; omega)]
    rfl
theorem wpostH {α : Type} {d : Kd α} {W : World} {S : Nat → Prop} {A : Option Addr} {n : Nat} {xs : List α} {e base : Nat} {c : Nat} (h : d.R e W base (fun _ => True) (.slice A n c) xs) (hb : ∀ k, S k → k < base) : ∀ W', Kept W W' S → d.C W' A n xs :=
  Kd.C_kept_own (Kd.R_mono (ok' := fun k => base ≤ k) (Kd.R_bound h) (fun k hk => hk.2.1)) (fun k h1 h2 => by have := hb k h2; omega)
set_option maxHeartbeats 4000000 in
theorem drop_c {w : World} {S : Nat → Prop} {rp N : Nat} {s : MS} {A : Option Addr} {c : Nat} {B : Option Addr} {d : Nat} {hs : List HdS} (h : RMd w S rp N s A c B d hs) (i : Nat) (hi : i < hs.length) (hN : N ≤ 1099511627776) (hS : ∀ k, S k → k < w.heap.size) :
    Calls Try.prog 56 #[.pointer (some ⟨rp, 0, none⟩), .int .i64 i] w fun e w' => e = .returned (.tuple #[]) ∧ (∃ B' d', RMd w' S rp N ⟨s.multi, s.now, del s.held hs[i].h⟩ A c B' d' (hs.take i ++ hs.drop (i + 1))) ∧ KO w w' (fun k => k = rp) := by
  have c2 := h.c2
  have hl := h.hle
  have hc := h.hc
  have hR := h.row w (Kept.refl _ _)
  have hu := Try.underlying117
  obtain ⟨i0, hi0, _, hsz0, _⟩ := info_parts infoH
  have hcut1 := cut_to (P := Try.prog) 117 130 .i64 hu hi0 B hs.length d (i : Int) (by omega) (by omega) hc
  have hcut2 := cut_from (P := Try.prog) 117 130 .i64 hu hi0 2 hsz0 B hs.length d ((i + 1 : Nat) : Int) (by omega) (by omega)
  have hR' : Kd.C kHR w B (hs.map HdS.raw).length (hs.map HdS.raw) := by rw [List.length_map]; exact hR
  have hr1 := Kd.C_take (m := i) hR' (by rw [List.length_map]; omega)
  have hr2 := Kd.C_drop (m := i + 1) (c := d) hR' (by rw [List.length_map]; omega) (by rw [List.length_map]; omega)
  obtain ⟨B2, hB2⟩ : ∃ B2, B2 = (if d = i + 1 then B else B.map (·.add ((i + 1) * 2))) := ⟨_, rfl⟩
  replace hcut1 : ∀ W : World, (Instr.slice 117 (.slice B hs.length d) none (some (.int .i64 (i : Int))) none).run Try.prog W = .ok (.slice B i d) W := by simpa only [Int.toNat_natCast] using hcut1
  replace hcut2 : ∀ W : World, (Instr.slice 117 (.slice B hs.length d) (some (.int .i64 ((i : Int) + 1))) none none).run Try.prog W = .ok (.slice B2 (hs.length - (i + 1)) (d - (i + 1))) W := by
    rw [hB2]
    have e : ((i + 1 : Nat) : Int).toNat = i + 1 := Int.toNat_natCast _
    rw [e] at hcut2
    exact hcut2
  have HR1 : Hid (Kd.C kHR w B i ((hs.map HdS.raw).take i)) := Lib.hid (by
    have e : ((hs.map HdS.raw).take i).length = i := by rw [List.length_take, List.length_map]; omega
    rw [e] at hr1; exact hr1)
  have HR2 : Hid (Kd.C kHR w B2 (hs.length - (i + 1)) ((hs.map HdS.raw).drop (i + 1))) := Lib.hid (by
    have e : ((hs.map HdS.raw).drop (i + 1)).length = hs.length - (i + 1) := by rw [List.length_drop, List.length_map]
    rw [e] at hr2; rw [hB2]; exact hr2)
  have HH := Lib.hid h
  have HBK := Lib.hid h.blk
  have HSS := Lib.hid hS
  have hrp := blk_lt h.blk
  clear h hR hR' hr1 hr2 hB2 hS hi0 hsz0 c2
  have c2 : w.cell? ⟨rp, 2, none⟩ = some (.slice B hs.length d) := HH.out.c2
  go_enter Try.func56, Try.ntmps56
  go_wp2_with (first | (at_builtin; refine Kd.R_append_rows kHR (w0 := w) w.heap.size rfl (.tmp 5) (.tmp 11) 117 130 (.agg #[.int .u64 0, .slice none 0 0]) 32 rfl hu infoH rfl (by decide) (by omega) (.slice none 0 0) ([] : List (Raw 2)) ((hs.map HdS.raw).take i) B i d (fun _ => True) (fun _ => False) rfl rfl (Kd.R_nil _ _ _ _ _) HR1.out (fun _ _ h => h) (fun _ h => h.elim) (fun _ _ => trivial) (Below.refl _ _) (Nat.le_refl _) ?aL ?_))
  case aL => simp only [List.length_nil]; omega
  intro v1 w1 h1 h2 h3 h4
  clear h3 h4
  obtain ⟨A1, n1, rfl⟩ := Kd.R_slice h1
  have e1 : ((hs.map HdS.raw).take i).length = i := by rw [List.length_take, List.length_map]; omega
  rw [e1] at h1 ⊢
  have c21 : w1.cell? ⟨rp, 2, none⟩ = some (.slice B hs.length d) := by rw [h2.cell (p := ⟨rp, 2, none⟩) hrp]; exact c2
  have H1 := Lib.hid h1
  have H2 := Lib.hid h2
  have hz1 := h2.size
  clear h1 h2 e1
  go_wp2_with (first | (at_builtin; refine Kd.R_append_rows kHR (w0 := w) w.heap.size rfl (.tmp 14) (.tmp 21) 117 130 (.agg #[.int .u64 0, .slice none 0 0]) 32 rfl hu infoH rfl (by decide) (by omega) (.slice A1 i n1) ((hs.map HdS.raw).take i) ((hs.map HdS.raw).drop (i + 1)) B2 (hs.length - (i + 1)) (d - (i + 1)) (fun _ => True) (fun _ => False) rfl rfl H1.out (Kd.C_below HR2.out H2.out) (fun _ _ h => h) (fun _ h => h.elim) (fun _ _ => trivial) H2.out hz1 ?aL ?_))
  case aL => rw [List.length_take, List.length_map]; omega
  intro v2 w2 h1 h2 h3 h4
  clear h3 h4
  obtain ⟨A2, n2, rfl⟩ := Kd.R_slice h1
  obtain ⟨m2, hm2⟩ : ∃ m2, m2 = ((hs.map HdS.raw).take i ++ (hs.map HdS.raw).drop (i + 1)).length := ⟨_, rfl⟩
  rw [← hm2] at h1 ⊢
  have HM2 := Lib.hid hm2
  clear hm2
  have c22 : w2.cell? ⟨rp, 2, none⟩ = some (.slice B hs.length d) := by rw [h2.cell (p := ⟨rp, 2, none⟩) hrp]; exact c2
  have f22 : w2.frozen? ⟨rp, 2, none⟩ = false := by rw [h2.frozen (p := ⟨rp, 2, none⟩) hrp]; exact blk_frozen HBK.out 2
  have hz2 := h2.size
  have H3 := Lib.hid h1
  have H4 := Lib.hid h2
  clear h1 h2
  go_wp2_with fail
  go_end0
  have hxs : (hs.map HdS.raw).take i ++ (hs.map HdS.raw).drop (i + 1) = (hs.take i ++ hs.drop (i + 1)).map HdS.raw := by rw [List.map_append, List.map_take, List.map_drop]
  have hlen : m2 = (hs.take i ++ hs.drop (i + 1)).length := by rw [HM2.out, hxs, List.length_map]
  have hb2 := blk_below HBK.out H4.out
  have hk2 : Kept w2 (w2.setCell ⟨rp, 2, none⟩ (.slice A2 m2 n2)) (fun k => k = rp) := ⟨by simp, fun k _ hk => Below.heap_setCell w2 _ _ k (fun e => hk e)⟩
  have hK := (Kept.of_below H4.out (fun k => k = rp)).then_ hk2 (fun k e => .inl e)
  have hsub : ∀ x ∈ hs.take i ++ hs.drop (i + 1), x ∈ hs := fun x hx => by
    rcases List.mem_append.1 hx with hx | hx
    · exact List.mem_of_mem_take hx
    · exact List.mem_of_mem_drop hx
  have hheld : del s.held hs[i].h = (hs.take i ++ hs.drop (i + 1)).map (fun x => (x.h, x.l)) := by
    have ha := HH.out.asch
    have hd := HH.out.hd
    rw [hd] at ha ⊢
    have := asc_erase _ i (by simpa using hi) ha
    rw [List.getElem_map] at this
    rw [← this, List.map_append, List.map_take, List.map_drop]
  have hKS : ∀ W', Kept (w2.setCell ⟨rp, 2, none⟩ (.slice A2 m2 n2)) W' S → Kept w W' S := fun W' h2 => (hK.mono (fun k e => by rw [e]; exact HH.out.rp)).then_ h2 (fun k e => .inl e)
  refine ⟨rfl, ⟨A2, n2, ⟨?_, HH.out.rp, HH.out.nc, ?_, hheld, fun W' h2 => HH.out.now W' (hKS W' h2), ?_, fun x hx => ⟨(HH.out.each x (hsub x hx)).1, (HH.out.each x (hsub x hx)).2.1, fun W' h2 => (HH.out.each x (hsub x hx)).2.2 W' (hKS W' h2)⟩, HH.out.nle, ?_, HH.out.asc, asc_del HH.out.asch _, ?_⟩⟩, ?_⟩
  · rw [← hlen]; exact blk_put hb2 2 _ rfl
  · rw [← hlen]; exact (Kd.R_reads' H3.out).2.1
  · have hw2 := wpostH H3.out (S := S) HSS.out
    rw [← hlen, ← hxs]
    exact fun W' h2 => hw2 W' ((hk2.mono (fun k e => by rw [e]; exact HH.out.rp)).then_ h2 (fun k e => .inl e))
  · have : (hs.take i ++ hs.drop (i + 1)).length ≤ hs.length := by rw [List.length_append, List.length_take, List.length_drop]; omega
    have := HH.out.hle
    omega
  · by_cases e0 : (0 : Int) = hs[i].h
    · rw [← e0]; exact fnd_del_same _ _
    · rw [show (⟨s.multi, s.now, del s.held hs[i].h⟩ : MS).held = del s.held hs[i].h from rfl, fnd_del_other _ _ e0]; exact HH.out.zero
  · exact ⟨hK, H4.out.os, H4.out.tape, H4.out.output⟩
end Go.Proofs.Ytngocadnbpdnoaa.Mo
namespace Go.Proofs.Ytngocadnbpdnoaa.Mo
open Go Go.Maps Go.RowKit Go.Proofs.Ytngocadnbpdnoaa.Srt Go.Proofs.Ytngocadnbpdnoaa.Q Go.Proofs.YtngocadnbpdnoaaW.PrintWords Go.Proofs.YtngocadnbpdnoaaW.PrintLast Go.Proofs.YtngocadnbpdnoaaW.PrintMore
set_option linter.unusedVariables false
set_option linter.unusedSimpArgs false
theorem put_split {β : Type} (k : Int) (v : β) : ∀ (l : List (Int × β)) (i : Nat) (hi : i ≤ l.length), (∀ j (hj : j < l.length), j < i → l[j].1 < k) → (∀ (hj : i < l.length), k < l[i].1) → put l k v = l.take i ++ (k, v) :: l.drop i
  | [], i, hi, _, _ => by
    have : i = 0 := by simpa using hi
    subst this; rfl
  | p :: r, 0, hi, _, h2 => by
    have h := h2 (by simp)
    show (if p.1 < k then p :: put r k v else if p.1 = k then (k, v) :: r else (k, v) :: p :: r) = _
    have hk : k < p.1 := h
    rw [if_neg (by omega), if_neg (by omega)]; rfl
  | p :: r, i + 1, hi, h1, h2 => by
    have h := h1 0 (by simp) (by omega)
    show (if p.1 < k then p :: put r k v else if p.1 = k then (k, v) :: r else (k, v) :: p :: r) = _
    have hk : p.1 < k := h
    rw [if_pos hk, put_split k v r i (by simpa using hi) (fun j hj hji => h1 (j + 1) (by simpa using hj) (by omega)) (fun hj => h2 (by simpa using hj))]
    rfl
theorem kept_set (w : World) (g j : Nat) (v : Value) : Kept w (w.setCell ⟨g, j, none⟩ v) (fun k => k = g) := ⟨by simp, fun k _ hk => Below.heap_setCell w _ _ k (fun e => hk e)⟩
theorem hold_end {w w2 : World} {S : Nat → Prop} {rp N : Nat} {s : MS} {A : Option Addr} {c : Nat} {B : Option Addr} {d : Nat} {hs : List HdS} (h : RMd w S rp N s A c B d hs) (hdl : Int) (k : Nat) (hk : k ≤ hs.length) (h0 : hdl ≠ 0) (hlt : ∀ j (hj : j < hs.length), j < k → hs[j].h < hdl) (hgt : ∀ (hj : k < hs.length), hdl < hs[k].h)
    {A2 : Option Addr} {m2 n2 : Nat} (h3 : Kd.R kHR 130 w2 w.heap.size (fun _ => True) (.slice A2 m2 n2) ((hs.take k).map HdS.raw ++ [HdS.raw ⟨hdl, s.now, A, c⟩] ++ (hs.map HdS.raw).drop k)) (h4 : Below w.heap.size w w2) (hS : ∀ k, S k → k < w.heap.size) (hm : m2 = ((hs.take k).map HdS.raw ++ [HdS.raw ⟨hdl, s.now, A, c⟩] ++ (hs.map HdS.raw).drop k).length) :
    RMd (w2.setCell ⟨rp, 2, none⟩ (.slice A2 m2 n2)) S rp (N + 1) ⟨s.multi, s.now, put s.held hdl s.now⟩ A c A2 n2 (hs.take k ++ ⟨hdl, s.now, A, c⟩ :: hs.drop k) := by
  have hxs : (hs.take k).map HdS.raw ++ [HdS.raw ⟨hdl, s.now, A, c⟩] ++ (hs.map HdS.raw).drop k = (hs.take k ++ ⟨hdl, s.now, A, c⟩ :: hs.drop k).map HdS.raw := by
    rw [List.map_append, List.map_cons, List.append_assoc, ← List.map_drop]; rfl
  have hlen : m2 = (hs.take k ++ ⟨hdl, s.now, A, c⟩ :: hs.drop k).length := by rw [hm, hxs, List.length_map]
  have hl2 : (hs.take k ++ (⟨hdl, s.now, A, c⟩ : HdS) :: hs.drop k).length = hs.length + 1 := by rw [List.length_append, List.length_cons, List.length_take, List.length_drop]; omega
  have hb2 := blk_below h.blk h4
  have hk2 := kept_set w2 rp 2 (.slice A2 m2 n2)
  have hK := (Kept.of_below h4 (fun k => k = rp)).then_ hk2 (fun k e => .inl e)
  have hKS : ∀ W', Kept (w2.setCell ⟨rp, 2, none⟩ (.slice A2 m2 n2)) W' S → Kept w W' S := fun W' h2 => (hK.mono (fun k e => by rw [e]; exact h.rp)).then_ h2 (fun k e => .inl e)
  have hheld : put s.held hdl s.now = (hs.take k ++ (⟨hdl, s.now, A, c⟩ : HdS) :: hs.drop k).map (fun x => (x.h, x.l)) := by
    have hd := h.hd
    rw [hd, put_split hdl s.now _ k (by simpa using hk) (fun j hj hji => by rw [List.getElem_map]; exact hlt j (by simpa using hj) hji) (fun hj => by rw [List.getElem_map]; exact hgt (by simpa using hj)), List.map_append, List.map_cons, List.map_take, List.map_drop]
  refine ⟨?_, h.rp, h.nc, ?_, hheld, fun W' h2 => h.now W' (hKS W' h2), ?_, fun x hx => ?_, Nat.le_succ_of_le h.nle, ?_, h.asc, asc_put h.asch _ _, ?_⟩
  · rw [← hlen]; exact blk_put hb2 2 _ rfl
  · rw [← hlen]; exact (Kd.R_reads' h3).2.1
  · have hw2 := wpostH h3 (S := S) hS
    rw [← hlen, ← hxs]
    exact fun W' h2 => hw2 W' ((hk2.mono (fun k e => by rw [e]; exact h.rp)).then_ h2 (fun k e => .inl e))
  · have hx2 : x = ⟨hdl, s.now, A, c⟩ ∨ x ∈ hs := by
      rcases List.mem_append.1 hx with hx | hx
      · exact .inr (List.mem_of_mem_take hx)
      · rcases List.mem_cons.1 hx with hx | hx
        · exact .inl hx
        · exact .inr (List.mem_of_mem_drop hx)
    rcases hx2 with rfl | hx2
    · exact ⟨h.nc, Nat.le_succ_of_le h.nle, fun W' h2 => h.now W' (hKS W' h2)⟩
    · exact ⟨(h.each x hx2).1, Nat.le_succ_of_le (h.each x hx2).2.1, fun W' h2 => (h.each x hx2).2.2 W' (hKS W' h2)⟩
  · have := h.hle; omega
  · rw [show (⟨s.multi, s.now, put s.held hdl s.now⟩ : MS).held = put s.held hdl s.now from rfl, fnd_put_other _ _ _ (Ne.symm h0)]; exact h.zero
set_option maxRecDepth 100000 in
set_option maxHeartbeats 8000000 in
theorem hold_c {w : World} {S : Nat → Prop} {rp N : Nat} {s : MS} {A : Option Addr} {c : Nat} {B : Option Addr} {d : Nat} {hs : List HdS} (h : RMd w S rp N s A c B d hs) (hdl : Int) (hf : fnd s.held hdl = none) (h0 : hdl ≠ 0) (hN : N ≤ 1099511627776) (hS : ∀ k, S k → k < w.heap.size) :
    Calls Try.prog 55 #[.pointer (some ⟨rp, 0, none⟩), .int .u64 hdl] w fun e w' => e = .returned (.tuple #[]) ∧ (∃ B' d' hs', RMd w' S rp (N + 1) ⟨s.multi, s.now, put s.held hdl s.now⟩ A c B' d' hs') ∧ KO w w' (fun k => k = rp) := by
  have hl := h.hle
  have hc := h.hc
  have HH := Lib.hid h
  have HF := Lib.hid hf
  have HZ := Lib.hid h0
  have HBK := Lib.hid h.blk
  have HSS := Lib.hid hS
  have hrp := blk_lt h.blk
  have hu := Try.underlying117
  have HROW := Lib.hid (h.row w (Kept.refl _ _))
  clear h hf h0 hS
  have c1 : w.cell? ⟨rp, 1, none⟩ = some (.slice A s.now.length c) := HH.out.c1
  have c2 : w.cell? ⟨rp, 2, none⟩ = some (.slice B hs.length d) := HH.out.c2
  have C1 := Lib.hid c1
  have C2 := Lib.hid c2
  go_enter Try.func55, Try.ntmps55
  go_wp2
  go_loopw [4, 5] (fun v4 v5 wr => ∃ k : Nat, v5 = .int .i64 k ∧ k ≤ hs.length ∧ Hid (∀ j (hj : j < hs.length), j < k → hs[j].h < hdl) ∧ Hid (Kd.R kHR 130 wr w.heap.size (fun _ => True) v4 ((hs.take k).map HdS.raw)) ∧ Hid (Below w.heap.size w wr))
    (fun _ v5 _ => hs.length - (intOf v5).toNat)
  case atStart => exact ⟨0, rfl, Nat.zero_le _, Lib.hid (fun j _ hj => absurd hj (Nat.not_lt_zero _)), Lib.hid (Kd.R_nil _ _ _ _ _), Lib.hid (Below.refl _ _)⟩
  case round =>
    obtain ⟨k, rfl, hk, HLT, HO, HB⟩ := hrel
    obtain ⟨xs, hxs⟩ : ∃ xs, xs = (hs.take k).map HdS.raw := ⟨_, rfl⟩
    rw [← hxs] at HO
    have HXS := Lib.hid hxs
    have hxl : xs.length = k := by rw [hxs, List.length_map, List.length_take]; omega
    clear hxs
    obtain ⟨A4, n4, rfl⟩ := Kd.R_slice HO.out
    rw [hxl] at HO ⊢
    have HXL := Lib.hid hxl
    clear hxl
    have hz := HB.out.size
    have c1r : wr.cell? ⟨rp, 1, none⟩ = some (.slice A s.now.length c) := by rw [HB.out.cell (p := ⟨rp, 1, none⟩) hrp]; exact C1.out
    have c2r : wr.cell? ⟨rp, 2, none⟩ = some (.slice B hs.length d) := by rw [HB.out.cell (p := ⟨rp, 2, none⟩) hrp]; exact C2.out
    clear c1 c2
    by_cases hgo : ∃ hlt : k < hs.length, hs[k].h < hdl
    · obtain ⟨hlt, hlh⟩ := hgo
      obtain ⟨ad, rfl, y0, y1⟩ := at_hd (Kd.C_below HROW.out HB.out) k hlt
      obtain ⟨x, hx⟩ : ∃ x, x = hs[k] := ⟨_, rfl⟩
      rw [← hx] at y0 y1 hlh
      have HX := Lib.hid hx
      have hdec : decide (x.h < hdl) = true := decide_eq_true hlh
      have HLH := Lib.hid hlh
      clear hx hlh
      go_wp2_with (first | (at_builtin; refine Kd.R_append kHR (w0 := w) w.heap.size rfl (.tmp 25) (.tmp 33) 117 130 (.agg #[.int .u64 0, .slice none 0 0]) 32 rfl hu infoH rfl (by decide) (by omega) (.slice A4 k n4) xs x.raw [.int .u64 x.h, .slice x.A x.l.length x.c] (fun _ => True) (fun _ => False) rfl rfl rfl (fun _ hk => hk.elim) (fun _ _ => trivial) HO.out HB.out hz ?aL ?_))
      case aL => rw [HXL.out]; omega
      intro v1 w1 h1 h2 h3 h4
      have H1 := Lib.hid h1
      have H2 := Lib.hid h2
      clear h1 h2 h3 h4
      obtain ⟨A5, n5, rfl⟩ := Kd.R_slice H1.out
      go_wp2_with fail
      go_roundw
      case rel => exact ⟨k + 1, by go_num, by omega, Lib.hid (fun j hj hji => by
        by_cases e : j = k
        · subst e; rw [← HX.out]; exact HLH.out
        · exact HLT.out j hj (by omega)), Lib.hid (by
        rw [List.take_succ_eq_append_getElem hlt, List.map_append, ← HXS.out, List.map_singleton, ← HX.out]; exact H1.out), H2⟩
      case measure => simp [intOf]; omega
    · have HGT : Hid (∀ (hj : k < hs.length), hdl < hs[k].h) := Lib.hid (fun hj => by
        have h1 : ¬ hs[k].h < hdl := fun e => hgo ⟨hj, e⟩
        have h2 : hs[k].h ≠ hdl := fun e => by
          have hm : (hs[k].h, hs[k].l) ∈ s.held := by rw [HH.out.hd]; exact List.mem_map.2 ⟨hs[k], List.getElem_mem hj, rfl⟩
          have := fnd_of_mem HH.out.asch hm
          rw [show (hs[k].h, hs[k].l).1 = hdl from e, HF.out] at this
          cases this
        omega)
      have hcase : (k < hs.length) ∨ hs.length ≤ k := by omega
      obtain ⟨i0, hi0, _, hsz0, _⟩ := info_parts infoH
      have hcut := cut_from (P := Try.prog) 117 130 .i64 hu hi0 2 hsz0 B hs.length d (k : Int) (by omega) (by omega)
      have hR' : Kd.C kHR w B (hs.map HdS.raw).length (hs.map HdS.raw) := by rw [List.length_map]; exact HROW.out
      have hr2 := Kd.C_drop (m := k) (c := d) hR' (by rw [List.length_map]; omega) (by rw [List.length_map]; omega)
      obtain ⟨B2, hB2⟩ : ∃ B2, B2 = (if d = k then B else B.map (·.add (k * 2))) := ⟨_, rfl⟩
      have HR2 : Hid (Kd.C kHR w B2 (hs.length - k) ((hs.map HdS.raw).drop k)) := Lib.hid (by
        have e : ((hs.map HdS.raw).drop k).length = hs.length - k := by rw [List.length_drop, List.length_map]
        rw [e] at hr2; rw [hB2]; exact hr2)
      replace hcut : ∀ W : World, (Instr.slice 117 (.slice B hs.length d) (some (.int .i64 (k : Int))) none none).run Try.prog W = .ok (.slice B2 (hs.length - k) (d - k)) W := by
        rw [hB2]
        have e : ((k : Nat) : Int).toNat = k := Int.toNat_natCast _
        rw [e] at hcut
        exact hcut
      have HCUT := Lib.hid hcut
      clear hgo hi0 hsz0 hR' hr2 hB2 hcut
      have hback : ∃ t, t = 0 := ⟨0, rfl⟩
      rcases hcase with hlt | hlt
      · obtain ⟨ad, hBe, y0, y1⟩ := at_hd (Kd.C_below HROW.out HB.out) k hlt
        have hdec : decide (hs[k].h < hdl) = false := decide_eq_false (by have := HGT.out hlt; omega)
        obtain ⟨q, hq⟩ : ∃ q, q = hs[k].h := ⟨_, rfl⟩
        rw [← hq] at y0 hdec
        clear hq y1
        subst hBe
        go_wp2_with (first | (at_builtin; refine Kd.R_append kHR (w0 := w) w.heap.size rfl (.tmp 37) (.tmp 44) 117 130 (.agg #[.int .u64 0, .slice none 0 0]) 32 rfl hu infoH rfl (by decide) (by omega) (.slice A4 k n4) xs (HdS.raw ⟨hdl, s.now, A, c⟩) [.int .u64 hdl, .slice A s.now.length c] (fun _ => True) (fun _ => False) rfl rfl rfl (fun _ hk => hk.elim) (fun _ _ => trivial) HO.out HB.out hz ?aL ?_))
        case aL => rw [HXL.out]; omega
        intro v1 w1 h1 h2 h3 h4
        clear h3 h4
        obtain ⟨ys, hys⟩ : ∃ ys, ys = xs ++ [HdS.raw ⟨hdl, s.now, A, c⟩] := ⟨_, rfl⟩
        rw [← hys] at h1
        have HYS := Lib.hid hys
        have hyl : ys.length = k + 1 := by rw [hys, List.length_append, HXL.out]; rfl
        clear hys
        obtain ⟨A5, n5, rfl⟩ := Kd.R_slice h1
        rw [hyl] at h1 ⊢
        have HYL := Lib.hid hyl
        have H1 := Lib.hid h1
        have H2 := Lib.hid h2
        have hz1 := h2.size
        clear h1 h2 hyl
        have c22 : w1.cell? ⟨rp, 2, none⟩ = some (.slice (some ad) hs.length d) := by rw [H2.out.cell (p := ⟨rp, 2, none⟩) hrp]; exact C2.out
        have hcut := HCUT.out
        go_wp2_with (first | (at_builtin; refine Kd.R_append_rows kHR (w0 := w) w.heap.size rfl (.tmp 47) (.tmp 53) 117 130 (.agg #[.int .u64 0, .slice none 0 0]) 32 rfl hu infoH rfl (by decide) (by omega) (.slice A5 (k + 1) n5) ys ((hs.map HdS.raw).drop k) B2 (hs.length - k) (d - k) (fun _ => True) (fun _ => False) rfl rfl H1.out (Kd.C_below HR2.out H2.out) (fun _ _ h => h) (fun _ h => h.elim) (fun _ _ => trivial) H2.out hz1 ?aL ?_))
        case aL => rw [HYL.out]; omega
        intro v2 w2 h1 h2 h3 h4
        clear h3 h4 hcut
        obtain ⟨A2, n2, rfl⟩ := Kd.R_slice h1
        obtain ⟨m2, hm2⟩ : ∃ m2, m2 = (ys ++ (hs.map HdS.raw).drop k).length := ⟨_, rfl⟩
        rw [← hm2] at h1 ⊢
        have HM2 := Lib.hid hm2
        clear hm2
        have c23 : w2.cell? ⟨rp, 2, none⟩ = some (.slice (some ad) hs.length d) := by rw [h2.cell (p := ⟨rp, 2, none⟩) hrp]; exact C2.out
        have f23 : w2.frozen? ⟨rp, 2, none⟩ = false := by rw [h2.frozen (p := ⟨rp, 2, none⟩) hrp]; exact blk_frozen HBK.out 2
        have H3 := Lib.hid h1
        have H4 := Lib.hid h2
        clear h1 h2
        go_wp2_with fail
        go_end0
        refine ⟨rfl, ⟨A2, n2, hs.take k ++ ⟨hdl, s.now, A, c⟩ :: hs.drop k, ?_⟩, ?_⟩
        · exact hold_end HH.out hdl k (by omega) HZ.out HLT.out HGT.out (by rw [HYS.out, HXS.out] at H3; exact H3.out) H4.out HSS.out (by rw [HM2.out, HYS.out, HXS.out])
        · exact ⟨(Kept.of_below H4.out _).then_ (kept_set _ _ _ _) (fun k e => .inl e), H4.out.os, H4.out.tape, H4.out.output⟩
      · have hnl : ¬ k < hs.length := by omega
        clear hlt
        go_wp2_with (first | (at_builtin; refine Kd.R_append kHR (w0 := w) w.heap.size rfl (.tmp 37) (.tmp 44) 117 130 (.agg #[.int .u64 0, .slice none 0 0]) 32 rfl hu infoH rfl (by decide) (by omega) (.slice A4 k n4) xs (HdS.raw ⟨hdl, s.now, A, c⟩) [.int .u64 hdl, .slice A s.now.length c] (fun _ => True) (fun _ => False) rfl rfl rfl (fun _ hk => hk.elim) (fun _ _ => trivial) HO.out HB.out hz ?aL ?_))
        case aL => rw [HXL.out]; omega
        intro v1 w1 h1 h2 h3 h4
        clear h3 h4
        obtain ⟨ys, hys⟩ : ∃ ys, ys = xs ++ [HdS.raw ⟨hdl, s.now, A, c⟩] := ⟨_, rfl⟩
        rw [← hys] at h1
        have HYS := Lib.hid hys
        have hyl : ys.length = k + 1 := by rw [hys, List.length_append, HXL.out]; rfl
        clear hys
        obtain ⟨A5, n5, rfl⟩ := Kd.R_slice h1
        rw [hyl] at h1 ⊢
        have HYL := Lib.hid hyl
        have H1 := Lib.hid h1
        have H2 := Lib.hid h2
        have hz1 := h2.size
        clear h1 h2 hyl
        have c22 : w1.cell? ⟨rp, 2, none⟩ = some (.slice B hs.length d) := by rw [H2.out.cell (p := ⟨rp, 2, none⟩) hrp]; exact C2.out
        have hcut := HCUT.out
        go_wp2_with (first | (at_builtin; refine Kd.R_append_rows kHR (w0 := w) w.heap.size rfl (.tmp 47) (.tmp 53) 117 130 (.agg #[.int .u64 0, .slice none 0 0]) 32 rfl hu infoH rfl (by decide) (by omega) (.slice A5 (k + 1) n5) ys ((hs.map HdS.raw).drop k) B2 (hs.length - k) (d - k) (fun _ => True) (fun _ => False) rfl rfl H1.out (Kd.C_below HR2.out H2.out) (fun _ _ h => h) (fun _ h => h.elim) (fun _ _ => trivial) H2.out hz1 ?aL ?_))
        case aL => rw [HYL.out]; omega
        intro v2 w2 h1 h2 h3 h4
        clear h3 h4 hcut
        obtain ⟨A2, n2, rfl⟩ := Kd.R_slice h1
        obtain ⟨m2, hm2⟩ : ∃ m2, m2 = (ys ++ (hs.map HdS.raw).drop k).length := ⟨_, rfl⟩
        rw [← hm2] at h1 ⊢
        have HM2 := Lib.hid hm2
        clear hm2
        have c23 : w2.cell? ⟨rp, 2, none⟩ = some (.slice B hs.length d) := by rw [h2.cell (p := ⟨rp, 2, none⟩) hrp]; exact C2.out
        have f23 : w2.frozen? ⟨rp, 2, none⟩ = false := by rw [h2.frozen (p := ⟨rp, 2, none⟩) hrp]; exact blk_frozen HBK.out 2
        have H3 := Lib.hid h1
        have H4 := Lib.hid h2
        clear h1 h2
        go_wp2_with fail
        go_end0
        refine ⟨rfl, ⟨A2, n2, hs.take k ++ ⟨hdl, s.now, A, c⟩ :: hs.drop k, ?_⟩, ?_⟩
        · exact hold_end HH.out hdl k (by omega) HZ.out HLT.out HGT.out (by rw [HYS.out, HXS.out] at H3; exact H3.out) H4.out HSS.out (by rw [HM2.out, HYS.out, HXS.out])
        · exact ⟨(Kept.of_below H4.out _).then_ (kept_set _ _ _ _) (fun k e => .inl e), H4.out.os, H4.out.tape, H4.out.output⟩
end Go.Proofs.Ytngocadnbpdnoaa.Mo
namespace Go.Proofs.Ytngocadnbpdnoaa.Mo
open Go Go.Maps Go.RowKit Go.Proofs.Ytngocadnbpdnoaa.Srt Go.Proofs.Ytngocadnbpdnoaa.Q Go.Proofs.YtngocadnbpdnoaaW.PrintWords Go.Proofs.YtngocadnbpdnoaaW.PrintLast Go.Proofs.YtngocadnbpdnoaaW.PrintMore
set_option linter.unusedVariables false
set_option linter.unusedSimpArgs false
/-- What the document's model tells. -/
def TellR (w : World) (d : AnsD) (e : Ending) (w' : World) : Prop :=
  ∃ ps, e = .returned (ansV d.e d.fo d.v d.dn d.h ps d.c) ∧ kSP.R 90 w' w.heap.size (fun _ => True) ps (toS d.ps) ∧ Below w.heap.size w w'
set_option maxRecDepth 100000 in
set_option maxHeartbeats 8000000 in
theorem query_long {w : World} {S : Nat → Prop} {rp N : Nat} {s : MS} {A : Option Addr} {c : Nat} {B : Option Addr} {d : Nat} {hs : List HdS} (h : RMd w S rp N s A c B d hs) (o : OpS) (Ao : Option Addr) (co : Nat) (hN : N ≤ 1099511627776) (hC : Kd.C (Kd.int .u64) w Ao o.f6.length o.f6) (hCc : o.f6.length ≤ co) (hCn : o.f6.length ≤ 1099511627776) (hk : o.f0 = 7) (hlong : s.multi < (o.f6.length : Int)) :
    Calls Try.prog 51 #[.pointer (some ⟨rp, 0, none⟩), .agg (opC o Ao co)] w (TellR w (errD 6)) := by
  have q7 : (o.f0 == 7) = true := by rw [hk]; decide
  have ql : decide (s.multi < (o.f6.length : Int)) = true := decide_eq_true hlong
  have hrp := blk_lt h.blk
  have hl := h.hle
  have HH := Lib.hid (h.below (doW_below w o Ao co))
  have HC := Lib.hid (Kd.C_below hC (doW_below w o Ao co))
  have HB := Lib.hid (doW_below w o Ao co)
  have HO := Lib.hid (doW_op w o Ao co)
  have HA := Lib.hid (doW_ans w o Ao co)
  have hz := doW_size w o Ao co
  clear h hC
  go_enter Try.func51, Try.ntmps51
  go_upto_region 1 with fail
  change Code.wp _ _ _ _ (doW w o Ao co)
  obtain ⟨W0, hW0⟩ : ∃ W0, W0 = doW w o Ao co := ⟨_, rfl⟩
  rw [← hW0] at HH HC HB HO HA hz ⊢
  clear hW0
  obtain ⟨k0, k1, k2, k3, k4, k5, k6, k7, k8, k9, k10⟩ := op_cells HO.out
  have m0 := HH.out.c0
  go_quiet (fail)
  replace HH := Lib.hid (HH.out.below (pw_below_drewN (Below.refl _ W0) nq))
  replace HC := Lib.hid (Kd.C_drewN HC.out nq)
  replace HB := Lib.hid (pw_below_drewN HB.out nq)
  replace HO := Lib.hid (blk_drewN HO.out nq)
  replace HA := Lib.hid (blk_drewN HA.out nq)
  replace hz : (W0.drewN nq).heap.size = w.heap.size + 2 := hz
  clear k0 k1 k2 k3 k4 k5 k6 k7 k8 k9 k10 m0
  obtain ⟨W1, hW1⟩ : ∃ W1, W1 = W0.drewN nq := ⟨_, rfl⟩
  rw [← hW1] at HH HC HB HO HA hz ⊢
  clear hW1
  obtain ⟨k0, k1, k2, k3, k4, k5, k6, k7, k8, k9, k10⟩ := op_cells HO.out
  go_wp2_with (first | ((with_reducible refine gate_store (t := 26) (p := 4) rfl ?_); refine wpList_store_row rfl 26 (.tmp 4) (.tmp 19) rfl (w.heap.size + 1) (ansC 6 false 0 false 0 (.slice none 0 0) 0) rfl rfl 26 _ HA.out (by kernel_rfl) rfl (ansC_one _ _ _ _ _ _ _ _ _) ?_))
  refine bodyPost_ret (res_ans rfl _ rfl (setRow_heap _ _ _ _ _ _ HA.out)) rfl ⟨_, rfl, Kd.R_nil _ _ _ _ _, below_row HB.out (by omega) _⟩
set_option maxRecDepth 100000 in
set_option maxHeartbeats 8000000 in
theorem query_no7 {w : World} {S : Nat → Prop} {rp N : Nat} {s : MS} {A : Option Addr} {c : Nat} {B : Option Addr} {d : Nat} {hs : List HdS} (h : RMd w S rp N s A c B d hs) (o : OpS) (Ao : Option Addr) (co : Nat) (hN : N ≤ 1099511627776) (hC : Kd.C (Kd.int .u64) w Ao o.f6.length o.f6) (hCc : o.f6.length ≤ co) (hCn : o.f6.length ≤ 1099511627776) (hk : o.f0 = 7) (hlong : ¬ s.multi < (o.f6.length : Int)) (hf : fnd s.held o.f4 = none) :
    Calls Try.prog 51 #[.pointer (some ⟨rp, 0, none⟩), .agg (opC o Ao co)] w (TellR w (errD 33)) := by
  have q7 : (o.f0 == 7) = true := by rw [hk]; decide
  have ql : decide (s.multi < (o.f6.length : Int)) = false := decide_eq_false hlong
  have hrp := blk_lt h.blk
  have hl := h.hle
  have HH := Lib.hid (h.below (doW_below w o Ao co))
  have HC := Lib.hid (Kd.C_below hC (doW_below w o Ao co))
  have HB := Lib.hid (doW_below w o Ao co)
  have HO := Lib.hid (doW_op w o Ao co)
  have HA := Lib.hid (doW_ans w o Ao co)
  have hz := doW_size w o Ao co
  clear h hC
  go_enter Try.func51, Try.ntmps51
  go_upto_region 1 with fail
  change Code.wp _ _ _ _ (doW w o Ao co)
  obtain ⟨W0, hW0⟩ : ∃ W0, W0 = doW w o Ao co := ⟨_, rfl⟩
  rw [← hW0] at HH HC HB HO HA hz ⊢
  clear hW0
  obtain ⟨k0, k1, k2, k3, k4, k5, k6, k7, k8, k9, k10⟩ := op_cells HO.out
  have m0 := HH.out.c0
  go_quiet (fail)
  replace HH := Lib.hid (HH.out.below (pw_below_drewN (Below.refl _ W0) nq))
  replace HC := Lib.hid (Kd.C_drewN HC.out nq)
  replace HB := Lib.hid (pw_below_drewN HB.out nq)
  replace HO := Lib.hid (blk_drewN HO.out nq)
  replace HA := Lib.hid (blk_drewN HA.out nq)
  replace hz : (W0.drewN nq).heap.size = w.heap.size + 2 := hz
  clear k0 k1 k2 k3 k4 k5 k6 k7 k8 k9 k10 m0
  obtain ⟨W1, hW1⟩ : ∃ W1, W1 = W0.drewN nq := ⟨_, rfl⟩
  rw [← hW1] at HH HC HB HO HA hz ⊢
  clear hW1
  obtain ⟨k0, k1, k2, k3, k4, k5, k6, k7, k8, k9, k10⟩ := op_cells HO.out
  have hP := place_none HH.out o.f4 hf hN
  go_wp2_with (first
    | (go_at_call 50; refine hP.mono ?_; rintro e w1 ⟨rfl, rfl⟩)
    | ((with_reducible refine gate_store (t := 26) (p := 4) rfl ?_); refine wpList_store_row rfl 26 (.tmp 4) (.tmp 26) rfl (w.heap.size + 1) (ansC 33 false 0 false 0 (.slice none 0 0) 0) rfl rfl 26 _ HA.out (by kernel_rfl) rfl (ansC_one _ _ _ _ _ _ _ _ _) ?_))
  refine bodyPost_ret (res_ans rfl _ rfl (setRow_heap _ _ _ _ _ _ HA.out)) rfl ⟨_, rfl, Kd.R_nil _ _ _ _ _, below_row HB.out (by omega) _⟩
set_option maxRecDepth 100000 in
set_option maxHeartbeats 8000000 in
theorem query_no8 {w : World} {S : Nat → Prop} {rp N : Nat} {s : MS} {A : Option Addr} {c : Nat} {B : Option Addr} {d : Nat} {hs : List HdS} (h : RMd w S rp N s A c B d hs) (o : OpS) (Ao : Option Addr) (co : Nat) (hN : N ≤ 1099511627776) (hC : Kd.C (Kd.int .u64) w Ao o.f6.length o.f6) (hCc : o.f6.length ≤ co) (hCn : o.f6.length ≤ 1099511627776) (hk : o.f0 = 8) (hf : fnd s.held o.f4 = none) :
    Calls Try.prog 51 #[.pointer (some ⟨rp, 0, none⟩), .agg (opC o Ao co)] w (TellR w (errD 33)) := by
  have q7 : (o.f0 == 7) = false := by rw [hk]; decide
  have hrp := blk_lt h.blk
  have hl := h.hle
  have HH := Lib.hid (h.below (doW_below w o Ao co))
  have HC := Lib.hid (Kd.C_below hC (doW_below w o Ao co))
  have HB := Lib.hid (doW_below w o Ao co)
  have HO := Lib.hid (doW_op w o Ao co)
  have HA := Lib.hid (doW_ans w o Ao co)
  have hz := doW_size w o Ao co
  clear h hC
  go_enter Try.func51, Try.ntmps51
  go_upto_region 1 with fail
  change Code.wp _ _ _ _ (doW w o Ao co)
  obtain ⟨W0, hW0⟩ : ∃ W0, W0 = doW w o Ao co := ⟨_, rfl⟩
  rw [← hW0] at HH HC HB HO HA hz ⊢
  clear hW0
  obtain ⟨k0, k1, k2, k3, k4, k5, k6, k7, k8, k9, k10⟩ := op_cells HO.out
  have m0 := HH.out.c0
  go_quiet (fail)
  replace HH := Lib.hid (HH.out.below (pw_below_drewN (Below.refl _ W0) nq))
  replace HC := Lib.hid (Kd.C_drewN HC.out nq)
  replace HB := Lib.hid (pw_below_drewN HB.out nq)
  replace HO := Lib.hid (blk_drewN HO.out nq)
  replace HA := Lib.hid (blk_drewN HA.out nq)
  replace hz : (W0.drewN nq).heap.size = w.heap.size + 2 := hz
  clear k0 k1 k2 k3 k4 k5 k6 k7 k8 k9 k10 m0
  obtain ⟨W1, hW1⟩ : ∃ W1, W1 = W0.drewN nq := ⟨_, rfl⟩
  rw [← hW1] at HH HC HB HO HA hz ⊢
  clear hW1
  obtain ⟨k0, k1, k2, k3, k4, k5, k6, k7, k8, k9, k10⟩ := op_cells HO.out
  have hP := place_none HH.out o.f4 hf hN
  go_wp2_with (first
    | (go_at_call 50; refine hP.mono ?_; rintro e w1 ⟨rfl, rfl⟩)
    | ((with_reducible refine gate_store (t := 26) (p := 4) rfl ?_); refine wpList_store_row rfl 26 (.tmp 4) (.tmp 26) rfl (w.heap.size + 1) (ansC 33 false 0 false 0 (.slice none 0 0) 0) rfl rfl 26 _ HA.out (by kernel_rfl) rfl (ansC_one _ _ _ _ _ _ _ _ _) ?_))
  refine bodyPost_ret (res_ans rfl _ rfl (setRow_heap _ _ _ _ _ _ HA.out)) rfl ⟨_, rfl, Kd.R_nil _ _ _ _ _, below_row HB.out (by omega) _⟩
set_option maxRecDepth 100000 in
set_option maxHeartbeats 8000000 in
theorem query_no9 {w : World} {S : Nat → Prop} {rp N : Nat} {s : MS} {A : Option Addr} {c : Nat} {B : Option Addr} {d : Nat} {hs : List HdS} (h : RMd w S rp N s A c B d hs) (o : OpS) (Ao : Option Addr) (co : Nat) (hN : N ≤ 1099511627776) (hC : Kd.C (Kd.int .u64) w Ao o.f6.length o.f6) (hCc : o.f6.length ≤ co) (hCn : o.f6.length ≤ 1099511627776) (hk : o.f0 = 9) (hf : fnd s.held o.f4 = none) :
    Calls Try.prog 51 #[.pointer (some ⟨rp, 0, none⟩), .agg (opC o Ao co)] w (TellR w (errD 33)) := by
  have q7 : (o.f0 == 7) = false := by rw [hk]; decide
  have hrp := blk_lt h.blk
  have hl := h.hle
  have HH := Lib.hid (h.below (doW_below w o Ao co))
  have HC := Lib.hid (Kd.C_below hC (doW_below w o Ao co))
  have HB := Lib.hid (doW_below w o Ao co)
  have HO := Lib.hid (doW_op w o Ao co)
  have HA := Lib.hid (doW_ans w o Ao co)
  have hz := doW_size w o Ao co
  clear h hC
  go_enter Try.func51, Try.ntmps51
  go_upto_region 1 with fail
  change Code.wp _ _ _ _ (doW w o Ao co)
  obtain ⟨W0, hW0⟩ : ∃ W0, W0 = doW w o Ao co := ⟨_, rfl⟩
  rw [← hW0] at HH HC HB HO HA hz ⊢
  clear hW0
  obtain ⟨k0, k1, k2, k3, k4, k5, k6, k7, k8, k9, k10⟩ := op_cells HO.out
  have m0 := HH.out.c0
  go_quiet (fail)
  replace HH := Lib.hid (HH.out.below (pw_below_drewN (Below.refl _ W0) nq))
  replace HC := Lib.hid (Kd.C_drewN HC.out nq)
  replace HB := Lib.hid (pw_below_drewN HB.out nq)
  replace HO := Lib.hid (blk_drewN HO.out nq)
  replace HA := Lib.hid (blk_drewN HA.out nq)
  replace hz : (W0.drewN nq).heap.size = w.heap.size + 2 := hz
  clear k0 k1 k2 k3 k4 k5 k6 k7 k8 k9 k10 m0
  obtain ⟨W1, hW1⟩ : ∃ W1, W1 = W0.drewN nq := ⟨_, rfl⟩
  rw [← hW1] at HH HC HB HO HA hz ⊢
  clear hW1
  obtain ⟨k0, k1, k2, k3, k4, k5, k6, k7, k8, k9, k10⟩ := op_cells HO.out
  have hP := place_none HH.out o.f4 hf hN
  go_wp2_with (first
    | (go_at_call 50; refine hP.mono ?_; rintro e w1 ⟨rfl, rfl⟩)
    | ((with_reducible refine gate_store (t := 26) (p := 4) rfl ?_); refine wpList_store_row rfl 26 (.tmp 4) (.tmp 26) rfl (w.heap.size + 1) (ansC 33 false 0 false 0 (.slice none 0 0) 0) rfl rfl 26 _ HA.out (by kernel_rfl) rfl (ansC_one _ _ _ _ _ _ _ _ _) ?_))
  refine bodyPost_ret (res_ans rfl _ rfl (setRow_heap _ _ _ _ _ _ HA.out)) rfl ⟨_, rfl, Kd.R_nil _ _ _ _ _, below_row HB.out (by omega) _⟩
set_option maxRecDepth 100000 in
set_option maxHeartbeats 8000000 in
theorem query_yes7 {w : World} {S : Nat → Prop} {rp N : Nat} {s : MS} {A : Option Addr} {c : Nat} {B : Option Addr} {d : Nat} {hs : List HdS} (h : RMd w S rp N s A c B d hs) (o : OpS) (Ao : Option Addr) (co : Nat) (hN : N ≤ 1099511627776) (hC : Kd.C (Kd.int .u64) w Ao o.f6.length o.f6) (hCc : o.f6.length ≤ co) (hCn : o.f6.length ≤ 1099511627776) (hk : o.f0 = 7) (hlong : ¬ s.multi < (o.f6.length : Int)) (l : PL) (hf : fnd s.held o.f4 = some l) :
    Calls Try.prog 51 #[.pointer (some ⟨rp, 0, none⟩), .agg (opC o Ao co)] w (TellR w ⟨0, false, 0, false, 0, ofKeys l o.f6, 0⟩) := by
  have q7 : (o.f0 == 7) = true := by rw [hk]; decide
  have ql : decide (s.multi < (o.f6.length : Int)) = false := decide_eq_false hlong
  have hrp := blk_lt h.blk
  have hl := h.hle
  have HH := Lib.hid (h.below (doW_below w o Ao co))
  have HC := Lib.hid (Kd.C_below hC (doW_below w o Ao co))
  have HB := Lib.hid (doW_below w o Ao co)
  have HO := Lib.hid (doW_op w o Ao co)
  have HA := Lib.hid (doW_ans w o Ao co)
  have hz := doW_size w o Ao co
  clear h hC
  go_enter Try.func51, Try.ntmps51
  go_upto_region 1 with fail
  change Code.wp _ _ _ _ (doW w o Ao co)
  obtain ⟨W0, hW0⟩ : ∃ W0, W0 = doW w o Ao co := ⟨_, rfl⟩
  rw [← hW0] at HH HC HB HO HA hz ⊢
  clear hW0
  obtain ⟨k0, k1, k2, k3, k4, k5, k6, k7, k8, k9, k10⟩ := op_cells HO.out
  have m0 := HH.out.c0
  go_quiet (fail)
  replace HH := Lib.hid (HH.out.below (pw_below_drewN (Below.refl _ W0) nq))
  replace HC := Lib.hid (Kd.C_drewN HC.out nq)
  replace HB := Lib.hid (pw_below_drewN HB.out nq)
  replace HO := Lib.hid (blk_drewN HO.out nq)
  replace HA := Lib.hid (blk_drewN HA.out nq)
  replace hz : (W0.drewN nq).heap.size = w.heap.size + 2 := hz
  clear k0 k1 k2 k3 k4 k5 k6 k7 k8 k9 k10 m0
  obtain ⟨W1, hW1⟩ : ∃ W1, W1 = W0.drewN nq := ⟨_, rfl⟩
  rw [← hW1] at HH HC HB HO HA hz ⊢
  clear hW1
  obtain ⟨k0, k1, k2, k3, k4, k5, k6, k7, k8, k9, k10⟩ := op_cells HO.out
  obtain ⟨i, hi, e1, e2, hP⟩ := place_some HH.out o.f4 l hf hN
  have hE := HH.out.each hs[i] (List.getElem_mem hi)
  obtain ⟨ad, rfl, y0, y1⟩ := at_hd (HH.out.row W1 (Kept.refl _ _)) i hi
  have c2 := HH.out.c2
  obtain ⟨A1, hA1⟩ : ∃ x, x = hs[i].A := ⟨_, rfl⟩
  obtain ⟨c1, hc1⟩ : ∃ x, x = hs[i].c := ⟨_, rfl⟩
  rw [e2, ← hA1, ← hc1] at y1
  rw [e2, ← hA1, ← hc1] at hE
  have hln : l.length ≤ 1099511627776 := Nat.le_trans hE.2.1 hN
  rw [← toS_length] at hE y1
  have HE := Lib.hid hE
  clear hf hE e1 e2 hA1 hc1 y0
  have d7 : (o.f0 == 7) = true := q7
  have cO : ∀ W, Below W1.heap.size W1 W → _ := fun W hB => shutterref06_Of.calls _ A1 c1 (toS l) Ao co o.f6 _ W (Kd.C_below (HE.out.2.2 W1 (Kept.refl _ _)) hB) HE.out.1 (Kd.C_below HC.out hB) hCc (of_f l o.f6 hln hCn)
  clear hk
  go_upto_region 8 with (go_at_call 50; refine hP.mono ?_; rintro e w1 ⟨rfl, rfl⟩)
  clear hP
  go_still_tail 10, (by kernel_rfl)
  change wpList _ _ _ _ _ W1.drew
  have hzd : W1.drew.heap.size = w.heap.size + 2 := hz
  have hlen : (toS (ofKeys l o.f6)).length ≤ 1099511627776 := by rw [toS_length]; unfold ofKeys; exact Nat.le_trans (List.length_filterMap_le _ _) hCn
  go_wp2_with (first
    | (go_at_call 92; refine (cO _ (below_drew (Below.refl _ _))).mono ?_; rintro e w2 ⟨v, rfl, hR, hB2⟩; obtain ⟨A3, c3, rfl⟩ := Kd.R_slice hR; replace HA := Lib.hid (blk_below (blk_drew HA.out) hB2); replace HB := Lib.hid ((below_drew HB.out).trans (hB2.mono (by have := HB.out.size; exact this))); have HRR := Lib.hid (Kd.R_mono (ok' := fun k => w.heap.size + 2 ≤ k) (Kd.R_bound hR) (fun k hk => by have h3 := hk.2.1; rw [show W1.drew.heap.size = W1.heap.size from rfl] at h3; omega)); clear hR hB2)
    | ((with_reducible refine gate_store (t := 26) (p := 4) rfl ?_); refine wpList_store_row rfl 26 (.tmp 4) (.tmp 42) rfl (w.heap.size + 1) (ansC 0 false 0 false 0 (.slice A3 (toS (ofKeys l o.f6)).length c3) 0) rfl rfl 26 _ HA.out (by kernel_rfl) rfl (ansC_one _ _ _ _ _ _ _ _ _) ?_))
  refine bodyPost_ret (res_ans rfl _ rfl (setRow_heap _ _ _ _ _ _ HA.out)) rfl ⟨_, rfl, Kd.R_mono (Kd.R_kept (Kd.R_lower HRR.out (by omega)) (Kept_row _ _ _) (fun k hk e => by omega)) (fun _ _ => trivial), below_row HB.out (by omega) _⟩
set_option maxRecDepth 100000 in
set_option maxHeartbeats 8000000 in
theorem query_yes8 {w : World} {S : Nat → Prop} {rp N : Nat} {s : MS} {A : Option Addr} {c : Nat} {B : Option Addr} {d : Nat} {hs : List HdS} (h : RMd w S rp N s A c B d hs) (o : OpS) (Ao : Option Addr) (co : Nat) (hN : N ≤ 1099511627776) (hC : Kd.C (Kd.int .u64) w Ao o.f6.length o.f6) (hCc : o.f6.length ≤ co) (hCn : o.f6.length ≤ 1099511627776) (hk : o.f0 = 8) (l : PL) (hf : fnd s.held o.f4 = some l) :
    Calls Try.prog 51 #[.pointer (some ⟨rp, 0, none⟩), .agg (opC o Ao co)] w (TellR w ⟨0, false, 0, false, 0, within o.f7 o.f8 l, 0⟩) := by
  have q7 : (o.f0 == 7) = false := by rw [hk]; decide
  have hrp := blk_lt h.blk
  have hl := h.hle
  have HH := Lib.hid (h.below (doW_below w o Ao co))
  have HC := Lib.hid (Kd.C_below hC (doW_below w o Ao co))
  have HB := Lib.hid (doW_below w o Ao co)
  have HO := Lib.hid (doW_op w o Ao co)
  have HA := Lib.hid (doW_ans w o Ao co)
  have hz := doW_size w o Ao co
  clear h hC
  go_enter Try.func51, Try.ntmps51
  go_upto_region 1 with fail
  change Code.wp _ _ _ _ (doW w o Ao co)
  obtain ⟨W0, hW0⟩ : ∃ W0, W0 = doW w o Ao co := ⟨_, rfl⟩
  rw [← hW0] at HH HC HB HO HA hz ⊢
  clear hW0
  obtain ⟨k0, k1, k2, k3, k4, k5, k6, k7, k8, k9, k10⟩ := op_cells HO.out
  have m0 := HH.out.c0
  go_quiet (fail)
  replace HH := Lib.hid (HH.out.below (pw_below_drewN (Below.refl _ W0) nq))
  replace HC := Lib.hid (Kd.C_drewN HC.out nq)
  replace HB := Lib.hid (pw_below_drewN HB.out nq)
  replace HO := Lib.hid (blk_drewN HO.out nq)
  replace HA := Lib.hid (blk_drewN HA.out nq)
  replace hz : (W0.drewN nq).heap.size = w.heap.size + 2 := hz
  clear k0 k1 k2 k3 k4 k5 k6 k7 k8 k9 k10 m0
  obtain ⟨W1, hW1⟩ : ∃ W1, W1 = W0.drewN nq := ⟨_, rfl⟩
  rw [← hW1] at HH HC HB HO HA hz ⊢
  clear hW1
  obtain ⟨k0, k1, k2, k3, k4, k5, k6, k7, k8, k9, k10⟩ := op_cells HO.out
  obtain ⟨i, hi, e1, e2, hP⟩ := place_some HH.out o.f4 l hf hN
  have hE := HH.out.each hs[i] (List.getElem_mem hi)
  obtain ⟨ad, rfl, y0, y1⟩ := at_hd (HH.out.row W1 (Kept.refl _ _)) i hi
  have c2 := HH.out.c2
  obtain ⟨A1, hA1⟩ : ∃ x, x = hs[i].A := ⟨_, rfl⟩
  obtain ⟨c1, hc1⟩ : ∃ x, x = hs[i].c := ⟨_, rfl⟩
  rw [e2, ← hA1, ← hc1] at y1
  rw [e2, ← hA1, ← hc1] at hE
  have hln : l.length ≤ 1099511627776 := Nat.le_trans hE.2.1 hN
  rw [← toS_length] at hE y1
  have HE := Lib.hid hE
  clear hf hE e1 e2 hA1 hc1 y0
  have d8 : (o.f0 == 8) = true := by rw [hk]; decide
  have cO : ∀ W, Below W1.heap.size W1 W → _ := fun W hB => shutterref06_Within.calls _ A1 c1 (toS l) o.f7 o.f8 _ W (Kd.C_below (HE.out.2.2 W1 (Kept.refl _ _)) hB) HE.out.1 (within_f l o.f7 o.f8 hln)
  clear hk
  go_upto_region 10 with (go_at_call 50; refine hP.mono ?_; rintro e w1 ⟨rfl, rfl⟩)
  clear hP
  go_still_tail 12, (by kernel_rfl)
  change wpList _ _ _ _ _ W1.drew
  have hzd : W1.drew.heap.size = w.heap.size + 2 := hz
  have hlen : (toS (within o.f7 o.f8 l)).length ≤ 1099511627776 := by rw [toS_length]; exact Nat.le_trans (List.length_filter_le _ _) hln
  go_wp2_with (first
    | (go_at_call 93; refine (cO _ (below_drew (Below.refl _ _))).mono ?_; rintro e w2 ⟨v, rfl, hR, hB2⟩; obtain ⟨A3, c3, rfl⟩ := Kd.R_slice hR; replace HA := Lib.hid (blk_below (blk_drew HA.out) hB2); replace HB := Lib.hid ((below_drew HB.out).trans (hB2.mono (by have := HB.out.size; exact this))); have HRR := Lib.hid (Kd.R_mono (ok' := fun k => w.heap.size + 2 ≤ k) (Kd.R_bound hR) (fun k hk => by have h3 := hk.2.1; rw [show W1.drew.heap.size = W1.heap.size from rfl] at h3; omega)); clear hR hB2)
    | ((with_reducible refine gate_store (t := 26) (p := 4) rfl ?_); refine wpList_store_row rfl 26 (.tmp 4) (.tmp 58) rfl (w.heap.size + 1) (ansC 0 false 0 false 0 (.slice A3 (toS (within o.f7 o.f8 l)).length c3) 0) rfl rfl 26 _ HA.out (by kernel_rfl) rfl (ansC_one _ _ _ _ _ _ _ _ _) ?_))
  refine bodyPost_ret (res_ans rfl _ rfl (setRow_heap _ _ _ _ _ _ HA.out)) rfl ⟨_, rfl, Kd.R_mono (Kd.R_kept (Kd.R_lower HRR.out (by omega)) (Kept_row _ _ _) (fun k hk e => by omega)) (fun _ _ => trivial), below_row HB.out (by omega) _⟩
set_option maxRecDepth 100000 in
set_option maxHeartbeats 8000000 in
theorem query_yes9 {w : World} {S : Nat → Prop} {rp N : Nat} {s : MS} {A : Option Addr} {c : Nat} {B : Option Addr} {d : Nat} {hs : List HdS} (h : RMd w S rp N s A c B d hs) (o : OpS) (Ao : Option Addr) (co : Nat) (hN : N ≤ 1099511627776) (hC : Kd.C (Kd.int .u64) w Ao o.f6.length o.f6) (hCc : o.f6.length ≤ co) (hCn : o.f6.length ≤ 1099511627776) (hk : o.f0 = 9) (l : PL) (hf : fnd s.held o.f4 = some l) :
    Calls Try.prog 51 #[.pointer (some ⟨rp, 0, none⟩), .agg (opC o Ao co)] w (TellR w ⟨0, false, 0, false, 0, [], ((toS (within o.f7 o.f8 l)).length : Int)⟩) := by
  have q7 : (o.f0 == 7) = false := by rw [hk]; decide
  have hrp := blk_lt h.blk
  have hl := h.hle
  have HH := Lib.hid (h.below (doW_below w o Ao co))
  have HC := Lib.hid (Kd.C_below hC (doW_below w o Ao co))
  have HB := Lib.hid (doW_below w o Ao co)
  have HO := Lib.hid (doW_op w o Ao co)
  have HA := Lib.hid (doW_ans w o Ao co)
  have hz := doW_size w o Ao co
  clear h hC
  go_enter Try.func51, Try.ntmps51
  go_upto_region 1 with fail
  change Code.wp _ _ _ _ (doW w o Ao co)
  obtain ⟨W0, hW0⟩ : ∃ W0, W0 = doW w o Ao co := ⟨_, rfl⟩
  rw [← hW0] at HH HC HB HO HA hz ⊢
  clear hW0
  obtain ⟨k0, k1, k2, k3, k4, k5, k6, k7, k8, k9, k10⟩ := op_cells HO.out
  have m0 := HH.out.c0
  go_quiet (fail)
  replace HH := Lib.hid (HH.out.below (pw_below_drewN (Below.refl _ W0) nq))
  replace HC := Lib.hid (Kd.C_drewN HC.out nq)
  replace HB := Lib.hid (pw_below_drewN HB.out nq)
  replace HO := Lib.hid (blk_drewN HO.out nq)
  replace HA := Lib.hid (blk_drewN HA.out nq)
  replace hz : (W0.drewN nq).heap.size = w.heap.size + 2 := hz
  clear k0 k1 k2 k3 k4 k5 k6 k7 k8 k9 k10 m0
  obtain ⟨W1, hW1⟩ : ∃ W1, W1 = W0.drewN nq := ⟨_, rfl⟩
  rw [← hW1] at HH HC HB HO HA hz ⊢
  clear hW1
  obtain ⟨k0, k1, k2, k3, k4, k5, k6, k7, k8, k9, k10⟩ := op_cells HO.out
  obtain ⟨i, hi, e1, e2, hP⟩ := place_some HH.out o.f4 l hf hN
  have hE := HH.out.each hs[i] (List.getElem_mem hi)
  obtain ⟨ad, rfl, y0, y1⟩ := at_hd (HH.out.row W1 (Kept.refl _ _)) i hi
  have c2 := HH.out.c2
  obtain ⟨A1, hA1⟩ : ∃ x, x = hs[i].A := ⟨_, rfl⟩
  obtain ⟨c1, hc1⟩ : ∃ x, x = hs[i].c := ⟨_, rfl⟩
  rw [e2, ← hA1, ← hc1] at y1
  rw [e2, ← hA1, ← hc1] at hE
  have hln : l.length ≤ 1099511627776 := Nat.le_trans hE.2.1 hN
  rw [← toS_length] at hE y1
  have HE := Lib.hid hE
  clear hf hE e1 e2 hA1 hc1 y0
  have d8 : (o.f0 == 8) = false := by rw [hk]; decide
  have cO : ∀ W, Below W1.heap.size W1 W → _ := fun W hB => shutterref06_Within.calls _ A1 c1 (toS l) o.f7 o.f8 _ W (Kd.C_below (HE.out.2.2 W1 (Kept.refl _ _)) hB) HE.out.1 (within_f l o.f7 o.f8 hln)
  clear hk
  go_upto_region 11 with (go_at_call 50; refine hP.mono ?_; rintro e w1 ⟨rfl, rfl⟩)
  clear hP
  go_still_tail 12, (by kernel_rfl)
  change wpList _ _ _ _ _ W1.drew
  have hzd : W1.drew.heap.size = w.heap.size + 2 := hz
  have hlen : (toS (within o.f7 o.f8 l)).length ≤ 1099511627776 := by rw [toS_length]; exact Nat.le_trans (List.length_filter_le _ _) hln
  have hwr : IntKind.u64.wrap ((toS (within o.f7 o.f8 l)).length : Int) = ((toS (within o.f7 o.f8 l)).length : Int) := by unfold IntKind.wrap; simp [IntKind.signed, IntKind.bits]; omega
  go_wp2_with (first
    | (go_at_call 93; refine (cO _ (below_drew (Below.refl _ _))).mono ?_; rintro e w2 ⟨v, rfl, hR, hB2⟩; obtain ⟨A3, c3, rfl⟩ := Kd.R_slice hR; replace HA := Lib.hid (blk_below (blk_drew HA.out) hB2); replace HB := Lib.hid ((below_drew HB.out).trans (hB2.mono (by have := HB.out.size; exact this))); have HRR := Lib.hid (Kd.R_mono (ok' := fun k => w.heap.size + 2 ≤ k) (Kd.R_bound hR) (fun k hk => by have h3 := hk.2.1; rw [show W1.drew.heap.size = W1.heap.size from rfl] at h3; omega)); clear hR hB2)
    | ((with_reducible refine gate_store (t := 26) (p := 4) rfl ?_); refine wpList_store_row rfl 26 (.tmp 4) (.tmp 74) rfl (w.heap.size + 1) (ansC 0 false 0 false 0 (.slice none 0 0) ((toS (within o.f7 o.f8 l)).length : Int)) rfl rfl 26 _ HA.out (by kernel_rfl) rfl (ansC_one _ _ _ _ _ _ _ _ _) ?_))
  refine bodyPost_ret (res_ans rfl _ rfl (setRow_heap _ _ _ _ _ _ HA.out)) rfl ⟨_, rfl, Kd.R_nil _ _ _ _ _, below_row HB.out (by omega) _⟩
end Go.Proofs.Ytngocadnbpdnoaa.Mo
namespace Go.Proofs.Ytngocadnbpdnoaa.Mo
open Go Go.Maps Go.RowKit Go.Proofs.Ytngocadnbpdnoaa.Srt Go.Proofs.Ytngocadnbpdnoaa.Q Go.Proofs.YtngocadnbpdnoaaW.PrintWords Go.Proofs.YtngocadnbpdnoaaW.PrintLast Go.Proofs.YtngocadnbpdnoaaW.PrintMore
set_option linter.unusedVariables false
set_option linter.unusedSimpArgs false
/-- What the document's Do leaves and tells. -/
def DoR (w : World) (S : Nat → Prop) (rp N : Nat) (s : MS) (d : AnsD) (e : Ending) (w' : World) : Prop :=
  ∃ ps, e = .returned (ansV d.e d.fo d.v d.dn d.h ps d.c) ∧ kSP.R 90 w' w.heap.size (fun _ => True) ps (toS d.ps) ∧ (∃ A c B d hs, RMd w' S rp N s A c B d hs) ∧ KO w w' (fun k => k = rp)
theorem RMd.less {wr : World} {S S' : Nat → Prop} {rp N : Nat} {s : MS} {A : Option Addr} {c : Nat} {B : Option Addr} {d : Nat} {hs : List HdS} (h : RMd wr S rp N s A c B d hs) (hS : ∀ k, S' k → S k) (hr : S' rp) : RMd wr S' rp N s A c B d hs :=
  ⟨h.blk, hr, h.nc, h.hc, h.hd, fun W' h2 => h.now W' (h2.mono hS), fun W' h2 => h.row W' (h2.mono hS), fun x hx => ⟨(h.each x hx).1, (h.each x hx).2.1, fun W' h2 => (h.each x hx).2.2 W' (h2.mono hS)⟩, h.nle, h.hle, h.asc, h.asch, h.zero⟩
theorem find_quiet {P : Program} {f : FuncId} {args : Array Value} {w : World} {n : Nat} {v : Value} (h : Calls P f args (w.drewN n) fun e w' => e = .returned v ∧ Drawn0 (w.drewN n) w') : Calls P f args (w.drewN n) fun e w' => e = .returned v ∧ ∃ n', w' = w.drewN n' :=
  Calls.quiet_of (h.mono fun e w' ⟨he, ⟨hm⟩⟩ => ⟨he, hm⟩)
set_option maxRecDepth 100000 in
set_option maxHeartbeats 8000000 in
theorem rdo_get {w : World} {S : Nat → Prop} {rp N : Nat} {s : MS} {A : Option Addr} {c : Nat} {B : Option Addr} {d : Nat} {hs : List HdS} (h : RMd w S rp N s A c B d hs) (o : OpS) (Ao : Option Addr) (co : Nat) (hdl : Int) (hN : N ≤ 1099511627776) (hS : ∀ k, S k → k < w.heap.size) (hk : o.f0 = 1) :
    Calls Try.prog 24 #[.pointer (some ⟨rp, 0, none⟩), .agg (opC o Ao co), .int .u64 hdl] w (DoR w S rp (N + 1) s (foundD s o)) := by
  have q1 : (o.f0 == 1) = true := by rw [hk]; decide
  have q2 : (o.f0 == 2) = false := by rw [hk]; decide
  have q3 : (o.f0 == 3) = false := by rw [hk]; decide
  have q4 : (o.f0 == 4) = false := by rw [hk]; decide
  have q5 : (o.f0 == 5) = false := by rw [hk]; decide
  have q6 : (o.f0 == 6) = false := by rw [hk]; decide
  have q7 : (o.f0 == 7) = false := by rw [hk]; decide
  have q8 : (o.f0 == 8) = false := by rw [hk]; decide
  have q9 : (o.f0 == 9) = false := by rw [hk]; decide
  have q10 : (o.f0 == 10) = false := by rw [hk]; decide
  have hrp := blk_lt h.blk
  have hl := h.hle
  have hnl := h.nle
  have HH := Lib.hid (h.below (doW_below w o Ao co))
  have HB := Lib.hid (doW_below w o Ao co)
  have HO := Lib.hid (doW_op w o Ao co)
  have HA := Lib.hid (doW_ans w o Ao co)
  have hz := doW_size w o Ao co
  have HSS := Lib.hid hS
  have H0 := Lib.hid h
  clear h hS
  obtain ⟨fv, hfv⟩ : ∃ x, x = (fnd s.now o.f1).getD 0 := ⟨_, rfl⟩
  obtain ⟨fo, hfo⟩ : ∃ x, x = (fnd s.now o.f1).isSome := ⟨_, rfl⟩
  have HFV := Lib.hid hfv
  have HFO := Lib.hid hfo
  have cF : ∀ W, Below (doW w o Ao co).heap.size (doW w o Ao co) W → _ := fun W hB => shutterref06_find.calls _ A c (toS s.now) o.f1 _ _ W (Kd.C_below (by have := HH.out.now _ (Kept.refl _ _); rw [← toS_length] at this; exact this) hB) (by rw [toS_length]; exact HH.out.nc) (find_f s.now o.f1 (by omega))
  rw [← hfv, ← hfo] at cF
  clear hfv hfo
  go_enter Try.func24, Try.ntmps24
  go_upto_region 3 with fail
  change Code.wp _ _ _ _ (doW w o Ao co)
  obtain ⟨W0, hW0⟩ : ∃ W0, W0 = doW w o Ao co := ⟨_, rfl⟩
  rw [← hW0] at HH HB HO HA hz cF ⊢
  clear hW0
  obtain ⟨k0, k1, k2, k3, k4, k5, k6, k7, k8, k9, k10⟩ := op_cells HO.out
  have m1 := HH.out.c1
  rw [← toS_length] at m1
  go_quiet ((go_at_call 52; exact find_quiet (cF _ (pw_below_drewN (Below.refl _ W0) _))))
  replace HH := Lib.hid (HH.out.below (pw_below_drewN (Below.refl _ W0) nq))
  replace HB := Lib.hid (pw_below_drewN HB.out nq)
  replace HO := Lib.hid (blk_drewN HO.out nq)
  replace HA := Lib.hid (blk_drewN HA.out nq)
  replace hz : (W0.drewN nq).heap.size = w.heap.size + 2 := hz
  clear k0 k1 k2 k3 k4 k5 k6 k7 k8 k9 k10 m1 cF
  obtain ⟨W1, hW1⟩ : ∃ W1, W1 = W0.drewN nq := ⟨_, rfl⟩
  rw [← hW1] at HH HB HO HA hz ⊢
  clear hW1
  go_upto_region 5 with fail
  change Code.wp _ _ _ _ (W1.alloc (.cells (ansC 0 fo fv false 0 (.slice none 0 0) 0) 26))
  have hb9 := below_alloc (Below.refl _ W1) (.cells (ansC 0 fo fv false 0 (.slice none 0 0) 0) 26)
  have hn9 := heap_alloc_new W1 (.cells (ansC 0 fo fv false 0 (.slice none 0 0) 0) 26)
  have hz9 : (W1.alloc (.cells (ansC 0 fo fv false 0 (.slice none 0 0) 0) 26)).heap.size = w.heap.size + 3 := by simp [hz]
  rw [hz] at hn9
  obtain ⟨W2, hW2⟩ : ∃ W2, W2 = W1.alloc (.cells (ansC 0 fo fv false 0 (.slice none 0 0) 0) 26) := ⟨_, rfl⟩
  rw [← hW2] at hb9 hn9 hz9 ⊢
  clear hW2
  replace HH := Lib.hid (HH.out.below hb9)
  replace HB := Lib.hid (HB.out.trans (hb9.mono HB.out.size))
  replace HO := Lib.hid (blk_below HO.out hb9)
  replace HA := Lib.hid (blk_below HA.out hb9)
  have H9 := Lib.hid hn9
  clear hb9 hn9 hz
  obtain ⟨k0, k1, k2, k3, k4, k5, k6, k7, k8, k9, k10⟩ := op_cells HO.out
  obtain ⟨l0, l1, l2, l3, l4, l5, l6⟩ := ans_cells H9.out
  go_wp2_with (first | ((with_reducible refine gate_store (t := 26) (p := 6) rfl ?_); refine wpList_store_row rfl 26 (.tmp 6) (.tmp 31) rfl (w.heap.size + 1) (ansC 0 fo fv false 0 (.slice none 0 0) 0) rfl rfl 26 _ HA.out (by kernel_rfl) rfl (ansC_one _ _ _ _ _ _ _ _ _) ?_))
  refine bodyPost_ret (res_ans rfl _ rfl (setRow_heap _ _ _ _ _ _ HA.out)) rfl ⟨_, by first | rfl | (simp only [foundD, errD]; rw [HFO.out, HFV.out]), Kd.R_nil _ _ _ _ _, ⟨_, _, _, _, _, (H0.out.below (below_row HB.out (by omega) _)).mono (Nat.le_succ N)⟩, KO.of_below (below_row HB.out (by omega) _) _⟩
set_option maxRecDepth 100000 in
set_option maxHeartbeats 8000000 in
theorem rdo_coll {w : World} {S : Nat → Prop} {rp N : Nat} {s : MS} {A : Option Addr} {c : Nat} {B : Option Addr} {d : Nat} {hs : List HdS} (h : RMd w S rp N s A c B d hs) (o : OpS) (Ao : Option Addr) (co : Nat) (hdl : Int) (hN : N ≤ 1099511627776) (hS : ∀ k, S k → k < w.heap.size) (hk : o.f0 = 10) :
    Calls Try.prog 24 #[.pointer (some ⟨rp, 0, none⟩), .agg (opC o Ao co), .int .u64 hdl] w (DoR w S rp (N + 1) s (errD 0)) := by
  have q1 : (o.f0 == 1) = false := by rw [hk]; decide
  have q2 : (o.f0 == 2) = false := by rw [hk]; decide
  have q3 : (o.f0 == 3) = false := by rw [hk]; decide
  have q4 : (o.f0 == 4) = false := by rw [hk]; decide
  have q5 : (o.f0 == 5) = false := by rw [hk]; decide
  have q6 : (o.f0 == 6) = false := by rw [hk]; decide
  have q7 : (o.f0 == 7) = false := by rw [hk]; decide
  have q8 : (o.f0 == 8) = false := by rw [hk]; decide
  have q9 : (o.f0 == 9) = false := by rw [hk]; decide
  have q10 : (o.f0 == 10) = true := by rw [hk]; decide
  have hrp := blk_lt h.blk
  have hl := h.hle
  have hnl := h.nle
  have HH := Lib.hid (h.below (doW_below w o Ao co))
  have HB := Lib.hid (doW_below w o Ao co)
  have HO := Lib.hid (doW_op w o Ao co)
  have HA := Lib.hid (doW_ans w o Ao co)
  have hz := doW_size w o Ao co
  have HSS := Lib.hid hS
  have H0 := Lib.hid h
  clear h hS
  obtain ⟨fv, hfv⟩ : ∃ x, x = (fnd s.now o.f1).getD 0 := ⟨_, rfl⟩
  obtain ⟨fo, hfo⟩ : ∃ x, x = (fnd s.now o.f1).isSome := ⟨_, rfl⟩
  have HFV := Lib.hid hfv
  have HFO := Lib.hid hfo
  have cF : ∀ W, Below (doW w o Ao co).heap.size (doW w o Ao co) W → _ := fun W hB => shutterref06_find.calls _ A c (toS s.now) o.f1 _ _ W (Kd.C_below (by have := HH.out.now _ (Kept.refl _ _); rw [← toS_length] at this; exact this) hB) (by rw [toS_length]; exact HH.out.nc) (find_f s.now o.f1 (by omega))
  rw [← hfv, ← hfo] at cF
  clear hfv hfo
  go_enter Try.func24, Try.ntmps24
  go_upto_region 3 with fail
  change Code.wp _ _ _ _ (doW w o Ao co)
  obtain ⟨W0, hW0⟩ : ∃ W0, W0 = doW w o Ao co := ⟨_, rfl⟩
  rw [← hW0] at HH HB HO HA hz cF ⊢
  clear hW0
  obtain ⟨k0, k1, k2, k3, k4, k5, k6, k7, k8, k9, k10⟩ := op_cells HO.out
  have m1 := HH.out.c1
  rw [← toS_length] at m1
  go_quiet ((go_at_call 52; exact find_quiet (cF _ (pw_below_drewN (Below.refl _ W0) _))))
  replace HH := Lib.hid (HH.out.below (pw_below_drewN (Below.refl _ W0) nq))
  replace HB := Lib.hid (pw_below_drewN HB.out nq)
  replace HO := Lib.hid (blk_drewN HO.out nq)
  replace HA := Lib.hid (blk_drewN HA.out nq)
  replace hz : (W0.drewN nq).heap.size = w.heap.size + 2 := hz
  clear k0 k1 k2 k3 k4 k5 k6 k7 k8 k9 k10 m1 cF
  obtain ⟨W1, hW1⟩ : ∃ W1, W1 = W0.drewN nq := ⟨_, rfl⟩
  rw [← hW1] at HH HB HO HA hz ⊢
  clear hW1
  go_upto_region 5 with fail
  change Code.wp _ _ _ _ (W1.alloc (.cells (ansC 0 fo fv false 0 (.slice none 0 0) 0) 26))
  have hb9 := below_alloc (Below.refl _ W1) (.cells (ansC 0 fo fv false 0 (.slice none 0 0) 0) 26)
  have hn9 := heap_alloc_new W1 (.cells (ansC 0 fo fv false 0 (.slice none 0 0) 0) 26)
  have hz9 : (W1.alloc (.cells (ansC 0 fo fv false 0 (.slice none 0 0) 0) 26)).heap.size = w.heap.size + 3 := by simp [hz]
  rw [hz] at hn9
  obtain ⟨W2, hW2⟩ : ∃ W2, W2 = W1.alloc (.cells (ansC 0 fo fv false 0 (.slice none 0 0) 0) 26) := ⟨_, rfl⟩
  rw [← hW2] at hb9 hn9 hz9 ⊢
  clear hW2
  replace HH := Lib.hid (HH.out.below hb9)
  replace HB := Lib.hid (HB.out.trans (hb9.mono HB.out.size))
  replace HO := Lib.hid (blk_below HO.out hb9)
  replace HA := Lib.hid (blk_below HA.out hb9)
  have H9 := Lib.hid hn9
  clear hb9 hn9 hz
  obtain ⟨k0, k1, k2, k3, k4, k5, k6, k7, k8, k9, k10⟩ := op_cells HO.out
  obtain ⟨l0, l1, l2, l3, l4, l5, l6⟩ := ans_cells H9.out
  go_wp2_with (first | ((with_reducible refine gate_store (t := 26) (p := 6) rfl ?_); refine wpList_store_row rfl 26 (.tmp 6) (.tmp 120) rfl (w.heap.size + 1) (ansC 0 false 0 false 0 (.slice none 0 0) 0) rfl rfl 26 _ HA.out (by kernel_rfl) rfl (ansC_one _ _ _ _ _ _ _ _ _) ?_))
  refine bodyPost_ret (res_ans rfl _ rfl (setRow_heap _ _ _ _ _ _ HA.out)) rfl ⟨_, by first | rfl | (simp only [foundD, errD]; rw [HFO.out, HFV.out]), Kd.R_nil _ _ _ _ _, ⟨_, _, _, _, _, (H0.out.below (below_row HB.out (by omega) _)).mono (Nat.le_succ N)⟩, KO.of_below (below_row HB.out (by omega) _) _⟩
set_option maxRecDepth 100000 in
set_option maxHeartbeats 8000000 in
theorem rdo_oth {w : World} {S : Nat → Prop} {rp N : Nat} {s : MS} {A : Option Addr} {c : Nat} {B : Option Addr} {d : Nat} {hs : List HdS} (h : RMd w S rp N s A c B d hs) (o : OpS) (Ao : Option Addr) (co : Nat) (hdl : Int) (hN : N ≤ 1099511627776) (hS : ∀ k, S k → k < w.heap.size) (hk : o.f0 < 1 ∨ 10 < o.f0) :
    Calls Try.prog 24 #[.pointer (some ⟨rp, 0, none⟩), .agg (opC o Ao co), .int .u64 hdl] w (DoR w S rp (N + 1) s (errD 160)) := by
  have q1 : (o.f0 == 1) = false := beq_eq_false_iff_ne.2 (by omega)
  have q2 : (o.f0 == 2) = false := beq_eq_false_iff_ne.2 (by omega)
  have q3 : (o.f0 == 3) = false := beq_eq_false_iff_ne.2 (by omega)
  have q4 : (o.f0 == 4) = false := beq_eq_false_iff_ne.2 (by omega)
  have q5 : (o.f0 == 5) = false := beq_eq_false_iff_ne.2 (by omega)
  have q6 : (o.f0 == 6) = false := beq_eq_false_iff_ne.2 (by omega)
  have q7 : (o.f0 == 7) = false := beq_eq_false_iff_ne.2 (by omega)
  have q8 : (o.f0 == 8) = false := beq_eq_false_iff_ne.2 (by omega)
  have q9 : (o.f0 == 9) = false := beq_eq_false_iff_ne.2 (by omega)
  have q10 : (o.f0 == 10) = false := beq_eq_false_iff_ne.2 (by omega)
  have hrp := blk_lt h.blk
  have hl := h.hle
  have hnl := h.nle
  have HH := Lib.hid (h.below (doW_below w o Ao co))
  have HB := Lib.hid (doW_below w o Ao co)
  have HO := Lib.hid (doW_op w o Ao co)
  have HA := Lib.hid (doW_ans w o Ao co)
  have hz := doW_size w o Ao co
  have HSS := Lib.hid hS
  have H0 := Lib.hid h
  clear h hS
  obtain ⟨fv, hfv⟩ : ∃ x, x = (fnd s.now o.f1).getD 0 := ⟨_, rfl⟩
  obtain ⟨fo, hfo⟩ : ∃ x, x = (fnd s.now o.f1).isSome := ⟨_, rfl⟩
  have HFV := Lib.hid hfv
  have HFO := Lib.hid hfo
  have cF : ∀ W, Below (doW w o Ao co).heap.size (doW w o Ao co) W → _ := fun W hB => shutterref06_find.calls _ A c (toS s.now) o.f1 _ _ W (Kd.C_below (by have := HH.out.now _ (Kept.refl _ _); rw [← toS_length] at this; exact this) hB) (by rw [toS_length]; exact HH.out.nc) (find_f s.now o.f1 (by omega))
  rw [← hfv, ← hfo] at cF
  clear hfv hfo
  go_enter Try.func24, Try.ntmps24
  go_upto_region 3 with fail
  change Code.wp _ _ _ _ (doW w o Ao co)
  obtain ⟨W0, hW0⟩ : ∃ W0, W0 = doW w o Ao co := ⟨_, rfl⟩
  rw [← hW0] at HH HB HO HA hz cF ⊢
  clear hW0
  obtain ⟨k0, k1, k2, k3, k4, k5, k6, k7, k8, k9, k10⟩ := op_cells HO.out
  have m1 := HH.out.c1
  rw [← toS_length] at m1
  go_quiet ((go_at_call 52; exact find_quiet (cF _ (pw_below_drewN (Below.refl _ W0) _))))
  replace HH := Lib.hid (HH.out.below (pw_below_drewN (Below.refl _ W0) nq))
  replace HB := Lib.hid (pw_below_drewN HB.out nq)
  replace HO := Lib.hid (blk_drewN HO.out nq)
  replace HA := Lib.hid (blk_drewN HA.out nq)
  replace hz : (W0.drewN nq).heap.size = w.heap.size + 2 := hz
  clear k0 k1 k2 k3 k4 k5 k6 k7 k8 k9 k10 m1 cF
  obtain ⟨W1, hW1⟩ : ∃ W1, W1 = W0.drewN nq := ⟨_, rfl⟩
  rw [← hW1] at HH HB HO HA hz ⊢
  clear hW1
  go_upto_region 5 with fail
  change Code.wp _ _ _ _ (W1.alloc (.cells (ansC 0 fo fv false 0 (.slice none 0 0) 0) 26))
  have hb9 := below_alloc (Below.refl _ W1) (.cells (ansC 0 fo fv false 0 (.slice none 0 0) 0) 26)
  have hn9 := heap_alloc_new W1 (.cells (ansC 0 fo fv false 0 (.slice none 0 0) 0) 26)
  have hz9 : (W1.alloc (.cells (ansC 0 fo fv false 0 (.slice none 0 0) 0) 26)).heap.size = w.heap.size + 3 := by simp [hz]
  rw [hz] at hn9
  obtain ⟨W2, hW2⟩ : ∃ W2, W2 = W1.alloc (.cells (ansC 0 fo fv false 0 (.slice none 0 0) 0) 26) := ⟨_, rfl⟩
  rw [← hW2] at hb9 hn9 hz9 ⊢
  clear hW2
  replace HH := Lib.hid (HH.out.below hb9)
  replace HB := Lib.hid (HB.out.trans (hb9.mono HB.out.size))
  replace HO := Lib.hid (blk_below HO.out hb9)
  replace HA := Lib.hid (blk_below HA.out hb9)
  have H9 := Lib.hid hn9
  clear hb9 hn9 hz
  obtain ⟨k0, k1, k2, k3, k4, k5, k6, k7, k8, k9, k10⟩ := op_cells HO.out
  obtain ⟨l0, l1, l2, l3, l4, l5, l6⟩ := ans_cells H9.out
  go_wp2_with (first | ((with_reducible refine gate_store (t := 26) (p := 6) rfl ?_); refine wpList_store_row rfl 26 (.tmp 6) (.tmp 121) rfl (w.heap.size + 1) (ansC 160 false 0 false 0 (.slice none 0 0) 0) rfl rfl 26 _ HA.out (by kernel_rfl) rfl (ansC_one _ _ _ _ _ _ _ _ _) ?_))
  refine bodyPost_ret (res_ans rfl _ rfl (setRow_heap _ _ _ _ _ _ HA.out)) rfl ⟨_, by first | rfl | (simp only [foundD, errD]; rw [HFO.out, HFV.out]), Kd.R_nil _ _ _ _ _, ⟨_, _, _, _, _, (H0.out.below (below_row HB.out (by omega) _)).mono (Nat.le_succ N)⟩, KO.of_below (below_row HB.out (by omega) _) _⟩
set_option maxRecDepth 100000 in
set_option maxHeartbeats 8000000 in
theorem rdo_snap0 {w : World} {S : Nat → Prop} {rp N : Nat} {s : MS} {A : Option Addr} {c : Nat} {B : Option Addr} {d : Nat} {hs : List HdS} (h : RMd w S rp N s A c B d hs) (o : OpS) (Ao : Option Addr) (co : Nat) (hdl : Int) (hN : N ≤ 1099511627776) (hS : ∀ k, S k → k < w.heap.size) (hk : o.f0 = 5) (h0 : hdl = 0) :
    Calls Try.prog 24 #[.pointer (some ⟨rp, 0, none⟩), .agg (opC o Ao co), .int .u64 hdl] w (DoR w S rp (N + 1) s (errD 0)) := by
  have q1 : (o.f0 == 1) = false := by rw [hk]; decide
  have q2 : (o.f0 == 2) = false := by rw [hk]; decide
  have q3 : (o.f0 == 3) = false := by rw [hk]; decide
  have q4 : (o.f0 == 4) = false := by rw [hk]; decide
  have q5 : (o.f0 == 5) = true := by rw [hk]; decide
  have q6 : (o.f0 == 6) = false := by rw [hk]; decide
  have q7 : (o.f0 == 7) = false := by rw [hk]; decide
  have q8 : (o.f0 == 8) = false := by rw [hk]; decide
  have q9 : (o.f0 == 9) = false := by rw [hk]; decide
  have q10 : (o.f0 == 10) = false := by rw [hk]; decide
  have qh : (hdl == 0) = true := by rw [h0]; rfl
  clear h0
  have hrp := blk_lt h.blk
  have hl := h.hle
  have hnl := h.nle
  have HH := Lib.hid (h.below (doW_below w o Ao co))
  have HB := Lib.hid (doW_below w o Ao co)
  have HO := Lib.hid (doW_op w o Ao co)
  have HA := Lib.hid (doW_ans w o Ao co)
  have hz := doW_size w o Ao co
  have HSS := Lib.hid hS
  have H0 := Lib.hid h
  clear h hS
  obtain ⟨fv, hfv⟩ : ∃ x, x = (fnd s.now o.f1).getD 0 := ⟨_, rfl⟩
  obtain ⟨fo, hfo⟩ : ∃ x, x = (fnd s.now o.f1).isSome := ⟨_, rfl⟩
  have HFV := Lib.hid hfv
  have HFO := Lib.hid hfo
  have cF : ∀ W, Below (doW w o Ao co).heap.size (doW w o Ao co) W → _ := fun W hB => shutterref06_find.calls _ A c (toS s.now) o.f1 _ _ W (Kd.C_below (by have := HH.out.now _ (Kept.refl _ _); rw [← toS_length] at this; exact this) hB) (by rw [toS_length]; exact HH.out.nc) (find_f s.now o.f1 (by omega))
  rw [← hfv, ← hfo] at cF
  clear hfv hfo
  go_enter Try.func24, Try.ntmps24
  go_upto_region 3 with fail
  change Code.wp _ _ _ _ (doW w o Ao co)
  obtain ⟨W0, hW0⟩ : ∃ W0, W0 = doW w o Ao co := ⟨_, rfl⟩
  rw [← hW0] at HH HB HO HA hz cF ⊢
  clear hW0
  obtain ⟨k0, k1, k2, k3, k4, k5, k6, k7, k8, k9, k10⟩ := op_cells HO.out
  have m1 := HH.out.c1
  rw [← toS_length] at m1
  go_quiet ((go_at_call 52; exact find_quiet (cF _ (pw_below_drewN (Below.refl _ W0) _))))
  replace HH := Lib.hid (HH.out.below (pw_below_drewN (Below.refl _ W0) nq))
  replace HB := Lib.hid (pw_below_drewN HB.out nq)
  replace HO := Lib.hid (blk_drewN HO.out nq)
  replace HA := Lib.hid (blk_drewN HA.out nq)
  replace hz : (W0.drewN nq).heap.size = w.heap.size + 2 := hz
  clear k0 k1 k2 k3 k4 k5 k6 k7 k8 k9 k10 m1 cF
  obtain ⟨W1, hW1⟩ : ∃ W1, W1 = W0.drewN nq := ⟨_, rfl⟩
  rw [← hW1] at HH HB HO HA hz ⊢
  clear hW1
  go_upto_region 5 with fail
  change Code.wp _ _ _ _ (W1.alloc (.cells (ansC 0 fo fv false 0 (.slice none 0 0) 0) 26))
  have hb9 := below_alloc (Below.refl _ W1) (.cells (ansC 0 fo fv false 0 (.slice none 0 0) 0) 26)
  have hn9 := heap_alloc_new W1 (.cells (ansC 0 fo fv false 0 (.slice none 0 0) 0) 26)
  have hz9 : (W1.alloc (.cells (ansC 0 fo fv false 0 (.slice none 0 0) 0) 26)).heap.size = w.heap.size + 3 := by simp [hz]
  rw [hz] at hn9
  obtain ⟨W2, hW2⟩ : ∃ W2, W2 = W1.alloc (.cells (ansC 0 fo fv false 0 (.slice none 0 0) 0) 26) := ⟨_, rfl⟩
  rw [← hW2] at hb9 hn9 hz9 ⊢
  clear hW2
  replace HH := Lib.hid (HH.out.below hb9)
  replace HB := Lib.hid (HB.out.trans (hb9.mono HB.out.size))
  replace HO := Lib.hid (blk_below HO.out hb9)
  replace HA := Lib.hid (blk_below HA.out hb9)
  have H9 := Lib.hid hn9
  clear hb9 hn9 hz
  obtain ⟨k0, k1, k2, k3, k4, k5, k6, k7, k8, k9, k10⟩ := op_cells HO.out
  obtain ⟨l0, l1, l2, l3, l4, l5, l6⟩ := ans_cells H9.out
  go_wp2_with (first | ((with_reducible refine gate_store (t := 26) (p := 6) rfl ?_); refine wpList_store_row rfl 26 (.tmp 6) (.tmp 87) rfl (w.heap.size + 1) (ansC 0 false 0 false 0 (.slice none 0 0) 0) rfl rfl 26 _ HA.out (by kernel_rfl) rfl (ansC_one _ _ _ _ _ _ _ _ _) ?_))
  refine bodyPost_ret (res_ans rfl _ rfl (setRow_heap _ _ _ _ _ _ HA.out)) rfl ⟨_, by first | rfl | (simp only [foundD, errD]; rw [HFO.out, HFV.out]), Kd.R_nil _ _ _ _ _, ⟨_, _, _, _, _, (H0.out.below (below_row HB.out (by omega) _)).mono (Nat.le_succ N)⟩, KO.of_below (below_row HB.out (by omega) _) _⟩
set_option maxRecDepth 100000 in
set_option maxHeartbeats 8000000 in
theorem rdo_snapS {w : World} {S : Nat → Prop} {rp N : Nat} {s : MS} {A : Option Addr} {c : Nat} {B : Option Addr} {d : Nat} {hs : List HdS} (h : RMd w S rp N s A c B d hs) (o : OpS) (Ao : Option Addr) (co : Nat) (hdl : Int) (hN : N ≤ 1099511627776) (hS : ∀ k, S k → k < w.heap.size) (hk : o.f0 = 5) (h0 : hdl ≠ 0) (l : PL) (hf : fnd s.held hdl = some l) :
    Calls Try.prog 24 #[.pointer (some ⟨rp, 0, none⟩), .agg (opC o Ao co), .int .u64 hdl] w (DoR w S rp (N + 1) s (errD 32)) := by
  have q1 : (o.f0 == 1) = false := by rw [hk]; decide
  have q2 : (o.f0 == 2) = false := by rw [hk]; decide
  have q3 : (o.f0 == 3) = false := by rw [hk]; decide
  have q4 : (o.f0 == 4) = false := by rw [hk]; decide
  have q5 : (o.f0 == 5) = true := by rw [hk]; decide
  have q6 : (o.f0 == 6) = false := by rw [hk]; decide
  have q7 : (o.f0 == 7) = false := by rw [hk]; decide
  have q8 : (o.f0 == 8) = false := by rw [hk]; decide
  have q9 : (o.f0 == 9) = false := by rw [hk]; decide
  have q10 : (o.f0 == 10) = false := by rw [hk]; decide
  have qh : (hdl == 0) = false := beq_eq_false_iff_ne.2 h0
  clear h0
  have hrp := blk_lt h.blk
  have hl := h.hle
  have hnl := h.nle
  have HH := Lib.hid (h.below (doW_below w o Ao co))
  have HB := Lib.hid (doW_below w o Ao co)
  have HO := Lib.hid (doW_op w o Ao co)
  have HA := Lib.hid (doW_ans w o Ao co)
  have hz := doW_size w o Ao co
  have HSS := Lib.hid hS
  have H0 := Lib.hid h
  clear h hS
  obtain ⟨fv, hfv⟩ : ∃ x, x = (fnd s.now o.f1).getD 0 := ⟨_, rfl⟩
  obtain ⟨fo, hfo⟩ : ∃ x, x = (fnd s.now o.f1).isSome := ⟨_, rfl⟩
  have HFV := Lib.hid hfv
  have HFO := Lib.hid hfo
  have cF : ∀ W, Below (doW w o Ao co).heap.size (doW w o Ao co) W → _ := fun W hB => shutterref06_find.calls _ A c (toS s.now) o.f1 _ _ W (Kd.C_below (by have := HH.out.now _ (Kept.refl _ _); rw [← toS_length] at this; exact this) hB) (by rw [toS_length]; exact HH.out.nc) (find_f s.now o.f1 (by omega))
  rw [← hfv, ← hfo] at cF
  clear hfv hfo
  go_enter Try.func24, Try.ntmps24
  go_upto_region 3 with fail
  change Code.wp _ _ _ _ (doW w o Ao co)
  obtain ⟨W0, hW0⟩ : ∃ W0, W0 = doW w o Ao co := ⟨_, rfl⟩
  rw [← hW0] at HH HB HO HA hz cF ⊢
  clear hW0
  obtain ⟨k0, k1, k2, k3, k4, k5, k6, k7, k8, k9, k10⟩ := op_cells HO.out
  have m1 := HH.out.c1
  rw [← toS_length] at m1
  go_quiet ((go_at_call 52; exact find_quiet (cF _ (pw_below_drewN (Below.refl _ W0) _))))
  replace HH := Lib.hid (HH.out.below (pw_below_drewN (Below.refl _ W0) nq))
  replace HB := Lib.hid (pw_below_drewN HB.out nq)
  replace HO := Lib.hid (blk_drewN HO.out nq)
  replace HA := Lib.hid (blk_drewN HA.out nq)
  replace hz : (W0.drewN nq).heap.size = w.heap.size + 2 := hz
  clear k0 k1 k2 k3 k4 k5 k6 k7 k8 k9 k10 m1 cF
  obtain ⟨W1, hW1⟩ : ∃ W1, W1 = W0.drewN nq := ⟨_, rfl⟩
  rw [← hW1] at HH HB HO HA hz ⊢
  clear hW1
  go_upto_region 5 with fail
  change Code.wp _ _ _ _ (W1.alloc (.cells (ansC 0 fo fv false 0 (.slice none 0 0) 0) 26))
  have hb9 := below_alloc (Below.refl _ W1) (.cells (ansC 0 fo fv false 0 (.slice none 0 0) 0) 26)
  have hn9 := heap_alloc_new W1 (.cells (ansC 0 fo fv false 0 (.slice none 0 0) 0) 26)
  have hz9 : (W1.alloc (.cells (ansC 0 fo fv false 0 (.slice none 0 0) 0) 26)).heap.size = w.heap.size + 3 := by simp [hz]
  rw [hz] at hn9
  obtain ⟨W2, hW2⟩ : ∃ W2, W2 = W1.alloc (.cells (ansC 0 fo fv false 0 (.slice none 0 0) 0) 26) := ⟨_, rfl⟩
  rw [← hW2] at hb9 hn9 hz9 ⊢
  clear hW2
  replace HH := Lib.hid (HH.out.below hb9)
  replace HB := Lib.hid (HB.out.trans (hb9.mono HB.out.size))
  replace HO := Lib.hid (blk_below HO.out hb9)
  replace HA := Lib.hid (blk_below HA.out hb9)
  have H9 := Lib.hid hn9
  clear hb9 hn9 hz
  obtain ⟨k0, k1, k2, k3, k4, k5, k6, k7, k8, k9, k10⟩ := op_cells HO.out
  obtain ⟨l0, l1, l2, l3, l4, l5, l6⟩ := ans_cells H9.out
  obtain ⟨i, hi, -, -, hP⟩ := place_some HH.out hdl l hf hN
  have hge : decide ((0 : Int) ≤ (i : Int)) = true := decide_eq_true (by omega)
  clear hf
  go_wp2_with (first
    | (go_at_call 50; refine hP.mono ?_; rintro e w1 ⟨rfl, rfl⟩)
    | ((with_reducible refine gate_store (t := 26) (p := 6) rfl ?_); refine wpList_store_row rfl 26 (.tmp 6) (.tmp 92) rfl (w.heap.size + 1) (ansC 32 false 0 false 0 (.slice none 0 0) 0) rfl rfl 26 _ HA.out (by kernel_rfl) rfl (ansC_one _ _ _ _ _ _ _ _ _) ?_))
  refine bodyPost_ret (res_ans rfl _ rfl (setRow_heap _ _ _ _ _ _ HA.out)) rfl ⟨_, by first | rfl | (simp only [foundD, errD]; rw [HFO.out, HFV.out]), Kd.R_nil _ _ _ _ _, ⟨_, _, _, _, _, (H0.out.below (below_row HB.out (by omega) _)).mono (Nat.le_succ N)⟩, KO.of_below (below_row HB.out (by omega) _) _⟩
set_option maxRecDepth 100000 in
set_option maxHeartbeats 8000000 in
theorem rdo_snapN {w : World} {S : Nat → Prop} {rp N : Nat} {s : MS} {A : Option Addr} {c : Nat} {B : Option Addr} {d : Nat} {hs : List HdS} (h : RMd w S rp N s A c B d hs) (o : OpS) (Ao : Option Addr) (co : Nat) (hdl : Int) (hN : N ≤ 1099511627776) (hS : ∀ k, S k → k < w.heap.size) (hk : o.f0 = 5) (h0 : hdl ≠ 0) (hf : fnd s.held hdl = none) :
    Calls Try.prog 24 #[.pointer (some ⟨rp, 0, none⟩), .agg (opC o Ao co), .int .u64 hdl] w (DoR w S rp (N + 1) ⟨s.multi, s.now, put s.held hdl s.now⟩ ⟨0, false, 0, false, hdl, [], 0⟩) := by
  have q1 : (o.f0 == 1) = false := by rw [hk]; decide
  have q2 : (o.f0 == 2) = false := by rw [hk]; decide
  have q3 : (o.f0 == 3) = false := by rw [hk]; decide
  have q4 : (o.f0 == 4) = false := by rw [hk]; decide
  have q5 : (o.f0 == 5) = true := by rw [hk]; decide
  have q6 : (o.f0 == 6) = false := by rw [hk]; decide
  have q7 : (o.f0 == 7) = false := by rw [hk]; decide
  have q8 : (o.f0 == 8) = false := by rw [hk]; decide
  have q9 : (o.f0 == 9) = false := by rw [hk]; decide
  have q10 : (o.f0 == 10) = false := by rw [hk]; decide
  have qh : (hdl == 0) = false := beq_eq_false_iff_ne.2 h0
  have HZ0 := Lib.hid h0
  clear h0
  have hrp := blk_lt h.blk
  have hl := h.hle
  have hnl := h.nle
  have HH := Lib.hid (h.below (doW_below w o Ao co))
  have HB := Lib.hid (doW_below w o Ao co)
  have HO := Lib.hid (doW_op w o Ao co)
  have HA := Lib.hid (doW_ans w o Ao co)
  have hz := doW_size w o Ao co
  have HSS := Lib.hid hS
  have H0 := Lib.hid h
  clear h hS
  obtain ⟨fv, hfv⟩ : ∃ x, x = (fnd s.now o.f1).getD 0 := ⟨_, rfl⟩
  obtain ⟨fo, hfo⟩ : ∃ x, x = (fnd s.now o.f1).isSome := ⟨_, rfl⟩
  have HFV := Lib.hid hfv
  have HFO := Lib.hid hfo
  have cF : ∀ W, Below (doW w o Ao co).heap.size (doW w o Ao co) W → _ := fun W hB => shutterref06_find.calls _ A c (toS s.now) o.f1 _ _ W (Kd.C_below (by have := HH.out.now _ (Kept.refl _ _); rw [← toS_length] at this; exact this) hB) (by rw [toS_length]; exact HH.out.nc) (find_f s.now o.f1 (by omega))
  rw [← hfv, ← hfo] at cF
  clear hfv hfo
  go_enter Try.func24, Try.ntmps24
  go_upto_region 3 with fail
  change Code.wp _ _ _ _ (doW w o Ao co)
  obtain ⟨W0, hW0⟩ : ∃ W0, W0 = doW w o Ao co := ⟨_, rfl⟩
  rw [← hW0] at HH HB HO HA hz cF ⊢
  clear hW0
  obtain ⟨k0, k1, k2, k3, k4, k5, k6, k7, k8, k9, k10⟩ := op_cells HO.out
  have m1 := HH.out.c1
  rw [← toS_length] at m1
  go_quiet ((go_at_call 52; exact find_quiet (cF _ (pw_below_drewN (Below.refl _ W0) _))))
  replace HH := Lib.hid (HH.out.below (pw_below_drewN (Below.refl _ W0) nq))
  replace HB := Lib.hid (pw_below_drewN HB.out nq)
  replace HO := Lib.hid (blk_drewN HO.out nq)
  replace HA := Lib.hid (blk_drewN HA.out nq)
  replace hz : (W0.drewN nq).heap.size = w.heap.size + 2 := hz
  clear k0 k1 k2 k3 k4 k5 k6 k7 k8 k9 k10 m1 cF
  obtain ⟨W1, hW1⟩ : ∃ W1, W1 = W0.drewN nq := ⟨_, rfl⟩
  rw [← hW1] at HH HB HO HA hz ⊢
  clear hW1
  go_upto_region 5 with fail
  change Code.wp _ _ _ _ (W1.alloc (.cells (ansC 0 fo fv false 0 (.slice none 0 0) 0) 26))
  have hb9 := below_alloc (Below.refl _ W1) (.cells (ansC 0 fo fv false 0 (.slice none 0 0) 0) 26)
  have hn9 := heap_alloc_new W1 (.cells (ansC 0 fo fv false 0 (.slice none 0 0) 0) 26)
  have hz9 : (W1.alloc (.cells (ansC 0 fo fv false 0 (.slice none 0 0) 0) 26)).heap.size = w.heap.size + 3 := by simp [hz]
  rw [hz] at hn9
  obtain ⟨W2, hW2⟩ : ∃ W2, W2 = W1.alloc (.cells (ansC 0 fo fv false 0 (.slice none 0 0) 0) 26) := ⟨_, rfl⟩
  rw [← hW2] at hb9 hn9 hz9 ⊢
  clear hW2
  replace HH := Lib.hid (HH.out.below hb9)
  replace HB := Lib.hid (HB.out.trans (hb9.mono HB.out.size))
  replace HO := Lib.hid (blk_below HO.out hb9)
  replace HA := Lib.hid (blk_below HA.out hb9)
  have H9 := Lib.hid hn9
  clear hb9 hn9 hz
  obtain ⟨k0, k1, k2, k3, k4, k5, k6, k7, k8, k9, k10⟩ := op_cells HO.out
  obtain ⟨l0, l1, l2, l3, l4, l5, l6⟩ := ans_cells H9.out
  have H1 := Lib.hid (((H0.out.more (S' := fun k => S k ∨ k = w.heap.size + 1) (fun k e => e.imp id (fun e => by omega)) (.inl H0.out.rp)).below HB.out))
  have hS1 : ∀ k, (S k ∨ k = w.heap.size + 1) → k < W2.heap.size := fun k e => by
    rcases e with e | e
    · have := HSS.out k e; omega
    · omega
  have HS1 := Lib.hid hS1
  clear hS1
  have hP := place_none H1.out hdl hf hN
  have hH := hold_c H1.out hdl hf HZ0.out hN HS1.out
  clear hf
  go_upto_region 25 with (first
    | (go_at_call 50; refine hP.mono ?_; rintro e w1 ⟨rfl, rfl⟩)
    | (go_at_call 55; refine hH.mono ?_; rintro e w3 ⟨rfl, ⟨B', d', hs', hM⟩, hK⟩; replace HA := Lib.hid (blk_kept HA.out hK.kept (show ¬ (w.heap.size + 1 = rp) by omega)); have HM := Lib.hid hM; have HK := Lib.hid ((KO.of_below HB.out (fun k => k = rp)).then_ hK (fun k e => .inl e)); clear hM hK))
  clear k0 k1 k2 k3 k4 k5 k6 k7 k8 k9 k10 l0 l1 l2 l3 l4 l5 l6
  go_wp2_with (first | ((with_reducible refine gate_store (t := 26) (p := 6) rfl ?_); refine wpList_store_row rfl 26 (.tmp 6) (.tmp 97) rfl (w.heap.size + 1) (ansC 0 false 0 false hdl (.slice none 0 0) 0) rfl rfl 26 _ HA.out (by kernel_rfl) rfl (ansC_one _ _ _ _ _ _ _ _ _) ?_))
  refine bodyPost_ret (res_ans rfl _ rfl (setRow_heap _ _ _ _ _ _ HA.out)) rfl ⟨_, by rfl, Kd.R_nil _ _ _ _ _, ⟨_, _, _, _, _, (HM.out.kept (Kept_row _ _ _) (fun k e => .inr e) (by omega)).less (fun k e => .inl e) H0.out.rp⟩, (HK.out.then_ (KO.row _ _ _) (fun k e => .inr (by omega)))⟩
set_option maxRecDepth 100000 in
set_option maxHeartbeats 8000000 in
theorem rdo_relN {w : World} {S : Nat → Prop} {rp N : Nat} {s : MS} {A : Option Addr} {c : Nat} {B : Option Addr} {d : Nat} {hs : List HdS} (h : RMd w S rp N s A c B d hs) (o : OpS) (Ao : Option Addr) (co : Nat) (hdl : Int) (hN : N ≤ 1099511627776) (hS : ∀ k, S k → k < w.heap.size) (hk : o.f0 = 6) (hf : fnd s.held o.f4 = none) :
    Calls Try.prog 24 #[.pointer (some ⟨rp, 0, none⟩), .agg (opC o Ao co), .int .u64 hdl] w (DoR w S rp (N + 1) s (errD 33)) := by
  have q1 : (o.f0 == 1) = false := by rw [hk]; decide
  have q2 : (o.f0 == 2) = false := by rw [hk]; decide
  have q3 : (o.f0 == 3) = false := by rw [hk]; decide
  have q4 : (o.f0 == 4) = false := by rw [hk]; decide
  have q5 : (o.f0 == 5) = false := by rw [hk]; decide
  have q6 : (o.f0 == 6) = true := by rw [hk]; decide
  have q7 : (o.f0 == 7) = false := by rw [hk]; decide
  have q8 : (o.f0 == 8) = false := by rw [hk]; decide
  have q9 : (o.f0 == 9) = false := by rw [hk]; decide
  have q10 : (o.f0 == 10) = false := by rw [hk]; decide
  have hrp := blk_lt h.blk
  have hl := h.hle
  have hnl := h.nle
  have HH := Lib.hid (h.below (doW_below w o Ao co))
  have HB := Lib.hid (doW_below w o Ao co)
  have HO := Lib.hid (doW_op w o Ao co)
  have HA := Lib.hid (doW_ans w o Ao co)
  have hz := doW_size w o Ao co
  have HSS := Lib.hid hS
  have H0 := Lib.hid h
  clear h hS
  obtain ⟨fv, hfv⟩ : ∃ x, x = (fnd s.now o.f1).getD 0 := ⟨_, rfl⟩
  obtain ⟨fo, hfo⟩ : ∃ x, x = (fnd s.now o.f1).isSome := ⟨_, rfl⟩
  have HFV := Lib.hid hfv
  have HFO := Lib.hid hfo
  have cF : ∀ W, Below (doW w o Ao co).heap.size (doW w o Ao co) W → _ := fun W hB => shutterref06_find.calls _ A c (toS s.now) o.f1 _ _ W (Kd.C_below (by have := HH.out.now _ (Kept.refl _ _); rw [← toS_length] at this; exact this) hB) (by rw [toS_length]; exact HH.out.nc) (find_f s.now o.f1 (by omega))
  rw [← hfv, ← hfo] at cF
  clear hfv hfo
  go_enter Try.func24, Try.ntmps24
  go_upto_region 3 with fail
  change Code.wp _ _ _ _ (doW w o Ao co)
  obtain ⟨W0, hW0⟩ : ∃ W0, W0 = doW w o Ao co := ⟨_, rfl⟩
  rw [← hW0] at HH HB HO HA hz cF ⊢
  clear hW0
  obtain ⟨k0, k1, k2, k3, k4, k5, k6, k7, k8, k9, k10⟩ := op_cells HO.out
  have m1 := HH.out.c1
  rw [← toS_length] at m1
  go_quiet ((go_at_call 52; exact find_quiet (cF _ (pw_below_drewN (Below.refl _ W0) _))))
  replace HH := Lib.hid (HH.out.below (pw_below_drewN (Below.refl _ W0) nq))
  replace HB := Lib.hid (pw_below_drewN HB.out nq)
  replace HO := Lib.hid (blk_drewN HO.out nq)
  replace HA := Lib.hid (blk_drewN HA.out nq)
  replace hz : (W0.drewN nq).heap.size = w.heap.size + 2 := hz
  clear k0 k1 k2 k3 k4 k5 k6 k7 k8 k9 k10 m1 cF
  obtain ⟨W1, hW1⟩ : ∃ W1, W1 = W0.drewN nq := ⟨_, rfl⟩
  rw [← hW1] at HH HB HO HA hz ⊢
  clear hW1
  go_upto_region 5 with fail
  change Code.wp _ _ _ _ (W1.alloc (.cells (ansC 0 fo fv false 0 (.slice none 0 0) 0) 26))
  have hb9 := below_alloc (Below.refl _ W1) (.cells (ansC 0 fo fv false 0 (.slice none 0 0) 0) 26)
  have hn9 := heap_alloc_new W1 (.cells (ansC 0 fo fv false 0 (.slice none 0 0) 0) 26)
  have hz9 : (W1.alloc (.cells (ansC 0 fo fv false 0 (.slice none 0 0) 0) 26)).heap.size = w.heap.size + 3 := by simp [hz]
  rw [hz] at hn9
  obtain ⟨W2, hW2⟩ : ∃ W2, W2 = W1.alloc (.cells (ansC 0 fo fv false 0 (.slice none 0 0) 0) 26) := ⟨_, rfl⟩
  rw [← hW2] at hb9 hn9 hz9 ⊢
  clear hW2
  replace HH := Lib.hid (HH.out.below hb9)
  replace HB := Lib.hid (HB.out.trans (hb9.mono HB.out.size))
  replace HO := Lib.hid (blk_below HO.out hb9)
  replace HA := Lib.hid (blk_below HA.out hb9)
  have H9 := Lib.hid hn9
  clear hb9 hn9 hz
  obtain ⟨k0, k1, k2, k3, k4, k5, k6, k7, k8, k9, k10⟩ := op_cells HO.out
  obtain ⟨l0, l1, l2, l3, l4, l5, l6⟩ := ans_cells H9.out
  have hP := place_none HH.out o.f4 hf hN
  clear hf
  go_wp2_with (first
    | (go_at_call 50; refine hP.mono ?_; rintro e w1 ⟨rfl, rfl⟩)
    | ((with_reducible refine gate_store (t := 26) (p := 6) rfl ?_); refine wpList_store_row rfl 26 (.tmp 6) (.tmp 106) rfl (w.heap.size + 1) (ansC 33 false 0 false 0 (.slice none 0 0) 0) rfl rfl 26 _ HA.out (by kernel_rfl) rfl (ansC_one _ _ _ _ _ _ _ _ _) ?_))
  refine bodyPost_ret (res_ans rfl _ rfl (setRow_heap _ _ _ _ _ _ HA.out)) rfl ⟨_, by first | rfl | (simp only [foundD, errD]; rw [HFO.out, HFV.out]), Kd.R_nil _ _ _ _ _, ⟨_, _, _, _, _, (H0.out.below (below_row HB.out (by omega) _)).mono (Nat.le_succ N)⟩, KO.of_below (below_row HB.out (by omega) _) _⟩
set_option maxRecDepth 100000 in
set_option maxHeartbeats 8000000 in
theorem rdo_relY {w : World} {S : Nat → Prop} {rp N : Nat} {s : MS} {A : Option Addr} {c : Nat} {B : Option Addr} {d : Nat} {hs : List HdS} (h : RMd w S rp N s A c B d hs) (o : OpS) (Ao : Option Addr) (co : Nat) (hdl : Int) (hN : N ≤ 1099511627776) (hS : ∀ k, S k → k < w.heap.size) (hk : o.f0 = 6) (l : PL) (hf : fnd s.held o.f4 = some l) :
    Calls Try.prog 24 #[.pointer (some ⟨rp, 0, none⟩), .agg (opC o Ao co), .int .u64 hdl] w (DoR w S rp (N + 1) ⟨s.multi, s.now, del s.held o.f4⟩ (errD 0)) := by
  have q1 : (o.f0 == 1) = false := by rw [hk]; decide
  have q2 : (o.f0 == 2) = false := by rw [hk]; decide
  have q3 : (o.f0 == 3) = false := by rw [hk]; decide
  have q4 : (o.f0 == 4) = false := by rw [hk]; decide
  have q5 : (o.f0 == 5) = false := by rw [hk]; decide
  have q6 : (o.f0 == 6) = true := by rw [hk]; decide
  have q7 : (o.f0 == 7) = false := by rw [hk]; decide
  have q8 : (o.f0 == 8) = false := by rw [hk]; decide
  have q9 : (o.f0 == 9) = false := by rw [hk]; decide
  have q10 : (o.f0 == 10) = false := by rw [hk]; decide
  have hrp := blk_lt h.blk
  have hl := h.hle
  have hnl := h.nle
  have HH := Lib.hid (h.below (doW_below w o Ao co))
  have HB := Lib.hid (doW_below w o Ao co)
  have HO := Lib.hid (doW_op w o Ao co)
  have HA := Lib.hid (doW_ans w o Ao co)
  have hz := doW_size w o Ao co
  have HSS := Lib.hid hS
  have H0 := Lib.hid h
  clear h hS
  obtain ⟨fv, hfv⟩ : ∃ x, x = (fnd s.now o.f1).getD 0 := ⟨_, rfl⟩
  obtain ⟨fo, hfo⟩ : ∃ x, x = (fnd s.now o.f1).isSome := ⟨_, rfl⟩
  have HFV := Lib.hid hfv
  have HFO := Lib.hid hfo
  have cF : ∀ W, Below (doW w o Ao co).heap.size (doW w o Ao co) W → _ := fun W hB => shutterref06_find.calls _ A c (toS s.now) o.f1 _ _ W (Kd.C_below (by have := HH.out.now _ (Kept.refl _ _); rw [← toS_length] at this; exact this) hB) (by rw [toS_length]; exact HH.out.nc) (find_f s.now o.f1 (by omega))
  rw [← hfv, ← hfo] at cF
  clear hfv hfo
  go_enter Try.func24, Try.ntmps24
  go_upto_region 3 with fail
  change Code.wp _ _ _ _ (doW w o Ao co)
  obtain ⟨W0, hW0⟩ : ∃ W0, W0 = doW w o Ao co := ⟨_, rfl⟩
  rw [← hW0] at HH HB HO HA hz cF ⊢
  clear hW0
  obtain ⟨k0, k1, k2, k3, k4, k5, k6, k7, k8, k9, k10⟩ := op_cells HO.out
  have m1 := HH.out.c1
  rw [← toS_length] at m1
  go_quiet ((go_at_call 52; exact find_quiet (cF _ (pw_below_drewN (Below.refl _ W0) _))))
  replace HH := Lib.hid (HH.out.below (pw_below_drewN (Below.refl _ W0) nq))
  replace HB := Lib.hid (pw_below_drewN HB.out nq)
  replace HO := Lib.hid (blk_drewN HO.out nq)
  replace HA := Lib.hid (blk_drewN HA.out nq)
  replace hz : (W0.drewN nq).heap.size = w.heap.size + 2 := hz
  clear k0 k1 k2 k3 k4 k5 k6 k7 k8 k9 k10 m1 cF
  obtain ⟨W1, hW1⟩ : ∃ W1, W1 = W0.drewN nq := ⟨_, rfl⟩
  rw [← hW1] at HH HB HO HA hz ⊢
  clear hW1
  go_upto_region 5 with fail
  change Code.wp _ _ _ _ (W1.alloc (.cells (ansC 0 fo fv false 0 (.slice none 0 0) 0) 26))
  have hb9 := below_alloc (Below.refl _ W1) (.cells (ansC 0 fo fv false 0 (.slice none 0 0) 0) 26)
  have hn9 := heap_alloc_new W1 (.cells (ansC 0 fo fv false 0 (.slice none 0 0) 0) 26)
  have hz9 : (W1.alloc (.cells (ansC 0 fo fv false 0 (.slice none 0 0) 0) 26)).heap.size = w.heap.size + 3 := by simp [hz]
  rw [hz] at hn9
  obtain ⟨W2, hW2⟩ : ∃ W2, W2 = W1.alloc (.cells (ansC 0 fo fv false 0 (.slice none 0 0) 0) 26) := ⟨_, rfl⟩
  rw [← hW2] at hb9 hn9 hz9 ⊢
  clear hW2
  replace HH := Lib.hid (HH.out.below hb9)
  replace HB := Lib.hid (HB.out.trans (hb9.mono HB.out.size))
  replace HO := Lib.hid (blk_below HO.out hb9)
  replace HA := Lib.hid (blk_below HA.out hb9)
  have H9 := Lib.hid hn9
  clear hb9 hn9 hz
  obtain ⟨k0, k1, k2, k3, k4, k5, k6, k7, k8, k9, k10⟩ := op_cells HO.out
  obtain ⟨l0, l1, l2, l3, l4, l5, l6⟩ := ans_cells H9.out
  have H1 := Lib.hid (((H0.out.more (S' := fun k => S k ∨ k = w.heap.size + 1) (fun k e => e.imp id (fun e => by omega)) (.inl H0.out.rp)).below HB.out))
  have hS1 : ∀ k, (S k ∨ k = w.heap.size + 1) → k < W2.heap.size := fun k e => by
    rcases e with e | e
    · have := HSS.out k e; omega
    · omega
  have HS1 := Lib.hid hS1
  clear hS1
  obtain ⟨i, hi, he4, -, hP⟩ := place_some H1.out o.f4 l hf hN
  have hD := drop_c H1.out i hi hN HS1.out
  rw [he4] at hD
  have hge : decide ((i : Int) < 0) = false := decide_eq_false (by omega)
  clear hf he4
  go_upto_region 31 with (first
    | (go_at_call 50; refine hP.mono ?_; rintro e w1 ⟨rfl, rfl⟩)
    | (go_at_call 56; refine hD.mono ?_; rintro e w3 ⟨rfl, ⟨B', d', hM⟩, hK⟩; replace HA := Lib.hid (blk_kept HA.out hK.kept (show ¬ (w.heap.size + 1 = rp) by omega)); have HM := Lib.hid (hM.mono (Nat.le_succ N)); have HK := Lib.hid ((KO.of_below HB.out (fun k => k = rp)).then_ hK (fun k e => .inl e)); clear hM hK))
  clear k0 k1 k2 k3 k4 k5 k6 k7 k8 k9 k10 l0 l1 l2 l3 l4 l5 l6
  go_wp2_with (first | ((with_reducible refine gate_store (t := 26) (p := 6) rfl ?_); refine wpList_store_row rfl 26 (.tmp 6) (.tmp 110) rfl (w.heap.size + 1) (ansC 0 false 0 false 0 (.slice none 0 0) 0) rfl rfl 26 _ HA.out (by kernel_rfl) rfl (ansC_one _ _ _ _ _ _ _ _ _) ?_))
  refine bodyPost_ret (res_ans rfl _ rfl (setRow_heap _ _ _ _ _ _ HA.out)) rfl ⟨_, by rfl, Kd.R_nil _ _ _ _ _, ⟨_, _, _, _, _, (HM.out.kept (Kept_row _ _ _) (fun k e => .inr e) (by omega)).less (fun k e => .inl e) H0.out.rp⟩, (HK.out.then_ (KO.row _ _ _) (fun k e => .inr (by omega)))⟩
end Go.Proofs.Ytngocadnbpdnoaa.Mo
namespace Go.Proofs.Ytngocadnbpdnoaa.Mo
open Go Go.Maps Go.RowKit Go.Proofs.Ytngocadnbpdnoaa.Srt Go.Proofs.Ytngocadnbpdnoaa.Q Go.Proofs.YtngocadnbpdnoaaW.PrintWords Go.Proofs.YtngocadnbpdnoaaW.PrintLast Go.Proofs.YtngocadnbpdnoaaW.PrintMore
set_option linter.unusedVariables false
set_option linter.unusedSimpArgs false
set_option maxRecDepth 100000 in
set_option maxHeartbeats 8000000 in
theorem rdo_query {w : World} {S : Nat → Prop} {rp N : Nat} {s : MS} {A : Option Addr} {c : Nat} {B : Option Addr} {d : Nat} {hs : List HdS} (h : RMd w S rp N s A c B d hs) (o : OpS) (Ao : Option Addr) (co : Nat) (hdl : Int) (hN : N ≤ 1099511627776) (hS : ∀ k, S k → k < w.heap.size) (hk : 7 ≤ o.f0 ∧ o.f0 ≤ 9) (D : AnsD) (hQ : ∀ W, Below w.heap.size w W → Calls Try.prog 51 #[.pointer (some ⟨rp, 0, none⟩), .agg (opC o Ao co)] W (TellR W D)) :
    Calls Try.prog 24 #[.pointer (some ⟨rp, 0, none⟩), .agg (opC o Ao co), .int .u64 hdl] w (DoR w S rp (N + 1) s D) := by
  have q1 : (o.f0 == 1) = false := beq_eq_false_iff_ne.2 (by omega)
  have q2 : (o.f0 == 2) = false := beq_eq_false_iff_ne.2 (by omega)
  have q3 : (o.f0 == 3) = false := beq_eq_false_iff_ne.2 (by omega)
  have q4 : (o.f0 == 4) = false := beq_eq_false_iff_ne.2 (by omega)
  have q5 : (o.f0 == 5) = false := beq_eq_false_iff_ne.2 (by omega)
  have q6 : (o.f0 == 6) = false := beq_eq_false_iff_ne.2 (by omega)
  have hcase : (o.f0 == 7) = true ∨ ((o.f0 == 7) = false ∧ (o.f0 == 8) = true) ∨ ((o.f0 == 7) = false ∧ (o.f0 == 8) = false ∧ (o.f0 == 9) = true) := by
    obtain ⟨h1, h2⟩ := hk
    rcases (show o.f0 = 7 ∨ o.f0 = 8 ∨ o.f0 = 9 by omega) with e | e | e <;> rw [e] <;> decide
  clear hk
  have HQ := Lib.hid hQ
  clear hQ
  have hrp := blk_lt h.blk
  have hl := h.hle
  have hnl := h.nle
  have HH := Lib.hid (h.below (doW_below w o Ao co))
  have HB := Lib.hid (doW_below w o Ao co)
  have HO := Lib.hid (doW_op w o Ao co)
  have HA := Lib.hid (doW_ans w o Ao co)
  have hz := doW_size w o Ao co
  have HSS := Lib.hid hS
  have H0 := Lib.hid h
  clear h hS
  obtain ⟨fv, hfv⟩ : ∃ x, x = (fnd s.now o.f1).getD 0 := ⟨_, rfl⟩
  obtain ⟨fo, hfo⟩ : ∃ x, x = (fnd s.now o.f1).isSome := ⟨_, rfl⟩
  have HFV := Lib.hid hfv
  have HFO := Lib.hid hfo
  have cF : ∀ W, Below (doW w o Ao co).heap.size (doW w o Ao co) W → _ := fun W hB => shutterref06_find.calls _ A c (toS s.now) o.f1 _ _ W (Kd.C_below (by have := HH.out.now _ (Kept.refl _ _); rw [← toS_length] at this; exact this) hB) (by rw [toS_length]; exact HH.out.nc) (find_f s.now o.f1 (by omega))
  rw [← hfv, ← hfo] at cF
  clear hfv hfo
  go_enter Try.func24, Try.ntmps24
  go_upto_region 3 with fail
  change Code.wp _ _ _ _ (doW w o Ao co)
  obtain ⟨W0, hW0⟩ : ∃ W0, W0 = doW w o Ao co := ⟨_, rfl⟩
  rw [← hW0] at HH HB HO HA hz cF ⊢
  clear hW0
  obtain ⟨k0, k1, k2, k3, k4, k5, k6, k7, k8, k9, k10⟩ := op_cells HO.out
  have m1 := HH.out.c1
  rw [← toS_length] at m1
  go_quiet ((go_at_call 52; exact find_quiet (cF _ (pw_below_drewN (Below.refl _ W0) _))))
  replace HH := Lib.hid (HH.out.below (pw_below_drewN (Below.refl _ W0) nq))
  replace HB := Lib.hid (pw_below_drewN HB.out nq)
  replace HO := Lib.hid (blk_drewN HO.out nq)
  replace HA := Lib.hid (blk_drewN HA.out nq)
  replace hz : (W0.drewN nq).heap.size = w.heap.size + 2 := hz
  clear k0 k1 k2 k3 k4 k5 k6 k7 k8 k9 k10 m1 cF
  obtain ⟨W1, hW1⟩ : ∃ W1, W1 = W0.drewN nq := ⟨_, rfl⟩
  rw [← hW1] at HH HB HO HA hz ⊢
  clear hW1
  go_upto_region 5 with fail
  change Code.wp _ _ _ _ (W1.alloc (.cells (ansC 0 fo fv false 0 (.slice none 0 0) 0) 26))
  have hb9 := below_alloc (Below.refl _ W1) (.cells (ansC 0 fo fv false 0 (.slice none 0 0) 0) 26)
  have hn9 := heap_alloc_new W1 (.cells (ansC 0 fo fv false 0 (.slice none 0 0) 0) 26)
  have hz9 : (W1.alloc (.cells (ansC 0 fo fv false 0 (.slice none 0 0) 0) 26)).heap.size = w.heap.size + 3 := by simp [hz]
  rw [hz] at hn9
  obtain ⟨W2, hW2⟩ : ∃ W2, W2 = W1.alloc (.cells (ansC 0 fo fv false 0 (.slice none 0 0) 0) 26) := ⟨_, rfl⟩
  rw [← hW2] at hb9 hn9 hz9 ⊢
  clear hW2
  replace HH := Lib.hid (HH.out.below hb9)
  replace HB := Lib.hid (HB.out.trans (hb9.mono HB.out.size))
  replace HO := Lib.hid (blk_below HO.out hb9)
  replace HA := Lib.hid (blk_below HA.out hb9)
  have H9 := Lib.hid hn9
  clear hb9 hn9 hz
  obtain ⟨k0, k1, k2, k3, k4, k5, k6, k7, k8, k9, k10⟩ := op_cells HO.out
  obtain ⟨l0, l1, l2, l3, l4, l5, l6⟩ := ans_cells H9.out
  clear l0 l1 l2 l3 l4 l5 l6
  rcases hcase with q7 | ⟨q7, q8⟩ | ⟨q7, q8, q9⟩
  all_goals
    go_wp2_with (first
      | (go_at_call 51; refine (HQ.out W2 HB.out).mono ?_; rintro e w3 ⟨ps, rfl, hR, hB3⟩; obtain ⟨A3, c3, rfl⟩ := Kd.R_slice hR; replace HA := Lib.hid (blk_below HA.out hB3); have HB3 := Lib.hid (HB.out.trans (hB3.mono HB.out.size)); have HR3 := Lib.hid (Kd.R_mono (ok' := fun k => W2.heap.size ≤ k) (Kd.R_bound hR) (fun k hk => hk.2.1)); clear hR hB3)
      | ((with_reducible refine gate_store (t := 26) (p := 6) rfl ?_); refine wpList_store_row rfl 26 (.tmp 6) (.tmp 117) rfl (w.heap.size + 1) (ansC D.e D.fo D.v D.dn D.h (.slice A3 (toS D.ps).length c3) D.c) rfl rfl 26 _ HA.out (by kernel_rfl) rfl (ansC_one _ _ _ _ _ _ _ _ _) ?_))
    refine bodyPost_ret (res_ans rfl _ rfl (setRow_heap _ _ _ _ _ _ HA.out)) rfl ⟨_, rfl, Kd.R_mono (Kd.R_kept (Kd.R_lower HR3.out (by omega)) (Kept_row _ _ _) (fun k hk e => by omega)) (fun _ _ => trivial), ⟨_, _, _, _, _, (H0.out.below (below_row HB3.out (by omega) _)).mono (Nat.le_succ N)⟩, KO.of_below (below_row HB3.out (by omega) _) _⟩
end Go.Proofs.Ytngocadnbpdnoaa.Mo
namespace Go.Proofs.Ytngocadnbpdnoaa.Mo
open Go Go.Maps Go.RowKit Go.Proofs.Ytngocadnbpdnoaa.Srt Go.Proofs.Ytngocadnbpdnoaa.Q Go.Proofs.YtngocadnbpdnoaaW.PrintWords Go.Proofs.YtngocadnbpdnoaaW.PrintLast Go.Proofs.YtngocadnbpdnoaaW.PrintMore
set_option linter.unusedVariables false
set_option linter.unusedSimpArgs false
theorem now_end {w w2 : World} {S : Nat → Prop} {rp N : Nat} {s : MS} {A : Option Addr} {c : Nat} {B : Option Addr} {d : Nat} {hs : List HdS} (h : RMd w S rp N s A c B d hs) (now' : PL) (ha : Asc now') (hn : now'.length ≤ N + 1)
    {A2 : Option Addr} {n2 : Nat} (h3 : Kd.R kSP 90 w2 w.heap.size (fun _ => True) (.slice A2 (toS now').length n2) (toS now')) (h4 : Below w.heap.size w w2) (hS : ∀ k, S k → k < w.heap.size) :
    RMd (w2.setCell ⟨rp, 1, none⟩ (.slice A2 (toS now').length n2)) S rp (N + 1) ⟨s.multi, now', s.held⟩ A2 n2 B d hs := by
  have hb2 := blk_below h.blk h4
  have hk2 := kept_set w2 rp 1 (.slice A2 (toS now').length n2)
  have hK := (Kept.of_below h4 (fun k => k = rp)).then_ hk2 (fun k e => .inl e)
  have hKS : ∀ W', Kept (w2.setCell ⟨rp, 1, none⟩ (.slice A2 (toS now').length n2)) W' S → Kept w W' S := fun W' h2 => (hK.mono (fun k e => by rw [e]; exact h.rp)).then_ h2 (fun k e => .inl e)
  refine ⟨?_, h.rp, ?_, h.hc, h.hd, ?_, fun W' h2 => h.row W' (hKS W' h2), fun x hx => ⟨(h.each x hx).1, Nat.le_succ_of_le (h.each x hx).2.1, fun W' h2 => (h.each x hx).2.2 W' (hKS W' h2)⟩, hn, Nat.le_succ_of_le h.hle, ha, h.asch, h.zero⟩
  · rw [← toS_length now']; exact blk_put hb2 1 _ rfl
  · rw [← toS_length now']; exact (Kd.R_reads' h3).2.1
  · have hw2 := wpostH h3 (S := S) hS
    rw [← toS_length now']
    exact fun W' h2 => hw2 W' ((hk2.mono (fun k e => by rw [e]; exact h.rp)).then_ h2 (fun k e => .inl e))
set_option maxRecDepth 100000 in
set_option maxHeartbeats 8000000 in
theorem rdo_put {w : World} {S : Nat → Prop} {rp N : Nat} {s : MS} {A : Option Addr} {c : Nat} {B : Option Addr} {d : Nat} {hs : List HdS} (h : RMd w S rp N s A c B d hs) (o : OpS) (Ao : Option Addr) (co : Nat) (hdl : Int) (hN : N ≤ 1099511627776) (hS : ∀ k, S k → k < w.heap.size) (hk : o.f0 = 2) :
    Calls Try.prog 24 #[.pointer (some ⟨rp, 0, none⟩), .agg (opC o Ao co), .int .u64 hdl] w (DoR w S rp (N + 1) ⟨s.multi, put s.now o.f1 o.f2, s.held⟩ (foundD s o)) := by
  have q1 : (o.f0 == 1) = false := by rw [hk]; decide
  have q2 : (o.f0 == 2) = true := by rw [hk]; decide
  have q3 : (o.f0 == 3) = false := by rw [hk]; decide
  have q4 : (o.f0 == 4) = false := by rw [hk]; decide
  have q5 : (o.f0 == 5) = false := by rw [hk]; decide
  have q6 : (o.f0 == 6) = false := by rw [hk]; decide
  have q7 : (o.f0 == 7) = false := by rw [hk]; decide
  have q8 : (o.f0 == 8) = false := by rw [hk]; decide
  have q9 : (o.f0 == 9) = false := by rw [hk]; decide
  have q10 : (o.f0 == 10) = false := by rw [hk]; decide
  have hrp := blk_lt h.blk
  have hl := h.hle
  have hnl := h.nle
  have HH := Lib.hid (h.below (doW_below w o Ao co))
  have HB := Lib.hid (doW_below w o Ao co)
  have HO := Lib.hid (doW_op w o Ao co)
  have HA := Lib.hid (doW_ans w o Ao co)
  have hz := doW_size w o Ao co
  have HSS := Lib.hid hS
  have H0 := Lib.hid h
  clear h hS
  obtain ⟨fv, hfv⟩ : ∃ x, x = (fnd s.now o.f1).getD 0 := ⟨_, rfl⟩
  obtain ⟨fo, hfo⟩ : ∃ x, x = (fnd s.now o.f1).isSome := ⟨_, rfl⟩
  have HFV := Lib.hid hfv
  have HFO := Lib.hid hfo
  have cF : ∀ W, Below (doW w o Ao co).heap.size (doW w o Ao co) W → _ := fun W hB => shutterref06_find.calls _ A c (toS s.now) o.f1 _ _ W (Kd.C_below (by have := HH.out.now _ (Kept.refl _ _); rw [← toS_length] at this; exact this) hB) (by rw [toS_length]; exact HH.out.nc) (find_f s.now o.f1 (by omega))
  rw [← hfv, ← hfo] at cF
  clear hfv hfo
  go_enter Try.func24, Try.ntmps24
  go_upto_region 3 with fail
  change Code.wp _ _ _ _ (doW w o Ao co)
  obtain ⟨W0, hW0⟩ : ∃ W0, W0 = doW w o Ao co := ⟨_, rfl⟩
  rw [← hW0] at HH HB HO HA hz cF ⊢
  clear hW0
  obtain ⟨k0, k1, k2, k3, k4, k5, k6, k7, k8, k9, k10⟩ := op_cells HO.out
  have m1 := HH.out.c1
  rw [← toS_length] at m1
  go_quiet ((go_at_call 52; exact find_quiet (cF _ (pw_below_drewN (Below.refl _ W0) _))))
  replace HH := Lib.hid (HH.out.below (pw_below_drewN (Below.refl _ W0) nq))
  replace HB := Lib.hid (pw_below_drewN HB.out nq)
  replace HO := Lib.hid (blk_drewN HO.out nq)
  replace HA := Lib.hid (blk_drewN HA.out nq)
  replace hz : (W0.drewN nq).heap.size = w.heap.size + 2 := hz
  clear k0 k1 k2 k3 k4 k5 k6 k7 k8 k9 k10 m1 cF
  obtain ⟨W1, hW1⟩ : ∃ W1, W1 = W0.drewN nq := ⟨_, rfl⟩
  rw [← hW1] at HH HB HO HA hz ⊢
  clear hW1
  go_upto_region 5 with fail
  change Code.wp _ _ _ _ (W1.alloc (.cells (ansC 0 fo fv false 0 (.slice none 0 0) 0) 26))
  have hb9 := below_alloc (Below.refl _ W1) (.cells (ansC 0 fo fv false 0 (.slice none 0 0) 0) 26)
  have hn9 := heap_alloc_new W1 (.cells (ansC 0 fo fv false 0 (.slice none 0 0) 0) 26)
  have hz9 : (W1.alloc (.cells (ansC 0 fo fv false 0 (.slice none 0 0) 0) 26)).heap.size = w.heap.size + 3 := by simp [hz]
  rw [hz] at hn9
  obtain ⟨W2, hW2⟩ : ∃ W2, W2 = W1.alloc (.cells (ansC 0 fo fv false 0 (.slice none 0 0) 0) 26) := ⟨_, rfl⟩
  rw [← hW2] at hb9 hn9 hz9 ⊢
  clear hW2
  replace HH := Lib.hid (HH.out.below hb9)
  replace HB := Lib.hid (HB.out.trans (hb9.mono HB.out.size))
  replace HO := Lib.hid (blk_below HO.out hb9)
  replace HA := Lib.hid (blk_below HA.out hb9)
  have H9 := Lib.hid hn9
  clear hb9 hn9 hz
  obtain ⟨k0, k1, k2, k3, k4, k5, k6, k7, k8, k9, k10⟩ := op_cells HO.out
  obtain ⟨l0, l1, l2, l3, l4, l5, l6⟩ := ans_cells H9.out
  have H1 := Lib.hid (((H0.out.more (S' := fun k => S k ∨ k = w.heap.size + 1) (fun k e => e.imp id (fun e => by omega)) (.inl H0.out.rp)).below HB.out))
  have hS1 : ∀ k, (S k ∨ k = w.heap.size + 1) → k < W2.heap.size := fun k e => by
    rcases e with e | e
    · have := HSS.out k e; omega
    · omega
  have HS1 := Lib.hid hS1
  clear hS1
  have cW : ∀ W, Below W2.heap.size W2 W → _ := fun W hB => shutterref06_With.calls _ A c (toS s.now) o.f1 o.f2 _ W (Kd.C_below (by have := H1.out.now _ (Kept.refl _ _); rw [← toS_length] at this; exact this) hB) (by rw [toS_length]; exact H1.out.nc) (with_f s.now o.f1 o.f2 (by omega))
  have c1 := H1.out.c1
  rw [← toS_length] at c1
  have f1 : W2.frozen? ⟨rp, 1, none⟩ = false := blk_frozen H1.out.blk 1
  have hrp2 : rp < W2.heap.size := blk_lt H1.out.blk
  clear l0 l1 l2 l3 l4 l5 l6
  go_upto_region 9 with fail
  go_region_with ((go_at_call 53; refine (cW _ (by first | exact Below.refl _ _ | exact below_drew (Below.refl _ _) | exact pw_below_drewN (Below.refl _ _) _)).mono ?_; rintro e w3 ⟨v, rfl, hR, hB3⟩; obtain ⟨A3, c3, rfl⟩ := Kd.R_slice hR; have c13 : w3.cell? ⟨rp, 1, none⟩ = some (.slice A (toS s.now).length c) := (hB3.cell (p := ⟨rp, 1, none⟩) hrp2).trans c1; have f13 : w3.frozen? ⟨rp, 1, none⟩ = false := (hB3.frozen (p := ⟨rp, 1, none⟩) hrp2).trans f1))
  all_goals
    have HM : Hid (RMd (w3.setCell ⟨rp, 1, none⟩ (.slice A3 (toS (put s.now o.f1 o.f2)).length c3)) (fun k => S k ∨ k = w.heap.size + 1) rp (N + 1) ⟨s.multi, put s.now o.f1 o.f2, s.held⟩ A3 c3 B d hs) := Lib.hid (by first | exact now_end H1.out _ (asc_put H1.out.asc _ _) (Nat.le_trans (length_put_le _ _ _) (Nat.succ_le_succ H1.out.nle)) hR hB3 HS1.out | exact now_end (H1.out.below (below_drew (Below.refl _ _))) _ (asc_put H1.out.asc _ _) (Nat.le_trans (length_put_le _ _ _) (Nat.succ_le_succ H1.out.nle)) hR hB3 HS1.out)
    have HK : Hid (KO w (w3.setCell ⟨rp, 1, none⟩ (.slice A3 (toS (put s.now o.f1 o.f2)).length c3)) (fun k => k = rp)) := Lib.hid (by
      have hb : Below w.heap.size w w3 := by first | exact HB.out.trans (hB3.mono HB.out.size) | exact (below_drew HB.out).trans (hB3.mono HB.out.size)
      exact ⟨(Kept.of_below hb _).then_ (kept_set _ _ _ _) (fun k e => .inl e), hb.os, hb.tape, hb.output⟩)
    have hk3 : Kept W2 (w3.setCell ⟨rp, 1, none⟩ (.slice A3 (toS (put s.now o.f1 o.f2)).length c3)) (fun k => k = rp) := by
      have hb : Kept W2 w3 (fun k => k = rp) := by first | exact Kept.of_below hB3 _ | exact (Kept.of_below (below_drew (Below.refl _ W2)) _).then_ (Kept.of_below hB3 (fun k => k = rp)) (fun k e => .inl e)
      exact hb.then_ (kept_set _ _ _ _) (fun k e => .inl e)
    replace HA := Lib.hid (blk_kept HA.out hk3 (show ¬ (w.heap.size + 1 = rp) by omega))
    replace H9 := Lib.hid (blk_kept H9.out hk3 (show ¬ (w.heap.size + 2 = rp) by omega))
    clear hk3 c13 f13 c1 f1 k0 k1 k2 k3 k4 k5 k6 k7 k8 k9 k10
    obtain ⟨w4, hw4⟩ : ∃ w4, w4 = w3.setCell ⟨rp, 1, none⟩ (.slice A3 (toS (put s.now o.f1 o.f2)).length c3) := ⟨_, rfl⟩
    rw [← hw4] at HM HK HA H9 ⊢
    clear hw4 hR hB3
    obtain ⟨l0, l1, l2, l3, l4, l5, l6⟩ := ans_cells H9.out
    go_wp2_with (first | ((with_reducible refine gate_store (t := 26) (p := 6) rfl ?_); refine wpList_store_row rfl 26 (.tmp 6) (.tmp 46) rfl (w.heap.size + 1) (ansC 0 fo fv false 0 (.slice none 0 0) 0) rfl rfl 26 _ HA.out (by kernel_rfl) rfl (ansC_one _ _ _ _ _ _ _ _ _) ?_))
  all_goals
    refine bodyPost_ret (res_ans rfl _ rfl (setRow_heap _ _ _ _ _ _ HA.out)) rfl ⟨_, by simp only [foundD]; rw [HFO.out, HFV.out], Kd.R_nil _ _ _ _ _, ⟨_, _, _, _, _, (HM.out.kept (Kept_row _ _ _) (fun k e => .inr e) (by omega)).less (fun k e => .inl e) H0.out.rp⟩, (HK.out.then_ (KO.row _ _ _) (fun k e => .inr (by omega)))⟩
set_option maxRecDepth 100000 in
set_option maxHeartbeats 8000000 in
theorem rdo_del {w : World} {S : Nat → Prop} {rp N : Nat} {s : MS} {A : Option Addr} {c : Nat} {B : Option Addr} {d : Nat} {hs : List HdS} (h : RMd w S rp N s A c B d hs) (o : OpS) (Ao : Option Addr) (co : Nat) (hdl : Int) (hN : N ≤ 1099511627776) (hS : ∀ k, S k → k < w.heap.size) (hk : o.f0 = 3) :
    Calls Try.prog 24 #[.pointer (some ⟨rp, 0, none⟩), .agg (opC o Ao co), .int .u64 hdl] w (DoR w S rp (N + 1) ⟨s.multi, del s.now o.f1, s.held⟩ (foundD s o)) := by
  have q1 : (o.f0 == 1) = false := by rw [hk]; decide
  have q2 : (o.f0 == 2) = false := by rw [hk]; decide
  have q3 : (o.f0 == 3) = true := by rw [hk]; decide
  have q4 : (o.f0 == 4) = false := by rw [hk]; decide
  have q5 : (o.f0 == 5) = false := by rw [hk]; decide
  have q6 : (o.f0 == 6) = false := by rw [hk]; decide
  have q7 : (o.f0 == 7) = false := by rw [hk]; decide
  have q8 : (o.f0 == 8) = false := by rw [hk]; decide
  have q9 : (o.f0 == 9) = false := by rw [hk]; decide
  have q10 : (o.f0 == 10) = false := by rw [hk]; decide
  have hrp := blk_lt h.blk
  have hl := h.hle
  have hnl := h.nle
  have HH := Lib.hid (h.below (doW_below w o Ao co))
  have HB := Lib.hid (doW_below w o Ao co)
  have HO := Lib.hid (doW_op w o Ao co)
  have HA := Lib.hid (doW_ans w o Ao co)
  have hz := doW_size w o Ao co
  have HSS := Lib.hid hS
  have H0 := Lib.hid h
  clear h hS
  obtain ⟨fv, hfv⟩ : ∃ x, x = (fnd s.now o.f1).getD 0 := ⟨_, rfl⟩
  obtain ⟨fo, hfo⟩ : ∃ x, x = (fnd s.now o.f1).isSome := ⟨_, rfl⟩
  have HFV := Lib.hid hfv
  have HFO := Lib.hid hfo
  have cF : ∀ W, Below (doW w o Ao co).heap.size (doW w o Ao co) W → _ := fun W hB => shutterref06_find.calls _ A c (toS s.now) o.f1 _ _ W (Kd.C_below (by have := HH.out.now _ (Kept.refl _ _); rw [← toS_length] at this; exact this) hB) (by rw [toS_length]; exact HH.out.nc) (find_f s.now o.f1 (by omega))
  rw [← hfv, ← hfo] at cF
  clear hfv hfo
  go_enter Try.func24, Try.ntmps24
  go_upto_region 3 with fail
  change Code.wp _ _ _ _ (doW w o Ao co)
  obtain ⟨W0, hW0⟩ : ∃ W0, W0 = doW w o Ao co := ⟨_, rfl⟩
  rw [← hW0] at HH HB HO HA hz cF ⊢
  clear hW0
  obtain ⟨k0, k1, k2, k3, k4, k5, k6, k7, k8, k9, k10⟩ := op_cells HO.out
  have m1 := HH.out.c1
  rw [← toS_length] at m1
  go_quiet ((go_at_call 52; exact find_quiet (cF _ (pw_below_drewN (Below.refl _ W0) _))))
  replace HH := Lib.hid (HH.out.below (pw_below_drewN (Below.refl _ W0) nq))
  replace HB := Lib.hid (pw_below_drewN HB.out nq)
  replace HO := Lib.hid (blk_drewN HO.out nq)
  replace HA := Lib.hid (blk_drewN HA.out nq)
  replace hz : (W0.drewN nq).heap.size = w.heap.size + 2 := hz
  clear k0 k1 k2 k3 k4 k5 k6 k7 k8 k9 k10 m1 cF
  obtain ⟨W1, hW1⟩ : ∃ W1, W1 = W0.drewN nq := ⟨_, rfl⟩
  rw [← hW1] at HH HB HO HA hz ⊢
  clear hW1
  go_upto_region 5 with fail
  change Code.wp _ _ _ _ (W1.alloc (.cells (ansC 0 fo fv false 0 (.slice none 0 0) 0) 26))
  have hb9 := below_alloc (Below.refl _ W1) (.cells (ansC 0 fo fv false 0 (.slice none 0 0) 0) 26)
  have hn9 := heap_alloc_new W1 (.cells (ansC 0 fo fv false 0 (.slice none 0 0) 0) 26)
  have hz9 : (W1.alloc (.cells (ansC 0 fo fv false 0 (.slice none 0 0) 0) 26)).heap.size = w.heap.size + 3 := by simp [hz]
  rw [hz] at hn9
  obtain ⟨W2, hW2⟩ : ∃ W2, W2 = W1.alloc (.cells (ansC 0 fo fv false 0 (.slice none 0 0) 0) 26) := ⟨_, rfl⟩
  rw [← hW2] at hb9 hn9 hz9 ⊢
  clear hW2
  replace HH := Lib.hid (HH.out.below hb9)
  replace HB := Lib.hid (HB.out.trans (hb9.mono HB.out.size))
  replace HO := Lib.hid (blk_below HO.out hb9)
  replace HA := Lib.hid (blk_below HA.out hb9)
  have H9 := Lib.hid hn9
  clear hb9 hn9 hz
  obtain ⟨k0, k1, k2, k3, k4, k5, k6, k7, k8, k9, k10⟩ := op_cells HO.out
  obtain ⟨l0, l1, l2, l3, l4, l5, l6⟩ := ans_cells H9.out
  have H1 := Lib.hid (((H0.out.more (S' := fun k => S k ∨ k = w.heap.size + 1) (fun k e => e.imp id (fun e => by omega)) (.inl H0.out.rp)).below HB.out))
  have hS1 : ∀ k, (S k ∨ k = w.heap.size + 1) → k < W2.heap.size := fun k e => by
    rcases e with e | e
    · have := HSS.out k e; omega
    · omega
  have HS1 := Lib.hid hS1
  clear hS1
  have cW : ∀ W, Below W2.heap.size W2 W → _ := fun W hB => shutterref06_Without.calls _ A c (toS s.now) o.f1 _ W (Kd.C_below (by have := H1.out.now _ (Kept.refl _ _); rw [← toS_length] at this; exact this) hB) (by rw [toS_length]; exact H1.out.nc) (without_f s.now o.f1 (by omega))
  have c1 := H1.out.c1
  rw [← toS_length] at c1
  have f1 : W2.frozen? ⟨rp, 1, none⟩ = false := blk_frozen H1.out.blk 1
  have hrp2 : rp < W2.heap.size := blk_lt H1.out.blk
  clear l0 l1 l2 l3 l4 l5 l6
  go_upto_region 12 with fail
  go_region_with ((go_at_call 54; refine (cW _ (by first | exact Below.refl _ _ | exact below_drew (Below.refl _ _) | exact pw_below_drewN (Below.refl _ _) _)).mono ?_; rintro e w3 ⟨v, rfl, hR, hB3⟩; obtain ⟨A3, c3, rfl⟩ := Kd.R_slice hR; have c13 : w3.cell? ⟨rp, 1, none⟩ = some (.slice A (toS s.now).length c) := (hB3.cell (p := ⟨rp, 1, none⟩) hrp2).trans c1; have f13 : w3.frozen? ⟨rp, 1, none⟩ = false := (hB3.frozen (p := ⟨rp, 1, none⟩) hrp2).trans f1))
  all_goals
    have HM : Hid (RMd (w3.setCell ⟨rp, 1, none⟩ (.slice A3 (toS (del s.now o.f1)).length c3)) (fun k => S k ∨ k = w.heap.size + 1) rp (N + 1) ⟨s.multi, del s.now o.f1, s.held⟩ A3 c3 B d hs) := Lib.hid (by first | exact now_end H1.out _ (asc_del H1.out.asc _) (Nat.le_trans (List.length_filter_le _ _) (Nat.le_succ_of_le H1.out.nle)) hR hB3 HS1.out | exact now_end (H1.out.below (below_drew (Below.refl _ _))) _ (asc_del H1.out.asc _) (Nat.le_trans (List.length_filter_le _ _) (Nat.le_succ_of_le H1.out.nle)) hR hB3 HS1.out)
    have HK : Hid (KO w (w3.setCell ⟨rp, 1, none⟩ (.slice A3 (toS (del s.now o.f1)).length c3)) (fun k => k = rp)) := Lib.hid (by
      have hb : Below w.heap.size w w3 := by first | exact HB.out.trans (hB3.mono HB.out.size) | exact (below_drew HB.out).trans (hB3.mono HB.out.size)
      exact ⟨(Kept.of_below hb _).then_ (kept_set _ _ _ _) (fun k e => .inl e), hb.os, hb.tape, hb.output⟩)
    have hk3 : Kept W2 (w3.setCell ⟨rp, 1, none⟩ (.slice A3 (toS (del s.now o.f1)).length c3)) (fun k => k = rp) := by
      have hb : Kept W2 w3 (fun k => k = rp) := by first | exact Kept.of_below hB3 _ | exact (Kept.of_below (below_drew (Below.refl _ W2)) _).then_ (Kept.of_below hB3 (fun k => k = rp)) (fun k e => .inl e)
      exact hb.then_ (kept_set _ _ _ _) (fun k e => .inl e)
    replace HA := Lib.hid (blk_kept HA.out hk3 (show ¬ (w.heap.size + 1 = rp) by omega))
    replace H9 := Lib.hid (blk_kept H9.out hk3 (show ¬ (w.heap.size + 2 = rp) by omega))
    clear hk3 c13 f13 c1 f1 k0 k1 k2 k3 k4 k5 k6 k7 k8 k9 k10
    obtain ⟨w4, hw4⟩ : ∃ w4, w4 = w3.setCell ⟨rp, 1, none⟩ (.slice A3 (toS (del s.now o.f1)).length c3) := ⟨_, rfl⟩
    rw [← hw4] at HM HK HA H9 ⊢
    clear hw4 hR hB3
    obtain ⟨l0, l1, l2, l3, l4, l5, l6⟩ := ans_cells H9.out
    go_wp2_with (first | ((with_reducible refine gate_store (t := 26) (p := 6) rfl ?_); refine wpList_store_row rfl 26 (.tmp 6) (.tmp 59) rfl (w.heap.size + 1) (ansC 0 fo fv false 0 (.slice none 0 0) 0) rfl rfl 26 _ HA.out (by kernel_rfl) rfl (ansC_one _ _ _ _ _ _ _ _ _) ?_))
  all_goals
    refine bodyPost_ret (res_ans rfl _ rfl (setRow_heap _ _ _ _ _ _ HA.out)) rfl ⟨_, by simp only [foundD]; rw [HFO.out, HFV.out], Kd.R_nil _ _ _ _ _, ⟨_, _, _, _, _, (HM.out.kept (Kept_row _ _ _) (fun k e => .inr e) (by omega)).less (fun k e => .inl e) H0.out.rp⟩, (HK.out.then_ (KO.row _ _ _) (fun k e => .inr (by omega)))⟩
set_option maxRecDepth 100000 in
set_option maxHeartbeats 8000000 in
theorem rdo_swapN {w : World} {S : Nat → Prop} {rp N : Nat} {s : MS} {A : Option Addr} {c : Nat} {B : Option Addr} {d : Nat} {hs : List HdS} (h : RMd w S rp N s A c B d hs) (o : OpS) (Ao : Option Addr) (co : Nat) (hdl : Int) (hN : N ≤ 1099511627776) (hS : ∀ k, S k → k < w.heap.size) (hk : o.f0 = 4) (hx : fnd s.now o.f1 ≠ some o.f3) :
    Calls Try.prog 24 #[.pointer (some ⟨rp, 0, none⟩), .agg (opC o Ao co), .int .u64 hdl] w (DoR w S rp (N + 1) s (foundD s o)) := by
  have q1 : (o.f0 == 1) = false := by rw [hk]; decide
  have q2 : (o.f0 == 2) = false := by rw [hk]; decide
  have q3 : (o.f0 == 3) = false := by rw [hk]; decide
  have q4 : (o.f0 == 4) = true := by rw [hk]; decide
  have q5 : (o.f0 == 5) = false := by rw [hk]; decide
  have q6 : (o.f0 == 6) = false := by rw [hk]; decide
  have q7 : (o.f0 == 7) = false := by rw [hk]; decide
  have q8 : (o.f0 == 8) = false := by rw [hk]; decide
  have q9 : (o.f0 == 9) = false := by rw [hk]; decide
  have q10 : (o.f0 == 10) = false := by rw [hk]; decide
  have hrp := blk_lt h.blk
  have hl := h.hle
  have hnl := h.nle
  have HH := Lib.hid (h.below (doW_below w o Ao co))
  have HB := Lib.hid (doW_below w o Ao co)
  have HO := Lib.hid (doW_op w o Ao co)
  have HA := Lib.hid (doW_ans w o Ao co)
  have hz := doW_size w o Ao co
  have HSS := Lib.hid hS
  have H0 := Lib.hid h
  clear h hS
  obtain ⟨fv, hfv⟩ : ∃ x, x = (fnd s.now o.f1).getD 0 := ⟨_, rfl⟩
  obtain ⟨fo, hfo⟩ : ∃ x, x = (fnd s.now o.f1).isSome := ⟨_, rfl⟩
  have HFV := Lib.hid hfv
  have HFO := Lib.hid hfo
  have cF : ∀ W, Below (doW w o Ao co).heap.size (doW w o Ao co) W → _ := fun W hB => shutterref06_find.calls _ A c (toS s.now) o.f1 _ _ W (Kd.C_below (by have := HH.out.now _ (Kept.refl _ _); rw [← toS_length] at this; exact this) hB) (by rw [toS_length]; exact HH.out.nc) (find_f s.now o.f1 (by omega))
  rw [← hfv, ← hfo] at cF
  clear hfv hfo
  go_enter Try.func24, Try.ntmps24
  go_upto_region 3 with fail
  change Code.wp _ _ _ _ (doW w o Ao co)
  obtain ⟨W0, hW0⟩ : ∃ W0, W0 = doW w o Ao co := ⟨_, rfl⟩
  rw [← hW0] at HH HB HO HA hz cF ⊢
  clear hW0
  obtain ⟨k0, k1, k2, k3, k4, k5, k6, k7, k8, k9, k10⟩ := op_cells HO.out
  have m1 := HH.out.c1
  rw [← toS_length] at m1
  go_quiet ((go_at_call 52; exact find_quiet (cF _ (pw_below_drewN (Below.refl _ W0) _))))
  replace HH := Lib.hid (HH.out.below (pw_below_drewN (Below.refl _ W0) nq))
  replace HB := Lib.hid (pw_below_drewN HB.out nq)
  replace HO := Lib.hid (blk_drewN HO.out nq)
  replace HA := Lib.hid (blk_drewN HA.out nq)
  replace hz : (W0.drewN nq).heap.size = w.heap.size + 2 := hz
  clear k0 k1 k2 k3 k4 k5 k6 k7 k8 k9 k10 m1 cF
  obtain ⟨W1, hW1⟩ : ∃ W1, W1 = W0.drewN nq := ⟨_, rfl⟩
  rw [← hW1] at HH HB HO HA hz ⊢
  clear hW1
  go_upto_region 5 with fail
  change Code.wp _ _ _ _ (W1.alloc (.cells (ansC 0 fo fv false 0 (.slice none 0 0) 0) 26))
  have hb9 := below_alloc (Below.refl _ W1) (.cells (ansC 0 fo fv false 0 (.slice none 0 0) 0) 26)
  have hn9 := heap_alloc_new W1 (.cells (ansC 0 fo fv false 0 (.slice none 0 0) 0) 26)
  have hz9 : (W1.alloc (.cells (ansC 0 fo fv false 0 (.slice none 0 0) 0) 26)).heap.size = w.heap.size + 3 := by simp [hz]
  rw [hz] at hn9
  obtain ⟨W2, hW2⟩ : ∃ W2, W2 = W1.alloc (.cells (ansC 0 fo fv false 0 (.slice none 0 0) 0) 26) := ⟨_, rfl⟩
  rw [← hW2] at hb9 hn9 hz9 ⊢
  clear hW2
  replace HH := Lib.hid (HH.out.below hb9)
  replace HB := Lib.hid (HB.out.trans (hb9.mono HB.out.size))
  replace HO := Lib.hid (blk_below HO.out hb9)
  replace HA := Lib.hid (blk_below HA.out hb9)
  have H9 := Lib.hid hn9
  clear hb9 hn9 hz
  obtain ⟨k0, k1, k2, k3, k4, k5, k6, k7, k8, k9, k10⟩ := op_cells HO.out
  obtain ⟨l0, l1, l2, l3, l4, l5, l6⟩ := ans_cells H9.out
  have hcase : fo = false ∨ (fo = true ∧ (fv == o.f3) = false) := by
    rw [HFO.out, HFV.out]
    cases hf : fnd s.now o.f1 with
    | none => exact .inl rfl
    | some x =>
      refine .inr ⟨rfl, ?_⟩
      rw [beq_eq_false_iff_ne]
      intro e
      exact hx (by rw [hf]; exact congrArg some e)
  clear hx
  rcases hcase with e | ⟨e, e2⟩
  · subst e
    go_wp2_with (first | ((with_reducible refine gate_store (t := 26) (p := 6) rfl ?_); refine wpList_store_row rfl 26 (.tmp 6) (.tmp 82) rfl (w.heap.size + 1) (ansC 0 false fv false 0 (.slice none 0 0) 0) rfl rfl 26 _ HA.out (by kernel_rfl) rfl (ansC_one _ _ _ _ _ _ _ _ _) ?_))
    refine bodyPost_ret (res_ans rfl _ rfl (setRow_heap _ _ _ _ _ _ HA.out)) rfl ⟨_, by first | rfl | (simp only [foundD, errD]; rw [HFO.out, HFV.out]), Kd.R_nil _ _ _ _ _, ⟨_, _, _, _, _, (H0.out.below (below_row HB.out (by omega) _)).mono (Nat.le_succ N)⟩, KO.of_below (below_row HB.out (by omega) _) _⟩
  · subst e
    go_wp2_with (first | ((with_reducible refine gate_store (t := 26) (p := 6) rfl ?_); refine wpList_store_row rfl 26 (.tmp 6) (.tmp 82) rfl (w.heap.size + 1) (ansC 0 true fv false 0 (.slice none 0 0) 0) rfl rfl 26 _ HA.out (by kernel_rfl) rfl (ansC_one _ _ _ _ _ _ _ _ _) ?_))
    refine bodyPost_ret (res_ans rfl _ rfl (setRow_heap _ _ _ _ _ _ HA.out)) rfl ⟨_, by first | rfl | (simp only [foundD, errD]; rw [HFO.out, HFV.out]), Kd.R_nil _ _ _ _ _, ⟨_, _, _, _, _, (H0.out.below (below_row HB.out (by omega) _)).mono (Nat.le_succ N)⟩, KO.of_below (below_row HB.out (by omega) _) _⟩
end Go.Proofs.Ytngocadnbpdnoaa.Mo
namespace Go.Proofs.Ytngocadnbpdnoaa.Mo
open Go Go.Maps Go.RowKit Go.Proofs.Ytngocadnbpdnoaa.Srt Go.Proofs.Ytngocadnbpdnoaa.Q Go.Proofs.YtngocadnbpdnoaaW.PrintWords Go.Proofs.YtngocadnbpdnoaaW.PrintLast Go.Proofs.YtngocadnbpdnoaaW.PrintMore
set_option linter.unusedVariables false
set_option linter.unusedSimpArgs false
set_option maxRecDepth 100000 in
set_option maxHeartbeats 8000000 in
theorem rdo_swapY {w : World} {S : Nat → Prop} {rp N : Nat} {s : MS} {A : Option Addr} {c : Nat} {B : Option Addr} {d : Nat} {hs : List HdS} (h : RMd w S rp N s A c B d hs) (o : OpS) (Ao : Option Addr) (co : Nat) (hdl : Int) (hN : N ≤ 1099511627776) (hS : ∀ k, S k → k < w.heap.size) (hk : o.f0 = 4) (hx : fnd s.now o.f1 = some o.f3) :
    Calls Try.prog 24 #[.pointer (some ⟨rp, 0, none⟩), .agg (opC o Ao co), .int .u64 hdl] w (DoR w S rp (N + 1) ⟨s.multi, put s.now o.f1 o.f2, s.held⟩ { foundD s o with dn := true }) := by
  have q1 : (o.f0 == 1) = false := by rw [hk]; decide
  have q2 : (o.f0 == 2) = false := by rw [hk]; decide
  have q3 : (o.f0 == 3) = false := by rw [hk]; decide
  have q4 : (o.f0 == 4) = true := by rw [hk]; decide
  have q5 : (o.f0 == 5) = false := by rw [hk]; decide
  have q6 : (o.f0 == 6) = false := by rw [hk]; decide
  have q7 : (o.f0 == 7) = false := by rw [hk]; decide
  have q8 : (o.f0 == 8) = false := by rw [hk]; decide
  have q9 : (o.f0 == 9) = false := by rw [hk]; decide
  have q10 : (o.f0 == 10) = false := by rw [hk]; decide
  have hrp := blk_lt h.blk
  have hl := h.hle
  have hnl := h.nle
  have HH := Lib.hid (h.below (doW_below w o Ao co))
  have HB := Lib.hid (doW_below w o Ao co)
  have HO := Lib.hid (doW_op w o Ao co)
  have HA := Lib.hid (doW_ans w o Ao co)
  have hz := doW_size w o Ao co
  have HSS := Lib.hid hS
  have H0 := Lib.hid h
  clear h hS
  obtain ⟨fv, hfv⟩ : ∃ x, x = (fnd s.now o.f1).getD 0 := ⟨_, rfl⟩
  obtain ⟨fo, hfo⟩ : ∃ x, x = (fnd s.now o.f1).isSome := ⟨_, rfl⟩
  have HFV := Lib.hid hfv
  have HFO := Lib.hid hfo
  have cF : ∀ W, Below (doW w o Ao co).heap.size (doW w o Ao co) W → _ := fun W hB => shutterref06_find.calls _ A c (toS s.now) o.f1 _ _ W (Kd.C_below (by have := HH.out.now _ (Kept.refl _ _); rw [← toS_length] at this; exact this) hB) (by rw [toS_length]; exact HH.out.nc) (find_f s.now o.f1 (by omega))
  rw [← hfv, ← hfo] at cF
  clear hfv hfo
  go_enter Try.func24, Try.ntmps24
  go_upto_region 3 with fail
  change Code.wp _ _ _ _ (doW w o Ao co)
  obtain ⟨W0, hW0⟩ : ∃ W0, W0 = doW w o Ao co := ⟨_, rfl⟩
  rw [← hW0] at HH HB HO HA hz cF ⊢
  clear hW0
  obtain ⟨k0, k1, k2, k3, k4, k5, k6, k7, k8, k9, k10⟩ := op_cells HO.out
  have m1 := HH.out.c1
  rw [← toS_length] at m1
  go_quiet ((go_at_call 52; exact find_quiet (cF _ (pw_below_drewN (Below.refl _ W0) _))))
  replace HH := Lib.hid (HH.out.below (pw_below_drewN (Below.refl _ W0) nq))
  replace HB := Lib.hid (pw_below_drewN HB.out nq)
  replace HO := Lib.hid (blk_drewN HO.out nq)
  replace HA := Lib.hid (blk_drewN HA.out nq)
  replace hz : (W0.drewN nq).heap.size = w.heap.size + 2 := hz
  clear k0 k1 k2 k3 k4 k5 k6 k7 k8 k9 k10 m1 cF
  obtain ⟨W1, hW1⟩ : ∃ W1, W1 = W0.drewN nq := ⟨_, rfl⟩
  rw [← hW1] at HH HB HO HA hz ⊢
  clear hW1
  go_upto_region 5 with fail
  change Code.wp _ _ _ _ (W1.alloc (.cells (ansC 0 fo fv false 0 (.slice none 0 0) 0) 26))
  have hb9 := below_alloc (Below.refl _ W1) (.cells (ansC 0 fo fv false 0 (.slice none 0 0) 0) 26)
  have hn9 := heap_alloc_new W1 (.cells (ansC 0 fo fv false 0 (.slice none 0 0) 0) 26)
  have hz9 : (W1.alloc (.cells (ansC 0 fo fv false 0 (.slice none 0 0) 0) 26)).heap.size = w.heap.size + 3 := by simp [hz]
  rw [hz] at hn9
  obtain ⟨W2, hW2⟩ : ∃ W2, W2 = W1.alloc (.cells (ansC 0 fo fv false 0 (.slice none 0 0) 0) 26) := ⟨_, rfl⟩
  rw [← hW2] at hb9 hn9 hz9 ⊢
  clear hW2
  replace HH := Lib.hid (HH.out.below hb9)
  replace HB := Lib.hid (HB.out.trans (hb9.mono HB.out.size))
  replace HO := Lib.hid (blk_below HO.out hb9)
  replace HA := Lib.hid (blk_below HA.out hb9)
  have H9 := Lib.hid hn9
  clear hb9 hn9 hz
  obtain ⟨k0, k1, k2, k3, k4, k5, k6, k7, k8, k9, k10⟩ := op_cells HO.out
  obtain ⟨l0, l1, l2, l3, l4, l5, l6⟩ := ans_cells H9.out
  have H1 := Lib.hid (((H0.out.more (S' := fun k => S k ∨ (k = w.heap.size + 1 ∨ k = w.heap.size + 2)) (fun k e => e.imp id (fun e => by omega)) (.inl H0.out.rp)).below HB.out))
  have hS1 : ∀ k, (S k ∨ (k = w.heap.size + 1 ∨ k = w.heap.size + 2)) → k < W2.heap.size := fun k e => by
    rcases e with e | e
    · have := HSS.out k e; omega
    · omega
  have HS1 := Lib.hid hS1
  clear hS1
  have cW : ∀ W, Below W2.heap.size W2 W → _ := fun W hB => shutterref06_With.calls _ A c (toS s.now) o.f1 o.f2 _ W (Kd.C_below (by have := H1.out.now _ (Kept.refl _ _); rw [← toS_length] at this; exact this) hB) (by rw [toS_length]; exact H1.out.nc) (with_f s.now o.f1 o.f2 (by omega))
  have e2 : (fv == o.f3) = true := by rw [HFV.out, hx]; exact beq_self_eq_true _
  have e1 : fo = true := by rw [HFO.out, hx]; rfl
  clear hx
  subst e1
  have c1 := H1.out.c1
  rw [← toS_length] at c1
  have f1 : W2.frozen? ⟨rp, 1, none⟩ = false := blk_frozen H1.out.blk 1
  have hrp2 : rp < W2.heap.size := blk_lt H1.out.blk
  clear l0 l1 l2 l3 l4 l5 l6
  go_upto_region 16 with fail
  go_region_with ((go_at_call 53; refine (cW _ (by first | exact Below.refl _ _ | exact below_drew (Below.refl _ _) | exact pw_below_drewN (Below.refl _ _) _)).mono ?_; rintro e w3 ⟨v, rfl, hR, hB3⟩; obtain ⟨A3, c3, rfl⟩ := Kd.R_slice hR; have c13 : w3.cell? ⟨rp, 1, none⟩ = some (.slice A (toS s.now).length c) := (hB3.cell (p := ⟨rp, 1, none⟩) hrp2).trans c1; have f13 : w3.frozen? ⟨rp, 1, none⟩ = false := (hB3.frozen (p := ⟨rp, 1, none⟩) hrp2).trans f1))
  all_goals
    have HM : Hid (RMd (w3.setCell ⟨rp, 1, none⟩ (.slice A3 (toS (put s.now o.f1 o.f2)).length c3)) (fun k => S k ∨ (k = w.heap.size + 1 ∨ k = w.heap.size + 2)) rp (N + 1) ⟨s.multi, put s.now o.f1 o.f2, s.held⟩ A3 c3 B d hs) := Lib.hid (by first | exact now_end H1.out _ (asc_put H1.out.asc _ _) (Nat.le_trans (length_put_le _ _ _) (Nat.succ_le_succ H1.out.nle)) hR hB3 HS1.out | exact now_end (H1.out.below (below_drew (Below.refl _ _))) _ (asc_put H1.out.asc _ _) (Nat.le_trans (length_put_le _ _ _) (Nat.succ_le_succ H1.out.nle)) hR hB3 HS1.out)
    have HK : Hid (KO w (w3.setCell ⟨rp, 1, none⟩ (.slice A3 (toS (put s.now o.f1 o.f2)).length c3)) (fun k => k = rp)) := Lib.hid (by
      have hb : Below w.heap.size w w3 := by first | exact HB.out.trans (hB3.mono HB.out.size) | exact (below_drew HB.out).trans (hB3.mono HB.out.size)
      exact ⟨(Kept.of_below hb _).then_ (kept_set _ _ _ _) (fun k e => .inl e), hb.os, hb.tape, hb.output⟩)
    have hk3 : Kept W2 (w3.setCell ⟨rp, 1, none⟩ (.slice A3 (toS (put s.now o.f1 o.f2)).length c3)) (fun k => k = rp) := by
      have hb : Kept W2 w3 (fun k => k = rp) := by first | exact Kept.of_below hB3 _ | exact (Kept.of_below (below_drew (Below.refl _ W2)) _).then_ (Kept.of_below hB3 (fun k => k = rp)) (fun k e => .inl e)
      exact hb.then_ (kept_set _ _ _ _) (fun k e => .inl e)
    replace HA := Lib.hid (blk_kept HA.out hk3 (show ¬ (w.heap.size + 1 = rp) by omega))
    replace H9 := Lib.hid (blk_kept H9.out hk3 (show ¬ (w.heap.size + 2 = rp) by omega))
    clear hk3 c13 f13 c1 f1 k0 k1 k2 k3 k4 k5 k6 k7 k8 k9 k10
    obtain ⟨w4, hw4⟩ : ∃ w4, w4 = w3.setCell ⟨rp, 1, none⟩ (.slice A3 (toS (put s.now o.f1 o.f2)).length c3) := ⟨_, rfl⟩
    rw [← hw4] at HM HK HA H9 ⊢
    clear hw4 hR hB3
    obtain ⟨l0, l1, l2, l3, l4, l5, l6⟩ := ans_cells H9.out
    have f93 : w4.frozen? ⟨w.heap.size + 2, 3, none⟩ = false := blk_frozen H9.out 3
    go_upto_region 18 with fail
    clear l0 l1 l2 l3 l4 l5 l6 f93
    have hk5 := kept_set w4 (w.heap.size + 2) 3 (.bool true)
    replace HM := Lib.hid (HM.out.kept hk5 (fun k e => .inr (.inr e)) (by omega))
    replace HA := Lib.hid (blk_kept HA.out hk5 (by omega))
    replace HK := Lib.hid (HK.out.then_ ⟨hk5, rfl, rfl, rfl⟩ (fun k e => .inr (by omega)))
    replace H9 : Hid ((w4.setCell ⟨w.heap.size + 2, 3, none⟩ (.bool true)).heap[w.heap.size + 2]? = some (.cells (ansC 0 true fv true 0 (.slice none 0 0) 0) 26 (0, 0))) := Lib.hid (blk_put H9.out 3 _ rfl)
    obtain ⟨w5, hw5⟩ : ∃ w5, w5 = w4.setCell ⟨w.heap.size + 2, 3, none⟩ (.bool true) := ⟨_, rfl⟩
    rw [← hw5] at HM HA HK H9 ⊢
    clear hw5 hk5
    obtain ⟨l0, l1, l2, l3, l4, l5, l6⟩ := ans_cells H9.out
    go_wp2_with (first | ((with_reducible refine gate_store (t := 26) (p := 6) rfl ?_); refine wpList_store_row rfl 26 (.tmp 6) (.tmp 82) rfl (w.heap.size + 1) (ansC 0 true fv true 0 (.slice none 0 0) 0) rfl rfl 26 _ HA.out (by kernel_rfl) rfl (ansC_one _ _ _ _ _ _ _ _ _) ?_))
  all_goals
    refine bodyPost_ret (res_ans rfl _ rfl (setRow_heap _ _ _ _ _ _ HA.out)) rfl ⟨_, by simp only [foundD]; rw [← HFO.out, ← HFV.out], Kd.R_nil _ _ _ _ _, ⟨_, _, _, _, _, (HM.out.kept (Kept_row _ _ _) (fun k e => .inr (.inl e)) (by omega)).less (fun k e => .inl e) H0.out.rp⟩, (HK.out.then_ (KO.row _ _ _) (fun k e => .inr (by omega)))⟩
end Go.Proofs.Ytngocadnbpdnoaa.Mo
namespace Go.Proofs.Ytngocadnbpdnoaa.Mo
open Go Go.Maps Go.RowKit Go.Proofs.Ytngocadnbpdnoaa.Srt Go.Proofs.Ytngocadnbpdnoaa.Q Go.Proofs.YtngocadnbpdnoaaW.PrintWords Go.Proofs.YtngocadnbpdnoaaW.PrintLast Go.Proofs.YtngocadnbpdnoaaW.PrintMore
set_option linter.unusedVariables false
set_option linter.unusedSimpArgs false
/-- The document's Do, at every operation: as stepD. -/
theorem rdo_c {w : World} {S : Nat → Prop} {rp N : Nat} {s : MS} {A : Option Addr} {c : Nat} {B : Option Addr} {d : Nat} {hs : List HdS} (h : RMd w S rp N s A c B d hs) (o : OpS) (Ao : Option Addr) (co : Nat) (hdl : Int) (hN : N ≤ 1099511627776) (hS : ∀ k, S k → k < w.heap.size) (hC : Kd.C (Kd.int .u64) w Ao o.f6.length o.f6) (hCc : o.f6.length ≤ co) (hCn : o.f6.length ≤ 1099511627776) :
    Calls Try.prog 24 #[.pointer (some ⟨rp, 0, none⟩), .agg (opC o Ao co), .int .u64 hdl] w (DoR w S rp (N + 1) (stepD s o hdl).1 (stepD s o hdl).2) := by
  by_cases h1 : o.f0 = 1
  · rw [show stepD s o hdl = (s, foundD s o) by simp [stepD, h1]]
    exact rdo_get h o Ao co hdl hN hS h1
  by_cases h2 : o.f0 = 2
  · rw [show stepD s o hdl = (⟨s.multi, put s.now o.f1 o.f2, s.held⟩, foundD s o) by simp [stepD, h2]]
    exact rdo_put h o Ao co hdl hN hS h2
  by_cases h3 : o.f0 = 3
  · rw [show stepD s o hdl = (⟨s.multi, del s.now o.f1, s.held⟩, foundD s o) by simp [stepD, h3]]
    exact rdo_del h o Ao co hdl hN hS h3
  by_cases h4 : o.f0 = 4
  · by_cases hx : fnd s.now o.f1 = some o.f3
    · rw [show stepD s o hdl = (⟨s.multi, put s.now o.f1 o.f2, s.held⟩, { foundD s o with dn := true }) by simp [stepD, h4, hx]]
      exact rdo_swapY h o Ao co hdl hN hS h4 hx
    · rw [show stepD s o hdl = (s, foundD s o) by simp [stepD, h4, hx]]
      exact rdo_swapN h o Ao co hdl hN hS h4 hx
  by_cases h5 : o.f0 = 5
  · by_cases h0 : hdl = 0
    · have hz := h.zero
      rw [show stepD s o hdl = (s, errD 0) by simp [stepD, h5, h0, snapHeld, snapD, hz, errD]]
      exact rdo_snap0 h o Ao co hdl hN hS h5 h0
    · cases hf : fnd s.held hdl with
      | some l =>
        rw [show stepD s o hdl = (s, errD 32) by simp [stepD, h5, snapHeld, snapD, hf]]
        exact rdo_snapS h o Ao co hdl hN hS h5 h0 l hf
      | none =>
        rw [show stepD s o hdl = (⟨s.multi, s.now, put s.held hdl s.now⟩, ⟨0, false, 0, false, hdl, [], 0⟩) by simp [stepD, h5, snapHeld, snapD, hf, h0]]
        exact rdo_snapN h o Ao co hdl hN hS h5 h0 hf
  by_cases h6 : o.f0 = 6
  · cases hf : fnd s.held o.f4 with
    | none =>
      rw [show stepD s o hdl = (s, errD 33) by simp [stepD, h6, hf]]
      exact rdo_relN h o Ao co hdl hN hS h6 hf
    | some l =>
      rw [show stepD s o hdl = (⟨s.multi, s.now, del s.held o.f4⟩, errD 0) by simp [stepD, h6, hf]]
      exact rdo_relY h o Ao co hdl hN hS h6 l hf
  have hb : ∀ W, Below w.heap.size w W → RMd W S rp N s A c B d hs := fun W hB => h.below hB
  have hc : ∀ W, Below w.heap.size w W → Kd.C (Kd.int .u64) W Ao o.f6.length o.f6 := fun W hB => Kd.C_below hC hB
  by_cases h7 : o.f0 = 7
  · by_cases hl : s.multi < (o.f6.length : Int)
    · rw [show stepD s o hdl = (s, errD 6) by simp [stepD, h7, hl]]
      exact rdo_query h o Ao co hdl hN hS (by omega) _ (fun W hB => query_long (hb W hB) o Ao co hN (hc W hB) hCc hCn h7 hl)
    · cases hf : fnd s.held o.f4 with
      | none =>
        rw [show stepD s o hdl = (s, errD 33) by simp [stepD, h7, hl, hf]]
        exact rdo_query h o Ao co hdl hN hS (by omega) _ (fun W hB => query_no7 (hb W hB) o Ao co hN (hc W hB) hCc hCn h7 hl hf)
      | some l =>
        rw [show stepD s o hdl = (s, ⟨0, false, 0, false, 0, ofKeys l o.f6, 0⟩) by simp [stepD, h7, hl, hf]]
        exact rdo_query h o Ao co hdl hN hS (by omega) _ (fun W hB => query_yes7 (hb W hB) o Ao co hN (hc W hB) hCc hCn h7 hl l hf)
  by_cases h8 : o.f0 = 8
  · cases hf : fnd s.held o.f4 with
    | none =>
      rw [show stepD s o hdl = (s, errD 33) by simp [stepD, h8, hf]]
      exact rdo_query h o Ao co hdl hN hS (by omega) _ (fun W hB => query_no8 (hb W hB) o Ao co hN (hc W hB) hCc hCn h8 hf)
    | some l =>
      rw [show stepD s o hdl = (s, ⟨0, false, 0, false, 0, within o.f7 o.f8 l, 0⟩) by simp [stepD, h8, hf]]
      exact rdo_query h o Ao co hdl hN hS (by omega) _ (fun W hB => query_yes8 (hb W hB) o Ao co hN (hc W hB) hCc hCn h8 l hf)
  by_cases h9 : o.f0 = 9
  · cases hf : fnd s.held o.f4 with
    | none =>
      rw [show stepD s o hdl = (s, errD 33) by simp [stepD, h9, hf]]
      exact rdo_query h o Ao co hdl hN hS (by omega) _ (fun W hB => query_no9 (hb W hB) o Ao co hN (hc W hB) hCc hCn h9 hf)
    | some l =>
      rw [show stepD s o hdl = (s, ⟨0, false, 0, false, 0, [], ((toS (within o.f7 o.f8 l)).length : Int)⟩) by simp [stepD, h9, hf]]
      exact rdo_query h o Ao co hdl hN hS (by omega) _ (fun W hB => query_yes9 (hb W hB) o Ao co hN (hc W hB) hCc hCn h9 l hf)
  by_cases h10 : o.f0 = 10
  · rw [show stepD s o hdl = (s, errD 0) by simp [stepD, h10]]
    exact rdo_coll h o Ao co hdl hN hS h10
  · rw [show stepD s o hdl = (s, errD 160) by simp [stepD, h1, h2, h3, h4, h5, h6, h7, h8, h9, h10]]
    exact rdo_oth h o Ao co hdl hN hS (by omega)
end Go.Proofs.Ytngocadnbpdnoaa.Mo
namespace Go.Proofs.Ytngocadnbpdnoaa.Mo
open Go Go.Maps Go.RowKit Go.Proofs.Ytngocadnbpdnoaa.Srt Go.Proofs.Ytngocadnbpdnoaa.Q Go.Proofs.YtngocadnbpdnoaaW.PrintWords Go.Proofs.YtngocadnbpdnoaaW.PrintLast Go.Proofs.YtngocadnbpdnoaaW.PrintMore
set_option linter.unusedVariables false
set_option linter.unusedSimpArgs false
set_option maxHeartbeats 4000000 in
theorem newR_c (multi : Int) (w : World) (hm : 1 ≤ multi) (hm2 : multi ≤ 1024) :
    Calls Try.prog 39 #[.int .i64 multi] w fun e w' => ∃ rp, e = .returned (.tuple #[.pointer (some ⟨rp, 0, none⟩), .int .i64 0]) ∧ RMd w' (fun k => k = rp) rp 0 ⟨multi, [], []⟩ none 0 none 0 [] ∧ Below w.heap.size w w' ∧ w.heap.size ≤ rp := by
  have d1 : decide (multi < 1) = false := decide_eq_false (by omega)
  have d2 : decide (1024 < multi) = false := decide_eq_false (by omega)
  go_enter Try.func39, Try.ntmps39
  go_wp2
  go_ret2
  exact ⟨w.heap.size, rfl, ⟨heap_alloc_new w _, rfl, Nat.le_refl _, Nat.le_refl _, rfl, fun W' _ => Kd.C_nil _ _, fun W' _ => Kd.C_nil _ _, (fun x hx => by cases hx), Nat.le_refl _, Nat.le_refl _, List.Pairwise.nil, List.Pairwise.nil, rfl⟩, below_alloc (Below.refl _ _) _, Nat.le_refl _⟩
end Go.Proofs.Ytngocadnbpdnoaa.Mo
namespace Go.Proofs.Ytngocadnbpdnoaa.Mo
open Go Go.Maps Go.RowKit Go.Proofs.Ytngocadnbpdnoaa.Srt Go.Proofs.Ytngocadnbpdnoaa.Q Go.Proofs.YtngocadnbpdnoaaW.PrintWords Go.Proofs.YtngocadnbpdnoaaW.PrintLast Go.Proofs.YtngocadnbpdnoaaW.PrintMore
set_option linter.unusedVariables false
set_option linter.unusedSimpArgs false
theorem infoU : (Try.prog.info? 23).map (fun i => (i.zero, i.size, i.bytes)) = some (some (.int .u64 0), 1, 8) := by kernel_rfl
/-- Kd.R_append_rows at a step of a region that draws its order. -/
theorem step_R_rows {α : Type} {P : Program} {ops : Array Oper} {o : Oper} {a : Act} {K : Act → World → Prop} {Q : Exit → Act → World → Prop} {E : Prop} (d : Kd α) {Rr : α → List Value → Prop} {w0 W : World} (base : Nat) (hgd : o.guard = none) (s x : Operand) (t e : TypeId) (z : Value) (bytes : Nat)
    (ho : o.op = .call { callee := .builtin .append, args := #[s, x], argTypes := #[t, t] })
    (ht : P.underlying t = some (.slice e)) (hinfo : (P.info? e).map (fun i => (i.zero, i.size, i.bytes)) = some (some z, d.sz, bytes)) (hz : z.cells.size = d.sz) (hs0 : 0 < d.sz) (hb0 : 0 < bytes)
    (v : Value) (xs ys : List α) (A : Option Addr) (m c : Nat) (ok okp : Nat → Prop) (hs : a.eval s = v) (hx : a.eval x = .slice A m c)
    (HO : d.R e W base ok v xs) (HR : ReadsRow Rr d.sz W A m ys) (hKM : ∀ x cs, Rr x cs → d.M W base okp x cs) (hokp : ∀ k, okp k → ok k ∧ some k ≠ v.ownBlock) (hfresh : ∀ k, W.heap.size ≤ k → ok k)
    (HB : Below base w0 W) (hbase : base ≤ W.heap.size) (hl : (xs.length + m) * bytes ≤ 140737488355328)
    (h : ∀ v1 w1, d.R e w1 base ok v1 (xs ++ ys) → Below base w0 w1 → W.grownBy w1 v.ownBlock → (v1.ownBlock = v.ownBlock ∨ ∃ b, v1.ownBlock = some b ∧ W.heap.size ≤ b) → K (a.put o.dst v1) w1) :
    if Region.wanted o (yielded ops a.tmps) = true then Oper.wp P o a W K Q else E := by
  have hw : Region.wanted o (yielded ops a.tmps) = true := by simp [Region.wanted, hgd]
  rw [if_pos hw]
  have h2 := Kd.R_append_rows_step (P := P) (ops := ops) (a := a) (Kc := K) (Q := Q) d base hw s x t e z bytes ho ht hinfo hz hs0 hb0 v xs ys A m c ok okp hs hx HO HR hKM hokp hfresh HB hbase hl h
  rw [if_pos hw] at h2
  exact h2
set_option maxRecDepth 100000 in
set_option maxHeartbeats 4000000 in
theorem handlesR_c {w : World} {S : Nat → Prop} {rp N : Nat} {s : MS} {A : Option Addr} {c : Nat} {B : Option Addr} {d : Nat} {hs : List HdS} (h : RMd w S rp N s A c B d hs) (hN : N ≤ 1099511627776) :
    Calls Try.prog 28 #[.pointer (some ⟨rp, 0, none⟩)] w fun e w' => ∃ v : Value, e = .returned v ∧ (Kd.int .u64).R 23 w' w.heap.size (fun _ => True) v (s.held.map (·.1)) ∧ Below w.heap.size w w' := by
  have hl := h.hle
  have hrp := blk_lt h.blk
  have hee : s.held.map (·.1) = hs.map (·.h) := by rw [h.hd, List.map_map]; rfl
  rw [hee]
  clear hee
  have HROW := Lib.hid (h.row w (Kept.refl _ _))
  have c2 : w.cell? ⟨rp, 2, none⟩ = some (.slice B hs.length d) := h.c2
  have C2 := Lib.hid c2
  have hu := Try.underlying37
  clear h
  go_enter Try.func28, Try.ntmps28
  go_wp2
  go_loopw [3, 4] (fun v3 v4 wr => ∃ k : Nat, v4 = .int .i64 k ∧ k ≤ hs.length ∧ Hid ((Kd.int .u64).R 23 wr w.heap.size (fun _ => True) v3 ((hs.take k).map (·.h))) ∧ Hid (Below w.heap.size w wr))
    (fun _ v4 _ => hs.length - (intOf v4).toNat)
  case atStart => exact ⟨0, rfl, Nat.zero_le _, Lib.hid (Kd.R_nil _ _ _ _ _), Lib.hid (Below.refl _ _)⟩
  case round =>
    obtain ⟨k, rfl, hk, HO, HB⟩ := hrel
    obtain ⟨xs, hxs⟩ : ∃ xs, xs = (hs.take k).map (·.h) := ⟨_, rfl⟩
    rw [← hxs] at HO
    have HXS := Lib.hid hxs
    have hxl : xs.length = k := by rw [hxs, List.length_map, List.length_take]; omega
    clear hxs
    obtain ⟨A4, n4, rfl⟩ := Kd.R_slice HO.out
    rw [hxl] at HO ⊢
    have HXL := Lib.hid hxl
    clear hxl
    have hz := HB.out.size
    have c2r : wr.cell? ⟨rp, 2, none⟩ = some (.slice B hs.length d) := by rw [HB.out.cell (p := ⟨rp, 2, none⟩) hrp]; exact C2.out
    clear c2
    by_cases hlt : k < hs.length
    · obtain ⟨ad, rfl, y0, y1⟩ := at_hd (Kd.C_below HROW.out HB.out) k hlt
      obtain ⟨q, hq⟩ : ∃ q, q = hs[k].h := ⟨_, rfl⟩
      rw [← hq] at y0
      have HQ := Lib.hid hq
      clear hq y1
      go_wp2_with (first | (at_builtin; refine Kd.R_append (Kd.int .u64) (w0 := w) w.heap.size rfl (.tmp 18) (.tmp 27) 37 23 (.int .u64 0) 8 rfl hu infoU rfl (by decide) (by omega) (.slice A4 k n4) xs q [.int .u64 q] (fun _ => True) (fun _ => False) rfl rfl rfl (fun _ hk => hk.elim) (fun _ _ => trivial) HO.out HB.out hz ?aL ?_))
      case aL => rw [HXL.out]; omega
      intro v1 w1 h1 h2 h3 h4
      have H1 := Lib.hid h1
      have H2 := Lib.hid h2
      clear h1 h2 h3 h4
      obtain ⟨A5, n5, rfl⟩ := Kd.R_slice H1.out
      go_wp2_with fail
      go_roundw
      case rel => exact ⟨k + 1, by go_num, by omega, Lib.hid (by
        rw [List.take_succ_eq_append_getElem hlt, List.map_append, ← HXS.out, List.map_singleton, ← HQ.out]; exact H1.out), H2⟩
      case measure => simp [intOf]; omega
    · obtain rfl : k = hs.length := by omega
      go_wp2
      go_ret
      refine ⟨_, rfl, ?_, HB.out⟩
      have e : xs = hs.map (·.h) := by rw [HXS.out, List.take_length]
      rw [← e]; exact HO.out
end Go.Proofs.Ytngocadnbpdnoaa.Mo
namespace Go.Proofs.Ytngocadnbpdnoaa.Mo
open Go Go.Maps Go.RowKit Go.Proofs.Ytngocadnbpdnoaa.Srt Go.Proofs.Ytngocadnbpdnoaa.Q Go.Proofs.YtngocadnbpdnoaaW.PrintWords Go.Proofs.YtngocadnbpdnoaaW.PrintLast Go.Proofs.YtngocadnbpdnoaaW.PrintMore
set_option linter.unusedVariables false
set_option linter.unusedSimpArgs false
set_option maxRecDepth 100000 in
set_option maxHeartbeats 8000000 in
theorem forkR_c {w : World} {S : Nat → Prop} {rp N : Nat} {s : MS} {A : Option Addr} {c : Nat} {B : Option Addr} {d : Nat} {hs : List HdS} (h : RMd w S rp N s A c B d hs) (hN : N ≤ 1099511627776) (hS : ∀ k, S k → k < w.heap.size) :
    Calls Try.prog 32 #[.pointer (some ⟨rp, 0, none⟩)] w fun e w' => ∃ rq A' c' B' d', e = .returned (.pointer (some ⟨rq, 0, none⟩)) ∧ w.heap.size ≤ rq ∧ RMd w' (fun k => S k ∨ k = rq) rq N s A' c' B' d' hs ∧ Below w.heap.size w w' := by
  have hl := h.hle
  have hnl := h.nle
  have hrp := blk_lt h.blk
  have HH := Lib.hid h
  have HSS := Lib.hid hS
  have c0 := h.c0
  have hu1 := Try.underlying24
  have hu2 := Try.underlying117
  clear h hS
  go_enter Try.func32, Try.ntmps32
  go_upto_region 4 with fail
  change Code.wp _ _ _ _ (w.alloc (.cells #[.int .i64 s.multi, .slice none 0 0, .slice none 0 0] 119))
  have hb1 := below_alloc (Below.refl _ w) (.cells #[.int .i64 s.multi, .slice none 0 0, .slice none 0 0] 119)
  have hn1 := heap_alloc_new w (.cells #[.int .i64 s.multi, .slice none 0 0, .slice none 0 0] 119)
  have hz1 : (w.alloc (.cells #[.int .i64 s.multi, .slice none 0 0, .slice none 0 0] 119)).heap.size = w.heap.size + 1 := by simp
  obtain ⟨W1, hW1⟩ : ∃ W1, W1 = w.alloc (.cells #[.int .i64 s.multi, .slice none 0 0, .slice none 0 0] 119) := ⟨_, rfl⟩
  rw [← hW1] at hb1 hn1 hz1 ⊢
  clear hW1 c0
  obtain ⟨gq, hgq⟩ : ∃ gq, gq = w.heap.size := ⟨_, rfl⟩
  rw [← hgq] at hn1 ⊢
  have HGQ := Lib.hid hgq
  have hlt : gq < W1.heap.size := by omega
  have HM1 := Lib.hid (HH.out.below hb1)
  have HB1 := Lib.hid hb1
  have HN1 := Lib.hid hn1
  have HZ1 := Lib.hid hz1
  have c1 : W1.cell? ⟨rp, 1, none⟩ = some (.slice A s.now.length c) := HM1.out.c1
  have e1 : W1.cell? ⟨gq, 1, none⟩ = some (.slice none 0 0) := by rw [blk_cell hn1]; rfl
  have hrp1 : rp < W1.heap.size := by omega
  clear hb1 hn1 hz1 hgq
  go_region_law (
    refine step_R_rows kSP (w0 := W1) W1.heap.size rfl (.tmp 16) (.tmp 20) 24 90 (.agg #[.int .u64 0, .int .u64 0]) 16 rfl hu1 info90 rfl (by decide) (by omega) (.slice none 0 0) ([] : List SP) (toS s.now) A s.now.length c (fun _ => True) (fun _ => False) rfl rfl (Kd.R_nil _ _ _ _ _) (Kd.C_below (HM1.out.now W1 (Kept.refl _ _)) (below_drew (Below.refl _ W1))) (fun _ _ h => h) (fun _ h => h.elim) (fun _ _ => trivial) (below_drew (Below.refl _ W1)) (Nat.le_refl _) (by simp only [List.length_nil]; omega) ?_
    intro v1 w2 h1 h2 h3 h4
    clear h3 h4
    obtain ⟨A1, n1, rfl⟩ := Kd.R_slice h1
    rw [List.nil_append] at h1 ⊢
    have H1 := Lib.hid h1
    have H2 := Lib.hid h2
    have e2 : w2.cell? ⟨gq, 1, none⟩ = some (.slice none 0 0) := by rw [h2.cell (p := ⟨gq, 1, none⟩) hlt]; exact e1
    have f2 : w2.frozen? ⟨gq, 1, none⟩ = false := by rw [h2.frozen (p := ⟨gq, 1, none⟩) hlt]; exact blk_frozen HN1.out 1
    clear h1 h2)
  all_goals
    have hk2 := kept_set w2 gq 1 (.slice A1 (toS s.now).length n1)
    have HN2 : Hid ((w2.setCell ⟨gq, 1, none⟩ (.slice A1 (toS s.now).length n1)).heap[gq]? = some (.cells #[.int .i64 s.multi, .slice A1 s.now.length n1, .slice none 0 0] 119 (0, 0))) := Lib.hid (by
      rw [← toS_length s.now]; exact blk_put (blk_below HN1.out H2.out) 1 _ rfl)
    have HW : Hid (s.now.length ≤ n1 ∧ ∀ W', Kept (w2.setCell ⟨gq, 1, none⟩ (.slice A1 (toS s.now).length n1)) W' (fun k => S k ∨ k = gq) → Kd.C kSP W' A1 s.now.length (toS s.now)) := Lib.hid (by
      rw [← toS_length s.now]
      refine ⟨(Kd.R_reads' H1.out).2.1, fun W' h2 => wpostH H1.out (S := fun k => S k ∨ k = gq) (fun k e => ?_) W' ((hk2.mono (fun k e => .inr e)).then_ h2 (fun k e => .inl e))⟩
      rcases e with e | e
      · have := HSS.out k e; have := HZ1.out; omega
      · omega)
    have HB2 : Hid (Below w.heap.size w (w2.setCell ⟨gq, 1, none⟩ (.slice A1 (toS s.now).length n1))) := Lib.hid (by
      have hb : Below w.heap.size w w2 := HB1.out.trans (H2.out.mono HB1.out.size)
      exact ((KO.of_below hb (fun _ => False)).then_ ⟨hk2, rfl, rfl, rfl⟩ (fun k e => .inr (by have := HGQ.out; omega))).below_of (fun k e => e.elim))
    have hz2 : W1.heap.size ≤ (w2.setCell ⟨gq, 1, none⟩ (.slice A1 (toS s.now).length n1)).heap.size := Nat.le_trans H2.out.size (by simp)
    clear hk2 e2 f2 H1 H2 e1 c1
    obtain ⟨W2, hW2⟩ : ∃ W2, W2 = w2.setCell ⟨gq, 1, none⟩ (.slice A1 (toS s.now).length n1) := ⟨_, rfl⟩
    rw [← hW2] at HN2 HW HB2 hz2 ⊢
    clear hW2
    have HM2 := Lib.hid (HH.out.below HB2.out)
    have HZ2 := Lib.hid hz2
    have c2 : W2.cell? ⟨rp, 2, none⟩ = some (.slice B hs.length d) := HM2.out.c2
    have e3 : W2.cell? ⟨gq, 2, none⟩ = some (.slice none 0 0) := by rw [blk_cell HN2.out]; rfl
    have hlt2 : gq < W2.heap.size := by omega
    clear hz2
    go_upto_region 5 with fail
    go_region_law (
      refine step_R_rows kHR (w0 := W2) W2.heap.size rfl (.tmp 28) (.tmp 32) 117 130 (.agg #[.int .u64 0, .slice none 0 0]) 32 rfl hu2 infoH rfl (by decide) (by omega) (.slice none 0 0) ([] : List (Raw 2)) (hs.map HdS.raw) B hs.length d (fun _ => True) (fun _ => False) rfl rfl (Kd.R_nil _ _ _ _ _) (Kd.C_below (HM2.out.row W2 (Kept.refl _ _)) (below_drew (Below.refl _ W2))) (fun _ _ h => h) (fun _ h => h.elim) (fun _ _ => trivial) (below_drew (Below.refl _ W2)) (Nat.le_refl _) (by simp only [List.length_nil]; omega) ?_
      intro v1 w3 h1 h2 h3 h4
      clear h3 h4
      obtain ⟨A2, n2, rfl⟩ := Kd.R_slice h1
      rw [List.nil_append] at h1 ⊢
      have H1 := Lib.hid h1
      have H2 := Lib.hid h2
      have e4 : w3.cell? ⟨gq, 2, none⟩ = some (.slice none 0 0) := by rw [h2.cell (p := ⟨gq, 2, none⟩) hlt2]; exact e3
      have f4 : w3.frozen? ⟨gq, 2, none⟩ = false := by rw [h2.frozen (p := ⟨gq, 2, none⟩) hlt2]; exact blk_frozen HN2.out 2
      clear h1 h2)
  all_goals
    go_wp2_with fail
    go_ret
    have hml : (hs.map HdS.raw).length = hs.length := List.length_map _
    replace H1 := H1.out
    rw [hml] at H1
    have hk3 := kept_set w3 gq 2 (.slice A2 hs.length n2)
    have hb3 : Below w.heap.size w w3 := HB2.out.trans (H2.out.mono HB2.out.size)
    have hbW : Below w.heap.size w (w3.setCell ⟨gq, 2, none⟩ (.slice A2 hs.length n2)) := ((KO.of_below hb3 (fun _ => False)).then_ ⟨hk3, rfl, rfl, rfl⟩ (fun k e => .inr (by have := HGQ.out; omega))).below_of (fun k e => e.elim)
    have hKS : ∀ W', Kept (w3.setCell ⟨gq, 2, none⟩ (.slice A2 hs.length n2)) W' (fun k => S k ∨ k = gq) → Kept W2 W' (fun k => S k ∨ k = gq) := fun W' h2 => ((Kept.of_below H2.out _).then_ (hk3.mono (fun k e => .inr e)) (fun k e => .inl e)).then_ h2 (fun k e => .inl e)
    have hKw : ∀ W', Kept (w3.setCell ⟨gq, 2, none⟩ (.slice A2 hs.length n2)) W' (fun k => S k ∨ k = gq) → Kept w W' S := fun W' h2 => (Kept.of_below hbW S).then_ h2 (fun k e => e.imp id (fun e => by have := HGQ.out; omega))
    refine ⟨gq, A1, n1, A2, n2, rfl, by have := HGQ.out; omega, ⟨?_, .inr rfl, HW.out.1, ?_, HH.out.hd, fun W' h2 => HW.out.2 W' (hKS W' h2), ?_, fun x hx => ⟨(HH.out.each x hx).1, (HH.out.each x hx).2.1, fun W' h2 => (HH.out.each x hx).2.2 W' (hKw W' h2)⟩, hnl, hl, HH.out.asc, HH.out.asch, HH.out.zero⟩, hbW⟩
    · have := blk_put (blk_below HN2.out H2.out) 2 (.slice A2 hs.length n2) rfl; exact this
    · exact hml ▸ (Kd.R_reads' H1).2.1
    · refine fun W' h2 => wpostH H1 (S := fun k => S k ∨ k = gq) (fun k e => ?_) W' ((hk3.mono (fun k e => .inr e)).then_ h2 (fun k e => .inl e))
      rcases e with e | e
      · have := HSS.out k e; have := HZ1.out; have := HZ2.out; omega
      · omega
end Go.Proofs.Ytngocadnbpdnoaa.Mo
namespace Go.Proofs.Ytngocadnbpdnoaa.Mo
open Go Go.Maps Go.RowKit Go.Proofs.Ytngocadnbpdnoaa.Srt Go.Proofs.Ytngocadnbpdnoaa.Q Go.Proofs.YtngocadnbpdnoaaW.PrintWords Go.Proofs.YtngocadnbpdnoaaW.PrintLast Go.Proofs.YtngocadnbpdnoaaW.PrintMore
set_option linter.unusedVariables false
set_option linter.unusedSimpArgs false
def TakeR (w : World) (S : Nat → Prop) (rp N : Nat) (r : MS × Bool) (e : Ending) (w' : World) : Prop :=
  e = .returned (.bool r.2) ∧ (∃ A c B d hs, RMd w' S rp N r.1 A c B d hs) ∧ KO w w' (fun k => k = rp)
def tailR (s : MS) (o : OpS) (a : AnS) : MS × Bool := if anEq (ansS (stepD s o a.f4).2) a = true then ((stepD s o a.f4).1, true) else (s, false)
theorem mdC_one (m : Int) (A : Option Addr) (n c : Nat) (B : Option Addr) (k d : Nat) : (#[Value.int .i64 m, .slice A n c, .slice B k d] : Array Value).all (·.oneCell') = true := by simp [Value.oneCell']
/-- A whole model written over another: *m = *f. -/
theorem RMd.copy {w : World} {S S' : Nat → Prop} {rp gq N : Nat} {s : MS} {A : Option Addr} {c : Nat} {B : Option Addr} {d : Nat} {hs : List HdS} (h : RMd w S' gq N s A c B d hs) {old : Array Value} (hb : w.heap[rp]? = some (.cells old 119 (0, 0))) (hne : rp ≠ gq) (hS : ∀ k, S k → S' k) (hr : S rp) :
    RMd (w.setRow rp #[.int .i64 s.multi, .slice A s.now.length c, .slice B hs.length d]) S rp N s A c B d hs :=
  have hk2 : ∀ W', Kept (w.setRow rp #[.int .i64 s.multi, .slice A s.now.length c, .slice B hs.length d]) W' S → Kept w W' S' := fun W' h2 => ((Kept_row w rp _).mono (fun k e => by rw [e]; exact hS _ hr)).then_ (h2.mono hS) (fun k e => .inl e)
  ⟨setRow_heap _ _ _ _ _ _ hb, hr, h.nc, h.hc, h.hd, fun W' h2 => h.now W' (hk2 W' h2), fun W' h2 => h.row W' (hk2 W' h2), fun x hx => ⟨(h.each x hx).1, (h.each x hx).2.1, fun W' h2 => (h.each x hx).2.2 W' (hk2 W' h2)⟩, h.nle, h.hle, h.asc, h.asch, h.zero⟩
set_option maxHeartbeats 4000000 in
theorem bareR_c (a : AnS) (B : Option Addr) (d : Nat) (e : Int) (w : World) (hC : Kd.C kSP w B a.f5.length a.f5) (hd : a.f5.length ≤ d) (hm : a.f5.length ≤ 4398046511104) :
    Calls Try.prog 49 #[anV a B d, .int .i64 e] w fun en w' => en = .returned (.bool (anEq a (errS e))) ∧ Below w.heap.size w w' := by
  obtain ⟨W0, hW0⟩ : ∃ W0, W0 = w.alloc (.cells (ansC a.f0 a.f1 a.f2 a.f3 a.f4 (.slice B a.f5.length d) a.f6) 26) := ⟨_, rfl⟩
  have HW := Lib.hid hW0
  have hb1 := below_alloc (Below.refl _ w) (.cells (ansC a.f0 a.f1 a.f2 a.f3 a.f4 (.slice B a.f5.length d) a.f6) 26)
  have hn1 := heap_alloc_new w (.cells (ansC a.f0 a.f1 a.f2 a.f3 a.f4 (.slice B a.f5.length d) a.f6) 26)
  rw [← hW0] at hb1 hn1
  have hS := sameAnsR_c a (errS e) B none d 0 W0 (Kd.C_below hC hb1) hd (Kd.C_nil _ _) (Nat.le_refl _) hm
  have HB := Lib.hid hb1
  have HN := Lib.hid hn1
  clear hC hb1 hn1 hW0
  go_enter Try.func49, Try.ntmps49
  go_upto_region 1 with fail
  change Code.wp _ _ _ _ (w.alloc (.cells (ansC a.f0 a.f1 a.f2 a.f3 a.f4 (.slice B a.f5.length d) a.f6) 26))
  rw [← HW.out]
  obtain ⟨p0, p1, p2, p3, p4, p5, p6⟩ := ans_cells HN.out
  go_wp2_with (go_at_call 13; refine hS.mono ?_; rintro e w1 ⟨rfl, hB1⟩)
  go_ret
  exact ⟨rfl, HB.out.trans (hB1.mono HB.out.size)⟩
set_option maxRecDepth 100000 in
set_option maxHeartbeats 16000000 in
theorem rtake_kv {w : World} {S : Nat → Prop} {rp N : Nat} {s : MS} {A : Option Addr} {c : Nat} {B : Option Addr} {d : Nat} {hs : List HdS} (h : RMd w S rp N s A c B d hs) (o : OpS) (a : AnS) (Ao Ba : Option Addr) (co ca : Nat) (hN : N ≤ 1099511627776) (hS : ∀ k, S k → k < w.heap.size) (hC : Kd.C (Kd.int .u64) w Ao o.f6.length o.f6) (hCc : o.f6.length ≤ co) (hCn : o.f6.length ≤ 1099511627776) (hD : Kd.C kSP w Ba a.f5.length a.f5) (hd : a.f5.length ≤ ca) (hm : a.f5.length ≤ 4398046511104) (hps : (stepD s o a.f4).2.ps.length ≤ 4398046511104) (ho : 2 ≤ o.f0 ∧ o.f0 ≤ 4) (r : MS × Bool) (hr : r = if anEq a (errS 30) = true then (s, true) else tailR s o a) :
    Calls Try.prog 23 #[.pointer (some ⟨rp, 0, none⟩), .agg (opC o Ao co), anV a Ba ca] w (TakeR w S rp (N + 1) r) := by
  have hrp := blk_lt h.blk
  have hrS := h.rp
  have HB0 := Lib.hid (tkW_below w o Ao co a Ba ca)
  have HO0 := Lib.hid (tkW_op w o Ao co a Ba ca)
  have HA0 := Lib.hid (tkW_ans w o Ao co a Ba ca)
  have hk0 : (tkW w o Ao co a Ba ca).cell? ⟨w.heap.size, 0, none⟩ = some (.int .u8 o.f0) := (op_cells HO0.out).1
  have hs0 := tkW_size w o Ao co a Ba ca
  have HH := Lib.hid h
  have HSS := Lib.hid hS
  have HC := Lib.hid hC
  have HCA := Lib.hid hD
  have HRS := Lib.hid hrS
  have HR := Lib.hid hr
  clear h hS hC hD hrS hr
  obtain ⟨D, hDD⟩ : ∃ D, D = (stepD s o a.f4).2 := ⟨_, rfl⟩
  obtain ⟨s1, hs1⟩ : ∃ s1, s1 = (stepD s o a.f4).1 := ⟨_, rfl⟩
  rw [← hDD] at hps
  have HDD := Lib.hid hDD
  have HS1 := Lib.hid hs1
  clear hDD hs1
  obtain ⟨b30, hb30⟩ : ∃ b, b = anEq a (errS 30) := ⟨_, rfl⟩
  rw [← hb30] at HR
  have HB30 := Lib.hid hb30
  clear hb30
  have hcase : (o.f0 == 2) = true ∨ ((o.f0 == 2) = false ∧ (o.f0 == 3) = true) ∨ ((o.f0 == 2) = false ∧ (o.f0 == 3) = false ∧ (o.f0 == 4) = true) := by
    obtain ⟨h1, h2⟩ := ho
    rcases (show o.f0 = 2 ∨ o.f0 = 3 ∨ o.f0 = 4 by omega) with e | e | e <;> rw [e] <;> decide
  clear ho
  go_enter Try.func23, Try.ntmps23
  go_upto_region 3 with fail
  change Code.wp _ _ _ _ (tkW w o Ao co a Ba ca)
  obtain ⟨W0, hW0⟩ : ∃ W0, W0 = tkW w o Ao co a Ba ca := ⟨_, rfl⟩
  rw [← hW0] at HB0 HO0 HA0 hk0 hs0 ⊢
  clear hW0
  obtain ⟨p0, p1, p2, p3, p4, p5, p6⟩ := ans_cells HA0.out
  have hcB := bareR_c a Ba ca 30 W0 (Kd.C_below HCA.out HB0.out) hd hm
  rw [← HB30.out] at hcB
  have HCB := Lib.hid hcB
  clear hcB
  cases b30 with
  | true =>
    rcases hcase with q2 | ⟨q2, q3⟩ | ⟨q2, q3, q4⟩
    all_goals
      go_wp2_with (go_at_call 49; refine HCB.out.mono ?_; rintro e w9 ⟨rfl, hB9⟩; have HB9 := Lib.hid (HB0.out.trans (hB9.mono HB0.out.size)); clear hB9)
      go_ret
      obtain rfl : r = (s, true) := by rw [HR.out]; simp
      exact ⟨rfl, ⟨_, _, _, _, _, (HH.out.below HB9.out).mono (Nat.le_succ _)⟩, KO.of_below HB9.out _⟩
  | false =>
    have HT : Hid (r = tailR s o a) := Lib.hid (by rw [HR.out]; simp)
    rcases hcase with q2 | ⟨q2, q3⟩ | ⟨q2, q3, q4⟩
    all_goals
      go_upto_region 21 with (go_at_call 49; refine HCB.out.mono ?_; rintro e W1 ⟨rfl, hB9⟩; have HB9 := Lib.hid (HB0.out.trans (hB9.mono HB0.out.size)); have HO9 := Lib.hid (blk_below HO0.out hB9); have HA9 := Lib.hid (blk_below HA0.out hB9); clear hB9)
      clear HB0 HO0 HA0 hk0 HCB p0 p1 p2 p3 p4 p5 p6
      go_upto_region 22 with (first | (go_at_call 32; refine (forkR_c (HH.out.below HB9.out) hN (fun k e => Nat.lt_of_lt_of_le (HSS.out k e) HB9.out.size)).mono ?_; rintro e w1 ⟨gq, A1, c1, B1, d1, rfl, hq1, hM1, hB1⟩))
      have hbw1 : Below w.heap.size w w1 := HB9.out.trans (hB1.mono HB9.out.size)
      have HO1 : Hid (w1.drew.heap[w.heap.size]? = some (.cells (opC o Ao co) 39 (0, 0))) := Lib.hid ((hB1.block _ (blk_lt HO9.out)).trans HO9.out)
      have HA1 : Hid (w1.drew.heap[w.heap.size + 1]? = some (.cells (ansC a.f0 a.f1 a.f2 a.f3 a.f4 (.slice Ba a.f5.length ca) a.f6) 26 (0, 0))) := Lib.hid ((hB1.block _ (blk_lt HA9.out)).trans HA9.out)
      have HM1 := Lib.hid (hM1.below (below_drew (Below.refl _ w1)))
      have HB1 := Lib.hid (below_drew hbw1)
      have hgq1 : gq < w1.drew.heap.size := blk_lt HM1.out.blk
      have hgw : w.heap.size + 2 ≤ gq := Nat.le_trans (by have := blk_lt HA9.out; omega) hq1
      have HSG : Hid (∀ k, (S k ∨ k = gq) → k < w1.drew.heap.size) := Lib.hid (fun k e => by
        rcases e with e | e
        · exact Nat.lt_of_lt_of_le (HSS.out k e) hbw1.size
        · rw [e]; exact hgq1)
      clear hM1 hbw1 hB1
      have hS1 := cells18 HO1.out HA1.out
      go_region_held3 (fun w' => w'.cell? ⟨w.heap.size, 0, none⟩ = some (.int .u8 o.f0) ∧ w'.cell? ⟨w.heap.size, 1, none⟩ = some (.int .u64 o.f1) ∧ w'.cell? ⟨w.heap.size, 2, none⟩ = some (.int .u64 o.f2) ∧ w'.cell? ⟨w.heap.size, 3, none⟩ = some (.int .u64 o.f3) ∧ w'.cell? ⟨w.heap.size, 4, none⟩ = some (.int .u64 o.f4) ∧ w'.cell? ⟨w.heap.size, 5, none⟩ = some (.bool o.f5.f0) ∧ w'.cell? ⟨w.heap.size, 6, none⟩ = some (.int .i64 o.f5.f1) ∧ w'.cell? ⟨w.heap.size, 7, none⟩ = some (.int .i64 o.f5.f2) ∧ w'.cell? ⟨w.heap.size, 8, none⟩ = some (.slice Ao o.f6.length co) ∧ w'.cell? ⟨w.heap.size, 9, none⟩ = some (.int .u64 o.f7) ∧ w'.cell? ⟨w.heap.size, 10, none⟩ = some (.int .u64 o.f8) ∧ w'.cell? ⟨w.heap.size + 1, 0, none⟩ = some (.int .i64 a.f0) ∧ w'.cell? ⟨w.heap.size + 1, 1, none⟩ = some (.bool a.f1) ∧ w'.cell? ⟨w.heap.size + 1, 2, none⟩ = some (.int .u64 a.f2) ∧ w'.cell? ⟨w.heap.size + 1, 3, none⟩ = some (.bool a.f3) ∧ w'.cell? ⟨w.heap.size + 1, 4, none⟩ = some (.int .u64 a.f4) ∧ w'.cell? ⟨w.heap.size + 1, 5, none⟩ = some (.slice Ba a.f5.length ca) ∧ w'.cell? ⟨w.heap.size + 1, 6, none⟩ = some (.int .u64 a.f6))
        (first | go_keep | exact hS1 | exact cells18 HO2.out HA2.out | exact cells18 HO3.out HA3.out)
        (first
          | (go_at_call 24; refine (rdo_c HM1.out o Ao co a.f4 hN HSG.out (Kd.C_below HC.out HB1.out) hCc hCn).mono ?_
             rw [← HDD.out, ← HS1.out]
             rintro e w2 ⟨ps, rfl, hR2, hM2, hK2⟩
             obtain ⟨A9, c9, rfl⟩ := Kd.R_slice hR2
             have hK1 : KO w w2 (fun _ => False) := (KO.of_below HB1.out (fun _ => False)).then_ hK2 (fun k e => .inr (by omega))
             have HO2 := Lib.hid (blk_kept (W2 := w2) HO1.out hK2.kept (show ¬ (w.heap.size = gq) by omega))
             have HA2 := Lib.hid (blk_kept (W2 := w2) HA1.out hK2.kept (show ¬ (w.heap.size + 1 = gq) by omega))
             have HM2 := Lib.hid hM2
             have HK1 := Lib.hid (KO.below_of hK1 (fun k e => e.elim))
             have HR2 := Lib.hid hR2
             clear hM2 hK1 hR2 hK2)
          | (go_at_call 13; refine (sameAnsR_c (ansS D) a A9 Ba c9 ca w2 (Kd.R_reads' HR2.out).2.2 (Kd.R_reads' HR2.out).2.1 (Kd.C_below HCA.out HK1.out) hd (by simp only [ansS, toS_length]; exact hps)).mono ?_; rintro e w3 ⟨rfl, hB3⟩
             have HO3 := Lib.hid ((hB3.block _ (blk_lt HO2.out)).trans HO2.out)
             have HA3 := Lib.hid ((hB3.block _ (blk_lt HA2.out)).trans HA2.out)
             have HK3 := Lib.hid (HK1.out.trans (hB3.mono HK1.out.size))
             have HB3 := Lib.hid hB3
             clear hB3))
      by_cases hq : anEq (ansS D) a = true
      case neg =>
        obtain rfl : r = (s, false) := by rw [HT.out, tailR, ← HDD.out, if_neg hq]
        have hq' : anEq (ansS D) a = false := by simpa using hq
        clear hq
        rw [hq']
        go_wp2_with fail
        all_goals go_ret
        all_goals exact ⟨rfl, ⟨_, _, _, _, _, (HH.out.below HK3.out).mono (Nat.le_succ _)⟩, KO.of_below HK3.out _⟩
      case pos =>
        obtain rfl : r = (s1, true) := by rw [HT.out, tailR, ← HDD.out, if_pos hq, ← HS1.out]
        rw [hq]
        obtain ⟨A2, c2, B2, d2, hs2, hM2⟩ := HM2.out
        have hM3 := hM2.below HB3.out
        have g0 := hM3.c0
        have g1 := hM3.c1
        have g2 := hM3.c2
        have HM3 := Lib.hid hM3
        clear hM2 hM3
        have HRB := Lib.hid (HH.out.below HK3.out).blk
        go_split_ands
        go_wp2_with (first | ((with_reducible refine gate_store (t := 119) (p := 69) rfl ?_); refine wpList_store_row rfl 119 (.tmp 69) (.tmp 68) rfl rp #[.int .i64 s1.multi, .slice A2 s1.now.length c2, .slice B2 hs2.length d2] rfl rfl 119 _ HRB.out (by kernel_rfl) rfl (mdC_one _ _ _ _ _ _ _) ?_))
        all_goals go_ret
        all_goals exact ⟨rfl, ⟨_, _, _, _, _, HM3.out.copy HRB.out (by omega) (fun k e => .inl e) HRS.out⟩, (KO.of_below HK3.out _).then_ (KO.row _ _ _) (fun k e => .inl e)⟩
end Go.Proofs.Ytngocadnbpdnoaa.Mo
namespace Go.Proofs.Ytngocadnbpdnoaa.Mo
open Go Go.Maps Go.RowKit Go.Proofs.Ytngocadnbpdnoaa.Srt Go.Proofs.Ytngocadnbpdnoaa.Q Go.Proofs.YtngocadnbpdnoaaW.PrintWords Go.Proofs.YtngocadnbpdnoaaW.PrintLast Go.Proofs.YtngocadnbpdnoaaW.PrintMore
set_option linter.unusedVariables false
set_option linter.unusedSimpArgs false
set_option maxRecDepth 100000 in
set_option maxHeartbeats 16000000 in
theorem rtake_coll {w : World} {S : Nat → Prop} {rp N : Nat} {s : MS} {A : Option Addr} {c : Nat} {B : Option Addr} {d : Nat} {hs : List HdS} (h : RMd w S rp N s A c B d hs) (o : OpS) (a : AnS) (Ao Ba : Option Addr) (co ca : Nat) (hN : N ≤ 1099511627776) (hS : ∀ k, S k → k < w.heap.size) (hC : Kd.C (Kd.int .u64) w Ao o.f6.length o.f6) (hCc : o.f6.length ≤ co) (hCn : o.f6.length ≤ 1099511627776) (hD : Kd.C kSP w Ba a.f5.length a.f5) (hd : a.f5.length ≤ ca) (hm : a.f5.length ≤ 4398046511104) (hps : (stepD s o a.f4).2.ps.length ≤ 4398046511104) (hk : o.f0 = 10) (r : MS × Bool) (hr : r = (s, anEq a ⟨0, false, 0, false, 0, [], a.f6⟩)) :
    Calls Try.prog 23 #[.pointer (some ⟨rp, 0, none⟩), .agg (opC o Ao co), anV a Ba ca] w (TakeR w S rp (N + 1) r) := by
  have hrp := blk_lt h.blk
  have hrS := h.rp
  have HB0 := Lib.hid (tkW_below w o Ao co a Ba ca)
  have HO0 := Lib.hid (tkW_op w o Ao co a Ba ca)
  have HA0 := Lib.hid (tkW_ans w o Ao co a Ba ca)
  have hk0 : (tkW w o Ao co a Ba ca).cell? ⟨w.heap.size, 0, none⟩ = some (.int .u8 o.f0) := (op_cells HO0.out).1
  have hs0 := tkW_size w o Ao co a Ba ca
  have HH := Lib.hid h
  have HSS := Lib.hid hS
  have HC := Lib.hid hC
  have HCA := Lib.hid hD
  have HRS := Lib.hid hrS
  have HR := Lib.hid hr
  clear h hS hC hD hrS hr
  obtain ⟨D, hDD⟩ : ∃ D, D = (stepD s o a.f4).2 := ⟨_, rfl⟩
  obtain ⟨s1, hs1⟩ : ∃ s1, s1 = (stepD s o a.f4).1 := ⟨_, rfl⟩
  rw [← hDD] at hps
  have HDD := Lib.hid hDD
  have HS1 := Lib.hid hs1
  clear hDD hs1
  have q : (o.f0 == 2) = false ∧ (o.f0 == 3) = false ∧ (o.f0 == 4) = false ∧ (o.f0 == 5) = false ∧ (o.f0 == 7) = false ∧ (o.f0 == 8) = false ∧ (o.f0 == 9) = false ∧ (o.f0 == 10) = true := by rw [hk]; decide
  obtain ⟨q2, q3, q4, q5, q7, q8, q9, q10⟩ := q
  clear hk
  go_enter Try.func23, Try.ntmps23
  go_upto_region 3 with fail
  change Code.wp _ _ _ _ (tkW w o Ao co a Ba ca)
  obtain ⟨W0, hW0⟩ : ∃ W0, W0 = tkW w o Ao co a Ba ca := ⟨_, rfl⟩
  rw [← hW0] at HB0 HO0 HA0 hk0 hs0 ⊢
  clear hW0
  obtain ⟨p0, p1, p2, p3, p4, p5, p6⟩ := ans_cells HA0.out
  have hcS := sameAnsR_c a ⟨0, false, 0, false, 0, [], a.f6⟩ Ba none ca 0 W0 (Kd.C_below HCA.out HB0.out) hd (Kd.C_nil _ _) (Nat.le_refl _) hm
  go_wp2_with (go_at_call 13; refine hcS.mono ?_; rintro e w1 ⟨rfl, hB1⟩)
  go_ret
  rw [HR.out]
  exact ⟨rfl, ⟨_, _, _, _, _, (HH.out.below (HB0.out.trans (hB1.mono HB0.out.size))).mono (Nat.le_succ _)⟩, KO.of_below (HB0.out.trans (hB1.mono HB0.out.size)) _⟩
set_option maxRecDepth 100000 in
set_option maxHeartbeats 16000000 in
theorem rtake_rest {w : World} {S : Nat → Prop} {rp N : Nat} {s : MS} {A : Option Addr} {c : Nat} {B : Option Addr} {d : Nat} {hs : List HdS} (h : RMd w S rp N s A c B d hs) (o : OpS) (a : AnS) (Ao Ba : Option Addr) (co ca : Nat) (hN : N ≤ 1099511627776) (hS : ∀ k, S k → k < w.heap.size) (hC : Kd.C (Kd.int .u64) w Ao o.f6.length o.f6) (hCc : o.f6.length ≤ co) (hCn : o.f6.length ≤ 1099511627776) (hD : Kd.C kSP w Ba a.f5.length a.f5) (hd : a.f5.length ≤ ca) (hm : a.f5.length ≤ 4398046511104) (hps : (stepD s o a.f4).2.ps.length ≤ 4398046511104) (ho : ∀ k, 2 ≤ k → k ≤ 5 ∨ (7 ≤ k ∧ k ≤ 10) → (o.f0 == k) = false) (r : MS × Bool) (hr : r = tailR s o a) :
    Calls Try.prog 23 #[.pointer (some ⟨rp, 0, none⟩), .agg (opC o Ao co), anV a Ba ca] w (TakeR w S rp (N + 1) r) := by
  have hrp := blk_lt h.blk
  have hrS := h.rp
  have HB0 := Lib.hid (tkW_below w o Ao co a Ba ca)
  have HO0 := Lib.hid (tkW_op w o Ao co a Ba ca)
  have HA0 := Lib.hid (tkW_ans w o Ao co a Ba ca)
  have hk0 : (tkW w o Ao co a Ba ca).cell? ⟨w.heap.size, 0, none⟩ = some (.int .u8 o.f0) := (op_cells HO0.out).1
  have hs0 := tkW_size w o Ao co a Ba ca
  have HH := Lib.hid h
  have HSS := Lib.hid hS
  have HC := Lib.hid hC
  have HCA := Lib.hid hD
  have HRS := Lib.hid hrS
  have HR := Lib.hid hr
  clear h hS hC hD hrS hr
  obtain ⟨D, hDD⟩ : ∃ D, D = (stepD s o a.f4).2 := ⟨_, rfl⟩
  obtain ⟨s1, hs1⟩ : ∃ s1, s1 = (stepD s o a.f4).1 := ⟨_, rfl⟩
  rw [← hDD] at hps
  have HDD := Lib.hid hDD
  have HS1 := Lib.hid hs1
  clear hDD hs1
  have HT := HR
  have q2 := ho 2 (by decide) (by decide)
  have q3 := ho 3 (by decide) (by decide)
  have q4 := ho 4 (by decide) (by decide)
  have q5 := ho 5 (by decide) (by decide)
  have q7 := ho 7 (by decide) (by decide)
  have q8 := ho 8 (by decide) (by decide)
  have q9 := ho 9 (by decide) (by decide)
  have q10 := ho 10 (by decide) (by decide)
  clear ho
  go_enter Try.func23, Try.ntmps23
  go_upto_region 3 with fail
  change Code.wp _ _ _ _ (tkW w o Ao co a Ba ca)
  obtain ⟨W0, hW0⟩ : ∃ W0, W0 = tkW w o Ao co a Ba ca := ⟨_, rfl⟩
  rw [← hW0] at HB0 HO0 HA0 hk0 hs0 ⊢
  clear hW0
  go_upto_region 21 with fail
  have HB9 := HB0
  have HO9 := HO0
  have HA9 := HA0
  clear hk0
  go_upto_region 22 with (first | (go_at_call 32; refine (forkR_c (HH.out.below HB9.out) hN (fun k e => Nat.lt_of_lt_of_le (HSS.out k e) HB9.out.size)).mono ?_; rintro e w1 ⟨gq, A1, c1, B1, d1, rfl, hq1, hM1, hB1⟩))
  have hbw1 : Below w.heap.size w w1 := HB9.out.trans (hB1.mono HB9.out.size)
  have HO1 : Hid (w1.drew.heap[w.heap.size]? = some (.cells (opC o Ao co) 39 (0, 0))) := Lib.hid ((hB1.block _ (blk_lt HO9.out)).trans HO9.out)
  have HA1 : Hid (w1.drew.heap[w.heap.size + 1]? = some (.cells (ansC a.f0 a.f1 a.f2 a.f3 a.f4 (.slice Ba a.f5.length ca) a.f6) 26 (0, 0))) := Lib.hid ((hB1.block _ (blk_lt HA9.out)).trans HA9.out)
  have HM1 := Lib.hid (hM1.below (below_drew (Below.refl _ w1)))
  have HB1 := Lib.hid (below_drew hbw1)
  have hgq1 : gq < w1.drew.heap.size := blk_lt HM1.out.blk
  have hgw : w.heap.size + 2 ≤ gq := Nat.le_trans (by have := blk_lt HA9.out; omega) hq1
  have HSG : Hid (∀ k, (S k ∨ k = gq) → k < w1.drew.heap.size) := Lib.hid (fun k e => by
    rcases e with e | e
    · exact Nat.lt_of_lt_of_le (HSS.out k e) hbw1.size
    · rw [e]; exact hgq1)
  clear hM1 hbw1 hB1
  have hS1 := cells18 HO1.out HA1.out
  go_region_held3 (fun w' => w'.cell? ⟨w.heap.size, 0, none⟩ = some (.int .u8 o.f0) ∧ w'.cell? ⟨w.heap.size, 1, none⟩ = some (.int .u64 o.f1) ∧ w'.cell? ⟨w.heap.size, 2, none⟩ = some (.int .u64 o.f2) ∧ w'.cell? ⟨w.heap.size, 3, none⟩ = some (.int .u64 o.f3) ∧ w'.cell? ⟨w.heap.size, 4, none⟩ = some (.int .u64 o.f4) ∧ w'.cell? ⟨w.heap.size, 5, none⟩ = some (.bool o.f5.f0) ∧ w'.cell? ⟨w.heap.size, 6, none⟩ = some (.int .i64 o.f5.f1) ∧ w'.cell? ⟨w.heap.size, 7, none⟩ = some (.int .i64 o.f5.f2) ∧ w'.cell? ⟨w.heap.size, 8, none⟩ = some (.slice Ao o.f6.length co) ∧ w'.cell? ⟨w.heap.size, 9, none⟩ = some (.int .u64 o.f7) ∧ w'.cell? ⟨w.heap.size, 10, none⟩ = some (.int .u64 o.f8) ∧ w'.cell? ⟨w.heap.size + 1, 0, none⟩ = some (.int .i64 a.f0) ∧ w'.cell? ⟨w.heap.size + 1, 1, none⟩ = some (.bool a.f1) ∧ w'.cell? ⟨w.heap.size + 1, 2, none⟩ = some (.int .u64 a.f2) ∧ w'.cell? ⟨w.heap.size + 1, 3, none⟩ = some (.bool a.f3) ∧ w'.cell? ⟨w.heap.size + 1, 4, none⟩ = some (.int .u64 a.f4) ∧ w'.cell? ⟨w.heap.size + 1, 5, none⟩ = some (.slice Ba a.f5.length ca) ∧ w'.cell? ⟨w.heap.size + 1, 6, none⟩ = some (.int .u64 a.f6))
    (first | go_keep | exact hS1 | exact cells18 HO2.out HA2.out | exact cells18 HO3.out HA3.out)
    (first
      | (go_at_call 24; refine (rdo_c HM1.out o Ao co a.f4 hN HSG.out (Kd.C_below HC.out HB1.out) hCc hCn).mono ?_
         rw [← HDD.out, ← HS1.out]
         rintro e w2 ⟨ps, rfl, hR2, hM2, hK2⟩
         obtain ⟨A9, c9, rfl⟩ := Kd.R_slice hR2
         have hK1 : KO w w2 (fun _ => False) := (KO.of_below HB1.out (fun _ => False)).then_ hK2 (fun k e => .inr (by omega))
         have HO2 := Lib.hid (blk_kept (W2 := w2) HO1.out hK2.kept (show ¬ (w.heap.size = gq) by omega))
         have HA2 := Lib.hid (blk_kept (W2 := w2) HA1.out hK2.kept (show ¬ (w.heap.size + 1 = gq) by omega))
         have HM2 := Lib.hid hM2
         have HK1 := Lib.hid (KO.below_of hK1 (fun k e => e.elim))
         have HR2 := Lib.hid hR2
         clear hM2 hK1 hR2 hK2)
      | (go_at_call 13; refine (sameAnsR_c (ansS D) a A9 Ba c9 ca w2 (Kd.R_reads' HR2.out).2.2 (Kd.R_reads' HR2.out).2.1 (Kd.C_below HCA.out HK1.out) hd (by simp only [ansS, toS_length]; exact hps)).mono ?_; rintro e w3 ⟨rfl, hB3⟩
         have HO3 := Lib.hid ((hB3.block _ (blk_lt HO2.out)).trans HO2.out)
         have HA3 := Lib.hid ((hB3.block _ (blk_lt HA2.out)).trans HA2.out)
         have HK3 := Lib.hid (HK1.out.trans (hB3.mono HK1.out.size))
         have HB3 := Lib.hid hB3
         clear hB3))
  by_cases hq : anEq (ansS D) a = true
  case neg =>
    obtain rfl : r = (s, false) := by rw [HT.out, tailR, ← HDD.out, if_neg hq]
    have hq' : anEq (ansS D) a = false := by simpa using hq
    clear hq
    rw [hq']
    go_wp2_with fail
    all_goals go_ret
    all_goals exact ⟨rfl, ⟨_, _, _, _, _, (HH.out.below HK3.out).mono (Nat.le_succ _)⟩, KO.of_below HK3.out _⟩
  case pos =>
    obtain rfl : r = (s1, true) := by rw [HT.out, tailR, ← HDD.out, if_pos hq, ← HS1.out]
    rw [hq]
    obtain ⟨A2, c2, B2, d2, hs2, hM2⟩ := HM2.out
    have hM3 := hM2.below HB3.out
    have g0 := hM3.c0
    have g1 := hM3.c1
    have g2 := hM3.c2
    have HM3 := Lib.hid hM3
    clear hM2 hM3
    have HRB := Lib.hid (HH.out.below HK3.out).blk
    go_split_ands
    go_wp2_with (first | ((with_reducible refine gate_store (t := 119) (p := 69) rfl ?_); refine wpList_store_row rfl 119 (.tmp 69) (.tmp 68) rfl rp #[.int .i64 s1.multi, .slice A2 s1.now.length c2, .slice B2 hs2.length d2] rfl rfl 119 _ HRB.out (by kernel_rfl) rfl (mdC_one _ _ _ _ _ _ _) ?_))
    all_goals go_ret
    all_goals exact ⟨rfl, ⟨_, _, _, _, _, HM3.out.copy HRB.out (by omega) (fun k e => .inl e) HRS.out⟩, (KO.of_below HK3.out _).then_ (KO.row _ _ _) (fun k e => .inl e)⟩
end Go.Proofs.Ytngocadnbpdnoaa.Mo
namespace Go.Proofs.Ytngocadnbpdnoaa.Mo
open Go Go.Maps Go.RowKit Go.Proofs.Ytngocadnbpdnoaa.Srt Go.Proofs.Ytngocadnbpdnoaa.Q Go.Proofs.YtngocadnbpdnoaaW.PrintWords Go.Proofs.YtngocadnbpdnoaaW.PrintLast Go.Proofs.YtngocadnbpdnoaaW.PrintMore
set_option linter.unusedVariables false
set_option linter.unusedSimpArgs false
set_option maxRecDepth 100000 in
set_option maxHeartbeats 16000000 in
theorem rtake_query {w : World} {S : Nat → Prop} {rp N : Nat} {s : MS} {A : Option Addr} {c : Nat} {B : Option Addr} {d : Nat} {hs : List HdS} (h : RMd w S rp N s A c B d hs) (o : OpS) (a : AnS) (Ao Ba : Option Addr) (co ca : Nat) (hN : N ≤ 1099511627776) (hS : ∀ k, S k → k < w.heap.size) (hC : Kd.C (Kd.int .u64) w Ao o.f6.length o.f6) (hCc : o.f6.length ≤ co) (hCn : o.f6.length ≤ 1099511627776) (hD : Kd.C kSP w Ba a.f5.length a.f5) (hd : a.f5.length ≤ ca) (hm : a.f5.length ≤ 4398046511104) (hps : (stepD s o a.f4).2.ps.length ≤ 4398046511104) (hk : 7 ≤ o.f0 ∧ o.f0 ≤ 9) (hQ : ∀ W, Below w.heap.size w W → Calls Try.prog 51 #[.pointer (some ⟨rp, 0, none⟩), .agg (opC o Ao co)] W (TellR W (stepD s o a.f4).2)) (r : MS × Bool) (hr : r = if anEq (ansS (stepD s o a.f4).2) (errS 33) = true ∧ anEq a (errS 34) = true then (s, true) else tailR s o a) :
    Calls Try.prog 23 #[.pointer (some ⟨rp, 0, none⟩), .agg (opC o Ao co), anV a Ba ca] w (TakeR w S rp (N + 1) r) := by
  have hrp := blk_lt h.blk
  have hrS := h.rp
  have HB0 := Lib.hid (tkW_below w o Ao co a Ba ca)
  have HO0 := Lib.hid (tkW_op w o Ao co a Ba ca)
  have HA0 := Lib.hid (tkW_ans w o Ao co a Ba ca)
  have hk0 : (tkW w o Ao co a Ba ca).cell? ⟨w.heap.size, 0, none⟩ = some (.int .u8 o.f0) := (op_cells HO0.out).1
  have hs0 := tkW_size w o Ao co a Ba ca
  have HH := Lib.hid h
  have HSS := Lib.hid hS
  have HC := Lib.hid hC
  have HCA := Lib.hid hD
  have HRS := Lib.hid hrS
  have HR := Lib.hid hr
  clear h hS hC hD hrS hr
  obtain ⟨D, hDD⟩ : ∃ D, D = (stepD s o a.f4).2 := ⟨_, rfl⟩
  obtain ⟨s1, hs1⟩ : ∃ s1, s1 = (stepD s o a.f4).1 := ⟨_, rfl⟩
  rw [← hDD] at hps
  have HDD := Lib.hid hDD
  have HS1 := Lib.hid hs1
  clear hDD hs1
  rw [← HDD.out] at hQ
  rw [← HDD.out] at HR
  have HQ := Lib.hid hQ
  clear hQ
  have q : (o.f0 == 2) = false ∧ (o.f0 == 3) = false ∧ (o.f0 == 4) = false ∧ (o.f0 == 5) = false ∧ ((o.f0 == 7) = true ∨ ((o.f0 == 7) = false ∧ (o.f0 == 8) = true) ∨ ((o.f0 == 7) = false ∧ (o.f0 == 8) = false ∧ (o.f0 == 9) = true)) := by
    obtain ⟨h1, h2⟩ := hk
    rcases (show o.f0 = 7 ∨ o.f0 = 8 ∨ o.f0 = 9 by omega) with e | e | e <;> rw [e] <;> decide
  obtain ⟨q2, q3, q4, q5, hcase⟩ := q
  clear hk
  obtain ⟨b1, hb1⟩ : ∃ b, b = anEq (ansS D) (errS 33) := ⟨_, rfl⟩
  obtain ⟨b2, hb2⟩ : ∃ b, b = anEq a (errS 34) := ⟨_, rfl⟩
  rw [← hb1, ← hb2] at HR
  have HE1 := Lib.hid hb1
  have HE2 := Lib.hid hb2
  clear hb1 hb2
  go_enter Try.func23, Try.ntmps23
  go_upto_region 3 with fail
  change Code.wp _ _ _ _ (tkW w o Ao co a Ba ca)
  obtain ⟨W0, hW0⟩ : ∃ W0, W0 = tkW w o Ao co a Ba ca := ⟨_, rfl⟩
  rw [← hW0] at HB0 HO0 HA0 hk0 hs0 ⊢
  clear hW0
  obtain ⟨k0, k1, k2, k3, k4, k5, k6, k7, k8, k9, k10⟩ := op_cells HO0.out
  have hps' : (toS D.ps).length ≤ 4398046511104 := by rw [toS_length]; exact hps
  rcases hcase with q7 | ⟨q7, q8⟩ | ⟨q7, q8, q9⟩
  all_goals
    go_wp2_with fail
    go_at_call 51
    refine (HQ.out W0 HB0.out).mono ?_
    rintro e w2 ⟨ps, rfl, hR2, hB2⟩
    obtain ⟨A9, c9, rfl⟩ := Kd.R_slice hR2
    have hcB := bareR_c (ansS D) A9 c9 33 w2 (Kd.R_reads' hR2).2.2 (Kd.R_reads' hR2).2.1 hps'
    rw [← HE1.out] at hcB
    have HW2 := Lib.hid (HB0.out.trans (hB2.mono HB0.out.size))
    have HO2 := Lib.hid (blk_below HO0.out hB2)
    have HA2 := Lib.hid (blk_below HA0.out hB2)
    have HCB := Lib.hid hcB
    clear hcB hR2 hB2 k0 k1 k2 k3 k4 k5 k6 k7 k8 k9 k10 hk0
    go_wp2_with fail
    go_at_call 49
    refine HCB.out.mono ?_
    rintro e w3 ⟨rfl, hB3⟩
    have HW3 := Lib.hid (HW2.out.trans (hB3.mono HW2.out.size))
    have HO3 := Lib.hid (blk_below HO2.out hB3)
    have HA3 := Lib.hid (blk_below HA2.out hB3)
    clear hB3 HCB
    obtain ⟨p0, p1, p2, p3, p4, p5, p6⟩ := ans_cells HA3.out
    cases b1 with
    | true =>
      go_wp2_with fail
      go_at_call 49
      refine (bareR_c a Ba ca 34 w3 (Kd.C_below HCA.out HW3.out) hd hm).mono ?_
      rw [← HE2.out]
      rintro e W1 ⟨rfl, hB9⟩
      have HB9 := Lib.hid (HW3.out.trans (hB9.mono HW3.out.size))
      have HO9 := Lib.hid (blk_below HO3.out hB9)
      have HA9 := Lib.hid (blk_below HA3.out hB9)
      clear hB9 p0 p1 p2 p3 p4 p5 p6
      cases b2 with
      | true =>
        go_wp2_with fail
        go_ret
        obtain rfl : r = (s, true) := by rw [HR.out]; simp
        exact ⟨rfl, ⟨_, _, _, _, _, (HH.out.below HB9.out).mono (Nat.le_succ _)⟩, KO.of_below HB9.out _⟩
      | false =>
        have HT : Hid (r = tailR s o a) := Lib.hid (by rw [HR.out]; simp)
        clear HB0 HO0 HA0 HW2 HO2 HA2 HW3 HO3 HA3
        go_upto_region 22 with (first | (go_at_call 32; refine (forkR_c (HH.out.below HB9.out) hN (fun k e => Nat.lt_of_lt_of_le (HSS.out k e) HB9.out.size)).mono ?_; rintro e w1 ⟨gq, A1, c1, B1, d1, rfl, hq1, hM1, hB1⟩))
        have hbw1 : Below w.heap.size w w1 := HB9.out.trans (hB1.mono HB9.out.size)
        have HO1 : Hid (w1.drew.heap[w.heap.size]? = some (.cells (opC o Ao co) 39 (0, 0))) := Lib.hid ((hB1.block _ (blk_lt HO9.out)).trans HO9.out)
        have HA1 : Hid (w1.drew.heap[w.heap.size + 1]? = some (.cells (ansC a.f0 a.f1 a.f2 a.f3 a.f4 (.slice Ba a.f5.length ca) a.f6) 26 (0, 0))) := Lib.hid ((hB1.block _ (blk_lt HA9.out)).trans HA9.out)
        have HM1 := Lib.hid (hM1.below (below_drew (Below.refl _ w1)))
        have HB1 := Lib.hid (below_drew hbw1)
        have hgq1 : gq < w1.drew.heap.size := blk_lt HM1.out.blk
        have hgw : w.heap.size + 2 ≤ gq := Nat.le_trans (by have := blk_lt HA9.out; omega) hq1
        have HSG : Hid (∀ k, (S k ∨ k = gq) → k < w1.drew.heap.size) := Lib.hid (fun k e => by
          rcases e with e | e
          · exact Nat.lt_of_lt_of_le (HSS.out k e) hbw1.size
          · rw [e]; exact hgq1)
        clear hM1 hbw1 hB1
        have hS1 := cells18 HO1.out HA1.out
        go_region_held3 (fun w' => w'.cell? ⟨w.heap.size, 0, none⟩ = some (.int .u8 o.f0) ∧ w'.cell? ⟨w.heap.size, 1, none⟩ = some (.int .u64 o.f1) ∧ w'.cell? ⟨w.heap.size, 2, none⟩ = some (.int .u64 o.f2) ∧ w'.cell? ⟨w.heap.size, 3, none⟩ = some (.int .u64 o.f3) ∧ w'.cell? ⟨w.heap.size, 4, none⟩ = some (.int .u64 o.f4) ∧ w'.cell? ⟨w.heap.size, 5, none⟩ = some (.bool o.f5.f0) ∧ w'.cell? ⟨w.heap.size, 6, none⟩ = some (.int .i64 o.f5.f1) ∧ w'.cell? ⟨w.heap.size, 7, none⟩ = some (.int .i64 o.f5.f2) ∧ w'.cell? ⟨w.heap.size, 8, none⟩ = some (.slice Ao o.f6.length co) ∧ w'.cell? ⟨w.heap.size, 9, none⟩ = some (.int .u64 o.f7) ∧ w'.cell? ⟨w.heap.size, 10, none⟩ = some (.int .u64 o.f8) ∧ w'.cell? ⟨w.heap.size + 1, 0, none⟩ = some (.int .i64 a.f0) ∧ w'.cell? ⟨w.heap.size + 1, 1, none⟩ = some (.bool a.f1) ∧ w'.cell? ⟨w.heap.size + 1, 2, none⟩ = some (.int .u64 a.f2) ∧ w'.cell? ⟨w.heap.size + 1, 3, none⟩ = some (.bool a.f3) ∧ w'.cell? ⟨w.heap.size + 1, 4, none⟩ = some (.int .u64 a.f4) ∧ w'.cell? ⟨w.heap.size + 1, 5, none⟩ = some (.slice Ba a.f5.length ca) ∧ w'.cell? ⟨w.heap.size + 1, 6, none⟩ = some (.int .u64 a.f6))
          (first | go_keep | exact hS1 | exact cells18 HO2.out HA2.out | exact cells18 HO3.out HA3.out)
          (first
            | (go_at_call 24; refine (rdo_c HM1.out o Ao co a.f4 hN HSG.out (Kd.C_below HC.out HB1.out) hCc hCn).mono ?_
               rw [← HDD.out, ← HS1.out]
               rintro e w2 ⟨ps, rfl, hR2, hM2, hK2⟩
               obtain ⟨A9, c9, rfl⟩ := Kd.R_slice hR2
               have hK1 : KO w w2 (fun _ => False) := (KO.of_below HB1.out (fun _ => False)).then_ hK2 (fun k e => .inr (by omega))
               have HO2 := Lib.hid (blk_kept (W2 := w2) HO1.out hK2.kept (show ¬ (w.heap.size = gq) by omega))
               have HA2 := Lib.hid (blk_kept (W2 := w2) HA1.out hK2.kept (show ¬ (w.heap.size + 1 = gq) by omega))
               have HM2 := Lib.hid hM2
               have HK1 := Lib.hid (KO.below_of hK1 (fun k e => e.elim))
               have HR2 := Lib.hid hR2
               clear hM2 hK1 hR2 hK2)
            | (go_at_call 13; refine (sameAnsR_c (ansS D) a A9 Ba c9 ca w2 (Kd.R_reads' HR2.out).2.2 (Kd.R_reads' HR2.out).2.1 (Kd.C_below HCA.out HK1.out) hd (by simp only [ansS, toS_length]; exact hps)).mono ?_; rintro e w3 ⟨rfl, hB3⟩
               have HO3 := Lib.hid ((hB3.block _ (blk_lt HO2.out)).trans HO2.out)
               have HA3 := Lib.hid ((hB3.block _ (blk_lt HA2.out)).trans HA2.out)
               have HK3 := Lib.hid (HK1.out.trans (hB3.mono HK1.out.size))
               have HB3 := Lib.hid hB3
               clear hB3))
        by_cases hq : anEq (ansS D) a = true
        case neg =>
          obtain rfl : r = (s, false) := by rw [HT.out, tailR, ← HDD.out, if_neg hq]
          have hq' : anEq (ansS D) a = false := by simpa using hq
          clear hq
          rw [hq']
          go_wp2_with fail
          all_goals go_ret
          all_goals exact ⟨rfl, ⟨_, _, _, _, _, (HH.out.below HK3.out).mono (Nat.le_succ _)⟩, KO.of_below HK3.out _⟩
        case pos =>
          obtain rfl : r = (s1, true) := by rw [HT.out, tailR, ← HDD.out, if_pos hq, ← HS1.out]
          rw [hq]
          obtain ⟨A2, c2, B2, d2, hs2, hM2⟩ := HM2.out
          have hM3 := hM2.below HB3.out
          have g0 := hM3.c0
          have g1 := hM3.c1
          have g2 := hM3.c2
          have HM3 := Lib.hid hM3
          clear hM2 hM3
          have HRB := Lib.hid (HH.out.below HK3.out).blk
          go_split_ands
          go_wp2_with (first | ((with_reducible refine gate_store (t := 119) (p := 69) rfl ?_); refine wpList_store_row rfl 119 (.tmp 69) (.tmp 68) rfl rp #[.int .i64 s1.multi, .slice A2 s1.now.length c2, .slice B2 hs2.length d2] rfl rfl 119 _ HRB.out (by kernel_rfl) rfl (mdC_one _ _ _ _ _ _ _) ?_))
          all_goals go_ret
          all_goals exact ⟨rfl, ⟨_, _, _, _, _, HM3.out.copy HRB.out (by omega) (fun k e => .inl e) HRS.out⟩, (KO.of_below HK3.out _).then_ (KO.row _ _ _) (fun k e => .inl e)⟩
    | false =>
      have HT : Hid (r = tailR s o a) := Lib.hid (by rw [HR.out]; simp)
      have HB9 := HW3
      have HO9 := HO3
      have HA9 := HA3
      obtain ⟨W1, hW1⟩ : ∃ W1, W1 = w3 := ⟨_, rfl⟩
      rw [← hW1] at HB9 HO9 HA9 p0 p1 p2 p3 p4 p5 p6 ⊢
      clear HB0 HO0 HA0 HW2 HO2 HA2 HW3 HO3 HA3 hW1 p0 p1 p2 p3 p4 p5 p6
      go_upto_region 22 with (first | (go_at_call 32; refine (forkR_c (HH.out.below HB9.out) hN (fun k e => Nat.lt_of_lt_of_le (HSS.out k e) HB9.out.size)).mono ?_; rintro e w1 ⟨gq, A1, c1, B1, d1, rfl, hq1, hM1, hB1⟩))
      have hbw1 : Below w.heap.size w w1 := HB9.out.trans (hB1.mono HB9.out.size)
      have HO1 : Hid (w1.drew.heap[w.heap.size]? = some (.cells (opC o Ao co) 39 (0, 0))) := Lib.hid ((hB1.block _ (blk_lt HO9.out)).trans HO9.out)
      have HA1 : Hid (w1.drew.heap[w.heap.size + 1]? = some (.cells (ansC a.f0 a.f1 a.f2 a.f3 a.f4 (.slice Ba a.f5.length ca) a.f6) 26 (0, 0))) := Lib.hid ((hB1.block _ (blk_lt HA9.out)).trans HA9.out)
      have HM1 := Lib.hid (hM1.below (below_drew (Below.refl _ w1)))
      have HB1 := Lib.hid (below_drew hbw1)
      have hgq1 : gq < w1.drew.heap.size := blk_lt HM1.out.blk
      have hgw : w.heap.size + 2 ≤ gq := Nat.le_trans (by have := blk_lt HA9.out; omega) hq1
      have HSG : Hid (∀ k, (S k ∨ k = gq) → k < w1.drew.heap.size) := Lib.hid (fun k e => by
        rcases e with e | e
        · exact Nat.lt_of_lt_of_le (HSS.out k e) hbw1.size
        · rw [e]; exact hgq1)
      clear hM1 hbw1 hB1
      have hS1 := cells18 HO1.out HA1.out
      go_region_held3 (fun w' => w'.cell? ⟨w.heap.size, 0, none⟩ = some (.int .u8 o.f0) ∧ w'.cell? ⟨w.heap.size, 1, none⟩ = some (.int .u64 o.f1) ∧ w'.cell? ⟨w.heap.size, 2, none⟩ = some (.int .u64 o.f2) ∧ w'.cell? ⟨w.heap.size, 3, none⟩ = some (.int .u64 o.f3) ∧ w'.cell? ⟨w.heap.size, 4, none⟩ = some (.int .u64 o.f4) ∧ w'.cell? ⟨w.heap.size, 5, none⟩ = some (.bool o.f5.f0) ∧ w'.cell? ⟨w.heap.size, 6, none⟩ = some (.int .i64 o.f5.f1) ∧ w'.cell? ⟨w.heap.size, 7, none⟩ = some (.int .i64 o.f5.f2) ∧ w'.cell? ⟨w.heap.size, 8, none⟩ = some (.slice Ao o.f6.length co) ∧ w'.cell? ⟨w.heap.size, 9, none⟩ = some (.int .u64 o.f7) ∧ w'.cell? ⟨w.heap.size, 10, none⟩ = some (.int .u64 o.f8) ∧ w'.cell? ⟨w.heap.size + 1, 0, none⟩ = some (.int .i64 a.f0) ∧ w'.cell? ⟨w.heap.size + 1, 1, none⟩ = some (.bool a.f1) ∧ w'.cell? ⟨w.heap.size + 1, 2, none⟩ = some (.int .u64 a.f2) ∧ w'.cell? ⟨w.heap.size + 1, 3, none⟩ = some (.bool a.f3) ∧ w'.cell? ⟨w.heap.size + 1, 4, none⟩ = some (.int .u64 a.f4) ∧ w'.cell? ⟨w.heap.size + 1, 5, none⟩ = some (.slice Ba a.f5.length ca) ∧ w'.cell? ⟨w.heap.size + 1, 6, none⟩ = some (.int .u64 a.f6))
        (first | go_keep | exact hS1 | exact cells18 HO2.out HA2.out | exact cells18 HO3.out HA3.out)
        (first
          | (go_at_call 24; refine (rdo_c HM1.out o Ao co a.f4 hN HSG.out (Kd.C_below HC.out HB1.out) hCc hCn).mono ?_
             rw [← HDD.out, ← HS1.out]
             rintro e w2 ⟨ps, rfl, hR2, hM2, hK2⟩
             obtain ⟨A9, c9, rfl⟩ := Kd.R_slice hR2
             have hK1 : KO w w2 (fun _ => False) := (KO.of_below HB1.out (fun _ => False)).then_ hK2 (fun k e => .inr (by omega))
             have HO2 := Lib.hid (blk_kept (W2 := w2) HO1.out hK2.kept (show ¬ (w.heap.size = gq) by omega))
             have HA2 := Lib.hid (blk_kept (W2 := w2) HA1.out hK2.kept (show ¬ (w.heap.size + 1 = gq) by omega))
             have HM2 := Lib.hid hM2
             have HK1 := Lib.hid (KO.below_of hK1 (fun k e => e.elim))
             have HR2 := Lib.hid hR2
             clear hM2 hK1 hR2 hK2)
          | (go_at_call 13; refine (sameAnsR_c (ansS D) a A9 Ba c9 ca w2 (Kd.R_reads' HR2.out).2.2 (Kd.R_reads' HR2.out).2.1 (Kd.C_below HCA.out HK1.out) hd (by simp only [ansS, toS_length]; exact hps)).mono ?_; rintro e w3 ⟨rfl, hB3⟩
             have HO3 := Lib.hid ((hB3.block _ (blk_lt HO2.out)).trans HO2.out)
             have HA3 := Lib.hid ((hB3.block _ (blk_lt HA2.out)).trans HA2.out)
             have HK3 := Lib.hid (HK1.out.trans (hB3.mono HK1.out.size))
             have HB3 := Lib.hid hB3
             clear hB3))
      by_cases hq : anEq (ansS D) a = true
      case neg =>
        obtain rfl : r = (s, false) := by rw [HT.out, tailR, ← HDD.out, if_neg hq]
        have hq' : anEq (ansS D) a = false := by simpa using hq
        clear hq
        rw [hq']
        go_wp2_with fail
        all_goals go_ret
        all_goals exact ⟨rfl, ⟨_, _, _, _, _, (HH.out.below HK3.out).mono (Nat.le_succ _)⟩, KO.of_below HK3.out _⟩
      case pos =>
        obtain rfl : r = (s1, true) := by rw [HT.out, tailR, ← HDD.out, if_pos hq, ← HS1.out]
        rw [hq]
        obtain ⟨A2, c2, B2, d2, hs2, hM2⟩ := HM2.out
        have hM3 := hM2.below HB3.out
        have g0 := hM3.c0
        have g1 := hM3.c1
        have g2 := hM3.c2
        have HM3 := Lib.hid hM3
        clear hM2 hM3
        have HRB := Lib.hid (HH.out.below HK3.out).blk
        go_split_ands
        go_wp2_with (first | ((with_reducible refine gate_store (t := 119) (p := 69) rfl ?_); refine wpList_store_row rfl 119 (.tmp 69) (.tmp 68) rfl rp #[.int .i64 s1.multi, .slice A2 s1.now.length c2, .slice B2 hs2.length d2] rfl rfl 119 _ HRB.out (by kernel_rfl) rfl (mdC_one _ _ _ _ _ _ _) ?_))
        all_goals go_ret
        all_goals exact ⟨rfl, ⟨_, _, _, _, _, HM3.out.copy HRB.out (by omega) (fun k e => .inl e) HRS.out⟩, (KO.of_below HK3.out _).then_ (KO.row _ _ _) (fun k e => .inl e)⟩
end Go.Proofs.Ytngocadnbpdnoaa.Mo
