import Derived.Test.YtngocadnbpdnoaaSMo9
namespace Go.Proofs.Ytngocadnbpdnoaa.Mo
open Go Go.Maps Go.RowKit Go.Proofs.Ytngocadnbpdnoaa.Srt Go.Proofs.Ytngocadnbpdnoaa.Q Go.Proofs.YtngocadnbpdnoaaW.PrintWords Go.Proofs.YtngocadnbpdnoaaW.PrintLast Go.Proofs.YtngocadnbpdnoaaW.PrintMore
set_option linter.unusedVariables false
set_option linter.unusedSimpArgs false
set_option maxRecDepth 100000 in
set_option maxHeartbeats 8000000 in
theorem do_snap (f : Nat → Option PL) (N gp bn bh : Nat) (multi : Int) (now : PL) (held : List (Int × PL)) (o : OpS) (A : Option Addr) (c : Nat) (hdl : Int) (w : World) (hM : PM w f N gp bn bh multi now held) (hF : Fro w f N) (hO : OpWf o) (hh : u64wf hdl) (hN : N ≤ 1099511627776) (hk : o.f0 = 5) :
    Calls Try.prog 15 #[.pointer (some ⟨gp, 0, none⟩), .agg (opC o A c), .int .u64 hdl] w (DoPost w f (N + 1) gp bn bh ⟨multi, now, snapHeld hdl now held⟩ (snapD hdl held)) := by
  have hgl := hM.gl
  have hnl := hM.now.lt
  have hhl := hM.held.1.lt
  have HM := Lib.hid hM
  have HF := Lib.hid hF
  have HO := Lib.hid hO
  have HU := Lib.hid hh
  have hb0 : Below w.heap.size w (doW w o A c).drew := below_drew (doW_below w o A c)
  have hP0 := hM.kept (Kept.of_below hb0 (fun _ => False)) (fun e => e) (fun e => e) (fun e => e)
  have HS : (fun w' : World => w'.cell? ⟨gp, 1, none⟩ = some (.map (some bn)) ∧ w'.cell? ⟨w.heap.size, 1, none⟩ = some (.int .u64 o.f1) ∧ (Instr.lookup 97 (.map (some bn)) (.int .u64 o.f1) true).run Try.prog w' = .ok (.tuple #[.int .u64 ((fnd now o.f1).getD 0), .bool (fnd now o.f1).isSome]) w') (doW w o A c).drew :=
    ⟨hP0.c1, by rw [blk_cell (w := (doW w o A c).drew) (doW_op w o A c)]; rfl, now_look hP0.now hO.key⟩
  obtain ⟨vh, hvh, hrunh⟩ := held_look (hM.held.kept (Kept.of_below (below_drew (below_alloc (below_drew (doW_below w o A c)) (.cells (ansC 0 (fnd now o.f1).isSome ((fnd now o.f1).getD 0) false 0 (.slice none 0 0) 0) 26))) (fun _ => False)) (fun e => e)) hO.han
  have hW2 : Below w.heap.size w ((doW w o A c).drew.alloc (.cells (ansC 0 (fnd now o.f1).isSome ((fnd now o.f1).getD 0) false 0 (.slice none 0 0) 0) 26)).drew := below_drew (below_alloc (below_drew (doW_below w o A c)) _)
  have hP2 := hM.kept (Kept.of_below hW2 (fun _ => False)) (fun e => e) (fun e => e) (fun e => e)
  have hs2 : (doW w o A c).drew.heap.size = w.heap.size + 2 := doW_size w o A c
  have hop2 : ((doW w o A c).drew.alloc (.cells (ansC 0 (fnd now o.f1).isSome ((fnd now o.f1).getD 0) false 0 (.slice none 0 0) 0) 26)).drew.heap[w.heap.size]? = some (.cells (opC o A c) 39 (0, 0)) := ((below_alloc (Below.refl _ (doW w o A c).drew) _).block _ (by rw [hs2]; omega)).trans (doW_op w o A c)
  have hra2 : ((doW w o A c).drew.alloc (.cells (ansC 0 (fnd now o.f1).isSome ((fnd now o.f1).getD 0) false 0 (.slice none 0 0) 0) 26)).drew.heap[w.heap.size + 1]? = some (.cells (ansC 0 false 0 false 0 (.slice none 0 0) 0) 26 (0, 0)) := ((below_alloc (Below.refl _ (doW w o A c).drew) _).block _ (by rw [hs2]; omega)).trans (doW_ans w o A c)
  have hfa2 : ((doW w o A c).drew.alloc (.cells (ansC 0 (fnd now o.f1).isSome ((fnd now o.f1).getD 0) false 0 (.slice none 0 0) 0) 26)).drew.heap[w.heap.size + 2]? = some (.cells (ansC 0 (fnd now o.f1).isSome ((fnd now o.f1).getD 0) false 0 (.slice none 0 0) 0) 26 (0, 0)) := by
    have := heap_alloc_new (doW w o A c).drew (.cells (ansC 0 (fnd now o.f1).isSome ((fnd now o.f1).getD 0) false 0 (.slice none 0 0) 0) 26)
    rw [hs2] at this
    exact this
  have HS2 : (fun w' : World => w'.cell? ⟨gp, 2, none⟩ = some (.map (some bh)) ∧ w'.cell? ⟨w.heap.size, 4, none⟩ = some (.int .u64 o.f4) ∧ (Instr.lookup 98 (.map (some bh)) (.int .u64 o.f4) true).run Try.prog w' = .ok (.tuple #[vh, .bool (fnd held o.f4).isSome]) w') ((doW w o A c).drew.alloc (.cells (ansC 0 (fnd now o.f1).isSome ((fnd now o.f1).getD 0) false 0 (.slice none 0 0) 0) 26)).drew :=
    ⟨hP2.c2, by rw [blk_cell hop2]; rfl, hrunh⟩
  have hkd : ((doW w o A c).drew.alloc (.cells (ansC 0 (fnd now o.f1).isSome ((fnd now o.f1).getD 0) false 0 (.slice none 0 0) 0) 26)).drew.cell? ⟨w.heap.size, 0, none⟩ = some (.int .u8 5) := by rw [blk_cell hop2, ← hk]; rfl
  have HVH := Lib.hid hvh
  have HW2 := Lib.hid hW2
  have HP2 := Lib.hid hP2
  have HOP2 := Lib.hid hop2
  have HRA2 := Lib.hid hra2
  have HFA2 := Lib.hid hfa2
  have hfnd0 : (fnd now o.f1).isSome = (fnd now o.f1).isSome := rfl
  obtain ⟨fo, hfo⟩ : ∃ b : Bool, b = (fnd now o.f1).isSome := ⟨_, rfl⟩
  obtain ⟨fv, hfv⟩ : ∃ v : Int, v = (fnd now o.f1).getD 0 := ⟨_, rfl⟩
  obtain ⟨hd, hhd⟩ : ∃ b : Bool, b = (fnd held o.f4).isSome := ⟨_, rfl⟩
  rw [← hfo, ← hfv] at HS HS2 HW2 HP2 HOP2 HRA2 HFA2 hkd
  rw [← hhd] at HS2
  have HFO := Lib.hid hfo
  have HFV := Lib.hid hfv
  have HHD := Lib.hid hhd
  clear hM hF hO hh hb0 hP0 hvh hrunh hW2 hP2 hs2 hop2 hra2 hfa2 hfnd0 hfo hfv hhd
  obtain ⟨W1, hW1⟩ : ∃ W1, W1 = doW w o A c := ⟨_, rfl⟩
  have HW1 := Lib.hid hW1
  rw [← hW1] at HS HS2 HW2 HP2 HOP2 HRA2 HFA2 hkd
  go_enter Try.func15, Try.ntmps15
  go_wp2_with fail
  change Code.wp _ _ _ _ (doW w o A c)
  rw [← hW1]
  clear hW1
  go_region_held3 (fun w' => w'.cell? ⟨gp, 1, none⟩ = some (.map (some bn)) ∧ w'.cell? ⟨w.heap.size, 1, none⟩ = some (.int .u64 o.f1) ∧ (Instr.lookup 97 (.map (some bn)) (.int .u64 o.f1) true).run Try.prog w' = .ok (.tuple #[.int .u64 fv, .bool fo]) w')
    (first | go_keep | exact HS)
    (first | fail | fail)
  clear HS
  have hs1 : W1.heap.size = w.heap.size + 2 := by rw [HW1.out]; exact doW_size w o A c
  go_wp2_with fail
  obtain ⟨W2, hW2⟩ : ∃ W2, W2 = W1.drew.alloc (Obj.cells (ansC 0 fo fv false 0 (Value.slice none 0 0) 0) 26) := ⟨_, rfl⟩
  change Code.wp _ _ _ _ (W1.drew.alloc (Obj.cells (ansC 0 fo fv false 0 (Value.slice none 0 0) 0) 26))
  rw [← hW2] at HS2 HW2 HP2 HOP2 HRA2 HFA2 hkd ⊢
  clear hW2
  go_region_held3 (fun w' => w'.cell? ⟨gp, 2, none⟩ = some (.map (some bh)) ∧ w'.cell? ⟨w.heap.size, 4, none⟩ = some (.int .u64 o.f4) ∧ (Instr.lookup 98 (.map (some bh)) (.int .u64 o.f4) true).run Try.prog w' = .ok (.tuple #[vh, .bool hd]) w')
    (first | go_keep | exact HS2)
    (first | fail | fail)
  clear HS2
  obtain ⟨W, hW⟩ : ∃ W, W = W2.drew := ⟨_, rfl⟩
  rw [← hW] at HW2 HP2 HOP2 HRA2 HFA2 hkd ⊢
  clear hW
  have cS := snapshot_c f N gp bn bh multi now held hdl W HP2.out (HF.out.kept (Kept.of_below HW2.out (fun _ => False)) (fun _ _ _ e => e)) HU.out hN
  obtain ⟨e, vs, hsn⟩ : ∃ (e h : Int), snapAns hdl held = ansV e false 0 false h (.slice none 0 0) 0 ∧ snapD hdl held = ⟨e, false, 0, false, h, [], 0⟩ := by
    unfold snapAns snapD
    split
    · exact ⟨32, 0, rfl, rfl⟩
    · exact ⟨0, hdl, rfl, rfl⟩
  rw [hsn.1] at cS
  unfold ansV at cS
  go_wp2_with (first | (go_at_call 36; (refine cS.mono ?_; rintro e' w3 ⟨rfl, HL⟩; have HRA3 := Lib.hid (blk_kept HRA2.out HL.choose_spec.2.2.2.kept (show ¬ w.heap.size + 1 = bh by omega)); have HL3 := Lib.hid (HL.base (K' := fun k => k = bn ∨ k = bh) HW2.out (fun k e => Or.inr e)); clear HL)) | ((with_reducible refine gate_store (t := 26) (p := 6) rfl ?_); refine wpList_store_row rfl 26 (.tmp 6) (.tmp 95) rfl (w.heap.size + 1) (ansC e false 0 false vs (.slice none 0 0) 0) rfl rfl 26 _ HRA3.out (by kernel_rfl) rfl (ansC_one _ _ _ _ _ _ _ _ _) ?_))
  refine bodyPost_ret (res_ans rfl _ rfl (setRow_heap _ _ _ _ _ _ HRA3.out)) rfl ⟨.slice none 0 0, by rw [hsn.2], by rw [hsn.2]; exact Kd.R_nil _ _ _ _ _, HL3.out.row (by omega) HRA3.out hgl hnl hhl _⟩
end Go.Proofs.Ytngocadnbpdnoaa.Mo
