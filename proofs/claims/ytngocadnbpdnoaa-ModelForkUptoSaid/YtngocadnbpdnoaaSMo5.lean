import Derived.Test.YtngocadnbpdnoaaSMo4
namespace Go.Proofs.Ytngocadnbpdnoaa.Mo
open Go Go.Maps Go.RowKit Go.Proofs.Ytngocadnbpdnoaa.Srt Go.Proofs.Ytngocadnbpdnoaa.Q Go.Proofs.YtngocadnbpdnoaaW.PrintWords Go.Proofs.YtngocadnbpdnoaaW.PrintLast Go.Proofs.YtngocadnbpdnoaaW.PrintMore
set_option linter.unusedVariables false
set_option linter.unusedSimpArgs false
theorem MapN.len {w : World} {b n : Nat} {l : PL} (h : MapN w b n l) : l.length ≤ n := by have := h.1.size_le; unfold dmap at this; rwa [size_mp] at this
theorem HeldN.len {w : World} {f : Nat → Option PL} {b n : Nat} {l : List (Int × PL)} (h : HeldN w f b n l) : l.length ≤ n := by have := h.1.size_le; rwa [size_mp] at this
set_option maxHeartbeats 4000000 in
theorem content_c (f : Nat → Option PL) (N gp bn bh : Nat) (multi : Int) (now : PL) (held : List (Int × PL)) (w : World) (hM : PM w f N gp bn bh multi now held) (hN : N ≤ 1099511627776) :
    Calls Try.prog 17 #[.pointer (some ⟨gp, 0, none⟩)] w fun e w' => ∃ v : Value, e = .returned v ∧ kSP.R 90 w' w.heap.size (fun _ => True) v (toS now) ∧ Below w.heap.size w w' := by
  have c1 := hM.c1
  have cS := sorted_c bn N now w hM.now (by have := hM.now.len; omega)
  have HM := Lib.hid hM
  clear hM
  go_enter Try.func17, Try.ntmps17
  go_wp2_with (go_at_call 38; refine cS.mono ?_; rintro e w1 ⟨v, rfl, hR, hb⟩; obtain ⟨A, c, rfl⟩ := Kd.R_slice hR)
  go_ret
  exact ⟨_, rfl, hR, hb⟩
set_option maxHeartbeats 4000000 in
theorem handles_c (f : Nat → Option PL) (N gp bn bh : Nat) (multi : Int) (now : PL) (held : List (Int × PL)) (w : World) (hM : PM w f N gp bn bh multi now held) (hN : N ≤ 1099511627776) :
    Calls Try.prog 27 #[.pointer (some ⟨gp, 0, none⟩)] w fun e w' => ∃ v : Value, e = .returned v ∧ (Kd.int .u64).R 23 w' w.heap.size (fun _ => True) v (held.map (·.1)) ∧ Below w.heap.size w w' := by
  have c2 := hM.c2
  have h0 := hM.held.kept (Kept.of_below (below_alloc (Below.refl _ w) (.cells #[.map (some bh)] 98)) (fun _ => False)) (fun e => e)
  have cS := sortedB_c w.heap.size bh N held (RH f) (w.alloc (.cells #[.map (some bh)] 98)) (by simp) (by simp) h0.1 h0.2 (by have := hM.held.len; omega)
  have HM := Lib.hid hM
  clear hM h0
  go_enter Try.func27, Try.ntmps27
  go_wp2_with (first
    | (go_at_call 58; refine (keysB_c _ _).mono ?_; rintro e w' ⟨rfl, rfl⟩)
    | (go_at_call 57; refine cS.mono ?_; rintro e w1 ⟨v, rfl, hR, hb⟩; obtain ⟨A, c, rfl⟩ := Kd.R_slice hR))
  go_ret
  exact ⟨_, rfl, by simpa using Kd.R_lower (base' := w.heap.size) hR (by simp), (below_alloc (Below.refl _ w) _).trans (hb.mono (by simp))⟩
set_option maxHeartbeats 4000000 in
theorem held_c (f : Nat → Option PL) (N gp bn bh : Nat) (multi : Int) (now : PL) (held : List (Int × PL)) (k : Int) (w : World) (hM : PM w f N gp bn bh multi now held) (hF : Fro w f N) (hk : u64wf k) (hN : N ≤ 1099511627776) :
    Calls Try.prog 16 #[.pointer (some ⟨gp, 0, none⟩), .int .u64 k] w fun e w' => ∃ v : Value, e = .returned (.tuple #[v, .bool (fnd held k).isSome]) ∧ kSP.R 90 w' w.heap.size (fun _ => True) v (toS ((fnd held k).getD [])) ∧ Below w.heap.size w w' := by
  have c2 := hM.c2
  obtain ⟨v, hv, hrun⟩ := held_look hM.held hk
  rcases hv with ⟨hn, rfl⟩ | ⟨b, l, hn, rfl, hfb⟩
  · have cS := sorted_nil_c w
    rw [hn] at hrun ⊢
    have HM := Lib.hid hM
    clear hM hF hk hn
    go_enter Try.func16, Try.ntmps16
    go_wp2_with (go_at_call 38; refine cS.mono ?_; rintro e w1 ⟨rfl, hb⟩)
    go_ret2
    exact ⟨_, rfl, Kd.R_nil _ _ _ _ _, hb⟩
  · have hl := hF b l hfb
    have cS := sorted_c b N l w hl (by have := hl.len; omega)
    rw [hn] at hrun ⊢
    have HM := Lib.hid hM
    clear hM hF hk hn hl hfb
    go_enter Try.func16, Try.ntmps16
    go_wp2_with (go_at_call 38; refine cS.mono ?_; rintro e w1 ⟨v, rfl, hR, hb⟩; obtain ⟨A, c, rfl⟩ := Kd.R_slice hR)
    go_ret2
    exact ⟨_, rfl, hR, hb⟩
set_option maxHeartbeats 4000000 in
theorem new_c (multi : Int) (f : Nat → Option PL) (w : World) (hF : Fro w f 0) (hm : 1 ≤ multi) (hm2 : multi ≤ 1024) :
    Calls Try.prog 14 #[.int .i64 multi] w fun e w' => ∃ gp bn bh, e = .returned (.tuple #[.pointer (some ⟨gp, 0, none⟩), .int .i64 0]) ∧ PM w' f 0 gp bn bh multi [] [] ∧ Below w.heap.size w w' ∧ w.heap.size ≤ gp ∧ w.heap.size ≤ bn ∧ w.heap.size ≤ bh := by
  have hmm := @run_makeMap Try.prog
  have h1 : ¬ multi < 1 := by omega
  have h2 : ¬ 1024 < multi := by omega
  have d1 : decide (multi < 1) = false := decide_eq_false h1
  have d2 : decide (1024 < multi) = false := decide_eq_false h2
  have HF := Lib.hid hF
  clear hF h1 h2
  go_enter Try.func14, Try.ntmps14
  go_wp2
  go_ret2
  have b1 : Below (w.alloc (Obj.map #[] 0)).heap.size (w.alloc (Obj.map #[] 0)) (((w.alloc (Obj.map #[] 0)).alloc (Obj.map #[] 0)).alloc (Obj.cells #[Value.int IntKind.i64 multi, Value.map (some w.heap.size), Value.map (some (w.heap.size + 1))] 100)) := below_alloc (below_alloc (Below.refl _ _) _) _
  have b2 : Below ((w.alloc (Obj.map #[] 0)).alloc (Obj.map #[] 0)).heap.size ((w.alloc (Obj.map #[] 0)).alloc (Obj.map #[] 0)) (((w.alloc (Obj.map #[] 0)).alloc (Obj.map #[] 0)).alloc (Obj.cells #[Value.int IntKind.i64 multi, Value.map (some w.heap.size), Value.map (some (w.heap.size + 1))] 100)) := below_alloc (Below.refl _ _) _
  have o1 : MapN (w.alloc (Obj.map #[] 0)) w.heap.size 0 [] := ⟨World.ownsMap_made _ _ _ _, List.Pairwise.nil⟩
  have o2 : HeldN ((w.alloc (Obj.map #[] 0)).alloc (Obj.map #[] 0)) f (w.heap.size + 1) 0 [] := ⟨by have := World.ownsMap_made (w.alloc (Obj.map #[] 0)) Try.prog 23 (RH f); simpa [mp] using this, List.Pairwise.nil⟩
  refine ⟨w.heap.size + 1 + 1, w.heap.size, w.heap.size + 1, rfl, ⟨?_, o1.kept (Kept.of_below b1 (fun _ => False)) (fun e => e), o2.kept (Kept.of_below b2 (fun _ => False)) (fun e => e), HF.out.lt (Nat.le_refl _), HF.out.lt (by omega), by omega⟩, below_alloc (below_alloc (below_alloc (Below.refl _ _) _) _) _, by omega, by omega, by omega⟩
  have := heap_alloc_new ((w.alloc (Obj.map #[] 0)).alloc (Obj.map #[] 0)) (Obj.cells #[Value.int IntKind.i64 multi, Value.map (some w.heap.size), Value.map (some (w.heap.size + 1))] 100)
  simpa using this
end Go.Proofs.Ytngocadnbpdnoaa.Mo
