import Derived.Test.YtbpkepcbmenbcaaNo7
import Derived.StillTailTactics
namespace Go.Proofs.Ytbpkepcbmenbcaa.Ar
open Go.RowKit Go.Proofs.YtbpkepcbmenbcaaW.PrintWords Go.Proofs.YtbpkepcbmenbcaaW.PrintLast Go.Proofs.YtbpkepcbmenbcaaW.PrintMore
set_option linter.unusedVariables false
set_option linter.unusedSimpArgs false
set_option maxRecDepth 100000 in
set_option maxHeartbeats 4000000 in
theorem leafstep_nv (base g : Nat) (k v : Int) (w : World) (hL : LeafAt w g 0 0 k v false) (hbg : base ≤ g) :
    Calls Try.prog 11 #[.pointer (some ⟨g, 0, none⟩), .pointer none] w fun e w' => e = .returned (.bool true) ∧ LeafAt w' g 0 30 k v true ∧ Kept w w' (fun j => j = g) ∧ Below base w w' := by
  have c2 := hL.c 2
  have c3 := hL.c 3
  have c4 := hL.c 4
  simp at c2 c3 c4
  have f4 : w.frozen? ⟨g, 4, none⟩ = false := blk_frozen hL 4
  have hgs := blk_lt hL
  have HL := Lib.hid hL
  have HBG := Lib.hid hbg
  clear hL hbg
  go_enter Try.func11, Try.ntmps11
  go_wp2_with fail
  obtain ⟨W, hW⟩ : ∃ W, W = w.setCell ⟨g, 4, none⟩ (.bool true) := ⟨_, rfl⟩
  rw [← hW]
  have hL1 : LeafAt W g 0 0 k v true := by rw [hW]; exact (blk_set HL.out 4 _).trans rfl
  have d2 : W.cell? ⟨g, 2, none⟩ = some (.int .u64 k) := (blk_cell hL1 2).trans rfl
  have d3 : W.cell? ⟨g, 3, none⟩ = some (.int .u64 v) := (blk_cell hL1 3).trans rfl
  have hWs : g < W.heap.size := blk_lt hL1
  have HK : Hid (Kept w W (fun j => j = g)) := Lib.hid (by rw [hW]; exact Kept.setCell (S := fun j => j = g) (Kept.refl _ _) (p := ⟨g, 4, none⟩) (.inl rfl) _)
  have HB : Hid (Below base w W) := Lib.hid (by rw [hW]; exact (Below.refl _ _).setCell (p := ⟨g, 4, none⟩) HBG.out _)
  have HL1 := Lib.hid hL1
  clear hW c2 c3 c4 f4 hL1
  have e0 : W.cell? ⟨g, 1, none⟩ = some (.int .i64 0) := (blk_cell HL1.out 1).trans rfl
  have e1 : W.frozen? ⟨g, 1, none⟩ = false := blk_frozen HL1.out 1
  go_region_with (go_at_call 34; refine (valloc_nil _ _).mono ?_; rintro e w' ⟨rfl, rfl⟩)
  all_goals go_wp2_with fail
  all_goals go_ret
  all_goals exact ⟨rfl, alloc_blk ((blk_set HL1.out 1 _).trans rfl), ((HK.out.setCell (p := ⟨g, 1, none⟩) (.inl rfl) _).alloc _).drew, ((HB.out.setCell (p := ⟨g, 1, none⟩) HBG.out _).alloc (by have := HBG.out; simp; omega) _).drew⟩
set_option maxRecDepth 100000 in
set_option maxHeartbeats 4000000 in
theorem lookstep0_nv (base g : Nat) (a : Int) (w : World) (hL : LookAt w g a 0 0 0 0) (hbg : base ≤ g) :
    Calls Try.prog 16 #[.pointer (some ⟨g, 0, none⟩), .pointer none] w fun e w' => e = .returned (.bool false) ∧ LookAt w' g a 1 0 0 0 ∧ Kept w w' (fun j => j = g) ∧ Below base w w' := by
  have c0 : w.cell? ⟨g, 0, none⟩ = some (.int .u64 a) := (blk_cell hL 0).trans rfl
  have c1 : w.cell? ⟨g, 1, none⟩ = some (.int .i64 0) := (blk_cell hL 1).trans rfl
  have c2 : w.cell? ⟨g, 2, none⟩ = some (.int .u64 0) := (blk_cell hL 2).trans rfl
  have f1 : w.frozen? ⟨g, 1, none⟩ = false := blk_frozen hL 1
  have f2 : w.frozen? ⟨g, 2, none⟩ = false := blk_frozen hL 2
  have HL := Lib.hid hL
  have HBG := Lib.hid hbg
  clear hL hbg
  go_enter Try.func16, Try.ntmps16
  go_wp2_with fail
  go_at_call 38
  refine (vload_nil a w).mono ?_
  rintro e w' ⟨rfl, rfl⟩
  go_wp2_with fail
  go_ret
  exact ⟨rfl, (blk_set (blk_set HL.out 2 _) 1 _).trans rfl, Kept.setCell (S := fun j => j = g) (Kept.setCell (S := fun j => j = g) (Kept.refl _ _) (p := ⟨g, 2, none⟩) (.inl rfl) _) (p := ⟨g, 1, none⟩) (.inl rfl) _, ((Below.refl _ _).setCell (p := ⟨g, 2, none⟩) HBG.out _).setCell (p := ⟨g, 1, none⟩) HBG.out _⟩
set_option maxRecDepth 100000 in
set_option maxHeartbeats 4000000 in
theorem lookstep1_nv (base g : Nat) (a : Int) (w : World) (hL : LookAt w g a 1 0 0 0) (hbg : base ≤ g) :
    Calls Try.prog 16 #[.pointer (some ⟨g, 0, none⟩), .pointer none] w fun e w' => e = .returned (.bool true) ∧ LookAt w' g a 2 0 0 0 ∧ Kept w w' (fun j => j = g) ∧ Below base w w' := by
  have c0 : w.cell? ⟨g, 0, none⟩ = some (.int .u64 a) := (blk_cell hL 0).trans rfl
  have c1 : w.cell? ⟨g, 1, none⟩ = some (.int .i64 1) := (blk_cell hL 1).trans rfl
  have c2 : w.cell? ⟨g, 2, none⟩ = some (.int .u64 0) := (blk_cell hL 2).trans rfl
  have c3 : w.cell? ⟨g, 3, none⟩ = some (.int .u64 0) := (blk_cell hL 3).trans rfl
  have c4 : w.cell? ⟨g, 4, none⟩ = some (.int .u64 0) := (blk_cell hL 4).trans rfl
  have f1 : w.frozen? ⟨g, 1, none⟩ = false := blk_frozen hL 1
  have f3 : w.frozen? ⟨g, 3, none⟩ = false := blk_frozen hL 3
  have f4 : w.frozen? ⟨g, 4, none⟩ = false := blk_frozen hL 4
  have HL := Lib.hid hL
  have HBG := Lib.hid hbg
  clear hL hbg
  go_enter Try.func16, Try.ntmps16
  go_wp2_with fail
  go_region_with (go_at_call 38; refine (vload_nil _ _).mono ?_; rintro e w' ⟨rfl, rfl⟩)
  all_goals go_wp2_with fail
  all_goals go_ret
  all_goals exact ⟨rfl, (blk_set (blk_set (blk_set (w := w) HL.out 3 _) 4 _) 1 _).trans rfl, (Kept.setCell (S := fun j => j = g) (Kept.setCell (S := fun j => j = g) (Kept.setCell (S := fun j => j = g) (Kept.refl _ _) (p := ⟨g, 3, none⟩) (.inl rfl) _) (p := ⟨g, 4, none⟩) (.inl rfl) _) (p := ⟨g, 1, none⟩) (.inl rfl) _).drew, below_drew ((((Below.refl _ _).setCell (p := ⟨g, 3, none⟩) HBG.out _).setCell (p := ⟨g, 4, none⟩) HBG.out _).setCell (p := ⟨g, 1, none⟩) HBG.out _)⟩
end Go.Proofs.Ytbpkepcbmenbcaa.Ar
