import Derived.Test.YtbpkepcbmenbcaaNo3
import Derived.Test.YtbpkepcbmenbcaaNoP
namespace Go.Proofs.Ytbpkepcbmenbcaa.Ar
open Go.RowKit Go.Proofs.YtbpkepcbmenbcaaW.PrintWords Go.Proofs.YtbpkepcbmenbcaaW.PrintLast Go.Proofs.YtbpkepcbmenbcaaW.PrintMore
set_option linter.unusedVariables false
set_option linter.unusedSimpArgs false
def s1 : Ms := (Ms.new 128).alloc 0 [7, 1]
def s2 : Ms := s1.load 0 1
set_option maxRecDepth 100000 in
theorem s1_addr : (Ms.new 128).addr [7, 1] = 1 := by decide +kernel
set_option maxRecDepth 100000 in
theorem s1_rd : rd s1.cells 1 = 7 := by decide +kernel
set_option maxRecDepth 100000 in
theorem s2_rd : rd s2.cells 2 = 1 := by decide +kernel
set_option maxRecDepth 100000 in
theorem s12_tr : (Ms.new 128).tr.length ≤ 1099511627775 ∧ s1.tr.length ≤ 1099511627775 ∧ s2.tr.length ≤ 1099511627775 := by decide +kernel
set_option maxRecDepth 100000 in
set_option maxHeartbeats 8000000 in
theorem live_c (w : World) :
    Calls Try.prog 7 #[] w fun e w' => e = .returned (.bool true) ∧ Below w.heap.size w w' := by
  go_enter Try.func7, Try.ntmps7
  go_wp2_with fail
  go_at_call 8
  refine (new_c 128 w (by omega) (by omega)).mono ?_
  rintro e w1 ⟨gm, rfl, q1, q2⟩
  have M1 := Lib.hid q1
  have B1 := Lib.hid q2
  clear q1 q2
  go_wp2_with fail
  go_at_call 9
  refine (view_c gm 0 w1).mono ?_
  rintro e w2 ⟨rfl, q1, q2⟩
  have M2 := Lib.hid ((M1.out.bound.kept (Kept.of_below q2 (fun _ => False)) (fun _ _ h => h)).mono (S' := fun k => w.heap.size ≤ k ∧ k < w2.heap.size) (fun k hk => ⟨hk.1, by have := q2.size; omega⟩))
  have V2 := Lib.hid q1
  have B2 := Lib.hid (B1.out.trans (q2.mono B1.out.size))
  have hgv : w1.heap.size < w2.heap.size := blk_lt q1
  have hbv : w.heap.size ≤ w1.heap.size := B1.out.size
  obtain ⟨gv, hgv2⟩ : ∃ gv, gv = w1.heap.size := ⟨_, rfl⟩
  rw [← hgv2] at V2 hgv hbv ⊢
  have HGV := Lib.hid hgv
  have HBV := Lib.hid hbv
  clear q1 q2 M1 B1 hgv2 hgv hbv
  go_wp2_with fail
  go_at_call 10
  refine (newleaf_c 7 1 w2).mono ?_
  rintro e w3 ⟨rfl, q1, q2⟩
  have hk : Kept w2 w3 (fun _ => False) := Kept.of_below q2 _
  have M3 := Lib.hid (M2.out.kept hk (fun _ _ h => h))
  have V3 : Hid (ViewAt w3 gv gm 0 0) := Lib.hid (blk_kept V2.out hk (fun h => h))
  have B3 := Lib.hid (B2.out.trans (q2.mono B2.out.size))
  have hg : w2.heap.size < w3.heap.size := blk_lt q1
  obtain ⟨g, hg2⟩ : ∃ g, g = w2.heap.size := ⟨_, rfl⟩
  have hbg : w.heap.size ≤ g := by rw [hg2]; exact B2.out.size
  rw [← hg2] at q1 hg HGV M3 ⊢
  have L3 := Lib.hid q1
  have HG := Lib.hid hg
  have HBG := Lib.hid hbg
  clear q1 q2 M2 V2 B2 hk hg2 hg hbg
  go_wp2_with fail
  go_at_call 11
  refine (leafstep_c w.heap.size _ g gv gm 0 (Ms.new 128) 0 7 1 w3 M3.out V3.out ⟨HBV.out, HGV.out⟩ HBV.out (by omega) s12_tr.1 L3.out (fun h => by have := h.2; omega) HBG.out).mono ?_
  rintro e w4 ⟨rfl, q1, q2, q3, q4, q5⟩
  rw [s1_addr] at q3
  have M4 : Hid (MemW w4 w.heap.size (fun k => w.heap.size ≤ k ∧ k ≠ g ∧ k < w4.heap.size) gm s1) := Lib.hid (q1.bound.mono (fun k hk => ⟨hk.2.1, hk.1.elim (fun h => by have := h.2; omega) (fun h => by have := HG.out; omega), hk.2.2⟩))
  have V4 := Lib.hid q2
  have L4 : Hid (LeafAt w4 g 3 0 7 1 true) := Lib.hid q3
  have B4 := Lib.hid (B3.out.trans q5)
  have W4 : Hid (w3.heap.size ≤ w4.heap.size) := Lib.hid q4.1
  clear q1 q2 q3 q4 q5 M3 V3 L3 B3
  go_wp2_with fail
  go_at_call 15
  refine (newlook_c 1 w4).mono ?_
  rintro e w5 ⟨rfl, q1, q2⟩
  have hk : Kept w4 w5 (fun _ => False) := Kept.of_below q2 _
  have M5 := Lib.hid (M4.out.kept hk (fun _ _ h => h))
  have V5 : Hid (ViewAt w5 gv gm 0 1) := Lib.hid (blk_kept V4.out hk (fun h => h))
  have L5 : Hid (LeafAt w5 g 3 0 7 1 true) := Lib.hid (blk_kept L4.out hk (fun h => h))
  have B5 := Lib.hid (B4.out.trans (q2.mono B4.out.size))
  have hg5 : w4.heap.size < w5.heap.size := blk_lt q1
  obtain ⟨q, hq⟩ : ∃ q, q = w4.heap.size := ⟨_, rfl⟩
  have hbq : w.heap.size ≤ q := by rw [hq]; exact B4.out.size
  have hgq : g < q := by rw [hq]; exact blk_lt L4.out
  have hgvq : gv < q := by rw [hq]; exact blk_lt V4.out
  rw [← hq] at q1 hg5 M5 ⊢
  have K5 := Lib.hid q1
  have HBQ := Lib.hid hbq
  have HQ5 := Lib.hid hg5
  have HGQ := Lib.hid hgq
  have HVQ := Lib.hid hgvq
  clear q1 q2 M4 V4 L4 B4 hk hq hbq hg5 hgq hgvq
  go_wp2_with fail
  go_at_call 16
  have hgvg : gv ≠ g := blk_ne V5.out L5.out (by decide)
  refine (lookstep0_c w.heap.size _ q gv gm 1 s1 0 1 w5 M5.out V5.out ⟨HBV.out, hgvg, HVQ.out⟩ HBV.out (by omega) s12_tr.2.1 K5.out (fun h => by have := h.2.2; omega) HBQ.out (by omega)).mono ?_
  rintro e w6 ⟨rfl, q1, q2, q3, q4, q5⟩
  rw [s1_rd] at q3
  have M6 : Hid (MemW w6 w.heap.size (fun k => w.heap.size ≤ k ∧ k ≠ g ∧ k ≠ q ∧ k < w6.heap.size) gm s2) := Lib.hid (q1.bound.mono (fun k hk => ⟨hk.2.1, hk.1.elim (fun h => h.2.1) (fun h => by have := HGQ.out; have := HQ5.out; omega), hk.1.elim (fun h => by have := h.2.2; omega) (fun h => by have := HQ5.out; omega), hk.2.2⟩))
  have V6 := Lib.hid q2
  have L6 : Hid (LeafAt w6 g 3 0 7 1 true) := Lib.hid (blk_kept L5.out q4 (fun h => h.elim (fun h => h.2.1 rfl) (fun h => by have := HGQ.out; omega)))
  have K6 := Lib.hid q3
  have B6 := Lib.hid (B5.out.trans q5)
  clear q1 q2 q3 q4 q5 M5 V5 L5 K5 B5
  go_wp2_with fail
  go_at_call 16
  refine (lookstep1_c w.heap.size _ q gv gm 2 s2 0 1 2 7 w6 M6.out V6.out ⟨HBV.out, hgvg, by have := HVQ.out; omega, blk_lt V6.out⟩ HBV.out (by omega) s12_tr.2.2 K6.out (fun h => h.2.2.1 rfl) HBQ.out (by omega) (by decide)).mono ?_
  rintro e w7 ⟨rfl, q1, q2, q3, q4, q5⟩
  rw [s2_rd] at q3
  have L7 : Hid (LeafAt w7 g 3 0 7 1 true) := Lib.hid (blk_kept L6.out q4 (fun h => h.elim (fun h => h.2.1 rfl) (fun h => by have := HGQ.out; omega)))
  have K7 := Lib.hid q3
  have B7 := Lib.hid (B6.out.trans q5)
  clear q1 q2 q3 q4 q5 M6 V6 L6 K6 B6
  go_wp2_with fail
  go_at_call 13
  refine (leafword_c _ _ _ _ _ _ _ L7.out).mono ?_
  rintro e w' ⟨rfl, rfl⟩
  go_wp2_with fail
  go_at_call 12
  refine (leaferr_c _ _ _ _ _ _ _ L7.out).mono ?_
  rintro e w' ⟨rfl, rfl⟩
  go_wp2_with fail
  go_at_call 17
  refine (lookpair_c _ _ _ _ _ _ _ K7.out).mono ?_
  rintro e w8 ⟨rfl, q1⟩
  have B8 := Lib.hid (B7.out.trans (q1.mono B7.out.size))
  clear q1
  go_wp2_with fail
  go_ret
  exact ⟨rfl, B8.out⟩
end Go.Proofs.Ytbpkepcbmenbcaa.Ar
