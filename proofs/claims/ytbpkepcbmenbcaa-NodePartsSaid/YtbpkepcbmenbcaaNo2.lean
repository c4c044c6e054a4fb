import Derived.Test.YtbpkepcbmenbcaaNo1
import Derived.StillTailTactics
namespace Go.Proofs.Ytbpkepcbmenbcaa.Ar
open Go.RowKit Go.Proofs.YtbpkepcbmenbcaaW.PrintWords Go.Proofs.YtbpkepcbmenbcaaW.PrintLast Go.Proofs.YtbpkepcbmenbcaaW.PrintMore
set_option linter.unusedVariables false
set_option linter.unusedSimpArgs false
/-- A block of numbers, read. -/
theorem C_of_row {k : IntKind} {W : World} {g e : Nat} {xs : List Int} (h : W.heap[g]? = some (.cells (nums k xs).toArray e (0, 0))) (hl : xs.length ≤ 9223372036854775807) : (Kd.int k).C W (some ⟨g, 0, none⟩) xs.length xs := by
  refine ⟨rfl, ?_, fun _ => ⟨_, rfl, fun j p hj => ⟨[.int k p], rfl, rfl, fun i u hu => ?_⟩⟩⟩
  · exact hl
  · have h5 : i = 0 ∧ u = .int k p := by
      cases i with
      | zero => simp at hu; exact ⟨rfl, hu.symm⟩
      | succ i => simp at hu
    obtain ⟨rfl, rfl⟩ := h5
    rw [add_plain, blk_cell h]
    simp [nums, Kd.int, Kd.scalar, hj]
theorem addr_pos {s : Ms} {vals : List Int} (h : ¬ s.addr vals = 0) : 1 ≤ s.addr vals := by
  unfold Ms.addr at *
  split at h
  · rw [if_pos ‹_›]; omega
  · exact absurd rfl h
theorem addr_le {w : World} {base gm : Nat} {S : Nat → Prop} {s : Ms} {vals : List Int} (h : MemW w base S gm s) : s.addr vals ≤ 4194304 := by
  have := h.size
  unfold Ms.addr
  split <;> omega
/-- What Alloc leaves at Step's call: the leaf's block is none of the memory's. -/
theorem leaf_alloc (base : Nat) (S : Nat → Prop) (g gv gm made : Nat) (s : Ms) (th k v : Int) (w : World) (h : MemW w base S gm s) (hv : ViewAt w gv gm th made) (hsv : S gv) (hbv : base ≤ gv) (hmade : made ≤ 1099511627775) (htr : s.tr.length ≤ 1099511627775) (hL : LeafAt w g 0 0 k v false) (hg : ¬ S g) (hbg : base ≤ g) :
    Calls Try.prog 34 #[.pointer (some ⟨gv, 0, none⟩), .slice (some ⟨(w.setCell ⟨g, 4, none⟩ (.bool true)).heap.size, 0, none⟩) 2 2] ((w.setCell ⟨g, 4, none⟩ (.bool true)).alloc (.cells #[.int .u64 k, .int .u64 v] 33)).drew fun e w' => e = .returned (.int .u64 (s.addr [k, v])) ∧ MemW w' base (fun j => S j ∨ w.heap.size ≤ j) gm (s.alloc th [k, v]) ∧ ViewAt w' gv gm th (made + 1) ∧ LeafAt w' g 0 0 k v true ∧ Kept w w' (fun j => S j ∨ j = g) ∧ Below base w w' := by
  obtain ⟨W, hW⟩ : ∃ W, W = ((w.setCell ⟨g, 4, none⟩ (.bool true)).alloc (.cells #[.int .u64 k, .int .u64 v] 33)).drew := ⟨_, rfl⟩
  have hsz : (w.setCell ⟨g, 4, none⟩ (.bool true)).heap.size = w.heap.size := by simp
  rw [← hW, hsz]
  have hk1 : Kept w (w.setCell ⟨g, 4, none⟩ (.bool true)) (fun j => j = g) := Kept.setCell (S := fun j => j = g) (Kept.refl _ _) (p := ⟨g, 4, none⟩) (.inl rfl) _
  have hk : Kept w W (fun j => j = g) := by rw [hW]; exact (hk1.alloc _).drew
  have hb : Below base w W := by rw [hW]; exact (((Below.refl _ _).setCell (p := ⟨g, 4, none⟩) hbg _).alloc (by have := blk_lt hL; simp; omega) _).drew
  have hblk : W.heap[w.heap.size]? = some (.cells (nums .u64 [k, v]).toArray 33 (0, 0)) := by
    rw [hW]
    have := heap_alloc_new (w.setCell ⟨g, 4, none⟩ (.bool true)) (.cells #[.int .u64 k, .int .u64 v] 33)
    rw [hsz] at this
    exact this
  have hL1 : LeafAt W g 0 0 k v true := by
    have h1 : (w.setCell ⟨g, 4, none⟩ (.bool true)).heap[g]? = _ := blk_set hL 4 _
    have h2 : W.heap[g]? = (w.setCell ⟨g, 4, none⟩ (.bool true)).heap[g]? := by
      rw [hW]; exact (below_alloc (Below.refl _ _) _).block g (by rw [hsz]; exact blk_lt hL)
    exact h2.trans h1
  have hM := (h.far hL hk (by decide) (by decide) (by decide) (by decide))
  have hV : ViewAt W gv gm th made := blk_kept hv hk (fun e => hg (e ▸ hsv))
  have hMb := ((h.bound).kept hk (fun j hj e => hg (e ▸ hj.1)))
  have hlt := blk_lt hv
  refine (valloc_c base (fun j => S j ∧ base ≤ j ∧ j < w.heap.size) gv gm made s th (some ⟨w.heap.size, 0, none⟩) [k, v] 2 W hMb hV ⟨hsv, hbv, hlt⟩ hbv hmade htr (fun W' hk' => C_of_row (blk_kept hblk hk' (fun h => by omega)) (by simp)) (by simp) (by simp)).mono ?_
  rintro e w' ⟨rfl, q1, q2, q3, q4⟩
  refine ⟨rfl, q1.mono (fun j hj => hj.elim (fun h => .inl h.1) (fun h => .inr (Nat.le_trans hk.1 h))), q2, blk_kept hL1 q3 (fun h => hg h.1), ?_, hb.trans q4⟩
  exact (hk.mono (fun j e => .inr e)).then_ q3 (fun j h => .inl (.inl h.1))
def leafW (x : Int) : Int := if x = 0 then 0 else x * 2 + 1
def leafE (x : Int) : Int := if x = 0 then 30 else 0
theorem leaf_done1 {w w' : World} {base g gv gm n : Nat} {S : Nat → Prop} {s : Ms} {th k v : Int} (hbg : base ≤ g) (hg : ¬ S g) (h1 : MemW w' base (fun j => S j ∨ w.heap.size ≤ j) gm s) (h2 : ViewAt w' gv gm th n) (h3 : LeafAt w' g 0 0 k v true) (h4 : Kept w w' (fun j => S j ∨ j = g)) (h5 : Below base w w') :
    MemW (w'.setCell ⟨g, 1, none⟩ (.int .i64 30)) base (fun j => S j ∨ w.heap.size ≤ j) gm s ∧ ViewAt (w'.setCell ⟨g, 1, none⟩ (.int .i64 30)) gv gm th n ∧ LeafAt (w'.setCell ⟨g, 1, none⟩ (.int .i64 30)) g 0 30 k v true ∧ Kept w (w'.setCell ⟨g, 1, none⟩ (.int .i64 30)) (fun j => S j ∨ j = g) ∧ Below base w (w'.setCell ⟨g, 1, none⟩ (.int .i64 30)) := by
  have hk : Kept w' (w'.setCell ⟨g, 1, none⟩ (.int .i64 30)) (fun j => j = g) := Kept.setCell (S := fun j => j = g) (Kept.refl _ _) (p := ⟨g, 1, none⟩) (.inl rfl) _
  exact ⟨h1.far h3 hk (by decide) (by decide) (by decide) (by decide), blk_kept h2 hk (blk_ne h2 h3 (by decide)), (blk_set h3 1 _).trans rfl, h4.then_ hk (fun j e => .inl (.inr e)), h5.setCell hbg _⟩
theorem leaf_done0 {w w' : World} {base g gv gm n : Nat} {S : Nat → Prop} {s : Ms} {th k v x : Int} (hbg : base ≤ g) (hg : ¬ S g) (h1 : MemW w' base (fun j => S j ∨ w.heap.size ≤ j) gm s) (h2 : ViewAt w' gv gm th n) (h3 : LeafAt w' g 0 0 k v true) (h4 : Kept w w' (fun j => S j ∨ j = g)) (h5 : Below base w w') :
    MemW (w'.setCell ⟨g, 0, none⟩ (.int .u64 x)) base (fun j => S j ∨ w.heap.size ≤ j) gm s ∧ ViewAt (w'.setCell ⟨g, 0, none⟩ (.int .u64 x)) gv gm th n ∧ LeafAt (w'.setCell ⟨g, 0, none⟩ (.int .u64 x)) g x 0 k v true ∧ Kept w (w'.setCell ⟨g, 0, none⟩ (.int .u64 x)) (fun j => S j ∨ j = g) ∧ Below base w (w'.setCell ⟨g, 0, none⟩ (.int .u64 x)) := by
  have hk : Kept w' (w'.setCell ⟨g, 0, none⟩ (.int .u64 x)) (fun j => j = g) := Kept.setCell (S := fun j => j = g) (Kept.refl _ _) (p := ⟨g, 0, none⟩) (.inl rfl) _
  exact ⟨h1.far h3 hk (by decide) (by decide) (by decide) (by decide), blk_kept h2 hk (blk_ne h2 h3 (by decide)), (blk_set h3 0 _).trans rfl, h4.then_ hk (fun j e => .inl (.inr e)), h5.setCell hbg _⟩
set_option maxRecDepth 100000 in
set_option maxHeartbeats 4000000 in
theorem leafstep_c (base : Nat) (S : Nat → Prop) (g gv gm made : Nat) (s : Ms) (th k v : Int) (w : World) (h : MemW w base S gm s) (hv : ViewAt w gv gm th made) (hsv : S gv) (hbv : base ≤ gv) (hmade : made ≤ 1099511627775) (htr : s.tr.length ≤ 1099511627775) (hL : LeafAt w g 0 0 k v false) (hg : ¬ S g) (hbg : base ≤ g) :
    Calls Try.prog 11 #[.pointer (some ⟨g, 0, none⟩), .pointer (some ⟨gv, 0, none⟩)] w fun e w' => e = .returned (.bool true) ∧ MemW w' base (fun j => S j ∨ w.heap.size ≤ j) gm (s.alloc th [k, v]) ∧ ViewAt w' gv gm th (made + 1) ∧ LeafAt w' g (leafW (s.addr [k, v])) (leafE (s.addr [k, v])) k v true ∧ Kept w w' (fun j => S j ∨ j = g) ∧ Below base w w' := by
  have c2 := hL.c 2
  have c3 := hL.c 3
  have c4 := hL.c 4
  simp at c2 c3 c4
  have f4 : w.frozen? ⟨g, 4, none⟩ = false := blk_frozen hL 4
  have hgs := blk_lt hL
  have H := Lib.hid h
  have HV := Lib.hid hv
  have HSV := Lib.hid hsv
  have HBV := Lib.hid hbv
  have HMD := Lib.hid hmade
  have HTR := Lib.hid htr
  have HL := Lib.hid hL
  have HG := Lib.hid hg
  have HBG := Lib.hid hbg
  clear h hv hsv hbv hmade htr hL hg hbg
  go_enter Try.func11, Try.ntmps11
  go_wp2_with fail
  obtain ⟨W, hW⟩ : ∃ W, W = w.setCell ⟨g, 4, none⟩ (.bool true) := ⟨_, rfl⟩
  rw [← hW]
  have d2 : W.cell? ⟨g, 2, none⟩ = some (.int .u64 k) := by rw [hW]; exact (blk_cell (blk_set HL.out 4 _) 2).trans rfl
  have d3 : W.cell? ⟨g, 3, none⟩ = some (.int .u64 v) := by rw [hW]; exact (blk_cell (blk_set HL.out 4 _) 3).trans rfl
  have hWs : g < W.heap.size := by rw [hW]; simpa using hgs
  have HW := Lib.hid hW
  clear hW c2 c3 c4 f4
  have HA := Lib.hid (leaf_alloc base S g gv gm made s th k v w H.out HV.out HSV.out HBV.out HMD.out HTR.out HL.out HG.out HBG.out)
  rw [← HW.out] at HA
  clear HW
  by_cases ha : s.addr [k, v] = 0
  · have HA0 := Lib.hid ha
    rw [ha] at HA
    clear ha
    go_region_with (go_at_call 34; refine HA.out.mono ?_; rintro e w' ⟨rfl, hq⟩; have e0 : w'.cell? ⟨g, 1, none⟩ = some (.int .i64 0) := (blk_cell hq.2.2.1 1).trans rfl; have e1 : w'.frozen? ⟨g, 1, none⟩ = false := blk_frozen hq.2.2.1 1; have HQ := Lib.hid hq; clear hq)
    all_goals go_wp2_with fail
    all_goals go_ret
    all_goals refine ⟨rfl, ?_⟩
    all_goals have e5 : leafW (s.addr [k, v]) = 0 := if_pos HA0.out
    all_goals have e6 : leafE (s.addr [k, v]) = 30 := if_pos HA0.out
    all_goals rw [e5, e6]
    all_goals exact leaf_done1 HBG.out HG.out HQ.out.1 HQ.out.2.1 HQ.out.2.2.1 HQ.out.2.2.2.1 HQ.out.2.2.2.2
  · have HA0 := Lib.hid ha
    have hn0 : (s.addr [k, v] == 0) = false := by simpa using ha
    have hp := addr_pos ha
    have hle := addr_le (vals := [k, v]) H.out
    obtain ⟨a, hEA⟩ : ∃ a, a = s.addr [k, v] := ⟨_, rfl⟩
    rw [← hEA] at HA hn0 hp hle
    have HEA := Lib.hid hEA
    clear hEA ha
    go_region_with (go_at_call 34; refine HA.out.mono ?_; rintro e w' ⟨rfl, hq⟩; have e0 : w'.cell? ⟨g, 0, none⟩ = some (.int .u64 0) := (blk_cell hq.2.2.1 0).trans rfl; have e1 : w'.frozen? ⟨g, 0, none⟩ = false := blk_frozen hq.2.2.1 0; have HQ := Lib.hid hq; clear hq)
    all_goals go_wp2_with (go_at_call 35; refine (child1_c a _ hp (by omega)).mono ?_; rintro e w'' ⟨rfl, rfl⟩)
    all_goals go_ret
    all_goals refine ⟨rfl, ?_⟩
    all_goals have e5 : leafW (s.addr [k, v]) = a * 2 + 1 := by rw [HEA.out]; exact if_neg HA0.out
    all_goals have e6 : leafE (s.addr [k, v]) = 0 := if_neg HA0.out
    all_goals rw [e5, e6]
    all_goals exact leaf_done0 HBG.out HG.out HQ.out.1 HQ.out.2.1 HQ.out.2.2.1 HQ.out.2.2.2.1 HQ.out.2.2.2.2
end Go.Proofs.Ytbpkepcbmenbcaa.Ar
