import Derived.Test.YtbpkepcbmenbcaaAr2
namespace Go.Proofs.Ytbpkepcbmenbcaa.Ar
open Go.RowKit Go.Proofs.YtbpkepcbmenbcaaW.PrintWords Go.Proofs.YtbpkepcbmenbcaaW.PrintLast Go.Proofs.YtbpkepcbmenbcaaW.PrintMore
set_option linter.unusedVariables false
set_option linter.unusedSimpArgs false
/-- A view. -/
def ViewAt (w : World) (gv gm : Nat) (th : Int) (made : Nat) : Prop := w.heap[gv]? = some (.cells #[.pointer (some ⟨gm, 0, none⟩), .int .i64 th, .int .i64 made] 104 (0, 0))
theorem ViewAt.c0 {w : World} {gv gm made : Nat} {th : Int} (h : ViewAt w gv gm th made) : w.cell? ⟨gv, 0, none⟩ = some (.pointer (some ⟨gm, 0, none⟩)) := by rw [blk_cell h]; rfl
theorem ViewAt.c1 {w : World} {gv gm made : Nat} {th : Int} (h : ViewAt w gv gm th made) : w.cell? ⟨gv, 1, none⟩ = some (.int .i64 th) := by rw [blk_cell h]; rfl
theorem ViewAt.c2 {w : World} {gv gm made : Nat} {th : Int} (h : ViewAt w gv gm th made) : w.cell? ⟨gv, 2, none⟩ = some (.int .i64 made) := by rw [blk_cell h]; rfl
section
variable {w w1 : World} {base : Nat} {S S' K : Nat → Prop} {gm gp gl free : Nat} {vt : Value} {cells : List Int} {tr : List SAcc}
theorem MemAt.mono (h : MemAt w base S gm gp gl vt cells free tr) (hS : ∀ k, S k → S' k) : MemAt w base S' gm gp gl vt cells free tr :=
  ⟨h.blk, h.pl, Kd.R_mono h.tr (fun k hk => ⟨hS k hk.1, hk.2⟩), hS _ h.sm, hS _ h.sp, hS _ h.sl, h.bm, h.bp, h.bl⟩
theorem MemAt.kept (h : MemAt w base S gm gp gl vt cells free tr) (hk : Kept w w1 K) (hK : ∀ k, S k → ¬ K k) : MemAt w1 base S gm gp gl vt cells free tr :=
  ⟨blk_kept h.blk hk (hK _ h.sm), ⟨blk_kept h.pl.blk hk (hK _ h.sp), blk_kept h.pl.row hk (hK _ h.sl), h.pl.len, h.pl.fr⟩, Kd.R_kept h.tr hk (fun k ho => hK k ho.1), h.sm, h.sp, h.sl, h.bm, h.bp, h.bl⟩
/-- A block of another type has been written. -/
theorem MemAt.far (h : MemAt w base S gm gp gl vt cells free tr) {g t : Nat} {cs : Array Value} (hb : w.heap[g]? = some (.cells cs t (0, 0))) (hk : Kept w w1 (fun k => k = g)) (t1 : t ≠ 99) (t2 : t ≠ 102) (t3 : t ≠ 33) (t4 : t ≠ 122) : MemAt w1 base S gm gp gl vt cells free tr := by
  refine ⟨blk_kept h.blk hk (blk_ne h.blk hb t1.symm), ⟨blk_kept h.pl.blk hk (blk_ne h.pl.blk hb t2.symm), blk_kept h.pl.row hk (blk_ne h.pl.row hb t3.symm), h.pl.len, h.pl.fr⟩, ?_, h.sm, h.sp, h.sl, h.bm, h.bp, h.bl⟩
  have h5 := Kd.R_types h.tr hb (fun q hq => by
    rcases List.mem_cons.1 hq with rfl | hq
    · exact t4.symm
    · have h6 : q = 33 := by simpa [kAcc, Kd.iso, Kd.pair, Kd.int, Kd.scalar, Kd.bool, Kd.slice] using hq
      subst h6
      exact t3.symm)
  exact Kd.R_mono (Kd.R_kept h5 hk (fun k hk => hk.2)) (fun _ hk => hk.1)
theorem MemAt.drewN (h : MemAt w base S gm gp gl vt cells free tr) (n : Nat) : MemAt (w.drewN n) base S gm gp gl vt cells free tr :=
  h.kept (Kept.drewN (Kept.refl _ (fun _ => False)) n) (fun _ _ h => h)
/-- The trace has grown. -/
theorem MemAt.noted (h : MemAt w base S gm gp gl vt cells free tr) {v1 : Value} {tr1 : List SAcc} (hR : kAcc.R 122 w1 base (fun k => S k ∧ k ≠ gl) v1 tr1) (hg : w.grownBy w1 vt.ownBlock) : MemAt (w1.setCell ⟨gm, 2, none⟩ v1) base S gm gp gl v1 cells free tr1 := by
  have b1 := blk_grown h.blk hg (Kd.R_ne h.tr h.blk (by decide))
  have b2 := blk_grown h.pl.blk hg (Kd.R_ne h.tr h.pl.blk (by decide))
  have b3 := blk_grown h.pl.row hg (Kd.R_ne h.tr h.pl.row (by decide))
  refine ⟨(blk_set b1 2 _).trans rfl, ⟨blk_far b2 (blk_ne b2 b1 (by decide)) _, blk_far b3 (blk_ne b3 b1 (by decide)) _, h.pl.len, h.pl.fr⟩, Kd.R_set hR b1 (fun q hq => ?_) _ _, h.sm, h.sp, h.sl, h.bm, h.bp, h.bl⟩
  rcases List.mem_cons.1 hq with rfl | hq
  · decide
  · have h6 : q = 33 := by simpa [kAcc, Kd.iso, Kd.pair, Kd.int, Kd.scalar, Kd.bool, Kd.slice] using hq
    subst h6
    decide
end
theorem note_done {w W w1 : World} {base : Nat} {S T : Nat → Prop} {gv gm gp gl free made : Nat} {th : Int} {vt v1 : Value} {cells : List Int} {tr tr1 : List SAcc} (hM : MemAt W base S gm gp gl vt cells free tr) (hV : ViewAt W gv gm th made) (hk : Kept w W (fun k => k = gv)) (hsv : S gv) (hb : Below base w w1)
    (hR : kAcc.R 122 w1 base (fun k => (S k ∨ T k ∨ w.heap.size ≤ k) ∧ k ≠ gl) v1 tr1) (hg : W.grownBy w1 vt.ownBlock) :
    ∃ vt', MemAt (w1.setCell ⟨gm, 2, none⟩ v1) base (fun k => S k ∨ T k ∨ w.heap.size ≤ k) gm gp gl vt' cells free tr1 ∧ ViewAt (w1.setCell ⟨gm, 2, none⟩ v1) gv gm th made ∧ Kept w (w1.setCell ⟨gm, 2, none⟩ v1) S ∧ Below base w (w1.setCell ⟨gm, 2, none⟩ v1) := by
  refine ⟨v1, (hM.mono (fun k hk => .inl hk)).noted hR hg, blk_far (blk_grown hV hg (Kd.R_ne hM.tr hV (by decide))) (blk_ne hV hM.blk (by decide)) _, ?_, hb.setCell hM.bm _⟩
  exact (Kept.of_grown hg (hk.mono (fun k e => by rw [e]; exact hsv)) (fun k e => .inl (hM.tr.1 k e).1)).setCell (.inl hM.sm) _
set_option maxRecDepth 100000 in
set_option maxHeartbeats 4000000 in
theorem note_c (base : Nat) (S T : Nat → Prop) (gv gm gp gl free made : Nat) (vt : Value) (cells : List Int) (tr : List SAcc) (th xt xk xa xA xB xg : Int) (xv : List Int) (xo : Bool) (v5 : Value) (w : World) (h : MemAt w base S gm gp gl vt cells free tr) (hv : ViewAt w gv gm th made) (hsv : S gv) (hbv : base ≤ gv)
    (hx : (Kd.int .u64).R 33 w base T v5 xv) (hT : ∀ k, T k → k ≠ gl) (hmade : made ≤ 1099511627775) (htr : tr.length ≤ 1099511627775) :
    Calls Try.prog 51 #[.pointer (some ⟨gv, 0, none⟩), .agg #[.int .i64 xt, .int .u8 xk, .int .u64 xa, .int .u64 xA, .int .u64 xB, v5, .int .u64 xg, .bool xo]] w fun e w' => e = .returned (.tuple #[]) ∧ ∃ vt', MemAt w' base (fun k => S k ∨ T k ∨ w.heap.size ≤ k) gm gp gl vt' cells free (tr ++ [⟨th, xk, xa, xA, xB, xv, xg, xo⟩]) ∧ ViewAt w' gv gm th (made + 1) ∧ Kept w w' S ∧ Below base w w' := by
  have h0 := hv.c0
  have h1 := hv.c1
  have h2 := hv.c2
  have h3 := h.c1
  have h4 := h.c2
  have h5 : w.frozen? ⟨gv, 2, none⟩ = false := blk_frozen hv 2
  have h6 : gm ≠ gv := blk_ne h.blk hv (by decide)
  have h7 : gv ≠ gm := fun e => h6 e.symm
  have h8 : gv < w.heap.size := blk_lt hv
  have h9 : gm < w.heap.size := blk_lt h.blk
  have hm : (made : Int) ≤ 1099511627775 := by omega
  have H := Lib.hid h
  have HV := Lib.hid hv
  have HX := Lib.hid hx
  have HT := Lib.hid htr
  have HSV := Lib.hid hsv
  have HBV := Lib.hid hbv
  have HTL := Lib.hid hT
  clear h hv hx htr hmade hsv hbv hT
  go_enter Try.func51, Try.ntmps51
  go_wp2_with fail
  obtain ⟨W, hW⟩ : ∃ W, W = (w.setCell ⟨gv, 2, none⟩ (.int .i64 ((made : Int) + 1))).alloc (.cells #[.int .i64 th, .int .u8 xk, .int .u64 xa, .int .u64 xA, .int .u64 xB, v5, .int .u64 xg, .bool xo] 122) := ⟨_, rfl⟩
  rw [← hW]
  have hk1 : Kept w (w.setCell ⟨gv, 2, none⟩ (.int .i64 ((made : Int) + 1))) (fun k => k = gv) := Kept.setCell (S := fun k => k = gv) (Kept.refl _ _) (p := ⟨gv, 2, none⟩) (.inl rfl) _
  have hk : Kept w W (fun k => k = gv) := by rw [hW]; exact hk1.alloc _
  have hb : Below base w W := by rw [hW]; exact ((Below.refl _ _).setCell (p := ⟨gv, 2, none⟩) HBV.out _).alloc (by have := HBV.out; simp; omega) _
  have hM := H.out.far HV.out hk (by decide) (by decide) (by decide) (by decide)
  have hn : W.heap[w.heap.size]? = some (.cells #[.int .i64 th, .int .u8 xk, .int .u64 xa, .int .u64 xA, .int .u64 xB, v5, .int .u64 xg, .bool xo] 122 (0, 0)) := by
    rw [hW]
    have := heap_alloc_new (w.setCell ⟨gv, 2, none⟩ (.int .i64 ((made : Int) + 1))) (.cells #[.int .i64 th, .int .u8 xk, .int .u64 xa, .int .u64 xA, .int .u64 xB, v5, .int .u64 xg, .bool xo] 122)
    rw [show (w.setCell ⟨gv, 2, none⟩ (.int .i64 ((made : Int) + 1))).heap.size = w.heap.size by simp] at this
    exact this
  have hV1 : ViewAt W gv gm th (made + 1) := by
    have : (w.setCell ⟨gv, 2, none⟩ (.int .i64 ((made : Int) + 1))).heap[gv]? = _ := blk_set HV.out 2 _
    have h10 : W.heap[gv]? = (w.setCell ⟨gv, 2, none⟩ (.int .i64 ((made : Int) + 1))).heap[gv]? := by
      rw [hW]; exact (below_alloc (Below.refl _ _) _).block gv (by simpa using h8)
    exact h10.trans this
  have hX1 : (Kd.int .u64).R 33 W base T v5 xv := Kd.R_mono (Kd.R_kept (Kd.R_types HX.out HV.out (fun q hq => by
    have h6 : q = 33 := by simpa [Kd.int, Kd.scalar] using hq
    subst h6
    decide)) hk (fun k hk => hk.2)) (fun _ hk => hk.1)
  have hap := Kd.R_apartR hX1 hM.tr (fun q hq => by
    have h6 : q = 33 := by simpa [Kd.int, Kd.scalar] using hq
    subst h6
    decide)
  have hp : kAcc.M W base (fun k => T k ∧ some k ≠ vt.ownBlock) ⟨th, xk, xa, xA, xB, xv, xg, xo⟩ [.int .i64 th, .int .u8 xk, .int .u64 xa, .int .u64 xA, .int .u64 xB, v5, .int .u64 xg, .bool xo] := kAcc_mkM _ _ _ ⟨th, xk, xa, xA, xB, xv, xg, xo⟩ hap
  have hgl : gl < w.heap.size := blk_lt H.out.pl.row
  have hWs : w.heap.size ≤ W.heap.size := hk.1
  have HR : Hid (kAcc.R 122 W base (fun k => (S k ∨ T k ∨ w.heap.size ≤ k) ∧ k ≠ gl) vt tr) := Lib.hid (Kd.R_mono hM.tr (fun k hk => ⟨.inl hk.1, hk.2⟩))
  have HP := Lib.hid hp
  have HM := Lib.hid hM
  have HK := Lib.hid hk
  have HB := Lib.hid hb
  have HV1 := Lib.hid hV1
  have HGL := Lib.hid hgl
  have HWS := Lib.hid hWs
  have hgm : gm < W.heap.size := blk_lt hM.blk
  have hgv : gv < W.heap.size := blk_lt hV1
  have g0 := hV1.c0
  have g2 := hM.c2
  have n0 : W.cell? ⟨w.heap.size, 0, none⟩ = some (.int .i64 th) := by rw [blk_cell hn]; rfl
  have n1 : W.cell? ⟨w.heap.size, 1, none⟩ = some (.int .u8 xk) := by rw [blk_cell hn]; rfl
  have n2 : W.cell? ⟨w.heap.size, 2, none⟩ = some (.int .u64 xa) := by rw [blk_cell hn]; rfl
  have n3 : W.cell? ⟨w.heap.size, 3, none⟩ = some (.int .u64 xA) := by rw [blk_cell hn]; rfl
  have n4 : W.cell? ⟨w.heap.size, 4, none⟩ = some (.int .u64 xB) := by rw [blk_cell hn]; rfl
  have n5 : W.cell? ⟨w.heap.size, 5, none⟩ = some v5 := by rw [blk_cell hn]; rfl
  have n6 : W.cell? ⟨w.heap.size, 6, none⟩ = some (.int .u64 xg) := by rw [blk_cell hn]; rfl
  have n7 : W.cell? ⟨w.heap.size, 7, none⟩ = some (.bool xo) := by rw [blk_cell hn]; rfl
  clear hW hk1 hk hb hM hn hV1 hX1 hap hp hgl hWs h0 h1 h2 h3 h4 h5 hm h8 h9
  go_region_law (refine step_R kAcc (w0 := w) (W := W) base (by rfl) (.tmp 34) (.tmp 36) 75 122 (.agg #[.int .i64 0, .int .u8 0, .int .u64 0, .int .u64 0, .int .u64 0, .slice none 0 0, .int .u64 0, .bool false]) 80 rfl Try.underlying75 infoAcc rfl (by decide) (by omega) vt tr ⟨th, xk, xa, xA, xB, xv, xg, xo⟩ [.int .i64 th, .int .u8 xk, .int .u64 xa, .int .u64 xA, .int .u64 xB, v5, .int .u64 xg, .bool xo] (fun k => (S k ∨ T k ∨ w.heap.size ≤ k) ∧ k ≠ gl) (fun k => T k ∧ some k ≠ vt.ownBlock) rfl rfl HP.out (fun k hk => ⟨⟨.inr (.inl hk.1), HTL.out k hk.1⟩, hk.2⟩) (fun k hk => ⟨.inr (.inr (by have := HWS.out; omega)), by have := HGL.out; have := HWS.out; omega⟩) HR.out HB.out (by have := HBV.out; omega) (by have := HT.out; omega) ?_; intro v1 w1 hR1 hB1 hG1 hat; obtain ⟨A1, c1, rfl⟩ := Kd.R_slice hR1; simp only [List.length_append, List.length_cons, List.length_nil, Nat.zero_add] at hR1; have hX1 := blk_grown HM.out.blk hG1 (Kd.R_ne HM.out.tr HM.out.blk (by decide)); have hgc1 : w1.cell? ⟨gm, 2, none⟩ = some vt := (blk_cell hX1 2).trans rfl; have hgf1 : w1.frozen? ⟨gm, 2, none⟩ = false := blk_frozen hX1 2; have hgc0 : w1.cell? ⟨gv, 0, none⟩ = some (.pointer (some ⟨gm, 0, none⟩)) := (blk_cell (blk_grown HV1.out hG1 (Kd.R_ne HM.out.tr HV1.out (by decide))) 0).trans rfl; have HR1 := Lib.hid hR1; have HB1 := Lib.hid hB1; have HG1 := Lib.hid hG1; clear hX1 hR1 hB1 hG1 hat)
  all_goals go_end0
  all_goals exact ⟨rfl, note_done HM.out HV1.out HK.out HSV.out HB1.out HR1.out HG1.out⟩
end Go.Proofs.Ytbpkepcbmenbcaa.Ar
