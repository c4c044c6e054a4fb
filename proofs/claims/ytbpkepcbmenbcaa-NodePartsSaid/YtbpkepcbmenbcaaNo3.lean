import Derived.Test.YtbpkepcbmenbcaaNo2
namespace Go.Proofs.Ytbpkepcbmenbcaa.Ar
open Go.RowKit Go.Proofs.YtbpkepcbmenbcaaW.PrintWords Go.Proofs.YtbpkepcbmenbcaaW.PrintLast Go.Proofs.YtbpkepcbmenbcaaW.PrintMore
set_option linter.unusedVariables false
set_option linter.unusedSimpArgs false
/-- A Look. -/
def LookAt (w : World) (g : Nat) (a at_ key pk pv : Int) : Prop := w.heap[g]? = some (.cells #[.int .u64 a, .int .i64 at_, .int .u64 key, .int .u64 pk, .int .u64 pv] 114 (0, 0))
set_option maxRecDepth 100000 in
set_option maxHeartbeats 1000000 in
theorem newlook_c (a : Int) (w : World) :
    Calls Try.prog 15 #[.int .u64 a] w fun e w' => e = .returned (.pointer (some ⟨w.heap.size, 0, none⟩)) ∧ LookAt w' w.heap.size a 0 0 0 0 ∧ Below w.heap.size w w' := by
  go_enter Try.func15, Try.ntmps15
  go_wp2_with fail
  go_ret
  exact ⟨rfl, heap_alloc_new w _, below_alloc (Below.refl _ _) _⟩
/-- A block of another type stands still under a memory's call. -/
theorem keep_S {w w' : World} {S : Nat → Prop} {g : Nat} {o : Obj} (h : w.heap[g]? = some o) (hg : ¬ S g) (hk : Kept w w' S) : w'.heap[g]? = some o := blk_kept h hk hg
theorem look_done0 {w w' : World} {base g gv gm n : Nat} {S : Nat → Prop} {s : Ms} {th a x : Int} (hbg : base ≤ g) (h1 : MemW w' base (fun j => S j ∨ w.heap.size ≤ j) gm s) (h2 : ViewAt w' gv gm th n) (h3 : LookAt w' g a 0 0 0 0) (h4 : Kept w w' S) (h5 : Below base w w') :
    MemW ((w'.setCell ⟨g, 2, none⟩ (.int .u64 x)).setCell ⟨g, 1, none⟩ (.int .i64 1)) base (fun j => S j ∨ w.heap.size ≤ j) gm s ∧ ViewAt ((w'.setCell ⟨g, 2, none⟩ (.int .u64 x)).setCell ⟨g, 1, none⟩ (.int .i64 1)) gv gm th n ∧ LookAt ((w'.setCell ⟨g, 2, none⟩ (.int .u64 x)).setCell ⟨g, 1, none⟩ (.int .i64 1)) g a 1 x 0 0 ∧ Kept w ((w'.setCell ⟨g, 2, none⟩ (.int .u64 x)).setCell ⟨g, 1, none⟩ (.int .i64 1)) (fun j => S j ∨ j = g) ∧ Below base w ((w'.setCell ⟨g, 2, none⟩ (.int .u64 x)).setCell ⟨g, 1, none⟩ (.int .i64 1)) := by
  have hk : Kept w' ((w'.setCell ⟨g, 2, none⟩ (.int .u64 x)).setCell ⟨g, 1, none⟩ (.int .i64 1)) (fun j => j = g) := Kept.setCell (S := fun j => j = g) (Kept.setCell (S := fun j => j = g) (Kept.refl _ _) (p := ⟨g, 2, none⟩) (.inl rfl) _) (p := ⟨g, 1, none⟩) (.inl rfl) _
  exact ⟨h1.far h3 hk (by decide) (by decide) (by decide) (by decide), blk_kept h2 hk (blk_ne h2 h3 (by decide)), (blk_set (blk_set h3 2 _) 1 _).trans rfl, (h4.mono (fun j h => .inl h)).then_ hk (fun j e => .inl (.inr e)), (h5.setCell (p := ⟨g, 2, none⟩) hbg _).setCell (p := ⟨g, 1, none⟩) hbg _⟩
theorem look_done1 {w w' : World} {base g gv gm n : Nat} {S : Nat → Prop} {s : Ms} {th a key x y : Int} (hbg : base ≤ g) (h1 : MemW w' base (fun j => S j ∨ w.heap.size ≤ j) gm s) (h2 : ViewAt w' gv gm th n) (h3 : LookAt w' g a 1 key 0 0) (h4 : Kept w w' S) (h5 : Below base w w') :
    MemW (((w'.setCell ⟨g, 3, none⟩ (.int .u64 x)).setCell ⟨g, 4, none⟩ (.int .u64 y)).setCell ⟨g, 1, none⟩ (.int .i64 2)) base (fun j => S j ∨ w.heap.size ≤ j) gm s ∧ ViewAt (((w'.setCell ⟨g, 3, none⟩ (.int .u64 x)).setCell ⟨g, 4, none⟩ (.int .u64 y)).setCell ⟨g, 1, none⟩ (.int .i64 2)) gv gm th n ∧ LookAt (((w'.setCell ⟨g, 3, none⟩ (.int .u64 x)).setCell ⟨g, 4, none⟩ (.int .u64 y)).setCell ⟨g, 1, none⟩ (.int .i64 2)) g a 2 key x y ∧ Kept w (((w'.setCell ⟨g, 3, none⟩ (.int .u64 x)).setCell ⟨g, 4, none⟩ (.int .u64 y)).setCell ⟨g, 1, none⟩ (.int .i64 2)) (fun j => S j ∨ j = g) ∧ Below base w (((w'.setCell ⟨g, 3, none⟩ (.int .u64 x)).setCell ⟨g, 4, none⟩ (.int .u64 y)).setCell ⟨g, 1, none⟩ (.int .i64 2)) := by
  have hk : Kept w' (((w'.setCell ⟨g, 3, none⟩ (.int .u64 x)).setCell ⟨g, 4, none⟩ (.int .u64 y)).setCell ⟨g, 1, none⟩ (.int .i64 2)) (fun j => j = g) := Kept.setCell (S := fun j => j = g) (Kept.setCell (S := fun j => j = g) (Kept.setCell (S := fun j => j = g) (Kept.refl _ _) (p := ⟨g, 3, none⟩) (.inl rfl) _) (p := ⟨g, 4, none⟩) (.inl rfl) _) (p := ⟨g, 1, none⟩) (.inl rfl) _
  exact ⟨h1.far h3 hk (by decide) (by decide) (by decide) (by decide), blk_kept h2 hk (blk_ne h2 h3 (by decide)), (blk_set (blk_set (blk_set h3 3 _) 4 _) 1 _).trans rfl, (h4.mono (fun j h => .inl h)).then_ hk (fun j e => .inl (.inr e)), ((h5.setCell (p := ⟨g, 3, none⟩) hbg _).setCell (p := ⟨g, 4, none⟩) hbg _).setCell (p := ⟨g, 1, none⟩) hbg _⟩
set_option maxRecDepth 100000 in
set_option maxHeartbeats 4000000 in
theorem lookstep0_c (base : Nat) (S : Nat → Prop) (g gv gm made : Nat) (s : Ms) (th a : Int) (w : World) (h : MemW w base S gm s) (hv : ViewAt w gv gm th made) (hsv : S gv) (hbv : base ≤ gv) (hmade : made ≤ 1099511627775) (htr : s.tr.length ≤ 1099511627775) (hL : LookAt w g a 0 0 0 0) (hg : ¬ S g) (hbg : base ≤ g) (h0 : 0 ≤ a) :
    Calls Try.prog 16 #[.pointer (some ⟨g, 0, none⟩), .pointer (some ⟨gv, 0, none⟩)] w fun e w' => e = .returned (.bool false) ∧ MemW w' base (fun j => S j ∨ w.heap.size ≤ j) gm (s.load th a) ∧ ViewAt w' gv gm th (made + 1) ∧ LookAt w' g a 1 (rd s.cells a) 0 0 ∧ Kept w w' (fun j => S j ∨ j = g) ∧ Below base w w' := by
  have c0 : w.cell? ⟨g, 0, none⟩ = some (.int .u64 a) := (blk_cell hL 0).trans rfl
  have c1 : w.cell? ⟨g, 1, none⟩ = some (.int .i64 0) := (blk_cell hL 1).trans rfl
  have H := Lib.hid h
  have HV := Lib.hid hv
  have HSV := Lib.hid hsv
  have HBV := Lib.hid hbv
  have HMD := Lib.hid hmade
  have HTR := Lib.hid htr
  have HL := Lib.hid hL
  have HG := Lib.hid hg
  have HBG := Lib.hid hbg
  clear h hv hsv hbv hmade htr hL hg hbg
  go_enter Try.func16, Try.ntmps16
  go_wp2_with fail
  go_at_call 38
  refine (vload_c base S gv gm made s th a w H.out HV.out HSV.out HBV.out h0 HMD.out HTR.out).mono ?_
  rintro e w' ⟨rfl, q1, q2, q3, q4⟩
  have q5 : LookAt w' g a 0 0 0 0 := blk_kept HL.out q3 HG.out
  have f1 : w'.frozen? ⟨g, 1, none⟩ = false := blk_frozen q5 1
  have f2 : w'.frozen? ⟨g, 2, none⟩ = false := blk_frozen q5 2
  have c2 : w'.cell? ⟨g, 2, none⟩ = some (.int .u64 0) := (blk_cell q5 2).trans rfl
  have c3 : w'.cell? ⟨g, 1, none⟩ = some (.int .i64 0) := (blk_cell q5 1).trans rfl
  have Q := Lib.hid (And.intro q1 (And.intro q2 (And.intro q3 (And.intro q4 q5))))
  clear q1 q2 q3 q4 q5
  go_wp2_with fail
  go_ret
  exact ⟨rfl, look_done0 HBG.out Q.out.1 Q.out.2.1 Q.out.2.2.2.2 Q.out.2.2.1 Q.out.2.2.2.1⟩
set_option maxRecDepth 100000 in
set_option maxHeartbeats 4000000 in
theorem lookstep1_c (base : Nat) (S : Nat → Prop) (g gv gm made : Nat) (s : Ms) (th a a1 key : Int) (w : World) (h : MemW w base S gm s) (hv : ViewAt w gv gm th made) (hsv : S gv) (hbv : base ≤ gv) (hmade : made ≤ 1099511627775) (htr : s.tr.length ≤ 1099511627775) (hL : LookAt w g a 1 key 0 0) (hg : ¬ S g) (hbg : base ≤ g) (h0 : 0 ≤ a1) (ha : IntKind.u64.wrap (a + 1) = a1) :
    Calls Try.prog 16 #[.pointer (some ⟨g, 0, none⟩), .pointer (some ⟨gv, 0, none⟩)] w fun e w' => e = .returned (.bool true) ∧ MemW w' base (fun j => S j ∨ w.heap.size ≤ j) gm (s.load th a1) ∧ ViewAt w' gv gm th (made + 1) ∧ LookAt w' g a 2 key key (rd s.cells a1) ∧ Kept w w' (fun j => S j ∨ j = g) ∧ Below base w w' := by
  have c0 : w.cell? ⟨g, 0, none⟩ = some (.int .u64 a) := (blk_cell hL 0).trans rfl
  have c1 : w.cell? ⟨g, 1, none⟩ = some (.int .i64 1) := (blk_cell hL 1).trans rfl
  have c2 : w.cell? ⟨g, 2, none⟩ = some (.int .u64 key) := (blk_cell hL 2).trans rfl
  have H := Lib.hid h
  have HV := Lib.hid hv
  have HSV := Lib.hid hsv
  have HBV := Lib.hid hbv
  have HMD := Lib.hid hmade
  have HTR := Lib.hid htr
  have HL := Lib.hid hL
  have HG := Lib.hid hg
  have HBG := Lib.hid hbg
  clear h hv hsv hbv hmade htr hL hg hbg
  go_enter Try.func16, Try.ntmps16
  go_wp2_with fail
  have HD := Lib.hid (H.out.kept (w1 := w.drew) (Kept.drew (Kept.refl _ (fun _ => False))) (fun _ _ h => h))
  have HVD : Hid (ViewAt w.drew gv gm th made) := Lib.hid HV.out
  go_region_with (go_at_call 38; refine (vload_c base S gv gm made s th a1 w.drew HD.out HVD.out HSV.out HBV.out h0 HMD.out HTR.out).mono ?_; rintro e w' ⟨rfl, q1, q2, q3, q4⟩; have q5 : LookAt w' g a 1 key 0 0 := blk_kept (W := w.drew) HL.out q3 HG.out; have d2 : w'.cell? ⟨g, 2, none⟩ = some (.int .u64 key) := (blk_cell q5 2).trans rfl; have d3 : w'.cell? ⟨g, 3, none⟩ = some (.int .u64 0) := (blk_cell q5 3).trans rfl; have d4 : w'.cell? ⟨g, 4, none⟩ = some (.int .u64 0) := (blk_cell q5 4).trans rfl; have d1 : w'.cell? ⟨g, 1, none⟩ = some (.int .i64 1) := (blk_cell q5 1).trans rfl; have f1 : w'.frozen? ⟨g, 1, none⟩ = false := blk_frozen q5 1; have f3 : w'.frozen? ⟨g, 3, none⟩ = false := blk_frozen q5 3; have f4 : w'.frozen? ⟨g, 4, none⟩ = false := blk_frozen q5 4; have Q := Lib.hid (And.intro q1 (And.intro q2 (And.intro q3 (And.intro q4 q5)))); clear q1 q2 q3 q4 q5)
  all_goals go_wp2_with fail
  all_goals go_ret
  all_goals exact ⟨rfl, look_done1 HBG.out Q.out.1 Q.out.2.1 Q.out.2.2.2.2 Q.out.2.2.1 ((below_drew (Below.refl _ _)).trans Q.out.2.2.2.1)⟩
set_option maxRecDepth 100000 in
set_option maxHeartbeats 1000000 in
theorem lookpair_c (g : Nat) (a at_ key pk pv : Int) (w : World) (hL : LookAt w g a at_ key pk pv) :
    Calls Try.prog 17 #[.pointer (some ⟨g, 0, none⟩)] w fun e w' => e = .returned (.agg #[.int .u64 pk, .int .u64 pv]) ∧ Below w.heap.size w w' := by
  have c3 : w.cell? ⟨g, 3, none⟩ = some (.int .u64 pk) := (blk_cell hL 3).trans rfl
  have c4 : w.cell? ⟨g, 4, none⟩ = some (.int .u64 pv) := (blk_cell hL 4).trans rfl
  have hgs := blk_lt hL
  clear hL
  go_enter Try.func17, Try.ntmps17
  go_wp2_with fail
  refine bodyPost_ret (v := .agg #[.int .u64 pk, .int .u64 pv]) (by simp [results, Try.results17, go_sem]) rfl ⟨rfl, ?_⟩
  exact below_alloc (Below.refl _ _) _
end Go.Proofs.Ytbpkepcbmenbcaa.Ar
