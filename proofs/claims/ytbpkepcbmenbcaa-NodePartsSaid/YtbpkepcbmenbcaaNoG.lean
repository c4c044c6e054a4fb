import Derived.Test.YtbpkepcbmenbcaaNoF
import Derived.StillTailTactics
namespace Go.Proofs.Ytbpkepcbmenbcaa.Ar
open Go.RowKit Go.Proofs.YtbpkepcbmenbcaaW.PrintWords Go.Proofs.YtbpkepcbmenbcaaW.PrintLast Go.Proofs.YtbpkepcbmenbcaaW.PrintMore
set_option linter.unusedVariables false
set_option linter.unusedSimpArgs false
/-- The cells of a Fork's next branch. -/
def Fk.one (f : Fk) : List Int := (List.replicate 64 (0 : Int)).set (digF f.ha f.level).toNat f.x
def Fk.cells (f : Fk) : List Int := if f.y = 0 then f.one else f.one.set (digF f.hb f.level).toNat f.y
theorem Fk.one_len (f : Fk) : f.one.length = 64 := by simp [Fk.one]
theorem Fk.cells_len (f : Fk) : f.cells.length = 64 := by unfold Fk.cells; split <;> simp [Fk.one]
def Fk.step3 (f : Fk) (a : Int) : Fk := if a = 0 then { f with wd := 0, er := 30, at_ := 5 } else { f with wd := a * 2, y := 0, at_ := if f.level = f.top then 5 else 4 }
def Fk.fin (f : Fk) : Bool := f.at_ == 5
/-- Only draws. -/
def Dr (W w' : World) : Prop := ∃ m, w' = W.drewN m
/-- An array's block. -/
def ArrAt (w : World) (ga : Nat) (xs : List Int) : Prop := w.heap[ga]? = some (.cells (nums .u64 xs).toArray 136 (0, 0))
theorem ArrAt.set {w : World} {ga : Nat} {xs : List Int} (h : ArrAt w ga xs) (i : Nat) (x : Int) : ArrAt (w.setCell ⟨ga, i, none⟩ (.int .u64 x)) ga (xs.set i x) := by
  have := blk_set h i (.int .u64 x)
  unfold ArrAt
  rw [this]
  congr 2
  simp [nums, List.map_set]
theorem ArrAt.at_ {w : World} {ga : Nat} {xs : List Int} (h : ArrAt w ga xs) (i : Int) (h0 : 0 ≤ i) (hi : i < xs.length) : w.cell? ⟨ga, i.toNat, none⟩ = some (.int .u64 (rd xs i)) := by
  rw [blk_cell h]
  have hlt : i.toNat < xs.length := by omega
  simp [nums, rd, hlt]
/-- fresh of an array's cells. -/
theorem fresh_arr (base : Nat) (S : Nat → Prop) (g gv gm made : Nat) (s : Ms) (th : Int) (f : Fk) (ga : Nat) (xs : List Int) (w W : World) (h : MemW w base S gm s) (hv : ViewAt w gv gm th made) (hsv : S gv) (hbv : base ≤ gv) (hmade : made ≤ 1099511627775) (htr : s.tr.length ≤ 1099511627775) (hF : ForkAt w g f) (hg : ¬ S g) (hbg : base ≤ g)
    (hk : Kept w W (fun _ => False)) (hb : Below base w W) (hA : ArrAt W ga xs) (hga : w.heap.size ≤ ga) (hxl : xs.length = 64) :
    Calls Try.prog 40 #[.pointer (some ⟨g, 0, none⟩), .pointer (some ⟨gv, 0, none⟩), .slice (some ⟨ga, 0, none⟩) 64 64] W fun e w' => e = .returned (.int .u64 (s.addr xs)) ∧ MemW w' base (fun j => S j ∨ w.heap.size ≤ j) gm (s.alloc th xs) ∧ ViewAt w' gv gm th (made + 1) ∧ ForkAt w' g (f.fresh (s.addr xs)) ∧ Kept w w' (fun j => S j ∨ j = g) ∧ Below base w w' := by
  have hlt := blk_lt hv
  have hgt := blk_lt hF
  have hfc := fresh_c base (fun j => S j ∧ base ≤ j ∧ j < w.heap.size) g gv gm made s th f (some ⟨ga, 0, none⟩) xs 64 W (h.bound.kept hk (fun _ _ h => h)) (blk_kept hv hk (fun h => h)) ⟨hsv, hbv, hlt⟩ hbv hmade htr (hF.kept hk (fun h => h)) (fun h => hg h.1) hbg (fun W' hk' => C_of_row (blk_kept hA hk' (fun h => by omega)) (by omega)) (by omega) (by omega)
  rw [hxl] at hfc
  refine hfc.mono ?_
  rintro e w' ⟨rfl, q1, q2, q3, q4, q5⟩
  refine ⟨rfl, q1.mono (fun j hj => hj.elim (fun h => .inl h.1) (fun h => .inr (Nat.le_trans hk.1 h))), q2, q3, ?_, hb.trans q5⟩
  exact (hk.mono (S' := fun j => S j ∨ j = g) (fun j e => e.elim)).then_ q4 (fun j h => .inl (h.elim (fun h => .inl h.1) .inr))
theorem digit_q (h l : Int) (w : World) (hh : isU h) : Calls Try.prog 23 #[.int .u64 h, .int .i64 l] w fun e w' => e = .returned (.int .i64 (digF h l)) ∧ w' = w := (digit_c h l w hh).mono fun _ _ h => ⟨h.1, h.2.symm⟩
set_option maxRecDepth 100000 in
set_option maxHeartbeats 8000000 in
theorem branch_c (base : Nat) (S : Nat → Prop) (g gv gm made : Nat) (s : Ms) (th : Int) (f : Fk) (w : World) (h : MemW w base S gm s) (hv : ViewAt w gv gm th made) (hsv : S gv) (hbv : base ≤ gv) (hmade : made ≤ 1099511627775) (htr : s.tr.length ≤ 1099511627775) (hF : ForkAt w g f) (hg : ¬ S g) (hbg : base ≤ g) (hat : f.at_ = 3) (hua : isU f.ha) (hub : isU f.hb) :
    Calls Try.prog 41 #[.pointer (some ⟨g, 0, none⟩), .pointer (some ⟨gv, 0, none⟩)] w fun e w' => e = .returned (.tuple #[]) ∧ MemW w' base (fun j => S j ∨ w.heap.size ≤ j) gm (s.alloc th f.cells) ∧ ViewAt w' gv gm th (made + 1) ∧ ForkAt w' g (f.step3 (s.addr f.cells)) ∧ Kept w w' (fun j => S j ∨ j = g) ∧ Below base w w' := by
  have H := Lib.hid h
  have HV := Lib.hid hv
  have HSV := Lib.hid hsv
  have HBV := Lib.hid hbv
  have HMD := Lib.hid hmade
  have HTR := Lib.hid htr
  have HF := Lib.hid hF
  have HG := Lib.hid hg
  have HBG := Lib.hid hbg
  have HUA := Lib.hid hua
  have HUB := Lib.hid hub
  have HAT := Lib.hid hat
  clear h hv hsv hbv hmade htr hF hg hbg hat hua hub
  go_enter Try.func41, Try.ntmps41
  go_wp2_with fail
  obtain ⟨W1, hW1⟩ : ∃ W, W = w.alloc (.cells (nums .u64 (List.replicate 64 0)).toArray 136) := ⟨_, rfl⟩
  change Code.wp _ _ _ _ (w.alloc (.cells (nums .u64 (List.replicate 64 0)).toArray 136))
  rw [← hW1]
  obtain ⟨ga, hga⟩ : ∃ ga, ga = w.heap.size := ⟨_, rfl⟩
  rw [← hga]
  obtain ⟨xs1, hxs1⟩ : ∃ xs, xs = List.replicate 64 (0 : Int) := ⟨_, rfl⟩
  have GA : Hid (w.heap.size ≤ ga) := Lib.hid (by omega)
  have GB : Hid (base ≤ ga) := Lib.hid (by have := blk_lt HF.out; have := HBG.out; omega)
  have K1 : Hid (Kept w W1 (fun _ => False)) := Lib.hid (by rw [hW1]; exact (Kept.refl _ _).alloc _)
  have B1 : Hid (Below base w W1) := Lib.hid (by rw [hW1]; exact (Below.refl _ _).alloc (by have := blk_lt HF.out; have := HBG.out; omega) _)
  have A1 : Hid (ArrAt W1 ga xs1) := Lib.hid (by rw [hW1, hga, hxs1]; exact heap_alloc_new w _)
  have F1 : Hid (ForkAt W1 g f) := Lib.hid (HF.out.kept K1.out (fun h => h))
  have XL1 : Hid (xs1.length = 64) := Lib.hid (by rw [hxs1, List.length_replicate])
  have XE1 := Lib.hid hxs1
  clear hW1 hga hxs1
  have c10 : W1.cell? ⟨g, 10, none⟩ = some (.int .u64 f.y) := (F1.out.c 10).trans rfl
  have hne : g ≠ ga := by have := blk_lt HF.out; have := GA.out; omega
  have hne2 : ga ≠ g := fun e => hne e.symm
  by_cases hy : f.y = 0
  · have hyb : (f.y != 0) = false := by simp [hy]
    have HY := Lib.hid hy
    clear hy
    have p1 : W1.cell? ⟨g, 3, none⟩ = some (.int .u64 f.ha) := (F1.out.c 3).trans rfl
    have p2 : W1.cell? ⟨g, 7, none⟩ = some (.int .i64 f.level) := (F1.out.c 7).trans rfl
    have p3 : W1.cell? ⟨g, 9, none⟩ = some (.int .u64 f.x) := (F1.out.c 9).trans rfl
    have hdr := digF_range f.ha f.level
    have hd1 : 0 ≤ digF f.ha f.level := hdr.1
    have hd2 : digF f.ha f.level < 64 := hdr.2
    have hd3 : (digF f.ha f.level).toNat < 64 := by omega
    clear hdr
    obtain ⟨z1, hz⟩ : ∃ z, z = rd xs1 (digF f.ha f.level) := ⟨_, rfl⟩
    have p4 : W1.cell? ⟨ga, (digF f.ha f.level).toNat, none⟩ = some (.int .u64 z1) := by rw [hz]; exact A1.out.at_ _ hd1 (by rw [XL1.out]; omega)
    have p5 : W1.frozen? ⟨ga, (digF f.ha f.level).toNat, none⟩ = false := blk_frozen A1.out _
    clear hz
    refine wp_region_still_tail 14 (by kernel_rfl) (by kernel_rfl) ?_
    simp only [List.take_succ_cons, List.take_zero, List.drop_succ_cons, List.drop_zero]
    repeat still_step
    still_call (digit_q _ _ _ HUA.out)
    repeat still_step
    refine wpStill_nil ?_
    change wpList _ _ _ _ _ W1.drew
    go_wp2_with fail
    obtain ⟨W2, hW2⟩ : ∃ W', W' = (W1.setCell ⟨ga, (digF f.ha f.level).toNat, none⟩ (.int .u64 f.x)).drew := ⟨_, rfl⟩
    obtain ⟨xs2, hxs2⟩ : ∃ xs', xs' = xs1.set (digF f.ha f.level).toNat f.x := ⟨_, rfl⟩
    have K2 : Hid (Kept w W2 (fun _ => False)) := Lib.hid (by rw [hW2]; exact (K1.out.setCell (p := ⟨ga, _, none⟩) (.inr GA.out) _).drew)
    have B2 : Hid (Below base w W2) := Lib.hid (by rw [hW2]; exact below_drew (B1.out.setCell (p := ⟨ga, _, none⟩) GB.out _))
    have A2 : Hid (ArrAt W2 ga xs2) := Lib.hid (by rw [hW2, hxs2]; exact ArrAt.set A1.out _ _)
    have F2 : Hid (ForkAt W2 g f) := Lib.hid (HF.out.kept K2.out (fun h => h))
    have XL2 : Hid (xs2.length = 64) := Lib.hid (by rw [hxs2, List.length_set]; exact XL1.out)
    have XE2 := Lib.hid hxs2
    rw [← hW2]
    clear hW2 hxs2 p1 p2 p3 p4 p5 hd1 hd2 hd3
    go_at_call 40
    refine (fresh_arr base S g gv gm made s th f ga xs2 w W2 H.out HV.out HSV.out HBV.out HMD.out HTR.out HF.out HG.out HBG.out K2.out B2.out A2.out GA.out XL2.out).mono ?_
    rintro e w' ⟨rfl, q⟩
    have hcl : xs2 = f.cells := by rw [XE2.out, XE1.out]; exact (if_pos HY.out).symm
    rw [hcl] at q ⊢
    obtain ⟨a, hEA⟩ : ∃ a, a = s.addr f.cells := ⟨_, rfl⟩
    rw [← hEA] at q ⊢
    have hle : a ≤ 4194304 := by rw [hEA]; exact addr_le H.out
    have hpo : ¬ a = 0 → 1 ≤ a := by rw [hEA]; exact addr_pos
    have HEA := Lib.hid hEA
    clear hEA hcl
    have HQ := Lib.hid q
    clear q
    by_cases ha : a = 0
    · subst ha
      have e3 : f.step3 0 = f.fresh 0 := rfl
      have E3 := Lib.hid e3
      clear e3 hle hpo
      go_wp2_with fail
      ((try simp only [Exit.inBlock, Exit.then]); refine bodyPost_ret (results_none rfl _ _ _) rfl ?_)
      exact ⟨rfl, by rw [← HEA.out, E3.out]; exact HQ.out⟩
    · have hb : (a == 0) = false := by simpa using ha
      have hp := hpo ha
      have q6 : ForkAt w' g f := by
        have h5 := HQ.out.2.2.1
        have e : f.fresh a = f := if_neg ha
        rw [e] at h5
        exact h5
      have E3 : Hid (f.step3 a = { f with wd := a * 2, y := 0, at_ := if f.level = f.top then 5 else 4 }) := Lib.hid (if_neg ha)
      have Q6 := Lib.hid q6
      have d0 : w'.cell? ⟨g, 0, none⟩ = some (.int .u64 f.wd) := (q6.c 0).trans rfl
      have d10 : w'.cell? ⟨g, 10, none⟩ = some (.int .u64 f.y) := (q6.c 10).trans rfl
      have d8 : w'.cell? ⟨g, 8, none⟩ = some (.int .i64 f.at_) := (q6.c 8).trans rfl
      have d7 : w'.cell? ⟨g, 7, none⟩ = some (.int .i64 f.level) := (q6.c 7).trans rfl
      have d6 : w'.cell? ⟨g, 6, none⟩ = some (.int .i64 f.top) := (q6.c 6).trans rfl
      have e0 : w'.frozen? ⟨g, 0, none⟩ = false := blk_frozen q6 0
      have e10 : w'.frozen? ⟨g, 10, none⟩ = false := blk_frozen q6 10
      have e8 : w'.frozen? ⟨g, 8, none⟩ = false := blk_frozen q6 8
      clear ha hpo q6
      go_wp2_with (go_at_call 35; refine (child2_c a _ hp (by omega)).mono ?_; rintro e w'' ⟨rfl, rfl⟩)
      obtain ⟨W9, hW9⟩ : ∃ W, W = ((w'.setCell ⟨g, 0, none⟩ (.int .u64 (a * 2))).setCell ⟨g, 10, none⟩ (.int .u64 0)).setCell ⟨g, 8, none⟩ (.int .i64 4) := ⟨_, rfl⟩
      rw [← hW9]
      have hk9 : Kept w' W9 (fun j => j = g) := by rw [hW9]; exact Kept.setCell (S := fun j => j = g) (Kept.setCell (S := fun j => j = g) (Kept.setCell (S := fun j => j = g) (Kept.refl _ _) (p := ⟨g, 0, none⟩) (.inl rfl) _) (p := ⟨g, 10, none⟩) (.inl rfl) _) (p := ⟨g, 8, none⟩) (.inl rfl) _
      have F9 : ForkAt W9 g { f with wd := a * 2, y := 0, at_ := 4 } := by rw [hW9]; exact ((Q6.out.set 0 _ (f' := { f with wd := a * 2 }) rfl).set 10 _ (f' := { f with wd := a * 2, y := 0 }) rfl).set 8 _ rfl
      have B9 : Below base w W9 := by rw [hW9]; exact ((HQ.out.2.2.2.2.setCell (p := ⟨g, 0, none⟩) HBG.out _).setCell (p := ⟨g, 10, none⟩) HBG.out _).setCell (p := ⟨g, 8, none⟩) HBG.out _
      have M9 := HQ.out.1.far Q6.out hk9 (by decide) (by decide) (by decide) (by decide)
      have V9 : ViewAt W9 gv gm th (made + 1) := blk_kept HQ.out.2.1 hk9 (blk_ne HQ.out.2.1 Q6.out (by decide))
      have KK9 : Kept w W9 (fun j => S j ∨ j = g) := HQ.out.2.2.2.1.then_ hk9 (fun j e => .inl (.inr e))
      have m6 : W9.cell? ⟨g, 6, none⟩ = some (.int .i64 f.top) := (F9.c 6).trans rfl
      have m7 : W9.cell? ⟨g, 7, none⟩ = some (.int .i64 f.level) := (F9.c 7).trans rfl
      have m8 : W9.cell? ⟨g, 8, none⟩ = some (.int .i64 4) := (F9.c 8).trans rfl
      have n8 : W9.frozen? ⟨g, 8, none⟩ = false := blk_frozen F9 8
      have G1 := Lib.hid F9
      have G2 := Lib.hid B9
      have G3 := Lib.hid M9
      have G4 := Lib.hid V9
      have G5 := Lib.hid KK9
      clear hW9 hk9 F9 B9 M9 V9 KK9 d0 d10 d8 d7 d6 e0 e10 e8
      by_cases ht : f.level = f.top
      · have htb : (f.level == f.top) = true := by simp [ht]
        have E4 : Hid (f.step3 a = { f with wd := a * 2, y := 0, at_ := 5 }) := Lib.hid (by rw [E3.out, if_pos ht])
        clear ht
        go_quiet (fail)
        go_wp2_with fail
        first | go_end0 | ((try simp only [Exit.inBlock, Exit.then]); refine bodyPost_ret (results_none rfl _ _ _) rfl ?_)
        refine ⟨rfl, ?_⟩
        rw [← HEA.out, E4.out]
        have hk : Kept W9 ((W9.setCell ⟨g, 8, none⟩ (.int .i64 5)).drewN nq) (fun j => j = g) := (Kept.setCell (S := fun j => j = g) (Kept.refl _ _) (p := ⟨g, 8, none⟩) (.inl rfl) _).drewN _
        exact ⟨G3.out.far G1.out hk (by decide) (by decide) (by decide) (by decide), blk_kept G4.out hk (blk_ne G4.out G1.out (by decide)), G1.out.set 8 _ rfl, G5.out.then_ hk (fun j e => .inl (.inr e)), pw_below_drewN (G2.out.setCell (p := ⟨g, 8, none⟩) HBG.out _) _⟩
      · have htb : (f.level == f.top) = false := by simpa using ht
        have E4 : Hid (f.step3 a = { f with wd := a * 2, y := 0, at_ := 4 }) := Lib.hid (by rw [E3.out, if_neg ht])
        clear ht
        go_quiet (fail)
        go_wp2_with fail
        first | go_end0 | ((try simp only [Exit.inBlock, Exit.then]); refine bodyPost_ret (results_none rfl _ _ _) rfl ?_)
        refine ⟨rfl, ?_⟩
        rw [← HEA.out, E4.out]
        have hk : Kept W9 (W9.drewN nq) (fun j => j = g) := (Kept.refl _ _).drewN _
        exact ⟨G3.out.far G1.out hk (by decide) (by decide) (by decide) (by decide), blk_kept G4.out hk (blk_ne G4.out G1.out (by decide)), G1.out, G5.out.then_ hk (fun j e => .inl (.inr e)), pw_below_drewN G2.out _⟩
  · have hyb : (f.y != 0) = true := by simpa using hy
    have HY := Lib.hid hy
    clear hy
    have p1 : W1.cell? ⟨g, 3, none⟩ = some (.int .u64 f.ha) := (F1.out.c 3).trans rfl
    have p2 : W1.cell? ⟨g, 7, none⟩ = some (.int .i64 f.level) := (F1.out.c 7).trans rfl
    have p3 : W1.cell? ⟨g, 9, none⟩ = some (.int .u64 f.x) := (F1.out.c 9).trans rfl
    have hdr := digF_range f.ha f.level
    have hd1 : 0 ≤ digF f.ha f.level := hdr.1
    have hd2 : digF f.ha f.level < 64 := hdr.2
    have hd3 : (digF f.ha f.level).toNat < 64 := by omega
    clear hdr
    obtain ⟨z1, hz⟩ : ∃ z, z = rd xs1 (digF f.ha f.level) := ⟨_, rfl⟩
    have p4 : W1.cell? ⟨ga, (digF f.ha f.level).toNat, none⟩ = some (.int .u64 z1) := by rw [hz]; exact A1.out.at_ _ hd1 (by rw [XL1.out]; omega)
    have p5 : W1.frozen? ⟨ga, (digF f.ha f.level).toNat, none⟩ = false := blk_frozen A1.out _
    clear hz
    refine wp_region_still_tail 14 (by kernel_rfl) (by kernel_rfl) ?_
    simp only [List.take_succ_cons, List.take_zero, List.drop_succ_cons, List.drop_zero]
    repeat still_step
    still_call (digit_q _ _ _ HUA.out)
    repeat still_step
    refine wpStill_nil ?_
    change wpList _ _ _ _ _ W1.drew
    go_wp2_with fail
    obtain ⟨W2, hW2⟩ : ∃ W', W' = (W1.setCell ⟨ga, (digF f.ha f.level).toNat, none⟩ (.int .u64 f.x)).drew := ⟨_, rfl⟩
    obtain ⟨xs2, hxs2⟩ : ∃ xs', xs' = xs1.set (digF f.ha f.level).toNat f.x := ⟨_, rfl⟩
    have K2 : Hid (Kept w W2 (fun _ => False)) := Lib.hid (by rw [hW2]; exact (K1.out.setCell (p := ⟨ga, _, none⟩) (.inr GA.out) _).drew)
    have B2 : Hid (Below base w W2) := Lib.hid (by rw [hW2]; exact below_drew (B1.out.setCell (p := ⟨ga, _, none⟩) GB.out _))
    have A2 : Hid (ArrAt W2 ga xs2) := Lib.hid (by rw [hW2, hxs2]; exact ArrAt.set A1.out _ _)
    have F2 : Hid (ForkAt W2 g f) := Lib.hid (HF.out.kept K2.out (fun h => h))
    have XL2 : Hid (xs2.length = 64) := Lib.hid (by rw [hxs2, List.length_set]; exact XL1.out)
    have XE2 := Lib.hid hxs2
    rw [← hW2]
    clear hW2 hxs2 p1 p2 p3 p4 p5 hd1 hd2 hd3
    have p1 : W2.cell? ⟨g, 5, none⟩ = some (.int .u64 f.hb) := (F2.out.c 5).trans rfl
    have p2 : W2.cell? ⟨g, 7, none⟩ = some (.int .i64 f.level) := (F2.out.c 7).trans rfl
    have p3 : W2.cell? ⟨g, 10, none⟩ = some (.int .u64 f.y) := (F2.out.c 10).trans rfl
    have hdr := digF_range f.hb f.level
    have hd1 : 0 ≤ digF f.hb f.level := hdr.1
    have hd2 : digF f.hb f.level < 64 := hdr.2
    have hd3 : (digF f.hb f.level).toNat < 64 := by omega
    clear hdr
    obtain ⟨z2, hz⟩ : ∃ z, z = rd xs2 (digF f.hb f.level) := ⟨_, rfl⟩
    have p4 : W2.cell? ⟨ga, (digF f.hb f.level).toNat, none⟩ = some (.int .u64 z2) := by rw [hz]; exact A2.out.at_ _ hd1 (by rw [XL2.out]; omega)
    have p5 : W2.frozen? ⟨ga, (digF f.hb f.level).toNat, none⟩ = false := blk_frozen A2.out _
    clear hz
    refine wp_region_still_tail 14 (by kernel_rfl) (by kernel_rfl) ?_
    simp only [List.take_succ_cons, List.take_zero, List.drop_succ_cons, List.drop_zero]
    repeat still_step
    still_call (digit_q _ _ _ HUB.out)
    repeat still_step
    refine wpStill_nil ?_
    change wpList _ _ _ _ _ W2.drew
    go_wp2_with fail
    obtain ⟨W3, hW3⟩ : ∃ W', W' = (W2.setCell ⟨ga, (digF f.hb f.level).toNat, none⟩ (.int .u64 f.y)).drew := ⟨_, rfl⟩
    obtain ⟨xs3, hxs3⟩ : ∃ xs', xs' = xs2.set (digF f.hb f.level).toNat f.y := ⟨_, rfl⟩
    have K3 : Hid (Kept w W3 (fun _ => False)) := Lib.hid (by rw [hW3]; exact (K2.out.setCell (p := ⟨ga, _, none⟩) (.inr GA.out) _).drew)
    have B3 : Hid (Below base w W3) := Lib.hid (by rw [hW3]; exact below_drew (B2.out.setCell (p := ⟨ga, _, none⟩) GB.out _))
    have A3 : Hid (ArrAt W3 ga xs3) := Lib.hid (by rw [hW3, hxs3]; exact ArrAt.set A2.out _ _)
    have F3 : Hid (ForkAt W3 g f) := Lib.hid (HF.out.kept K3.out (fun h => h))
    have XL3 : Hid (xs3.length = 64) := Lib.hid (by rw [hxs3, List.length_set]; exact XL2.out)
    have XE3 := Lib.hid hxs3
    rw [← hW3]
    clear hW3 hxs3 p1 p2 p3 p4 p5 hd1 hd2 hd3
    go_at_call 40
    refine (fresh_arr base S g gv gm made s th f ga xs3 w W3 H.out HV.out HSV.out HBV.out HMD.out HTR.out HF.out HG.out HBG.out K3.out B3.out A3.out GA.out XL3.out).mono ?_
    rintro e w' ⟨rfl, q⟩
    have hcl : xs3 = f.cells := by rw [XE3.out, XE2.out, XE1.out]; exact (if_neg HY.out).symm
    rw [hcl] at q ⊢
    obtain ⟨a, hEA⟩ : ∃ a, a = s.addr f.cells := ⟨_, rfl⟩
    rw [← hEA] at q ⊢
    have hle : a ≤ 4194304 := by rw [hEA]; exact addr_le H.out
    have hpo : ¬ a = 0 → 1 ≤ a := by rw [hEA]; exact addr_pos
    have HEA := Lib.hid hEA
    clear hEA hcl
    have HQ := Lib.hid q
    clear q
    by_cases ha : a = 0
    · subst ha
      have e3 : f.step3 0 = f.fresh 0 := rfl
      have E3 := Lib.hid e3
      clear e3 hle hpo
      go_wp2_with fail
      ((try simp only [Exit.inBlock, Exit.then]); refine bodyPost_ret (results_none rfl _ _ _) rfl ?_)
      exact ⟨rfl, by rw [← HEA.out, E3.out]; exact HQ.out⟩
    · have hb : (a == 0) = false := by simpa using ha
      have hp := hpo ha
      have q6 : ForkAt w' g f := by
        have h5 := HQ.out.2.2.1
        have e : f.fresh a = f := if_neg ha
        rw [e] at h5
        exact h5
      have E3 : Hid (f.step3 a = { f with wd := a * 2, y := 0, at_ := if f.level = f.top then 5 else 4 }) := Lib.hid (if_neg ha)
      have Q6 := Lib.hid q6
      have d0 : w'.cell? ⟨g, 0, none⟩ = some (.int .u64 f.wd) := (q6.c 0).trans rfl
      have d10 : w'.cell? ⟨g, 10, none⟩ = some (.int .u64 f.y) := (q6.c 10).trans rfl
      have d8 : w'.cell? ⟨g, 8, none⟩ = some (.int .i64 f.at_) := (q6.c 8).trans rfl
      have d7 : w'.cell? ⟨g, 7, none⟩ = some (.int .i64 f.level) := (q6.c 7).trans rfl
      have d6 : w'.cell? ⟨g, 6, none⟩ = some (.int .i64 f.top) := (q6.c 6).trans rfl
      have e0 : w'.frozen? ⟨g, 0, none⟩ = false := blk_frozen q6 0
      have e10 : w'.frozen? ⟨g, 10, none⟩ = false := blk_frozen q6 10
      have e8 : w'.frozen? ⟨g, 8, none⟩ = false := blk_frozen q6 8
      clear ha hpo q6
      go_wp2_with (go_at_call 35; refine (child2_c a _ hp (by omega)).mono ?_; rintro e w'' ⟨rfl, rfl⟩)
      obtain ⟨W9, hW9⟩ : ∃ W, W = ((w'.setCell ⟨g, 0, none⟩ (.int .u64 (a * 2))).setCell ⟨g, 10, none⟩ (.int .u64 0)).setCell ⟨g, 8, none⟩ (.int .i64 4) := ⟨_, rfl⟩
      rw [← hW9]
      have hk9 : Kept w' W9 (fun j => j = g) := by rw [hW9]; exact Kept.setCell (S := fun j => j = g) (Kept.setCell (S := fun j => j = g) (Kept.setCell (S := fun j => j = g) (Kept.refl _ _) (p := ⟨g, 0, none⟩) (.inl rfl) _) (p := ⟨g, 10, none⟩) (.inl rfl) _) (p := ⟨g, 8, none⟩) (.inl rfl) _
      have F9 : ForkAt W9 g { f with wd := a * 2, y := 0, at_ := 4 } := by rw [hW9]; exact ((Q6.out.set 0 _ (f' := { f with wd := a * 2 }) rfl).set 10 _ (f' := { f with wd := a * 2, y := 0 }) rfl).set 8 _ rfl
      have B9 : Below base w W9 := by rw [hW9]; exact ((HQ.out.2.2.2.2.setCell (p := ⟨g, 0, none⟩) HBG.out _).setCell (p := ⟨g, 10, none⟩) HBG.out _).setCell (p := ⟨g, 8, none⟩) HBG.out _
      have M9 := HQ.out.1.far Q6.out hk9 (by decide) (by decide) (by decide) (by decide)
      have V9 : ViewAt W9 gv gm th (made + 1) := blk_kept HQ.out.2.1 hk9 (blk_ne HQ.out.2.1 Q6.out (by decide))
      have KK9 : Kept w W9 (fun j => S j ∨ j = g) := HQ.out.2.2.2.1.then_ hk9 (fun j e => .inl (.inr e))
      have m6 : W9.cell? ⟨g, 6, none⟩ = some (.int .i64 f.top) := (F9.c 6).trans rfl
      have m7 : W9.cell? ⟨g, 7, none⟩ = some (.int .i64 f.level) := (F9.c 7).trans rfl
      have m8 : W9.cell? ⟨g, 8, none⟩ = some (.int .i64 4) := (F9.c 8).trans rfl
      have n8 : W9.frozen? ⟨g, 8, none⟩ = false := blk_frozen F9 8
      have G1 := Lib.hid F9
      have G2 := Lib.hid B9
      have G3 := Lib.hid M9
      have G4 := Lib.hid V9
      have G5 := Lib.hid KK9
      clear hW9 hk9 F9 B9 M9 V9 KK9 d0 d10 d8 d7 d6 e0 e10 e8
      by_cases ht : f.level = f.top
      · have htb : (f.level == f.top) = true := by simp [ht]
        have E4 : Hid (f.step3 a = { f with wd := a * 2, y := 0, at_ := 5 }) := Lib.hid (by rw [E3.out, if_pos ht])
        clear ht
        go_quiet (fail)
        go_wp2_with fail
        first | go_end0 | ((try simp only [Exit.inBlock, Exit.then]); refine bodyPost_ret (results_none rfl _ _ _) rfl ?_)
        refine ⟨rfl, ?_⟩
        rw [← HEA.out, E4.out]
        have hk : Kept W9 ((W9.setCell ⟨g, 8, none⟩ (.int .i64 5)).drewN nq) (fun j => j = g) := (Kept.setCell (S := fun j => j = g) (Kept.refl _ _) (p := ⟨g, 8, none⟩) (.inl rfl) _).drewN _
        exact ⟨G3.out.far G1.out hk (by decide) (by decide) (by decide) (by decide), blk_kept G4.out hk (blk_ne G4.out G1.out (by decide)), G1.out.set 8 _ rfl, G5.out.then_ hk (fun j e => .inl (.inr e)), pw_below_drewN (G2.out.setCell (p := ⟨g, 8, none⟩) HBG.out _) _⟩
      · have htb : (f.level == f.top) = false := by simpa using ht
        have E4 : Hid (f.step3 a = { f with wd := a * 2, y := 0, at_ := 4 }) := Lib.hid (by rw [E3.out, if_neg ht])
        clear ht
        go_quiet (fail)
        go_wp2_with fail
        first | go_end0 | ((try simp only [Exit.inBlock, Exit.then]); refine bodyPost_ret (results_none rfl _ _ _) rfl ?_)
        refine ⟨rfl, ?_⟩
        rw [← HEA.out, E4.out]
        have hk : Kept W9 (W9.drewN nq) (fun j => j = g) := (Kept.refl _ _).drewN _
        exact ⟨G3.out.far G1.out hk (by decide) (by decide) (by decide) (by decide), blk_kept G4.out hk (blk_ne G4.out G1.out (by decide)), G1.out, G5.out.then_ hk (fun j e => .inl (.inr e)), pw_below_drewN G2.out _⟩
set_option maxRecDepth 100000 in
set_option maxHeartbeats 4000000 in
theorem forkstep3_c (base : Nat) (S : Nat → Prop) (g gv gm made : Nat) (s : Ms) (th : Int) (f : Fk) (w : World) (h : MemW w base S gm s) (hv : ViewAt w gv gm th made) (hsv : S gv) (hbv : base ≤ gv) (hmade : made ≤ 1099511627775) (htr : s.tr.length ≤ 1099511627775) (hF : ForkAt w g f) (hg : ¬ S g) (hbg : base ≤ g) (hat : f.at_ = 3) (hua : isU f.ha) (hub : isU f.hb) :
    Calls Try.prog 18 #[.pointer (some ⟨g, 0, none⟩), .pointer (some ⟨gv, 0, none⟩)] w fun e w' => e = .returned (.bool (f.step3 (s.addr f.cells)).fin) ∧ MemW w' base (fun j => S j ∨ w.heap.size ≤ j) gm (s.alloc th f.cells) ∧ ViewAt w' gv gm th (made + 1) ∧ ForkAt w' g (f.step3 (s.addr f.cells)) ∧ Kept w w' (fun j => S j ∨ j = g) ∧ Below base w w' := by
  have c8 : w.cell? ⟨g, 8, none⟩ = some (.int .i64 3) := by rw [hF.c 8, hat]; rfl
  have HC := Lib.hid (branch_c base S g gv gm made s th f w h hv hsv hbv hmade htr hF hg hbg hat hua hub)
  clear h hv hsv hbv hmade htr hF hg hbg hat hua hub
  go_enter Try.func18, Try.ntmps18
  go_wp2_with fail
  go_at_call 41
  refine HC.out.mono ?_
  rintro e w' ⟨rfl, q⟩
  obtain ⟨f', hf'⟩ : ∃ f', f' = f.step3 (s.addr f.cells) := ⟨_, rfl⟩
  rw [← hf'] at q
  have d8 : w'.cell? ⟨g, 8, none⟩ = some (.int .i64 f'.at_) := (q.2.2.1.c 8).trans rfl
  have HQ := Lib.hid q
  have HF' := Lib.hid hf'
  clear q hf' c8
  go_wp2_with fail
  go_ret
  exact ⟨by rw [← HF'.out]; rfl, by rw [← HF'.out]; exact HQ.out⟩
end Go.Proofs.Ytbpkepcbmenbcaa.Ar
