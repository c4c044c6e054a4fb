import Derived.Test.YtbpkepcbmenbcaaNo9
import Derived.Test.YtbpkepcbmenbcaaNo2
namespace Go.Proofs.Ytbpkepcbmenbcaa.Ar
open Go.RowKit Go.Proofs.YtbpkepcbmenbcaaW.PrintWords Go.Proofs.YtbpkepcbmenbcaaW.PrintLast Go.Proofs.YtbpkepcbmenbcaaW.PrintMore
set_option linter.unusedVariables false
set_option linter.unusedSimpArgs false
theorem ForkAt.kept {w w' : World} {g : Nat} {f : Fk} {K : Nat → Prop} (h : ForkAt w g f) (hk : Kept w w' K) (hn : ¬ K g) : ForkAt w' g f := blk_kept h hk hn
theorem fresh_done {w w' : World} {base g gv gm n : Nat} {S : Nat → Prop} {s : Ms} {th : Int} {f : Fk} (hbg : base ≤ g) (hg : ¬ S g) (h1 : MemW w' base (fun j => S j ∨ w.heap.size ≤ j) gm s) (h2 : ViewAt w' gv gm th n) (h3 : ForkAt w' g f) (h4 : Kept w w' S) (h5 : Below base w w') :
    MemW (((w'.setCell ⟨g, 0, none⟩ (.int .u64 0)).setCell ⟨g, 1, none⟩ (.int .i64 30)).setCell ⟨g, 8, none⟩ (.int .i64 5)) base (fun j => S j ∨ w.heap.size ≤ j) gm s ∧ ViewAt (((w'.setCell ⟨g, 0, none⟩ (.int .u64 0)).setCell ⟨g, 1, none⟩ (.int .i64 30)).setCell ⟨g, 8, none⟩ (.int .i64 5)) gv gm th n ∧ ForkAt (((w'.setCell ⟨g, 0, none⟩ (.int .u64 0)).setCell ⟨g, 1, none⟩ (.int .i64 30)).setCell ⟨g, 8, none⟩ (.int .i64 5)) g (f.fresh 0) ∧ Kept w (((w'.setCell ⟨g, 0, none⟩ (.int .u64 0)).setCell ⟨g, 1, none⟩ (.int .i64 30)).setCell ⟨g, 8, none⟩ (.int .i64 5)) (fun j => S j ∨ j = g) ∧ Below base w (((w'.setCell ⟨g, 0, none⟩ (.int .u64 0)).setCell ⟨g, 1, none⟩ (.int .i64 30)).setCell ⟨g, 8, none⟩ (.int .i64 5)) := by
  have hk : Kept w' (((w'.setCell ⟨g, 0, none⟩ (.int .u64 0)).setCell ⟨g, 1, none⟩ (.int .i64 30)).setCell ⟨g, 8, none⟩ (.int .i64 5)) (fun j => j = g) := Kept.setCell (S := fun j => j = g) (Kept.setCell (S := fun j => j = g) (Kept.setCell (S := fun j => j = g) (Kept.refl _ _) (p := ⟨g, 0, none⟩) (.inl rfl) _) (p := ⟨g, 1, none⟩) (.inl rfl) _) (p := ⟨g, 8, none⟩) (.inl rfl) _
  exact ⟨h1.far h3 hk (by decide) (by decide) (by decide) (by decide), blk_kept h2 hk (blk_ne h2 h3 (by decide)), ((h3.set 0 _ (f' := { f with wd := 0 }) rfl).set 1 _ (f' := { f with wd := 0, er := 30 }) rfl).set 8 _ rfl, (h4.mono (fun j h => .inl h)).then_ hk (fun j e => .inl (.inr e)), ((h5.setCell (p := ⟨g, 0, none⟩) hbg _).setCell (p := ⟨g, 1, none⟩) hbg _).setCell (p := ⟨g, 8, none⟩) hbg _⟩
set_option maxRecDepth 100000 in
set_option maxHeartbeats 4000000 in
theorem fresh_c (base : Nat) (S : Nat → Prop) (g gv gm made : Nat) (s : Ms) (th : Int) (f : Fk) (A : Option Addr) (vals : List Int) (c : Nat) (w : World) (h : MemW w base S gm s) (hv : ViewAt w gv gm th made) (hsv : S gv) (hbv : base ≤ gv) (hmade : made ≤ 1099511627775) (htr : s.tr.length ≤ 1099511627775) (hF : ForkAt w g f) (hg : ¬ S g) (hbg : base ≤ g)
    (hva : ∀ W', Kept w W' S → (Kd.int .u64).C W' A vals.length vals) (hc : vals.length ≤ c) (hl : vals.length ≤ 1099511627775) :
    Calls Try.prog 40 #[.pointer (some ⟨g, 0, none⟩), .pointer (some ⟨gv, 0, none⟩), .slice A vals.length c] w fun e w' => e = .returned (.int .u64 (s.addr vals)) ∧ MemW w' base (fun j => S j ∨ w.heap.size ≤ j) gm (s.alloc th vals) ∧ ViewAt w' gv gm th (made + 1) ∧ ForkAt w' g (f.fresh (s.addr vals)) ∧ Kept w w' (fun j => S j ∨ j = g) ∧ Below base w w' := by
  have H := Lib.hid h
  have HV := Lib.hid hv
  have HSV := Lib.hid hsv
  have HBV := Lib.hid hbv
  have HMD := Lib.hid hmade
  have HTR := Lib.hid htr
  have HF := Lib.hid hF
  have HG := Lib.hid hg
  have HBG := Lib.hid hbg
  have HVA := Lib.hid hva
  have HC := Lib.hid hc
  have HL := Lib.hid hl
  clear h hv hsv hbv hmade htr hF hg hbg hva hc hl
  obtain ⟨a, hEA⟩ : ∃ a, a = s.addr vals := ⟨_, rfl⟩
  rw [← hEA]
  have HEA := Lib.hid hEA
  clear hEA
  by_cases ha : a = 0
  · subst ha
    go_enter Try.func40, Try.ntmps40
    go_wp2_with fail
    go_at_call 34
    refine (valloc_c base S gv gm made s th A vals c w H.out HV.out HSV.out HBV.out HMD.out HTR.out HVA.out HC.out HL.out).mono ?_
    rintro e w' ⟨rfl, q1, q2, q3, q4⟩
    rw [← HEA.out]
    have q5 : ForkAt w' g f := HF.out.kept q3 HG.out
    have d0 : w'.cell? ⟨g, 0, none⟩ = some (.int .u64 f.wd) := (q5.c 0).trans rfl
    have d1 : w'.cell? ⟨g, 1, none⟩ = some (.int .i64 f.er) := (q5.c 1).trans rfl
    have d8 : w'.cell? ⟨g, 8, none⟩ = some (.int .i64 f.at_) := (q5.c 8).trans rfl
    have e0 : w'.frozen? ⟨g, 0, none⟩ = false := blk_frozen q5 0
    have e1 : w'.frozen? ⟨g, 1, none⟩ = false := blk_frozen q5 1
    have e8 : w'.frozen? ⟨g, 8, none⟩ = false := blk_frozen q5 8
    have Q := Lib.hid (fresh_done HBG.out HG.out q1 q2 q5 q3 q4)
    clear q1 q2 q3 q4 q5
    go_wp2_with fail
    go_ret
    exact ⟨rfl, Q.out⟩
  · have hb : (a == 0) = false := by simpa using ha
    have HE : Hid (f.fresh a = f) := Lib.hid (if_neg ha)
    clear ha
    go_enter Try.func40, Try.ntmps40
    go_wp2_with fail
    go_at_call 34
    refine (valloc_c base S gv gm made s th A vals c w H.out HV.out HSV.out HBV.out HMD.out HTR.out HVA.out HC.out HL.out).mono ?_
    rintro e w' ⟨rfl, q1, q2, q3, q4⟩
    rw [← HEA.out]
    have q5 : ForkAt w' g f := HF.out.kept q3 HG.out
    have Q := Lib.hid (And.intro q1 (And.intro q2 (And.intro q5 (And.intro (q3.mono (S' := fun j => S j ∨ j = g) (fun j h => .inl h)) q4))))
    clear q1 q2 q3 q4 q5
    go_wp2_with fail
    go_ret
    exact ⟨rfl, by rw [HE.out]; exact Q.out⟩
/-- fresh of a record that was just written out. -/
theorem fresh_lit (base : Nat) (S : Nat → Prop) (g gv gm made : Nat) (s : Ms) (th z : Int) (f : Fk) (w : World) (h : MemW w base S gm s) (hv : ViewAt w gv gm th made) (hsv : S gv) (hbv : base ≤ gv) (hmade : made ≤ 1099511627775) (htr : s.tr.length ≤ 1099511627775) (hF : ForkAt w g f) (hg : ¬ S g) (hbg : base ≤ g) :
    Calls Try.prog 40 #[.pointer (some ⟨g, 0, none⟩), .pointer (some ⟨gv, 0, none⟩), .slice (some ⟨w.heap.size, 0, none⟩) 3 3] (w.alloc (.cells #[.int .u64 z, .int .u64 1, .int .u64 0] 33)) fun e w' => e = .returned (.int .u64 (s.addr [z, 1, 0])) ∧ MemW w' base (fun j => S j ∨ w.heap.size ≤ j) gm (s.alloc th [z, 1, 0]) ∧ ViewAt w' gv gm th (made + 1) ∧ ForkAt w' g (f.fresh (s.addr [z, 1, 0])) ∧ Kept w w' (fun j => S j ∨ j = g) ∧ Below base w w' := by
  obtain ⟨W, hW⟩ : ∃ W, W = w.alloc (.cells #[.int .u64 z, .int .u64 1, .int .u64 0] 33) := ⟨_, rfl⟩
  rw [← hW]
  have hk : Kept w W (fun _ => False) := by rw [hW]; exact (Kept.refl _ _).alloc _
  have hb : Below base w W := by rw [hW]; exact (Below.refl _ _).alloc (by have := blk_lt hF; omega) _
  have hblk : W.heap[w.heap.size]? = some (.cells (nums .u64 [z, 1, 0]).toArray 33 (0, 0)) := by rw [hW]; exact heap_alloc_new w _
  have hlt := blk_lt hv
  have hgt := blk_lt hF
  refine (fresh_c base (fun j => S j ∧ base ≤ j ∧ j < w.heap.size) g gv gm made s th f (some ⟨w.heap.size, 0, none⟩) [z, 1, 0] 3 W (h.bound.kept hk (fun _ _ h => h)) (blk_kept hv hk (fun h => h)) ⟨hsv, hbv, hlt⟩ hbv hmade htr (hF.kept hk (fun h => h)) (fun h => hg h.1) hbg (fun W' hk' => C_of_row (blk_kept hblk hk' (fun h => by omega)) (by simp)) (by simp) (by simp)).mono ?_
  rintro e w' ⟨rfl, q1, q2, q3, q4, q5⟩
  refine ⟨rfl, q1.mono (fun j hj => hj.elim (fun h => .inl h.1) (fun h => .inr (Nat.le_trans hk.1 h))), q2, q3, ?_, hb.trans q5⟩
  exact (hk.mono (S' := fun j => S j ∨ j = g) (fun j e => e.elim)).then_ q4 (fun j h => .inl (h.elim (fun h => .inl h.1) .inr))
def Fk.step0 (f : Fk) (a : Int) : Fk := if a = 0 then { f with level := f.lv, wd := 0, er := 30, at_ := 5, x := 0 } else { f with level := f.lv, x := a, at_ := 2 }
def Fk.step2 (f : Fk) (a : Int) : Fk := if a = 0 then { f with wd := 0, er := 30, at_ := 5, y := 0 } else { f with y := a, at_ := 3 }
def Fk.step4 (f : Fk) (a : Int) : Fk := if a = 0 then { f with wd := 0, er := 30, at_ := 5, x := 0 } else { f with x := a, level := f.level - 1, at_ := 3 }
set_option maxRecDepth 100000 in
set_option maxHeartbeats 4000000 in
theorem forkstep0_c (base : Nat) (S : Nat → Prop) (g gv gm made : Nat) (s : Ms) (th : Int) (f : Fk) (w : World) (h : MemW w base S gm s) (hv : ViewAt w gv gm th made) (hsv : S gv) (hbv : base ≤ gv) (hmade : made ≤ 1099511627775) (htr : s.tr.length ≤ 1099511627775) (hF : ForkAt w g f) (hg : ¬ S g) (hbg : base ≤ g) (hat : f.at_ = 0) (ht : 0 ≤ f.top) (hua : isU f.ha) (hub : isU f.hb) (hlv : f.lv < 11) :
    Calls Try.prog 18 #[.pointer (some ⟨g, 0, none⟩), .pointer (some ⟨gv, 0, none⟩)] w fun e w' => e = .returned (.bool (decide (s.addr [f.a, 1, 0] = 0))) ∧ MemW w' base (fun j => S j ∨ w.heap.size ≤ j) gm (s.alloc th [f.a, 1, 0]) ∧ ViewAt w' gv gm th (made + 1) ∧ ForkAt w' g (f.step0 (s.addr [f.a, 1, 0])) ∧ Kept w w' (fun j => S j ∨ j = g) ∧ Below base w w' := by
  have c8 : w.cell? ⟨g, 8, none⟩ = some (.int .i64 0) := by rw [hF.c 8, hat]; rfl
  have H := Lib.hid h
  have HV := Lib.hid hv
  have HSV := Lib.hid hsv
  have HBV := Lib.hid hbv
  have HMD := Lib.hid hmade
  have HTR := Lib.hid htr
  have HF := Lib.hid hF
  have HG := Lib.hid hg
  have HBG := Lib.hid hbg
  have HT := Lib.hid ht
  have HUA := Lib.hid hua
  have HUB := Lib.hid hub
  have HLV := Lib.hid hlv
  clear h hv hsv hbv hmade htr hF hg hbg hat ht hua hub hlv
  obtain ⟨a, hEA⟩ : ∃ a, a = s.addr [f.a, 1, 0] := ⟨_, rfl⟩
  rw [← hEA]
  have HEA := Lib.hid hEA
  clear hEA
  go_enter Try.func18, Try.ntmps18
  go_wp2_with fail
  go_at_call 39
  refine (start_c base g f w HF.out HBG.out HT.out HUA.out HUB.out).mono ?_
  rintro e w1 ⟨rfl, r1, r2, r3⟩
  have d : decide (partN 11 f.ha f.hb f.top < 11) = true := decide_eq_true HLV.out
  rw [d]
  have r4 : ForkAt w1 g { f with level := f.lv } := r1
  have x2 : w1.cell? ⟨g, 2, none⟩ = some (.int .u64 f.a) := (r4.c 2).trans rfl
  have R1 := Lib.hid r4
  have RM := Lib.hid (H.out.far HF.out r2 (by decide) (by decide) (by decide) (by decide))
  have RV : Hid (ViewAt w1 gv gm th made) := Lib.hid (blk_kept HV.out r2 (blk_ne HV.out HF.out (by decide)))
  have R2 := Lib.hid r2
  have R3 := Lib.hid r3
  clear r1 r2 r3 r4 d c8
  go_wp2_with fail
  go_at_call 40
  refine (fresh_lit base S g gv gm made s th _ { f with level := f.lv } w1 RM.out RV.out HSV.out HBV.out HMD.out HTR.out R1.out HG.out HBG.out).mono ?_
  rintro e w' ⟨rfl, q1, q2, q3, q4, q5⟩
  rw [← HEA.out] at q3 ⊢
  replace q1 := q1.mono (S' := fun j => S j ∨ w.heap.size ≤ j) (fun j h => h.imp id (fun h => Nat.le_trans R2.out.1 h))
  replace q4 := (R2.out.mono (S' := fun j => S j ∨ j = g) (fun j e => .inr e)).then_ q4 (fun j h => .inl h)
  replace q5 := R3.out.trans q5
  by_cases ha : a = 0
  · subst ha
    have q6 : ForkAt w' g { { f with level := f.lv } with wd := 0, er := 30, at_ := 5 } := q3
    have d9 : w'.cell? ⟨g, 9, none⟩ = some (.int .u64 f.x) := (q6.c 9).trans rfl
    have d8 : w'.cell? ⟨g, 8, none⟩ = some (.int .i64 5) := (q6.c 8).trans rfl
    have e9 : w'.frozen? ⟨g, 9, none⟩ = false := blk_frozen q6 9
    have hk : Kept w' (w'.setCell ⟨g, 9, none⟩ (.int .u64 0)) (fun j => j = g) := Kept.setCell (S := fun j => j = g) (Kept.refl _ _) (p := ⟨g, 9, none⟩) (.inl rfl) _
    have Q : Hid (MemW (w'.setCell ⟨g, 9, none⟩ (.int .u64 0)) base (fun j => S j ∨ w.heap.size ≤ j) gm (s.alloc th [f.a, 1, 0]) ∧ ViewAt (w'.setCell ⟨g, 9, none⟩ (.int .u64 0)) gv gm th (made + 1) ∧ ForkAt (w'.setCell ⟨g, 9, none⟩ (.int .u64 0)) g (f.step0 0) ∧ Kept w (w'.setCell ⟨g, 9, none⟩ (.int .u64 0)) (fun j => S j ∨ j = g) ∧ Below base w (w'.setCell ⟨g, 9, none⟩ (.int .u64 0))) := Lib.hid ⟨q1.far q6 hk (by decide) (by decide) (by decide) (by decide), blk_kept q2 hk (blk_ne q2 q6 (by decide)), q6.set 9 _ rfl, q4.then_ hk (fun j e => .inl (.inr e)), q5.setCell (p := ⟨g, 9, none⟩) HBG.out _⟩
    clear q1 q2 q3 q4 q5 q6 hk x2
    go_wp2_with fail
    go_ret
    exact ⟨rfl, Q.out⟩
  · have hb : (a != 0) = true := by simpa using ha
    have hd : decide (a = 0) = false := by simpa using ha
    have HD := Lib.hid hd
    have q6 : ForkAt w' g { f with level := f.lv } := by
      have e : Fk.fresh { f with level := f.lv } a = { f with level := f.lv } := if_neg ha
      rw [e] at q3
      exact q3
    have d9 : w'.cell? ⟨g, 9, none⟩ = some (.int .u64 f.x) := (q6.c 9).trans rfl
    have d8 : w'.cell? ⟨g, 8, none⟩ = some (.int .i64 f.at_) := (q6.c 8).trans rfl
    have e9 : w'.frozen? ⟨g, 9, none⟩ = false := blk_frozen q6 9
    have e8 : w'.frozen? ⟨g, 8, none⟩ = false := blk_frozen q6 8
    have hk : Kept w' ((w'.setCell ⟨g, 9, none⟩ (.int .u64 a)).setCell ⟨g, 8, none⟩ (.int .i64 2)) (fun j => j = g) := Kept.setCell (S := fun j => j = g) (Kept.setCell (S := fun j => j = g) (Kept.refl _ _) (p := ⟨g, 9, none⟩) (.inl rfl) _) (p := ⟨g, 8, none⟩) (.inl rfl) _
    have Q : Hid (MemW ((w'.setCell ⟨g, 9, none⟩ (.int .u64 a)).setCell ⟨g, 8, none⟩ (.int .i64 2)) base (fun j => S j ∨ w.heap.size ≤ j) gm (s.alloc th [f.a, 1, 0]) ∧ ViewAt ((w'.setCell ⟨g, 9, none⟩ (.int .u64 a)).setCell ⟨g, 8, none⟩ (.int .i64 2)) gv gm th (made + 1) ∧ ForkAt ((w'.setCell ⟨g, 9, none⟩ (.int .u64 a)).setCell ⟨g, 8, none⟩ (.int .i64 2)) g (f.step0 a) ∧ Kept w ((w'.setCell ⟨g, 9, none⟩ (.int .u64 a)).setCell ⟨g, 8, none⟩ (.int .i64 2)) (fun j => S j ∨ j = g) ∧ Below base w ((w'.setCell ⟨g, 9, none⟩ (.int .u64 a)).setCell ⟨g, 8, none⟩ (.int .i64 2))) := Lib.hid ⟨q1.far q6 hk (by decide) (by decide) (by decide) (by decide), blk_kept q2 hk (blk_ne q2 q6 (by decide)), by
      have e : f.step0 a = { f with level := f.lv, x := a, at_ := 2 } := if_neg ha
      rw [e]
      exact (q6.set 9 _ (f' := { f with level := f.lv, x := a }) rfl).set 8 _ rfl, q4.then_ hk (fun j e => .inl (.inr e)), ((q5.setCell (p := ⟨g, 9, none⟩) HBG.out _).setCell (p := ⟨g, 8, none⟩) HBG.out _)⟩
    clear q1 q2 q3 q4 q5 q6 hk ha hd x2
    go_wp2_with fail
    go_ret
    exact ⟨by rw [HD.out]; rfl, Q.out⟩
set_option maxRecDepth 100000 in
set_option maxHeartbeats 4000000 in
theorem forkstep2_c (base : Nat) (S : Nat → Prop) (g gv gm made : Nat) (s : Ms) (th : Int) (f : Fk) (w : World) (h : MemW w base S gm s) (hv : ViewAt w gv gm th made) (hsv : S gv) (hbv : base ≤ gv) (hmade : made ≤ 1099511627775) (htr : s.tr.length ≤ 1099511627775) (hF : ForkAt w g f) (hg : ¬ S g) (hbg : base ≤ g) (hat : f.at_ = 2) :
    Calls Try.prog 18 #[.pointer (some ⟨g, 0, none⟩), .pointer (some ⟨gv, 0, none⟩)] w fun e w' => e = .returned (.bool (decide (s.addr [f.b, 1, 0] = 0))) ∧ MemW w' base (fun j => S j ∨ w.heap.size ≤ j) gm (s.alloc th [f.b, 1, 0]) ∧ ViewAt w' gv gm th (made + 1) ∧ ForkAt w' g (f.step2 (s.addr [f.b, 1, 0])) ∧ Kept w w' (fun j => S j ∨ j = g) ∧ Below base w w' := by
  have c8 : w.cell? ⟨g, 8, none⟩ = some (.int .i64 2) := by rw [hF.c 8, hat]; rfl
  have c4 : w.cell? ⟨g, 4, none⟩ = some (.int .u64 f.b) := (hF.c 4).trans rfl
  have H := Lib.hid h
  have HV := Lib.hid hv
  have HSV := Lib.hid hsv
  have HBV := Lib.hid hbv
  have HMD := Lib.hid hmade
  have HTR := Lib.hid htr
  have HF := Lib.hid hF
  have HG := Lib.hid hg
  have HBG := Lib.hid hbg
  clear h hv hsv hbv hmade htr hF hg hbg hat
  obtain ⟨a, hEA⟩ : ∃ a, a = s.addr [f.b, 1, 0] := ⟨_, rfl⟩
  rw [← hEA]
  have HEA := Lib.hid hEA
  clear hEA
  go_enter Try.func18, Try.ntmps18
  go_wp2_with fail
  go_at_call 40
  refine (fresh_lit base S g gv gm made s th _ f w H.out HV.out HSV.out HBV.out HMD.out HTR.out HF.out HG.out HBG.out).mono ?_
  rintro e w' ⟨rfl, q1, q2, q3, q4, q5⟩
  rw [← HEA.out] at q3 ⊢
  by_cases ha : a = 0
  · subst ha
    have q6 : ForkAt w' g { f with wd := 0, er := 30, at_ := 5 } := q3
    have d10 : w'.cell? ⟨g, 10, none⟩ = some (.int .u64 f.y) := (q6.c 10).trans rfl
    have d8 : w'.cell? ⟨g, 8, none⟩ = some (.int .i64 5) := (q6.c 8).trans rfl
    have e10 : w'.frozen? ⟨g, 10, none⟩ = false := blk_frozen q6 10
    have hk : Kept w' (w'.setCell ⟨g, 10, none⟩ (.int .u64 0)) (fun j => j = g) := Kept.setCell (S := fun j => j = g) (Kept.refl _ _) (p := ⟨g, 10, none⟩) (.inl rfl) _
    have Q : Hid (MemW (w'.setCell ⟨g, 10, none⟩ (.int .u64 0)) base (fun j => S j ∨ w.heap.size ≤ j) gm (s.alloc th [f.b, 1, 0]) ∧ ViewAt (w'.setCell ⟨g, 10, none⟩ (.int .u64 0)) gv gm th (made + 1) ∧ ForkAt (w'.setCell ⟨g, 10, none⟩ (.int .u64 0)) g (f.step2 0) ∧ Kept w (w'.setCell ⟨g, 10, none⟩ (.int .u64 0)) (fun j => S j ∨ j = g) ∧ Below base w (w'.setCell ⟨g, 10, none⟩ (.int .u64 0))) := Lib.hid ⟨q1.far q6 hk (by decide) (by decide) (by decide) (by decide), blk_kept q2 hk (blk_ne q2 q6 (by decide)), q6.set 10 _ rfl, q4.then_ hk (fun j e => .inl (.inr e)), q5.setCell (p := ⟨g, 10, none⟩) HBG.out _⟩
    clear q1 q2 q3 q4 q5 q6 hk c4 c8
    go_wp2_with fail
    go_ret
    exact ⟨rfl, Q.out⟩
  · have hb : (a != 0) = true := by simpa using ha
    have hd : decide (a = 0) = false := by simpa using ha
    have HD := Lib.hid hd
    have q6 : ForkAt w' g f := by
      have e : Fk.fresh f a = f := if_neg ha
      rw [e] at q3
      exact q3
    have d10 : w'.cell? ⟨g, 10, none⟩ = some (.int .u64 f.y) := (q6.c 10).trans rfl
    have d8 : w'.cell? ⟨g, 8, none⟩ = some (.int .i64 f.at_) := (q6.c 8).trans rfl
    have e10 : w'.frozen? ⟨g, 10, none⟩ = false := blk_frozen q6 10
    have e8 : w'.frozen? ⟨g, 8, none⟩ = false := blk_frozen q6 8
    have hk : Kept w' ((w'.setCell ⟨g, 10, none⟩ (.int .u64 a)).setCell ⟨g, 8, none⟩ (.int .i64 3)) (fun j => j = g) := Kept.setCell (S := fun j => j = g) (Kept.setCell (S := fun j => j = g) (Kept.refl _ _) (p := ⟨g, 10, none⟩) (.inl rfl) _) (p := ⟨g, 8, none⟩) (.inl rfl) _
    have Q : Hid (MemW ((w'.setCell ⟨g, 10, none⟩ (.int .u64 a)).setCell ⟨g, 8, none⟩ (.int .i64 3)) base (fun j => S j ∨ w.heap.size ≤ j) gm (s.alloc th [f.b, 1, 0]) ∧ ViewAt ((w'.setCell ⟨g, 10, none⟩ (.int .u64 a)).setCell ⟨g, 8, none⟩ (.int .i64 3)) gv gm th (made + 1) ∧ ForkAt ((w'.setCell ⟨g, 10, none⟩ (.int .u64 a)).setCell ⟨g, 8, none⟩ (.int .i64 3)) g (f.step2 a) ∧ Kept w ((w'.setCell ⟨g, 10, none⟩ (.int .u64 a)).setCell ⟨g, 8, none⟩ (.int .i64 3)) (fun j => S j ∨ j = g) ∧ Below base w ((w'.setCell ⟨g, 10, none⟩ (.int .u64 a)).setCell ⟨g, 8, none⟩ (.int .i64 3))) := Lib.hid ⟨q1.far q6 hk (by decide) (by decide) (by decide) (by decide), blk_kept q2 hk (blk_ne q2 q6 (by decide)), by
      have e : f.step2 a = { f with y := a, at_ := 3 } := if_neg ha
      rw [e]
      exact (q6.set 10 _ (f' := { f with y := a }) rfl).set 8 _ rfl, q4.then_ hk (fun j e => .inl (.inr e)), ((q5.setCell (p := ⟨g, 10, none⟩) HBG.out _).setCell (p := ⟨g, 8, none⟩) HBG.out _)⟩
    clear q1 q2 q3 q4 q5 q6 hk ha hd c4 c8
    go_wp2_with fail
    go_ret
    exact ⟨by rw [HD.out]; rfl, Q.out⟩
set_option maxRecDepth 100000 in
set_option maxHeartbeats 4000000 in
theorem forkstep4_c (base : Nat) (S : Nat → Prop) (g gv gm made : Nat) (s : Ms) (th : Int) (f : Fk) (w : World) (h : MemW w base S gm s) (hv : ViewAt w gv gm th made) (hsv : S gv) (hbv : base ≤ gv) (hmade : made ≤ 1099511627775) (htr : s.tr.length ≤ 1099511627775) (hF : ForkAt w g f) (hg : ¬ S g) (hbg : base ≤ g) (hat : f.at_ = 4) (hlev : 1 ≤ f.level) (hlev2 : f.level ≤ 11) :
    Calls Try.prog 18 #[.pointer (some ⟨g, 0, none⟩), .pointer (some ⟨gv, 0, none⟩)] w fun e w' => e = .returned (.bool (decide (s.addr [f.wd, 1, 0] = 0))) ∧ MemW w' base (fun j => S j ∨ w.heap.size ≤ j) gm (s.alloc th [f.wd, 1, 0]) ∧ ViewAt w' gv gm th (made + 1) ∧ ForkAt w' g (f.step4 (s.addr [f.wd, 1, 0])) ∧ Kept w w' (fun j => S j ∨ j = g) ∧ Below base w w' := by
  have c8 : w.cell? ⟨g, 8, none⟩ = some (.int .i64 4) := by rw [hF.c 8, hat]; rfl
  have c0 : w.cell? ⟨g, 0, none⟩ = some (.int .u64 f.wd) := (hF.c 0).trans rfl
  have H := Lib.hid h
  have HV := Lib.hid hv
  have HSV := Lib.hid hsv
  have HBV := Lib.hid hbv
  have HMD := Lib.hid hmade
  have HTR := Lib.hid htr
  have HF := Lib.hid hF
  have HG := Lib.hid hg
  have HBG := Lib.hid hbg
  clear h hv hsv hbv hmade htr hF hg hbg hat
  obtain ⟨a, hEA⟩ : ∃ a, a = s.addr [f.wd, 1, 0] := ⟨_, rfl⟩
  rw [← hEA]
  have HEA := Lib.hid hEA
  clear hEA
  go_enter Try.func18, Try.ntmps18
  go_wp2_with fail
  go_at_call 40
  refine (fresh_lit base S g gv gm made s th _ f w H.out HV.out HSV.out HBV.out HMD.out HTR.out HF.out HG.out HBG.out).mono ?_
  rintro e w' ⟨rfl, q1, q2, q3, q4, q5⟩
  rw [← HEA.out] at q3 ⊢
  by_cases ha : a = 0
  · subst ha
    have q6 : ForkAt w' g { f with wd := 0, er := 30, at_ := 5 } := q3
    have d9 : w'.cell? ⟨g, 9, none⟩ = some (.int .u64 f.x) := (q6.c 9).trans rfl
    have d8 : w'.cell? ⟨g, 8, none⟩ = some (.int .i64 5) := (q6.c 8).trans rfl
    have e9 : w'.frozen? ⟨g, 9, none⟩ = false := blk_frozen q6 9
    have hk : Kept w' (w'.setCell ⟨g, 9, none⟩ (.int .u64 0)) (fun j => j = g) := Kept.setCell (S := fun j => j = g) (Kept.refl _ _) (p := ⟨g, 9, none⟩) (.inl rfl) _
    have Q : Hid (MemW (w'.setCell ⟨g, 9, none⟩ (.int .u64 0)) base (fun j => S j ∨ w.heap.size ≤ j) gm (s.alloc th [f.wd, 1, 0]) ∧ ViewAt (w'.setCell ⟨g, 9, none⟩ (.int .u64 0)) gv gm th (made + 1) ∧ ForkAt (w'.setCell ⟨g, 9, none⟩ (.int .u64 0)) g (f.step4 0) ∧ Kept w (w'.setCell ⟨g, 9, none⟩ (.int .u64 0)) (fun j => S j ∨ j = g) ∧ Below base w (w'.setCell ⟨g, 9, none⟩ (.int .u64 0))) := Lib.hid ⟨q1.far q6 hk (by decide) (by decide) (by decide) (by decide), blk_kept q2 hk (blk_ne q2 q6 (by decide)), q6.set 9 _ rfl, q4.then_ hk (fun j e => .inl (.inr e)), q5.setCell (p := ⟨g, 9, none⟩) HBG.out _⟩
    clear q1 q2 q3 q4 q5 q6 hk c0 c8
    go_wp2_with fail
    go_ret
    exact ⟨rfl, Q.out⟩
  · have hb : (a != 0) = true := by simpa using ha
    have hd : decide (a = 0) = false := by simpa using ha
    have HD := Lib.hid hd
    have q6 : ForkAt w' g f := by
      have e : Fk.fresh f a = f := if_neg ha
      rw [e] at q3
      exact q3
    have d9 : w'.cell? ⟨g, 9, none⟩ = some (.int .u64 f.x) := (q6.c 9).trans rfl
    have d8 : w'.cell? ⟨g, 8, none⟩ = some (.int .i64 f.at_) := (q6.c 8).trans rfl
    have e9 : w'.frozen? ⟨g, 9, none⟩ = false := blk_frozen q6 9
    have e8 : w'.frozen? ⟨g, 8, none⟩ = false := blk_frozen q6 8
    have d7 : w'.cell? ⟨g, 7, none⟩ = some (.int .i64 f.level) := (q6.c 7).trans rfl
    have e7 : w'.frozen? ⟨g, 7, none⟩ = false := blk_frozen q6 7
    have hk : Kept w' (((w'.setCell ⟨g, 9, none⟩ (.int .u64 a)).setCell ⟨g, 7, none⟩ (.int .i64 (f.level - 1))).setCell ⟨g, 8, none⟩ (.int .i64 3)) (fun j => j = g) := Kept.setCell (S := fun j => j = g) (Kept.setCell (S := fun j => j = g) (Kept.setCell (S := fun j => j = g) (Kept.refl _ _) (p := ⟨g, 9, none⟩) (.inl rfl) _) (p := ⟨g, 7, none⟩) (.inl rfl) _) (p := ⟨g, 8, none⟩) (.inl rfl) _
    have Q : Hid (MemW (((w'.setCell ⟨g, 9, none⟩ (.int .u64 a)).setCell ⟨g, 7, none⟩ (.int .i64 (f.level - 1))).setCell ⟨g, 8, none⟩ (.int .i64 3)) base (fun j => S j ∨ w.heap.size ≤ j) gm (s.alloc th [f.wd, 1, 0]) ∧ ViewAt (((w'.setCell ⟨g, 9, none⟩ (.int .u64 a)).setCell ⟨g, 7, none⟩ (.int .i64 (f.level - 1))).setCell ⟨g, 8, none⟩ (.int .i64 3)) gv gm th (made + 1) ∧ ForkAt (((w'.setCell ⟨g, 9, none⟩ (.int .u64 a)).setCell ⟨g, 7, none⟩ (.int .i64 (f.level - 1))).setCell ⟨g, 8, none⟩ (.int .i64 3)) g (f.step4 a) ∧ Kept w (((w'.setCell ⟨g, 9, none⟩ (.int .u64 a)).setCell ⟨g, 7, none⟩ (.int .i64 (f.level - 1))).setCell ⟨g, 8, none⟩ (.int .i64 3)) (fun j => S j ∨ j = g) ∧ Below base w (((w'.setCell ⟨g, 9, none⟩ (.int .u64 a)).setCell ⟨g, 7, none⟩ (.int .i64 (f.level - 1))).setCell ⟨g, 8, none⟩ (.int .i64 3))) := Lib.hid ⟨q1.far q6 hk (by decide) (by decide) (by decide) (by decide), blk_kept q2 hk (blk_ne q2 q6 (by decide)), by
      have e : f.step4 a = { f with x := a, level := f.level - 1, at_ := 3 } := if_neg ha
      rw [e]
      exact ((q6.set 9 _ (f' := { f with x := a }) rfl).set 7 _ (f' := { f with x := a, level := f.level - 1 }) rfl).set 8 _ rfl, q4.then_ hk (fun j e => .inl (.inr e)), (((q5.setCell (p := ⟨g, 9, none⟩) HBG.out _).setCell (p := ⟨g, 7, none⟩) HBG.out _).setCell (p := ⟨g, 8, none⟩) HBG.out _)⟩
    clear q1 q2 q3 q4 q5 q6 hk ha hd c0 c8
    go_wp2_with fail
    go_ret
    exact ⟨by rw [HD.out]; rfl, Q.out⟩
end Go.Proofs.Ytbpkepcbmenbcaa.Ar
