import Derived.Test.YtbpkepcbmenbcaaNo8
namespace Go.Proofs.Ytbpkepcbmenbcaa.Ar
open Go.RowKit Go.Proofs.YtbpkepcbmenbcaaW.PrintWords Go.Proofs.YtbpkepcbmenbcaaW.PrintLast Go.Proofs.YtbpkepcbmenbcaaW.PrintMore
set_option linter.unusedVariables false
set_option linter.unusedSimpArgs false
def Fk.fresh (f : Fk) (addr : Int) : Fk := if addr = 0 then { f with wd := 0, er := 30, at_ := 5 } else f
theorem ForkAt.set (i : Nat) {w : World} {g : Nat} {f f' : Fk} (h : ForkAt w g f) (u : Value) (hf : (#[.int .u64 f.wd, .int .i64 f.er, .int .u64 f.a, .int .u64 f.ha, .int .u64 f.b, .int .u64 f.hb, .int .i64 f.top, .int .i64 f.level, .int .i64 f.at_, .int .u64 f.x, .int .u64 f.y] : Array Value).setIfInBounds i u = #[.int .u64 f'.wd, .int .i64 f'.er, .int .u64 f'.a, .int .u64 f'.ha, .int .u64 f'.b, .int .u64 f'.hb, .int .i64 f'.top, .int .i64 f'.level, .int .i64 f'.at_, .int .u64 f'.x, .int .u64 f'.y]) : ForkAt (w.setCell ⟨g, i, none⟩ u) g f' := by
  have := blk_set h i u
  rw [hf] at this
  exact this
set_option maxRecDepth 100000 in
set_option maxHeartbeats 4000000 in
theorem fresh_nv (base g : Nat) (f : Fk) (v : Value) (w : World) (hF : ForkAt w g f) (hbg : base ≤ g) :
    Calls Try.prog 40 #[.pointer (some ⟨g, 0, none⟩), .pointer none, v] w fun e w' => e = .returned (.int .u64 0) ∧ ForkAt w' g (f.fresh 0) ∧ Kept w w' (fun j => j = g) ∧ Below base w w' := by
  obtain ⟨fwd, fer, fa, fha, fb, fhb, ftop, flv, fat, fx, fy⟩ := f
  have c0 : w.cell? ⟨g, 0, none⟩ = some (.int .u64 fwd) := (hF.c 0).trans rfl
  have c1 : w.cell? ⟨g, 1, none⟩ = some (.int .i64 fer) := (hF.c 1).trans rfl
  have c8 : w.cell? ⟨g, 8, none⟩ = some (.int .i64 fat) := (hF.c 8).trans rfl
  have f0 : w.frozen? ⟨g, 0, none⟩ = false := blk_frozen hF 0
  have f1 : w.frozen? ⟨g, 1, none⟩ = false := blk_frozen hF 1
  have f8 : w.frozen? ⟨g, 8, none⟩ = false := blk_frozen hF 8
  have HF := Lib.hid hF
  have HBG := Lib.hid hbg
  clear hF hbg
  go_enter Try.func40, Try.ntmps40
  go_wp2_with fail
  go_at_call 34
  refine (valloc_nil _ _).mono ?_
  rintro e w' ⟨rfl, rfl⟩
  go_wp2_with fail
  go_ret
  exact ⟨rfl, ((HF.out.set 0 _ (f' := ⟨0, fer, fa, fha, fb, fhb, ftop, flv, fat, fx, fy⟩) rfl).set 1 _ (f' := ⟨0, 30, fa, fha, fb, fhb, ftop, flv, fat, fx, fy⟩) rfl).set 8 _ rfl, Kept.setCell (S := fun j => j = g) (Kept.setCell (S := fun j => j = g) (Kept.setCell (S := fun j => j = g) (Kept.refl _ _) (p := ⟨g, 0, none⟩) (.inl rfl) _) (p := ⟨g, 1, none⟩) (.inl rfl) _) (p := ⟨g, 8, none⟩) (.inl rfl) _, (((Below.refl _ _).setCell (p := ⟨g, 0, none⟩) HBG.out _).setCell (p := ⟨g, 1, none⟩) HBG.out _).setCell (p := ⟨g, 8, none⟩) HBG.out _⟩
/-- The level at which a Fork's children part. -/
def Fk.lv (f : Fk) : Int := partN 11 f.ha f.hb f.top
set_option maxRecDepth 100000 in
set_option maxHeartbeats 4000000 in
theorem forkstep0_known (base g : Nat) (f : Fk) (v : Value) (w : World) (hF : ForkAt w g f) (hbg : base ≤ g) (hat : f.at_ = 0) (ht : 0 ≤ f.top) (hua : isU f.ha) (hub : isU f.hb) (hlv : ¬ f.lv < 11) :
    Calls Try.prog 18 #[.pointer (some ⟨g, 0, none⟩), v] w fun e w' => e = .returned (.bool true) ∧ ForkAt w' g { f with level := f.lv, er := 5, at_ := 5 } ∧ Kept w w' (fun j => j = g) ∧ Below base w w' := by
  have c8 : w.cell? ⟨g, 8, none⟩ = some (.int .i64 0) := by rw [hF.c 8, hat]; rfl
  have HF := Lib.hid hF
  have HBG := Lib.hid hbg
  have HT := Lib.hid ht
  have HUA := Lib.hid hua
  have HUB := Lib.hid hub
  have HLV := Lib.hid hlv
  clear hF hbg hat ht hua hub hlv
  go_enter Try.func18, Try.ntmps18
  go_wp2_with fail
  go_at_call 39
  refine (start_c base g f w HF.out HBG.out HT.out HUA.out HUB.out).mono ?_
  rintro e w1 ⟨rfl, q1, q2, q3⟩
  have d : decide (partN 11 f.ha f.hb f.top < 11) = false := decide_eq_false (by have := HLV.out; unfold Fk.lv at this; omega)
  rw [d]
  have e1 : w1.cell? ⟨g, 1, none⟩ = some (.int .i64 f.er) := (q1.c 1).trans rfl
  have e8 : w1.cell? ⟨g, 8, none⟩ = some (.int .i64 f.at_) := (q1.c 8).trans rfl
  have f1 : w1.frozen? ⟨g, 1, none⟩ = false := blk_frozen q1 1
  have f8 : w1.frozen? ⟨g, 8, none⟩ = false := blk_frozen q1 8
  have Q1 := Lib.hid q1
  have Q2 := Lib.hid q2
  have Q3 := Lib.hid q3
  clear q1 q2 q3 d c8
  go_wp2_with fail
  go_ret
  exact ⟨rfl, (Q1.out.set 1 _ (f' := { f with level := f.lv, er := 5 }) rfl).set 8 _ rfl, Kept.setCell (S := fun j => j = g) (Kept.setCell (S := fun j => j = g) Q2.out (p := ⟨g, 1, none⟩) (.inl rfl) _) (p := ⟨g, 8, none⟩) (.inl rfl) _, (Q3.out.setCell (p := ⟨g, 1, none⟩) HBG.out _).setCell (p := ⟨g, 8, none⟩) HBG.out _⟩
set_option maxRecDepth 100000 in
set_option maxHeartbeats 4000000 in
theorem forkstep0_nv (base g : Nat) (f : Fk) (w : World) (hF : ForkAt w g f) (hbg : base ≤ g) (hat : f.at_ = 0) (ht : 0 ≤ f.top) (hua : isU f.ha) (hub : isU f.hb) (hlv : f.lv < 11) :
    Calls Try.prog 18 #[.pointer (some ⟨g, 0, none⟩), .pointer none] w fun e w' => e = .returned (.bool true) ∧ ForkAt w' g { f with level := f.lv, wd := 0, er := 30, at_ := 5, x := 0 } ∧ Kept w w' (fun j => j = g) ∧ Below base w w' := by
  have c8 : w.cell? ⟨g, 8, none⟩ = some (.int .i64 0) := by rw [hF.c 8, hat]; rfl
  have HF := Lib.hid hF
  have HBG := Lib.hid hbg
  have HT := Lib.hid ht
  have HUA := Lib.hid hua
  have HUB := Lib.hid hub
  have HLV := Lib.hid hlv
  clear hF hbg hat ht hua hub hlv
  go_enter Try.func18, Try.ntmps18
  go_wp2_with fail
  go_at_call 39
  refine (start_c base g f w HF.out HBG.out HT.out HUA.out HUB.out).mono ?_
  rintro e w1 ⟨rfl, q1, q2, q3⟩
  have d : decide (partN 11 f.ha f.hb f.top < 11) = true := decide_eq_true HLV.out
  rw [d]
  have e2 : w1.cell? ⟨g, 2, none⟩ = some (.int .u64 f.a) := (q1.c 2).trans rfl
  have Q1 := Lib.hid q1
  have Q2 := Lib.hid q2
  have Q3 := Lib.hid q3
  clear q1 q2 q3 d c8
  go_wp2_with fail
  go_at_call 40
  have hA : ForkAt (w1.alloc (.cells #[.int .u64 f.a, .int .u64 1, .int .u64 0] 33)) g { f with level := f.lv } := alloc_blk Q1.out
  refine (fresh_nv base g { f with level := f.lv } _ _ hA HBG.out).mono ?_
  rintro e w2 ⟨rfl, q1, q2, q3⟩
  have q1' : ForkAt w2 g { f with level := f.lv, wd := 0, er := 30, at_ := 5 } := q1
  have e8 : w2.cell? ⟨g, 8, none⟩ = some (.int .i64 5) := (q1'.c 8).trans rfl
  have e9 : w2.cell? ⟨g, 9, none⟩ = some (.int .u64 f.x) := (q1'.c 9).trans rfl
  have f9 : w2.frozen? ⟨g, 9, none⟩ = false := blk_frozen q1' 9
  have R1 := Lib.hid q1'
  have R2 : Hid (Kept w w2 (fun j => j = g)) := Lib.hid ((Q2.out.alloc _).then_ q2 (fun j e => .inl e))
  have R3 : Hid (Below base w w2) := Lib.hid ((Q3.out.alloc (by have := HBG.out; have := blk_lt Q1.out; omega) _).trans q3)
  clear q1 q1' q2 q3 hA e2
  go_wp2_with fail
  go_ret
  exact ⟨rfl, R1.out.set 9 _ rfl, Kept.setCell (S := fun j => j = g) R2.out (p := ⟨g, 9, none⟩) (.inl rfl) _, R3.out.setCell (p := ⟨g, 9, none⟩) HBG.out _⟩
end Go.Proofs.Ytbpkepcbmenbcaa.Ar
