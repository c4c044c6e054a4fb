import Derived.Test.YtbpkepcbmenbcaaNo3
namespace Go.Proofs.Ytbpkepcbmenbcaa.Ar
open Go.RowKit Go.Proofs.YtbpkepcbmenbcaaW.PrintWords Go.Proofs.YtbpkepcbmenbcaaW.PrintLast Go.Proofs.YtbpkepcbmenbcaaW.PrintMore
set_option linter.unusedVariables false
set_option linter.unusedSimpArgs false
/-- A mixed key's digit at a level. -/
def digF (h l : Int) : Int := if l = 0 then h / 288230376151711744 % 64 else if l = 1 then h / 4503599627370496 % 64 else if l = 2 then h / 70368744177664 % 64 else if l = 3 then h / 1099511627776 % 64 else if l = 4 then h / 17179869184 % 64 else if l = 5 then h / 268435456 % 64 else if l = 6 then h / 4194304 % 64 else if l = 7 then h / 65536 % 64 else if l = 8 then h / 1024 % 64 else if l = 9 then h / 16 % 64 else if l = 10 then h % 16 else 0
theorem digF_range (h l : Int) : 0 ≤ digF h l ∧ digF h l < 64 := by
  unfold digF
  repeat' split
  all_goals omega
theorem u64_and63 (x : Int) (h0 : 0 ≤ x) (h1 : x < 18446744073709551616) : bits .and .u64 x 63 = x % 64 := bits_mask .u64 64 (by decide) wraps_u64 6 (by decide) x h0 h1
theorem u64_and15 (x : Int) (h0 : 0 ≤ x) (h1 : x < 18446744073709551616) : bits .and .u64 x 15 = x % 16 := bits_mask .u64 64 (by decide) wraps_u64 4 (by decide) x h0 h1
def isU (x : Int) : Prop := 0 ≤ x ∧ x < 18446744073709551616
set_option maxRecDepth 100000 in
set_option maxHeartbeats 4000000 in
theorem digit_c (h l : Int) (w : World) (hh : isU h) :
    Calls Try.prog 23 #[.int .u64 h, .int .i64 l] w fun e w' => e = .returned (.int .i64 (digF h l)) ∧ w = w' := by
  have h0 : 0 ≤ h := hh.1
  have HH := Lib.hid hh
  clear hh
  by_cases hl : l < 0 ∨ 11 ≤ l
  · have e : digF h l = 0 := by
      unfold digF
      repeat (rw [if_neg (by omega)])
    rw [e]
    clear e
    rcases hl with hl | hl
    · go_enter Try.func23, Try.ntmps23
      go_wp2_with fail
      go_ret
      exact ⟨rfl, rfl⟩
    · have hl2 : ¬ l < 0 := by omega
      go_enter Try.func23, Try.ntmps23
      go_wp2_with fail
      go_ret
      exact ⟨rfl, rfl⟩
  · obtain rfl | rfl | rfl | rfl | rfl | rfl | rfl | rfl | rfl | rfl | rfl : l = 0 ∨ l = 1 ∨ l = 2 ∨ l = 3 ∨ l = 4 ∨ l = 5 ∨ l = 6 ∨ l = 7 ∨ l = 8 ∨ l = 9 ∨ l = 10 := by omega
    · have e := u64_and63 (h / 288230376151711744) (by omega) (by have := HH.out.2; omega)
      have e2 : digF h 0 = h / 288230376151711744 % 64 := rfl
      rw [e2]
      clear hl e2
      go_enter Try.func23, Try.ntmps23
      go_wp2_with fail
      go_ret
      exact ⟨rfl, rfl⟩
    · have e := u64_and63 (h / 4503599627370496) (by omega) (by have := HH.out.2; omega)
      have e2 : digF h 1 = h / 4503599627370496 % 64 := rfl
      rw [e2]
      clear hl e2
      go_enter Try.func23, Try.ntmps23
      go_wp2_with fail
      go_ret
      exact ⟨rfl, rfl⟩
    · have e := u64_and63 (h / 70368744177664) (by omega) (by have := HH.out.2; omega)
      have e2 : digF h 2 = h / 70368744177664 % 64 := rfl
      rw [e2]
      clear hl e2
      go_enter Try.func23, Try.ntmps23
      go_wp2_with fail
      go_ret
      exact ⟨rfl, rfl⟩
    · have e := u64_and63 (h / 1099511627776) (by omega) (by have := HH.out.2; omega)
      have e2 : digF h 3 = h / 1099511627776 % 64 := rfl
      rw [e2]
      clear hl e2
      go_enter Try.func23, Try.ntmps23
      go_wp2_with fail
      go_ret
      exact ⟨rfl, rfl⟩
    · have e := u64_and63 (h / 17179869184) (by omega) (by have := HH.out.2; omega)
      have e2 : digF h 4 = h / 17179869184 % 64 := rfl
      rw [e2]
      clear hl e2
      go_enter Try.func23, Try.ntmps23
      go_wp2_with fail
      go_ret
      exact ⟨rfl, rfl⟩
    · have e := u64_and63 (h / 268435456) (by omega) (by have := HH.out.2; omega)
      have e2 : digF h 5 = h / 268435456 % 64 := rfl
      rw [e2]
      clear hl e2
      go_enter Try.func23, Try.ntmps23
      go_wp2_with fail
      go_ret
      exact ⟨rfl, rfl⟩
    · have e := u64_and63 (h / 4194304) (by omega) (by have := HH.out.2; omega)
      have e2 : digF h 6 = h / 4194304 % 64 := rfl
      rw [e2]
      clear hl e2
      go_enter Try.func23, Try.ntmps23
      go_wp2_with fail
      go_ret
      exact ⟨rfl, rfl⟩
    · have e := u64_and63 (h / 65536) (by omega) (by have := HH.out.2; omega)
      have e2 : digF h 7 = h / 65536 % 64 := rfl
      rw [e2]
      clear hl e2
      go_enter Try.func23, Try.ntmps23
      go_wp2_with fail
      go_ret
      exact ⟨rfl, rfl⟩
    · have e := u64_and63 (h / 1024) (by omega) (by have := HH.out.2; omega)
      have e2 : digF h 8 = h / 1024 % 64 := rfl
      rw [e2]
      clear hl e2
      go_enter Try.func23, Try.ntmps23
      go_wp2_with fail
      go_ret
      exact ⟨rfl, rfl⟩
    · have e := u64_and63 (h / 16) (by omega) (by have := HH.out.2; omega)
      have e2 : digF h 9 = h / 16 % 64 := rfl
      rw [e2]
      clear hl e2
      go_enter Try.func23, Try.ntmps23
      go_wp2_with fail
      go_ret
      exact ⟨rfl, rfl⟩
    · have e := u64_and15 h h0 HH.out.2
      have e2 : digF h 10 = h % 16 := rfl
      rw [e2]
      clear hl e2
      go_enter Try.func23, Try.ntmps23
      go_wp2_with fail
      go_ret
      exact ⟨rfl, rfl⟩
/-- A Fork. -/
structure Fk where
  wd : Int
  er : Int
  a : Int
  ha : Int
  b : Int
  hb : Int
  top : Int
  level : Int
  at_ : Int
  x : Int
  y : Int
def ForkAt (w : World) (g : Nat) (f : Fk) : Prop := w.heap[g]? = some (.cells #[.int .u64 f.wd, .int .i64 f.er, .int .u64 f.a, .int .u64 f.ha, .int .u64 f.b, .int .u64 f.hb, .int .i64 f.top, .int .i64 f.level, .int .i64 f.at_, .int .u64 f.x, .int .u64 f.y] 116 (0, 0))
theorem ForkAt.c {w : World} {g : Nat} {f : Fk} (h : ForkAt w g f) (i : Nat) : w.cell? ⟨g, i, none⟩ = (#[.int .u64 f.wd, .int .i64 f.er, .int .u64 f.a, .int .u64 f.ha, .int .u64 f.b, .int .u64 f.hb, .int .i64 f.top, .int .i64 f.level, .int .i64 f.at_, .int .u64 f.x, .int .u64 f.y] : Array Value)[i]? := blk_cell h i
set_option maxRecDepth 100000 in
set_option maxHeartbeats 1000000 in
theorem newfork_c (a ha b hb l : Int) (w : World) :
    Calls Try.prog 22 #[.int .u64 a, .int .u64 ha, .int .u64 b, .int .u64 hb, .int .i64 l] w fun e w' => e = .returned (.pointer (some ⟨w.heap.size, 0, none⟩)) ∧ ForkAt w' w.heap.size ⟨0, 0, a, ha, b, hb, max l 0, 0, 0, 0, 0⟩ ∧ Below w.heap.size w w' := by
  go_enter Try.func22, Try.ntmps22
  go_wp2_with fail
  · have e : max l 0 = 0 := by omega
    rw [e]
    go_ret
    exact ⟨rfl, heap_alloc_new w _, below_alloc (Below.refl _ _) _⟩
  · have e : max l 0 = l := by omega
    rw [e]
    go_ret
    exact ⟨rfl, heap_alloc_new w _, below_alloc (Below.refl _ _) _⟩
/-- The first level from l on at which two mixed keys part (k levels are looked at). -/
def partN : Nat → Int → Int → Int → Int
  | 0, _, _, l => l
  | k + 1, ha, hb, l => if l < 11 ∧ digF ha l = digF hb l then partN k ha hb (l + 1) else l
theorem partN_stop {k : Nat} {ha hb l : Int} (h : ¬ (l < 11 ∧ digF ha l = digF hb l)) : partN k ha hb l = l := by
  cases k with
  | zero => rfl
  | succ k => exact if_neg h
theorem partN_go {k : Nat} {ha hb l : Int} (h : l < 11 ∧ digF ha l = digF hb l) : partN (k + 1) ha hb l = partN k ha hb (l + 1) := if_pos h
set_option maxRecDepth 100000 in
set_option maxHeartbeats 4000000 in
theorem start_c (base g : Nat) (f : Fk) (w : World) (hF : ForkAt w g f) (hbg : base ≤ g) (ht : 0 ≤ f.top) (hua : isU f.ha) (hub : isU f.hb) :
    Calls Try.prog 39 #[.pointer (some ⟨g, 0, none⟩)] w fun e w' => e = .returned (.bool (decide (partN 11 f.ha f.hb f.top < 11))) ∧ ForkAt w' g { f with level := partN 11 f.ha f.hb f.top } ∧ Kept w w' (fun j => j = g) ∧ Below base w w' := by
  obtain ⟨fwd, fer, fa, fha, fb, fhb, ftop, flv, fat, fx, fy⟩ := f
  simp only at ht hua hub ⊢
  have c6 : w.cell? ⟨g, 6, none⟩ = some (.int .i64 ftop) := (hF.c 6).trans rfl
  have c7 : w.cell? ⟨g, 7, none⟩ = some (.int .i64 flv) := (hF.c 7).trans rfl
  have f7 : w.frozen? ⟨g, 7, none⟩ = false := blk_frozen hF 7
  have HF := Lib.hid hF
  have HBG := Lib.hid hbg
  have HT := Lib.hid ht
  have HUA := Lib.hid hua
  have HUB := Lib.hid hub
  clear hF hbg ht hua hub
  go_enter Try.func39, Try.ntmps39
  go_wp2_with fail
  have hF1 : ForkAt (w.setCell ⟨g, 7, none⟩ (.int .i64 ftop)) g ⟨fwd, fer, fa, fha, fb, fhb, ftop, ftop, fat, fx, fy⟩ := (blk_set HF.out 7 _).trans rfl
  have HF1 := Lib.hid hF1
  have HK1 : Hid (Kept w (w.setCell ⟨g, 7, none⟩ (.int .i64 ftop)) (fun j => j = g)) := Lib.hid (Kept.setCell (S := fun j => j = g) (Kept.refl _ _) (p := ⟨g, 7, none⟩) (.inl rfl) _)
  have HB1 : Hid (Below base w (w.setCell ⟨g, 7, none⟩ (.int .i64 ftop))) := Lib.hid ((Below.refl _ _).setCell (p := ⟨g, 7, none⟩) HBG.out _)
  clear hF1 c6 c7 f7
  go_loopg [] 11 (fun kq w' => ∃ lv : Int, 0 ≤ lv ∧ Hid (11 ≤ lv + kq) ∧ Hid (partN kq fha fhb lv = partN 11 fha fhb ftop) ∧ Hid (ForkAt w' g ⟨fwd, fer, fa, fha, fb, fhb, ftop, lv, fat, fx, fy⟩) ∧ Hid (Kept w w' (fun j => j = g)) ∧ Hid (Below base w w'))
  case atStart => exact ⟨ftop, HT.out, Lib.hid (by have := HT.out; omega), Lib.hid rfl, HF1, HK1, HB1⟩
  case round =>
    clear HF1 HK1 HB1
    obtain ⟨lv, hlv0, HLK, HP, HF1, HK1, HB1⟩ := hrel
    have c3 : wr.cell? ⟨g, 3, none⟩ = some (.int .u64 fha) := (HF1.out.c 3).trans rfl
    have c5 : wr.cell? ⟨g, 5, none⟩ = some (.int .u64 fhb) := (HF1.out.c 5).trans rfl
    have c7 : wr.cell? ⟨g, 7, none⟩ = some (.int .i64 lv) := (HF1.out.c 7).trans rfl
    have f7 : wr.frozen? ⟨g, 7, none⟩ = false := blk_frozen HF1.out 7
    by_cases hc : lv < 11 ∧ digF fha lv = digF fhb lv
    · have hl : lv < 11 := hc.1
      have he : (digF fha lv == digF fhb lv) = true := by simp [hc.2]
      have HC := Lib.hid hc
      clear hc
      go_wp2_with fail
      go_quiet ((go_at_call 23; exact calls_q (digit_c _ _ _ (by first | exact HUA.out | exact HUB.out))))
      go_wp2_with fail
      have HGP : Hid (0 < gk) := Lib.hid (by have := HLK.out; omega)
      go_roundg (gk - 1)
      case measure => have := HGP.out; omega
      case rel =>
        obtain ⟨k, rfl⟩ : ∃ k, gk = k + 1 := ⟨gk - 1, by have := HGP.out; omega⟩
        exact ⟨lv + 1, by omega, Lib.hid (by have := HLK.out; omega), Lib.hid (by rw [← HP.out, partN_go HC.out]; rfl), Lib.hid ((blk_set (w := wr) HF1.out 7 _).trans rfl), Lib.hid ((HK1.out.drewN _).setCell (p := ⟨g, 7, none⟩) (.inl rfl) _), Lib.hid ((pw_below_drewN HB1.out _).setCell (p := ⟨g, 7, none⟩) HBG.out _)⟩
    · have hp : partN 11 fha fhb ftop = lv := by rw [← HP.out]; exact partN_stop hc
      have HPP := Lib.hid hp
      clear hp
      by_cases hl : lv < 11
      · have he : (digF fha lv == digF fhb lv) = false := by simp; exact fun e => hc ⟨hl, e⟩
        clear hc
        go_wp2_with fail
        go_quiet ((go_at_call 23; exact calls_q (digit_c _ _ _ (by first | exact HUA.out | exact HUB.out))))
        go_wp2_with fail
        go_ret
        rw [HPP.out]
        exact ⟨by simp [hl], HF1.out, HK1.out.drewN _, pw_below_drewN HB1.out _⟩
      · clear hc
        have hl2 : decide (lv < 11) = false := by simpa using hl
        go_wp2_with fail
        go_quiet ((go_at_call 23; exact calls_q (digit_c _ _ _ (by first | exact HUA.out | exact HUB.out))))
        go_wp2_with fail
        go_ret
        rw [HPP.out]
        exact ⟨by rw [hl2]; rfl, HF1.out, HK1.out.drewN _, pw_below_drewN HB1.out _⟩
end Go.Proofs.Ytbpkepcbmenbcaa.Ar
