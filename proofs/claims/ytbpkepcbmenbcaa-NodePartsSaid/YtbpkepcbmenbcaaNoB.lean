import Derived.Test.YtbpkepcbmenbcaaNo9
import Derived.Test.YtbpkepcbmenbcaaNo4
namespace Go.Proofs.Ytbpkepcbmenbcaa.Ar
open Go.RowKit Go.Proofs.YtbpkepcbmenbcaaW.PrintWords Go.Proofs.YtbpkepcbmenbcaaW.PrintLast Go.Proofs.YtbpkepcbmenbcaaW.PrintMore
set_option linter.unusedVariables false
set_option linter.unusedSimpArgs false
def knownB (a b level : Int) : Nat → Bool
  | 0 => true
  | i + 1 => knownB a b level i && !(decide (level ≤ (i : Int)) && (digF a i != digF b i))
theorem known_yes (a b level : Int) : ∀ n : Nat, (knownB a b level n = true ↔ ∀ j : Nat, j < n → level ≤ (j : Int) → digF a j = digF b j)
  | 0 => by simp [knownB]
  | n + 1 => by
    simp only [knownB, Bool.and_eq_true, known_yes a b level n]
    constructor
    · intro ⟨h1, h2⟩ j hj hl
      rcases Nat.lt_or_ge j n with h | h
      · exact h1 j h hl
      · obtain rfl : j = n := by omega
        simpa [hl] using h2
    · intro h
      refine ⟨fun j hj => h j (by omega), ?_⟩
      by_cases hl : level ≤ (n : Int)
      · simp [hl, h n (by omega) hl]
      · simp [hl]
theorem partN_iff (ha hb : Int) : ∀ (k : Nat) (l : Int), 0 ≤ l → 11 ≤ l + k → (¬ partN k ha hb l < 11 ↔ ∀ j : Nat, j < 11 → l ≤ (j : Int) → digF ha j = digF hb j)
  | 0, l, h0, h => by
    simp only [partN]
    exact ⟨fun _ j hj hl => by omega, fun _ => by omega⟩
  | k + 1, l, h0, h => by
    by_cases hc : l < 11 ∧ digF ha l = digF hb l
    · rw [partN_go hc, partN_iff ha hb k (l + 1) (by omega) (by omega)]
      constructor
      · intro H j hj hl
        rcases Int.lt_or_eq_of_le hl with h1 | h1
        · exact H j hj (by omega)
        · rw [← h1]; exact hc.2
      · intro H j hj hl
        exact H j hj (by omega)
    · rw [partN_stop hc]
      constructor
      · intro H j hj hl
        omega
      · intro H hl
        have h1 := H l.toNat (by omega) (by omega)
        rw [show ((l.toNat : Nat) : Int) = l by omega] at h1
        exact hc ⟨hl, h1⟩
theorem known_part (a b level : Int) : knownB a b level 11 = true ↔ ¬ partN 11 a b (max level 0) < 11 := by
  rw [known_yes, partN_iff a b 11 _ (by omega) (by omega)]
  constructor
  · intro h j hj hl
    exact h j hj (by omega)
  · intro h j hj hl
    exact h j hj (by omega)
theorem forkstep0_none (base p : Nat) (a b level : Int) (w : World) (hF : ForkAt w p ⟨0, 0, 1, a, 2, b, max level 0, 0, 0, 0, 0⟩) (hbp : base ≤ p) (hua : isU a) (hub : isU b) :
    Calls Try.prog 18 #[.pointer (some ⟨p, 0, none⟩), .pointer none] w fun e w' => e = .returned (.bool true) ∧ ∃ fk : Fk, ForkAt w' p fk ∧ fk.er = (if knownB a b level 11 = true then 5 else 30) ∧ fk.word = 0 ∧ Kept w w' (fun j => j = p) ∧ Below base w w' := by
  by_cases hlv : partN 11 a b (max level 0) < 11
  · have hkn : ¬ knownB a b level 11 = true := fun h => (known_part a b level).1 h hlv
    refine (forkstep0_nv base p _ w hF hbp rfl (by show (0 : Int) ≤ max level 0; omega) hua hub hlv).mono ?_
    rintro e w' ⟨rfl, q1, q2, q3⟩
    exact ⟨rfl, _, q1, by rw [if_neg hkn], rfl, q2, q3⟩
  · have hkn : knownB a b level 11 = true := (known_part a b level).2 hlv
    refine (forkstep0_known base p _ _ w hF hbp rfl (by show (0 : Int) ≤ max level 0; omega) hua hub hlv).mono ?_
    rintro e w' ⟨rfl, q1, q2, q3⟩
    exact ⟨rfl, _, q1, by rw [if_pos hkn], rfl, q2, q3⟩
set_option maxRecDepth 100000 in
set_option maxHeartbeats 16000000 in
theorem none_c (a b level : Int) (w : World) (hua : isU a) (hub : isU b) :
    Calls Try.prog 4 #[.int .u64 a, .int .u64 b, .int .i64 level] w fun e w' => e = .returned (.bool true) ∧ Below w.heap.size w w' := by
  have HUA := Lib.hid hua
  have HUB := Lib.hid hub
  have HKP := Lib.hid (known_part a b level)
  clear hua hub
  go_enter Try.func4, Try.ntmps4
  go_wp2_with fail
  go_at_call 7
  refine (live_c w).mono ?_
  rintro e w0 ⟨rfl, q0⟩
  have B0 := Lib.hid q0
  clear q0
  go_wp2_with fail
  go_at_call 8
  refine (new_c 128 w0 (by omega) (by omega)).mono ?_
  rintro e w1 ⟨gm, rfl, q1, q2⟩
  have B1 := Lib.hid (B0.out.trans (q2.mono B0.out.size))
  clear q1 q2
  go_wp2_with fail
  go_at_call 9
  refine (view_c gm 0 w1).mono ?_
  rintro e w2 ⟨rfl, q1, q2⟩
  have V2 := Lib.hid q1
  have B2 := Lib.hid (B1.out.trans (q2.mono B1.out.size))
  obtain ⟨gv, hgv2⟩ : ∃ gv, gv = w1.heap.size := ⟨_, rfl⟩
  rw [← hgv2] at V2 ⊢
  clear q1 q2 hgv2 B1 B0
  go_wp2_with fail
  go_at_call 11
  refine (leafstep_nil _ _).mono ?_
  rintro e w' ⟨rfl, rfl⟩
  go_wp2_with fail
  go_at_call 18
  refine (forkstep_nil _ _).mono ?_
  rintro e w' ⟨rfl, rfl⟩
  go_wp2_with fail
  go_at_call 16
  refine (lookstep_nil _ _).mono ?_
  rintro e w' ⟨rfl, rfl⟩
  go_wp2_with fail
  go_at_call 13
  refine (leafword_nil _).mono ?_
  rintro e w' ⟨rfl, rfl⟩
  go_wp2_with fail
  go_at_call 19
  refine (forkword_nil _).mono ?_
  rintro e w' ⟨rfl, rfl⟩
  go_wp2_with fail
  go_at_call 12
  refine (leaferr_nil _).mono ?_
  rintro e w' ⟨rfl, rfl⟩
  go_wp2_with fail
  go_at_call 20
  refine (forkerr_nil _).mono ?_
  rintro e w' ⟨rfl, rfl⟩
  go_wp2_with fail
  go_at_call 17
  refine (lookpair_nil _).mono ?_
  rintro e w3 ⟨rfl, q1⟩
  have V3 : Hid (ViewAt w3 gv gm 0 0) := Lib.hid (blk_kept V2.out (Kept.of_below q1 (fun _ => False)) (fun h => h))
  have B3 := Lib.hid (B2.out.trans (q1.mono B2.out.size))
  clear q1 V2 B2
  go_wp2_with fail
  go_at_call 21
  refine (accesses_c _ _ _ _ _ V3.out).mono ?_
  rintro e w' ⟨rfl, rfl⟩
  clear V3
  go_wp2_with fail
  go_at_call 10
  refine (newleaf_c a b _).mono ?_
  rintro e w4 ⟨rfl, q1, q2⟩
  obtain ⟨g, hg⟩ : ∃ g, g = w3.heap.size := ⟨_, rfl⟩
  have hbg : w.heap.size ≤ g := by rw [hg]; exact B3.out.size
  rw [← hg] at q1 ⊢
  have L4 := Lib.hid q1
  have B4 := Lib.hid (B3.out.trans (q2.mono B3.out.size))
  have HBG := Lib.hid hbg
  clear q1 q2 hg hbg B3
  go_wp2_with fail
  go_at_call 22
  refine (newfork_c 1 a 2 b level _).mono ?_
  rintro e w5 ⟨rfl, q1, q2⟩
  obtain ⟨p, hp⟩ : ∃ p, p = w4.heap.size := ⟨_, rfl⟩
  have hbp : w.heap.size ≤ p := by rw [hp]; exact B4.out.size
  rw [← hp] at q1 ⊢
  have F5 := Lib.hid q1
  have L5 : Hid (LeafAt w5 g 0 0 a b false) := Lib.hid (blk_kept L4.out (Kept.of_below q2 (fun _ => False)) (fun h => h))
  have B5 := Lib.hid (B4.out.trans (q2.mono B4.out.size))
  have HBP := Lib.hid hbp
  clear q1 q2 hp hbp B4 L4
  go_wp2_with fail
  go_at_call 15
  refine (newlook_c a _).mono ?_
  rintro e w6 ⟨rfl, q1, q2⟩
  obtain ⟨q, hq⟩ : ∃ q, q = w5.heap.size := ⟨_, rfl⟩
  have hbq : w.heap.size ≤ q := by rw [hq]; exact B5.out.size
  rw [← hq] at q1 ⊢
  have K6 := Lib.hid q1
  have L6 : Hid (LeafAt w6 g 0 0 a b false) := Lib.hid (blk_kept L5.out (Kept.of_below q2 (fun _ => False)) (fun h => h))
  have F6 : Hid (ForkAt w6 p ⟨0, 0, 1, a, 2, b, max level 0, 0, 0, 0, 0⟩) := Lib.hid (blk_kept F5.out (Kept.of_below q2 (fun _ => False)) (fun h => h))
  have B6 := Lib.hid (B5.out.trans (q2.mono B5.out.size))
  have HBQ := Lib.hid hbq
  have hgp : g ≠ p := blk_ne L6.out F6.out (by decide)
  have hgq : g ≠ q := blk_ne L6.out K6.out (by decide)
  have hpq : p ≠ q := blk_ne F6.out K6.out (by decide)
  have HGP := Lib.hid hgp
  have HGQ := Lib.hid hgq
  have HPQ := Lib.hid hpq
  clear q1 q2 hq hbq B5 L5 F5 hgp hgq hpq
  go_wp2_with fail
  go_at_call 11
  refine (leafstep_nv w.heap.size g a b w6 L6.out HBG.out).mono ?_
  rintro e w7 ⟨rfl, q1, q2, q3⟩
  have L7 := Lib.hid q1
  have F7 : Hid (ForkAt w7 p ⟨0, 0, 1, a, 2, b, max level 0, 0, 0, 0, 0⟩) := Lib.hid (blk_kept F6.out q2 (fun h => HGP.out h.symm))
  have K7 : Hid (LookAt w7 q a 0 0 0 0) := Lib.hid (blk_kept K6.out q2 (fun h => HGQ.out h.symm))
  have B7 := Lib.hid (B6.out.trans q3)
  clear q1 q2 q3 L6 F6 K6 B6
  go_wp2_with fail
  go_at_call 18
  refine (forkstep0_none w.heap.size p a b level w7 F7.out HBP.out HUA.out HUB.out).mono ?_
  rintro e w8 ⟨rfl, fk, q1, her, hwd, q2, q3⟩
  have L8 : Hid (LeafAt w8 g 0 30 a b true) := Lib.hid (blk_kept L7.out q2 HGP.out)
  have K8 : Hid (LookAt w8 q a 0 0 0 0) := Lib.hid (blk_kept K7.out q2 (fun h => HPQ.out h.symm))
  have F8 : Hid (ForkAt w8 p fk) := Lib.hid q1
  have B8 := Lib.hid (B7.out.trans q3)
  have HER := Lib.hid her
  have HWD := Lib.hid hwd
  clear q1 q2 q3 L7 F7 K7 B7 her hwd
  go_wp2_with fail
  go_at_call 16
  refine (lookstep0_nv w.heap.size q a w8 K8.out HBQ.out).mono ?_
  rintro e w9 ⟨rfl, q1, q2, q3⟩
  have L9 : Hid (LeafAt w9 g 0 30 a b true) := Lib.hid (blk_kept L8.out q2 HGQ.out)
  have F9 : Hid (ForkAt w9 p fk) := Lib.hid (blk_kept F8.out q2 HPQ.out)
  have K9 := Lib.hid q1
  have B9 := Lib.hid (B8.out.trans q3)
  clear q1 q2 q3 L8 F8 K8 B8
  go_wp2_with fail
  go_at_call 16
  refine (lookstep1_nv w.heap.size q a w9 K9.out HBQ.out).mono ?_
  rintro e wA ⟨rfl, q1, q2, q3⟩
  have LA : Hid (LeafAt wA g 0 30 a b true) := Lib.hid (blk_kept L9.out q2 HGQ.out)
  have FA : Hid (ForkAt wA p fk) := Lib.hid (blk_kept F9.out q2 HPQ.out)
  have KA := Lib.hid q1
  have BA := Lib.hid (B9.out.trans q3)
  clear q1 q2 q3 L9 F9 K9 B9
  go_wp2_with fail
  go_loopg [18, 19] 11 (fun kq v18 v19 w' => ∃ (x : Int) (i : Nat), v18 = .bool (knownB a b level i) ∧ v19 = .int .i64 x ∧ 0 ≤ x ∧ Hid (x = i) ∧ Hid (kq + i = 11) ∧ w' = wA)
  case atStart => exact ⟨0, 0, rfl, rfl, by omega, Lib.hid rfl, Lib.hid rfl, rfl⟩
  case round =>
    obtain ⟨x, i, rfl, rfl, hx0, HX, HK, rfl⟩ := hrel
    by_cases hx : x < 11
    · have HGP0 : Hid (0 < gk) := Lib.hid (by have := HK.out; have := HX.out; omega)
      have hs : knownB a b level (i + 1) = (knownB a b level i && !(decide (level ≤ x) && (digF a x != digF b x))) := by
        have := HX.out
        subst this
        rfl
      have HS := Lib.hid hs
      clear hs
      by_cases h1 : level ≤ x
      · by_cases h2 : digF a x = digF b x
        · have h3 : (digF a x != digF b x) = false := by simpa using h2
          have e5 : knownB a b level (i + 1) = knownB a b level i := by rw [HS.out, h3]; simp
          have E5 := Lib.hid e5
          clear e5 h2
          go_wp2_with fail
          go_at_call 23
          refine (digit_c a x _ HUA.out).mono ?_
          rintro e w' ⟨rfl, rfl⟩
          go_wp2_with fail
          go_at_call 23
          refine (digit_c b x _ HUB.out).mono ?_
          rintro e w' ⟨rfl, rfl⟩
          go_wp2_with fail
          go_roundg (gk - 1)
          case measure => have := HGP0.out; omega
          case rel => exact ⟨x + 1, i + 1, by rw [E5.out], rfl, by omega, Lib.hid (by have := HX.out; omega), Lib.hid (by have h5 := HK.out; have h6 := HGP0.out; omega), rfl⟩
        · have h3 : (digF a x != digF b x) = true := by simpa using h2
          have e5 : knownB a b level (i + 1) = false := by rw [HS.out, h3]; simp [h1]
          have E5 := Lib.hid e5
          clear e5 h2
          go_wp2_with fail
          go_at_call 23
          refine (digit_c a x _ HUA.out).mono ?_
          rintro e w' ⟨rfl, rfl⟩
          go_wp2_with fail
          go_at_call 23
          refine (digit_c b x _ HUB.out).mono ?_
          rintro e w' ⟨rfl, rfl⟩
          go_wp2_with fail
          go_roundg (gk - 1)
          case measure => have := HGP0.out; omega
          case rel => exact ⟨x + 1, i + 1, by rw [E5.out], rfl, by omega, Lib.hid (by have := HX.out; omega), Lib.hid (by have h5 := HK.out; have h6 := HGP0.out; omega), rfl⟩
      · have e5 : knownB a b level (i + 1) = knownB a b level i := by rw [HS.out]; simp [h1]
        have E5 := Lib.hid e5
        clear e5
        go_wp2_with fail
        go_roundg (gk - 1)
        case measure => have := HGP0.out; omega
        case rel => exact ⟨x + 1, i + 1, by rw [E5.out], rfl, by omega, Lib.hid (by have := HX.out; omega), Lib.hid (by have h5 := HK.out; have h6 := HGP0.out; omega), rfl⟩
    · obtain ⟨rfl⟩ : i = 11 := by have := HK.out; have := HX.out; omega
      obtain ⟨kb, hkb⟩ : ∃ kb, kb = knownB a b level 11 := ⟨_, rfl⟩
      rw [← hkb] at HER ⊢
      clear hkb HKP
      cases kb
      all_goals
        go_wp2_with fail
        go_at_call 12
        refine (leaferr_c _ _ _ _ _ _ _ LA.out).mono ?_
        rintro e w' ⟨rfl, rfl⟩
        go_wp2_with fail
        go_at_call 13
        refine (leafword_c _ _ _ _ _ _ _ LA.out).mono ?_
        rintro e w' ⟨rfl, rfl⟩
        go_wp2_with fail
        go_at_call 20
        refine (forkerr_c _ _ _ FA.out).mono ?_
        rintro e w' ⟨rfl, rfl⟩
        rw [HER.out]
        go_wp2_with fail
        go_at_call 19
        refine (forkword_c _ _ _ FA.out).mono ?_
        rintro e w' ⟨rfl, rfl⟩
        rw [HWD.out]
        go_wp2_with fail
        go_at_call 17
        refine (lookpair_c _ _ _ _ _ _ _ KA.out).mono ?_
        rintro e wB ⟨rfl, q1⟩
        have BB := Lib.hid (BA.out.trans (q1.mono BA.out.size))
        clear q1
        go_wp2_with fail
        go_ret
        exact ⟨rfl, BB.out⟩
end Go.Proofs.Ytbpkepcbmenbcaa.Ar
