import Derived.Test.YtbpkepcbmenbcaaNoQ
import Derived.Test.YtbpkepcbmenbcaaNoV
import Derived.Test.YtbpkepcbmenbcaaNo4
namespace Go.Proofs.Ytbpkepcbmenbcaa.Ar
open Go.RowKit Go.Proofs.YtbpkepcbmenbcaaW.PrintWords Go.Proofs.YtbpkepcbmenbcaaW.PrintLast Go.Proofs.YtbpkepcbmenbcaaW.PrintMore
set_option linter.unusedVariables false
set_option linter.unusedSimpArgs false
theorem PH.le {ha hb a b lv top : Int} {km i : Nat} {s : Ms} {f : Fk} (h : PH ha hb a b lv top km i s f) : i ≤ 2 + 2 * km := by
  rcases h with ⟨h1, h2, h3⟩ | ⟨h1, h2, h3⟩ | ⟨k, h1, hk, hP⟩ | ⟨k, h1, hk, hP⟩ <;> omega
theorem accessesX (gv gm made : Nat) (th x : Int) (w : World) (hv : ViewAt w gv gm th made) (hx : (made : Int) = x) :
    Calls Try.prog 21 #[.pointer (some ⟨gv, 0, none⟩)] w fun e w' => e = .returned (.int .i64 x) ∧ w = w' := by
  rw [← hx]; exact accesses_c gv gm made th w hv
theorem leftW_c (base : Nat) (S : Nat → Prop) (gm : Nat) (s : Ms) (v : Int) (w : World) (h : MemW w base S gm s) (hv : (s.cells.length : Int) - s.free = v) :
    Calls Try.prog 29 #[.pointer (some ⟨gm, 0, none⟩)] w fun e w' => e = .returned (.int .i64 v) ∧ ∃ m, w' = w.drewN m := by
  obtain ⟨gp, gl, vt, h⟩ := h
  rw [← hv]
  exact left_c base S gm gp gl s.free vt s.cells s.tr w h
theorem down_ver (base : Nat) (S : Nat → Prop) (gm : Nat) (s : Ms) (n o x : Int) (w : World) (h : MemW w base S gm s) (hV : Ver n s.cells o x) (hn : n ≤ s.cells.length) (h0 : 0 ≤ o) :
    Calls Try.prog 32 #[.pointer (some ⟨gm, 0, none⟩), .int .u64 o] w fun e w' => e = .returned (.tuple #[.int .u64 x, .bool true]) ∧ Below w.heap.size w w' := by
  obtain ⟨v, h1, h2, h3, h4, h5, h6⟩ := hV
  exact down_c base S gm s o v x w h h0 h1 h2 (by omega) h4 h5 h6
theorem wrapU (x : Int) (h0 : 0 ≤ x) (h1 : x < 4294967296) : IntKind.u64.wrap x = x := wraps_u64 x h0 (by omega)
set_option maxRecDepth 100000 in
set_option maxHeartbeats 16000000 in
theorem parts_known (a ha b hb level : Int) (w : World) (hua : isU ha) (hub : isU hb) (hlev : 0 ≤ level) (hlv : 11 ≤ partN 11 ha hb level) :
    Calls Try.prog 6 #[.agg #[.int .u64 a, .int .u64 ha, .int .u64 b, .int .u64 hb, .int .i64 level]] w fun e w' => e = .returned (.bool true) ∧ Below w.heap.size w w' := by
  have HUA := Lib.hid hua
  have HUB := Lib.hid hub
  have HLV := Lib.hid hlv
  clear hua hub hlv
  go_enter Try.func6, Try.ntmps6
  go_wp2_with fail
  go_at_call 7
  refine (live_c _).mono ?_
  rintro e w0 ⟨rfl, q0⟩
  have hblk : w0.heap[w.heap.size]? = some (.cells #[.int .u64 a, .int .u64 ha, .int .u64 b, .int .u64 hb, .int .i64 level] 81 (0, 0)) := blk_kept (heap_alloc_new w _) (Kept.of_below q0 (fun _ => False)) (fun h => h)
  have x0 : w0.cell? ⟨w.heap.size, 0, none⟩ = some (.int .u64 a) := (blk_cell hblk 0).trans rfl
  have x1 : w0.cell? ⟨w.heap.size, 1, none⟩ = some (.int .u64 ha) := (blk_cell hblk 1).trans rfl
  have x2 : w0.cell? ⟨w.heap.size, 2, none⟩ = some (.int .u64 b) := (blk_cell hblk 2).trans rfl
  have x3 : w0.cell? ⟨w.heap.size, 3, none⟩ = some (.int .u64 hb) := (blk_cell hblk 3).trans rfl
  have x4 : w0.cell? ⟨w.heap.size, 4, none⟩ = some (.int .i64 level) := (blk_cell hblk 4).trans rfl
  have B0 : Hid (Below w.heap.size w w0) := Lib.hid ((below_alloc (Below.refl _ _) _).trans (q0.mono (by simp)))
  clear q0 hblk
  go_wp2_with fail
  go_at_call 8
  refine (new_c 4000 w0 (by omega) (by omega)).mono ?_
  rintro e w1 ⟨gm, rfl, q1, q2⟩
  have M1 := Lib.hid q1
  have B1 := Lib.hid (B0.out.trans (q2.mono B0.out.size))
  have HB0 : Hid (w.heap.size ≤ w0.heap.size) := Lib.hid B0.out.size
  have HB1 : Hid (w0.heap.size ≤ w1.heap.size) := Lib.hid q2.size
  clear q1 q2 x0 x1 x2 x3 x4
  go_wp2_with fail
  go_at_call 9
  refine (view_c gm 0 w1).mono ?_
  rintro e w2 ⟨rfl, q1, q2⟩
  have M2 := Lib.hid ((M1.out.bound.kept (Kept.of_below q2 (fun _ => False)) (fun _ _ h => h)).mono (S' := fun k => w0.heap.size ≤ k ∧ k < w2.heap.size) (fun k hk => ⟨hk.1, by have := q2.size; omega⟩))
  have V2 := Lib.hid q1
  have B2 := Lib.hid (B1.out.trans (q2.mono B1.out.size))
  have hgv : w1.heap.size < w2.heap.size := blk_lt q1
  obtain ⟨gv, hgv2⟩ : ∃ gv, gv = w1.heap.size := ⟨_, rfl⟩
  have hbv : w0.heap.size ≤ gv := by rw [hgv2]; exact HB1.out
  rw [← hgv2] at V2 hgv ⊢
  have HGV := Lib.hid hgv
  have HBV := Lib.hid hbv
  clear q1 q2 M1 B1 hgv2 hgv hbv HB1 B0
  obtain ⟨base, hbase⟩ : ∃ b, b = w0.heap.size := ⟨_, rfl⟩
  rw [← hbase] at M2 HBV HB0
  clear hbase
  go_wp2_with fail
  go_at_call 22
  refine (newfork_c a ha b hb level w2).mono ?_
  rintro e w3 ⟨rfl, q1, q2⟩
  rw [show max (level : Int) 0 = level by omega] at q1
  obtain ⟨g, hg⟩ : ∃ g, g = w2.heap.size := ⟨_, rfl⟩
  have hbg : base ≤ g := by have := HBV.out; have := HGV.out; omega
  rw [← hg] at q1 HGV M2 ⊢
  have F3 := Lib.hid q1
  have M3 := Lib.hid (M2.out.kept (Kept.of_below q2 (fun _ => False)) (fun _ _ h => h))
  have V3 : Hid (ViewAt w3 gv gm 0 0) := Lib.hid (blk_kept V2.out (Kept.of_below q2 (fun _ => False)) (fun h => h))
  have B3 := Lib.hid (B2.out.trans (q2.mono B2.out.size))
  have HBG := Lib.hid hbg
  clear q1 q2 hg hbg M2 V2 B2
  go_wp2_with fail
  go_loopg [12] 0 (fun kq v12 w' => v12 = .int .i64 1 ∧ w' = w3)
  case atStart => exact ⟨rfl, rfl⟩
  case round =>
    obtain ⟨rfl, rfl⟩ := hrel
    go_wp2_with fail
    go_at_call 18
    refine (forkstep0_known base g ⟨0, 0, a, ha, b, hb, level, 0, 0, 0, 0⟩ _ wr F3.out HBG.out rfl (by show (0 : Int) ≤ level; omega) HUA.out HUB.out (by have := HLV.out; show ¬ partN 11 ha hb level < 11; omega)).mono ?_
    rintro e w4 ⟨rfl, q1, q2, q3⟩
    obtain ⟨f4, hf4⟩ : ∃ f4 : Fk, ForkAt w4 g f4 ∧ f4.er = 5 ∧ f4.word = 0 := ⟨_, q1, rfl, rfl⟩
    have F4 := Lib.hid hf4
    have M4 := Lib.hid (M3.out.kept q2 (fun k hk e => by have h5 := hk.2; omega))
    have V4 : Hid (ViewAt w4 gv gm 0 0) := Lib.hid (blk_kept V3.out q2 (blk_ne V3.out F3.out (by decide)))
    have B4 := Lib.hid (B3.out.trans (q3.mono HB0.out))
    clear q1 q2 q3 hf4
    go_wp2_with fail
    obtain ⟨K, hK⟩ : ∃ K : Nat, (K : Int) = if (level : Int) ≤ 11 then 11 - level else 0 := ⟨((if (level : Int) ≤ 11 then 11 - level else 0 : Int)).toNat, by split <;> omega⟩
    have HKK := Lib.hid hK
    clear hK
    obtain ⟨wE, hwE⟩ : ∃ W, W = w4 := ⟨_, rfl⟩
    rw [← hwE] at F4 M4 V4 B4 ⊢
    clear hwE
    go_loopg [13, 14] K (fun kq v13 v14 w' => ∃ (y : Int) (j : Nat), v13 = .int .i64 (topN ha hb j) ∧ v14 = .int .i64 y ∧ Hid (y = 10 - (j : Int)) ∧ Hid (kq + j = K) ∧ w' = wE)
    case atStart => exact ⟨10, 0, rfl, rfl, Lib.hid rfl, Lib.hid rfl, rfl⟩
    case round =>
      obtain ⟨y, j, rfl, rfl, HY, HKJ, rfl⟩ := hrel
      have hyb : y ≤ 10 := by have := HY.out; omega
      have hya : -11 ≤ y := by
        have h5 := HY.out; have h6 := HKJ.out; have h7 := HKK.out
        split at h7 <;> omega
      by_cases hy : level ≤ y
      · have HGK : Hid (0 < gk) := Lib.hid (by
          have h5 := HY.out; have h6 := HKJ.out; have h7 := HKK.out
          split at h7 <;> omega)
        go_wp2_with fail
        go_at_call 23
        refine (digit_c ha y _ HUA.out).mono ?_
        rintro e w' ⟨rfl, rfl⟩
        go_wp2_with fail
        go_at_call 23
        refine (digit_c hb y _ HUB.out).mono ?_
        rintro e w' ⟨rfl, rfl⟩
        by_cases hd : digF ha y = digF hb y
        · have hdb : (digF ha y != digF hb y) = false := by simpa using hd
          have E5 : Hid (topN ha hb (j + 1) = topN ha hb j) := Lib.hid (by
            have h5 := HY.out
            simp only [topN]
            rw [← h5, if_neg (by simpa using hd)])
          clear hd
          go_wp2_with fail
          go_roundg (gk - 1)
          case measure => have := HGK.out; omega
          case rel => exact ⟨y - 1, j + 1, by rw [E5.out], rfl, Lib.hid (by have := HY.out; omega), Lib.hid (by have h5 := HKJ.out; have h6 := HGK.out; omega), rfl⟩
        · have hdb : (digF ha y != digF hb y) = true := by simpa using hd
          have E5 : Hid (topN ha hb (j + 1) = y) := Lib.hid (by
            have h5 := HY.out
            simp only [topN]
            rw [← h5, if_pos hd])
          clear hd
          go_wp2_with fail
          go_roundg (gk - 1)
          case measure => have := HGK.out; omega
          case rel => exact ⟨y - 1, j + 1, by rw [E5.out], rfl, Lib.hid (by have := HY.out; omega), Lib.hid (by have h5 := HKJ.out; have h6 := HGK.out; omega), rfl⟩
      · have hjK : j = K := by
          have h5 := HY.out; have h6 := HKJ.out; have h7 := HKK.out
          split at h7 <;> omega
        have hT : topN ha hb j = -1 := by
          rw [hjK, topN_eq ha hb level (by omega) K HKK.out]
          exact if_neg (by have := HLV.out; omega)
        rw [hT]
        clear hjK hT
        go_wp2_with fail
        go_at_call 20
        refine (forkerr_c _ _ _ F4.out.1).mono ?_
        rintro e w' ⟨rfl, rfl⟩
        rw [F4.out.2.1]
        go_wp2_with fail
        go_at_call 19
        refine (forkword_c _ _ _ F4.out.1).mono ?_
        rintro e w' ⟨rfl, rfl⟩
        rw [F4.out.2.2]
        go_wp2_with fail
        go_at_call 21
        refine (accessesX _ _ _ _ 0 _ V4.out rfl).mono ?_
        rintro e w' ⟨rfl, rfl⟩
        go_wp2_with fail
        go_at_call 29
        refine (leftW_c _ _ _ _ 3999 _ M4.out (by have h5 := new_of.len; have h6 := new_of.free; omega)).mono ?_
        rintro e w' ⟨rfl, m, rfl⟩
        go_wp2_with fail
        go_ret
        exact ⟨rfl, pw_below_drewN B4.out _⟩
set_option maxRecDepth 100000 in
set_option maxHeartbeats 16000000 in
theorem parts_part (a ha b hb level : Int) (w : World) (hua : isU ha) (hub : isU hb) (hlev : 0 ≤ level) (hlv : partN 11 ha hb level < 11) :
    Calls Try.prog 6 #[.agg #[.int .u64 a, .int .u64 ha, .int .u64 b, .int .u64 hb, .int .i64 level]] w fun e w' => e = .returned (.bool true) ∧ Below w.heap.size w w' := by
  have HUA := Lib.hid hua
  have HUB := Lib.hid hub
  have HLV := Lib.hid hlv
  clear hua hub hlv
  go_enter Try.func6, Try.ntmps6
  go_wp2_with fail
  go_at_call 7
  refine (live_c _).mono ?_
  rintro e w0 ⟨rfl, q0⟩
  have hblk : w0.heap[w.heap.size]? = some (.cells #[.int .u64 a, .int .u64 ha, .int .u64 b, .int .u64 hb, .int .i64 level] 81 (0, 0)) := blk_kept (heap_alloc_new w _) (Kept.of_below q0 (fun _ => False)) (fun h => h)
  have x0 : w0.cell? ⟨w.heap.size, 0, none⟩ = some (.int .u64 a) := (blk_cell hblk 0).trans rfl
  have x1 : w0.cell? ⟨w.heap.size, 1, none⟩ = some (.int .u64 ha) := (blk_cell hblk 1).trans rfl
  have x2 : w0.cell? ⟨w.heap.size, 2, none⟩ = some (.int .u64 b) := (blk_cell hblk 2).trans rfl
  have x3 : w0.cell? ⟨w.heap.size, 3, none⟩ = some (.int .u64 hb) := (blk_cell hblk 3).trans rfl
  have x4 : w0.cell? ⟨w.heap.size, 4, none⟩ = some (.int .i64 level) := (blk_cell hblk 4).trans rfl
  have B0 : Hid (Below w.heap.size w w0) := Lib.hid ((below_alloc (Below.refl _ _) _).trans (q0.mono (by simp)))
  clear q0 hblk
  go_wp2_with fail
  go_at_call 8
  refine (new_c 4000 w0 (by omega) (by omega)).mono ?_
  rintro e w1 ⟨gm, rfl, q1, q2⟩
  have M1 := Lib.hid q1
  have B1 := Lib.hid (B0.out.trans (q2.mono B0.out.size))
  have HB0 : Hid (w.heap.size ≤ w0.heap.size) := Lib.hid B0.out.size
  have HB1 : Hid (w0.heap.size ≤ w1.heap.size) := Lib.hid q2.size
  clear q1 q2 x0 x1 x2 x3 x4
  go_wp2_with fail
  go_at_call 9
  refine (view_c gm 0 w1).mono ?_
  rintro e w2 ⟨rfl, q1, q2⟩
  have M2 := Lib.hid ((M1.out.bound.kept (Kept.of_below q2 (fun _ => False)) (fun _ _ h => h)).mono (S' := fun k => w0.heap.size ≤ k ∧ k < w2.heap.size) (fun k hk => ⟨hk.1, by have := q2.size; omega⟩))
  have V2 := Lib.hid q1
  have B2 := Lib.hid (B1.out.trans (q2.mono B1.out.size))
  have hgv : w1.heap.size < w2.heap.size := blk_lt q1
  obtain ⟨gv, hgv2⟩ : ∃ gv, gv = w1.heap.size := ⟨_, rfl⟩
  have hbv : w0.heap.size ≤ gv := by rw [hgv2]; exact HB1.out
  rw [← hgv2] at V2 hgv ⊢
  have HGV := Lib.hid hgv
  have HBV := Lib.hid hbv
  clear q1 q2 M1 B1 hgv2 hgv hbv HB1 B0
  obtain ⟨base, hbase⟩ : ∃ b, b = w0.heap.size := ⟨_, rfl⟩
  rw [← hbase] at M2 HBV HB0
  clear hbase
  go_wp2_with fail
  go_at_call 22
  refine (newfork_c a ha b hb level w2).mono ?_
  rintro e w3 ⟨rfl, q1, q2⟩
  rw [show max (level : Int) 0 = level by omega] at q1
  obtain ⟨g, hg⟩ : ∃ g, g = w2.heap.size := ⟨_, rfl⟩
  have hbg : base ≤ g := by have := HBV.out; have := HGV.out; omega
  rw [← hg] at q1 HGV M2 ⊢
  have F3 := Lib.hid q1
  have M3 := Lib.hid (M2.out.kept (Kept.of_below q2 (fun _ => False)) (fun _ _ h => h))
  have V3 : Hid (ViewAt w3 gv gm 0 0) := Lib.hid (blk_kept V2.out (Kept.of_below q2 (fun _ => False)) (fun h => h))
  have B3 := Lib.hid (B2.out.trans (q2.mono B2.out.size))
  have HBG := Lib.hid hbg
  clear q1 q2 hg hbg M2 V2 B2
  go_wp2_with fail
  obtain ⟨lv, hlvE⟩ : ∃ lv, lv = partN 11 ha hb level := ⟨_, rfl⟩
  have hge : level ≤ lv := by rw [hlvE]; exact partN_ge 11 ha hb _
  have hl11 : lv < 11 := by have := HLV.out; omega
  obtain ⟨km, hkm⟩ : ∃ km : Nat, (km : Int) = lv - level := ⟨(lv - level).toNat, by omega⟩
  have hkm10 : km ≤ 10 := by omega
  have HLE := Lib.hid hlvE
  have HKM := Lib.hid hkm
  clear hlvE hkm
  go_loopg [12] (2 + 2 * km) (fun kq v12 w' => ∃ (x : Int) (i : Nat) (s : Ms) (f : Fk) (S : Nat → Prop), v12 = .int .i64 x ∧ 1 ≤ x ∧ Hid (x = (i : Int) + 1) ∧ Hid (kq + i = 2 + 2 * km) ∧ Hid (PH ha hb a b lv level km i s f) ∧ Hid (MemW w' base S gm s) ∧ Hid (ViewAt w' gv gm 0 i) ∧ Hid (S gv) ∧ Hid (¬ S g) ∧ Hid (ForkAt w' g f) ∧ Hid (Below w.heap.size w w'))
  case atStart => exact ⟨1, 0, Ms.new 4000, _, _, rfl, by omega, Lib.hid (by omega), Lib.hid rfl, Lib.hid (.inl ⟨rfl, rfl, rfl⟩), M3, V3, Lib.hid ⟨HBV.out, HGV.out⟩, Lib.hid (fun h => by have := h.2; omega), F3, B3⟩
  case round =>
    clear M3 V3 F3 B3 HGV
    obtain ⟨x, i, s, f, S, rfl, hx1, HX, HKI, HP, HM, HV, HSG, HNG, HF, HB⟩ := hrel
    obtain ⟨wz, hwz⟩ : ∃ W, W = wr := ⟨_, rfl⟩
    subst hwz
    have hx100 : x < 100 := by have h5 := HX.out; have h6 := HKI.out; omega
    go_wp2_with fail
    go_at_call 18
    refine (parts_step base S g gv gm km i ha hb a b level s f wz HM.out HV.out HSG.out HBV.out HF.out HNG.out HBG.out HUA.out HUB.out (by omega) HLV.out (by rw [← HLE.out]; exact HKM.out) (by rw [← HLE.out]; exact HP.out)).mono ?_
    rintro e w4 ⟨d, s', f', rfl, q1, q2, q3, q4, q5, hd⟩
    rw [← HLE.out] at hd
    have hgs : g < wz.heap.size := blk_lt HF.out
    have M4 : Hid (MemW w4 base (fun j => (S j ∨ wz.heap.size ≤ j) ∧ j ≠ g) gm s') := Lib.hid (q1.mono (fun j hj => ⟨hj, fun e => hj.elim (fun h => HNG.out (e ▸ h)) (fun h => by omega)⟩))
    have V4 := Lib.hid q2
    have F4 := Lib.hid q3
    have B4 := Lib.hid (HB.out.trans (q5.mono HB0.out))
    have S4 : Hid ((S gv ∨ wz.heap.size ≤ gv) ∧ gv ≠ g) := Lib.hid ⟨.inl HSG.out, fun e => HNG.out (e ▸ HSG.out)⟩
    clear q1 q2 q3 q4 q5 HM HV HF HB hgs
    rcases hd with ⟨rfl, hP⟩ | ⟨rfl, hi, hP⟩
    · have HP4 := Lib.hid hP
      have hle := hP.le
      have HGK : Hid (0 < gk) := Lib.hid (by have h6 := HKI.out; omega)
      clear hP hle
      go_wp2_with fail
      go_roundg (gk - 1)
      case measure => have := HGK.out; omega
      case rel => exact ⟨x + 1, i + 1, s', f', _, rfl, by omega, Lib.hid (by have := HX.out; omega), Lib.hid (by have h5 := HKI.out; have h6 := HGK.out; omega), HP4, M4, V4, S4, Lib.hid (fun h => h.2 rfl), F4, B4⟩
    · have HP4 := Lib.hid hP
      have HI := Lib.hid hi
      clear hP hi HP
      go_wp2_with fail
      obtain ⟨K, hK⟩ : ∃ K : Nat, (K : Int) = if (level : Int) ≤ 11 then 11 - level else 0 := ⟨((if (level : Int) ≤ 11 then 11 - level else 0 : Int)).toNat, by split <;> omega⟩
      have HKK := Lib.hid hK
      clear hK
      obtain ⟨wE, hwE⟩ : ∃ W, W = w4 := ⟨_, rfl⟩
      rw [← hwE] at F4 M4 V4 B4 ⊢
      clear hwE
      go_loopg [13, 14] K (fun kq v13 v14 w' => ∃ (y : Int) (j : Nat), v13 = .int .i64 (topN ha hb j) ∧ v14 = .int .i64 y ∧ Hid (y = 10 - (j : Int)) ∧ Hid (kq + j = K) ∧ w' = wE)
      case atStart => exact ⟨10, 0, rfl, rfl, Lib.hid rfl, Lib.hid rfl, rfl⟩
      case round =>
        obtain ⟨y, j, rfl, rfl, HY, HKJ, rfl⟩ := hrel
        have hyb : y ≤ 10 := by have := HY.out; omega
        have hya : -11 ≤ y := by
          have h5 := HY.out; have h6 := HKJ.out; have h7 := HKK.out
          split at h7 <;> omega
        by_cases hy : level ≤ y
        · have HGK : Hid (0 < gk) := Lib.hid (by
            have h5 := HY.out; have h6 := HKJ.out; have h7 := HKK.out
            split at h7 <;> omega)
          go_wp2_with fail
          go_at_call 23
          refine (digit_c ha y _ HUA.out).mono ?_
          rintro e w' ⟨rfl, rfl⟩
          go_wp2_with fail
          go_at_call 23
          refine (digit_c hb y _ HUB.out).mono ?_
          rintro e w' ⟨rfl, rfl⟩
          by_cases hd : digF ha y = digF hb y
          · have hdb : (digF ha y != digF hb y) = false := by simpa using hd
            have E5 : Hid (topN ha hb (j + 1) = topN ha hb j) := Lib.hid (by
              have h5 := HY.out
              simp only [topN]
              rw [← h5, if_neg (by simpa using hd)])
            clear hd
            go_wp2_with fail
            go_roundg (gk - 1)
            case measure => have := HGK.out; omega
            case rel => exact ⟨y - 1, j + 1, by rw [E5.out], rfl, Lib.hid (by have := HY.out; omega), Lib.hid (by have h5 := HKJ.out; have h6 := HGK.out; omega), rfl⟩
          · have hdb : (digF ha y != digF hb y) = true := by simpa using hd
            have E5 : Hid (topN ha hb (j + 1) = y) := Lib.hid (by
              have h5 := HY.out
              simp only [topN]
              rw [← h5, if_pos hd])
            clear hd
            go_wp2_with fail
            go_roundg (gk - 1)
            case measure => have := HGK.out; omega
            case rel => exact ⟨y - 1, j + 1, by rw [E5.out], rfl, Lib.hid (by have := HY.out; omega), Lib.hid (by have h5 := HKJ.out; have h6 := HGK.out; omega), rfl⟩
        · have hjK : j = K := by
            have h5 := HY.out; have h6 := HKJ.out; have h7 := HKK.out
            split at h7 <;> omega
          have hT : topN ha hb j = lv := by
            rw [hjK, topN_eq ha hb level (by omega) K HKK.out]
            rw [HLE.out]; exact if_pos HLV.out
          rw [hT]
          clear hjK hT
          have hT0 : 0 ≤ lv := by omega
          have hxn : (x != 3 + 2 * (lv - level)) = false := by
            have h5 := HX.out; have h6 := HI.out; have h7 := HKM.out
            simp; omega
          obtain ⟨q, hq1, hq2⟩ := HP4.out.d
          have hfw : f'.word = q * 2 := by unfold Fk.word; rw [HP4.out.at_, if_pos rfl, hq1]
          have HFW := Lib.hid hfw
          have HFE : Hid (f'.er = 0) := Lib.hid HP4.out.fo.er
          have HFR : Hid ((s'.free : Int) ≤ s'.cells.length) := Lib.hid (by have := M4.out.size.2; omega)
          have HCL : Hid (s'.cells.length = 4000) := Lib.hid HP4.out.m.len
          have HD := Lib.hid hq2
          have HXM : Hid (((i + 1 : Nat) : Int) = x) := Lib.hid (by have := HX.out; omega)
          clear hq1 hq2 hfw HP4
          go_wp2_with fail
          go_at_call 20
          refine (forkerr_c _ _ _ F4.out).mono ?_
          rintro e w' ⟨rfl, rfl⟩
          rw [HFE.out]
          go_wp2_with fail
          go_at_call 21
          refine (accessesX _ _ _ _ x _ V4.out HXM.out).mono ?_
          rintro e w' ⟨rfl, rfl⟩
          clear V4 HXM
          go_wp2_with fail
          go_at_call 19
          refine (forkword_c _ _ _ F4.out).mono ?_
          rintro e w' ⟨rfl, rfl⟩
          rw [HFW.out]
          clear F4 HFW HFE
          go_wp2_with fail
          go_loopg [15, 16] km (fun kq v15 v16 w' => ∃ (p L : Int) (k : Nat), v15 = .int .u64 (p * 2) ∧ v16 = .int .i64 L ∧ 1 ≤ p ∧ p ≤ 4000 ∧ Hid (L = lv - k) ∧ Hid (kq = k) ∧ Hid (k ≤ km) ∧ Hid (Desc ha hb a b lv s'.free s'.cells k p) ∧ Hid (MemW w' base (fun j => (S j ∨ wz.heap.size ≤ j) ∧ j ≠ g) gm s') ∧ Hid (Below w.heap.size w w'))
          case atStart =>
            have hr := HD.out.root
            have h5 := HFR.out
            have h6 := HCL.out
            exact ⟨q, level, km, rfl, rfl, hr.1, by omega, Lib.hid (by have := HKM.out; omega), Lib.hid rfl, Lib.hid (Nat.le_refl _), HD, M4, B4⟩
          case round =>
            clear HD M4 B4
            obtain ⟨p, L, k, rfl, rfl, hp1, hp2, HL, HKQ, HKL, HD, HM, HB⟩ := hrel
            obtain ⟨GG, hGG⟩ : ∃ G, G = gk := ⟨_, rfl⟩
            subst hGG
            have hLl : L ≤ lv := by have := HL.out; omega
            have hL0 : 0 ≤ L := by have h5 := HL.out; have h6 := HKL.out; have h7 := HKM.out; omega
            have HBR : Hid (Br s'.free s'.cells p (digF ha L) (digF hb L)) := Lib.hid (by
              have h5 := HL.out
              have h6 := HD.out
              cases k with
              | zero => rw [h5, show lv - ((0 : Nat) : Int) = lv by omega]; exact h6.1
              | succ k => rw [h5]; exact h6.1)
            go_wp2_with fail
            go_at_call 14
            refine (split2_c p _ _ rfl hp1 (by omega)).mono ?_
            rintro e w' ⟨rfl, rfl⟩
            go_wp2_with fail
            go_at_call 23
            refine (digit_c ha L _ HUA.out).mono ?_
            rintro e w' ⟨rfl, rfl⟩
            go_wp2_with fail
            go_at_call 23
            refine (digit_c hb L _ HUB.out).mono ?_
            rintro e w' ⟨rfl, rfl⟩
            have rA := digF_range ha L
            have rB := digF_range hb L
            obtain ⟨dA, hdA⟩ : ∃ d, d = digF ha L := ⟨_, rfl⟩
            obtain ⟨dB, hdB⟩ : ∃ d, d = digF hb L := ⟨_, rfl⟩
            rw [← hdA] at HBR rA ⊢
            rw [← hdB] at HBR rB ⊢
            have HDA := Lib.hid hdA
            have HDB := Lib.hid hdB
            obtain ⟨rA0, rA1⟩ := rA
            obtain ⟨rB0, rB1⟩ := rB
            clear hdA hdB
            obtain ⟨wo, hwo⟩ : ∃ W, W = wr := ⟨_, rfl⟩
            subst hwo
            go_wp2_with fail
            go_loopg [21] 64 (fun kq v21 w' => ∃ d : Int, v21 = .int .i64 d ∧ 0 ≤ d ∧ Hid ((kq : Int) + d = 64) ∧ w' = wo)
            case atStart => exact ⟨0, rfl, by omega, Lib.hid (by omega), rfl⟩
            case round =>
              obtain ⟨d, rfl, hd0, HKD, rfl⟩ := hrel
              by_cases hd64 : d < 64
              · have HGK : Hid (0 < gk) := Lib.hid (by have := HKD.out; omega)
                by_cases h1 : d = dA
                · have h1b : (d != dA) = false := by simpa using h1
                  clear h1
                  go_wp2_with fail
                  go_roundg (gk - 1)
                  case measure => have := HGK.out; omega
                  case rel => exact ⟨d + 1, rfl, by omega, Lib.hid (by have h5 := HKD.out; have h6 := HGK.out; omega), rfl⟩
                · have h1b : (d != dA) = true := by simpa using h1
                  by_cases h2 : d = dB
                  · have h2b : (d != dB) = false := by simpa using h2
                    clear h1 h2
                    go_wp2_with fail
                    go_roundg (gk - 1)
                    case measure => have := HGK.out; omega
                    case rel => exact ⟨d + 1, rfl, by omega, Lib.hid (by have h5 := HKD.out; have h6 := HGK.out; omega), rfl⟩
                  · have h2b : (d != dB) = true := by simpa using h2
                    have HZ : Hid (rd s'.cells (p + d) = 0) := Lib.hid (HBR.out.2.2 d hd0 hd64 h1 h2)
                    have hc1 : IntKind.u64.wrap d = d := wrapU d hd0 (by omega)
                    have hc2 : IntKind.u64.wrap (p + d) = p + d := wrapU _ (by omega) (by omega)
                    clear h1 h2
                    go_wp2_with fail
                    go_at_call 31
                    refine (peekW_c base _ gm s' (p + d) _ HM.out (by omega)).mono ?_
                    rintro e w' ⟨rfl, rfl⟩
                    rw [HZ.out]
                    clear hc1 hc2
                    go_wp2_with fail
                    go_roundg (gk - 1)
                    case measure => have := HGK.out; omega
                    case rel => exact ⟨d + 1, rfl, by omega, Lib.hid (by have h5 := HKD.out; have h6 := HGK.out; omega), rfl⟩
              · clear HKD
                have hc1 : IntKind.u64.wrap dA = dA := wrapU dA rA0 (by omega)
                have hc2 : IntKind.u64.wrap (p + dA) = p + dA := wrapU _ (by omega) (by omega)
                cases k with
                | zero =>
                  have hLv : L = lv := by have := HL.out; omega
                  obtain ⟨-, hv1, hv2⟩ := HD.out
                  have HV1 : Hid (Ver s'.free s'.cells (p + dA) a) := Lib.hid (by rw [HDA.out, hLv]; exact hv1)
                  have HV2 : Hid (Ver s'.free s'.cells (p + dB) b) := Lib.hid (by rw [HDB.out, hLv]; exact hv2)
                  have hLb : (L == lv) = true := by simpa using hLv
                  clear hv1 hv2 hLv
                  go_wp2_with fail
                  go_at_call 32
                  refine (down_ver base _ gm s' _ (p + dA) a _ HM.out HV1.out HFR.out (by omega)).mono ?_
                  rintro e wd ⟨rfl, r1⟩
                  have HM2 := Lib.hid (HM.out.kept (Kept.of_below r1 (fun _ => False)) (fun _ _ h => h))
                  have HB2 := Lib.hid (HB.out.trans (r1.mono HB.out.size))
                  clear r1 hc1 hc2
                  have hc3 : IntKind.u64.wrap dB = dB := wrapU dB rB0 (by omega)
                  have hc4 : IntKind.u64.wrap (p + dB) = p + dB := wrapU _ (by omega) (by omega)
                  go_wp2_with fail
                  go_at_call 32
                  refine (down_ver base _ gm s' _ (p + dB) b _ HM2.out HV2.out HFR.out (by omega)).mono ?_
                  rintro e wd2 ⟨rfl, r1⟩
                  have HB3 := Lib.hid (HB2.out.trans (r1.mono HB2.out.size))
                  clear r1 hc3 hc4
                  go_wp2_with fail
                  go_ret
                  exact ⟨rfl, HB3.out⟩
                | succ j =>
                  obtain ⟨-, p', hv1, hD'⟩ := HD.out
                  have hr := hD'.root
                  have HV1 : Hid (Ver s'.free s'.cells (p + dA) (p' * 2)) := Lib.hid (by rw [HDA.out, HL.out]; exact hv1)
                  have hLb : (L == lv) = false := by
                    have := HL.out
                    simp; omega
                  have HD2 := Lib.hid hD'
                  have HR : Hid (1 ≤ p' ∧ p' ≤ 4000) := Lib.hid (by have h5 := HFR.out; have h6 := HCL.out; exact ⟨hr.1, by omega⟩)
                  clear hv1 hD' hr
                  go_wp2_with fail
                  go_at_call 32
                  refine (down_ver base _ gm s' _ (p + dA) (p' * 2) _ HM.out HV1.out HFR.out (by omega)).mono ?_
                  rintro e wd ⟨rfl, r1⟩
                  have HM2 := Lib.hid (HM.out.kept (Kept.of_below r1 (fun _ => False)) (fun _ _ h => h))
                  have HB2 := Lib.hid (HB.out.trans (r1.mono HB.out.size))
                  clear r1 hc1 hc2
                  go_wp2_with fail
                  go_roundg (GG - 1)
                  case measure => have := HKQ.out; omega
                  case rel => exact ⟨p', L + 1, j, rfl, rfl, HR.out.1, HR.out.2, Lib.hid (by have := HL.out; omega), Lib.hid (by have := HKQ.out; omega), Lib.hid (by have := HKL.out; omega), HD2, HM2, HB2⟩
set_option maxRecDepth 100000 in
set_option maxHeartbeats 16000000 in
theorem parts_knownN (a ha b hb level : Int) (w : World) (hua : isU ha) (hub : isU hb) (hlev : level < 0) (hlv : 11 ≤ partN 11 ha hb 0) :
    Calls Try.prog 6 #[.agg #[.int .u64 a, .int .u64 ha, .int .u64 b, .int .u64 hb, .int .i64 level]] w fun e w' => e = .returned (.bool true) ∧ Below w.heap.size w w' := by
  have HUA := Lib.hid hua
  have HUB := Lib.hid hub
  have HLV := Lib.hid hlv
  clear hua hub hlv
  go_enter Try.func6, Try.ntmps6
  go_wp2_with fail
  go_at_call 7
  refine (live_c _).mono ?_
  rintro e w0 ⟨rfl, q0⟩
  have hblk : w0.heap[w.heap.size]? = some (.cells #[.int .u64 a, .int .u64 ha, .int .u64 b, .int .u64 hb, .int .i64 level] 81 (0, 0)) := blk_kept (heap_alloc_new w _) (Kept.of_below q0 (fun _ => False)) (fun h => h)
  have x0 : w0.cell? ⟨w.heap.size, 0, none⟩ = some (.int .u64 a) := (blk_cell hblk 0).trans rfl
  have x1 : w0.cell? ⟨w.heap.size, 1, none⟩ = some (.int .u64 ha) := (blk_cell hblk 1).trans rfl
  have x2 : w0.cell? ⟨w.heap.size, 2, none⟩ = some (.int .u64 b) := (blk_cell hblk 2).trans rfl
  have x3 : w0.cell? ⟨w.heap.size, 3, none⟩ = some (.int .u64 hb) := (blk_cell hblk 3).trans rfl
  have x4 : w0.cell? ⟨w.heap.size, 4, none⟩ = some (.int .i64 level) := (blk_cell hblk 4).trans rfl
  have B0 : Hid (Below w.heap.size w w0) := Lib.hid ((below_alloc (Below.refl _ _) _).trans (q0.mono (by simp)))
  clear q0 hblk
  go_wp2_with fail
  go_at_call 8
  refine (new_c 4000 w0 (by omega) (by omega)).mono ?_
  rintro e w1 ⟨gm, rfl, q1, q2⟩
  have M1 := Lib.hid q1
  have B1 := Lib.hid (B0.out.trans (q2.mono B0.out.size))
  have HB0 : Hid (w.heap.size ≤ w0.heap.size) := Lib.hid B0.out.size
  have HB1 : Hid (w0.heap.size ≤ w1.heap.size) := Lib.hid q2.size
  clear q1 q2 x0 x1 x2 x3 x4
  go_wp2_with fail
  go_at_call 9
  refine (view_c gm 0 w1).mono ?_
  rintro e w2 ⟨rfl, q1, q2⟩
  have M2 := Lib.hid ((M1.out.bound.kept (Kept.of_below q2 (fun _ => False)) (fun _ _ h => h)).mono (S' := fun k => w0.heap.size ≤ k ∧ k < w2.heap.size) (fun k hk => ⟨hk.1, by have := q2.size; omega⟩))
  have V2 := Lib.hid q1
  have B2 := Lib.hid (B1.out.trans (q2.mono B1.out.size))
  have hgv : w1.heap.size < w2.heap.size := blk_lt q1
  obtain ⟨gv, hgv2⟩ : ∃ gv, gv = w1.heap.size := ⟨_, rfl⟩
  have hbv : w0.heap.size ≤ gv := by rw [hgv2]; exact HB1.out
  rw [← hgv2] at V2 hgv ⊢
  have HGV := Lib.hid hgv
  have HBV := Lib.hid hbv
  clear q1 q2 M1 B1 hgv2 hgv hbv HB1 B0
  obtain ⟨base, hbase⟩ : ∃ b, b = w0.heap.size := ⟨_, rfl⟩
  rw [← hbase] at M2 HBV HB0
  clear hbase
  go_wp2_with fail
  go_at_call 22
  refine (newfork_c a ha b hb 0 w2).mono ?_
  rintro e w3 ⟨rfl, q1, q2⟩
  rw [show max (0 : Int) 0 = 0 by omega] at q1
  obtain ⟨g, hg⟩ : ∃ g, g = w2.heap.size := ⟨_, rfl⟩
  have hbg : base ≤ g := by have := HBV.out; have := HGV.out; omega
  rw [← hg] at q1 HGV M2 ⊢
  have F3 := Lib.hid q1
  have M3 := Lib.hid (M2.out.kept (Kept.of_below q2 (fun _ => False)) (fun _ _ h => h))
  have V3 : Hid (ViewAt w3 gv gm 0 0) := Lib.hid (blk_kept V2.out (Kept.of_below q2 (fun _ => False)) (fun h => h))
  have B3 := Lib.hid (B2.out.trans (q2.mono B2.out.size))
  have HBG := Lib.hid hbg
  clear q1 q2 hg hbg M2 V2 B2
  go_wp2_with fail
  go_loopg [12] 0 (fun kq v12 w' => v12 = .int .i64 1 ∧ w' = w3)
  case atStart => exact ⟨rfl, rfl⟩
  case round =>
    obtain ⟨rfl, rfl⟩ := hrel
    go_wp2_with fail
    go_at_call 18
    refine (forkstep0_known base g ⟨0, 0, a, ha, b, hb, 0, 0, 0, 0, 0⟩ _ wr F3.out HBG.out rfl (by show (0 : Int) ≤ 0; omega) HUA.out HUB.out (by have := HLV.out; show ¬ partN 11 ha hb 0 < 11; omega)).mono ?_
    rintro e w4 ⟨rfl, q1, q2, q3⟩
    obtain ⟨f4, hf4⟩ : ∃ f4 : Fk, ForkAt w4 g f4 ∧ f4.er = 5 ∧ f4.word = 0 := ⟨_, q1, rfl, rfl⟩
    have F4 := Lib.hid hf4
    have M4 := Lib.hid (M3.out.kept q2 (fun k hk e => by have h5 := hk.2; omega))
    have V4 : Hid (ViewAt w4 gv gm 0 0) := Lib.hid (blk_kept V3.out q2 (blk_ne V3.out F3.out (by decide)))
    have B4 := Lib.hid (B3.out.trans (q3.mono HB0.out))
    clear q1 q2 q3 hf4
    go_wp2_with fail
    obtain ⟨K, hK⟩ : ∃ K : Nat, (K : Int) = if (0 : Int) ≤ 11 then 11 - 0 else 0 := ⟨((if (0 : Int) ≤ 11 then 11 - 0 else 0 : Int)).toNat, by split <;> omega⟩
    have HKK := Lib.hid hK
    clear hK
    obtain ⟨wE, hwE⟩ : ∃ W, W = w4 := ⟨_, rfl⟩
    rw [← hwE] at F4 M4 V4 B4 ⊢
    clear hwE
    go_loopg [13, 14] K (fun kq v13 v14 w' => ∃ (y : Int) (j : Nat), v13 = .int .i64 (topN ha hb j) ∧ v14 = .int .i64 y ∧ Hid (y = 10 - (j : Int)) ∧ Hid (kq + j = K) ∧ w' = wE)
    case atStart => exact ⟨10, 0, rfl, rfl, Lib.hid rfl, Lib.hid rfl, rfl⟩
    case round =>
      obtain ⟨y, j, rfl, rfl, HY, HKJ, rfl⟩ := hrel
      have hyb : y ≤ 10 := by have := HY.out; omega
      have hya : -11 ≤ y := by
        have h5 := HY.out; have h6 := HKJ.out; have h7 := HKK.out
        split at h7 <;> omega
      by_cases hy : 0 ≤ y
      · have HGK : Hid (0 < gk) := Lib.hid (by
          have h5 := HY.out; have h6 := HKJ.out; have h7 := HKK.out
          split at h7 <;> omega)
        go_wp2_with fail
        go_at_call 23
        refine (digit_c ha y _ HUA.out).mono ?_
        rintro e w' ⟨rfl, rfl⟩
        go_wp2_with fail
        go_at_call 23
        refine (digit_c hb y _ HUB.out).mono ?_
        rintro e w' ⟨rfl, rfl⟩
        by_cases hd : digF ha y = digF hb y
        · have hdb : (digF ha y != digF hb y) = false := by simpa using hd
          have E5 : Hid (topN ha hb (j + 1) = topN ha hb j) := Lib.hid (by
            have h5 := HY.out
            simp only [topN]
            rw [← h5, if_neg (by simpa using hd)])
          clear hd
          go_wp2_with fail
          go_roundg (gk - 1)
          case measure => have := HGK.out; omega
          case rel => exact ⟨y - 1, j + 1, by rw [E5.out], rfl, Lib.hid (by have := HY.out; omega), Lib.hid (by have h5 := HKJ.out; have h6 := HGK.out; omega), rfl⟩
        · have hdb : (digF ha y != digF hb y) = true := by simpa using hd
          have E5 : Hid (topN ha hb (j + 1) = y) := Lib.hid (by
            have h5 := HY.out
            simp only [topN]
            rw [← h5, if_pos hd])
          clear hd
          go_wp2_with fail
          go_roundg (gk - 1)
          case measure => have := HGK.out; omega
          case rel => exact ⟨y - 1, j + 1, by rw [E5.out], rfl, Lib.hid (by have := HY.out; omega), Lib.hid (by have h5 := HKJ.out; have h6 := HGK.out; omega), rfl⟩
      · have hjK : j = K := by
          have h5 := HY.out; have h6 := HKJ.out; have h7 := HKK.out
          split at h7 <;> omega
        have hT : topN ha hb j = -1 := by
          rw [hjK, topN_eq ha hb 0 (by omega) K HKK.out]
          exact if_neg (by have := HLV.out; omega)
        rw [hT]
        clear hjK hT
        go_wp2_with fail
        go_at_call 20
        refine (forkerr_c _ _ _ F4.out.1).mono ?_
        rintro e w' ⟨rfl, rfl⟩
        rw [F4.out.2.1]
        go_wp2_with fail
        go_at_call 19
        refine (forkword_c _ _ _ F4.out.1).mono ?_
        rintro e w' ⟨rfl, rfl⟩
        rw [F4.out.2.2]
        go_wp2_with fail
        go_at_call 21
        refine (accessesX _ _ _ _ 0 _ V4.out rfl).mono ?_
        rintro e w' ⟨rfl, rfl⟩
        go_wp2_with fail
        go_at_call 29
        refine (leftW_c _ _ _ _ 3999 _ M4.out (by have h5 := new_of.len; have h6 := new_of.free; omega)).mono ?_
        rintro e w' ⟨rfl, m, rfl⟩
        go_wp2_with fail
        go_ret
        exact ⟨rfl, pw_below_drewN B4.out _⟩
set_option maxRecDepth 100000 in
set_option maxHeartbeats 16000000 in
theorem parts_partN (a ha b hb level : Int) (w : World) (hua : isU ha) (hub : isU hb) (hlev : level < 0) (hlv : partN 11 ha hb 0 < 11) :
    Calls Try.prog 6 #[.agg #[.int .u64 a, .int .u64 ha, .int .u64 b, .int .u64 hb, .int .i64 level]] w fun e w' => e = .returned (.bool true) ∧ Below w.heap.size w w' := by
  have HUA := Lib.hid hua
  have HUB := Lib.hid hub
  have HLV := Lib.hid hlv
  clear hua hub hlv
  go_enter Try.func6, Try.ntmps6
  go_wp2_with fail
  go_at_call 7
  refine (live_c _).mono ?_
  rintro e w0 ⟨rfl, q0⟩
  have hblk : w0.heap[w.heap.size]? = some (.cells #[.int .u64 a, .int .u64 ha, .int .u64 b, .int .u64 hb, .int .i64 level] 81 (0, 0)) := blk_kept (heap_alloc_new w _) (Kept.of_below q0 (fun _ => False)) (fun h => h)
  have x0 : w0.cell? ⟨w.heap.size, 0, none⟩ = some (.int .u64 a) := (blk_cell hblk 0).trans rfl
  have x1 : w0.cell? ⟨w.heap.size, 1, none⟩ = some (.int .u64 ha) := (blk_cell hblk 1).trans rfl
  have x2 : w0.cell? ⟨w.heap.size, 2, none⟩ = some (.int .u64 b) := (blk_cell hblk 2).trans rfl
  have x3 : w0.cell? ⟨w.heap.size, 3, none⟩ = some (.int .u64 hb) := (blk_cell hblk 3).trans rfl
  have x4 : w0.cell? ⟨w.heap.size, 4, none⟩ = some (.int .i64 level) := (blk_cell hblk 4).trans rfl
  have B0 : Hid (Below w.heap.size w w0) := Lib.hid ((below_alloc (Below.refl _ _) _).trans (q0.mono (by simp)))
  clear q0 hblk
  go_wp2_with fail
  go_at_call 8
  refine (new_c 4000 w0 (by omega) (by omega)).mono ?_
  rintro e w1 ⟨gm, rfl, q1, q2⟩
  have M1 := Lib.hid q1
  have B1 := Lib.hid (B0.out.trans (q2.mono B0.out.size))
  have HB0 : Hid (w.heap.size ≤ w0.heap.size) := Lib.hid B0.out.size
  have HB1 : Hid (w0.heap.size ≤ w1.heap.size) := Lib.hid q2.size
  clear q1 q2 x0 x1 x2 x3 x4
  go_wp2_with fail
  go_at_call 9
  refine (view_c gm 0 w1).mono ?_
  rintro e w2 ⟨rfl, q1, q2⟩
  have M2 := Lib.hid ((M1.out.bound.kept (Kept.of_below q2 (fun _ => False)) (fun _ _ h => h)).mono (S' := fun k => w0.heap.size ≤ k ∧ k < w2.heap.size) (fun k hk => ⟨hk.1, by have := q2.size; omega⟩))
  have V2 := Lib.hid q1
  have B2 := Lib.hid (B1.out.trans (q2.mono B1.out.size))
  have hgv : w1.heap.size < w2.heap.size := blk_lt q1
  obtain ⟨gv, hgv2⟩ : ∃ gv, gv = w1.heap.size := ⟨_, rfl⟩
  have hbv : w0.heap.size ≤ gv := by rw [hgv2]; exact HB1.out
  rw [← hgv2] at V2 hgv ⊢
  have HGV := Lib.hid hgv
  have HBV := Lib.hid hbv
  clear q1 q2 M1 B1 hgv2 hgv hbv HB1 B0
  obtain ⟨base, hbase⟩ : ∃ b, b = w0.heap.size := ⟨_, rfl⟩
  rw [← hbase] at M2 HBV HB0
  clear hbase
  go_wp2_with fail
  go_at_call 22
  refine (newfork_c a ha b hb 0 w2).mono ?_
  rintro e w3 ⟨rfl, q1, q2⟩
  rw [show max (0 : Int) 0 = 0 by omega] at q1
  obtain ⟨g, hg⟩ : ∃ g, g = w2.heap.size := ⟨_, rfl⟩
  have hbg : base ≤ g := by have := HBV.out; have := HGV.out; omega
  rw [← hg] at q1 HGV M2 ⊢
  have F3 := Lib.hid q1
  have M3 := Lib.hid (M2.out.kept (Kept.of_below q2 (fun _ => False)) (fun _ _ h => h))
  have V3 : Hid (ViewAt w3 gv gm 0 0) := Lib.hid (blk_kept V2.out (Kept.of_below q2 (fun _ => False)) (fun h => h))
  have B3 := Lib.hid (B2.out.trans (q2.mono B2.out.size))
  have HBG := Lib.hid hbg
  clear q1 q2 hg hbg M2 V2 B2
  go_wp2_with fail
  obtain ⟨lv, hlvE⟩ : ∃ lv, lv = partN 11 ha hb 0 := ⟨_, rfl⟩
  have hge : 0 ≤ lv := by rw [hlvE]; exact partN_ge 11 ha hb _
  have hl11 : lv < 11 := by have := HLV.out; omega
  obtain ⟨km, hkm⟩ : ∃ km : Nat, (km : Int) = lv - 0 := ⟨(lv - 0).toNat, by omega⟩
  have hkm10 : km ≤ 10 := by omega
  have HLE := Lib.hid hlvE
  have HKM := Lib.hid hkm
  clear hlvE hkm
  go_loopg [12] (2 + 2 * km) (fun kq v12 w' => ∃ (x : Int) (i : Nat) (s : Ms) (f : Fk) (S : Nat → Prop), v12 = .int .i64 x ∧ 1 ≤ x ∧ Hid (x = (i : Int) + 1) ∧ Hid (kq + i = 2 + 2 * km) ∧ Hid (PH ha hb a b lv 0 km i s f) ∧ Hid (MemW w' base S gm s) ∧ Hid (ViewAt w' gv gm 0 i) ∧ Hid (S gv) ∧ Hid (¬ S g) ∧ Hid (ForkAt w' g f) ∧ Hid (Below w.heap.size w w'))
  case atStart => exact ⟨1, 0, Ms.new 4000, _, _, rfl, by omega, Lib.hid (by omega), Lib.hid rfl, Lib.hid (.inl ⟨rfl, rfl, rfl⟩), M3, V3, Lib.hid ⟨HBV.out, HGV.out⟩, Lib.hid (fun h => by have := h.2; omega), F3, B3⟩
  case round =>
    clear M3 V3 F3 B3 HGV
    obtain ⟨x, i, s, f, S, rfl, hx1, HX, HKI, HP, HM, HV, HSG, HNG, HF, HB⟩ := hrel
    obtain ⟨wz, hwz⟩ : ∃ W, W = wr := ⟨_, rfl⟩
    subst hwz
    have hx100 : x < 100 := by have h5 := HX.out; have h6 := HKI.out; omega
    go_wp2_with fail
    go_at_call 18
    refine (parts_step base S g gv gm km i ha hb a b 0 s f wz HM.out HV.out HSG.out HBV.out HF.out HNG.out HBG.out HUA.out HUB.out (by omega) HLV.out (by rw [← HLE.out]; exact HKM.out) (by rw [← HLE.out]; exact HP.out)).mono ?_
    rintro e w4 ⟨d, s', f', rfl, q1, q2, q3, q4, q5, hd⟩
    rw [← HLE.out] at hd
    have hgs : g < wz.heap.size := blk_lt HF.out
    have M4 : Hid (MemW w4 base (fun j => (S j ∨ wz.heap.size ≤ j) ∧ j ≠ g) gm s') := Lib.hid (q1.mono (fun j hj => ⟨hj, fun e => hj.elim (fun h => HNG.out (e ▸ h)) (fun h => by omega)⟩))
    have V4 := Lib.hid q2
    have F4 := Lib.hid q3
    have B4 := Lib.hid (HB.out.trans (q5.mono HB0.out))
    have S4 : Hid ((S gv ∨ wz.heap.size ≤ gv) ∧ gv ≠ g) := Lib.hid ⟨.inl HSG.out, fun e => HNG.out (e ▸ HSG.out)⟩
    clear q1 q2 q3 q4 q5 HM HV HF HB hgs
    rcases hd with ⟨rfl, hP⟩ | ⟨rfl, hi, hP⟩
    · have HP4 := Lib.hid hP
      have hle := hP.le
      have HGK : Hid (0 < gk) := Lib.hid (by have h6 := HKI.out; omega)
      clear hP hle
      go_wp2_with fail
      go_roundg (gk - 1)
      case measure => have := HGK.out; omega
      case rel => exact ⟨x + 1, i + 1, s', f', _, rfl, by omega, Lib.hid (by have := HX.out; omega), Lib.hid (by have h5 := HKI.out; have h6 := HGK.out; omega), HP4, M4, V4, S4, Lib.hid (fun h => h.2 rfl), F4, B4⟩
    · have HP4 := Lib.hid hP
      have HI := Lib.hid hi
      clear hP hi HP
      go_wp2_with fail
      obtain ⟨K, hK⟩ : ∃ K : Nat, (K : Int) = if (0 : Int) ≤ 11 then 11 - 0 else 0 := ⟨((if (0 : Int) ≤ 11 then 11 - 0 else 0 : Int)).toNat, by split <;> omega⟩
      have HKK := Lib.hid hK
      clear hK
      obtain ⟨wE, hwE⟩ : ∃ W, W = w4 := ⟨_, rfl⟩
      rw [← hwE] at F4 M4 V4 B4 ⊢
      clear hwE
      go_loopg [13, 14] K (fun kq v13 v14 w' => ∃ (y : Int) (j : Nat), v13 = .int .i64 (topN ha hb j) ∧ v14 = .int .i64 y ∧ Hid (y = 10 - (j : Int)) ∧ Hid (kq + j = K) ∧ w' = wE)
      case atStart => exact ⟨10, 0, rfl, rfl, Lib.hid rfl, Lib.hid rfl, rfl⟩
      case round =>
        obtain ⟨y, j, rfl, rfl, HY, HKJ, rfl⟩ := hrel
        have hyb : y ≤ 10 := by have := HY.out; omega
        have hya : -11 ≤ y := by
          have h5 := HY.out; have h6 := HKJ.out; have h7 := HKK.out
          split at h7 <;> omega
        by_cases hy : 0 ≤ y
        · have HGK : Hid (0 < gk) := Lib.hid (by
            have h5 := HY.out; have h6 := HKJ.out; have h7 := HKK.out
            split at h7 <;> omega)
          go_wp2_with fail
          go_at_call 23
          refine (digit_c ha y _ HUA.out).mono ?_
          rintro e w' ⟨rfl, rfl⟩
          go_wp2_with fail
          go_at_call 23
          refine (digit_c hb y _ HUB.out).mono ?_
          rintro e w' ⟨rfl, rfl⟩
          by_cases hd : digF ha y = digF hb y
          · have hdb : (digF ha y != digF hb y) = false := by simpa using hd
            have E5 : Hid (topN ha hb (j + 1) = topN ha hb j) := Lib.hid (by
              have h5 := HY.out
              simp only [topN]
              rw [← h5, if_neg (by simpa using hd)])
            clear hd
            go_wp2_with fail
            go_roundg (gk - 1)
            case measure => have := HGK.out; omega
            case rel => exact ⟨y - 1, j + 1, by rw [E5.out], rfl, Lib.hid (by have := HY.out; omega), Lib.hid (by have h5 := HKJ.out; have h6 := HGK.out; omega), rfl⟩
          · have hdb : (digF ha y != digF hb y) = true := by simpa using hd
            have E5 : Hid (topN ha hb (j + 1) = y) := Lib.hid (by
              have h5 := HY.out
              simp only [topN]
              rw [← h5, if_pos hd])
            clear hd
            go_wp2_with fail
            go_roundg (gk - 1)
            case measure => have := HGK.out; omega
            case rel => exact ⟨y - 1, j + 1, by rw [E5.out], rfl, Lib.hid (by have := HY.out; omega), Lib.hid (by have h5 := HKJ.out; have h6 := HGK.out; omega), rfl⟩
        · have hjK : j = K := by
            have h5 := HY.out; have h6 := HKJ.out; have h7 := HKK.out
            split at h7 <;> omega
          have hT : topN ha hb j = lv := by
            rw [hjK, topN_eq ha hb 0 (by omega) K HKK.out]
            rw [HLE.out]; exact if_pos HLV.out
          rw [hT]
          clear hjK hT
          have hT0 : 0 ≤ lv := by omega
          have hxn : (x != 3 + 2 * lv) = false := by
            have h5 := HX.out; have h6 := HI.out; have h7 := HKM.out
            simp; omega
          obtain ⟨q, hq1, hq2⟩ := HP4.out.d
          have hfw : f'.word = q * 2 := by unfold Fk.word; rw [HP4.out.at_, if_pos rfl, hq1]
          have HFW := Lib.hid hfw
          have HFE : Hid (f'.er = 0) := Lib.hid HP4.out.fo.er
          have HFR : Hid ((s'.free : Int) ≤ s'.cells.length) := Lib.hid (by have := M4.out.size.2; omega)
          have HCL : Hid (s'.cells.length = 4000) := Lib.hid HP4.out.m.len
          have HD := Lib.hid hq2
          have HXM : Hid (((i + 1 : Nat) : Int) = x) := Lib.hid (by have := HX.out; omega)
          clear hq1 hq2 hfw HP4
          go_wp2_with fail
          go_at_call 20
          refine (forkerr_c _ _ _ F4.out).mono ?_
          rintro e w' ⟨rfl, rfl⟩
          rw [HFE.out]
          go_wp2_with fail
          go_at_call 21
          refine (accessesX _ _ _ _ x _ V4.out HXM.out).mono ?_
          rintro e w' ⟨rfl, rfl⟩
          clear V4 HXM
          go_wp2_with fail
          go_at_call 19
          refine (forkword_c _ _ _ F4.out).mono ?_
          rintro e w' ⟨rfl, rfl⟩
          rw [HFW.out]
          clear F4 HFW HFE
          go_wp2_with fail
          go_loopg [15, 16] km (fun kq v15 v16 w' => ∃ (p L : Int) (k : Nat), v15 = .int .u64 (p * 2) ∧ v16 = .int .i64 L ∧ 1 ≤ p ∧ p ≤ 4000 ∧ Hid (L = lv - k) ∧ Hid (kq = k) ∧ Hid (k ≤ km) ∧ Hid (Desc ha hb a b lv s'.free s'.cells k p) ∧ Hid (MemW w' base (fun j => (S j ∨ wz.heap.size ≤ j) ∧ j ≠ g) gm s') ∧ Hid (Below w.heap.size w w'))
          case atStart =>
            have hr := HD.out.root
            have h5 := HFR.out
            have h6 := HCL.out
            exact ⟨q, 0, km, rfl, rfl, hr.1, by omega, Lib.hid (by have := HKM.out; omega), Lib.hid rfl, Lib.hid (Nat.le_refl _), HD, M4, B4⟩
          case round =>
            clear HD M4 B4
            obtain ⟨p, L, k, rfl, rfl, hp1, hp2, HL, HKQ, HKL, HD, HM, HB⟩ := hrel
            obtain ⟨GG, hGG⟩ : ∃ G, G = gk := ⟨_, rfl⟩
            subst hGG
            have hLl : L ≤ lv := by have := HL.out; omega
            have hL0 : 0 ≤ L := by have h5 := HL.out; have h6 := HKL.out; have h7 := HKM.out; omega
            have HBR : Hid (Br s'.free s'.cells p (digF ha L) (digF hb L)) := Lib.hid (by
              have h5 := HL.out
              have h6 := HD.out
              cases k with
              | zero => rw [h5, show lv - ((0 : Nat) : Int) = lv by omega]; exact h6.1
              | succ k => rw [h5]; exact h6.1)
            go_wp2_with fail
            go_at_call 14
            refine (split2_c p _ _ rfl hp1 (by omega)).mono ?_
            rintro e w' ⟨rfl, rfl⟩
            go_wp2_with fail
            go_at_call 23
            refine (digit_c ha L _ HUA.out).mono ?_
            rintro e w' ⟨rfl, rfl⟩
            go_wp2_with fail
            go_at_call 23
            refine (digit_c hb L _ HUB.out).mono ?_
            rintro e w' ⟨rfl, rfl⟩
            have rA := digF_range ha L
            have rB := digF_range hb L
            obtain ⟨dA, hdA⟩ : ∃ d, d = digF ha L := ⟨_, rfl⟩
            obtain ⟨dB, hdB⟩ : ∃ d, d = digF hb L := ⟨_, rfl⟩
            rw [← hdA] at HBR rA ⊢
            rw [← hdB] at HBR rB ⊢
            have HDA := Lib.hid hdA
            have HDB := Lib.hid hdB
            obtain ⟨rA0, rA1⟩ := rA
            obtain ⟨rB0, rB1⟩ := rB
            clear hdA hdB
            obtain ⟨wo, hwo⟩ : ∃ W, W = wr := ⟨_, rfl⟩
            subst hwo
            go_wp2_with fail
            go_loopg [21] 64 (fun kq v21 w' => ∃ d : Int, v21 = .int .i64 d ∧ 0 ≤ d ∧ Hid ((kq : Int) + d = 64) ∧ w' = wo)
            case atStart => exact ⟨0, rfl, by omega, Lib.hid (by omega), rfl⟩
            case round =>
              obtain ⟨d, rfl, hd0, HKD, rfl⟩ := hrel
              by_cases hd64 : d < 64
              · have HGK : Hid (0 < gk) := Lib.hid (by have := HKD.out; omega)
                by_cases h1 : d = dA
                · have h1b : (d != dA) = false := by simpa using h1
                  clear h1
                  go_wp2_with fail
                  go_roundg (gk - 1)
                  case measure => have := HGK.out; omega
                  case rel => exact ⟨d + 1, rfl, by omega, Lib.hid (by have h5 := HKD.out; have h6 := HGK.out; omega), rfl⟩
                · have h1b : (d != dA) = true := by simpa using h1
                  by_cases h2 : d = dB
                  · have h2b : (d != dB) = false := by simpa using h2
                    clear h1 h2
                    go_wp2_with fail
                    go_roundg (gk - 1)
                    case measure => have := HGK.out; omega
                    case rel => exact ⟨d + 1, rfl, by omega, Lib.hid (by have h5 := HKD.out; have h6 := HGK.out; omega), rfl⟩
                  · have h2b : (d != dB) = true := by simpa using h2
                    have HZ : Hid (rd s'.cells (p + d) = 0) := Lib.hid (HBR.out.2.2 d hd0 hd64 h1 h2)
                    have hc1 : IntKind.u64.wrap d = d := wrapU d hd0 (by omega)
                    have hc2 : IntKind.u64.wrap (p + d) = p + d := wrapU _ (by omega) (by omega)
                    clear h1 h2
                    go_wp2_with fail
                    go_at_call 31
                    refine (peekW_c base _ gm s' (p + d) _ HM.out (by omega)).mono ?_
                    rintro e w' ⟨rfl, rfl⟩
                    rw [HZ.out]
                    clear hc1 hc2
                    go_wp2_with fail
                    go_roundg (gk - 1)
                    case measure => have := HGK.out; omega
                    case rel => exact ⟨d + 1, rfl, by omega, Lib.hid (by have h5 := HKD.out; have h6 := HGK.out; omega), rfl⟩
              · clear HKD
                have hc1 : IntKind.u64.wrap dA = dA := wrapU dA rA0 (by omega)
                have hc2 : IntKind.u64.wrap (p + dA) = p + dA := wrapU _ (by omega) (by omega)
                cases k with
                | zero =>
                  have hLv : L = lv := by have := HL.out; omega
                  obtain ⟨-, hv1, hv2⟩ := HD.out
                  have HV1 : Hid (Ver s'.free s'.cells (p + dA) a) := Lib.hid (by rw [HDA.out, hLv]; exact hv1)
                  have HV2 : Hid (Ver s'.free s'.cells (p + dB) b) := Lib.hid (by rw [HDB.out, hLv]; exact hv2)
                  have hLb : (L == lv) = true := by simpa using hLv
                  clear hv1 hv2 hLv
                  go_wp2_with fail
                  go_at_call 32
                  refine (down_ver base _ gm s' _ (p + dA) a _ HM.out HV1.out HFR.out (by omega)).mono ?_
                  rintro e wd ⟨rfl, r1⟩
                  have HM2 := Lib.hid (HM.out.kept (Kept.of_below r1 (fun _ => False)) (fun _ _ h => h))
                  have HB2 := Lib.hid (HB.out.trans (r1.mono HB.out.size))
                  clear r1 hc1 hc2
                  have hc3 : IntKind.u64.wrap dB = dB := wrapU dB rB0 (by omega)
                  have hc4 : IntKind.u64.wrap (p + dB) = p + dB := wrapU _ (by omega) (by omega)
                  go_wp2_with fail
                  go_at_call 32
                  refine (down_ver base _ gm s' _ (p + dB) b _ HM2.out HV2.out HFR.out (by omega)).mono ?_
                  rintro e wd2 ⟨rfl, r1⟩
                  have HB3 := Lib.hid (HB2.out.trans (r1.mono HB2.out.size))
                  clear r1 hc3 hc4
                  go_wp2_with fail
                  go_ret
                  exact ⟨rfl, HB3.out⟩
                | succ j =>
                  obtain ⟨-, p', hv1, hD'⟩ := HD.out
                  have hr := hD'.root
                  have HV1 : Hid (Ver s'.free s'.cells (p + dA) (p' * 2)) := Lib.hid (by rw [HDA.out, HL.out]; exact hv1)
                  have hLb : (L == lv) = false := by
                    have := HL.out
                    simp; omega
                  have HD2 := Lib.hid hD'
                  have HR : Hid (1 ≤ p' ∧ p' ≤ 4000) := Lib.hid (by have h5 := HFR.out; have h6 := HCL.out; exact ⟨hr.1, by omega⟩)
                  clear hv1 hD' hr
                  go_wp2_with fail
                  go_at_call 32
                  refine (down_ver base _ gm s' _ (p + dA) (p' * 2) _ HM.out HV1.out HFR.out (by omega)).mono ?_
                  rintro e wd ⟨rfl, r1⟩
                  have HM2 := Lib.hid (HM.out.kept (Kept.of_below r1 (fun _ => False)) (fun _ _ h => h))
                  have HB2 := Lib.hid (HB.out.trans (r1.mono HB.out.size))
                  clear r1 hc1 hc2
                  go_wp2_with fail
                  go_roundg (GG - 1)
                  case measure => have := HKQ.out; omega
                  case rel => exact ⟨p', L + 1, j, rfl, rfl, HR.out.1, HR.out.2, Lib.hid (by have := HL.out; omega), Lib.hid (by have := HKQ.out; omega), Lib.hid (by have := HKL.out; omega), HD2, HM2, HB2⟩
end Go.Proofs.Ytbpkepcbmenbcaa.Ar
