import Derived.Test.YthblincfnfpgbaaQxPMisc
import Derived.Test.YthblincfnfpgbaaQxL
import Derived.Test.YthblincfnfpgbaaQxPTurned
import Derived.Test.YthblincfnfpgbaaQxWTurned
namespace Go.Proofs.Ythblincfnfpgbaa.Q
open Go.RowKit Go.Proofs.YthblincfnfpgbaaW.PrintWords Go.Proofs.YthblincfnfpgbaaW.PrintLast Go.Proofs.YthblincfnfpgbaaW.PrintMore
set_option linter.unusedVariables false
theorem sameOps_n (l : List S95) (h0 : ∀ o ∈ l, o.f6 = []) (hl : l.length < 4398046511104) (d : Nat) : ∀ (k i : Nat), i + d = l.length → d + 2 < k → shutterlaw27_sameOps.l0 k l l i = some true := by
  induction d with
  | zero =>
    intro k i h hk
    obtain ⟨k, rfl⟩ : ∃ m, k = m + 1 := ⟨k - 1, by omega⟩
    simp only [shutterlaw27_sameOps.l0]
    rw [if_neg (by omega)]
  | succ d ih =>
    intro k i h hk
    obtain ⟨k, rfl⟩ : ∃ m, k = m + 3 := ⟨k - 3, by omega⟩
    have e := h0 _ (List.getElem_mem (show i < l.length by omega))
    simp only [shutterlaw27_sameOps.l0]
    rw [if_pos (by omega), if_pos (by omega), if_pos (by omega), rd95 l _ i rfl (by omega), e]
    have : ∀ (x : S95), shutterref17_SameOp.f (k + 2) x.f0 x.f1 x.f2 x.f3 x.f4 x.f5.f0 x.f5.f1 x.f5.f2 [] x.f7 x.f8 x.f0 x.f1 x.f2 x.f3 x.f4 x.f5.f0 x.f5.f1 x.f5.f2 [] x.f7 x.f8 = some true := by
      intro x
      simp [shutterref17_SameOp.f, shutterref17_SameOp.j0, shutterref17_SameOp.l0]
    rw [this, w1 i (by omega)]
    simp only [Option.bind_some, if_true]
    exact ih (k + 2) (i + 1) (by omega) (by omega)
theorem sameOps_f (l : List S95) (h0 : ∀ o ∈ l, o.f6 = []) (hl : l.length < 4398046511104) : ∃ k, shutterlaw27_sameOps.f k l l = some true :=
  ⟨l.length + 3, by unfold shutterlaw27_sameOps.f; rw [if_pos rfl]; exact sameOps_n l h0 hl l.length _ 0 (by omega) (by omega)⟩
set_option maxHeartbeats 8000000 in
set_option maxRecDepth 100000 in
theorem diffs_c (A : Option Addr) (c : Nat) (a : List S82) (B : Option Addr) (d : Nat) (b : List S82) (w : World) (hA : Kd.C k82 w A a.length a) (hc : a.length ≤ c) (hB : Kd.C k82 w B b.length b) (hd : b.length ≤ d) (hl : a.length + b.length < 1048577) :
    Calls Try.prog 5 #[.slice A a.length c, .slice B b.length d] w fun e w' => e = .returned (.bool true) ∧ Below w.heap.size w w' := by
  obtain ⟨l, e, f1, f2, f3, f4⟩ := diff_f a b (by omega)
  obtain ⟨k1, hk1⟩ : ∃ k, shutterref27_Diff.f k a b = some (l.map cv, e) := ⟨_, by rw [refDiff_f a b (by omega) (8 * (a.length + b.length) + 11) (by omega), f2]⟩
  obtain ⟨k2, ⟨s, es⟩, s1, s2, s3, s4⟩ := sync_f a b hl
  obtain ⟨k3, ⟨t, et⟩, t1, t2, t3, t4⟩ := sync_f [] a (by simp; omega)
  obtain ⟨k4, hk4⟩ := turn_f l (by omega)
  obtain ⟨k5, hk5⟩ := same_f (l.map cv) (by simp; omega)
  obtain ⟨k6, hk6⟩ := sameOps_f s s4 (by simp only at s3; omega)
  obtain ⟨k7, hk7⟩ := sameOps_f t t4 (by simp at t3; omega)
  clear f2
  generalize l.map cv = m at *
  have HA := Lib.hid hA
  have HC := Lib.hid hc
  have HB := Lib.hid hB
  have HD := Lib.hid hd
  have HL := Lib.hid hl
  have F1 := Lib.hid f1
  have K1 := Lib.hid hk1
  have S1 := Lib.hid s1
  have S2 := Lib.hid s2
  have T1 := Lib.hid t1
  have T2 := Lib.hid (show shutterref27_Load.f k3 a = some (t, et) by unfold shutterref27_Load.f; rw [t2]; rfl)
  have K4 := Lib.hid hk4
  have K5 := Lib.hid hk5
  have K6 := Lib.hid hk6
  have K7 := Lib.hid hk7
  clear hA hc hB hd hl f1 f3 f4 hk1 s1 s2 s3 s4 t1 t2 t3 t4 hk4 hk5 hk6 hk7
  go_enter Try.func5, Try.ntmps5
  go_wp2_with fail
  go_at_call 13
  refine (lent_c _ _ _ _ HA.out (by have := HL.out; omega)).mono ?_
  rintro en w1 ⟨x, rfl, h1, h2⟩
  have X1 := Lib.hid h1
  have B1 := Lib.hid h2
  clear h1 h2
  go_wp2_with fail
  go_at_call 13
  refine (lent_c _ _ _ _ (Kd.C_below HB.out B1.out) (by have := HL.out; omega)).mono ?_
  rintro en w2 ⟨y, rfl, h1, h2⟩
  have Y2 := Lib.hid h1
  have X2 := Lib.hid (lent_below X1.out h2)
  have B2 := Lib.hid (B1.out.trans (h2.mono B1.out.size))
  clear h1 h2
  have KX := Lib.hid X2.out
  have KY := Lib.hid Y2.out
  obtain ⟨AX, cx, rfl, hx1, hx2⟩ := lent_reads X2.out
  obtain ⟨AY, cy, rfl, hy1, hy2⟩ := lent_reads Y2.out
  have RX1 := Lib.hid hx1
  have RX2 := Lib.hid hx2
  have RY1 := Lib.hid hy1
  have RY2 := Lib.hid hy2
  replace HA := Lib.hid (Kd.C_below HA.out B2.out)
  replace HB := Lib.hid (Kd.C_below HB.out B2.out)
  have BB := Lib.hid B2.out
  clear hx1 hx2 hy1 hy2 X1 B1 X2 Y2 B2
  go_wp2_with fail
  go_at_call 11
  refine (dump_Diff.calls _ _ _ _ _ _ _ _ _ RX2.out RX1.out RY2.out RY1.out F1.out).mono ?_
  rintro en w3 ⟨v3, rfl, h1, h2⟩
  obtain ⟨A3, c3, rfl, h3, h4⟩ := Kd.R_reads h1
  have P3 := Lib.hid h3
  have Q3 := Lib.hid h4
  replace HA := Lib.hid (Kd.C_below HA.out h2)
  replace HB := Lib.hid (Kd.C_below HB.out h2)
  replace RX2 := Lib.hid (Kd.C_below RX2.out h2)
  replace RY2 := Lib.hid (Kd.C_below RY2.out h2)
  replace KX := Lib.hid (lent_below KX.out h2)
  replace KY := Lib.hid (lent_below KY.out h2)
  replace BB := Lib.hid (BB.out.trans (h2.mono BB.out.size))
  clear h1 h2 h3 h4
  go_wp2_with fail
  go_at_call 21
  refine (shutterref27_Diff.calls _ _ _ _ _ _ _ _ _ _ HA.out HC.out HB.out HD.out K1.out).mono ?_
  rintro en w4 ⟨v4, rfl, h1, h2⟩
  obtain ⟨A4, c4, rfl, h3, h4⟩ := Kd.R_reads h1
  have P4 := Lib.hid h3
  have Q4 := Lib.hid h4
  replace HA := Lib.hid (Kd.C_below HA.out h2)
  replace HB := Lib.hid (Kd.C_below HB.out h2)
  replace RX2 := Lib.hid (Kd.C_below RX2.out h2)
  replace RY2 := Lib.hid (Kd.C_below RY2.out h2)
  replace KX := Lib.hid (lent_below KX.out h2)
  replace KY := Lib.hid (lent_below KY.out h2)
  replace Q3 := Lib.hid (Kd.C_below Q3.out h2)
  replace BB := Lib.hid (BB.out.trans (h2.mono BB.out.size))
  clear h1 h2 h3 h4
  go_wp2_with fail
  go_at_call 22
  refine (dump_Sync.calls _ _ _ _ _ _ _ _ _ RX2.out RX1.out RY2.out RY1.out S1.out).mono ?_
  rintro en w5 ⟨v5, rfl, h1, h2⟩
  obtain ⟨A5, c5, rfl, h3, h4⟩ := Kd.R_reads h1
  have P5 := Lib.hid h3
  have Q5 := Lib.hid h4
  replace HA := Lib.hid (Kd.C_below HA.out h2)
  replace HB := Lib.hid (Kd.C_below HB.out h2)
  replace RX2 := Lib.hid (Kd.C_below RX2.out h2)
  replace RY2 := Lib.hid (Kd.C_below RY2.out h2)
  replace KX := Lib.hid (lent_below KX.out h2)
  replace KY := Lib.hid (lent_below KY.out h2)
  replace Q3 := Lib.hid (Kd.C_below Q3.out h2)
  replace Q4 := Lib.hid (Kd.C_below Q4.out h2)
  replace BB := Lib.hid (BB.out.trans (h2.mono BB.out.size))
  clear h1 h2 h3 h4
  go_wp2_with fail
  go_at_call 23
  refine (shutterref27_Sync.calls _ _ _ _ _ _ _ _ _ _ HA.out HC.out HB.out HD.out S2.out).mono ?_
  rintro en w6 ⟨v6, rfl, h1, h2⟩
  obtain ⟨A6, c6, rfl, h3, h4⟩ := Kd.S_reads h1
  have P6 := Lib.hid h3
  have Q6 := Lib.hid h4
  replace HA := Lib.hid (Kd.C_below HA.out h2)
  replace HB := Lib.hid (Kd.C_below HB.out h2)
  replace RX2 := Lib.hid (Kd.C_below RX2.out h2)
  replace RY2 := Lib.hid (Kd.C_below RY2.out h2)
  replace KX := Lib.hid (lent_below KX.out h2)
  replace KY := Lib.hid (lent_below KY.out h2)
  replace Q3 := Lib.hid (Kd.C_below Q3.out h2)
  replace Q4 := Lib.hid (Kd.C_below Q4.out h2)
  replace Q5 := Lib.hid (Kd.C_below Q5.out h2)
  replace BB := Lib.hid (BB.out.trans (h2.mono BB.out.size))
  clear h1 h2 h3 h4
  go_wp2_with fail
  go_at_call 24
  refine (load_c _ _ _ _ _ _ RX2.out RX1.out T1.out).mono ?_
  rintro en w7 ⟨v7, rfl, h1, h2⟩
  obtain ⟨A7, c7, rfl, h3, h4⟩ := Kd.R_reads h1
  have P7 := Lib.hid h3
  have Q7 := Lib.hid h4
  replace HA := Lib.hid (Kd.C_below HA.out h2)
  replace HB := Lib.hid (Kd.C_below HB.out h2)
  replace RX2 := Lib.hid (Kd.C_below RX2.out h2)
  replace RY2 := Lib.hid (Kd.C_below RY2.out h2)
  replace KX := Lib.hid (lent_below KX.out h2)
  replace KY := Lib.hid (lent_below KY.out h2)
  replace Q3 := Lib.hid (Kd.C_below Q3.out h2)
  replace Q4 := Lib.hid (Kd.C_below Q4.out h2)
  replace Q5 := Lib.hid (Kd.C_below Q5.out h2)
  replace Q6 := Lib.hid (Kd.C_below Q6.out h2)
  replace BB := Lib.hid (BB.out.trans (h2.mono BB.out.size))
  clear h1 h2 h3 h4
  go_wp2_with fail
  go_at_call 25
  refine (shutterref27_Load.calls _ _ _ _ _ _ _ HA.out HC.out T2.out).mono ?_
  rintro en w8 ⟨v8, rfl, h1, h2⟩
  obtain ⟨A8, c8, rfl, h3, h4⟩ := Kd.S_reads h1
  have P8 := Lib.hid h3
  have Q8 := Lib.hid h4
  replace HA := Lib.hid (Kd.C_below HA.out h2)
  replace HB := Lib.hid (Kd.C_below HB.out h2)
  replace RX2 := Lib.hid (Kd.C_below RX2.out h2)
  replace RY2 := Lib.hid (Kd.C_below RY2.out h2)
  replace KX := Lib.hid (lent_below KX.out h2)
  replace KY := Lib.hid (lent_below KY.out h2)
  replace Q3 := Lib.hid (Kd.C_below Q3.out h2)
  replace Q4 := Lib.hid (Kd.C_below Q4.out h2)
  replace Q5 := Lib.hid (Kd.C_below Q5.out h2)
  replace Q6 := Lib.hid (Kd.C_below Q6.out h2)
  replace Q7 := Lib.hid (Kd.C_below Q7.out h2)
  replace BB := Lib.hid (BB.out.trans (h2.mono BB.out.size))
  clear h1 h2 h3 h4
  go_wp2_with fail
  go_at_call 12
  refine (shutterlaw27_live.calls true _ live_f).mono ?_
  rintro en wz ⟨rfl, h2⟩
  replace HA := Lib.hid (Kd.C_below HA.out h2)
  replace HB := Lib.hid (Kd.C_below HB.out h2)
  replace RX2 := Lib.hid (Kd.C_below RX2.out h2)
  replace RY2 := Lib.hid (Kd.C_below RY2.out h2)
  replace KX := Lib.hid (lent_below KX.out h2)
  replace KY := Lib.hid (lent_below KY.out h2)
  replace Q3 := Lib.hid (Kd.C_below Q3.out h2)
  replace Q4 := Lib.hid (Kd.C_below Q4.out h2)
  replace Q5 := Lib.hid (Kd.C_below Q5.out h2)
  replace Q6 := Lib.hid (Kd.C_below Q6.out h2)
  replace Q7 := Lib.hid (Kd.C_below Q7.out h2)
  replace Q8 := Lib.hid (Kd.C_below Q8.out h2)
  replace BB := Lib.hid (BB.out.trans (h2.mono BB.out.size))
  clear h2
  go_wp2_with fail
  go_at_call 20
  refine (shutterlaw27_turn.calls _ _ _ _ _ _ Q3.out P3.out K4.out).mono ?_
  rintro en w9 ⟨v9, rfl, h1, h2⟩
  obtain ⟨A9, c9, rfl, h3, h4⟩ := Kd.R_reads h1
  have P9 := Lib.hid h3
  have Q9 := Lib.hid h4
  replace HA := Lib.hid (Kd.C_below HA.out h2)
  replace HB := Lib.hid (Kd.C_below HB.out h2)
  replace RX2 := Lib.hid (Kd.C_below RX2.out h2)
  replace RY2 := Lib.hid (Kd.C_below RY2.out h2)
  replace KX := Lib.hid (lent_below KX.out h2)
  replace KY := Lib.hid (lent_below KY.out h2)
  replace Q3 := Lib.hid (Kd.C_below Q3.out h2)
  replace Q4 := Lib.hid (Kd.C_below Q4.out h2)
  replace Q5 := Lib.hid (Kd.C_below Q5.out h2)
  replace Q6 := Lib.hid (Kd.C_below Q6.out h2)
  replace Q7 := Lib.hid (Kd.C_below Q7.out h2)
  replace Q8 := Lib.hid (Kd.C_below Q8.out h2)
  replace BB := Lib.hid (BB.out.trans (h2.mono BB.out.size))
  clear h1 h2 h3 h4
  go_wp2_with fail
  go_at_call 19
  refine (shutterlaw27_same.calls _ _ _ _ _ _ _ _ _ Q9.out P9.out Q4.out P4.out K5.out).mono ?_
  rintro en wz ⟨rfl, ⟨nd, rfl⟩⟩
  have h2 := pw_below_drewN (Below.refl (w9).heap.size (w9)) nd
  replace HA := Lib.hid (Kd.C_below HA.out h2)
  replace HB := Lib.hid (Kd.C_below HB.out h2)
  replace RX2 := Lib.hid (Kd.C_below RX2.out h2)
  replace RY2 := Lib.hid (Kd.C_below RY2.out h2)
  replace KX := Lib.hid (lent_below KX.out h2)
  replace KY := Lib.hid (lent_below KY.out h2)
  replace Q3 := Lib.hid (Kd.C_below Q3.out h2)
  replace Q4 := Lib.hid (Kd.C_below Q4.out h2)
  replace Q5 := Lib.hid (Kd.C_below Q5.out h2)
  replace Q6 := Lib.hid (Kd.C_below Q6.out h2)
  replace Q7 := Lib.hid (Kd.C_below Q7.out h2)
  replace Q8 := Lib.hid (Kd.C_below Q8.out h2)
  replace Q9 := Lib.hid (Kd.C_below Q9.out h2)
  replace BB := Lib.hid (BB.out.trans (h2.mono BB.out.size))
  clear h2
  go_wp2_with fail
  go_at_call 26
  refine (shutterlaw27_sameOps.calls _ _ _ _ _ _ _ _ _ Q5.out P5.out Q6.out P6.out K6.out).mono ?_
  rintro en wa ⟨rfl, h2⟩
  replace HA := Lib.hid (Kd.C_below HA.out h2)
  replace HB := Lib.hid (Kd.C_below HB.out h2)
  replace RX2 := Lib.hid (Kd.C_below RX2.out h2)
  replace RY2 := Lib.hid (Kd.C_below RY2.out h2)
  replace KX := Lib.hid (lent_below KX.out h2)
  replace KY := Lib.hid (lent_below KY.out h2)
  replace Q3 := Lib.hid (Kd.C_below Q3.out h2)
  replace Q4 := Lib.hid (Kd.C_below Q4.out h2)
  replace Q5 := Lib.hid (Kd.C_below Q5.out h2)
  replace Q6 := Lib.hid (Kd.C_below Q6.out h2)
  replace Q7 := Lib.hid (Kd.C_below Q7.out h2)
  replace Q8 := Lib.hid (Kd.C_below Q8.out h2)
  replace Q9 := Lib.hid (Kd.C_below Q9.out h2)
  replace BB := Lib.hid (BB.out.trans (h2.mono BB.out.size))
  clear h2
  go_wp2_with fail
  go_at_call 26
  refine (shutterlaw27_sameOps.calls _ _ _ _ _ _ _ _ _ Q7.out P7.out Q8.out P8.out K7.out).mono ?_
  rintro en wb ⟨rfl, h2⟩
  replace HA := Lib.hid (Kd.C_below HA.out h2)
  replace HB := Lib.hid (Kd.C_below HB.out h2)
  replace RX2 := Lib.hid (Kd.C_below RX2.out h2)
  replace RY2 := Lib.hid (Kd.C_below RY2.out h2)
  replace KX := Lib.hid (lent_below KX.out h2)
  replace KY := Lib.hid (lent_below KY.out h2)
  replace Q3 := Lib.hid (Kd.C_below Q3.out h2)
  replace Q4 := Lib.hid (Kd.C_below Q4.out h2)
  replace Q5 := Lib.hid (Kd.C_below Q5.out h2)
  replace Q6 := Lib.hid (Kd.C_below Q6.out h2)
  replace Q7 := Lib.hid (Kd.C_below Q7.out h2)
  replace Q8 := Lib.hid (Kd.C_below Q8.out h2)
  replace Q9 := Lib.hid (Kd.C_below Q9.out h2)
  replace BB := Lib.hid (BB.out.trans (h2.mono BB.out.size))
  clear h2
  go_wp2_with fail
  go_at_call 18
  refine (kept_c _ _ _ _ _ KX.out HA.out HC.out (by have := HL.out; omega) (samePairs_f a (by have := HL.out; omega))).mono ?_
  rintro en wc ⟨rfl, h2⟩
  replace HA := Lib.hid (Kd.C_below HA.out h2)
  replace HB := Lib.hid (Kd.C_below HB.out h2)
  replace RX2 := Lib.hid (Kd.C_below RX2.out h2)
  replace RY2 := Lib.hid (Kd.C_below RY2.out h2)
  replace KX := Lib.hid (lent_below KX.out h2)
  replace KY := Lib.hid (lent_below KY.out h2)
  replace Q3 := Lib.hid (Kd.C_below Q3.out h2)
  replace Q4 := Lib.hid (Kd.C_below Q4.out h2)
  replace Q5 := Lib.hid (Kd.C_below Q5.out h2)
  replace Q6 := Lib.hid (Kd.C_below Q6.out h2)
  replace Q7 := Lib.hid (Kd.C_below Q7.out h2)
  replace Q8 := Lib.hid (Kd.C_below Q8.out h2)
  replace Q9 := Lib.hid (Kd.C_below Q9.out h2)
  replace BB := Lib.hid (BB.out.trans (h2.mono BB.out.size))
  clear h2
  go_wp2_with fail
  go_at_call 18
  refine (kept_c _ _ _ _ _ KY.out HB.out HD.out (by have := HL.out; omega) (samePairs_f b (by have := HL.out; omega))).mono ?_
  rintro en wd ⟨rfl, h2⟩
  replace HA := Lib.hid (Kd.C_below HA.out h2)
  replace HB := Lib.hid (Kd.C_below HB.out h2)
  replace RX2 := Lib.hid (Kd.C_below RX2.out h2)
  replace RY2 := Lib.hid (Kd.C_below RY2.out h2)
  replace KX := Lib.hid (lent_below KX.out h2)
  replace KY := Lib.hid (lent_below KY.out h2)
  replace Q3 := Lib.hid (Kd.C_below Q3.out h2)
  replace Q4 := Lib.hid (Kd.C_below Q4.out h2)
  replace Q5 := Lib.hid (Kd.C_below Q5.out h2)
  replace Q6 := Lib.hid (Kd.C_below Q6.out h2)
  replace Q7 := Lib.hid (Kd.C_below Q7.out h2)
  replace Q8 := Lib.hid (Kd.C_below Q8.out h2)
  replace Q9 := Lib.hid (Kd.C_below Q9.out h2)
  replace BB := Lib.hid (BB.out.trans (h2.mono BB.out.size))
  clear h2
  go_wp2_with fail
  go_ret
  exact ⟨rfl, BB.out⟩
theorem diffs_walk (W : World) (a0 : Option Addr) (c0 : Nat) (x0 : List S82) (h0 : Kd.C k82 W a0 x0.length x0) (l0 : x0.length ≤ c0) {H : Type} {d0 d1 : DataW H} (b0 : (x0.map B82).sum + 1 ≤ Rows.uptoBulk d0) (w0 : ∀ x ∈ x0, wfP x)
    (a1 : Option Addr) (c1 : Nat) (x1 : List S82) (h1 : Kd.C k82 W a1 x1.length x1) (l1 : x1.length ≤ c1) (b1 : (x1.map B82).sum + 1 ≤ Rows.uptoBulk d1) (w1 : ∀ x ∈ x1, wfP x) (hb : Rows.uptoBulk d0 + (Rows.uptoBulk d1 + 0) ≤ 1048576) :
    Calls Try.prog 5 #[.slice a0 x0.length c0, .slice a1 x1.length c1] W fun e W' => e = .returned (.bool true) ∧ Below W.heap.size W W' := by
  have s0 := sum82 x0
  have s1 := sum82 x1
  exact diffs_c a0 c0 x0 a1 c1 x1 W h0 l0 h1 l1 (by omega)
end Go.Proofs.Ythblincfnfpgbaa.Q
