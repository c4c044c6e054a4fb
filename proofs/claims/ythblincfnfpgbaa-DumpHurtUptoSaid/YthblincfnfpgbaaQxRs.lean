import Derived.Test.YthblincfnfpgbaaQxRd
import Derived.Deep.DeepCutAuto
namespace Go.Proofs.Ythblincfnfpgbaa.Q
open Go.RowKit Go.Proofs.YthblincfnfpgbaaW.PrintWords Go.Proofs.YthblincfnfpgbaaW.PrintLast Go.Proofs.YthblincfnfpgbaaW.PrintMore
set_option linter.unusedVariables false
set_option linter.unusedSimpArgs false
/-- What all bytes begin with, from a place on: the place and the error then. -/
def startL : List Int → Int → List Int → Int × Int
  | [], _, _ => (4, 0)
  | _ :: _, i, [] => (i, 270)
  | m :: ms, i, c :: l => if c = m then startL ms (i + 1) l else (i, 271)
def startX (bs : List Int) : Int × Int := startL [83, 72, 85, 49] 0 bs
theorem drop_at (bs : List Int) (j : Nat) (h : j < bs.length) : bs.drop j = rd bs j :: bs.drop (j + 1) := by
  rw [List.drop_eq_getElem_cons h]; unfold rd; rw [Int.toNat_natCast, List.getD_eq_getElem?_getD, List.getElem?_eq_getElem h]; rfl
set_option maxHeartbeats 8000000 in
set_option maxRecDepth 100000 in
theorem start_c (g : Nat) (bs : List Int) (w0 w : World) (hI : IsS123 w0 w g bs 0 0) (hB : Below w0.heap.size w0 w) :
    Calls Try.prog 60 #[.pointer (some ⟨g, 0, none⟩)] w fun e w' => e = .returned (.tuple #[]) ∧ IsS123 w0 w' g bs (startX bs).1 (startX bs).2 ∧ Below w0.heap.size w0 w' ∧ KeepBut w w' g none := by
  have hu := Try.underlying123
  obtain ⟨R, hR⟩ : ∃ R, R = startX bs := ⟨_, rfl⟩
  rw [← hR]
  have HI := Lib.hid hI
  have HB := Lib.hid hB
  have HE := Lib.hid (show R = startL ([83, 72, 85, 49].drop 0) ((0 : Nat) : Int) (bs.drop 0) from hR)
  clear hI hB hR
  go_enter Try.func60, Try.ntmps60
  go_wp2
  go_loopg [3] 5 (fun kq x w' => ∃ j : Nat, x = .int .i64 j ∧ Hid (kq + j = 5) ∧ Hid (0 < kq) ∧ Hid (j ≤ bs.length) ∧ Hid (R = startL ([83, 72, 85, 49].drop j) j (bs.drop j)) ∧ Hid (IsS123 w0 w' g bs 0 0) ∧ Hid (Below w0.heap.size w0 w') ∧ Hid (KeepBut w w' g none))
  case atStart => exact ⟨0, rfl, Lib.hid rfl, Lib.hid (by omega), Lib.hid (by omega), HE, HI, HB, Lib.hid (KeepBut.refl _ _ _)⟩
  case round =>
    obtain ⟨j, rfl, HK, HK0, HJ, HR, HIr, HBr, HKr⟩ := hrel
    clear HI HB HE
    obtain ⟨A, c, hb, hg, hC⟩ := HIr.out
    have c0 := cellS123_0 hb
    have c1 := cellS123_1 hb
    have c2 := cellS123_2 hb
    have c3 : wr.frozen? ⟨g, 1, none⟩ = false := blk_frozen hb 1
    have HC := Lib.hid (Kd.C_below hC HBr.out)
    have hj : j = 0 ∨ j = 1 ∨ j = 2 ∨ j = 3 ∨ j = 4 := by have := HK.out; have := HK0.out; omega
    clear hb hg hC
    rcases hj with rfl | rfl | rfl | rfl | rfl
    · by_cases hl : 0 < bs.length
      · obtain ⟨ad, rfl, hx⟩ := Kd.at_int HC.out (0 : Int) (by omega) (by omega)
        have hn : ((0 : Int) == (bs.length : Int)) = false := by rw [beq_eq_false_iff_ne]; omega
        have b1 : (0 : Int) < (bs.length : Int) := by omega
        have hd := drop_at bs 0 hl
        have HRY : Hid (R = startL ([83, 72, 85, 49].drop 0) ((0 : Nat) : Int) (rd bs (0 : Int) :: bs.drop (0 + 1))) := Lib.hid (by rw [HR.out, hd]; rfl)
        have HJ1 := Lib.hid (show 0 + 1 ≤ bs.length by omega)
        clear hd HR
        have hx' : wr.cell? ad = some (.int .u8 (rd bs (0 : Int))) := by simpa [Addr.add] using hx
        clear hx
        have hm : ∀ h, (((⟨#[83, 72, 85, 49]⟩ : ByteArray)[0]'h).toNat : Int) = 83 := fun _ => rfl
        generalize rd bs (0 : Int) = y at *
        by_cases hy : y = 83
        · have HRR : Hid (R = startL ([83, 72, 85, 49].drop 1) ((1 : Nat) : Int) (bs.drop 1)) := Lib.hid (by rw [HRY.out, hy]; rfl)
          have y1 : (y == 83) = true := by rw [beq_iff_eq]; exact hy
          have y2 : (y != 83) = false := by rw [bne_eq_false_iff_eq]; exact hy
          obtain rfl := hy
          go_wp2
          go_quiet (fail)
          go_wp2
          go_roundg (gk - 1)
          case measure => have := HK0.out; omega
          case rel => exact ⟨1, rfl, Lib.hid (by have := HK.out; omega), Lib.hid (by have := HK.out; omega), HJ1, HRR, Lib.hid (HIr.out.drewN _), Lib.hid (pw_below_drewN HBr.out _), Lib.hid (keep_drewN HKr.out _)⟩
        · have HRR : Hid (R = (0, 271)) := Lib.hid (by rw [HRY.out]; show startL (83 :: _) _ _ = _; rw [startL, if_neg hy]; rfl)
          have y1 : (y == 83) = false := by rw [beq_eq_false_iff_ne]; exact hy
          have y2 : (y != 83) = true := by rw [bne_iff_ne]; exact hy
          clear hy
          go_wp2
          go_quiet (fail)
          go_wp2_with fail
          go_at_call 63
          refine (dump_reader_fail.calls g bs 0 0 271 0 0 271 w0 _ (by first | exact HIr.out | exact HIr.out.drewN _) (by first | exact HBr.out | exact pw_below_drewN HBr.out _) rfl).mono ?_
          rintro e w1 ⟨rfl, h1, h2, h3⟩
          have H1 := Lib.hid h1
          have H2 := Lib.hid h2
          have H3 := Lib.hid (show KeepBut w w1 g none from (by first | exact HKr.out.trans h3 (.inl rfl) | exact (keep_drewN HKr.out _).trans h3 (.inl rfl)))
          obtain ⟨A', c', hb', -, -⟩ := h1
          have d2 := cellS123_2 hb'
          clear h2 h3 hb'
          go_wp2
          refine bodyPost_ret (results_none rfl _ _ _) rfl ?_
          rw [HRR.out]
          exact ⟨rfl, H1.out, H2.out, H3.out⟩
      · have e0 : bs.drop 0 = [] := List.drop_of_length_le (by omega)
        have HRR : Hid (R = (0, 270)) := Lib.hid (by rw [HR.out, e0]; rfl)
        clear e0
        have HL : Hid (bs.length = 0) := Lib.hid (by have h := HJ.out; omega)
        have hn : ((0 : Int) == (bs.length : Int)) = true := by rw [beq_iff_eq]; have := HL.out; omega
        clear hl
        go_wp2_with fail
        go_at_call 63
        refine (dump_reader_fail.calls g bs 0 0 270 0 0 270 w0 _ (by first | exact HIr.out | exact HIr.out.drewN _) (by first | exact HBr.out | exact pw_below_drewN HBr.out _) rfl).mono ?_
        rintro e w1 ⟨rfl, h1, h2, h3⟩
        have H1 := Lib.hid h1
        have H2 := Lib.hid h2
        have H3 := Lib.hid (show KeepBut w w1 g none from (by first | exact HKr.out.trans h3 (.inl rfl) | exact (keep_drewN HKr.out _).trans h3 (.inl rfl)))
        obtain ⟨A', c', hb', -, -⟩ := h1
        have d2 := cellS123_2 hb'
        clear h2 h3 hb'
        go_wp2
        refine bodyPost_ret (results_none rfl _ _ _) rfl ?_
        rw [HRR.out]
        exact ⟨rfl, H1.out, H2.out, H3.out⟩
    · by_cases hl : 1 < bs.length
      · obtain ⟨ad, rfl, hx⟩ := Kd.at_int HC.out (1 : Int) (by omega) (by omega)
        have hn : ((1 : Int) == (bs.length : Int)) = false := by rw [beq_eq_false_iff_ne]; omega
        have b1 : (1 : Int) < (bs.length : Int) := by omega
        have hd := drop_at bs 1 hl
        have HRY : Hid (R = startL ([83, 72, 85, 49].drop 1) ((1 : Nat) : Int) (rd bs (1 : Int) :: bs.drop (1 + 1))) := Lib.hid (by rw [HR.out, hd]; rfl)
        have HJ1 := Lib.hid (show 1 + 1 ≤ bs.length by omega)
        clear hd HR
        have hx' : wr.cell? ⟨ad.block, ad.off + 1, none⟩ = some (.int .u8 (rd bs (1 : Int))) := by simpa [Addr.add] using hx
        clear hx
        have hm : ∀ h, (((⟨#[83, 72, 85, 49]⟩ : ByteArray)[1]'h).toNat : Int) = 72 := fun _ => rfl
        generalize rd bs (1 : Int) = y at *
        by_cases hy : y = 72
        · have HRR : Hid (R = startL ([83, 72, 85, 49].drop 2) ((2 : Nat) : Int) (bs.drop 2)) := Lib.hid (by rw [HRY.out, hy]; rfl)
          have y1 : (y == 72) = true := by rw [beq_iff_eq]; exact hy
          have y2 : (y != 72) = false := by rw [bne_eq_false_iff_eq]; exact hy
          obtain rfl := hy
          go_wp2
          go_quiet (fail)
          go_wp2
          go_roundg (gk - 1)
          case measure => have := HK0.out; omega
          case rel => exact ⟨2, rfl, Lib.hid (by have := HK.out; omega), Lib.hid (by have := HK.out; omega), HJ1, HRR, Lib.hid (HIr.out.drewN _), Lib.hid (pw_below_drewN HBr.out _), Lib.hid (keep_drewN HKr.out _)⟩
        · have HRR : Hid (R = (1, 271)) := Lib.hid (by rw [HRY.out]; show startL (72 :: _) _ _ = _; rw [startL, if_neg hy]; rfl)
          have y1 : (y == 72) = false := by rw [beq_eq_false_iff_ne]; exact hy
          have y2 : (y != 72) = true := by rw [bne_iff_ne]; exact hy
          clear hy
          go_wp2
          go_quiet (fail)
          go_wp2_with fail
          go_at_call 63
          refine (dump_reader_fail.calls g bs 0 0 271 1 1 271 w0 _ (by first | exact HIr.out | exact HIr.out.drewN _) (by first | exact HBr.out | exact pw_below_drewN HBr.out _) rfl).mono ?_
          rintro e w1 ⟨rfl, h1, h2, h3⟩
          have H1 := Lib.hid h1
          have H2 := Lib.hid h2
          have H3 := Lib.hid (show KeepBut w w1 g none from (by first | exact HKr.out.trans h3 (.inl rfl) | exact (keep_drewN HKr.out _).trans h3 (.inl rfl)))
          obtain ⟨A', c', hb', -, -⟩ := h1
          have d2 := cellS123_2 hb'
          clear h2 h3 hb'
          go_wp2
          refine bodyPost_ret (results_none rfl _ _ _) rfl ?_
          rw [HRR.out]
          exact ⟨rfl, H1.out, H2.out, H3.out⟩
      · have e0 : bs.drop 1 = [] := List.drop_of_length_le (by omega)
        have HRR : Hid (R = (1, 270)) := Lib.hid (by rw [HR.out, e0]; rfl)
        clear e0
        have HL : Hid (bs.length = 1) := Lib.hid (by have h := HJ.out; omega)
        have hn : ((1 : Int) == (bs.length : Int)) = true := by rw [beq_iff_eq]; have := HL.out; omega
        clear hl
        go_wp2_with fail
        go_at_call 63
        refine (dump_reader_fail.calls g bs 0 0 270 1 1 270 w0 _ (by first | exact HIr.out | exact HIr.out.drewN _) (by first | exact HBr.out | exact pw_below_drewN HBr.out _) rfl).mono ?_
        rintro e w1 ⟨rfl, h1, h2, h3⟩
        have H1 := Lib.hid h1
        have H2 := Lib.hid h2
        have H3 := Lib.hid (show KeepBut w w1 g none from (by first | exact HKr.out.trans h3 (.inl rfl) | exact (keep_drewN HKr.out _).trans h3 (.inl rfl)))
        obtain ⟨A', c', hb', -, -⟩ := h1
        have d2 := cellS123_2 hb'
        clear h2 h3 hb'
        go_wp2
        refine bodyPost_ret (results_none rfl _ _ _) rfl ?_
        rw [HRR.out]
        exact ⟨rfl, H1.out, H2.out, H3.out⟩
    · by_cases hl : 2 < bs.length
      · obtain ⟨ad, rfl, hx⟩ := Kd.at_int HC.out (2 : Int) (by omega) (by omega)
        have hn : ((2 : Int) == (bs.length : Int)) = false := by rw [beq_eq_false_iff_ne]; omega
        have b1 : (2 : Int) < (bs.length : Int) := by omega
        have hd := drop_at bs 2 hl
        have HRY : Hid (R = startL ([83, 72, 85, 49].drop 2) ((2 : Nat) : Int) (rd bs (2 : Int) :: bs.drop (2 + 1))) := Lib.hid (by rw [HR.out, hd]; rfl)
        have HJ1 := Lib.hid (show 2 + 1 ≤ bs.length by omega)
        clear hd HR
        have hx' : wr.cell? ⟨ad.block, ad.off + 2, none⟩ = some (.int .u8 (rd bs (2 : Int))) := by simpa [Addr.add] using hx
        clear hx
        have hm : ∀ h, (((⟨#[83, 72, 85, 49]⟩ : ByteArray)[2]'h).toNat : Int) = 85 := fun _ => rfl
        generalize rd bs (2 : Int) = y at *
        by_cases hy : y = 85
        · have HRR : Hid (R = startL ([83, 72, 85, 49].drop 3) ((3 : Nat) : Int) (bs.drop 3)) := Lib.hid (by rw [HRY.out, hy]; rfl)
          have y1 : (y == 85) = true := by rw [beq_iff_eq]; exact hy
          have y2 : (y != 85) = false := by rw [bne_eq_false_iff_eq]; exact hy
          obtain rfl := hy
          go_wp2
          go_quiet (fail)
          go_wp2
          go_roundg (gk - 1)
          case measure => have := HK0.out; omega
          case rel => exact ⟨3, rfl, Lib.hid (by have := HK.out; omega), Lib.hid (by have := HK.out; omega), HJ1, HRR, Lib.hid (HIr.out.drewN _), Lib.hid (pw_below_drewN HBr.out _), Lib.hid (keep_drewN HKr.out _)⟩
        · have HRR : Hid (R = (2, 271)) := Lib.hid (by rw [HRY.out]; show startL (85 :: _) _ _ = _; rw [startL, if_neg hy]; rfl)
          have y1 : (y == 85) = false := by rw [beq_eq_false_iff_ne]; exact hy
          have y2 : (y != 85) = true := by rw [bne_iff_ne]; exact hy
          clear hy
          go_wp2
          go_quiet (fail)
          go_wp2_with fail
          go_at_call 63
          refine (dump_reader_fail.calls g bs 0 0 271 2 2 271 w0 _ (by first | exact HIr.out | exact HIr.out.drewN _) (by first | exact HBr.out | exact pw_below_drewN HBr.out _) rfl).mono ?_
          rintro e w1 ⟨rfl, h1, h2, h3⟩
          have H1 := Lib.hid h1
          have H2 := Lib.hid h2
          have H3 := Lib.hid (show KeepBut w w1 g none from (by first | exact HKr.out.trans h3 (.inl rfl) | exact (keep_drewN HKr.out _).trans h3 (.inl rfl)))
          obtain ⟨A', c', hb', -, -⟩ := h1
          have d2 := cellS123_2 hb'
          clear h2 h3 hb'
          go_wp2
          refine bodyPost_ret (results_none rfl _ _ _) rfl ?_
          rw [HRR.out]
          exact ⟨rfl, H1.out, H2.out, H3.out⟩
      · have e0 : bs.drop 2 = [] := List.drop_of_length_le (by omega)
        have HRR : Hid (R = (2, 270)) := Lib.hid (by rw [HR.out, e0]; rfl)
        clear e0
        have HL : Hid (bs.length = 2) := Lib.hid (by have h := HJ.out; omega)
        have hn : ((2 : Int) == (bs.length : Int)) = true := by rw [beq_iff_eq]; have := HL.out; omega
        clear hl
        go_wp2_with fail
        go_at_call 63
        refine (dump_reader_fail.calls g bs 0 0 270 2 2 270 w0 _ (by first | exact HIr.out | exact HIr.out.drewN _) (by first | exact HBr.out | exact pw_below_drewN HBr.out _) rfl).mono ?_
        rintro e w1 ⟨rfl, h1, h2, h3⟩
        have H1 := Lib.hid h1
        have H2 := Lib.hid h2
        have H3 := Lib.hid (show KeepBut w w1 g none from (by first | exact HKr.out.trans h3 (.inl rfl) | exact (keep_drewN HKr.out _).trans h3 (.inl rfl)))
        obtain ⟨A', c', hb', -, -⟩ := h1
        have d2 := cellS123_2 hb'
        clear h2 h3 hb'
        go_wp2
        refine bodyPost_ret (results_none rfl _ _ _) rfl ?_
        rw [HRR.out]
        exact ⟨rfl, H1.out, H2.out, H3.out⟩
    · by_cases hl : 3 < bs.length
      · obtain ⟨ad, rfl, hx⟩ := Kd.at_int HC.out (3 : Int) (by omega) (by omega)
        have hn : ((3 : Int) == (bs.length : Int)) = false := by rw [beq_eq_false_iff_ne]; omega
        have b1 : (3 : Int) < (bs.length : Int) := by omega
        have hd := drop_at bs 3 hl
        have HRY : Hid (R = startL ([83, 72, 85, 49].drop 3) ((3 : Nat) : Int) (rd bs (3 : Int) :: bs.drop (3 + 1))) := Lib.hid (by rw [HR.out, hd]; rfl)
        have HJ1 := Lib.hid (show 3 + 1 ≤ bs.length by omega)
        clear hd HR
        have hx' : wr.cell? ⟨ad.block, ad.off + 3, none⟩ = some (.int .u8 (rd bs (3 : Int))) := by simpa [Addr.add] using hx
        clear hx
        have hm : ∀ h, (((⟨#[83, 72, 85, 49]⟩ : ByteArray)[3]'h).toNat : Int) = 49 := fun _ => rfl
        generalize rd bs (3 : Int) = y at *
        by_cases hy : y = 49
        · have HRR : Hid (R = startL ([83, 72, 85, 49].drop 4) ((4 : Nat) : Int) (bs.drop 4)) := Lib.hid (by rw [HRY.out, hy]; rfl)
          have y1 : (y == 49) = true := by rw [beq_iff_eq]; exact hy
          have y2 : (y != 49) = false := by rw [bne_eq_false_iff_eq]; exact hy
          obtain rfl := hy
          go_wp2
          go_quiet (fail)
          go_wp2
          go_roundg (gk - 1)
          case measure => have := HK0.out; omega
          case rel => exact ⟨4, rfl, Lib.hid (by have := HK.out; omega), Lib.hid (by have := HK.out; omega), HJ1, HRR, Lib.hid (HIr.out.drewN _), Lib.hid (pw_below_drewN HBr.out _), Lib.hid (keep_drewN HKr.out _)⟩
        · have HRR : Hid (R = (3, 271)) := Lib.hid (by rw [HRY.out]; show startL (49 :: _) _ _ = _; rw [startL, if_neg hy]; rfl)
          have y1 : (y == 49) = false := by rw [beq_eq_false_iff_ne]; exact hy
          have y2 : (y != 49) = true := by rw [bne_iff_ne]; exact hy
          clear hy
          go_wp2
          go_quiet (fail)
          go_wp2_with fail
          go_at_call 63
          refine (dump_reader_fail.calls g bs 0 0 271 3 3 271 w0 _ (by first | exact HIr.out | exact HIr.out.drewN _) (by first | exact HBr.out | exact pw_below_drewN HBr.out _) rfl).mono ?_
          rintro e w1 ⟨rfl, h1, h2, h3⟩
          have H1 := Lib.hid h1
          have H2 := Lib.hid h2
          have H3 := Lib.hid (show KeepBut w w1 g none from (by first | exact HKr.out.trans h3 (.inl rfl) | exact (keep_drewN HKr.out _).trans h3 (.inl rfl)))
          obtain ⟨A', c', hb', -, -⟩ := h1
          have d2 := cellS123_2 hb'
          clear h2 h3 hb'
          go_wp2
          refine bodyPost_ret (results_none rfl _ _ _) rfl ?_
          rw [HRR.out]
          exact ⟨rfl, H1.out, H2.out, H3.out⟩
      · have e0 : bs.drop 3 = [] := List.drop_of_length_le (by omega)
        have HRR : Hid (R = (3, 270)) := Lib.hid (by rw [HR.out, e0]; rfl)
        clear e0
        have HL : Hid (bs.length = 3) := Lib.hid (by have h := HJ.out; omega)
        have hn : ((3 : Int) == (bs.length : Int)) = true := by rw [beq_iff_eq]; have := HL.out; omega
        clear hl
        go_wp2_with fail
        go_at_call 63
        refine (dump_reader_fail.calls g bs 0 0 270 3 3 270 w0 _ (by first | exact HIr.out | exact HIr.out.drewN _) (by first | exact HBr.out | exact pw_below_drewN HBr.out _) rfl).mono ?_
        rintro e w1 ⟨rfl, h1, h2, h3⟩
        have H1 := Lib.hid h1
        have H2 := Lib.hid h2
        have H3 := Lib.hid (show KeepBut w w1 g none from (by first | exact HKr.out.trans h3 (.inl rfl) | exact (keep_drewN HKr.out _).trans h3 (.inl rfl)))
        obtain ⟨A', c', hb', -, -⟩ := h1
        have d2 := cellS123_2 hb'
        clear h2 h3 hb'
        go_wp2
        refine bodyPost_ret (results_none rfl _ _ _) rfl ?_
        rw [HRR.out]
        exact ⟨rfl, H1.out, H2.out, H3.out⟩
    · go_wp2
      go_end0
      rw [HR.out]
      exact ⟨rfl, HIr.out.set_1 4, HBr.out.setCell HIr.out.ge _, HKr.out.set_ _ _⟩
end Go.Proofs.Ythblincfnfpgbaa.Q
