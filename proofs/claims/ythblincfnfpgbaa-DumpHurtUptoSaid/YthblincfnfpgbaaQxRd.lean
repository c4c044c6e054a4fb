import Derived.Test.YthblincfnfpgbaaQx47
import Derived.Test.YthblincfnfpgbaaQxH1
import Derived.Outline
import Derived.IntWalk
import Derived.BigQuiet
import Derived.Deep.QuietTactic
import Derived.Deep.DeepCutAuto
import Derived.Lib.VarintBits
namespace Go.Proofs.Ythblincfnfpgbaa.Q
open Go.RowKit Go.Proofs.YthblincfnfpgbaaW.PrintWords Go.Proofs.YthblincfnfpgbaaW.PrintLast Go.Proofs.YthblincfnfpgbaaW.PrintMore
set_option linter.unusedVariables false
set_option linter.unusedSimpArgs false
/-- A number at a place: it (what of it was read), the place behind it or of the error, the error. -/
def numR : Nat → Int → Int → List Int → Int × Int × Int
  | _, at', v, [] => (v, at', 270)
  | i, at', v, c :: l => if (0 < i ∧ c = 0) ∨ (i = 9 ∧ 1 < c) then (v, at', 271) else if c < 128 then (v + (c % 128) * 2 ^ (7 * i), at' + 1, 0) else numR (i + 1) (at' + 1) (v + (c % 128) * 2 ^ (7 * i)) l
theorem pow_split (i : Nat) : (2 : Int) ^ (7 * (i + 1)) = 2 ^ (7 * i) * 128 := by
  rw [show 7 * (i + 1) = 7 * i + 7 by omega, Int.pow_add]; rfl
/-- The next seven bits. -/
theorem acc7 (i : Nat) (v y : Int) (hv0 : 0 ≤ v) (hv : v < 2 ^ (7 * i)) (hy0 : 0 ≤ y) (hy : y < 256) (hi : i < 9 ∨ (i = 9 ∧ y ≤ 1)) :
    bits .or .u64 v (IntKind.u64.wrap (IntKind.u64.wrap (bits .and .u8 y 127) * 2 ^ (7 * i))) = v + (y % 128) * 2 ^ (7 * i) := by
  rw [u8_and127 y hy0 hy, u64_wrap_id (y % 128) (by omega) (by omega)]
  have hP : (0 : Int) < 2 ^ (7 * i) := Int.pow_pos (by decide)
  have hb : y % 128 * 2 ^ (7 * i) < 18446744073709551616 ∧ v < 18446744073709551616 := by
    rcases hi with hi | ⟨rfl, hy1⟩
    · have h1 : (2 : Int) ^ (7 * i) ≤ 2 ^ 56 := by exact_mod_cast Nat.pow_le_pow_right (n := 2) (by decide) (show 7 * i ≤ 56 by omega)
      have h2 : y % 128 * 2 ^ (7 * i) ≤ 127 * 2 ^ 56 := Int.mul_le_mul (by omega) h1 (by omega) (by omega)
      have h3 : (2 : Int) ^ 56 = 72057594037927936 := by decide
      omega
    · have h3 : (2 : Int) ^ (7 * 9) = 9223372036854775808 := by decide
      rw [h3] at hv ⊢
      omega
  have h0 : 0 ≤ y % 128 * 2 ^ (7 * i) := Int.mul_nonneg (by omega) (by omega)
  rw [u64_wrap_id _ h0 hb.1]
  exact bits_join_low .u64 64 (by decide) wraps_u64 (7 * i) v _ hv0 hv (by have := hb.2; omega) h0 (Int.mul_emod_left ..) (by have := hb.1; omega)
theorem acc7_lt (i : Nat) (v y : Int) (hv0 : 0 ≤ v) (hv : v < 2 ^ (7 * i)) : 0 ≤ v + (y % 128) * 2 ^ (7 * i) ∧ v + (y % 128) * 2 ^ (7 * i) < 2 ^ (7 * (i + 1)) := by
  rw [pow_split]
  generalize (2 : Int) ^ (7 * i) = P at *
  have h1 : 0 ≤ y % 128 * P := Int.mul_nonneg (by omega) (by omega)
  have h2 : y % 128 * P ≤ 127 * P := Int.mul_le_mul_of_nonneg_right (by omega) (by omega)
  omega
/-- What the loop of number knows at a round's head: it goes on, or it has failed. -/
def RdSt (w0 w : World) (g : Nat) (bs : List Int) (R : Int × Int × Int) (kq i a : Nat) (v iv : Int) (w' : World) : Prop :=
  (iv = i ∧ kq + i = 10 ∧ 0 < kq ∧ a ≤ bs.length ∧ (0 ≤ v ∧ v < 2 ^ (7 * i)) ∧ R = numR i a v (bs.drop a) ∧ w' = w) ∨
  (R.1 = v ∧ R.2.2 ≠ 0 ∧ IsS123 w0 w' g bs R.2.1 R.2.2 ∧ Below w0.heap.size w0 w' ∧ KeepBut w w' g none)
theorem ret_u64 {a b : Int} (h : a = b) : Ending.returned (.int .u64 a) = .returned (.int .u64 b) := by rw [h]
set_option maxHeartbeats 8000000 in
set_option maxRecDepth 100000 in
theorem rdnum_c (g : Nat) (bs : List Int) (at' : Nat) (w0 w : World) (hI : IsS123 w0 w g bs at' 0) (hB : Below w0.heap.size w0 w) (ha : at' ≤ bs.length) (hbs : ∀ c ∈ bs, 0 ≤ c ∧ c < 256) :
    Calls Try.prog 61 #[.pointer (some ⟨g, 0, none⟩)] w fun e w' => e = .returned (.int .u64 (numR 0 at' 0 (bs.drop at')).1) ∧ IsS123 w0 w' g bs (numR 0 at' 0 (bs.drop at')).2.1 (numR 0 at' 0 (bs.drop at')).2.2 ∧ Below w0.heap.size w0 w' ∧ KeepBut w w' g none := by
  have hu := Try.underlying123
  obtain ⟨A, c, hb, hg, hC⟩ := hI
  have c0 := cellS123_0 hb
  have c1 := cellS123_1 hb
  have c2 := cellS123_2 hb
  have HH := Lib.hid hb
  have HG := Lib.hid hg
  have HC := Lib.hid hC
  have HB := Lib.hid hB
  clear hb hg hC hB
  obtain ⟨R, hR⟩ : ∃ R, R = numR 0 at' 0 (bs.drop at') := ⟨_, rfl⟩
  rw [← hR]
  have HE := Lib.hid hR
  clear hR
  go_enter Try.func61, Try.ntmps61
  go_wp2
  go_step3
  go_wp2
  go_step3
  go_wp2
  go_loopg [3, 4, 5] 10 (fun kq u y x w' => ∃ (i a : Nat) (v iv : Int), u = .int .u64 v ∧ y = .int .i64 a ∧ x = .int .i64 iv ∧ RdSt w0 w g bs R kq i a v iv w')
  case atStart => exact ⟨0, at', 0, _, rfl, rfl, rfl, .inl ⟨rfl, rfl, by omega, ha, ⟨by omega, by decide⟩, HE.out, rfl⟩⟩
  case round =>
    obtain ⟨i, a, v, iv, rfl, rfl, rfl, hst⟩ := hrel
    rcases hst with ⟨hiv, hk, hk0, hA, hv, hR, rfl⟩ | ⟨h1, h2, h3, h4, h5⟩
    rotate_left
    · have H1 := Lib.hid h1
      have H3 := Lib.hid h3
      have H4 := Lib.hid h4
      have H5 := Lib.hid h5
      obtain ⟨A', c', hb', -, -⟩ := h3
      have d2 := cellS123_2 hb'
      have e2 : (R.2.2 == 0) = false := by rw [beq_eq_false_iff_ne]; exact h2
      clear h1 h2 h4 h5 hb' c0 c1 c2
      go_wp2
      rw [Exit.noGoto_ret]
      go_ret
      exact ⟨ret_u64 H1.out.symm, H3.out, H4.out, H5.out⟩
    have HK := Lib.hid hk
    have HK0 := Lib.hid hk0
    have HA := Lib.hid hA
    have HV := Lib.hid hv
    have HR := Lib.hid hR
    have HIV := Lib.hid hiv
    have b4 : 0 ≤ iv := by omega
    have b5 : iv ≤ 9 := by omega
    clear hk hk0 hA hv hR hiv
    by_cases hlt : a < bs.length
    · have hne : ((a : Int) == (bs.length : Int)) = false := by rw [beq_eq_false_iff_ne]; omega
      obtain ⟨ad, rfl, hx⟩ := Kd.at_int (Kd.C_below HC.out HB.out) (a : Int) (by omega) (by omega)
      have b1 : (0 : Int) ≤ (a : Int) := by omega
      have b2 : (a : Int) < (bs.length : Int) := by omega
      rw [Int.toNat_natCast] at hx
      have hy := hbs (rd bs a) (by unfold rd; rw [Int.toNat_natCast, List.getD_eq_getElem?_getD, List.getElem?_eq_getElem hlt]; exact List.getElem_mem hlt)
      have HY : Hid (bs.drop a = rd bs a :: bs.drop (a + 1)) := Lib.hid (by rw [List.drop_eq_getElem_cons hlt]; unfold rd; rw [Int.toNat_natCast, List.getD_eq_getElem?_getD, List.getElem?_eq_getElem hlt]; rfl)
      generalize rd bs a = y at *
      have c3 : wr.frozen? ⟨g, 1, none⟩ = false := blk_frozen HH.out 1
      have b3 : (a : Int) ≤ 9223372036854775806 := by have := HC.out.2.1; omega
      obtain ⟨hy0, hy1⟩ := hy
      clear hlt
      by_cases hbad : (0 < i ∧ y = 0) ∨ (i = 9 ∧ 1 < y)
      · have HR' : Hid (R = (v, (a : Int), 271)) := Lib.hid (by rw [HR.out, HY.out, numR, if_pos hbad])
        have hc : (decide (0 < iv) = true ∧ (y == 0) = true) ∨ (decide (0 < iv) = true ∧ (y == 0) = false ∧ (iv == 9) = true ∧ decide (1 < y) = true) := by
          rcases hbad with ⟨h1, h2⟩ | ⟨h1, h2⟩
          · exact .inl ⟨decide_eq_true (by have := HIV.out; omega), by rw [beq_iff_eq]; exact h2⟩
          · exact .inr ⟨decide_eq_true (by have := HIV.out; omega), by rw [beq_eq_false_iff_ne]; omega, by rw [beq_iff_eq]; have := HIV.out; omega, decide_eq_true h2⟩
        clear hbad
        rcases hc with ⟨e1, e2⟩ | ⟨e1, e2, e3, e4⟩
        · obtain rfl : y = 0 := by simpa using e2
          go_wp2_with fail
          go_at_call 63
          refine (dump_reader_fail.calls g bs _ 0 _ _ (a : Int) 271 w0 _ ⟨_, _, HH.out, HG.out, HC.out⟩ HB.out rfl).mono ?_
          rintro e w1 ⟨rfl, h1, h2, h3⟩
          have H1 := Lib.hid h1
          have H2 := Lib.hid h2
          have H3 := Lib.hid h3
          clear h1 h2 h3
          go_wp2
          go_roundg (gk - 1)
          case measure => have := HK0.out; omega
          case rel => exact ⟨i, a, v, _, rfl, rfl, rfl, .inr ⟨by rw [HR'.out], by rw [HR'.out]; show (271 : Int) ≠ 0; decide, by rw [HR'.out]; exact H1.out, H2.out, H3.out⟩⟩
        · obtain rfl : iv = 9 := beq_iff_eq.1 e3
          go_wp2_with fail
          go_at_call 63
          refine (dump_reader_fail.calls g bs _ 0 _ _ (a : Int) 271 w0 _ ⟨_, _, HH.out, HG.out, HC.out⟩ HB.out rfl).mono ?_
          rintro e w1 ⟨rfl, h1, h2, h3⟩
          have H1 := Lib.hid h1
          have H2 := Lib.hid h2
          have H3 := Lib.hid h3
          clear h1 h2 h3
          go_wp2
          go_roundg (gk - 1)
          case measure => have := HK0.out; omega
          case rel => exact ⟨i, a, v, _, rfl, rfl, rfl, .inr ⟨by rw [HR'.out], by rw [HR'.out]; show (271 : Int) ≠ 0; decide, by rw [HR'.out]; exact H1.out, H2.out, H3.out⟩⟩
      · have hc : (decide (0 < iv) = false ∧ (iv == 9) = false) ∨ (decide (0 < iv) = true ∧ (y == 0) = false ∧ (iv == 9) = false) ∨ (decide (0 < iv) = true ∧ (y == 0) = false ∧ (iv == 9) = true ∧ decide (1 < y) = false) := by
          by_cases h1 : 0 < i
          · have h2 : y ≠ 0 := fun h => hbad (.inl ⟨h1, h⟩)
            by_cases h3 : i = 9
            · exact .inr (.inr ⟨decide_eq_true (by have := HIV.out; omega), by rw [beq_eq_false_iff_ne]; exact h2, by rw [beq_iff_eq]; have := HIV.out; omega, decide_eq_false (fun h => hbad (.inr ⟨h3, h⟩))⟩)
            · exact .inr (.inl ⟨decide_eq_true (by have := HIV.out; omega), by rw [beq_eq_false_iff_ne]; exact h2, by rw [beq_eq_false_iff_ne]; have := HIV.out; omega⟩)
          · exact .inl ⟨decide_eq_false (by have := HIV.out; omega), by rw [beq_eq_false_iff_ne]; have := HIV.out; omega⟩
        have hi9 : i ≤ 9 := by have := HK.out; have := HK0.out; omega
        have hin : i < 9 ∨ (i = 9 ∧ y ≤ 1) := by
          by_cases h3 : i = 9
          · exact .inr ⟨h3, by by_cases h : 1 < y; exact absurd (.inr ⟨h3, h⟩) hbad; omega⟩
          · exact .inl (by omega)
        have HAC := Lib.hid (show bits .or .u64 v (IntKind.u64.wrap (IntKind.u64.wrap (bits .and .u8 y 127) * 2 ^ (7 * iv).toNat)) = v + (y % 128) * 2 ^ (7 * i) by rw [show (7 * iv).toNat = 7 * i by have := HIV.out; omega]; exact acc7 i v y HV.out.1 HV.out.2 hy0 hy1 hin)
        have HAL := Lib.hid (acc7_lt i v y HV.out.1 HV.out.2)
        have HIN := Lib.hid hin
        have HBAD := Lib.hid hbad
        clear hbad hin
        rcases hc with ⟨e1, e3⟩ | ⟨e1, e2, e3⟩ | ⟨e1, e2, e3, e4⟩
        all_goals
          by_cases hl : y < 128
          · have HR' : Hid (R = (v + (y % 128) * 2 ^ (7 * i), (a : Int) + 1, 0)) := Lib.hid (by rw [HR.out, HY.out, numR, if_neg HBAD.out, if_pos hl])
            go_wp2
            rw [Exit.noGoto_ret]
            go_ret
            have HS : IsS123 w0 wr g bs at' 0 := ⟨_, _, HH.out, HG.out, HC.out⟩
            refine ⟨ret_u64 (by rw [HR'.out]; exact HAC.out), ?_, HB.out.setCell HG.out _, (KeepBut.refl wr g none).set_ _ _⟩
            rw [HR'.out]
            exact HS.set_1 _
          · have HR' : Hid (R = numR (i + 1) (((a + 1 : Nat) : Int)) (v + (y % 128) * 2 ^ (7 * i)) (bs.drop (a + 1))) := Lib.hid (by rw [HR.out, HY.out, numR, if_neg HBAD.out, if_neg hl]; rfl)
            have hl' : 128 ≤ y := by omega
            clear hl
            go_wp2
            go_roundg (gk - 1)
            case measure => have := HK0.out; omega
            case rel =>
              refine ⟨i + 1, a + 1, v + (y % 128) * 2 ^ (7 * i), ((i + 1 : Nat) : Int), ?_, ?_, ?_, .inl ⟨rfl, by have := HK.out; have := HK0.out; omega, ?_, by omega, HAL.out, HR'.out, rfl⟩⟩
              · rw [HAC.out]
              · first | rfl | go_num
              · rw [show ((i + 1 : Nat) : Int) = iv + 1 by have := HIV.out; omega]
              · have h1 := HIN.out; have := HK.out; omega
    · obtain rfl : a = bs.length := by have := HA.out; omega
      have HR' : Hid (R = (v, (bs.length : Int), 270)) := Lib.hid (by rw [HR.out, List.drop_of_length_le (Nat.le_refl _), numR])
      have hne : ((bs.length : Int) == (bs.length : Int)) = true := by rw [beq_iff_eq]
      go_wp2_with fail
      go_at_call 63
      refine (dump_reader_fail.calls g bs _ 0 _ _ (bs.length : Int) 270 w0 _ ⟨_, _, HH.out, HG.out, HC.out⟩ HB.out rfl).mono ?_
      rintro e w1 ⟨rfl, h1, h2, h3⟩
      have H1 := Lib.hid h1
      have H2 := Lib.hid h2
      have H3 := Lib.hid h3
      clear h1 h2 h3
      go_wp2
      rw [Exit.noGoto_ret]
      go_ret
      refine ⟨ret_u64 (by rw [HR'.out]), ?_, H2.out, H3.out⟩
      rw [HR'.out]
      exact H1.out
end Go.Proofs.Ythblincfnfpgbaa.Q
