import Derived.Test.YthblincfnfpgbaaQxNum
import Derived.Outline
import Derived.Lib.EndianBits
namespace Go.Proofs.Ythblincfnfpgbaa.Q
open Go.RowKit Go.Proofs.YthblincfnfpgbaaW.PrintWords Go.Proofs.YthblincfnfpgbaaW.PrintLast Go.Proofs.YthblincfnfpgbaaW.PrintMore
set_option linter.unusedVariables false
set_option linter.unusedSimpArgs false
theorem or128 (z : Int) (h : 0 ≤ z) : bits .or .u8 (z % 256) 128 = z % 128 + 128 := by
  have h1 : ∀ n : Fin 256, bits .or .u8 (n.val : Int) 128 = (n.val : Int) % 128 + 128 := by decide +kernel
  have h2 := h1 ⟨(z % 256).toNat, by omega⟩
  have h3 : (((z % 256).toNat : Nat) : Int) = z % 256 := by omega
  simp only [h3] at h2
  omega
set_option maxHeartbeats 4000000 in
set_option maxRecDepth 100000 in
theorem put_c (w0 w : World) (S : Nat → Prop) (hS : ∀ k, S k → k < w.heap.size) (v : Value) (l : List Int) (x : Int) (hB : Below w0.heap.size w0 w) (ho : Arr w0 w S v l) (hx : x < 18446744073709551616) (hx0 : 0 ≤ x) (hl : l.length + 10 < 140737488355328) :
    Calls Try.prog 58 #[v, .int .u64 x] w fun e w' => ∃ v', e = .returned v' ∧ Own w0 w' S v' (l ++ numS x) ∧ Below w0.heap.size w0 w' ∧ Same S w w' := by
  have hu48 := Try.underlying48
  have HS := Lib.hid hS
  have HB := Lib.hid hB
  have HO := Lib.hid ho
  have HX := Lib.hid hx
  have HL := Lib.hid hl
  clear hS hB ho hl hx
  go_enter Try.func58, Try.ntmps58
  go_wp2
  go_loopg [0, 1] 10 (fun kq u y w' => ∃ (ls : List Int) (z : Int), y = .int .u64 z ∧ 0 ≤ z ∧ Hid (kq + ls.length ≤ l.length + 10) ∧ Hid (0 < kq) ∧ Hid (z < 128 ^ kq) ∧ Hid (ls ++ numN (kq - 1) z = l ++ numS x) ∧ Hid (Arr w0 w' S u ls) ∧ Hid (Below w0.heap.size w0 w') ∧ Hid (Same S w w') ∧ Hid (w.heap.size ≤ w'.heap.size) ∧ Hid (z < 18446744073709551616))
  case atStart => exact ⟨l, x, rfl, hx0, Lib.hid (by omega), Lib.hid (by omega), Lib.hid (by have := HX.out; have : (128 : Int) ^ 10 = 1180591620717411303424 := by decide
                                                                                             omega), Lib.hid rfl, HO, HB, Lib.hid (fun _ _ => rfl), Lib.hid (Nat.le_refl _), HX⟩
  case round =>
    obtain ⟨ls, z, rfl, hz, HN, HK, HZ, HE, HA, HBW, HSM, HSZ, HXZ⟩ := hrel
    clear HB HO HX hx0
    have HSW := Lib.hid (show ∀ k, S k → k < wr.heap.size from fun k hk => Nat.lt_of_lt_of_le (HS.out k hk) HSZ.out)
    by_cases h : 128 ≤ z
    · have hd : decide (128 ≤ z) = true := decide_eq_true h
      go_wp2_with (first | (at_builtin; refine arr_append (w0 := w0) (S := S) (by rfl) (.tmp 7) (.tmp 12) rfl _ ls _ rfl rfl HA.out HSW.out HBW.out (by have := HN.out; have := HK.out; have := HL.out; omega) ?_))
      intro v1 w1 h1 h2 h3 h4
      first | rw [← or128 z hz] at h1 | skip
      have H1 := Lib.hid h1
      have H2 := Lib.hid h2
      have H3 := Lib.hid (show Same S w w1 from fun k hk => (h3 k hk).trans (HSM.out k hk))
      have H4 := Lib.hid (Nat.le_trans HSZ.out h4)
      clear h1 h2 h3 h4 hd
      go_wp2
      go_roundg (gk - 1)
      case measure => have := HK.out; omega
      case rel =>
        have hk := HK.out
        have hn := HN.out
        have hzz := HZ.out
        have he := HE.out
        obtain ⟨m, rfl⟩ : ∃ m, gk = m + 2 := ⟨gk - 2, by
          rcases Nat.lt_or_ge gk 2 with h' | h'
          · obtain rfl : gk = 1 := by omega
            omega
          · omega⟩
        have hm : numN (m + 2 - 1) z = bits .or .u8 (z % 256) 128 :: numN m (z / 128) := by
          show numN (m + 1) z = _
          rw [numN, if_pos h]
        rw [hm] at he
        refine ⟨ls ++ [bits .or .u8 (z % 256) 128], z / 128, by rw [Int.tdiv_eq_ediv_of_nonneg hz, show IntKind.u64.wrap (z / 128) = z / 128 from u64_wrap_id _ (by omega) (by have := HXZ.out; omega)], by omega, Lib.hid (by simp; omega), Lib.hid (by omega), Lib.hid ?_, Lib.hid ?_, Lib.hid (own_arr H1.out), H2, H3, H4, Lib.hid (by have := HXZ.out; omega)⟩
        · rw [show m + 2 - 1 = m + 1 by omega]
          rw [Int.pow_succ] at hzz
          generalize (128 : Int) ^ (m + 1) = q at *
          omega
        · rw [← he]
          simp
    · have hd : decide (128 ≤ z) = false := decide_eq_false h
      go_wp2_with (first | (at_builtin; refine arr_append (w0 := w0) (S := S) (by rfl) (.tmp 16) (.tmp 19) rfl _ ls _ rfl rfl HA.out HSW.out HBW.out (by have := HN.out; have := HK.out; have := HL.out; omega) ?_))
      intro v1 w1 h1 h2 h3 h4
      first | rw [← or128 z hz] at h1 | skip
      have H1 := Lib.hid h1
      have H2 := Lib.hid h2
      have H3 := Lib.hid (show Same S w w1 from fun k hk => (h3 k hk).trans (HSM.out k hk))
      clear h1 h2 h3 h4 hd
      go_wp2
      go_ret
      refine ⟨v1, rfl, ?_, H2.out, H3.out⟩
      have he := HE.out
      have hm : numN (gk - 1) z = [z] := by
        have e : z % 256 = z := by omega
        cases gk - 1 <;> rw [numN]
        · rw [e]
        · rw [if_neg (by omega), e]
      rw [hm] at he
      rw [← he]
      exact H1.out
end Go.Proofs.Ythblincfnfpgbaa.Q
