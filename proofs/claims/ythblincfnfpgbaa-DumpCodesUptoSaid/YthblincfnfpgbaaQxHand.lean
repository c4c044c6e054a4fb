import Derived.Test.YthblincfnfpgbaaQx43
import Derived.Test.YthblincfnfpgbaaQx54
import Derived.Test.YthblincfnfpgbaaQxRs
import Derived.Test.YthblincfnfpgbaaQxH3
namespace Go.Proofs.Ythblincfnfpgbaa.Q
open Go.RowKit Go.Proofs.YthblincfnfpgbaaW.PrintWords Go.Proofs.YthblincfnfpgbaaW.PrintLast Go.Proofs.YthblincfnfpgbaaW.PrintMore
set_option linter.unusedVariables false
set_option linter.unusedSimpArgs false
/-- What lies behind the end of what Hand gives. -/
def marks : List Int := [160, 161, 162, 163, 164, 165, 166, 167, 168]
def HandB (w : World) (v : Value) (l : List Int) : Prop := ∃ g cap, v = .slice (some ⟨g, 0, none⟩) l.length cap ∧ l.length + 9 ≤ cap ∧ Kd.C (Kd.int .u8) w (some ⟨g, 0, none⟩) (l ++ marks).length (l ++ marks) ∧ g < w.heap.size
theorem hand_below {w w' : World} {v : Value} {l : List Int} (h : HandB w v l) (hb : Below w.heap.size w w') : HandB w' v l := by
  obtain ⟨g, cap, h1, h2, h3, h4⟩ := h
  exact ⟨g, cap, h1, h2, Kd.C_below h3 hb, Nat.lt_of_lt_of_le h4 hb.size⟩
theorem set_mid (a : List Int) (x v : Int) (b : List Int) : (a ++ x :: b).set a.length v = a ++ v :: b := by
  induction a with
  | nil => rfl
  | cons y a ih => simp [ih]
theorem fill1 (bs : List Int) (i : Nat) (h : i < bs.length) : (bs.take i ++ List.replicate (bs.length + 9 - i) 0).set i (rd bs i) = bs.take (i + 1) ++ List.replicate (bs.length + 9 - (i + 1)) 0 := by
  obtain ⟨m, hm⟩ : ∃ m, bs.length + 9 - i = m + 1 := ⟨bs.length + 9 - i - 1, by omega⟩
  have e := set_mid (bs.take i) 0 (rd bs i) (List.replicate m 0)
  rw [List.length_take, Nat.min_eq_left (by omega)] at e
  rw [hm, List.replicate_succ, e, show bs.length + 9 - (i + 1) = m by omega, List.take_succ_eq_append_getElem h, List.append_assoc]
  have : rd bs (i : Int) = bs[i] := by unfold rd; rw [Int.toNat_natCast, List.getD_eq_getElem?_getD, List.getElem?_eq_getElem h]; rfl
  rw [this]
  rfl
theorem fill2 (bs : List Int) (j : Nat) (h : j < 9) : (bs ++ (marks.take j ++ List.replicate (9 - j) 0)).set (bs.length + j) (160 + j) = bs ++ (marks.take (j + 1) ++ List.replicate (9 - (j + 1)) 0) := by
  obtain ⟨m, hm⟩ : ∃ m, 9 - j = m + 1 := ⟨9 - j - 1, by omega⟩
  have hl : marks.length = 9 := rfl
  have e := set_mid (bs ++ marks.take j) 0 (160 + j) (List.replicate m 0)
  rw [List.length_append, List.length_take, Nat.min_eq_left (by omega)] at e
  rw [hm, List.replicate_succ, ← List.append_assoc, e, show 9 - (j + 1) = m by omega, List.take_succ_eq_append_getElem (by omega)]
  have : marks[j]'(by omega) = 160 + (j : Int) := by
    have : ∀ j : Fin 9, marks[j.val]'(j.isLt) = 160 + (j.val : Int) := by decide
    exact this ⟨j, h⟩
  rw [this]
  simp
set_option maxHeartbeats 8000000 in
set_option maxRecDepth 100000 in
theorem hand_c (A : Option Addr) (c : Nat) (bs : List Int) (w : World) (hA : Kd.C (Kd.int .u8) w A bs.length bs) (hl : bs.length < 4398046511104) :
    Calls Try.prog 27 #[.slice A bs.length c] w fun e w' => ∃ v, e = .returned v ∧ HandB w' v bs ∧ Below w.heap.size w w' := by
  have HA := Lib.hid hA
  have HL := Lib.hid hl
  obtain ⟨n, hn⟩ : ∃ n : Int, n = (bs.length : Int) + 9 := ⟨_, rfl⟩
  have hw : IntKind.i64.wrap ((bs.length : Int) + 9) = n := by rw [hn]; exact IntWalk.i64_in _ (by omega)
  have hw2 : wrap64 ((bs.length : Int) + 9) = n := by rw [hn]; unfold wrap64; omega
  have HN := Lib.hid hn
  have hn0 : 0 ≤ n := by omega
  have hn1 : n.toNat ≤ 281474976710656 := by omega
  clear hA hl hn
  go_enter Try.func27, Try.ntmps27
  go_wp2_with (first | ((with_reducible refine gate_dst (N := 9) rfl ?_); refine Kd.R_make (Kd.int .u8) _ 5 rfl (N := 9) rfl 48 _ _ rfl n rfl rfl Try.underlying48 (.int .u8 0) 1 info5 rfl (by decide) (by omega) 0 (ok := fun _ => True) (okp := fun _ => True) rfl (fun _ hk => hk) trivial hn0 (Nat.le_trans (Nat.mul_le_mul_right _ hn1) (by omega)) (Below.refl _ _) (Nat.le_refl _) ?_; intro v w5 h1 h2 h3 h4; have H1 := Lib.hid h1; have H2 := Lib.hid h2; clear h1 h2 h3 h4))
  have hlen : (List.replicate n.toNat (0 : Int)).length = bs.length + 9 := by rw [List.length_replicate]; have := HN.out; omega
  obtain ⟨g, cap, rfl, hg0, hg1, -⟩ := Kd.R_form H1.out (by rw [hlen]; omega)
  rw [hlen] at H1 ⊢
  have HG := Lib.hid hg0
  have h9 : n.toNat = bs.length + 9 := by have := HN.out; omega
  rw [h9] at H1
  clear hg0 hg1 hlen hn0 hn1 hw hw2 h9
  go_loopg [4] bs.length (fun kq s4 w' => ∃ (x : Int) (i : Nat), s4 = .int .i64 x ∧ 0 ≤ x ∧ Hid (x = i) ∧ Hid (kq + i = bs.length) ∧ Hid (Kd.R (Kd.int .u8) 5 w' w.heap.size (fun _ => True) (.slice (some ⟨g, 0, none⟩) (bs.length + 9) cap) (bs.take i ++ List.replicate (bs.length + 9 - i) 0)) ∧ Hid (Below w.heap.size w w'))
  case atStart => exact ⟨0, 0, rfl, by omega, Lib.hid rfl, Lib.hid rfl, H1, H2⟩
  case round =>
    obtain ⟨x, i, rfl, hx0, HX, HK, HR, HB⟩ := hrel
    clear H1 H2
    by_cases hlt : x < (bs.length : Int)
    · obtain ⟨ad, rfl, hx⟩ := Kd.at_int (Kd.C_below HA.out HB.out) x hx0 hlt
      have b1 : x < ((bs.length + 9 : Nat) : Int) := by omega
      obtain ⟨hc1, hc2⟩ := Kd.R_celln 0 HR.out x hx0 b1
      have HP := Kd.R_putg HR.out x (rd bs x)
      have HF := Lib.hid (show (bs.take i ++ List.replicate (bs.length + 9 - i) 0).set x.toNat (rd bs x) = bs.take (i + 1) ++ List.replicate (bs.length + 9 - (i + 1)) 0 by have h := HX.out; subst h; exact fill1 bs i (by omega))
      have HP1 := Lib.hid HP.1
      have HX1 := Lib.hid (show x + 1 = ((i + 1 : Nat) : Int) by have := HX.out; omega)
      have HK1 : Hid (0 < gk) := Lib.hid (by have := HK.out; have := HX.out; omega)
      have hxm : x ≤ 9223372036854775806 := by have := HL.out; omega
      have b2 : x < (bs.length : Int) + 9 := by omega
      clear HP
      go_wp2
      go_roundg (gk - 1)
      case measure => have := HK1.out; omega
      case rel =>
        refine ⟨x + 1, i + 1, rfl, by omega, HX1, Lib.hid (by have := HK.out; have := HK1.out; omega), Lib.hid ?_, Lib.hid (HB.out.setCell HG.out _)⟩
        have h := HP1.out
        rw [HF.out] at h
        exact h
    · have HI : Hid (i = bs.length) := Lib.hid (by have := HX.out; have := HK.out; omega)
      have HR9 := Lib.hid (show Kd.R (Kd.int .u8) 5 wr w.heap.size (fun _ => True) (.slice (some ⟨g, 0, none⟩) (bs.length + 9) cap) (bs ++ (marks.take 0 ++ List.replicate (9 - 0) 0)) by have h := HR.out; rw [HI.out, List.take_length, show bs.length + 9 - bs.length = 9 by omega] at h; exact h)
      clear HR
      go_wp2
      go_loopg [5] 9 (fun kq s5 w' => ∃ (x : Int) (j : Nat), s5 = .int .i64 x ∧ 0 ≤ x ∧ Hid (x = bs.length + j) ∧ Hid (kq + j = 9) ∧ Hid (Kd.R (Kd.int .u8) 5 w' w.heap.size (fun _ => True) (.slice (some ⟨g, 0, none⟩) (bs.length + 9) cap) (bs ++ (marks.take j ++ List.replicate (9 - j) 0))) ∧ Hid (Below w.heap.size w w'))
      case atStart => exact ⟨_, 0, rfl, by omega, Lib.hid (by omega), Lib.hid rfl, HR9, HB⟩
      case round =>
        obtain ⟨y, j, rfl, hy0, HY, HK9, HR, HB⟩ := hrel
        clear HR9
        by_cases hlt9 : y < (bs.length : Int) + 9
        · have b1 : y < ((bs.length + 9 : Nat) : Int) := by omega
          obtain ⟨hc1, hc2⟩ := Kd.R_celln 0 HR.out y hy0 b1
          have hym : y ≤ 4398046511113 := by have := HL.out; omega
          have b3 : (bs.length : Int) ≤ 4398046511104 := by have := HL.out; omega
          have b4 : (bs.length : Int) ≤ y := by have := HY.out; omega
          have HP1 := Lib.hid (Kd.R_putg HR.out y (160 + y - (bs.length : Int))).1
          have HF := Lib.hid (show (bs ++ (marks.take j ++ List.replicate (9 - j) 0)).set y.toNat (160 + y - (bs.length : Int)) = bs ++ (marks.take (j + 1) ++ List.replicate (9 - (j + 1)) 0) by
            have h := HY.out
            have e := fill2 bs j (by omega)
            rw [show bs.length + j = y.toNat by omega, show (160 : Int) + (j : Int) = 160 + y - (bs.length : Int) by omega] at e
            exact e)
          have HY1 := Lib.hid (show y + 1 = (bs.length : Int) + ((j + 1 : Nat) : Int) by have := HY.out; omega)
          have HK1 : Hid (0 < gk) := Lib.hid (by have := HK9.out; have := HY.out; omega)
          go_wp2
          go_roundg (gk - 1)
          case measure => have := HK1.out; omega
          case rel =>
            refine ⟨y + 1, j + 1, rfl, by omega, HY1, Lib.hid (by have := HK9.out; have := HK1.out; omega), Lib.hid ?_, Lib.hid (HB.out.setCell HG.out _)⟩
            have h := HP1.out
            rw [HF.out] at h
            exact h
        · have HJ : Hid (j = 9) := Lib.hid (by have := HY.out; have := HK9.out; omega)
          obtain ⟨hh1, hh2, hh3⟩ := Kd.R_reads' HR.out
          have HC := Lib.hid hh3
          have H2 := Lib.hid hh2
          have b1 : bs.length ≤ cap := by omega
          have b2 : (bs.length : Int) ≤ (cap : Int) := by omega
          have b3 : (bs.length : Int) ≤ 4398046511104 := by have := HL.out; omega
          have HGL : Hid (g < wr.heap.size) := Lib.hid (by
            obtain ⟨g', cap', e, _, h, _⟩ := Kd.R_form HR.out (by have := HJ.out; subst this; simp [marks])
            injection e with e _ _
            injection e with e
            injection e with e _ _
            subst e
            exact h)
          clear hh1 hh2 hh3
          go_wp2
          go_ret
          refine ⟨_, rfl, ⟨g, cap, rfl, H2.out, ?_, HGL.out⟩, HB.out⟩
          have h := HC.out
          rw [HJ.out, show marks.take 9 = marks from rfl, show (9 : Nat) - 9 = 0 from rfl, List.replicate_zero, List.append_nil] at h
          exact h
set_option maxHeartbeats 8000000 in
set_option maxRecDepth 100000 in
theorem keptB_c (v : Value) (A : Option Addr) (c : Nat) (bs : List Int) (w : World) (hv : HandB w v bs) (hA : Kd.C (Kd.int .u8) w A bs.length bs) (hc : bs.length ≤ c) (hl : bs.length < 4398046511104) (hs : ∃ k, shuttermem_Same.f k bs bs = some true) :
    Calls Try.prog 33 #[v, .slice A bs.length c] w fun e w' => e = .returned (.bool true) ∧ Below w.heap.size w w' := by
  obtain ⟨g, cap, rfl, h2, h3, h4⟩ := hv
  obtain ⟨k, hs⟩ := hs
  have HA := Lib.hid hA
  have HC := Lib.hid hc
  have HS := Lib.hid hs
  have HM := Lib.hid h3
  have H0 := Lib.hid (Kd.C_take h3 (m := bs.length) (by simp))
  have H1 := Lib.hid (show bs.length ≤ cap by omega)
  have b1 : (bs.length : Int) + 9 ≤ (cap : Int) := by omega
  have b3 : (bs.length : Int) ≤ 4398046511104 := by omega
  clear hA hc hs h2 h3 h4 hl
  rw [List.take_left] at H0
  go_enter Try.func33, Try.ntmps33
  go_wp2_with fail
  go_at_call 32
  refine (shuttermem_Same.calls _ _ _ _ _ _ _ _ _ H0.out H1.out HA.out HC.out HS.out).mono ?_
  rintro e w1 ⟨rfl, hd⟩
  obtain ⟨nd, rfl⟩ := hd
  go_wp2
  go_loopg [6] 9 (fun kq s6 w' => ∃ (y : Int) (j : Nat), s6 = .int .i64 y ∧ 0 ≤ y ∧ Hid (y = bs.length + j) ∧ Hid (kq + j = 9) ∧ w' = w.drewN nd)
  case atStart => exact ⟨_, 0, rfl, by omega, Lib.hid (by omega), Lib.hid rfl, rfl⟩
  case round =>
    obtain ⟨y, j, rfl, hy0, HY, HK9, rfl⟩ := hrel
    by_cases hlt9 : y < (bs.length : Int) + 9
    · obtain ⟨ad, e, hx⟩ := Kd.at_int HM.out y hy0 (by simp [marks]; omega)
      obtain rfl : (⟨g, 0, none⟩ : Addr) = ad := by injection e
      have hr : rd (bs ++ marks) y = 160 + y - (bs.length : Int) := by
        have h := HY.out
        have hj : j < 9 := by omega
        unfold rd
        rw [show y.toNat = bs.length + j by omega, List.getD_eq_getElem?_getD, List.getElem?_append_right (by omega), show bs.length + j - bs.length = j by omega, List.getElem?_eq_getElem (show j < marks.length from hj)]
        have : ∀ j : Fin 9, marks[j.val]'(j.isLt) = 160 + (j.val : Int) := by decide
        have e2 : marks[j]'(hj) = 160 + (j : Int) := this ⟨j, hj⟩
        refine (Option.getD_some ..).trans (Eq.trans e2 ?_)
        omega
      rw [add_plain, hr] at hx
      have hym : y ≤ 4398046511113 := by omega
      have b4 : (bs.length : Int) ≤ y := by have := HY.out; omega
      have HY1 := Lib.hid (show y + 1 = (bs.length : Int) + ((j + 1 : Nat) : Int) by have := HY.out; omega)
      have HK1 : Hid (0 < gk) := Lib.hid (by have := HK9.out; have := HY.out; omega)
      have b5 : y < ((bs.length + 9 : Nat) : Int) := by omega
      clear hr e
      go_wp2
      go_roundg (gk - 1)
      case measure => have := HK1.out; omega
      case rel => exact ⟨y + 1, j + 1, rfl, by omega, HY1, Lib.hid (by have := HK9.out; have := HK1.out; omega), rfl⟩
    · go_wp2
      go_ret
      exact ⟨rfl, pw_below_drewN (Below.refl _ _) nd⟩
end Go.Proofs.Ythblincfnfpgbaa.Q
