import Derived.Test.YthblincfnfpgbaaQxRs
import Derived.Test.YthblincfnfpgbaaQxRe
import Derived.Test.YthblincfnfpgbaaQxH3
import Derived.Test.YthblincfnfpgbaaQxRa
import Derived.WalkLawsBesides
import Derived.Laws.Cover3
namespace Go.Proofs.Ythblincfnfpgbaa.Q
open Go.RowKit Go.Proofs.YthblincfnfpgbaaW.PrintWords Go.Proofs.YthblincfnfpgbaaW.PrintLast Go.Proofs.YthblincfnfpgbaaW.PrintMore
set_option linter.unusedVariables false
set_option linter.unusedSimpArgs false
/-- The pairs, so many at most, at a state of the reader; the state then. -/
def decL (bs : List Int) : Nat → Int → Int → Int → Int → List S82 → List S82 × Int × Int
  | 0, _, at', e, _, acc => (acc, at', e)
  | k + 1, n, at', e, last, acc => if 0 < n ∧ e = 0 then decL bs k (IntKind.u64.wrap (n - 1)) (pairX bs at' e last ((acc.length : Int) == 0)).2.1 (pairX bs at' e last ((acc.length : Int) == 0)).2.2 (pairX bs at' e last ((acc.length : Int) == 0)).1.1 (acc ++ [⟨(pairX bs at' e last ((acc.length : Int) == 0)).1.1, (pairX bs at' e last ((acc.length : Int) == 0)).1.2⟩]) else (acc, at', e)
theorem decL_end (bs : List Int) (k : Nat) (n at' e last : Int) (acc : List S82) (h : ¬ (0 < n ∧ e = 0)) : decL bs k n at' e last acc = (acc, at', e) := by
  cases k with
  | zero => rfl
  | succ k => rw [decL, if_neg h]
/-- What is looked at behind the pairs. -/
def finX (bs : List Int) (at' e : Int) : Int × Int :=
  if e = 0 then (if (bs.length : Int) - at' < 4 then ((bs.length : Int), 270) else if ((bs.drop at'.toNat).take 4 == fixedS (sumS 2166136261 (bs.take at'.toNat))) = false then (at', 271) else if (bs.length : Int) - at' > 4 then (at' + 4, 272) else (at', 0)) else (at', e)
def decX (bs : List Int) : List S82 × Int × Int :=
  let s := startX bs
  let n := numX bs s.1 s.2
  let L := decL bs (bs.length + 1) n.1 n.2.1 n.2.2 0 []
  let f := finX bs L.2.1 L.2.2
  if f.2 = 0 then (L.1, 0, 0) else ([], f.2, f.1)
theorem startX_ok (bs : List Int) : (startX bs).2 = 0 → 0 ≤ (startX bs).1 ∧ (startX bs).1 ≤ bs.length := by
  unfold startX
  match bs with
  | [] => intro h; exact absurd h (by decide)
  | [a] => intro h; simp only [startL] at h; split at h <;> exact absurd h (by decide)
  | [a, b] => intro h; simp only [startL] at h; (repeat' split at h) <;> exact absurd h (by decide)
  | [a, b, c] => intro h; simp only [startL] at h; (repeat' split at h) <;> exact absurd h (by decide)
  | a :: b :: c :: d :: l =>
    intro h
    simp only [startL] at h ⊢
    repeat' split at h
    all_goals first | exact absurd h (by decide) | skip
    simp_all
    omega
theorem pairX_ok {bs : List Int} {at' e last : Int} {first : Bool} (ha : e = 0 → 0 ≤ at' ∧ at' ≤ bs.length) : (pairX bs at' e last first).2.2 = 0 → at' < (pairX bs at' e last first).2.1 ∧ (pairX bs at' e last first).2.1 ≤ bs.length ∧ e = 0 := by
  unfold pairX
  dsimp only
  intro h
  have h0 := numX_ok ha
  by_cases hc : first = false ∧ (numX bs at' e).2.2 = 0 ∧ ((numX bs at' e).1 = 0 ∨ IntKind.u64.wrap (last + (numX bs at' e).1) < last)
  · rw [if_pos hc] at h
    rw [numX_stay (show (271 : Int) ≠ 0 by decide)] at h
    exact absurd h (show ¬ (271 : Int) = 0 by decide)
  · rw [if_neg hc] at h ⊢
    dsimp only at h ⊢
    have h1 : (numX bs at' e).2.2 = 0 := by
      by_cases hz : (numX bs at' e).2.2 = 0
      · exact hz
      · rw [numX_stay hz] at h
        exact absurd h hz
    have h2 := h0 h1
    have h3 := numX_ok (bs := bs) (at' := (numX bs at' e).2.1) (e := (numX bs at' e).2.2) (fun _ => h2) h
    have h4 : e = 0 := by
      by_cases hz : e = 0
      · exact hz
      · rw [numX_stay hz] at h1
        exact absurd h1 hz
    subst h4
    have h5 : at' < (numX bs at' 0).2.1 := by
      have := (numR_place (bs.drop at'.toNat) 0 at' 0).2.2
      unfold numX at h1 ⊢
      rw [if_pos rfl] at h1 ⊢
      exact this h1
    have h6 : (numX bs at' 0).2.1 ≤ (numX bs (numX bs at' 0).2.1 (numX bs at' 0).2.2).2.1 := by
      have := (numR_place (bs.drop (numX bs at' 0).2.1.toNat) 0 (numX bs at' 0).2.1 0).1
      rw [h1]
      generalize (numX bs at' 0).2.1 = z at *
      unfold numX
      rw [if_pos rfl]
      exact this
    exact ⟨by omega, h3.2, rfl⟩
theorem pairX_key {bs : List Int} {at' e last : Int} {first : Bool} : 0 ≤ (pairX bs at' e last first).1.1 ∧ (pairX bs at' e last first).1.1 < 18446744073709551616 := by
  unfold pairX; exact u64_range _
theorem pairX_val {bs : List Int} {at' e last : Int} {first : Bool} (hbs : ∀ c ∈ bs, 0 ≤ c ∧ c < 256) : 0 ≤ (pairX bs at' e last first).1.2 ∧ (pairX bs at' e last first).1.2 < 18446744073709551616 := by
  unfold pairX; exact numX_val hbs
theorem fixed_v (s f0 f1 f2 f3 : Int) (w : World) (h0 : 0 ≤ s) (h1 : s < 4294967296) (h : fixedS s = [f0, f1, f2, f3]) :
    Calls Try.prog 56 #[.int .u32 s] w fun e w' => e = .returned (.agg #[.int .u8 f0, .int .u8 f1, .int .u8 f2, .int .u8 f3]) ∧ Below w.heap.size w w' := by
  simp only [fixedS, List.cons.injEq, and_true] at h
  obtain ⟨rfl, rfl, rfl, rfl⟩ := h
  exact fixed_c s w h0 h1
theorem take4 (bs : List Int) (z : Nat) (h : z + 4 ≤ bs.length) : (bs.drop z).take 4 = [rd bs z, rd bs (z + 1 : Nat), rd bs (z + 2 : Nat), rd bs (z + 3 : Nat)] := by
  rw [drop_at bs z (by omega), drop_at bs (z + 1) (by omega), drop_at bs (z + 2) (by omega), drop_at bs (z + 3) (by omega)]
  rfl
theorem sum_v (A : Option Addr) (c z : Nat) (T : List Int) (s : Int) (w : World) (hC : Kd.C (Kd.int .u8) w A T.length T) (hc : T.length ≤ c) (hz : T.length = z) (hl : T.length < 4398046511104) (hs : sumS 2166136261 T = s) :
    Calls Try.prog 57 #[.slice A z c] w fun e w' => e = .returned (.int .u32 s) ∧ Below w.heap.size w w' := by
  subst hs hz
  refine (dump_sum.calls _ _ _ _ _ _ hC hc (sum_f T (by omega))).mono ?_
  rintro e w' ⟨rfl, ⟨n, rfl⟩⟩
  exact ⟨rfl, pw_below_drewN (Below.refl _ _) n⟩
set_option maxHeartbeats 16000000 in
set_option maxRecDepth 100000 in
theorem decode_c (A : Option Addr) (c : Nat) (bs : List Int) (w : World) (hA : Kd.C (Kd.int .u8) w A bs.length bs) (hc : bs.length ≤ c) (hl : bs.length < 4398046511104) (hbs : ∀ c ∈ bs, 0 ≤ c ∧ c < 256) :
    Calls Try.prog 30 #[.slice A bs.length c] w fun e w' => ∃ v, e = .returned (.tuple #[v, .int .i64 (decX bs).2.1, .int .i64 (decX bs).2.2]) ∧ Kd.R k82 82 w' w.heap.size (fun _ => True) v (decX bs).1 ∧ Below w.heap.size w w' := by
  have hu82 := Try.underlying82
  have hu123 := Try.underlying123
  have hu117 := Try.underlying117
  have HA := Lib.hid hA
  have HC := Lib.hid hc
  have HL := Lib.hid hl
  have HBS := Lib.hid hbs
  obtain ⟨R, hR⟩ : ∃ R, R = decX bs := ⟨_, rfl⟩
  rw [← hR]
  have HR := Lib.hid hR
  clear hA hc hl hbs hR
  go_enter Try.func30, Try.ntmps30
  go_wp2_with fail
  go_at_call 60
  refine (start_c w.heap.size bs w _ (IsS123.new w w A c bs 0 0 (Below.refl _ _) HA.out) ((Below.refl _ _).alloc (Nat.le_refl _) _)).mono ?_
  rintro en w1 ⟨rfl, h1, h2, h3⟩
  have S1 := Lib.hid h1
  have B1 := Lib.hid h2
  clear h1 h2 h3
  go_wp2_with fail
  go_at_call 61
  refine (rdnumX_c w.heap.size bs _ _ w _ (S1.out.alloc _) (B1.out.alloc B1.out.size _) (startX_ok bs) HBS.out).mono ?_
  rintro en w2 ⟨rfl, h1, h2, h3⟩
  have hx := h3.blk (heap_alloc_new w1 _) (by have := S1.out.lt; omega) (by simp)
  have HG : Hid (w.heap.size < w1.heap.size) := Lib.hid S1.out.lt
  have S2 := Lib.hid h1
  have B2 := Lib.hid h2
  have X2 := Lib.hid hx
  have HO := Lib.hid (numX_ok (startX_ok bs))
  have hv := numX_val (bs := bs) (at' := (startX bs).1) (e := (startX bs).2) HBS.out
  have HN : Hid (R = (let f := finX bs (decL bs (bs.length + 1) (numX bs (startX bs).1 (startX bs).2).1 (numX bs (startX bs).1 (startX bs).2).2.1 (numX bs (startX bs).1 (startX bs).2).2.2 0 []).2.1 (decL bs (bs.length + 1) (numX bs (startX bs).1 (startX bs).2).1 (numX bs (startX bs).1 (startX bs).2).2.1 (numX bs (startX bs).1 (startX bs).2).2.2 0 []).2.2; if f.2 = 0 then ((decL bs (bs.length + 1) (numX bs (startX bs).1 (startX bs).2).1 (numX bs (startX bs).1 (startX bs).2).2.1 (numX bs (startX bs).1 (startX bs).2).2.2 0 []).1, 0, 0) else ([], f.2, f.1))) := Lib.hid HR.out
  clear h1 h2 h3 hx S1 B1 HR
  generalize numX bs (startX bs).1 (startX bs).2 = N at *
  obtain ⟨n, a0, e0⟩ := N
  dsimp only at *
  obtain ⟨hn0, hn1⟩ := hv
  generalize hD : decL bs (bs.length + 1) n a0 e0 0 [] = D at HN
  have HD := Lib.hid hD
  clear hD
  generalize hj : w1.heap.size = j at *
  have HNN := Lib.hid (show 0 ≤ n ∧ n < 18446744073709551616 from ⟨hn0, hn1⟩)
  clear hn1
  go_wp2
  go_loopg [6, 8] (bs.length + 1) (fun kq x y w' => ∃ (acc : List S82) (m at' e last lv : Int), y = .int .u64 m ∧ 0 ≤ m ∧ Hid (D = decL bs kq m at' e last acc) ∧ Hid (acc.length + kq = bs.length + 1) ∧ Hid (e = 0 → 0 ≤ at' ∧ at' ≤ bs.length ∧ (bs.length : Int) - at' < kq) ∧ Hid (0 ≤ last ∧ last < 18446744073709551616) ∧ Hid (Kd.R k82 82 w' w.heap.size (fun k => k ≠ w.heap.size ∧ k ≠ j) x acc) ∧ Hid (IsS123 w w' w.heap.size bs at' e) ∧ Hid (Below w.heap.size w w') ∧ Hid (w'.heap[j]? = some (.cells #[.int .u64 last, .int .u64 lv] 82 (0, 0))))
  case atStart =>
    refine ⟨[], n, a0, e0, 0, 0, rfl, hn0, Lib.hid HD.out.symm, Lib.hid (by simp), Lib.hid (fun h => ?_), Lib.hid (by decide), Lib.hid (Kd.R_nil k82 82 _ _ _), S2, B2, X2⟩
    have := HO.out h
    omega
  case round =>
    obtain ⟨acc, m, at', e, last, lv, rfl, hm, HDR, HLN, HAT, HLA, HRR, HSR, HBR, HXR⟩ := hrel
    rename_i x _
    clear S2 B2 X2 HD
    obtain ⟨A3, c3, rfl⟩ := Kd.R_slice HRR.out
    obtain ⟨A', c', hb', -, -⟩ := HSR.out
    have d2 := cellS123_2 hb'
    have hb0 := hb'
    have k0 : wr.cell? ⟨j, 0, none⟩ = some (.int .u64 last) := (blk_cell HXR.out 0).trans rfl
    have k1 : wr.cell? ⟨j, 1, none⟩ = some (.int .u64 lv) := (blk_cell HXR.out 1).trans rfl
    clear hb'
    by_cases hgo : 0 < m ∧ e = 0
    · obtain ⟨hm0, he0⟩ := hgo
      have HA2 := Lib.hid (HAT.out he0)
      obtain rfl := he0
      have hme : decide (0 < m) = true := decide_eq_true hm0
      have HM0 := Lib.hid hm0
      have HK0 : Hid (0 < gk) := Lib.hid (by have := HA2.out; omega)
      have HJ : Hid (w.heap.size < wr.heap.size ∧ j < wr.heap.size) := Lib.hid ⟨HSR.out.lt, blk_lt HXR.out⟩
      have HPO := Lib.hid (pairX_ok (bs := bs) (at' := at') (e := 0) (last := last) (first := ((acc.length : Int) == 0)) (fun _ => ⟨(HA2.out).1, (HA2.out).2.1⟩))
      have HPK := Lib.hid (pairX_key (bs := bs) (at' := at') (e := 0) (last := last) (first := ((acc.length : Int) == 0)))
      have HDN : Hid (D = decL bs (gk - 1) (IntKind.u64.wrap (m - 1)) (pairX bs at' 0 last ((acc.length : Int) == 0)).2.1 (pairX bs at' 0 last ((acc.length : Int) == 0)).2.2 (pairX bs at' 0 last ((acc.length : Int) == 0)).1.1 (acc ++ [⟨(pairX bs at' 0 last ((acc.length : Int) == 0)).1.1, (pairX bs at' 0 last ((acc.length : Int) == 0)).1.2⟩])) := Lib.hid (by
        obtain ⟨q, rfl⟩ : ∃ q, gk = q + 1 := ⟨gk - 1, by have := HK0.out; omega⟩
        rw [HDR.out, decL, if_pos ⟨HM0.out, rfl⟩]
        rfl)
      clear hb0 hm0
      go_wp2_with fail
      go_at_call 62
      refine (pair_c _ bs at' 0 last lv _ w _ HSR.out HBR.out (fun _ => ⟨(HA2.out).1, (HA2.out).2.1⟩) HBS.out HLA.out.1 HLA.out.2).mono ?_
      rintro en w3 ⟨rfl, h1, h2, h3⟩
      have hx3 := h3.blk HXR.out (by have := HG.out; omega) (by simp)
      have m0 : w3.cell? ⟨j, 0, none⟩ = some (.int .u64 last) := (blk_cell hx3 0).trans rfl
      have m1 : w3.cell? ⟨j, 1, none⟩ = some (.int .u64 lv) := (blk_cell hx3 1).trans rfl
      have n0 := blk_frozen hx3 0
      have n1 := blk_frozen hx3 1
      have S3 := Lib.hid h1
      have B3 := Lib.hid h2
      have X3 := Lib.hid hx3
      have Z3 := Lib.hid h3.1
      have R3 := Lib.hid (Kd.R_keep HRR.out h3 (fun _ h => h.1))
      clear h1 h2 h3 hx3 k0 k1 d2
      generalize pairX bs at' 0 last ((acc.length : Int) == 0) = P at *
      obtain ⟨⟨pk, pv⟩, a2, e2⟩ := P
      dsimp only at *
      go_wp2_with (first | (at_builtin; refine Kd.R_append k82 (w0 := w) w.heap.size (by rfl) (.tmp 34) (.tmp 36) 22 82 (.agg #[.int .u64 0, .int .u64 0]) 16 rfl Try.underlying22 info82 rfl (by decide) (by omega) _ acc (⟨pk, pv⟩ : S82) [.int .u64 pk, .int .u64 pv] (fun k => k ≠ w.heap.size ∧ k ≠ j) (fun _ => False) rfl ?aX ?aP (fun _ hk => hk.elim) ?aF ?aO ?aB ?aS ?aL ?_))
      case aX => simp [Act.eval]
      case aP => exact k82_mkM _ _ _ (⟨pk, pv⟩ : S82)
      case aF =>
        intro k hk
        have h1 := HJ.out
        have h2 := Z3.out
        simp at hk
        omega
      case aO => exact Kd.R_far (p := ⟨j, 1, none⟩) (Kd.R_far (p := ⟨j, 0, none⟩) R3.out (fun _ h => h.2) _) (fun _ h => h.2) _
      case aB => exact (B3.out.setCell (by have := HG.out; simp; omega) _).setCell (by have := HG.out; simp; omega) _
      case aS => have h1 := HJ.out; have h2 := Z3.out; simp; omega
      case aL => have h1 := HLN.out; have h2 := HL.out; omega
      intro v5 w5 hR5 hB5 hG5 hat
      have X5 := Lib.hid (blk_grown ((blk_set ((blk_set X3.out 0 _).trans rfl) 1 _).trans rfl) hG5 (fun h => (R3.out.1 j h.symm).2 rfl))
      have S5 := Lib.hid (((S3.out.far (p := ⟨j, 0, none⟩) (by have := HG.out; simp; omega) (.int .u64 pk)).far (p := ⟨j, 1, none⟩) (by have := HG.out; simp; omega) (.int .u64 pv)).grown hG5 (fun h => (R3.out.1 w.heap.size h.symm).1 rfl))
      have R5 := Lib.hid hR5
      have B5 := Lib.hid hB5
      clear hR5 hB5 hG5 hat m0 m1 n0 n1
      go_wp2
      go_roundg (gk - 1)
      case measure => have := HK0.out; omega
      case rel =>
        refine ⟨acc ++ [⟨pk, pv⟩], _, a2, e2, pk, pv, rfl, (u64_range _).1, HDN, Lib.hid (by have := HLN.out; have := HK0.out; simp; omega), Lib.hid (fun h => ?_), HPK, R5, S5, B5, X5⟩
        have h1 := HPO.out h
        have h2 := HA2.out
        have h3 := HK0.out
        omega
    · have HDE := Lib.hid (HDR.out.trans (decL_end bs gk m at' e last acc hgo))
      have c1 := cellS123_1 hb0
      by_cases he : e = 0
      · obtain rfl := he
        have hme : decide (0 < m) = false := decide_eq_false (fun h => hgo ⟨h, rfl⟩)
        obtain ⟨z, rfl⟩ := Int.eq_ofNat_of_zero_le (HAT.out rfl).1
        have hz : z ≤ bs.length := by have := (HAT.out rfl).2.1; omega
        have hz2 : bs.length < 4398046511104 := HL.out
        clear hgo
        by_cases h4 : (bs.length : Int) - (z : Int) < 4
        · have HRE : Hid (R = ([], 270, (bs.length : Int))) := Lib.hid (by rw [HN.out, HDE.out]; simp only [finX, if_pos h4, if_true]; rfl)
          have h4' := eq_true h4
          clear h4
          go_wp2_with fail
          go_at_call 63
          refine (dump_reader_fail.calls _ bs _ 0 270 ((bs.length : Int)) ((bs.length : Int)) 270 w _ (by first | exact HSR.out | exact HSR.out) (by first | exact HBR.out | exact HBR.out) rfl).mono ?_
          rintro en w9 ⟨rfl, h1, h2, h3⟩
          have B9 := Lib.hid h2
          obtain ⟨A'', c'', hb9, -, -⟩ := h1
          have e1 := cellS123_1 hb9
          have e2 := cellS123_2 hb9
          clear h2 h3 hb9
          go_wp2
          go_quiet (fail)
          go_wp2
          go_ret3
          rw [HRE.out]
          exact ⟨_, rfl, Kd.R_nil _ _ _ _ _, pw_below_drewN B9.out _⟩
        · have hz4 : z + 4 ≤ bs.length := by omega
          have h4' := eq_false h4
          have HT4 := take4 bs z hz4
          obtain ⟨s, hs⟩ : ∃ s, sumS 2166136261 (bs.take z) = s := ⟨_, rfl⟩
          have hsr := sumS_range (bs.take z) 2166136261 (by omega) (by omega)
          rw [hs] at hsr
          have hlt : (bs.take z).length = z := by rw [List.length_take]; omega
          have HCT := Lib.hid (Kd.C_take HA.out (m := z) (by omega))
          obtain ⟨f0, f1, f2, f3, hf⟩ : ∃ f0 f1 f2 f3, fixedS s = [f0, f1, f2, f3] := ⟨_, _, _, _, rfl⟩
          obtain ⟨ad, rfl, x0⟩ := Kd.at_int (Kd.C_below HA.out HBR.out) (z : Int) (by omega) (by omega)
          obtain ⟨ad1, e1, x1⟩ := Kd.at_int (Kd.C_below HA.out HBR.out) ((z + 1 : Nat) : Int) (by omega) (by omega)
          obtain ⟨ad2, e2, x2⟩ := Kd.at_int (Kd.C_below HA.out HBR.out) ((z + 2 : Nat) : Int) (by omega) (by omega)
          obtain ⟨ad3, e3, x3⟩ := Kd.at_int (Kd.C_below HA.out HBR.out) ((z + 3 : Nat) : Int) (by omega) (by omega)
          obtain rfl : ad = ad1 := by injection e1
          obtain rfl : ad = ad2 := by injection e2
          obtain rfl : ad = ad3 := by injection e3
          clear e1 e2 e3
          have HFIN : Hid (finX bs (z : Int) 0 = if ([rd bs z, rd bs (z + 1 : Nat), rd bs (z + 2 : Nat), rd bs (z + 3 : Nat)] == [f0, f1, f2, f3]) = false then ((z : Int), 271) else if (bs.length : Int) - (z : Int) > 4 then ((z : Int) + 4, 272) else ((z : Int), 0)) := Lib.hid (by unfold finX; rw [if_pos rfl, if_neg h4, Int.toNat_natCast, HT4, hs, hf])
          generalize bs.take z = T at *
          rw [Int.toNat_natCast] at x0 x1 x2 x3
          rw [add_field ad z 1 (by omega)] at x1
          rw [add_field ad z 2 (by omega)] at x2
          rw [add_field ad z 3 (by omega)] at x3
          have harr := fun wx => run_arrayAt (P := Try.prog) (w := wx) 117 5 4 (some (ad.add z)) (bs.length - z) (c - z) hu117 (by omega)
          generalize rd bs (z : Int) = y0 at *
          generalize rd bs ((z + 1 : Nat) : Int) = y1 at *
          generalize rd bs ((z + 2 : Nat) : Int) = y2 at *
          generalize rd bs ((z + 3 : Nat) : Int) = y3 at *
          have HS := Lib.hid hs
          have HF := Lib.hid hf
          have HLT := Lib.hid hlt
          have HCC := Lib.hid (show z ≤ c by have := HC.out; omega)
          have b1 : (0 : Int) ≤ (z : Int) := by omega
          have b2 : (z : Int) ≤ (c : Int) := by have := HC.out; omega
          have b3 : (z : Int) ≤ (bs.length : Int) := by omega
          have b4 : ¬ c = z := by have := HC.out; omega
          have b5 : (bs.length : Int) ≤ (c : Int) := by have := HC.out; omega
          obtain ⟨b, hb, heq⟩ : ∃ b : Bool, b = ([y0, y1, y2, y3] == [f0, f1, f2, f3]) ∧ ∀ w, Sem.run Try.prog (Op.equalIn 10000 117 (.agg #[.int .u8 y0, .int .u8 y1, .int .u8 y2, .int .u8 y3]) (.agg #[.int .u8 f0, .int .u8 f1, .int .u8 f2, .int .u8 f3])) w = .ok b w := ⟨_, rfl, eq_arr4 _ _ _ _ _ _ _ _⟩
          have HFB := Lib.hid hb
          have HZ4 := Lib.hid hz4
          clear h4 HT4 hs hf hlt hb hz4
          go_wp2_with fail
          go_region_held3 (fun w' => Below wr.heap.size wr w' ∧ w'.cell? (ad.add z) = some (.int .u8 y0) ∧ w'.cell? ⟨(ad.add z).block, (ad.add z).off + 1, none⟩ = some (.int .u8 y1) ∧ w'.cell? ⟨(ad.add z).block, (ad.add z).off + 2, none⟩ = some (.int .u8 y2) ∧ w'.cell? ⟨(ad.add z).block, (ad.add z).off + 3, none⟩ = some (.int .u8 y3)) (first | exact ⟨(Below.refl _ _).drew, x0, x1, x2, x3⟩ | exact keep4 (keep4 (w1 := wr.drew) ⟨(Below.refl _ _).drew, x0, x1, x2, x3⟩ hb5) hb6 | exact keep4 (w1 := wr.drew) ⟨(Below.refl _ _).drew, x0, x1, x2, x3⟩ hb5) (first | (go_at_call 57; refine (sum_v _ _ _ T s _ (by exact Kd.C_below HCT.out HBR.out.drew) (by have := HLT.out; have := HCC.out; omega) HLT.out (by have := HLT.out; omega) HS.out).mono ?_; rintro en w5 ⟨rfl, hb5⟩) | (go_at_call 56; refine (fixed_v s f0 f1 f2 f3 _ hsr.1 hsr.2 HF.out).mono ?_; rintro en w6 ⟨rfl, hb6⟩))
          all_goals
            rename_i hS
            have HSS := Lib.hid hS.1
            clear hS x0 x1 x2 x3 hb5 hb6 harr heq
            obtain ⟨A5, c5, hb5, -, -⟩ := HSR.out.below HSS.out
            have g2 := cellS123_2 hb5
            clear hb5
            have HFF : Hid (finX bs (z : Int) 0 = if b = false then ((z : Int), 271) else if (bs.length : Int) - (z : Int) > 4 then ((z : Int) + 4, 272) else ((z : Int), 0)) := Lib.hid (by rw [HFIN.out, HFB.out])
            clear hb0 c1 d2 HFB HFIN
            cases b
            · have HRE : Hid (R = ([], 271, (z : Int))) := Lib.hid (by rw [HN.out, HDE.out]; simp only [HFF.out]; rfl)
              go_wp2_with fail
              go_at_call 63
              refine (dump_reader_fail.calls _ bs _ 0 271 ((z : Int)) ((z : Int)) 271 w _ (by first | exact HSR.out | exact (HSR.out.below HSS.out)) (by first | exact HBR.out | exact HBR.out.trans (HSS.out.mono HBR.out.size)) rfl).mono ?_
              rintro en w9 ⟨rfl, h1, h2, h3⟩
              have B9 := Lib.hid h2
              obtain ⟨A'', c'', hb9, -, -⟩ := h1
              have e1 := cellS123_1 hb9
              have e2 := cellS123_2 hb9
              clear h2 h3 hb9
              go_wp2
              go_quiet (fail)
              go_wp2
              go_ret3
              rw [HRE.out]
              exact ⟨_, rfl, Kd.R_nil _ _ _ _ _, pw_below_drewN B9.out _⟩
            · by_cases hm4 : (bs.length : Int) - (z : Int) > 4
              · have HRE : Hid (R = ([], 272, (z : Int) + 4)) := Lib.hid (by rw [HN.out, HDE.out]; simp only [HFF.out, if_pos hm4]; rfl)
                have hm5 : (4 : Int) < (bs.length : Int) - (z : Int) := hm4
                clear hm4
                go_wp2_with fail
                go_at_call 63
                refine (dump_reader_fail.calls _ bs _ 0 272 ((z : Int) + 4) ((z : Int) + 4) 272 w _ (by first | exact HSR.out | exact (HSR.out.below HSS.out)) (by first | exact HBR.out | exact HBR.out.trans (HSS.out.mono HBR.out.size)) rfl).mono ?_
                rintro en w9 ⟨rfl, h1, h2, h3⟩
                have B9 := Lib.hid h2
                obtain ⟨A'', c'', hb9, -, -⟩ := h1
                have e1 := cellS123_1 hb9
                have e2 := cellS123_2 hb9
                clear h2 h3 hb9
                go_wp2
                go_quiet (fail)
                go_wp2
                go_ret3
                rw [HRE.out]
                exact ⟨_, rfl, Kd.R_nil _ _ _ _ _, pw_below_drewN B9.out _⟩
              · have HRE : Hid (R = (acc, 0, 0)) := Lib.hid (by rw [HN.out, HDE.out]; simp only [HFF.out, if_neg hm4]; rfl)
                have hm5 : ¬ (4 : Int) < (bs.length : Int) - (z : Int) := hm4
                clear hm4
                go_wp2
                go_ret3
                rw [HRE.out]
                exact ⟨_, rfl, Kd.R_mono (Kd.R_below HRR.out HSS.out) (fun _ _ => trivial), HBR.out.trans (HSS.out.mono HBR.out.size)⟩
      · have he1 : (e == 0) = false := by rw [beq_eq_false_iff_ne]; exact he
        have he2 : (e != 0) = true := by rw [bne_iff_ne]; exact he
        have HRE : Hid (R = ([], e, at')) := Lib.hid (by rw [HN.out, HDE.out]; simp only [finX, if_neg he])
        clear he hgo
        have hcs : decide (0 < m) = true ∨ decide (0 < m) = false := by cases decide (0 < m) <;> simp
        rcases hcs with hme | hme
        all_goals
          go_wp2
          go_quiet (fail)
          go_wp2
          go_ret3
          rw [HRE.out]
          exact ⟨_, rfl, Kd.R_nil _ _ _ _ _, pw_below_drewN HBR.out _⟩
end Go.Proofs.Ythblincfnfpgbaa.Q
