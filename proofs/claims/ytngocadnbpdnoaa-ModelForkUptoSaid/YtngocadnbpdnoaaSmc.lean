import Derived.Test.YtngocadnbpdnoaaSma
import Derived.Test.YtngocadnbpdnoaaSmb
import Derived.Test.YtngocadnbpdnoaaSQx0
import Derived.Test.YtngocadnbpdnoaaSMo7
import Derived.OrdersHeld
import Derived.Test.YtngocadnbpdnoaaRows
import Derived.Test.YtngocadnbpdnoaaSWWords
import Derived.Deep.Slices
import Derived.SizedLaws
import Derived.Deep.CondSized
import Derived.ProofKit
import Derived.OpenShut
namespace Go.Proofs.Ytngocadnbpdnoaa.Mo
open Go Go.Maps Go.RowKit Go.Proofs.Ytngocadnbpdnoaa.Srt Go.Proofs.Ytngocadnbpdnoaa.Q Go.Proofs.YtngocadnbpdnoaaW.PrintWords Go.Proofs.YtngocadnbpdnoaaW.PrintLast Go.Proofs.YtngocadnbpdnoaaW.PrintMore
set_option linter.unusedVariables false
set_option linter.unusedSimpArgs false
set_option maxRecDepth 100000 in
set_option maxHeartbeats 16000000 in
theorem rtake_snap {w : World} {S : Nat → Prop} {rp N : Nat} {s : MS} {A : Option Addr} {c : Nat} {B : Option Addr} {d : Nat} {hs : List HdS} (h : RMd w S rp N s A c B d hs) (o : OpS) (a : AnS) (Ao Ba : Option Addr) (co ca : Nat) (hN : N ≤ 1099511627776) (hS : ∀ k, S k → k < w.heap.size) (hC : Kd.C (Kd.int .u64) w Ao o.f6.length o.f6) (hCc : o.f6.length ≤ co) (hCn : o.f6.length ≤ 1099511627776) (hD : Kd.C kSP w Ba a.f5.length a.f5) (hd : a.f5.length ≤ ca) (hm : a.f5.length ≤ 4398046511104) (hps : (stepD s o a.f4).2.ps.length ≤ 4398046511104) (hk : o.f0 = 5) (r : MS × Bool) (hr : r = if anEq a (errS 32) || anEq a (errS 31) then (s, true) else if (a.f4 == 0) || (fnd s.held a.f4).isSome then (s, false) else tailR s o a) :
    Calls Try.prog 23 #[.pointer (some ⟨rp, 0, none⟩), .agg (opC o Ao co), anV a Ba ca] w (TakeR w S rp (N + 1) r) := by
  have hrp := blk_lt h.blk
  have hrS := h.rp
  have HB0 := Lib.hid (tkW_below w o Ao co a Ba ca)
  have HO0 := Lib.hid (tkW_op w o Ao co a Ba ca)
  have HA0 := Lib.hid (tkW_ans w o Ao co a Ba ca)
  have hk0 : (tkW w o Ao co a Ba ca).cell? ⟨w.heap.size, 0, none⟩ = some (.int .u8 o.f0) := (op_cells HO0.out).1
  have hs0 := tkW_size w o Ao co a Ba ca
  have HH := Lib.hid h
  have HSS := Lib.hid hS
  have HC := Lib.hid hC
  have HCA := Lib.hid hD
  have HRS := Lib.hid hrS
  have HR := Lib.hid hr
  clear h hS hC hD hrS hr
  obtain ⟨D, hDD⟩ : ∃ D, D = (stepD s o a.f4).2 := ⟨_, rfl⟩
  obtain ⟨s1, hs1⟩ : ∃ s1, s1 = (stepD s o a.f4).1 := ⟨_, rfl⟩
  rw [← hDD] at hps
  have HDD := Lib.hid hDD
  have HS1 := Lib.hid hs1
  clear hDD hs1
  have q : (o.f0 == 2) = false ∧ (o.f0 == 3) = false ∧ (o.f0 == 4) = false ∧ (o.f0 == 5) = true := by rw [hk]; decide
  obtain ⟨q2, q3, q4, q5⟩ := q
  clear hk
  obtain ⟨b1, hb1⟩ : ∃ b, b = anEq a (errS 32) := ⟨_, rfl⟩
  obtain ⟨b2, hb2⟩ : ∃ b, b = anEq a (errS 31) := ⟨_, rfl⟩
  rw [← hb1, ← hb2] at HR
  have HE1 := Lib.hid hb1
  have HE2 := Lib.hid hb2
  clear hb1 hb2
  go_enter Try.func23, Try.ntmps23
  go_upto_region 3 with fail
  change Code.wp _ _ _ _ (tkW w o Ao co a Ba ca)
  obtain ⟨W0, hW0⟩ : ∃ W0, W0 = tkW w o Ao co a Ba ca := ⟨_, rfl⟩
  rw [← hW0] at HB0 HO0 HA0 hk0 hs0 ⊢
  clear hW0
  obtain ⟨p0, p1, p2, p3, p4, p5, p6⟩ := ans_cells HA0.out
  go_wp2_with fail
  go_at_call 49
  refine (bareR_c a Ba ca 32 W0 (Kd.C_below HCA.out HB0.out) hd hm).mono ?_
  rw [← HE1.out]
  rintro e w2 ⟨rfl, hB2⟩
  have HW2 := Lib.hid (HB0.out.trans (hB2.mono HB0.out.size))
  have HO2 := Lib.hid (blk_below HO0.out hB2)
  have HA2 := Lib.hid (blk_below HA0.out hB2)
  clear hB2 p0 p1 p2 p3 p4 p5 p6 hk0
  cases b1 with
  | true =>
    go_wp2_with fail
    go_ret
    obtain rfl : r = (s, true) := by rw [HR.out]; simp
    exact ⟨rfl, ⟨_, _, _, _, _, (HH.out.below HW2.out).mono (Nat.le_succ _)⟩, KO.of_below HW2.out _⟩
  | false =>
    obtain ⟨p0, p1, p2, p3, p4, p5, p6⟩ := ans_cells HA2.out
    go_wp2_with fail
    go_at_call 49
    refine (bareR_c a Ba ca 31 w2 (Kd.C_below HCA.out HW2.out) hd hm).mono ?_
    rw [← HE2.out]
    rintro e w3 ⟨rfl, hB3⟩
    have HW3 := Lib.hid (HW2.out.trans (hB3.mono HW2.out.size))
    have HO3 := Lib.hid (blk_below HO2.out hB3)
    have HA3 := Lib.hid (blk_below HA2.out hB3)
    clear hB3 p0 p1 p2 p3 p4 p5 p6
    cases b2 with
    | true =>
      go_wp2_with fail
      go_ret
      obtain rfl : r = (s, true) := by rw [HR.out]; simp
      exact ⟨rfl, ⟨_, _, _, _, _, (HH.out.below HW3.out).mono (Nat.le_succ _)⟩, KO.of_below HW3.out _⟩
    | false =>
      obtain ⟨p0, p1, p2, p3, p4, p5, p6⟩ := ans_cells HA3.out
      by_cases h0 : a.f4 = 0
      · have z0 : (a.f4 == 0) = true := by rw [h0]; decide
        obtain rfl : r = (s, false) := by rw [HR.out, z0]; simp
        clear h0
        go_wp2_with fail
        go_ret
        exact ⟨rfl, ⟨_, _, _, _, _, (HH.out.below HW3.out).mono (Nat.le_succ _)⟩, KO.of_below HW3.out _⟩
      · have z0 : (a.f4 == 0) = false := beq_eq_false_iff_ne.2 h0
        clear h0
        cases hf : fnd s.held a.f4 with
        | some l =>
          obtain ⟨i, hi, hi1, hi2, hP⟩ := place_some (HH.out.below HW3.out) a.f4 l hf hN
          obtain rfl : r = (s, false) := by rw [HR.out, hf]; simp
          clear hi1 hi2 hf
          have hpos : decide ((0 : Int) ≤ (i : Int)) = true := decide_eq_true (by omega)
          have HP := Lib.hid hP
          clear hP
          go_wp2_with (go_at_call 50; refine HP.out.mono ?_; rintro e w4 ⟨rfl, rfl⟩)
          go_ret
          exact ⟨rfl, ⟨_, _, _, _, _, (HH.out.below HW3.out).mono (Nat.le_succ _)⟩, KO.of_below HW3.out _⟩
        | none =>
          have hP := place_none (HH.out.below HW3.out) a.f4 hf hN
          have HT : Hid (r = tailR s o a) := Lib.hid (by rw [HR.out, hf, z0]; simp)
          have HP := Lib.hid hP
          clear hP hf
          go_upto_region 21 with (go_at_call 50; refine HP.out.mono ?_; rintro e W1 ⟨rfl, rfl⟩)
          have HB9 := HW3
          have HO9 := HO3
          have HA9 := HA3
          obtain ⟨W1, hW1⟩ : ∃ W1, W1 = w3 := ⟨_, rfl⟩
          rw [← hW1] at HB9 HO9 HA9 p0 p1 p2 p3 p4 p5 p6 ⊢
          clear HB0 HO0 HA0 HW2 HO2 HA2 HW3 HO3 HA3 HP hW1 p0 p1 p2 p3 p4 p5 p6
          go_upto_region 22 with (first | (go_at_call 32; refine (forkR_c (HH.out.below HB9.out) hN (fun k e => Nat.lt_of_lt_of_le (HSS.out k e) HB9.out.size)).mono ?_; rintro e w1 ⟨gq, A1, c1, B1, d1, rfl, hq1, hM1, hB1⟩))
          have hbw1 : Below w.heap.size w w1 := HB9.out.trans (hB1.mono HB9.out.size)
          have HO1 : Hid (w1.drew.heap[w.heap.size]? = some (.cells (opC o Ao co) 39 (0, 0))) := Lib.hid ((hB1.block _ (blk_lt HO9.out)).trans HO9.out)
          have HA1 : Hid (w1.drew.heap[w.heap.size + 1]? = some (.cells (ansC a.f0 a.f1 a.f2 a.f3 a.f4 (.slice Ba a.f5.length ca) a.f6) 26 (0, 0))) := Lib.hid ((hB1.block _ (blk_lt HA9.out)).trans HA9.out)
          have HM1 := Lib.hid (hM1.below (below_drew (Below.refl _ w1)))
          have HB1 := Lib.hid (below_drew hbw1)
          have hgq1 : gq < w1.drew.heap.size := blk_lt HM1.out.blk
          have hgw : w.heap.size + 2 ≤ gq := Nat.le_trans (by have := blk_lt HA9.out; omega) hq1
          have HSG : Hid (∀ k, (S k ∨ k = gq) → k < w1.drew.heap.size) := Lib.hid (fun k e => by
            rcases e with e | e
            · exact Nat.lt_of_lt_of_le (HSS.out k e) hbw1.size
            · rw [e]; exact hgq1)
          clear hM1 hbw1 hB1
          have hS1 := cells18 HO1.out HA1.out
          go_region_held3 (fun w' => w'.cell? ⟨w.heap.size, 0, none⟩ = some (.int .u8 o.f0) ∧ w'.cell? ⟨w.heap.size, 1, none⟩ = some (.int .u64 o.f1) ∧ w'.cell? ⟨w.heap.size, 2, none⟩ = some (.int .u64 o.f2) ∧ w'.cell? ⟨w.heap.size, 3, none⟩ = some (.int .u64 o.f3) ∧ w'.cell? ⟨w.heap.size, 4, none⟩ = some (.int .u64 o.f4) ∧ w'.cell? ⟨w.heap.size, 5, none⟩ = some (.bool o.f5.f0) ∧ w'.cell? ⟨w.heap.size, 6, none⟩ = some (.int .i64 o.f5.f1) ∧ w'.cell? ⟨w.heap.size, 7, none⟩ = some (.int .i64 o.f5.f2) ∧ w'.cell? ⟨w.heap.size, 8, none⟩ = some (.slice Ao o.f6.length co) ∧ w'.cell? ⟨w.heap.size, 9, none⟩ = some (.int .u64 o.f7) ∧ w'.cell? ⟨w.heap.size, 10, none⟩ = some (.int .u64 o.f8) ∧ w'.cell? ⟨w.heap.size + 1, 0, none⟩ = some (.int .i64 a.f0) ∧ w'.cell? ⟨w.heap.size + 1, 1, none⟩ = some (.bool a.f1) ∧ w'.cell? ⟨w.heap.size + 1, 2, none⟩ = some (.int .u64 a.f2) ∧ w'.cell? ⟨w.heap.size + 1, 3, none⟩ = some (.bool a.f3) ∧ w'.cell? ⟨w.heap.size + 1, 4, none⟩ = some (.int .u64 a.f4) ∧ w'.cell? ⟨w.heap.size + 1, 5, none⟩ = some (.slice Ba a.f5.length ca) ∧ w'.cell? ⟨w.heap.size + 1, 6, none⟩ = some (.int .u64 a.f6))
            (first | go_keep | exact hS1 | exact cells18 HO2.out HA2.out | exact cells18 HO3.out HA3.out)
            (first
              | (go_at_call 24; refine (rdo_c HM1.out o Ao co a.f4 hN HSG.out (Kd.C_below HC.out HB1.out) hCc hCn).mono ?_
                 rw [← HDD.out, ← HS1.out]
                 rintro e w2 ⟨ps, rfl, hR2, hM2, hK2⟩
                 obtain ⟨A9, c9, rfl⟩ := Kd.R_slice hR2
                 have hK1 : KO w w2 (fun _ => False) := (KO.of_below HB1.out (fun _ => False)).then_ hK2 (fun k e => .inr (by omega))
                 have HO2 := Lib.hid (blk_kept (W2 := w2) HO1.out hK2.kept (show ¬ (w.heap.size = gq) by omega))
                 have HA2 := Lib.hid (blk_kept (W2 := w2) HA1.out hK2.kept (show ¬ (w.heap.size + 1 = gq) by omega))
                 have HM2 := Lib.hid hM2
                 have HK1 := Lib.hid (KO.below_of hK1 (fun k e => e.elim))
                 have HR2 := Lib.hid hR2
                 clear hM2 hK1 hR2 hK2)
              | (go_at_call 13; refine (sameAnsR_c (ansS D) a A9 Ba c9 ca w2 (Kd.R_reads' HR2.out).2.2 (Kd.R_reads' HR2.out).2.1 (Kd.C_below HCA.out HK1.out) hd (by simp only [ansS, toS_length]; exact hps)).mono ?_; rintro e w3 ⟨rfl, hB3⟩
                 have HO3 := Lib.hid ((hB3.block _ (blk_lt HO2.out)).trans HO2.out)
                 have HA3 := Lib.hid ((hB3.block _ (blk_lt HA2.out)).trans HA2.out)
                 have HK3 := Lib.hid (HK1.out.trans (hB3.mono HK1.out.size))
                 have HB3 := Lib.hid hB3
                 clear hB3))
          by_cases hq : anEq (ansS D) a = true
          case neg =>
            obtain rfl : r = (s, false) := by rw [HT.out, tailR, ← HDD.out, if_neg hq]
            have hq' : anEq (ansS D) a = false := by simpa using hq
            clear hq
            rw [hq']
            go_wp2_with fail
            all_goals go_ret
            all_goals exact ⟨rfl, ⟨_, _, _, _, _, (HH.out.below HK3.out).mono (Nat.le_succ _)⟩, KO.of_below HK3.out _⟩
          case pos =>
            obtain rfl : r = (s1, true) := by rw [HT.out, tailR, ← HDD.out, if_pos hq, ← HS1.out]
            rw [hq]
            obtain ⟨A2, c2, B2, d2, hs2, hM2⟩ := HM2.out
            have hM3 := hM2.below HB3.out
            have g0 := hM3.c0
            have g1 := hM3.c1
            have g2 := hM3.c2
            have HM3 := Lib.hid hM3
            clear hM2 hM3
            have HRB := Lib.hid (HH.out.below HK3.out).blk
            go_split_ands
            go_wp2_with (first | ((with_reducible refine gate_store (t := 119) (p := 69) rfl ?_); refine wpList_store_row rfl 119 (.tmp 69) (.tmp 68) rfl rp #[.int .i64 s1.multi, .slice A2 s1.now.length c2, .slice B2 hs2.length d2] rfl rfl 119 _ HRB.out (by kernel_rfl) rfl (mdC_one _ _ _ _ _ _ _) ?_))
            all_goals go_ret
            all_goals exact ⟨rfl, ⟨_, _, _, _, _, HM3.out.copy HRB.out (by omega) (fun k e => .inl e) HRS.out⟩, (KO.of_below HK3.out _).then_ (KO.row _ _ _) (fun k e => .inl e)⟩
end Go.Proofs.Ytngocadnbpdnoaa.Mo
namespace Go.Proofs.Ytngocadnbpdnoaa.Mo
open Go Go.Maps Go.RowKit Go.Proofs.Ytngocadnbpdnoaa.Srt Go.Proofs.Ytngocadnbpdnoaa.Q Go.Proofs.YtngocadnbpdnoaaW.PrintWords Go.Proofs.YtngocadnbpdnoaaW.PrintLast Go.Proofs.YtngocadnbpdnoaaW.PrintMore
set_option linter.unusedVariables false
set_option linter.unusedSimpArgs false
theorem DoPost.agg {w : World} {f : Nat → Option PL} {N gp bn bh : Nat} {s : MS} {d : AnsD} {e : Ending} {w' : World} (h : DoPost w f N gp bn bh s d e w') : ∃ A c, e = .returned (.agg #[.int .i64 d.e, .bool d.fo, .int .u64 d.v, .bool d.dn, .int .u64 d.h, .slice A (toS d.ps).length c, .int .u64 d.c]) ∧ kSP.R 90 w' w.heap.size (fun _ => True) (.slice A (toS d.ps).length c) (toS d.ps) ∧ Left w w' f N gp bn bh s.multi s.now s.held (fun k => k = bn ∨ k = bh) := by
  obtain ⟨ps, rfl, hR, hL⟩ := h
  obtain ⟨A, c, rfl⟩ := Kd.R_slice hR
  exact ⟨A, c, rfl, hR, hL⟩
theorem Left.below' {w W W2 : World} {f : Nat → Option PL} {N gp bn bh : Nat} {multi : Int} {now : PL} {held : List (Int × PL)} {K : Nat → Prop} (h : Left w W f N gp bn bh multi now held K) (hb : Below W.heap.size W W2) : Left w W2 f N gp bn bh multi now held K := by
  obtain ⟨f', hE, hP, hF, hK⟩ := h
  exact ⟨f', hE, hP.kept (Kept.of_below hb (fun _ => False)) (fun e => e) (fun e => e) (fun e => e), hF.kept (Kept.of_below hb (fun _ => False)) (fun _ _ _ e => e), hK.below hb⟩
theorem Left.base' {w W w' : World} {f : Nat → Option PL} {N gp bn bh : Nat} {multi : Int} {now : PL} {held : List (Int × PL)} {K : Nat → Prop} (h : Left W w' f (N + 1) gp bn bh multi now held K) (hb : Below w.heap.size w W) : Left w w' f (N + 2) gp bn bh multi now held K := by
  obtain ⟨f', hE, hP, hF, hK⟩ := h.base hb (fun k e => e)
  exact ⟨f', hE, hP.mono (by omega), hF.mono (by omega), hK⟩
theorem cell_below {w W : World} {a : Addr} (h : Below w.heap.size w W) (hl : a.block < w.heap.size) : W.cell? a = w.cell? a := h.cell (p := a) hl
set_option maxRecDepth 100000 in
set_option maxHeartbeats 16000000 in
theorem take_coll (o : OpS) (a : AnS) (A B : Option Addr) (c d : Nat)  (f : Nat → Option PL) (N gp bn bh : Nat) (multi : Int) (now : PL) (held : List (Int × PL)) (w : World) (hM : PM w f N gp bn bh multi now held) (hF : Fro w f N) (hN : N + 1 ≤ 1099511627776)
    (hC : ∀ W', Kept w W' (fun k => k = bn ∨ k = bh) → Kd.C k90 W' B a.f5.length a.f5) (hd : a.f5.length ≤ d) (hm : a.f5.length ≤ 4398046511104) (hk : o.f0 = 10) (r : MS × Bool) (hr : r = (⟨multi, now, held⟩, anEq a ⟨0, false, 0, false, 0, [], a.f6⟩)) :
    Calls Try.prog 22 #[.pointer (some ⟨gp, 0, none⟩), .agg (opC o A c), anV a B d] w (TakePost w f N gp bn bh r) := by
  have hgl := hM.gl
  have hnl := hM.now.lt
  have hhl := hM.held.1.lt
  have hb0 := tkW_below w o A c a B d
  have hO0 := tkW_op w o A c a B d
  have hA0 := tkW_ans w o A c a B d
  have hk0 : (tkW w o A c a B d).cell? ⟨w.heap.size, 0, none⟩ = some (.int .u8 o.f0) := (op_cells hO0).1
  have hs0 := tkW_size w o A c a B d
  have HM := Lib.hid hM
  have HF := Lib.hid hF
  have HC := Lib.hid hC
  have HB0 := Lib.hid hb0
  have HO0 := Lib.hid hO0
  have HA0 := Lib.hid hA0
  clear hM hF hC hb0 hO0 hA0
  obtain ⟨s, hs⟩ : ∃ s : MS, s = ⟨multi, now, held⟩ := ⟨_, rfl⟩
  rw [← hs] at hr
  have HS := Lib.hid hs
  have HR := Lib.hid hr
  clear hs hr
  have q : (o.f0 == 2) = false ∧ (o.f0 == 3) = false ∧ (o.f0 == 4) = false ∧ (o.f0 == 5) = false ∧ (o.f0 == 10) = true := by rw [hk]; decide
  obtain ⟨q2, q3, q4, q5, q10⟩ := q
  clear hk
  go_enter Try.func22, Try.ntmps22
  go_upto_region 4 with fail
  change Code.wp _ _ _ _ (tkW w o A c a B d)
  obtain ⟨W0, hW0⟩ : ∃ W0, W0 = tkW w o A c a B d := ⟨_, rfl⟩
  rw [← hW0] at HB0 HO0 HA0 hk0 hs0 ⊢
  clear hW0
  obtain ⟨p0, p1, p2, p3, p4, p5, p6⟩ := ans_cells HA0.out
  have hcS := sameAns_c a ⟨0, false, 0, false, 0, [], a.f6⟩ B none d 0 W0 (HC.out W0 (Kept.of_below HB0.out _)) hd (Kd.C_nil _ _) (Nat.le_refl _) hm
  go_wp2_with (go_at_call 12; refine hcS.mono ?_; rintro e w1 ⟨rfl, hB1⟩)
  go_ret
  rw [HR.out, HS.out]
  exact ⟨rfl, left_same HM.out HF.out (HB0.out.trans (hB1.mono HB0.out.size)) (by omega)⟩
end Go.Proofs.Ytngocadnbpdnoaa.Mo
namespace Go.Proofs.Ytngocadnbpdnoaa.Mo
open Go Go.Maps Go.RowKit Go.Proofs.Ytngocadnbpdnoaa.Srt Go.Proofs.Ytngocadnbpdnoaa.Q Go.Proofs.YtngocadnbpdnoaaW.PrintWords Go.Proofs.YtngocadnbpdnoaaW.PrintLast Go.Proofs.YtngocadnbpdnoaaW.PrintMore
set_option linter.unusedVariables false
set_option linter.unusedSimpArgs false
set_option maxRecDepth 100000 in
set_option maxHeartbeats 16000000 in
theorem take_query (o : OpS) (a : AnS) (A B : Option Addr) (c d : Nat) (st : MS → MS × AnsD) (f : Nat → Option PL) (N gp bn bh : Nat) (multi : Int) (now : PL) (held : List (Int × PL)) (w : World) (hM : PM w f N gp bn bh multi now held) (hF : Fro w f N) (hN : N + 1 ≤ 1099511627776)
    (hC : ∀ W', Kept w W' (fun k => k = bn ∨ k = bh) → Kd.C k90 W' B a.f5.length a.f5) (hd : a.f5.length ≤ d) (hm : a.f5.length ≤ 4398046511104) (hD : ∀ W', Below w.heap.size w W' → Calls Try.prog 15 #[.pointer (some ⟨gp, 0, none⟩), .agg (opC o A c), .int .u64 0] W' (DoPost W' f (N + 1) gp bn bh (st ⟨multi, now, held⟩).1 (st ⟨multi, now, held⟩).2)) (hk : 7 ≤ o.f0 ∧ o.f0 ≤ 9) (r : MS × Bool) (hr : r = ((st ⟨multi, now, held⟩).1, anEq a (ansS (st ⟨multi, now, held⟩).2) || ((st ⟨multi, now, held⟩).2.e == 33 && anEq a (errS 34)))) :
    Calls Try.prog 22 #[.pointer (some ⟨gp, 0, none⟩), .agg (opC o A c), anV a B d] w (TakePost w f N gp bn bh r) := by
  have hgl := hM.gl
  have hnl := hM.now.lt
  have hhl := hM.held.1.lt
  have hb0 := tkW_below w o A c a B d
  have hO0 := tkW_op w o A c a B d
  have hA0 := tkW_ans w o A c a B d
  have hk0 : (tkW w o A c a B d).cell? ⟨w.heap.size, 0, none⟩ = some (.int .u8 o.f0) := (op_cells hO0).1
  have hs0 := tkW_size w o A c a B d
  have HM := Lib.hid hM
  have HF := Lib.hid hF
  have HC := Lib.hid hC
  have HB0 := Lib.hid hb0
  have HO0 := Lib.hid hO0
  have HA0 := Lib.hid hA0
  clear hM hF hC hb0 hO0 hA0
  obtain ⟨s, hs⟩ : ∃ s : MS, s = ⟨multi, now, held⟩ := ⟨_, rfl⟩
  rw [← hs] at hr
  have HS := Lib.hid hs
  have HR := Lib.hid hr
  clear hs hr
  have HD := Lib.hid hD
  clear hD
  have q : (o.f0 == 2) = false ∧ (o.f0 == 3) = false ∧ (o.f0 == 4) = false ∧ (o.f0 == 5) = false ∧ (o.f0 == 10) = false ∧ ((o.f0 == 7) = true ∨ ((o.f0 == 7) = false ∧ (o.f0 == 8) = true) ∨ ((o.f0 == 7) = false ∧ (o.f0 == 8) = false ∧ (o.f0 == 9) = true)) := by
    obtain ⟨h1, h2⟩ := hk
    rcases (show o.f0 = 7 ∨ o.f0 = 8 ∨ o.f0 = 9 by omega) with e | e | e <;> rw [e] <;> decide
  obtain ⟨q2, q3, q4, q5, q10, hcase⟩ := q
  clear hk
  obtain ⟨D, hDD⟩ : ∃ D : AnsD, D = (st s).2 := ⟨_, rfl⟩
  replace HR : Hid (r = ((st s).1, anEq a (ansS D) || (D.e == 33 && anEq a (errS 34)))) := Lib.hid (by rw [hDD]; exact HR.out)
  have HDD := Lib.hid hDD
  clear hDD
  go_enter Try.func22, Try.ntmps22
  go_upto_region 4 with fail
  change Code.wp _ _ _ _ (tkW w o A c a B d)
  obtain ⟨W0, hW0⟩ : ∃ W0, W0 = tkW w o A c a B d := ⟨_, rfl⟩
  rw [← hW0] at HB0 HO0 HA0 hk0 hs0 ⊢
  clear hW0
  rcases hcase with q7 | ⟨q7, q8⟩ | ⟨q7, q8, q9⟩
  all_goals
    obtain ⟨k0, k1, k2, k3, k4, k5, k6, k7, k8, k9, k10⟩ := op_cells HO0.out
    go_upto_region 24 with (go_at_call 15; (refine (HD.out W0 HB0.out).mono ?_; rw [← HS.out, ← HDD.out]; rintro e w2 hP2; obtain ⟨A2, c2, rfl, hR2, hL2⟩ := DoPost.agg hP2; clear hP2; have HL2 := Lib.hid hL2; have HR2 := Lib.hid hR2; clear hL2 hR2))
    clear k0 k1 k2 k3 k4 k5 k6 k7 k8 k9 k10
    have hb2 := below_alloc (Below.refl _ w2) (.cells (ansC D.e D.fo D.v D.dn D.h (.slice A2 (toS D.ps).length c2) D.c) 26)
    change Code.wp _ _ _ _ (w2.alloc (.cells (ansC D.e D.fo D.v D.dn D.h (.slice A2 (toS D.ps).length c2) D.c) 26))
    have hn2 := heap_alloc_new w2 (.cells (ansC D.e D.fo D.v D.dn D.h (.slice A2 (toS D.ps).length c2) D.c) 26)
    obtain ⟨W2, hW2⟩ : ∃ W2, W2 = w2.alloc (.cells (ansC D.e D.fo D.v D.dn D.h (.slice A2 (toS D.ps).length c2) D.c) 26) := ⟨_, rfl⟩
    rw [← hW2] at hb2 hn2 ⊢
    clear hW2
    have HK2 : Hid (Kept W0 w2 (fun k => k = bn ∨ k = bh)) := Lib.hid (by obtain ⟨_, _, _, _, hK⟩ := HL2.out; exact hK.kept)
    have HA2 := Lib.hid (blk_below (blk_kept HA0.out HK2.out (show ¬ (w.heap.size + 1 = bn ∨ w.heap.size + 1 = bh) by omega)) hb2)
    have HC2 := Lib.hid (HC.out W2 (((Kept.of_below HB0.out _).then_ HK2.out (fun k e => .inl e)).then_ (Kept.of_below hb2 _) (fun k e => .inl e)))
    replace HR2 := Lib.hid (Kd.R_below HR2.out hb2)
    have HN2 := Lib.hid hn2
    have HB2 := Lib.hid hb2
    have hs2 := HK2.out.1
    have hs22 := hb2.size
    have hg2 := blk_lt hn2
    clear hb2 hn2
    obtain ⟨p0, p1, p2, p3, p4, p5, p6⟩ := ans_cells HA2.out
    obtain ⟨n0, n1, n2, n3, n4, n5, n6⟩ := ans_cells HN2.out
    have hcS := sameAns_c a (ansS D) B A2 d c2 W2 HC2.out hd (Kd.R_reads' HR2.out).2.2 (Kd.R_reads' HR2.out).2.1 hm
    obtain ⟨b1, hb1⟩ : ∃ b, b = anEq a (ansS D) := ⟨_, rfl⟩
    rw [← hb1] at hcS HR
    have HCS := Lib.hid hcS
    clear hb1 hcS
    obtain ⟨b2, hb2⟩ : ∃ b, b = anEq a (errS 34) := ⟨_, rfl⟩
    rw [← hb2] at HR
    have HBE := Lib.hid hb2
    clear hb2
    cases b1 with
    | true =>
      go_wp2_with (go_at_call 12; refine HCS.out.mono ?_; rintro e w3 ⟨rfl, hB3⟩; have HB3 := Lib.hid hB3; clear hB3)
      go_ret
      rw [HR.out]
      exact ⟨rfl, (HL2.out.below' (HB2.out.trans (HB3.out.mono HB2.out.size))).base' HB0.out⟩
    | false =>
      cases h33 : (D.e == 33) with
      | false =>
        go_wp2_with (go_at_call 12; refine HCS.out.mono ?_; rintro e w3 ⟨rfl, hB3⟩; have hn3 : w3.cell? ⟨w2.heap.size, 0, none⟩ = some (.int .i64 D.e) := ((cell_below hB3 hg2).trans n0); have HB3 := Lib.hid hB3; clear hB3)
        go_ret
        rw [HR.out]
        exact ⟨by simp [h33], (HL2.out.below' (HB2.out.trans (HB3.out.mono HB2.out.size))).base' HB0.out⟩
      | true =>
        go_wp2_with (first
          | (go_at_call 12; refine HCS.out.mono ?_; rintro e w3 ⟨rfl, hB3⟩; have hn3 : w3.cell? ⟨w2.heap.size, 0, none⟩ = some (.int .i64 D.e) := ((cell_below hB3 hg2).trans n0); have HB3 := Lib.hid hB3; clear hB3)
          | (go_at_call 48; refine (bare_c a B d (w.heap.size + 1) 34 w3 (blk_below HA2.out HB3.out) (Kd.C_below HC2.out HB3.out) hd hm).mono ?_; rw [← HBE.out]; rintro e w4 ⟨rfl, hB4⟩; have HB4 := Lib.hid hB4; clear hB4))
        go_ret
        rw [HR.out]
        exact ⟨by simp [h33], (HL2.out.below' ((HB2.out.trans (HB3.out.mono HB2.out.size)).trans (HB4.out.mono (Nat.le_trans HB2.out.size HB3.out.size)))).base' HB0.out⟩
end Go.Proofs.Ytngocadnbpdnoaa.Mo
namespace Go.Proofs.Ytngocadnbpdnoaa.Mo
open Go Go.Maps Go.RowKit Go.Proofs.Ytngocadnbpdnoaa.Srt Go.Proofs.Ytngocadnbpdnoaa.Q Go.Proofs.YtngocadnbpdnoaaW.PrintWords Go.Proofs.YtngocadnbpdnoaaW.PrintLast Go.Proofs.YtngocadnbpdnoaaW.PrintMore
set_option linter.unusedVariables false
set_option linter.unusedSimpArgs false
set_option maxRecDepth 100000 in
set_option maxHeartbeats 16000000 in
theorem take_snap (o : OpS) (a : AnS) (A B : Option Addr) (c d : Nat)  (f : Nat → Option PL) (N gp bn bh : Nat) (multi : Int) (now : PL) (held : List (Int × PL)) (w : World) (hM : PM w f N gp bn bh multi now held) (hF : Fro w f N) (hN : N + 1 ≤ 1099511627776)
    (hC : ∀ W', Kept w W' (fun k => k = bn ∨ k = bh) → Kd.C k90 W' B a.f5.length a.f5) (hd : a.f5.length ≤ d) (hm : a.f5.length ≤ 4398046511104) (hk : o.f0 = 5) (hu : u64wf a.f4) (r : MS × Bool) (hr : r = if anEq a (errS 32) || anEq a (errS 31) then (⟨multi, now, held⟩, true) else if (fnd held a.f4).isSome || (a.f4 == 0) || !anEq a ⟨0, false, 0, false, a.f4, [], 0⟩ then (⟨multi, now, held⟩, false) else (⟨multi, now, snapHeld a.f4 now held⟩, true)) :
    Calls Try.prog 22 #[.pointer (some ⟨gp, 0, none⟩), .agg (opC o A c), anV a B d] w (TakePost w f N gp bn bh r) := by
  have hgl := hM.gl
  have hnl := hM.now.lt
  have hhl := hM.held.1.lt
  have hb0 := tkW_below w o A c a B d
  have hO0 := tkW_op w o A c a B d
  have hA0 := tkW_ans w o A c a B d
  have hk0 : (tkW w o A c a B d).cell? ⟨w.heap.size, 0, none⟩ = some (.int .u8 o.f0) := (op_cells hO0).1
  have hs0 := tkW_size w o A c a B d
  have HM := Lib.hid hM
  have HF := Lib.hid hF
  have HC := Lib.hid hC
  have HB0 := Lib.hid hb0
  have HO0 := Lib.hid hO0
  have HA0 := Lib.hid hA0
  clear hM hF hC hb0 hO0 hA0
  obtain ⟨s, hs⟩ : ∃ s : MS, s = ⟨multi, now, held⟩ := ⟨_, rfl⟩
  rw [← hs] at hr
  have HS := Lib.hid hs
  have HR := Lib.hid hr
  clear hs hr
  have q : (o.f0 == 2) = false ∧ (o.f0 == 3) = false ∧ (o.f0 == 4) = false ∧ (o.f0 == 5) = true := by rw [hk]; decide
  obtain ⟨q2, q3, q4, q5⟩ := q
  have HU := Lib.hid hu
  clear hk hu
  obtain ⟨b1, hb1⟩ : ∃ b, b = anEq a (errS 32) := ⟨_, rfl⟩
  obtain ⟨b2, hb2⟩ : ∃ b, b = anEq a (errS 31) := ⟨_, rfl⟩
  obtain ⟨b3, hb3⟩ : ∃ b, b = (fnd held a.f4).isSome := ⟨_, rfl⟩
  obtain ⟨b5, hb5⟩ : ∃ b, b = anEq a ⟨0, false, 0, false, a.f4, [], 0⟩ := ⟨_, rfl⟩
  rw [← hb1, ← hb2, ← hb3, ← hb5] at HR
  have HB1 := Lib.hid hb1
  have HB2 := Lib.hid hb2
  have HB3 := Lib.hid hb3
  have HB5 := Lib.hid hb5
  clear hb1 hb2 hb3 hb5
  go_enter Try.func22, Try.ntmps22
  go_upto_region 4 with fail
  change Code.wp _ _ _ _ (tkW w o A c a B d)
  obtain ⟨W0, hW0⟩ : ∃ W0, W0 = tkW w o A c a B d := ⟨_, rfl⟩
  rw [← hW0] at HB0 HO0 HA0 hk0 hs0 ⊢
  clear hW0
  go_wp2_with fail
  go_at_call 48
  refine (bare_c a B d (w.heap.size + 1) 32 W0 HA0.out (HC.out W0 (Kept.of_below HB0.out _)) hd hm).mono ?_
  rw [← HB1.out]
  rintro e w1 ⟨rfl, hB1⟩
  have HW1 := Lib.hid (HB0.out.trans (hB1.mono HB0.out.size))
  have HA1 := Lib.hid (blk_below HA0.out hB1)
  clear hB1
  cases b1 with
  | true =>
    go_wp2_with fail
    go_ret
    obtain rfl : r = (s, true) := by rw [HR.out]; simp
    rw [HS.out]
    exact ⟨rfl, left_same HM.out HF.out HW1.out (by omega)⟩
  | false =>
    go_wp2_with fail
    go_at_call 48
    refine (bare_c a B d (w.heap.size + 1) 31 w1 HA1.out (HC.out w1 (Kept.of_below HW1.out _)) hd hm).mono ?_
    rw [← HB2.out]
    rintro e w2 ⟨rfl, hB2⟩
    have HW2 := Lib.hid (HW1.out.trans (hB2.mono HW1.out.size))
    have HA2 := Lib.hid (blk_below HA1.out hB2)
    clear hB2
    cases b2 with
    | true =>
      go_wp2_with fail
      go_ret
      obtain rfl : r = (s, true) := by rw [HR.out]; simp
      rw [HS.out]
      exact ⟨rfl, left_same HM.out HF.out HW2.out (by omega)⟩
    | false =>
      obtain ⟨v, hv, hrun⟩ := held_look (HM.out.held.kept (Kept.of_below (below_drew HW2.out) (fun _ => False)) (fun e => e)) HU.out
      have hc2 := (HM.out.kept (Kept.of_below (below_drew HW2.out) (fun _ => False)) (fun e => e) (fun e => e) (fun e => e)).c2
      have hca : w2.drew.cell? ⟨w.heap.size + 1, 4, none⟩ = some (.int .u64 a.f4) := (ans_cells HA2.out).2.2.2.2.1
      rw [← HB3.out] at hrun
      have HV := Lib.hid hv
      clear hv
      go_upto_region 13 with fail
      go_region_held3 (fun w' => w'.cell? ⟨gp, 2, none⟩ = some (.map (some bh)) ∧ w'.cell? ⟨w.heap.size + 1, 4, none⟩ = some (.int .u64 a.f4) ∧ (Instr.lookup 98 (.map (some bh)) (.int .u64 a.f4) true).run Try.prog w' = .ok (.tuple #[v, .bool b3]) w')
        (first | go_keep | exact ⟨hc2, hca, hrun⟩)
        (first | fail | fail)
      clear hc2 hca hrun
      have hA2 : w2.drew.heap[w.heap.size + 1]? = some (.cells (ansC a.f0 a.f1 a.f2 a.f3 a.f4 (.slice B a.f5.length d) a.f6) 26 (0, 0)) := HA2.out
      have hlt2 : w.heap.size + 1 < w2.drew.heap.size := blk_lt hA2
      obtain ⟨p0, p1, p2, p3, p4, p5, p6⟩ := ans_cells hA2
      have HD2 := Lib.hid (below_drew HW2.out)
      clear HA1 HA2
      have HA2 := Lib.hid hA2
      clear hA2
      obtain ⟨W2, hW2⟩ : ∃ W2, W2 = w2.drew := ⟨_, rfl⟩
      rw [← hW2] at p0 p1 p2 p3 p4 p5 p6 HD2 HA2 hlt2 ⊢
      clear hW2
      cases b3 with
      | true =>
        go_wp2_with fail
        go_ret
        obtain rfl : r = (s, false) := by rw [HR.out]; simp
        rw [HS.out]
        exact ⟨rfl, left_same HM.out HF.out HD2.out (by omega)⟩
      | false =>
        cases h0 : (a.f4 == 0) with
        | true =>
          go_wp2_with fail
          go_ret
          obtain rfl : r = (s, false) := by rw [HR.out]; simp [h0]
          rw [HS.out]
          exact ⟨rfl, left_same HM.out HF.out HD2.out (by omega)⟩
        | false =>
          have hcS := sameAns_c a ⟨0, false, 0, false, a.f4, [], 0⟩ B none d 0 W2 (HC.out W2 (Kept.of_below HD2.out _)) hd (Kd.C_nil _ _) (Nat.le_refl _) hm
          rw [← HB5.out] at hcS
          cases b5 with
          | false =>
            go_wp2_with (go_at_call 12; refine hcS.mono ?_; rintro e w3 ⟨rfl, hB3⟩; have HD3 := Lib.hid (HD2.out.trans (hB3.mono HD2.out.size)); clear hB3)
            go_ret
            obtain rfl : r = (s, false) := by rw [HR.out]; simp [h0]
            rw [HS.out]
            exact ⟨rfl, left_same HM.out HF.out HD3.out (by omega)⟩
          | true =>
            go_wp2_with (first
              | (go_at_call 12; refine hcS.mono ?_; rintro e w3 ⟨rfl, hB3⟩; have HD3 := Lib.hid (HD2.out.trans (hB3.mono HD2.out.size)); have p43 : w3.cell? ⟨w.heap.size + 1, 4, none⟩ = some (.int .u64 a.f4) := (cell_below hB3 hlt2).trans p4; clear hB3)
              | (go_at_call 36; refine (snapshot_c f N gp bn bh multi now held a.f4 w3 (HM.out.kept (Kept.of_below HD3.out (fun _ => False)) (fun e => e) (fun e => e) (fun e => e)) (HF.out.kept (Kept.of_below HD3.out (fun _ => False)) (fun _ _ _ e => e)) HU.out (by omega)).mono ?_; rintro e w4 ⟨rfl, hL4⟩; have HL4 := Lib.hid (hL4.base HD3.out (fun k e => (.inr e : k = bn ∨ k = bh))); clear hL4; rw [show snapAns a.f4 held = ansV 0 false 0 false a.f4 (.slice none 0 0) 0 by unfold snapAns; rw [← HB3.out]; rfl]))
            go_ret
            obtain rfl : r = (⟨multi, now, snapHeld a.f4 now held⟩, true) := by rw [HR.out]; simp [h0]
            obtain ⟨f', hE, hP, hF, hK⟩ := HL4.out
            exact ⟨rfl, f', hE, hP.mono (by omega), hF.mono (by omega), hK⟩
end Go.Proofs.Ytngocadnbpdnoaa.Mo
namespace Go.Proofs.Ytngocadnbpdnoaa.Q
open Go.RowKit Go.Proofs.YtngocadnbpdnoaaW.PrintWords Go.Proofs.YtngocadnbpdnoaaW.PrintLast Go.Proofs.YtngocadnbpdnoaaW.PrintMore
attribute [local go_sem] max2_int min2_int max_two min_two max_three min_three max_four min_four   -- for this text's walks alone
set_option linter.unusedVariables false
set_option linter.unusedSimpArgs false

attribute [local go_sem high] eqA90
def shuttermem_SamePairs.l0 : Nat → List (S90) → List (S90) → Int → Option (Bool)
  | 0, _, _, _ => none
  | k + 1, x0, x1, x5 => if x5 < (x0.length : Int) then (if 0 ≤ x5 then (if x5 < (x1.length : Int) then (if (!(((rd_T90 x0 x5).f0) == ((rd_T90 x1 x5).f0)) || (!(((rd_T90 x0 x5).f1) == ((rd_T90 x1 x5).f1)))) = true then (some false) else (shuttermem_SamePairs.l0 k x0 x1 (wrap64 (x5 + 1)))) else (none)) else (none)) else (some true)
def shuttermem_SamePairs.f (k : Nat) (l0 : List (S90)) (l1 : List (S90)) : Option (Bool) := if (l0.length : Int) = (l1.length : Int) then (shuttermem_SamePairs.l0 k l0 l1 0) else (some false)
theorem shuttermem_SamePairs.mono_l : ∀ k, (∀ y0 y1 y2, LeO (shuttermem_SamePairs.l0 k y0 y1 y2) (shuttermem_SamePairs.l0 (k + 1) y0 y1 y2))
  | 0 => fun _ _ _ r h => by simp [shuttermem_SamePairs.l0] at h
  | k + 1 => by
    have ih0 := shuttermem_SamePairs.mono_l k
    · intro y0 y1 y2
      unfold shuttermem_SamePairs.l0
      repeat' first
      | (with_reducible exact ih0 _ _ _)
      | (with_reducible exact LeO.refl _)
      | (with_reducible exact LeO.none _)
      | (with_reducible refine LeO.ite ?_ ?_)
      | (with_reducible refine LeO.bind ?_ (fun _ => ?_))
      | exact ih0 _ _ _
      | exact LeO.none _
      | refine LeO.ite ?_ ?_
      | refine LeO.bind ?_ (fun _ => ?_)
theorem shuttermem_SamePairs.mono : ∀ a0 a1 k, LeO (shuttermem_SamePairs.f k a0 a1) (shuttermem_SamePairs.f (k + 1) a0 a1) := by
  intro a0 a1 k
  have ih0 := shuttermem_SamePairs.mono_l k
  unfold shuttermem_SamePairs.f
  repeat' first
      | (with_reducible exact ih0 _ _ _)
      | (with_reducible exact LeO.refl _)
      | (with_reducible exact LeO.none _)
      | (with_reducible refine LeO.ite ?_ ?_)
      | (with_reducible refine LeO.bind ?_ (fun _ => ?_))
      | exact ih0 _ _ _
      | exact LeO.none _
      | refine LeO.ite ?_ ?_
      | refine LeO.bind ?_ (fun _ => ?_)
set_option maxHeartbeats 8000000 in
set_option maxRecDepth 100000 in
theorem shuttermem_SamePairs.calls (k : Nat) (A0 : Option Addr) (c0 : Nat) (l0 : List (S90)) (A1 : Option Addr) (c1 : Nat) (l1 : List (S90)) (r : Bool) (w : World) (hr0 : Kd.C k90 w A0 l0.length l0) (hc0 : l0.length ≤ c0) (hr1 : Kd.C k90 w A1 l1.length l1) (hc1 : l1.length ≤ c1) (h : shuttermem_SamePairs.f k l0 l1 = some r) :
    Calls Try.prog 18 #[.slice A0 l0.length c0, .slice A1 l1.length c1] w fun e w' => e = .returned (.bool r) ∧ Drawn0 w w' := by
  have hu90 := Try.underlying90
  have HR0 := Aside0.mk hr0
  have HC0 := Aside0.mk hc0
  clear hr0 hc0
  have HR1 := Aside0.mk hr1
  have HC1 := Aside0.mk hc1
  clear hr1 hc1
  have H : (if (l0.length : Int) = (l1.length : Int) then (shuttermem_SamePairs.l0 k l0 l1 0) else (some false)) = some r := h
  clear h
  by_cases c3 : (l0.length : Int) = (l1.length : Int)
  · rw [if_pos c3] at H
    have c3b0 : ((l0.length : Int) == (l1.length : Int)) = true := beq_iff_eq.mpr c3
    have c3b1 : ((l0.length : Int) != (l1.length : Int)) = false := bne_eq_false_iff_eq.mpr c3
    have c3b2 : (l0.length == l1.length) = true := by first | simpa using c3 | (simp at c3 ⊢; omega)
    clear c3
    have H' := Aside0.mk H
    clear H
    go_enter Try.func18, Try.ntmps18
    go_wp2
    repeat (go_quiet (fail); try go_wp2)
    go_loopg [5] k (fun kq v5 w' => ∃ (x5_1 : Int), v5 = .int .i64 x5_1 ∧ Aside0 (shuttermem_SamePairs.l0 kq l0 l1 x5_1 = some r) ∧ Aside0 (kq ≤ k) ∧ Drawn0 w w')
    case atStart => exact ⟨(0), (by first | rfl | (simp; done) | (simp [*]; done)), H', ⟨Nat.le_refl _⟩, by repeat (first | exact Drawn0.refl _ | apply Drawn0.step)⟩
    case round =>
      clear H'
      try clear c1
      try clear p2
      try clear c3
      try clear c3b0
      try clear c3b1
      try clear c3b2
      obtain ⟨x5_1, rfl, HA, HK1, ⟨m1, rfl⟩⟩ := hrel
      cases gk with
      | zero => exact absurd HA.out (by simp [shuttermem_SamePairs.l0])
      | succ k1 =>
        have H := HA.out
        clear HA
        simp only [shuttermem_SamePairs.l0] at H
        by_cases c4 : x5_1 < (l0.length : Int)
        · rw [if_pos c4] at H
          have c4b0 : decide (x5_1 < (l0.length : Int)) = true := decide_eq_true c4
          clear c4
          by_cases c5 : 0 ≤ x5_1
          · rw [if_pos c5] at H
            have c5b0 : decide (0 ≤ x5_1) = true := decide_eq_true c5
            clear c5
            by_cases c6 : x5_1 < (l1.length : Int)
            · rw [if_pos c6] at H
              have c6b0 : decide (x5_1 < (l1.length : Int)) = true := decide_eq_true c6
              clear c6
              by_cases c7 : (!(((rd_T90 l0 x5_1).f0) == ((rd_T90 l1 x5_1).f0)) || (!(((rd_T90 l0 x5_1).f1) == ((rd_T90 l1 x5_1).f1)))) = true
              · rw [if_pos c7] at H
                have c7b0 : (!(((rd_T90 l0 x5_1).f0) == ((rd_T90 l1 x5_1).f0)) || (!(((rd_T90 l0 x5_1).f1) == ((rd_T90 l1 x5_1).f1)))) = true := c7
                clear c7
                obtain rfl := Option.some.inj H
                have p111 : 0 ≤ (x5_1 : Int) := of_decide_eq_true (by first | (with_reducible assumption) | assumption)
                have q111 : x5_1 < (l0.length : Int) := of_decide_eq_true (by first | (with_reducible assumption) | assumption)
                obtain ⟨ad111, e111, hx111_0, hx111_1⟩ := at_T90 HR0.out x5_1 p111 q111
                cases e111
                replace p111 := eq_true p111
                replace q111 := eq_true q111
                have p112 : 0 ≤ (x5_1 : Int) := of_decide_eq_true (by first | (with_reducible assumption) | assumption)
                have q112 : x5_1 < (l1.length : Int) := of_decide_eq_true (by first | (with_reducible assumption) | assumption)
                obtain ⟨ad112, e112, hx112_0, hx112_1⟩ := at_T90 HR1.out x5_1 p112 q112
                cases e112
                replace p112 := eq_true p112
                replace q112 := eq_true q112
                go_wp2
                repeat (go_quiet (fail); try go_wp2)
                go_ret
                exact ⟨by first | rfl | (simp; done) | (simp [*]; done), by repeat (first | exact Drawn0.refl _ | apply Drawn0.step)⟩
              · rw [if_neg c7] at H
                have c7b0 : (!(((rd_T90 l0 x5_1).f0) == ((rd_T90 l1 x5_1).f0)) || (!(((rd_T90 l0 x5_1).f1) == ((rd_T90 l1 x5_1).f1)))) = false := by simpa using c7
                clear c7
                have H' := Aside0.mk H
                clear H
                have p111 : 0 ≤ (x5_1 : Int) := of_decide_eq_true (by first | (with_reducible assumption) | assumption)
                have q111 : x5_1 < (l0.length : Int) := of_decide_eq_true (by first | (with_reducible assumption) | assumption)
                obtain ⟨ad111, e111, hx111_0, hx111_1⟩ := at_T90 HR0.out x5_1 p111 q111
                cases e111
                replace p111 := eq_true p111
                replace q111 := eq_true q111
                have p112 : 0 ≤ (x5_1 : Int) := of_decide_eq_true (by first | (with_reducible assumption) | assumption)
                have q112 : x5_1 < (l1.length : Int) := of_decide_eq_true (by first | (with_reducible assumption) | assumption)
                obtain ⟨ad112, e112, hx112_0, hx112_1⟩ := at_T90 HR1.out x5_1 p112 q112
                cases e112
                replace p112 := eq_true p112
                replace q112 := eq_true q112
                go_wp2
                repeat (go_quiet (fail); try go_wp2)
                go_roundg k1
                case measure => have := HK1.out; omega
                case rel => exact ⟨(wrap64 (x5_1 + 1)), (by first | rfl | (simp; done) | (simp [*]; done)), H', ⟨by have := HK1.out; omega⟩, by repeat (first | exact Drawn0.refl _ | apply Drawn0.step)⟩
            · rw [if_neg c6] at H
              exact absurd H (by simp)
          · rw [if_neg c5] at H
            exact absurd H (by simp)
        · rw [if_neg c4] at H
          have c4b0 : decide (x5_1 < (l0.length : Int)) = false := decide_eq_false c4
          clear c4
          obtain rfl := Option.some.inj H
          go_wp2
          repeat (go_quiet (fail); try go_wp2)
          go_ret
          exact ⟨by first | rfl | (simp; done) | (simp [*]; done), by repeat (first | exact Drawn0.refl _ | apply Drawn0.step)⟩
  · rw [if_neg c3] at H
    have c3b0 : ((l0.length : Int) == (l1.length : Int)) = false := beq_eq_false_iff_ne.mpr c3
    have c3b1 : ((l0.length : Int) != (l1.length : Int)) = true := bne_iff_ne.mpr c3
    have c3b2 : (l0.length == l1.length) = false := by first | simpa using c3 | (simp at c3 ⊢; omega)
    obtain rfl := Option.some.inj H
    go_enter Try.func18, Try.ntmps18
    go_wp2
    repeat (go_quiet (fail); try go_wp2)
    go_ret
    exact ⟨by first | rfl | (simp; done) | (simp [*]; done), by repeat (first | exact Drawn0.refl _ | apply Drawn0.step)⟩

end Go.Proofs.Ytngocadnbpdnoaa.Q
namespace Go.Proofs.Ytngocadnbpdnoaa.Mo
open Go Go.Maps Go.RowKit Go.Proofs.Ytngocadnbpdnoaa.Srt Go.Proofs.Ytngocadnbpdnoaa.Q Go.Proofs.YtngocadnbpdnoaaW.PrintWords Go.Proofs.YtngocadnbpdnoaaW.PrintLast Go.Proofs.YtngocadnbpdnoaaW.PrintMore
set_option linter.unusedVariables false
set_option linter.unusedSimpArgs false
def dk (now : PL) (o : OpS) : PL := if o.f0 = 2 then put now o.f1 o.f2 else if o.f0 = 3 then del now o.f1 else if fnd now o.f1 = some o.f3 then put now o.f1 o.f2 else now
def isK (o : OpS) : Prop := 2 ≤ o.f0 ∧ o.f0 ≤ 4
instance (o : OpS) : Decidable (isK o) := by unfold isK; infer_instance
def selK (d : Int) (o : OpS) : Prop := isK o ∧ o.f1.tmod 2 = d
instance (d : Int) (o : OpS) : Decidable (selK d o) := by unfold selK; infer_instance
/-- Two models in one world. -/
structure Two (w wr : World) (f : Nat → Option PL) (N ga na ha gb nb hb : Nat) (m : Int) (now now2 : PL) : Prop where
  a : PM wr f N ga na ha m now []
  b : PM wr f N gb nb hb m now2 []
  fro : Fro wr f N
  ko : KO w wr (fun _ => False)
theorem Two.mono {w wr : World} {f : Nat → Option PL} {N N' ga na ha gb nb hb : Nat} {m : Int} {now now2 : PL} (h : Two w wr f N ga na ha gb nb hb m now now2) (hn : N ≤ N') : Two w wr f N' ga na ha gb nb hb m now now2 := ⟨h.a.mono hn, h.b.mono hn, h.fro.mono hn, h.ko⟩
theorem Two.below {w wr W : World} {f : Nat → Option PL} {N ga na ha gb nb hb : Nat} {m : Int} {now now2 : PL} (h : Two w wr f N ga na ha gb nb hb m now now2) (hB : Below wr.heap.size wr W) : Two w W f N ga na ha gb nb hb m now now2 :=
  ⟨h.a.kept (Kept.of_below hB (fun _ => False)) (fun e => e) (fun e => e) (fun e => e), h.b.kept (Kept.of_below hB (fun _ => False)) (fun e => e) (fun e => e) (fun e => e), h.fro.kept (Kept.of_below hB (fun _ => False)) (fun _ _ _ e => e), h.ko.below hB⟩
theorem heapP : Kd.Heap k90 := Kd.heap_iso _ (Kd.heap_pair (Kd.heap_int _) (Kd.heap_int _))
end Go.Proofs.Ytngocadnbpdnoaa.Mo
namespace Go.Proofs.Ytngocadnbpdnoaa.Open
open Go.RowKit Go.Proofs.YtngocadnbpdnoaaW.PrintWords Go.ChangeShapes Go.WideShapes
set_option linter.unusedVariables false
/-- Whatever is read as data of type t is of kind d, of a size B that the reading's bulk bounds, and meets wf. -/
def Opens {α : Type} (P : Program) (d : Kd α) (t : TypeId) (B : α → Nat) (wf : α → Prop) : Prop :=
  ∀ {H : Type} {enc : TypeId × Value → H} {w : World} {base : Nat} {held : Bool} {fuel : Nat} {cs : List Value} {x : DataW H × List MemPlace},
    DataW.trod enc P w base (fun _ => true) held fuel t cs = some x → ∃ a, d.K w a cs ∧ B a ≤ Rows.uptoBulk x.1 ∧ wf a
theorem bulk_pos {H : Type} (d : DataW H) : 1 ≤ Rows.uptoBulk d := by
  cases d with
  | lit l => cases l <;> simp [Rows.uptoBulk]
  | _ => simp [Rows.uptoBulk]
theorem opens_int {P : Program} {t : TypeId} {k : IntKind} (ht : P.underlying t = some (.int k)) : Opens P (Kd.int k) t (fun _ => 1) (fun n => (Lit.int k n).wf = true) := by
  intro H enc w base held fuel cs x h
  obtain ⟨n, rfl, rfl, hw⟩ := DataW.trod_int ht h
  exact ⟨n, rfl, bulk_pos _, hw⟩
theorem opens_bool {P : Program} {t : TypeId} (ht : P.underlying t = some .bool) : Opens P Kd.bool t (fun _ => 1) (fun _ => True) := by
  intro H enc w base held fuel cs x h
  obtain ⟨b, rfl, rfl⟩ := DataW.trod_bool ht h
  exact ⟨b, rfl, bulk_pos _, trivial⟩
theorem bulkAll_sum {H : Type} (l : List (DataW H)) : Rows.uptoBulkAll l = (l.map Rows.uptoBulk).sum := by
  induction l with
  | nil => simp [Rows.uptoBulkAll]
  | cons a l ih => simp [Rows.uptoBulkAll, ih]
theorem cells_at {w : World} {base : Nat} {a : Addr} {n : Nat} {cs : List Value} (h : w.cells? base a n = some cs) : cs.length = n ∧ ∀ j u, cs[j]? = some u → w.cell? (a.add j) = some u := by
  obtain ⟨_, h1, h2⟩ := World.cells?_some h
  refine ⟨h1, fun j u hu => ?_⟩
  have hj : j < n := by have := (List.getElem?_eq_some_iff.1 hu).1; omega
  rw [h2 j hj, hu]
theorem sum_le_sum {α : Type} {f g : α → Nat} : ∀ (l : List α), (∀ x ∈ l, f x ≤ g x) → (l.map f).sum ≤ (l.map g).sum
  | [], _ => by simp
  | a :: l, h => by
    have h1 := h a (by simp)
    have h2 := sum_le_sum l (fun x hx => h x (by simp [hx]))
    simp only [List.map_cons, List.sum_cons]
    omega
theorem opens_slice {α : Type} {P : Program} {d : Kd α} {t e : TypeId} {B : α → Nat} {wf : α → Prop} (ht : P.underlying t = some (.slice e)) (hsz : P.cellsOf e = d.sz) (hd : Opens P d e B wf) :
    Opens P (Kd.slice e d) t (fun xs => (xs.map B).sum + 1) (fun xs => ∀ x ∈ xs, wf x) := by
  intro H enc w base held fuel cs x h
  rcases Deep.open_slice ht h with ⟨rfl, rfl⟩ | ⟨a, len, cap, m, n, D, Pl, rfl, hb, hl, hm, hmm, rfl, hel⟩
  · exact ⟨[], ⟨none, 0, rfl, Nat.le_refl _, rfl, by simp, fun h => absurd h (by simp)⟩, bulk_pos _, fun x hx => by cases hx⟩
  · rw [if_pos rfl] at hmm
    subst hmm
    have hx : ∀ i, i < len → ∃ y : α, (∃ c, c.length = d.sz ∧ d.K w y c ∧ ∀ j u, c[j]? = some u → w.cell? (a.add (i * d.sz + j)) = some u) ∧ B y ≤ Rows.uptoBulk (D i) ∧ wf y := by
      intro i hi
      obtain ⟨cs', hc, ht'⟩ := hel i (by omega)
      obtain ⟨y, hk, hB, hw⟩ := hd ht'
      obtain ⟨h1, h2⟩ := cells_at hc
      rw [hsz] at h1
      refine ⟨y, ⟨cs', h1, hk, fun j u hu => ?_⟩, hB, hw⟩
      rw [← Deep.add_add, ← hsz]
      exact h2 j u hu
    rcases Nat.eq_zero_or_pos len with h0 | h0
    · subst h0
      exact ⟨[], ⟨some a, m, rfl, Nat.zero_le _, rfl, by simp, fun h => absurd h (by simp)⟩, bulk_pos _, fun x hx => by cases hx⟩
    haveI : Inhabited α := ⟨(hx 0 h0).choose⟩
    obtain ⟨f, hf⟩ := Deep.choose_lt hx
    refine ⟨(List.range len).map f, ⟨some a, m, ?_, by simpa using hl, ?_⟩, ?_, ?_⟩
    · simp
    · refine ⟨by simp, by simp; unfold maxLen at hm; omega, fun _ => ⟨a, rfl, fun j p hj => ?_⟩⟩
      rw [List.getElem?_map] at hj
      have hjl : j < len := by
        rcases Nat.lt_or_ge j len with h | h
        · exact h
        · rw [List.getElem?_eq_none (by simpa using h)] at hj
          cases hj
      rw [List.getElem?_range hjl] at hj
      obtain rfl : f j = p := by simpa using hj
      obtain ⟨⟨c, h1, h2, h3⟩, _⟩ := hf j hjl
      exact ⟨c, h1, h2, h3⟩
    · simp only [Rows.uptoBulk, bulkAll_sum, List.map_map]
      have := sum_le_sum (f := fun i => B (f i)) (g := fun i => Rows.uptoBulk (D i)) (List.range len) (fun i hi => (hf i (by simpa using hi)).2.1)
      simp only [Function.comp_def]
      omega
    · intro y hy
      obtain ⟨i, hi, rfl⟩ := List.mem_map.1 hy
      exact (hf i (by simpa using hi)).2.2
/-- The fields fs of a struct, from the offset off on. -/
def OpensFs {α : Type} (P : Program) (d : Kd α) (fs : List Field) (off : Nat) (B : α → Nat) (wf : α → Prop) : Prop :=
  ∀ {H : Type} {enc : TypeId × Value → H} {w : World} {base : Nat} {held : Bool} {n : Nat} {cs : List Value} {xs : List (DataW H × List MemPlace)},
    xs.length = fs.length → cs.length = off + d.sz → (∀ (i : Nat) (f : Field), fs[i]? = some f → DataW.trod enc P w base (fun _ => true) held n f.type ((cs.drop f.offset).take (P.cellsOf f.type)) = xs[i]?) →
    ∃ a, d.K w a (cs.drop off) ∧ B a ≤ (xs.map fun x => Rows.uptoBulk x.1).sum ∧ wf a
theorem opens_last {α : Type} {P : Program} {d : Kd α} {f : Field} {off : Nat} {B : α → Nat} {wf : α → Prop} (hd : Opens P d f.type B wf) (ho : f.offset = off) (hsz : P.cellsOf f.type = d.sz) : OpensFs P d [f] off B wf := by
  intro H enc w base held n cs xs hl hc h
  match xs, hl with
  | [y], _ =>
    have h0 := h 0 f rfl
    rw [ho, hsz, List.take_of_length_le (by rw [List.length_drop]; omega)] at h0
    obtain ⟨a, h1, h2, h3⟩ := hd (x := y) h0
    exact ⟨a, h1, by simpa using h2, h3⟩
theorem opens_cons {α β : Type} {P : Program} {d : Kd α} {d' : Kd β} {f : Field} {fs : List Field} {off : Nat} {B : α → Nat} {B' : β → Nat} {wf : α → Prop} {wf' : β → Prop} (hd : Opens P d f.type B wf) (ho : f.offset = off) (hsz : P.cellsOf f.type = d.sz)
    (hs : OpensFs P d' fs (off + d.sz) B' wf') : OpensFs P (Kd.pair d d') (f :: fs) off (fun x => B x.1 + B' x.2) (fun x => wf x.1 ∧ wf' x.2) := by
  intro H enc w base held n cs xs hl hc h
  match xs, hl with
  | y :: ys, hl =>
    have hc' : cs.length = off + (d.sz + d'.sz) := hc
    have h0 := h 0 f rfl
    rw [ho, hsz] at h0
    obtain ⟨a, h1, h2, h3⟩ := hd (x := y) h0
    obtain ⟨b, h4, h5, h6⟩ := hs (enc := enc) (w := w) (base := base) (held := held) (n := n) (cs := cs) (xs := ys) (by simpa using hl) (by omega) (fun i g hg => h (i + 1) g hg)
    refine ⟨(a, b), ⟨_, _, ?_, h1, h4⟩, by simp only [List.map_cons, List.sum_cons]; omega, h3, h6⟩
    rw [← List.drop_drop, List.take_append_drop]
theorem opens_struct {α β : Type} {P : Program} {d : Kd α} {t : TypeId} {fs : Array Field} {B : α → Nat} {wf : α → Prop} (g : β → α) (g' : α → β) (hg : ∀ a, g (g' a) = a) (ht : P.underlying t = some (.struct fs)) (hsz : P.cellsOf t = d.sz) (hs : OpensFs P d fs.toList 0 B wf) :
    Opens P (Kd.iso d g) t (fun x => B (g x) + 1) (fun x => wf (g x)) := by
  intro H enc w base held fuel cs x h
  obtain ⟨xs, n, _, rfl, hl, hlen, hf⟩ := DataW.trod_struct ht h
  obtain ⟨a, h1, h2, h3⟩ := hs (enc := enc) (w := w) (base := base) (held := held) (n := n) (cs := cs) (xs := xs) (by simpa using hlen) (by omega) (fun i f hi => hf i f (by simpa using hi))
  refine ⟨g' a, ?_, ?_, ?_⟩
  · show d.K w (g (g' a)) cs
    rw [hg]
    simpa using h1
  · show B (g (g' a)) + 1 ≤ _
    rw [hg]
    simp only [Rows.uptoBulk, bulkAll_sum, List.map_map]
    simp only [Function.comp_def]
    omega
  · show wf (g (g' a))
    rw [hg]
    exact h3
end Go.Proofs.Ytngocadnbpdnoaa.Open
namespace Go.Proofs.Ytngocadnbpdnoaa.Mo
open Go Go.RowKit Go.Proofs.Ytngocadnbpdnoaa.Q Go.Proofs.YtngocadnbpdnoaaW.PrintWords Go.Proofs.YtngocadnbpdnoaaW.PrintLast Go.Proofs.YtngocadnbpdnoaaW.PrintMore Go.Proofs.Ytngocadnbpdnoaa.Open
set_option linter.unusedVariables false
def wfP (p : SP) : Prop := (Lit.int .u64 p.f0).wf = true ∧ (Lit.int .u64 p.f1).wf = true
def BP : SP → Nat := fun x => 1 + 1 + 1
theorem opensP : Opens Try.prog k90 90 BP wfP := by
  intro H enc w base held fuel cs x h
  obtain ⟨a, h1, h2, h3⟩ := opens_struct (g := fun x : SP => (x.f0, x.f1)) (fun a => ⟨a.1, a.2⟩) (fun _ => rfl) Try.underlying90 (by kernel_rfl) (opens_cons (opens_int Try.underlying23) rfl (by kernel_rfl) (opens_last (opens_int Try.underlying23) rfl (by kernel_rfl))) h
  exact ⟨a, h1, h2, h3⟩
def wfA (a : AnS) : Prop := ((Lit.int .i64 a.f0).wf = true ∧ True ∧ (Lit.int .u64 a.f2).wf = true ∧ True ∧ (Lit.int .u64 a.f4).wf = true ∧ (∀ x ∈ a.f5, wfP x) ∧ (Lit.int .u64 a.f6).wf = true)
def BA : AnS → Nat := fun a => 1 + (1 + (1 + (1 + (1 + (((a.f5.map BP).sum + 1) + 1))))) + 1
theorem opensA : Opens Try.prog k26 26 BA wfA := by
  intro H enc w base held fuel cs x h
  obtain ⟨a, h1, h2, h3⟩ := opens_struct (g := fun x : AnS => (x.f0, x.f1, x.f2, x.f3, x.f4, x.f5, x.f6)) (fun a => ⟨a.1, a.2.1, a.2.2.1, a.2.2.2.1, a.2.2.2.2.1, a.2.2.2.2.2.1, a.2.2.2.2.2.2⟩) (fun _ => rfl) Try.underlying26 (by kernel_rfl)
    (opens_cons (opens_int Try.underlying22) rfl (by kernel_rfl) (opens_cons (opens_bool Try.underlying4) rfl (by kernel_rfl) (opens_cons (opens_int Try.underlying23) rfl (by kernel_rfl) (opens_cons (opens_bool Try.underlying4) rfl (by kernel_rfl) (opens_cons (opens_int Try.underlying23) rfl (by kernel_rfl) (opens_cons (opens_slice Try.underlying24 (by kernel_rfl) opensP) rfl (by kernel_rfl) (opens_last (opens_int Try.underlying23) rfl (by kernel_rfl)))))))) h
  exact ⟨a, h1, h2, h3⟩
theorem BP_sum (l : List SP) : (l.map BP).sum = 3 * l.length := by
  induction l with
  | nil => rfl
  | cons a l ih => simp only [List.map_cons, List.sum_cons, ih, List.length_cons, BP]; omega
theorem BA_len (a : AnS) : a.f5.length ≤ BA a := by
  unfold BA
  rw [BP_sum]
  omega
end Go.Proofs.Ytngocadnbpdnoaa.Mo
namespace Go.Proofs.Ytngocadnbpdnoaa.Mo
open Go Go.RowKit Go.Proofs.Ytngocadnbpdnoaa.Q Go.Proofs.YtngocadnbpdnoaaW.PrintWords Go.Proofs.YtngocadnbpdnoaaW.PrintLast Go.Proofs.YtngocadnbpdnoaaW.PrintMore Go.Proofs.Ytngocadnbpdnoaa.Open
set_option linter.unusedVariables false
set_option linter.unusedSimpArgs false
theorem opensFence : Opens Try.prog k36 36 (fun _ => 1 + (1 + 1) + 1) (fun _ => True) := by
  intro H enc w base held fuel cs x h
  obtain ⟨a, h1, h2, h3⟩ := opens_struct (g := fun x : S36 => (x.f0, x.f1, x.f2)) (fun a => ⟨a.1, a.2.1, a.2.2⟩) (fun _ => rfl) Try.underlying36 (by kernel_rfl) (opens_cons (opens_bool Try.underlying4) rfl (by kernel_rfl) (opens_cons (opens_int Try.underlying3) rfl (by kernel_rfl) (opens_last (opens_int Try.underlying3) rfl (by kernel_rfl)))) h
  exact ⟨a, h1, h2, trivial⟩
def wfO (x : OpS) : Prop := (Lit.int .u8 x.f0).wf = true ∧ (Lit.int .u64 x.f1).wf = true ∧ (Lit.int .u64 x.f2).wf = true ∧ (Lit.int .u64 x.f3).wf = true ∧ (Lit.int .u64 x.f4).wf = true ∧ True ∧ (∀ y ∈ x.f6, (Lit.int .u64 y).wf = true) ∧ (Lit.int .u64 x.f7).wf = true ∧ (Lit.int .u64 x.f8).wf = true
def BO (x : OpS) : Nat := 1 + (1 + (1 + (1 + (1 + ((1 + (1 + 1) + 1) + (((x.f6.map (fun _ => 1)).sum + 1) + (1 + 1))))))) + 1
theorem opensO : Opens Try.prog k39 39 BO wfO := by
  intro H enc w base held fuel cs x h
  obtain ⟨a, h1, h2, h3⟩ := opens_struct (g := fun x : OpS => (x.f0, x.f1, x.f2, x.f3, x.f4, x.f5, x.f6, x.f7, x.f8)) (fun a => ⟨a.1, a.2.1, a.2.2.1, a.2.2.2.1, a.2.2.2.2.1, a.2.2.2.2.2.1, a.2.2.2.2.2.2.1, a.2.2.2.2.2.2.2.1, a.2.2.2.2.2.2.2.2⟩) (fun _ => rfl) Try.underlying39 (by kernel_rfl)
    (opens_cons (opens_int Try.underlying34) rfl (by kernel_rfl) (opens_cons (opens_int Try.underlying23) rfl (by kernel_rfl) (opens_cons (opens_int Try.underlying23) rfl (by kernel_rfl) (opens_cons (opens_int Try.underlying23) rfl (by kernel_rfl) (opens_cons (opens_int Try.underlying23) rfl (by kernel_rfl) (opens_cons opensFence rfl (by kernel_rfl) (opens_cons (opens_slice Try.underlying37 (by kernel_rfl) (opens_int Try.underlying23)) rfl (by kernel_rfl) (opens_cons (opens_int Try.underlying23) rfl (by kernel_rfl) (opens_last (opens_int Try.underlying23) rfl (by kernel_rfl)))))))))) h
  exact ⟨a, h1, h2, h3⟩
end Go.Proofs.Ytngocadnbpdnoaa.Mo
namespace Go.Proofs.Ytngocadnbpdnoaa.Mo
open Go Go.RowKit Go.Proofs.Ytngocadnbpdnoaa.Q Go.Proofs.YtngocadnbpdnoaaW.PrintWords Go.Proofs.YtngocadnbpdnoaaW.PrintLast Go.Proofs.YtngocadnbpdnoaaW.PrintMore Go.Proofs.Ytngocadnbpdnoaa.Open
set_option linter.unusedVariables false
set_option linter.unusedSimpArgs false
/-- A call of the law. -/
structure CallS where
  tk : Bool
  op : OpS
  an : AnS
  hd : Int
def zCall : CallS := ⟨false, z39, z26, 0⟩
def kCall : Kd CallS := Kd.iso (Kd.pair Kd.bool (Kd.pair k39 (Kd.pair k26 (Kd.int .u64)))) (fun x : CallS => (x.tk, x.op, x.an, x.hd))
theorem kCall_open {w : World} {x : CallS} {cs : List Value} (h : kCall.K w x cs) : ∃ A c B d, cs = [.bool x.tk, .int .u8 x.op.f0, .int .u64 x.op.f1, .int .u64 x.op.f2, .int .u64 x.op.f3, .int .u64 x.op.f4, .bool x.op.f5.f0, .int .i64 x.op.f5.f1, .int .i64 x.op.f5.f2, .slice A x.op.f6.length c, .int .u64 x.op.f7, .int .u64 x.op.f8, .int .i64 x.an.f0, .bool x.an.f1, .int .u64 x.an.f2, .bool x.an.f3, .int .u64 x.an.f4, .slice B x.an.f5.length d, .int .u64 x.an.f6, .int .u64 x.hd] ∧ x.op.f6.length ≤ c ∧ (Kd.int .u64).C w A x.op.f6.length x.op.f6 ∧ x.an.f5.length ≤ d ∧ k90.C w B x.an.f5.length x.an.f5 := by
  obtain ⟨c1, c2, rfl, h1, ⟨c3, c4, rfl, h3, ⟨c5, c6, rfl, h5, h6⟩⟩⟩ := h
  obtain rfl : c1 = [.bool x.tk] := h1
  obtain ⟨A, c, rfl, l1, g1⟩ := k39_open h3
  obtain ⟨B, d, rfl, l2, g2⟩ := k26_open h5
  obtain rfl : c6 = [.int .u64 x.hd] := h6
  exact ⟨A, c, B, d, rfl, l1, g1, l2, g2⟩
def wfC (x : CallS) : Prop := True ∧ wfO x.op ∧ wfA x.an ∧ (Lit.int .u64 x.hd).wf = true
def BC (x : CallS) : Nat := 1 + (BO x.op + (BA x.an + 1)) + 1
theorem opensC : Opens Try.prog kCall 41 BC wfC := by
  intro H enc w base held fuel cs x h
  obtain ⟨a, h1, h2, h3⟩ := opens_struct (g := fun x : CallS => (x.tk, x.op, x.an, x.hd)) (fun a => ⟨a.1, a.2.1, a.2.2.1, a.2.2.2⟩) (fun _ => rfl) Try.underlying41 (by kernel_rfl)
    (opens_cons (opens_bool Try.underlying4) rfl (by kernel_rfl) (opens_cons opensO rfl (by kernel_rfl) (opens_cons opensA rfl (by kernel_rfl) (opens_last (opens_int Try.underlying23) rfl (by kernel_rfl))))) h
  exact ⟨a, h1, h2, h3⟩
theorem BC_len (l : List CallS) : l.length ≤ (l.map BC).sum := by
  induction l with
  | nil => simp
  | cons a l ih => simp only [List.map_cons, List.sum_cons, List.length_cons]; unfold BC at ih ⊢; omega
end Go.Proofs.Ytngocadnbpdnoaa.Mo
namespace Go.Proofs.Ytngocadnbpdnoaa.Mo
open Go Go.Maps Go.RowKit Go.Proofs.Ytngocadnbpdnoaa.Srt Go.Proofs.Ytngocadnbpdnoaa.Q Go.Proofs.YtngocadnbpdnoaaW.PrintWords Go.Proofs.YtngocadnbpdnoaaW.PrintLast Go.Proofs.YtngocadnbpdnoaaW.PrintMore
set_option linter.unusedVariables false
set_option linter.unusedSimpArgs false
/-- Do's law at every kind but MultiGet, whatever the keys. -/
theorem do_nk (o : OpS) (hO : OpWf o) (h7 : o.f0 ≠ 7) : DoC o 0 (fun s => stepD s o 0) := by
  intro f N gp bn bh multi now held A c w hM hF hN
  have hh : u64wf 0 := by unfold u64wf; decide
  show Calls _ _ _ _ (DoPost w f (N + 1) gp bn bh (stepD ⟨multi, now, held⟩ o 0).1 (stepD ⟨multi, now, held⟩ o 0).2)
  by_cases h1 : o.f0 = 1
  · rw [show stepD ⟨multi, now, held⟩ o 0 = (⟨multi, now, held⟩, foundD ⟨multi, now, held⟩ o) by simp [stepD, h1]]
    exact do_get f N gp bn bh multi now held o A c 0 w hM hF hO hh hN h1
  by_cases h2 : o.f0 = 2
  · rw [show stepD ⟨multi, now, held⟩ o 0 = (⟨multi, put now o.f1 o.f2, held⟩, foundD ⟨multi, now, held⟩ o) by simp [stepD, h2]]
    exact do_put f N gp bn bh multi now held o A c 0 w hM hF hO hh hN h2
  by_cases h3 : o.f0 = 3
  · rw [show stepD ⟨multi, now, held⟩ o 0 = (⟨multi, del now o.f1, held⟩, foundD ⟨multi, now, held⟩ o) by simp [stepD, h3]]
    exact do_del f N gp bn bh multi now held o A c 0 w hM hF hO hh hN h3
  by_cases h4 : o.f0 = 4
  · by_cases hx : fnd now o.f1 = some o.f3
    · rw [show stepD ⟨multi, now, held⟩ o 0 = (⟨multi, put now o.f1 o.f2, held⟩, { foundD ⟨multi, now, held⟩ o with dn := true }) by simp [stepD, h4, hx]]
      exact do_swapY f N gp bn bh multi now held o A c 0 w hM hF hO hh hN h4 hx
    · rw [show stepD ⟨multi, now, held⟩ o 0 = (⟨multi, now, held⟩, foundD ⟨multi, now, held⟩ o) by simp [stepD, h4, hx]]
      exact do_swapN f N gp bn bh multi now held o A c 0 w hM hF hO hh hN h4 hx
  by_cases h5 : o.f0 = 5
  · rw [show stepD ⟨multi, now, held⟩ o 0 = (⟨multi, now, snapHeld 0 now held⟩, snapD 0 held) by simp [stepD, h5]]
    exact do_snap f N gp bn bh multi now held o A c 0 w hM hF hO hh hN h5
  by_cases h6 : o.f0 = 6
  · cases hx : fnd held o.f4 with
    | none =>
      rw [show stepD ⟨multi, now, held⟩ o 0 = (⟨multi, now, held⟩, errD 33) by simp [stepD, h6, hx]]
      exact do_relN f N gp bn bh multi now held o A c 0 w hM hF hO hh hN h6 hx
    | some x =>
      rw [show stepD ⟨multi, now, held⟩ o 0 = (⟨multi, now, del held o.f4⟩, errD 0) by simp [stepD, h6, hx]]
      exact do_relY f N gp bn bh multi now held o A c 0 w hM hF hO hh hN h6 (by rw [hx]; rfl)
  by_cases h8 : o.f0 = 8
  · cases hx : fnd held o.f4 with
    | none =>
      rw [show stepD ⟨multi, now, held⟩ o 0 = (⟨multi, now, held⟩, errD 33) by simp [stepD, h7, h8, hx]]
      exact do_rgNo f N gp bn bh multi now held o A c 0 w hM hF hO hh hN h8 hx
    | some x =>
      rw [show stepD ⟨multi, now, held⟩ o 0 = (⟨multi, now, held⟩, ⟨0, false, 0, false, 0, within o.f7 o.f8 x, 0⟩) by simp [stepD, h7, h8, hx]]
      by_cases hne : within o.f7 o.f8 x = []
      · exact do_rgYesE f N gp bn bh multi now held o A c 0 w hM hF hO hh hN h8 x hx hne
      · exact do_rgYesS f N gp bn bh multi now held o A c 0 w hM hF hO hh hN h8 x hx hne
  by_cases h9 : o.f0 = 9
  · cases hx : fnd held o.f4 with
    | none =>
      rw [show stepD ⟨multi, now, held⟩ o 0 = (⟨multi, now, held⟩, errD 33) by simp [stepD, h7, h9, hx]]
      exact do_ctNo f N gp bn bh multi now held o A c 0 w hM hF hO hh hN h9 hx
    | some x =>
      rw [show stepD ⟨multi, now, held⟩ o 0 = (⟨multi, now, held⟩, ⟨0, false, 0, false, 0, [], ((toS (within o.f7 o.f8 x)).length : Int)⟩) by simp [stepD, h7, h9, hx]]
      exact do_ctYes f N gp bn bh multi now held o A c 0 w hM hF hO hh hN h9 x hx
  by_cases h10 : o.f0 = 10
  · rw [show stepD ⟨multi, now, held⟩ o 0 = (⟨multi, now, held⟩, errD 0) by simp [stepD, h7, h10]]
    exact do_coll f N gp bn bh multi now held o A c 0 w hM hF hO hh hN h10
  · rw [show stepD ⟨multi, now, held⟩ o 0 = (⟨multi, now, held⟩, errD 160) by simp [stepD, h1, h2, h3, h4, h5, h6, h7, h8, h9, h10]]
    exact do_oth f N gp bn bh multi now held o A c 0 w hM hF hO hh hN trivial (fun k hk1 hk2 => beq_eq_false_iff_ne.2 (by omega))
/-- What Take does to a state, and what it says. -/
def takeD (s : MS) (o : OpS) (a : AnS) : MS × Bool :=
  if 2 ≤ o.f0 ∧ o.f0 ≤ 4 then (if anEq a (errS 30) = true then (s, true) else if anEq (ansS (stepD s o 0).2) a = true then ((stepD s o 0).1, true) else (s, false))
  else if o.f0 = 5 then (if anEq a (errS 32) || anEq a (errS 31) then (s, true) else if (fnd s.held a.f4).isSome || (a.f4 == 0) || !anEq a ⟨0, false, 0, false, a.f4, [], 0⟩ then (s, false) else (⟨s.multi, s.now, snapHeld a.f4 s.now s.held⟩, true))
  else if o.f0 = 10 then (s, anEq a ⟨0, false, 0, false, 0, [], a.f6⟩)
  else if 7 ≤ o.f0 ∧ o.f0 ≤ 9 then ((stepD s o 0).1, anEq a (ansS (stepD s o 0).2) || ((stepD s o 0).2.e == 33 && anEq a (errS 34)))
  else (if anEq (ansS (stepD s o 0).2) a = true then ((stepD s o 0).1, true) else (s, false))
theorem ps_len (s : MS) (o : OpS) (h : ¬ (7 ≤ o.f0 ∧ o.f0 ≤ 9)) : (stepD s o 0).2.ps = [] := by
  unfold stepD
  by_cases h1 : o.f0 = 1
  · simp [h1, foundD]
  by_cases h2 : o.f0 = 2
  · simp [h2, foundD]
  by_cases h3 : o.f0 = 3
  · simp [h3, foundD]
  by_cases h4 : o.f0 = 4
  · by_cases hx : fnd s.now o.f1 = some o.f3 <;> simp [h4, hx, foundD]
  by_cases h5 : o.f0 = 5
  · by_cases hx : (fnd s.held 0).isSome = true <;> simp [h5, snapD, errD, hx]
  by_cases h6 : o.f0 = 6
  · cases hx : fnd s.held o.f4 <;> simp [h6, hx, errD]
  have h7 : o.f0 ≠ 7 := by omega
  have h8 : o.f0 ≠ 8 := by omega
  have h9 : o.f0 ≠ 9 := by omega
  by_cases h10 : o.f0 = 10 <;> simp [h1, h2, h3, h4, h5, h6, h7, h8, h9, h10, errD]
/-- Take at every operation and answer. -/
theorem take_c (o : OpS) (a : AnS) (A B : Option Addr) (c d : Nat) (f : Nat → Option PL) (N gp bn bh : Nat) (multi : Int) (now : PL) (held : List (Int × PL)) (w : World) (hM : PM w f N gp bn bh multi now held) (hF : Fro w f N) (hN : N + 1 ≤ 1099511627776)
    (hK : ∀ W', Kept w W' (fun k => k = bn ∨ k = bh) → Kd.C (Kd.int .u64) W' A o.f6.length o.f6) (hw : ∀ k ∈ o.f6, u64wf k) (hn : o.f6.length ≤ 1099511627776)
    (hC : ∀ W', Kept w W' (fun k => k = bn ∨ k = bh) → Kd.C k90 W' B a.f5.length a.f5) (hd : a.f5.length ≤ d) (hm : a.f5.length ≤ 4398046511104) (hO : OpWf o) (hu : u64wf a.f4) :
    Calls Try.prog 22 #[.pointer (some ⟨gp, 0, none⟩), .agg (opC o A c), anV a B d] w (TakePost w f N gp bn bh (takeD ⟨multi, now, held⟩ o a)) := by
  by_cases h24 : 2 ≤ o.f0 ∧ o.f0 ≤ 4
  · refine take_kv o a A B c d (fun s => stepD s o 0) (do_nk o hO (by omega)) f N gp bn bh multi now held w hM hF hN hC hd h24 hm _ ?_ ?_
    · unfold takeD; rw [if_pos h24]
    · show (stepD ⟨multi, now, held⟩ o 0).2.ps.length ≤ _; rw [ps_len _ _ (by omega)]; simp
  by_cases h5 : o.f0 = 5
  · refine take_snap o a A B c d f N gp bn bh multi now held w hM hF hN hC hd hm h5 hu _ ?_
    unfold takeD; rw [if_neg h24, if_pos h5]
  by_cases h10 : o.f0 = 10
  · refine take_coll o a A B c d f N gp bn bh multi now held w hM hF hN hC hd hm h10 _ ?_
    unfold takeD; rw [if_neg h24, if_neg h5, if_pos h10]
  by_cases h79 : 7 ≤ o.f0 ∧ o.f0 ≤ 9
  · refine take_query o a A B c d (fun s => stepD s o 0) f N gp bn bh multi now held w hM hF hN hC hd hm (fun W' hb => do_c f N gp bn bh multi now held o A c 0 W' (hM.kept (Kept.of_below hb (fun _ => False)) (fun e => e) (fun e => e) (fun e => e)) (hF.kept (Kept.of_below hb (fun _ => False)) (fun _ _ _ e => e)) hO (by unfold u64wf; decide) (by omega) (fun W2 h2 => hK W2 ((Kept.of_below hb _).then_ h2 (fun k e => .inl e))) hw hn) h79 _ ?_
    unfold takeD; rw [if_neg h24, if_neg h5, if_neg h10, if_pos h79]
  · have hps : (stepD ⟨multi, now, held⟩ o 0).2.ps.length ≤ 4398046511104 := by rw [ps_len _ _ h79]; simp
    refine (take_rest o a A B c d (fun s => stepD s o 0) (do_nk o hO (by omega)) f N gp bn bh multi now held w hM hF hN hC hd (fun k h1 h2 h3 => by
      rw [beq_eq_false_iff_ne]; intro e; rw [e] at h24 h5 h10 h79; omega) hps).mono ?_
    rintro e w' ⟨he, hL⟩
    have hr : takeD ⟨multi, now, held⟩ o a = if anEq (ansS (stepD ⟨multi, now, held⟩ o 0).2) a = true then ((stepD ⟨multi, now, held⟩ o 0).1, true) else (⟨multi, now, held⟩, false) := by
      unfold takeD; rw [if_neg h24, if_neg h5, if_neg h10, if_neg h79]
    by_cases hq : anEq (ansS (stepD ⟨multi, now, held⟩ o 0).2) a = true
    · rw [if_pos hq] at hL hr
      rw [hr]
      exact ⟨by rw [he, hq], hL⟩
    · rw [if_neg hq] at hL hr
      rw [hr]
      exact ⟨by rw [he]; simpa using hq, hL⟩
end Go.Proofs.Ytngocadnbpdnoaa.Mo
namespace Go.Proofs.Ytngocadnbpdnoaa.Mo
open Go Go.Maps Go.RowKit Go.Proofs.Ytngocadnbpdnoaa.Srt Go.Proofs.Ytngocadnbpdnoaa.Q Go.Proofs.YtngocadnbpdnoaaW.PrintWords Go.Proofs.YtngocadnbpdnoaaW.PrintLast Go.Proofs.YtngocadnbpdnoaaW.PrintMore
set_option linter.unusedVariables false
set_option linter.unusedSimpArgs false
theorem anEq_self (x : AnS) : anEq x x = true := by simp [anEq]
theorem anEq_comm (x y : AnS) : anEq x y = anEq y x := by
  unfold anEq
  have h : ∀ {α : Type} [DecidableEq α] (a b : α), (a == b) = (b == a) := fun a b => by
    by_cases e : a = b
    · rw [e]
    · rw [beq_eq_false_iff_ne.2 e, beq_eq_false_iff_ne.2 (Ne.symm e)]
  have hd : decide (x.f5 = y.f5) = decide (y.f5 = x.f5) := by
    by_cases e : x.f5 = y.f5
    · rw [e]
    · rw [decide_eq_false e, decide_eq_false (Ne.symm e)]
  rw [hd, h x.f0, h x.f1, h x.f2, h x.f3, h x.f4, h x.f6]
theorem stepD_hdl (s : MS) (o : OpS) (h h' : Int) (hk : o.f0 ≠ 5) : stepD s o h = stepD s o h' := by
  unfold stepD
  rw [if_neg hk, if_neg hk]
theorem stepD_query (s : MS) (o : OpS) (h : Int) (hk : 7 ≤ o.f0 ∧ o.f0 ≤ 9) : (stepD s o h).1 = s := by
  have h1 : o.f0 ≠ 1 := by omega
  have h2 : o.f0 ≠ 2 := by omega
  have h3 : o.f0 ≠ 3 := by omega
  have h4 : o.f0 ≠ 4 := by omega
  have h5 : o.f0 ≠ 5 := by omega
  have h6 : o.f0 ≠ 6 := by omega
  unfold stepD
  rw [if_neg h1, if_neg h2, if_neg h3, if_neg h4, if_neg h5, if_neg h6]
  repeat' split
  all_goals rfl
end Go.Proofs.Ytngocadnbpdnoaa.Mo
namespace Go.Proofs.Ytngocadnbpdnoaa.Mo
open Go Go.Maps Go.RowKit Go.Proofs.Ytngocadnbpdnoaa.Srt Go.Proofs.Ytngocadnbpdnoaa.Q Go.Proofs.YtngocadnbpdnoaaW.PrintWords Go.Proofs.YtngocadnbpdnoaaW.PrintLast Go.Proofs.YtngocadnbpdnoaaW.PrintMore
set_option linter.unusedVariables false
set_option linter.unusedSimpArgs false
theorem len_ps (s : MS) (N : Nat) (hlen : ∀ k x, fnd s.held k = some x → x.length ≤ N) (o : OpS) (hdl : Int) : (stepD s o hdl).2.ps.length ≤ N + o.f6.length := by
  have hwi : ∀ lo hi x, (within lo hi x).length ≤ x.length := fun lo hi x => List.length_filter_le _ _
  have hok : ∀ x, (ofKeys x o.f6).length ≤ o.f6.length := fun x => by
    unfold ofKeys
    exact List.length_filterMap_le _ _
  by_cases h79 : 7 ≤ o.f0 ∧ o.f0 ≤ 9
  · rw [stepD_hdl s o hdl 0 (by omega)]
    have h1 : o.f0 ≠ 1 := by omega
    have h2 : o.f0 ≠ 2 := by omega
    have h3 : o.f0 ≠ 3 := by omega
    have h4 : o.f0 ≠ 4 := by omega
    have h5 : o.f0 ≠ 5 := by omega
    have h6 : o.f0 ≠ 6 := by omega
    unfold stepD
    rw [if_neg h1, if_neg h2, if_neg h3, if_neg h4, if_neg h5, if_neg h6]
    rcases (show o.f0 = 7 ∨ o.f0 = 8 ∨ o.f0 = 9 by omega) with e | e | e
    · rw [if_pos e]
      split
      · simp [errD]
      · cases hx : fnd s.held o.f4 with
        | none => simp [errD]
        | some x => have := hok x; show (ofKeys x o.f6).length ≤ _; omega
    · rw [if_neg (by omega), if_pos e]
      cases hx : fnd s.held o.f4 with
      | none => simp [errD]
      | some x => have := hwi o.f7 o.f8 x; have := hlen _ _ hx; show (within o.f7 o.f8 x).length ≤ _; omega
    · rw [if_neg (by omega), if_neg (by omega), if_pos e]
      cases hx : fnd s.held o.f4 with
      | none => simp [errD]
      | some x => simp
  · by_cases h5 : o.f0 = 5
    · have e : (stepD s o hdl).2 = snapD hdl s.held := by unfold stepD; simp [h5]
      rw [e]
      unfold snapD
      split <;> simp [errD]
    · rw [stepD_hdl s o hdl 0 h5, ps_len _ _ h79]; simp
theorem RMd.lens {wr : World} {S : Nat → Prop} {rp N : Nat} {s : MS} {A : Option Addr} {c : Nat} {B : Option Addr} {d : Nat} {hs : List HdS} (h : RMd wr S rp N s A c B d hs) : ∀ k x, fnd s.held k = some x → x.length ≤ N := fun k x hx => by
  have hm := fnd_mem hx
  rw [h.hd] at hm
  obtain ⟨y, hy, e⟩ := List.mem_map.1 hm
  have e2 : y.l = x := congrArg Prod.snd e
  rw [← e2]; exact (h.each y hy).2.1
theorem query_c {w : World} {S : Nat → Prop} {rp N : Nat} {s : MS} {A : Option Addr} {c : Nat} {B : Option Addr} {d : Nat} {hs : List HdS} (h : RMd w S rp N s A c B d hs) (o : OpS) (Ao : Option Addr) (co : Nat) (hdl : Int) (hN : N ≤ 1099511627776) (hC : Kd.C (Kd.int .u64) w Ao o.f6.length o.f6) (hCc : o.f6.length ≤ co) (hCn : o.f6.length ≤ 1099511627776) (hk : 7 ≤ o.f0 ∧ o.f0 ≤ 9) :
    Calls Try.prog 51 #[.pointer (some ⟨rp, 0, none⟩), .agg (opC o Ao co)] w (TellR w (stepD s o hdl).2) := by
  by_cases h7 : o.f0 = 7
  · by_cases hl : s.multi < (o.f6.length : Int)
    · rw [show stepD s o hdl = (s, errD 6) by simp [stepD, h7, hl]]
      exact query_long h o Ao co hN hC hCc hCn h7 hl
    · cases hf : fnd s.held o.f4 with
      | none =>
        rw [show stepD s o hdl = (s, errD 33) by simp [stepD, h7, hl, hf]]
        exact query_no7 h o Ao co hN hC hCc hCn h7 hl hf
      | some l =>
        rw [show stepD s o hdl = (s, ⟨0, false, 0, false, 0, ofKeys l o.f6, 0⟩) by simp [stepD, h7, hl, hf]]
        exact query_yes7 h o Ao co hN hC hCc hCn h7 hl l hf
  by_cases h8 : o.f0 = 8
  · cases hf : fnd s.held o.f4 with
    | none =>
      rw [show stepD s o hdl = (s, errD 33) by simp [stepD, h8, hf]]
      exact query_no8 h o Ao co hN hC hCc hCn h8 hf
    | some l =>
      rw [show stepD s o hdl = (s, ⟨0, false, 0, false, 0, within o.f7 o.f8 l, 0⟩) by simp [stepD, h8, hf]]
      exact query_yes8 h o Ao co hN hC hCc hCn h8 l hf
  have h9 : o.f0 = 9 := by omega
  cases hf : fnd s.held o.f4 with
  | none =>
    rw [show stepD s o hdl = (s, errD 33) by simp [stepD, h9, hf]]
    exact query_no9 h o Ao co hN hC hCc hCn h9 hf
  | some l =>
    rw [show stepD s o hdl = (s, ⟨0, false, 0, false, 0, [], ((toS (within o.f7 o.f8 l)).length : Int)⟩) by simp [stepD, h9, hf]]
    exact query_yes9 h o Ao co hN hC hCc hCn h9 l hf
theorem take_q33 (s : MS) (o : OpS) (hdl : Int) (hk : 7 ≤ o.f0 ∧ o.f0 ≤ 9) : anEq (ansS (stepD s o hdl).2) (errS 33) = ((stepD s o hdl).2.e == 33) := by
  have e33 : anEq (ansS (errD 33)) (errS 33) = true := by simp [anEq, ansS, errD, errS, toS]
  by_cases h7 : o.f0 = 7
  · by_cases hl : s.multi < (o.f6.length : Int)
    · rw [show stepD s o hdl = (s, errD 6) by simp [stepD, h7, hl]]
      simp [anEq, ansS, errD, errS, toS]
    · cases hf : fnd s.held o.f4 with
      | none =>
        rw [show stepD s o hdl = (s, errD 33) by simp [stepD, h7, hl, hf]]
        rw [e33]; rfl
      | some l =>
        rw [show stepD s o hdl = (s, ⟨0, false, 0, false, 0, ofKeys l o.f6, 0⟩) by simp [stepD, h7, hl, hf]]
        simp [anEq, ansS, errD, errS, toS]
  by_cases h8 : o.f0 = 8
  · cases hf : fnd s.held o.f4 with
    | none =>
      rw [show stepD s o hdl = (s, errD 33) by simp [stepD, h8, hf]]
      rw [e33]; rfl
    | some l =>
      rw [show stepD s o hdl = (s, ⟨0, false, 0, false, 0, within o.f7 o.f8 l, 0⟩) by simp [stepD, h8, hf]]
      simp [anEq, ansS, errD, errS, toS]
  have h9 : o.f0 = 9 := by omega
  cases hf : fnd s.held o.f4 with
  | none =>
    rw [show stepD s o hdl = (s, errD 33) by simp [stepD, h9, hf]]
    rw [e33]; rfl
  | some l =>
    rw [show stepD s o hdl = (s, ⟨0, false, 0, false, 0, [], ((toS (within o.f7 o.f8 l)).length : Int)⟩) by simp [stepD, h9, hf]]
    simp [anEq, ansS, errD, errS, toS]
/-- The document's Take at every operation: as takeD. -/
theorem takeR_c {w : World} {S : Nat → Prop} {rp N : Nat} {s : MS} {A : Option Addr} {c : Nat} {B : Option Addr} {d : Nat} {hs : List HdS} (h : RMd w S rp N s A c B d hs) (o : OpS) (a : AnS) (Ao Ba : Option Addr) (co ca : Nat) (hN : N ≤ 1099511627776) (hS : ∀ k, S k → k < w.heap.size) (hC : Kd.C (Kd.int .u64) w Ao o.f6.length o.f6) (hCc : o.f6.length ≤ co) (hCn : o.f6.length ≤ 1099511627776) (hD : Kd.C kSP w Ba a.f5.length a.f5) (hd : a.f5.length ≤ ca) (hm : a.f5.length ≤ 4398046511104) :
    Calls Try.prog 23 #[.pointer (some ⟨rp, 0, none⟩), .agg (opC o Ao co), anV a Ba ca] w (TakeR w S rp (N + 1) (takeD s o a)) := by
  have hps : (stepD s o a.f4).2.ps.length ≤ 4398046511104 := by
    have := len_ps s N h.lens o a.f4
    omega
  by_cases h24 : 2 ≤ o.f0 ∧ o.f0 ≤ 4
  · refine rtake_kv h o a Ao Ba co ca hN hS hC hCc hCn hD hd hm hps h24 _ ?_
    unfold takeD tailR; rw [if_pos h24, stepD_hdl s o a.f4 0 (by omega)]
  by_cases h5 : o.f0 = 5
  · refine rtake_snap h o a Ao Ba co ca hN hS hC hCc hCn hD hd hm hps h5 _ ?_
    unfold takeD; rw [if_neg h24, if_pos h5]
    by_cases hb : (anEq a (errS 32) || anEq a (errS 31)) = true
    · rw [if_pos hb, if_pos hb]
    rw [if_neg hb, if_neg hb]
    by_cases h0 : a.f4 = 0
    · rw [h0]; simp
    have h0' : (a.f4 == 0) = false := beq_eq_false_iff_ne.2 h0
    cases hf : fnd s.held a.f4 with
    | some l => simp
    | none =>
      have e : stepD s o a.f4 = (⟨s.multi, s.now, snapHeld a.f4 s.now s.held⟩, ⟨0, false, 0, false, a.f4, [], 0⟩) := by simp [stepD, h5, snapD, hf]
      unfold tailR
      rw [e, h0']
      simp only [Option.isSome_none, Bool.false_or, Bool.or_false, Bool.false_eq_true, if_false]
      rw [show ansS (⟨0, false, 0, false, a.f4, [], 0⟩ : AnsD) = ⟨0, false, 0, false, a.f4, [], 0⟩ from rfl, anEq_comm]
      generalize anEq (⟨0, false, 0, false, a.f4, [], 0⟩ : AnS) a = b
      cases b <;> simp
  by_cases h10 : o.f0 = 10
  · refine rtake_coll h o a Ao Ba co ca hN hS hC hCc hCn hD hd hm hps h10 _ ?_
    unfold takeD; rw [if_neg h24, if_neg h5, if_pos h10]
  by_cases h79 : 7 ≤ o.f0 ∧ o.f0 ≤ 9
  · refine rtake_query h o a Ao Ba co ca hN hS hC hCc hCn hD hd hm hps h79 (fun W hB => query_c (h.below hB) o Ao co a.f4 hN (Kd.C_below hC hB) hCc hCn h79) _ ?_
    unfold takeD; rw [if_neg h24, if_neg h5, if_neg h10, if_pos h79, take_q33 s o a.f4 h79, stepD_hdl s o a.f4 0 (by omega)]
    have hs0 := stepD_query s o 0 h79
    have ht : tailR s o a = (s, anEq a (ansS (stepD s o 0).2)) := by
      unfold tailR
      rw [stepD_hdl s o a.f4 0 (by omega), hs0, anEq_comm]
      cases anEq a (ansS (stepD s o 0).2) <;> simp
    rw [ht, hs0]
    cases (stepD s o 0).2.e == 33 <;> cases anEq a (errS 34) <;> cases anEq a (ansS (stepD s o 0).2) <;> simp
  · refine rtake_rest h o a Ao Ba co ca hN hS hC hCc hCn hD hd hm hps (fun k h1 h2 => by
      rw [beq_eq_false_iff_ne]; intro e; rw [e] at h24 h5 h10 h79; omega) _ ?_
    unfold takeD tailR; rw [if_neg h24, if_neg h5, if_neg h10, if_neg h79, stepD_hdl s o a.f4 0 h5]
end Go.Proofs.Ytngocadnbpdnoaa.Mo
namespace Go.Proofs.Ytngocadnbpdnoaa.Mo
open Go Go.Maps Go.RowKit Go.Proofs.Ytngocadnbpdnoaa.Srt Go.Proofs.Ytngocadnbpdnoaa.Q Go.Proofs.YtngocadnbpdnoaaW.PrintWords Go.Proofs.YtngocadnbpdnoaaW.PrintLast Go.Proofs.YtngocadnbpdnoaaW.PrintMore
set_option linter.unusedVariables false
set_option linter.unusedSimpArgs false
/-- One model in a world. -/
structure One (w wr : World) (f : Nat → Option PL) (N gp bn bh : Nat) (s : MS) : Prop where
  pm : PM wr f N gp bn bh s.multi s.now s.held
  fro : Fro wr f N
  ko : KO w wr (fun _ => False)
theorem One.below {w wr W : World} {f : Nat → Option PL} {N gp bn bh : Nat} {s : MS} (h : One w wr f N gp bn bh s) (hB : Below wr.heap.size wr W) : One w W f N gp bn bh s :=
  ⟨h.pm.kept (Kept.of_below hB (fun _ => False)) (fun e => e) (fun e => e) (fun e => e), h.fro.kept (Kept.of_below hB (fun _ => False)) (fun _ _ _ e => e), h.ko.below hB⟩
theorem One.step {w wr w1 : World} {f : Nat → Option PL} {N gp bn bh : Nat} {s s' : MS} (h : One w wr f N gp bn bh s) (hL : Left wr w1 f (N + 1) gp bn bh s'.multi s'.now s'.held (fun k => k = bn ∨ k = bh)) (h1 : w.heap.size ≤ bn) (h2 : w.heap.size ≤ bh) : ∃ f', One w w1 f' (N + 1) gp bn bh s' := by
  obtain ⟨f', hE, hP, hF, hK⟩ := hL
  exact ⟨f', hP, hF, h.ko.then_ hK (fun k e => .inr (by omega))⟩
theorem One.mono {w wr : World} {f : Nat → Option PL} {N N' gp bn bh : Nat} {s : MS} (h : One w wr f N gp bn bh s) (hn : N ≤ N') : One w wr f N' gp bn bh s := ⟨h.pm.mono hn, h.fro.mono hn, h.ko⟩
/-- One step; what is told; what else is new stays. -/
theorem One.told {w wr w1 : World} {f : Nat → Option PL} {N gp bn bh : Nat} {s s' : MS} {d : AnsD} {e : Ending} (h : One w wr f N gp bn bh s) (hD : DoPost wr f (N + 1) gp bn bh s' d e w1) (h1 : w.heap.size ≤ bn) (h2 : w.heap.size ≤ bh) :
    ∃ f' A c, e = .returned (.agg #[.int .i64 d.e, .bool d.fo, .int .u64 d.v, .bool d.dn, .int .u64 d.h, .slice A (toS d.ps).length c, .int .u64 d.c]) ∧ One w w1 f' (N + 1) gp bn bh s' ∧ kSP.R 90 w1 wr.heap.size (fun _ => True) (.slice A (toS d.ps).length c) (toS d.ps) ∧ Kept wr w1 (fun k => k = bn ∨ k = bh) := by
  obtain ⟨ps, rfl, hR, hL⟩ := hD
  obtain ⟨A, c, rfl⟩ := Kd.R_slice hR
  obtain ⟨f', hT⟩ := h.step hL h1 h2
  obtain ⟨f2, _, _, _, hK⟩ := hL
  exact ⟨f', A, c, rfl, hT, hR, hK.kept⟩
end Go.Proofs.Ytngocadnbpdnoaa.Mo
namespace Go.Proofs.Ytngocadnbpdnoaa.Mo
open Go Go.Maps Go.RowKit Go.Proofs.Ytngocadnbpdnoaa.Srt Go.Proofs.Ytngocadnbpdnoaa.Q Go.Proofs.YtngocadnbpdnoaaW.PrintWords Go.Proofs.YtngocadnbpdnoaaW.PrintLast Go.Proofs.YtngocadnbpdnoaaW.PrintMore
set_option linter.unusedVariables false
set_option linter.unusedSimpArgs false
structure Mod where
  gp : Nat
  bn : Nat
  bh : Nat
  s : MS
def Mod.to (m : Mod) (s : MS) : Mod := ⟨m.gp, m.bn, m.bh, s⟩
def Mod.own (m : Mod) : Nat → Prop := fun k => k = m.bn ∨ k = m.bh
def Dis (m m' : Mod) : Prop := m.bn ≠ m'.bn ∧ m.bn ≠ m'.bh ∧ m.bh ≠ m'.bn ∧ m.bh ≠ m'.bh
theorem Dis.symm {m m' : Mod} (h : Dis m m') : Dis m' m := ⟨Ne.symm h.1, Ne.symm h.2.2.1, Ne.symm h.2.1, Ne.symm h.2.2.2⟩
def PMm (wr : World) (f : Nat → Option PL) (N : Nat) (m : Mod) : Prop := PM wr f N m.gp m.bn m.bh m.s.multi m.s.now m.s.held
structure All (w wr : World) (f : Nat → Option PL) (N : Nat) (ms : List Mod) : Prop where
  pm : ∀ m ∈ ms, PMm wr f N m ∧ w.heap.size ≤ m.gp ∧ w.heap.size ≤ m.bn ∧ w.heap.size ≤ m.bh
  dis : ms.Pairwise Dis
  fro : Fro wr f N
  ko : KO w wr (fun _ => False)
theorem All.perm {w wr : World} {f : Nat → Option PL} {N : Nat} {ms ms' : List Mod} (h : All w wr f N ms) (p : ms.Perm ms') : All w wr f N ms' :=
  ⟨fun m hm => h.pm m (p.mem_iff.2 hm), p.pairwise h.dis Dis.symm, h.fro, h.ko⟩
theorem All.below {w wr W : World} {f : Nat → Option PL} {N : Nat} {ms : List Mod} (h : All w wr f N ms) (hB : Below wr.heap.size wr W) : All w W f N ms :=
  ⟨fun m hm => ⟨(h.pm m hm).1.kept (Kept.of_below hB (fun _ => False)) (fun e => e) (fun e => e) (fun e => e), (h.pm m hm).2⟩, h.dis, h.fro.kept (Kept.of_below hB (fun _ => False)) (fun _ _ _ e => e), h.ko.below hB⟩
theorem All.mono {w wr : World} {f : Nat → Option PL} {N N' : Nat} {ms : List Mod} (h : All w wr f N ms) (hn : N ≤ N') : All w wr f N' ms :=
  ⟨fun m hm => ⟨(h.pm m hm).1.mono hn, (h.pm m hm).2⟩, h.dis, h.fro.mono hn, h.ko⟩
theorem All.one {w wr : World} {f : Nat → Option PL} {N gp bn bh : Nat} {s : MS} (h : One w wr f N gp bn bh s) (h0 : w.heap.size ≤ gp) (h1 : w.heap.size ≤ bn) (h2 : w.heap.size ≤ bh) : All w wr f N [⟨gp, bn, bh, s⟩] :=
  ⟨fun m hm => by rw [List.mem_singleton.1 hm]; exact ⟨h.pm, h0, h1, h2⟩, List.pairwise_singleton _ _, h.fro, h.ko⟩
theorem PM.far {w : World} {f : Nat → Option PL} {N gp bn bh gp2 bn2 bh2 : Nat} {m m2 : Int} {now now2 : PL} {held held2 : List (Int × PL)} (h : PM w f N gp bn bh m now held) (h2 : PM w f N gp2 bn2 bh2 m2 now2 held2) : gp ≠ bn2 ∧ gp ≠ bh2 := by
  refine ⟨fun e => ?_, fun e => ?_⟩
  · have h1 := h.blk
    rw [e] at h1
    obtain ⟨⟨es, cl, h3, _⟩, _⟩ := h2.now
    rw [h1] at h3; cases h3
  · have h1 := h.blk
    rw [e] at h1
    obtain ⟨⟨es, cl, h3, _⟩, _⟩ := h2.held
    rw [h1] at h3; cases h3
/-- One of them steps. -/
theorem All.step {w wr w1 : World} {f : Nat → Option PL} {N N' : Nat} {m : Mod} {r : List Mod} {s' : MS} (h : All w wr f N (m :: r)) (hL : Left wr w1 f N' m.gp m.bn m.bh s'.multi s'.now s'.held m.own) (hn : N ≤ N') : ∃ f', All w w1 f' N' (m.to s' :: r) := by
  obtain ⟨f', hE, hP, hF, hK⟩ := hL
  obtain ⟨hd1, hd2⟩ := List.pairwise_cons.1 h.dis
  have hm := h.pm m (by simp)
  refine ⟨f', fun x hx => ?_, List.pairwise_cons.2 ⟨fun x hx => hd1 x hx, hd2⟩, hF, h.ko.then_ hK (fun k e => .inr (by have a := hm.2.2.1; have b := hm.2.2.2; rcases e with e | e <;> omega))⟩
  rcases List.mem_cons.1 hx with rfl | hx
  · exact ⟨hP, hm.2⟩
  · have hxm := h.pm x (by simp [hx])
    have hfar := PM.far hxm.1 hm.1
    have hd := hd1 x hx
    exact ⟨((hxm.1.kept hK.kept (fun e => by rcases e with e | e; exact hfar.1 e; exact hfar.2 e) (fun e => by rcases e with e | e; exact hd.1 e.symm; exact hd.2.2.1 e.symm) (fun e => by rcases e with e | e; exact hd.2.1 e.symm; exact hd.2.2.2 e.symm)).ext hE hxm.1.now.lt hxm.1.held.1.lt).mono hn, hxm.2⟩
/-- A fork of one of them. -/
theorem All.fork {w wr w1 : World} {f f' : Nat → Option PL} {N gq bm bi : Nat} {s : MS} {ms : List Mod} (h : All w wr f N ms) (hE : Ext wr.heap.size f f') (hP : PM w1 f' N gq bm bi s.multi s.now s.held) (hF : Fro w1 f' N) (hB : Below wr.heap.size wr w1) (h1 : wr.heap.size ≤ gq) (h2 : wr.heap.size ≤ bm) (h3 : wr.heap.size ≤ bi) : All w w1 f' N (⟨gq, bm, bi, s⟩ :: ms) := by
  have hz := h.ko.kept.1
  refine ⟨fun x hx => ?_, List.pairwise_cons.2 ⟨fun x hx => ?_, h.dis⟩, hF, h.ko.below hB⟩
  · rcases List.mem_cons.1 hx with rfl | hx
    · exact ⟨hP, Nat.le_trans hz h1, Nat.le_trans hz h2, Nat.le_trans hz h3⟩
    · have hxm := h.pm x hx
      exact ⟨(hxm.1.kept (Kept.of_below hB (fun _ => False)) (fun e => e) (fun e => e) (fun e => e)).ext hE hxm.1.now.lt hxm.1.held.1.lt, hxm.2⟩
  · have hxm := h.pm x hx
    have a := hxm.1.now.lt
    have b := hxm.1.held.1.lt
    exact ⟨by show bm ≠ x.bn; omega, by show bm ≠ x.bh; omega, by show bi ≠ x.bn; omega, by show bi ≠ x.bh; omega⟩
/-- What came in is as it was. -/
theorem All.came {α : Type} {d : Kd α} {w wr : World} {f : Nat → Option PL} {N : Nat} {ms : List Mod} {m : Mod} (h : All w wr f N ms) (hm : m ∈ ms) (hd : Kd.Heap d) {A : Option Addr} {n : Nat} {xs : List α} (hC : d.C w A n xs) {W : World} (hB : Below wr.heap.size wr W) : ∀ W', Kept W W' (fun k => k = m.bn ∨ k = m.bh) → d.C W' A n xs := fun W' hk => by
  have hp := h.pm m hm
  have hz := (h.ko.below hB).kept
  exact Kd.Heap.C hd (fun k hlt => (hk.2 k (Nat.lt_of_lt_of_le hlt hz.1) (fun e => by rcases e with e | e <;> omega)).trans (hz.2 k hlt (fun e => e))) hC
end Go.Proofs.Ytngocadnbpdnoaa.Mo
namespace Go.Proofs.Ytngocadnbpdnoaa.Mo
open Go Go.Maps Go.RowKit Go.Proofs.Ytngocadnbpdnoaa.Srt Go.Proofs.Ytngocadnbpdnoaa.Q Go.Proofs.YtngocadnbpdnoaaW.PrintWords Go.Proofs.YtngocadnbpdnoaaW.PrintLast Go.Proofs.YtngocadnbpdnoaaW.PrintMore Go.Proofs.Ytngocadnbpdnoaa.Open
set_option linter.unusedVariables false
set_option linter.unusedSimpArgs false
/-- Another block of cells is written. -/
theorem PM.far_cells {w : World} {f : Nat → Option PL} {N gp bn bh : Nat} {m : Int} {now : PL} {held : List (Int × PL)} (h : PM w f N gp bn bh m now held) {g : Nat} {cs : Array Value} {T : TypeId} {fr : Nat × Nat} (hb : w.heap[g]? = some (.cells cs T fr)) (hT : T ≠ 100) : gp ≠ g ∧ bn ≠ g ∧ bh ≠ g := by
  refine ⟨fun e => ?_, fun e => ?_, fun e => ?_⟩
  · have h1 := h.blk
    rw [e, hb] at h1
    simp only [Option.some.injEq, Obj.cells.injEq] at h1
    exact hT h1.2.1
  · obtain ⟨⟨es, cl, h3, _⟩, _⟩ := h.now
    rw [e, hb] at h3; cases h3
  · obtain ⟨⟨es, cl, h3, _⟩, _⟩ := h.held
    rw [e, hb] at h3; cases h3
theorem Fro.far_cells {w : World} {f : Nat → Option PL} {N : Nat} (h : Fro w f N) {g : Nat} {cs : Array Value} {T : TypeId} {fr : Nat × Nat} (hb : w.heap[g]? = some (.cells cs T fr)) : ∀ b l, f b = some l → b ≠ g := fun b l hf e => by
  obtain ⟨⟨es, cl, h3, _⟩, _⟩ := h b l hf
  rw [e, hb] at h3; cases h3
theorem All.far {w wr W : World} {f : Nat → Option PL} {N : Nat} {ms : List Mod} (h : All w wr f N ms) {g : Nat} (hk : KO wr W (fun k => k = g)) (hg : w.heap.size ≤ g) {cs : Array Value} {T : TypeId} {fr : Nat × Nat} (hb : wr.heap[g]? = some (.cells cs T fr)) (hT : T ≠ 100) : All w W f N ms :=
  ⟨fun m hm => ⟨(h.pm m hm).1.kept hk.kept ((h.pm m hm).1.far_cells hb hT).1 ((h.pm m hm).1.far_cells hb hT).2.1 ((h.pm m hm).1.far_cells hb hT).2.2, (h.pm m hm).2⟩, h.dis, h.fro.kept hk.kept (fun b l hf e => h.fro.far_cells hb b l hf e), h.ko.then_ hk (fun k e => .inr (by omega))⟩
structure J (w wr : World) (f : Nat → Option PL) (N : Nat) (R : Nat → Prop) (ms : List Mod) (ds : List (Nat × MS)) : Prop where
  al : All w wr f N ms
  doc : ∀ d ∈ ds, RM wr (fun k => ¬ R k) d.1 N d.2 ∧ w.heap.size ≤ d.1
  rlt : ∀ k, R k → k < wr.heap.size
  own : ∀ m ∈ ms, ¬ R m.bn ∧ ¬ R m.bh
  dis : ds.Pairwise (fun a b => a.1 ≠ b.1)
theorem RM.blk {wr : World} {S : Nat → Prop} {rp N : Nat} {s : MS} (h : RM wr S rp N s) : ∃ cs, wr.heap[rp]? = some (.cells cs 119 (0, 0)) := by
  obtain ⟨_, _, _, _, _, h⟩ := h
  exact ⟨_, h.blk⟩
theorem RM.rp {wr : World} {S : Nat → Prop} {rp N : Nat} {s : MS} (h : RM wr S rp N s) : S rp := by
  obtain ⟨_, _, _, _, _, h⟩ := h
  exact h.rp
theorem RM.kept {wr W : World} {S S' : Nat → Prop} {rp N : Nat} {s : MS} (h : RM wr S rp N s) (hk : Kept wr W S') (hS : ∀ k, S' k → S k) (hr : ¬ S' rp) : RM W S rp N s := by
  obtain ⟨_, _, _, _, _, h⟩ := h
  exact ⟨_, _, _, _, _, h.kept hk hS hr⟩
theorem RM.mono {wr : World} {S : Nat → Prop} {rp N N' : Nat} {s : MS} (h : RM wr S rp N s) (hn : N ≤ N') : RM wr S rp N' s := by
  obtain ⟨_, _, _, _, _, h⟩ := h
  exact ⟨_, _, _, _, _, h.mono hn⟩
theorem RM.more {wr : World} {S S' : Nat → Prop} {rp N : Nat} {s : MS} (h : RM wr S rp N s) (hS : ∀ k, S' k → S k ∨ wr.heap.size ≤ k) (hr : S' rp) : RM wr S' rp N s := by
  obtain ⟨_, _, _, _, _, h⟩ := h
  exact ⟨_, _, _, _, _, h.more hS hr⟩
theorem J.perm {w wr : World} {f : Nat → Option PL} {N : Nat} {R : Nat → Prop} {ms ms' : List Mod} {ds ds' : List (Nat × MS)} (h : J w wr f N R ms ds) (p : ms.Perm ms') (q : ds.Perm ds') : J w wr f N R ms' ds' :=
  ⟨h.al.perm p, fun d hd => h.doc d (q.mem_iff.2 hd), h.rlt, fun m hm => h.own m (p.mem_iff.2 hm), q.pairwise h.dis (fun e => Ne.symm e)⟩
theorem J.below {w wr W : World} {f : Nat → Option PL} {N : Nat} {R : Nat → Prop} {ms : List Mod} {ds : List (Nat × MS)} (h : J w wr f N R ms ds) (hB : Below wr.heap.size wr W) : J w W f N R ms ds :=
  ⟨h.al.below hB, fun d hd => ⟨(h.doc d hd).1.kept (Kept.of_below hB (fun _ => False)) (fun _ e => e.elim) (fun e => e), (h.doc d hd).2⟩, fun k hk => Nat.lt_of_lt_of_le (h.rlt k hk) hB.size, h.own, h.dis⟩
theorem J.mono {w wr : World} {f : Nat → Option PL} {N N' : Nat} {R : Nat → Prop} {ms : List Mod} {ds : List (Nat × MS)} (h : J w wr f N R ms ds) (hn : N ≤ N') : J w wr f N' R ms ds :=
  ⟨h.al.mono hn, fun d hd => ⟨(h.doc d hd).1.mono hn, (h.doc d hd).2⟩, h.rlt, h.own, h.dis⟩
/-- A block of the law's own is written. -/
theorem J.far {w wr W : World} {f : Nat → Option PL} {N : Nat} {R : Nat → Prop} {ms : List Mod} {ds : List (Nat × MS)} (h : J w wr f N R ms ds) {g : Nat} (hk : KO wr W (fun k => k = g)) (hg : w.heap.size ≤ g) (hR : ¬ R g) {cs : Array Value} {T : TypeId} {fr : Nat × Nat} (hb : wr.heap[g]? = some (.cells cs T fr)) (hT : T ≠ 100) (hT2 : T ≠ 119) : J w W f N R ms ds :=
  ⟨h.al.far hk hg hb hT, fun d hd => ⟨(h.doc d hd).1.kept hk.kept (fun k e => by rw [e]; exact hR) (fun e => by
    obtain ⟨cs2, h2⟩ := (h.doc d hd).1.blk
    rw [e, hb] at h2
    simp only [Option.some.injEq, Obj.cells.injEq] at h2
    exact hT2 h2.2.1), (h.doc d hd).2⟩, fun k e => Nat.lt_of_lt_of_le (h.rlt k e) hk.kept.1, h.own, h.dis⟩
/-- A model of the program steps. -/
theorem J.prog {w wr w1 : World} {f : Nat → Option PL} {N N' : Nat} {R : Nat → Prop} {m : Mod} {r : List Mod} {ds : List (Nat × MS)} {s' : MS} (h : J w wr f N R (m :: r) ds) (hL : Left wr w1 f N' m.gp m.bn m.bh s'.multi s'.now s'.held m.own) (hn : N ≤ N') : ∃ f', J w w1 f' N' R (m.to s' :: r) ds := by
  obtain ⟨f', hA⟩ := h.al.step hL hn
  have hm := h.al.pm m (by simp)
  obtain ⟨_, _, _, _, hK⟩ := hL
  refine ⟨f', hA, fun d hd => ⟨((h.doc d hd).1.kept hK.kept (fun k e => ?_) (fun e => ?_)).mono hn, (h.doc d hd).2⟩, fun k e => Nat.lt_of_lt_of_le (h.rlt k e) hK.kept.1, fun x hx => ?_, h.dis⟩
  · have := h.own m (by simp)
    rcases e with e | e
    · rw [e]; exact this.1
    · rw [e]; exact this.2
  · obtain ⟨cs, hb⟩ := (h.doc d hd).1.blk
    have := hm.1.far_cells hb (by decide)
    rcases e with e | e
    · exact this.2.1 e.symm
    · exact this.2.2 e.symm
  · rcases List.mem_cons.1 hx with rfl | hx
    · exact h.own m (by simp)
    · exact h.own x (by simp [hx])
/-- A model of the document steps. -/
theorem J.docs {w wr w1 : World} {f : Nat → Option PL} {N N' : Nat} {R : Nat → Prop} {ms : List Mod} {rp : Nat} {s s' : MS} {r : List (Nat × MS)} (h : J w wr f N R ms ((rp, s) :: r)) (hD : ∃ A c B d hs, RMd w1 (fun k => ¬ R k ∧ k < wr.heap.size) rp N' s' A c B d hs) (hK : KO wr w1 (fun k => k = rp)) (hn : N ≤ N') : ∃ R', J w w1 f N' R' ms ((rp, s') :: r) ∧ ∀ k, R' k → R k ∨ wr.heap.size ≤ k := by
  have h0 := h.doc (rp, s) (by simp)
  obtain ⟨cs, hb⟩ := h0.1.blk
  have hrp : rp < wr.heap.size := blk_lt hb
  have hR : ¬ R rp := h0.1.rp
  have hz := hK.kept.1
  refine ⟨fun k => R k ∨ (wr.heap.size ≤ k ∧ k < w1.heap.size), ⟨(h.al.far hK h0.2 hb (by decide)).mono hn, fun d hd => ?_, fun k e => ?_, fun m hm => ?_, ?_⟩, fun k e => e.imp id (fun e => e.1)⟩
  · rcases List.mem_cons.1 hd with rfl | hd
    · exact ⟨RM.more (S' := fun k => ¬ (R k ∨ (wr.heap.size ≤ k ∧ k < w1.heap.size))) hD (fun k e => by
        by_cases h1 : k < wr.heap.size
        · exact .inl ⟨fun e2 => e (.inl e2), h1⟩
        · exact .inr (by
            by_cases h2 : k < w1.heap.size
            · exact absurd (.inr ⟨by omega, h2⟩) e
            · omega)) (fun e => by
        rcases e with e | e
        · exact hR e
        · have := e.1; omega), h0.2⟩
    · have hne : rp ≠ d.1 := (List.pairwise_cons.1 h.dis).1 d hd
      have h2 := (h.doc d (by simp [hd])).1.kept hK.kept (fun k e => by rw [e]; exact hR) (fun e => hne e.symm)
      obtain ⟨cs3, hb3⟩ := (h.doc d (by simp [hd])).1.blk
      have hlt : d.1 < wr.heap.size := blk_lt hb3
      exact ⟨(h2.more (S' := fun k => ¬ (R k ∨ (wr.heap.size ≤ k ∧ k < w1.heap.size))) (fun k e => .inl (fun e2 => e (.inl e2))) (fun e => by
        rcases e with e | e
        · exact (h.doc d (by simp [hd])).1.rp e
        · have := e.1; omega)).mono hn, (h.doc d (by simp [hd])).2⟩
  · rcases e with e | e
    · exact Nat.lt_of_lt_of_le (h.rlt k e) hz
    · exact e.2
  · have hm2 := h.own m hm
    have hp := (h.al.pm m hm).1
    have l1 := hp.now.lt
    have l2 := hp.held.1.lt
    exact ⟨fun e => by rcases e with e | e; exact hm2.1 e; have := e.1; omega, fun e => by rcases e with e | e; exact hm2.2 e; have := e.1; omega⟩
  · exact List.pairwise_cons.2 ⟨fun d hd => (List.pairwise_cons.1 h.dis).1 d hd, (List.pairwise_cons.1 h.dis).2⟩
end Go.Proofs.Ytngocadnbpdnoaa.Mo
namespace Go.Proofs.Ytngocadnbpdnoaa.Mo
open Go Go.Maps Go.RowKit Go.Proofs.Ytngocadnbpdnoaa.Srt Go.Proofs.Ytngocadnbpdnoaa.Q Go.Proofs.YtngocadnbpdnoaaW.PrintWords Go.Proofs.YtngocadnbpdnoaaW.PrintLast Go.Proofs.YtngocadnbpdnoaaW.PrintMore
set_option linter.unusedVariables false
set_option linter.unusedSimpArgs false
theorem fill_set {α : Type} (X : List α) (z : α) (i : Nat) (hi : i < X.length) : (X.take i ++ List.replicate (X.length - i) z).set i X[i] = X.take (i + 1) ++ List.replicate (X.length - (i + 1)) z := by
  refine List.ext_getElem (by simp; omega) fun j h1 h2 => ?_
  rw [List.getElem_set]
  by_cases e : i = j
  · subst e
    rw [if_pos rfl, List.getElem_append_left (by simp; omega), List.getElem_take]
  · rw [if_neg e]
    by_cases hj : j < i
    · rw [List.getElem_append_left (by simp; omega), List.getElem_append_left (by simp; omega), List.getElem_take, List.getElem_take]
    · rw [List.getElem_append_right (by simp; omega), List.getElem_append_right (by simp; omega), List.getElem_replicate, List.getElem_replicate]
theorem fill_start {α : Type} (X : List α) (z : α) : List.replicate X.length z = X.take 0 ++ List.replicate (X.length - 0) z := by simp
theorem fill_end {α : Type} (X : List α) (z : α) : X.take X.length ++ List.replicate (X.length - X.length) z = X := by simp
def marksU : List Int := (List.range 9).map fun j : Nat => 2305843009213693952 + (j : Int)
def marksP : List SP := (List.range 9).map fun j : Nat => ⟨2305843009213693952 + (j : Int), 0⟩
theorem marksU_len : marksU.length = 9 := by simp [marksU]
theorem marksP_len : marksP.length = 9 := by simp [marksP]
end Go.Proofs.Ytngocadnbpdnoaa.Mo
namespace Go.Proofs.Ytngocadnbpdnoaa.Mo
open Go Go.Maps Go.RowKit Go.Proofs.Ytngocadnbpdnoaa.Srt Go.Proofs.Ytngocadnbpdnoaa.Q Go.Proofs.YtngocadnbpdnoaaW.PrintWords Go.Proofs.YtngocadnbpdnoaaW.PrintLast Go.Proofs.YtngocadnbpdnoaaW.PrintMore
set_option linter.unusedVariables false
set_option linter.unusedSimpArgs false
set_option maxRecDepth 100000 in
set_option maxHeartbeats 8000000 in
theorem handU_c (A : Option Addr) (c : Nat) (l : List (Int)) (w : World) (hC : Kd.C (Kd.int .u64) w A l.length l) (hc : l.length ≤ c) (hl : l.length ≤ 1099511627776) :
    Calls Try.prog 86 #[.slice A l.length c] w fun e w' => ∃ g cp, e = .returned (.slice (some ⟨g, 0, none⟩) l.length cp) ∧ l.length + 9 ≤ cp ∧ w.heap.size ≤ g ∧ Kd.R (Kd.int .u64) 23 w' w.heap.size (fun _ => True) (.slice (some ⟨g, 0, none⟩) (l.length + 9) cp) (l ++ marksU) ∧ Below w.heap.size w w' := by
  have HC := Lib.hid hC
  have HL := Lib.hid hl
  obtain ⟨n, hn⟩ : ∃ n, n = l.length := ⟨_, rfl⟩
  obtain ⟨X, hX⟩ : ∃ X, X = l ++ marksU := ⟨_, rfl⟩
  have hXl : X.length = n + 9 := by rw [hX, List.length_append, marksU_len, hn]
  have HX := Lib.hid hX
  have HXL := Lib.hid hXl
  have HN := Lib.hid hn
  have hln : n ≤ 1099511627776 := by omega
  rw [← hn] at HC HL hc ⊢
  rw [← hX]
  have hu := Try.underlying37
  have h09 : (0 : Int) ≤ ((n + 9 : Nat) : Int) := by omega
  have h98 : ((n + 9 : Nat) : Int).toNat * 8 ≤ 281474976710656 := by rw [Int.toNat_natCast]; have := HL.out; omega
  have hw9 : IntKind.i64.wrap ((n : Int) + 9) = ((n + 9 : Nat) : Int) := by rw [i64_w]; unfold wrap64; have := HL.out; omega
  clear hC hl hX hXl hn
  go_enter Try.func86, Try.ntmps86
  go_wp2_with (first | ((with_reducible refine gate_dst (N := 9) rfl ?_); refine Kd.R_make (Kd.int .u64) _ 23 rfl (N := 9) rfl 37 _ _ rfl ((n + 9 : Nat) : Int) rfl rfl hu (.int .u64 0) 8 infoU rfl (by decide) (by decide) 0 (ok := fun _ => True) (okp := fun _ => True) rfl (fun _ hk => hk) trivial h09 h98 (Below.refl _ _) (Nat.le_refl _) ?_; intro v1 w1 hR1 hB1 hG1 hO1; rw [Int.toNat_natCast] at hR1; have HR1 := Lib.hid hR1; have HB1 := Lib.hid hB1; have HO1 := Lib.hid hO1; clear hR1 hB1 hG1 hO1))
  obtain ⟨A1, cp, rfl⟩ := Kd.R_slice HR1.out
  rw [List.length_replicate] at HR1 ⊢
  have HG : Hid (∃ g, A1 = some ⟨g, 0, none⟩ ∧ w.heap.size ≤ g) := Lib.hid (by
    obtain ⟨g, co, e1, gb, _⟩ := Kd.R_form HR1.out (by simp)
    injection e1 with e1 _ _
    exact ⟨g, e1, gb⟩)
  obtain ⟨g, rfl, hg⟩ := HG.out
  have HGB := Lib.hid hg
  clear HO1 HG hg hw9 h09 h98
  go_loopw [4] (fun v4 wr => ∃ i : Nat, v4 = .int .i64 i ∧ i ≤ n ∧ Hid (Kd.R (Kd.int .u64) 23 wr w.heap.size (fun _ => True) (.slice (some ⟨g, 0, none⟩) (n + 9) cp) (X.take i ++ List.replicate (X.length - i) 0)) ∧ Hid (Below w.heap.size w wr)) (fun v4 _ => n - (intOf v4).toNat)
  case atStart => exact ⟨0, rfl, Nat.zero_le _, Lib.hid (by rw [← fill_start, HXL.out]; exact HR1.out), HB1⟩
  case round =>
    clear HR1 HB1
    obtain ⟨i, rfl, hi, HR, HB⟩ := hrel
    by_cases hlt : i < n
    · have h0i : (0 : Int) ≤ (i : Int) := by omega
      have hin : (i : Int) < ((n + 9 : Nat) : Int) := by omega
      have hin2 : (i : Int) < (n : Int) + 9 := by omega
      have hll : i < l.length := by have := HN.out; omega
      have hiX : i < X.length := by rw [HXL.out]; omega
      obtain ⟨row, hrow⟩ : ∃ row, row = X.take i ++ List.replicate (X.length - i) 0 := ⟨_, rfl⟩
      rw [← hrow] at HR
      have HROW := Lib.hid hrow
      clear hrow
      obtain ⟨ad, rfl, y0⟩ := Kd.at_int (Kd.C_below HC.out HB.out) (i : Int) h0i (by omega)
      obtain ⟨x, hx⟩ : ∃ x, l[i]? = some x := ⟨_, List.getElem?_eq_getElem hll⟩
      rw [Int.toNat_natCast, show rd l (i : Int) = x by simp [rd, rdOf, List.getD_eq_getElem?_getD, hx]] at y0
      have HQ := Lib.hid hx
      clear hx
      have HLL := Lib.hid hll
      have HIX := Lib.hid hiX
      clear hll hiX
      go_wp2_with (first
          | ((with_reducible refine gate_store (t := 23) (p := 22) rfl ?_)
             obtain ⟨cc, hcc1, hcc2, hcc3, -⟩ := Kd.R_elem HR.out 0 (i : Int) h0i hin
             refine Kd.R_store (Kd.int .u64) (w0 := w) w.heap.size rfl rfl 23 (.tmp 22) (.tmp 21) rfl 23 (i : Int) 0 row x (.int .u64 x) [.int .u64 x] cc (fun _ => True) (fun _ => False) rfl (by show i = (i : Int).toNat * 1 + 0; simp) rfl rfl (by kernel_rfl) (by intro q hq; simp at hq; rcases hq with rfl; rfl) HR.out h0i hin hcc1 hcc3 (Nat.le_of_eq (Nat.zero_add _)) ?hM (fun _ e => e.elim) HB.out ?_
             (case hM => (rw [List.take_zero, List.nil_append, List.drop_eq_nil_of_le (by rw [hcc1]; exact Nat.le_of_eq (Nat.zero_add _).symm), List.append_nil]; exact rfl))
             intro w4 hr4 hb4 hg4
             have HR4 := Lib.hid hr4
             have HB4 := Lib.hid hb4
             clear hr4 hb4 hg4 hcc1 hcc2 hcc3))
      go_roundw
      case rel => exact ⟨i + 1, by go_num, by omega, Lib.hid (by
        have e : row.set (i : Int).toNat x = X.take (i + 1) ++ List.replicate (X.length - (i + 1)) 0 := by
          rw [Int.toNat_natCast, HROW.out, ← fill_set X 0 i HIX.out]
          congr 1
          have : X[i]? = some x := by rw [HX.out, List.getElem?_append_left HLL.out]; exact HQ.out
          rw [List.getElem?_eq_getElem HIX.out] at this
          exact (Option.some.inj this).symm
        rw [← e]; exact HR4.out), HB4⟩
      case measure => simp [intOf]; omega
    · obtain rfl : i = n := by omega
      go_wp2_with fail
      go_loopw [5] (fun v5 wr => ∃ j : Nat, v5 = .int .i64 j ∧ i ≤ j ∧ j ≤ i + 9 ∧ Hid (Kd.R (Kd.int .u64) 23 wr w.heap.size (fun _ => True) (.slice (some ⟨g, 0, none⟩) (i + 9) cp) (X.take j ++ List.replicate (X.length - j) 0)) ∧ Hid (Below w.heap.size w wr)) (fun v5 _ => i + 9 - (intOf v5).toNat)
      case atStart => exact ⟨i, rfl, Nat.le_refl _, by omega, HR, HB⟩
      case round =>
        clear HR HB
        obtain ⟨j, rfl, hj1, hj2, HR, HB⟩ := hrel
        by_cases hjl : j < i + 9
        · have h0i : (0 : Int) ≤ (j : Int) := by omega
          have hin : (j : Int) < ((i + 9 : Nat) : Int) := by omega
          have hin2 : (j : Int) < (i : Int) + 9 := by omega
          have hjX : j < X.length := by rw [HXL.out]; omega
          obtain ⟨row, hrow⟩ : ∃ row, row = X.take j ++ List.replicate (X.length - j) 0 := ⟨_, rfl⟩
          rw [← hrow] at HR
          have HROW := Lib.hid hrow
          have HJX := Lib.hid hjX
          clear hrow hjX
          go_wp2_with (first
          | ((with_reducible refine gate_store (t := 23) (p := 39) rfl ?_)
             obtain ⟨cc, hcc1, hcc2, hcc3, -⟩ := Kd.R_elem HR.out 0 (j : Int) h0i hin
             refine Kd.R_store (Kd.int .u64) (w0 := w) w.heap.size rfl rfl 23 (.tmp 39) (.tmp 38) rfl 23 (j : Int) 0 row (2305843009213693952 + (j : Int) - (i : Int)) (.int .u64 (2305843009213693952 + (j : Int) - (i : Int))) [.int .u64 (2305843009213693952 + (j : Int) - (i : Int))] cc (fun _ => True) (fun _ => False) rfl (by show j = (j : Int).toNat * 1 + 0; simp) rfl rfl (by kernel_rfl) (by intro q hq; simp at hq; rcases hq with rfl; rfl) HR.out h0i hin hcc1 hcc3 (Nat.le_of_eq (Nat.zero_add _)) ?hM (fun _ e => e.elim) HB.out ?_
             (case hM => (rw [List.take_zero, List.nil_append, List.drop_eq_nil_of_le (by rw [hcc1]; exact Nat.le_of_eq (Nat.zero_add _).symm), List.append_nil]; exact rfl))
             intro w4 hr4 hb4 hg4
             have HR4 := Lib.hid hr4
             have HB4 := Lib.hid hb4
             clear hr4 hb4 hg4 hcc1 hcc2 hcc3))
          go_roundw
          case rel => exact ⟨j + 1, by go_num, by omega, by omega, Lib.hid (by
            have e : row.set (j : Int).toNat (2305843009213693952 + (j : Int) - (i : Int)) = X.take (j + 1) ++ List.replicate (X.length - (j + 1)) 0 := by
              rw [Int.toNat_natCast, HROW.out, ← fill_set X 0 j HJX.out]
              congr 1
              rw [show (2305843009213693952 + (j : Int) - (i : Int)) = 2305843009213693952 + ((j - i : Nat) : Int) by omega]
              have : X[j]? = some (2305843009213693952 + ((j - i : Nat) : Int)) := by
                rw [HX.out, List.getElem?_append_right (by have := HN.out; omega), ← HN.out]
                simp [marksU, List.getElem?_map, List.getElem?_range (show j - i < 9 by omega)]
              rw [List.getElem?_eq_getElem HJX.out] at this
              exact (Option.some.inj this).symm
            rw [← e]; exact HR4.out), HB4⟩
          case measure => simp [intOf]; omega
        · obtain rfl : j = i + 9 := by omega
          have HRX : Hid (Kd.R (Kd.int .u64) 23 wr w.heap.size (fun _ => True) (.slice (some ⟨g, 0, none⟩) (i + 9) cp) X) := Lib.hid (by
            have := HR.out
            rw [← HXL.out, fill_end] at this
            rw [← HXL.out]; exact this)
          have hcp := (Kd.R_reads' HRX.out).2.1
          obtain ⟨i0, hi0, _, hsz0, _⟩ := info_parts infoU
          have hcut := cut_to (P := Try.prog) 37 23 .i64 hu hi0 (some ⟨g, 0, none⟩) (i + 9) cp (i : Int) (by omega) (by omega) hcp
          replace hcut : ∀ W : World, (Instr.slice 37 (.slice (some ⟨g, 0, none⟩) (i + 9) cp) none (some (.int .i64 (i : Int))) none).run Try.prog W = .ok (.slice (some ⟨g, 0, none⟩) i cp) W := by simpa only [Int.toNat_natCast] using hcut
          clear hi0 hsz0 HR
          go_wp2_with fail
          go_ret
          exact ⟨g, cp, rfl, hcp, HGB.out, HRX.out, HB.out⟩
end Go.Proofs.Ytngocadnbpdnoaa.Mo
namespace Go.Proofs.Ytngocadnbpdnoaa.Mo
open Go Go.Maps Go.RowKit Go.Proofs.Ytngocadnbpdnoaa.Srt Go.Proofs.Ytngocadnbpdnoaa.Q Go.Proofs.YtngocadnbpdnoaaW.PrintWords Go.Proofs.YtngocadnbpdnoaaW.PrintLast Go.Proofs.YtngocadnbpdnoaaW.PrintMore
set_option linter.unusedVariables false
set_option linter.unusedSimpArgs false
set_option maxRecDepth 100000 in
set_option maxHeartbeats 8000000 in
theorem handP_c (A : Option Addr) (c : Nat) (l : List (SP)) (w : World) (hC : Kd.C kSP w A l.length l) (hc : l.length ≤ c) (hl : l.length ≤ 1099511627776) :
    Calls Try.prog 87 #[.slice A l.length c] w fun e w' => ∃ g cp, e = .returned (.slice (some ⟨g, 0, none⟩) l.length cp) ∧ l.length + 9 ≤ cp ∧ w.heap.size ≤ g ∧ Kd.R kSP 90 w' w.heap.size (fun _ => True) (.slice (some ⟨g, 0, none⟩) (l.length + 9) cp) (l ++ marksP) ∧ Below w.heap.size w w' := by
  have HC := Lib.hid hC
  have HL := Lib.hid hl
  obtain ⟨n, hn⟩ : ∃ n, n = l.length := ⟨_, rfl⟩
  obtain ⟨X, hX⟩ : ∃ X, X = l ++ marksP := ⟨_, rfl⟩
  have hXl : X.length = n + 9 := by rw [hX, List.length_append, marksP_len, hn]
  have HX := Lib.hid hX
  have HXL := Lib.hid hXl
  have HN := Lib.hid hn
  have hln : n ≤ 1099511627776 := by omega
  rw [← hn] at HC HL hc ⊢
  rw [← hX]
  have hu := Try.underlying24
  have h09 : (0 : Int) ≤ ((n + 9 : Nat) : Int) := by omega
  have h98 : ((n + 9 : Nat) : Int).toNat * 16 ≤ 281474976710656 := by rw [Int.toNat_natCast]; have := HL.out; omega
  have hw9 : IntKind.i64.wrap ((n : Int) + 9) = ((n + 9 : Nat) : Int) := by rw [i64_w]; unfold wrap64; have := HL.out; omega
  clear hC hl hX hXl hn
  go_enter Try.func87, Try.ntmps87
  go_wp2_with (first | ((with_reducible refine gate_dst (N := 9) rfl ?_); refine Kd.R_make kSP _ 90 rfl (N := 9) rfl 24 _ _ rfl ((n + 9 : Nat) : Int) rfl rfl hu (.agg #[.int .u64 0, .int .u64 0]) 16 info90 rfl (by decide) (by decide) (⟨0, 0⟩ : SP) (ok := fun _ => True) (okp := fun _ => True) (k90_mkM _ _ _ (⟨0, 0⟩ : SP)) (fun _ hk => hk) trivial h09 h98 (Below.refl _ _) (Nat.le_refl _) ?_; intro v1 w1 hR1 hB1 hG1 hO1; rw [Int.toNat_natCast] at hR1; have HR1 := Lib.hid hR1; have HB1 := Lib.hid hB1; have HO1 := Lib.hid hO1; clear hR1 hB1 hG1 hO1))
  obtain ⟨A1, cp, rfl⟩ := Kd.R_slice HR1.out
  rw [List.length_replicate] at HR1 ⊢
  have HG : Hid (∃ g, A1 = some ⟨g, 0, none⟩ ∧ w.heap.size ≤ g) := Lib.hid (by
    obtain ⟨g, co, e1, gb, _⟩ := Kd.R_form HR1.out (by simp)
    injection e1 with e1 _ _
    exact ⟨g, e1, gb⟩)
  obtain ⟨g, rfl, hg⟩ := HG.out
  have HGB := Lib.hid hg
  clear HO1 HG hg hw9 h09 h98
  go_loopw [4] (fun v4 wr => ∃ i : Nat, v4 = .int .i64 i ∧ i ≤ n ∧ Hid (Kd.R kSP 90 wr w.heap.size (fun _ => True) (.slice (some ⟨g, 0, none⟩) (n + 9) cp) (X.take i ++ List.replicate (X.length - i) (⟨0, 0⟩ : SP))) ∧ Hid (Below w.heap.size w wr)) (fun v4 _ => n - (intOf v4).toNat)
  case atStart => exact ⟨0, rfl, Nat.zero_le _, Lib.hid (by rw [← fill_start, HXL.out]; exact HR1.out), HB1⟩
  case round =>
    clear HR1 HB1
    obtain ⟨i, rfl, hi, HR, HB⟩ := hrel
    by_cases hlt : i < n
    · have h0i : (0 : Int) ≤ (i : Int) := by omega
      have hin : (i : Int) < ((n + 9 : Nat) : Int) := by omega
      have hin2 : (i : Int) < (n : Int) + 9 := by omega
      have hll : i < l.length := by have := HN.out; omega
      have hiX : i < X.length := by rw [HXL.out]; omega
      obtain ⟨row, hrow⟩ : ∃ row, row = X.take i ++ List.replicate (X.length - i) (⟨0, 0⟩ : SP) := ⟨_, rfl⟩
      rw [← hrow] at HR
      have HROW := Lib.hid hrow
      clear hrow
      obtain ⟨ad, c9, e9, _, hK, hc0⟩ := Kd.C_get (Kd.C_below HC.out HB.out) (⟨0, 0⟩ : SP) (i : Int) h0i (by omega)
      subst e9
      obtain ⟨x, hx⟩ : ∃ x, l[i]? = some x := ⟨_, List.getElem?_eq_getElem hll⟩
      have e8 : l.getD (i : Int).toNat (⟨0, 0⟩ : SP) = x := by rw [Int.toNat_natCast]; simp [List.getD_eq_getElem?_getD, hx]
      rw [e8] at hK
      obtain rfl : c9 = [.int .u64 x.f0, .int .u64 x.f1] := k90_open hK
      have y0 := hc0 0 _ rfl
      have y1 := hc0 1 _ rfl
      rw [Int.toNat_natCast] at y0 y1
      rw [show (kSP).sz = 2 from rfl] at y0 y1
      replace y0 : wr.cell? (ad.add (i * 2)) = some (.int .u64 x.f0) := y0
      replace y1 : wr.cell? ⟨(ad.add (i * 2)).block, (ad.add (i * 2)).off + 1, none⟩ = some (.int .u64 x.f1) := by rw [← add_field _ _ 1 (by omega)]; exact y1
      have HQ := Lib.hid hx
      clear hx e8 hK hc0
      have HLL := Lib.hid hll
      have HIX := Lib.hid hiX
      clear hll hiX
      go_wp2_with (first
          | ((with_reducible refine gate_store (t := 90) (p := 22) rfl ?_)
             obtain ⟨cc, hcc1, hcc2, hcc3, -⟩ := Kd.R_elem HR.out (⟨0, 0⟩ : SP) (i : Int) h0i hin
             refine Kd.R_store kSP (w0 := w) w.heap.size rfl rfl 90 (.tmp 22) (.tmp 21) rfl 90 (i : Int) 0 row x (.agg #[.int .u64 x.f0, .int .u64 x.f1]) [.int .u64 x.f0, .int .u64 x.f1] cc (fun _ => True) (fun _ => False) rfl (by show i * 2 = (i : Int).toNat * 2 + 0; simp) rfl rfl (by kernel_rfl) (by intro q hq; simp at hq; rcases hq with rfl | rfl <;> rfl) HR.out h0i hin hcc1 hcc3 (Nat.le_of_eq (Nat.zero_add _)) ?hM (fun _ e => e.elim) HB.out ?_
             (case hM => (rw [List.take_zero, List.nil_append, List.drop_eq_nil_of_le (by rw [hcc1]; exact Nat.le_of_eq (Nat.zero_add _).symm), List.append_nil]; exact k90_mkM _ _ _ x))
             intro w4 hr4 hb4 hg4
             have HR4 := Lib.hid hr4
             have HB4 := Lib.hid hb4
             clear hr4 hb4 hg4 hcc1 hcc2 hcc3))
      go_roundw
      case rel => exact ⟨i + 1, by go_num, by omega, Lib.hid (by
        have e : row.set (i : Int).toNat x = X.take (i + 1) ++ List.replicate (X.length - (i + 1)) (⟨0, 0⟩ : SP) := by
          rw [Int.toNat_natCast, HROW.out, ← fill_set X (⟨0, 0⟩ : SP) i HIX.out]
          congr 1
          have : X[i]? = some x := by rw [HX.out, List.getElem?_append_left HLL.out]; exact HQ.out
          rw [List.getElem?_eq_getElem HIX.out] at this
          exact (Option.some.inj this).symm
        rw [← e]; exact HR4.out), HB4⟩
      case measure => simp [intOf]; omega
    · obtain rfl : i = n := by omega
      go_wp2_with fail
      go_loopw [5] (fun v5 wr => ∃ j : Nat, v5 = .int .i64 j ∧ i ≤ j ∧ j ≤ i + 9 ∧ Hid (Kd.R kSP 90 wr w.heap.size (fun _ => True) (.slice (some ⟨g, 0, none⟩) (i + 9) cp) (X.take j ++ List.replicate (X.length - j) (⟨0, 0⟩ : SP))) ∧ Hid (Below w.heap.size w wr)) (fun v5 _ => i + 9 - (intOf v5).toNat)
      case atStart => exact ⟨i, rfl, Nat.le_refl _, by omega, HR, HB⟩
      case round =>
        clear HR HB
        obtain ⟨j, rfl, hj1, hj2, HR, HB⟩ := hrel
        by_cases hjl : j < i + 9
        · have h0i : (0 : Int) ≤ (j : Int) := by omega
          have hin : (j : Int) < ((i + 9 : Nat) : Int) := by omega
          have hin2 : (j : Int) < (i : Int) + 9 := by omega
          have hjX : j < X.length := by rw [HXL.out]; omega
          obtain ⟨row, hrow⟩ : ∃ row, row = X.take j ++ List.replicate (X.length - j) (⟨0, 0⟩ : SP) := ⟨_, rfl⟩
          rw [← hrow] at HR
          have HROW := Lib.hid hrow
          have HJX := Lib.hid hjX
          clear hrow hjX
          go_wp2_with (first
          | ((with_reducible refine gate_store (t := 90) (p := 40) rfl ?_)
             obtain ⟨cc, hcc1, hcc2, hcc3, -⟩ := Kd.R_elem HR.out (⟨0, 0⟩ : SP) (j : Int) h0i hin
             refine Kd.R_store kSP (w0 := w) w.heap.size rfl rfl 90 (.tmp 40) (.tmp 39) rfl 90 (j : Int) 0 row (⟨(2305843009213693952 + (j : Int) - (i : Int)), 0⟩ : SP) (.agg #[.int .u64 (2305843009213693952 + (j : Int) - (i : Int)), .int .u64 0]) [.int .u64 (2305843009213693952 + (j : Int) - (i : Int)), .int .u64 0] cc (fun _ => True) (fun _ => False) rfl (by show j * 2 = (j : Int).toNat * 2 + 0; simp) rfl rfl (by kernel_rfl) (by intro q hq; simp at hq; rcases hq with rfl | rfl <;> rfl) HR.out h0i hin hcc1 hcc3 (Nat.le_of_eq (Nat.zero_add _)) ?hM (fun _ e => e.elim) HB.out ?_
             (case hM => (rw [List.take_zero, List.nil_append, List.drop_eq_nil_of_le (by rw [hcc1]; exact Nat.le_of_eq (Nat.zero_add _).symm), List.append_nil]; exact k90_mkM _ _ _ (⟨(2305843009213693952 + (j : Int) - (i : Int)), 0⟩ : SP)))
             intro w4 hr4 hb4 hg4
             have HR4 := Lib.hid hr4
             have HB4 := Lib.hid hb4
             clear hr4 hb4 hg4 hcc1 hcc2 hcc3))
          go_roundw
          case rel => exact ⟨j + 1, by go_num, by omega, by omega, Lib.hid (by
            have e : row.set (j : Int).toNat (⟨(2305843009213693952 + (j : Int) - (i : Int)), 0⟩ : SP) = X.take (j + 1) ++ List.replicate (X.length - (j + 1)) (⟨0, 0⟩ : SP) := by
              rw [Int.toNat_natCast, HROW.out, ← fill_set X (⟨0, 0⟩ : SP) j HJX.out]
              congr 1
              rw [show (2305843009213693952 + (j : Int) - (i : Int)) = 2305843009213693952 + ((j - i : Nat) : Int) by omega]
              have : X[j]? = some (⟨(2305843009213693952 + ((j - i : Nat) : Int)), 0⟩ : SP) := by
                rw [HX.out, List.getElem?_append_right (by have := HN.out; omega), ← HN.out]
                simp [marksP, List.getElem?_map, List.getElem?_range (show j - i < 9 by omega)]
              rw [List.getElem?_eq_getElem HJX.out] at this
              exact (Option.some.inj this).symm
            rw [← e]; exact HR4.out), HB4⟩
          case measure => simp [intOf]; omega
        · obtain rfl : j = i + 9 := by omega
          have HRX : Hid (Kd.R kSP 90 wr w.heap.size (fun _ => True) (.slice (some ⟨g, 0, none⟩) (i + 9) cp) X) := Lib.hid (by
            have := HR.out
            rw [← HXL.out, fill_end] at this
            rw [← HXL.out]; exact this)
          have hcp := (Kd.R_reads' HRX.out).2.1
          obtain ⟨i0, hi0, _, hsz0, _⟩ := info_parts info90
          have hcut := cut_to (P := Try.prog) 24 90 .i64 hu hi0 (some ⟨g, 0, none⟩) (i + 9) cp (i : Int) (by omega) (by omega) hcp
          replace hcut : ∀ W : World, (Instr.slice 24 (.slice (some ⟨g, 0, none⟩) (i + 9) cp) none (some (.int .i64 (i : Int))) none).run Try.prog W = .ok (.slice (some ⟨g, 0, none⟩) i cp) W := by simpa only [Int.toNat_natCast] using hcut
          clear hi0 hsz0 HR
          go_wp2_with fail
          go_ret
          exact ⟨g, cp, rfl, hcp, HGB.out, HRX.out, HB.out⟩
end Go.Proofs.Ytngocadnbpdnoaa.Mo
namespace Go.Proofs.Ytngocadnbpdnoaa.Q
open Go.RowKit Go.Proofs.YtngocadnbpdnoaaW.PrintWords Go.Proofs.YtngocadnbpdnoaaW.PrintLast Go.Proofs.YtngocadnbpdnoaaW.PrintMore
attribute [local go_sem] max2_int min2_int max_two min_two max_three min_three max_four min_four   -- for this text's walks alone
set_option linter.unusedVariables false
set_option linter.unusedSimpArgs false

def shuttermem_SameUint64s.l0 : Nat → List Int → List Int → Int → Option (Bool)
  | 0, _, _, _ => none
  | k + 1, x0, x1, x5 => if x5 < (x0.length : Int) then (if 0 ≤ x5 then (if x5 < (x1.length : Int) then (if (rd x0 x5) = (rd x1 x5) then (shuttermem_SameUint64s.l0 k x0 x1 (wrap64 (x5 + 1))) else (some false)) else (none)) else (none)) else (some true)
def shuttermem_SameUint64s.f (k : Nat) (l0 : List Int) (l1 : List Int) : Option (Bool) := if (l0.length : Int) = (l1.length : Int) then (shuttermem_SameUint64s.l0 k l0 l1 0) else (some false)
theorem shuttermem_SameUint64s.mono_l : ∀ k, (∀ y0 y1 y2, LeO (shuttermem_SameUint64s.l0 k y0 y1 y2) (shuttermem_SameUint64s.l0 (k + 1) y0 y1 y2))
  | 0 => fun _ _ _ r h => by simp [shuttermem_SameUint64s.l0] at h
  | k + 1 => by
    have ih0 := shuttermem_SameUint64s.mono_l k
    · intro y0 y1 y2
      unfold shuttermem_SameUint64s.l0
      repeat' first
      | (with_reducible exact ih0 _ _ _)
      | (with_reducible exact LeO.refl _)
      | (with_reducible exact LeO.none _)
      | (with_reducible refine LeO.ite ?_ ?_)
      | (with_reducible refine LeO.bind ?_ (fun _ => ?_))
      | exact ih0 _ _ _
      | exact LeO.none _
      | refine LeO.ite ?_ ?_
      | refine LeO.bind ?_ (fun _ => ?_)
theorem shuttermem_SameUint64s.mono : ∀ a0 a1 k, LeO (shuttermem_SameUint64s.f k a0 a1) (shuttermem_SameUint64s.f (k + 1) a0 a1) := by
  intro a0 a1 k
  have ih0 := shuttermem_SameUint64s.mono_l k
  unfold shuttermem_SameUint64s.f
  repeat' first
      | (with_reducible exact ih0 _ _ _)
      | (with_reducible exact LeO.refl _)
      | (with_reducible exact LeO.none _)
      | (with_reducible refine LeO.ite ?_ ?_)
      | (with_reducible refine LeO.bind ?_ (fun _ => ?_))
      | exact ih0 _ _ _
      | exact LeO.none _
      | refine LeO.ite ?_ ?_
      | refine LeO.bind ?_ (fun _ => ?_)
set_option maxHeartbeats 8000000 in
set_option maxRecDepth 100000 in
theorem shuttermem_SameUint64s.calls (k : Nat) (A0 : Option Addr) (c0 : Nat) (l0 : List Int) (A1 : Option Addr) (c1 : Nat) (l1 : List Int) (r : Bool) (w : World) (hr0 : Kd.C (Kd.int .u64) w A0 l0.length l0) (hc0 : l0.length ≤ c0) (hr1 : Kd.C (Kd.int .u64) w A1 l1.length l1) (hc1 : l1.length ≤ c1) (h : shuttermem_SameUint64s.f k l0 l1 = some r) :
    Calls Try.prog 46 #[.slice A0 l0.length c0, .slice A1 l1.length c1] w fun e w' => e = .returned (.bool r) ∧ Drawn0 w w' := by
  have HR0 := Aside0.mk hr0
  have HC0 := Aside0.mk hc0
  clear hr0 hc0
  have HR1 := Aside0.mk hr1
  have HC1 := Aside0.mk hc1
  clear hr1 hc1
  have H : (if (l0.length : Int) = (l1.length : Int) then (shuttermem_SameUint64s.l0 k l0 l1 0) else (some false)) = some r := h
  clear h
  by_cases c3 : (l0.length : Int) = (l1.length : Int)
  · rw [if_pos c3] at H
    have c3b0 : ((l0.length : Int) == (l1.length : Int)) = true := beq_iff_eq.mpr c3
    have c3b1 : ((l0.length : Int) != (l1.length : Int)) = false := bne_eq_false_iff_eq.mpr c3
    have c3b2 : (l0.length == l1.length) = true := by first | simpa using c3 | (simp at c3 ⊢; omega)
    clear c3
    have H' := Aside0.mk H
    clear H
    go_enter Try.func46, Try.ntmps46
    go_wp2
    repeat (go_quiet (fail); try go_wp2)
    go_loopg [5] k (fun kq v5 w' => ∃ (x5_1 : Int), v5 = .int .i64 x5_1 ∧ Aside0 (shuttermem_SameUint64s.l0 kq l0 l1 x5_1 = some r) ∧ Aside0 (kq ≤ k) ∧ Drawn0 w w')
    case atStart => exact ⟨(0), (by first | rfl | (simp; done) | (simp [*]; done)), H', ⟨Nat.le_refl _⟩, by repeat (first | exact Drawn0.refl _ | apply Drawn0.step)⟩
    case round =>
      clear H'
      try clear c1
      try clear p2
      try clear c3
      try clear c3b0
      try clear c3b1
      try clear c3b2
      obtain ⟨x5_1, rfl, HA, HK1, ⟨m1, rfl⟩⟩ := hrel
      cases gk with
      | zero => exact absurd HA.out (by simp [shuttermem_SameUint64s.l0])
      | succ k1 =>
        have H := HA.out
        clear HA
        simp only [shuttermem_SameUint64s.l0] at H
        by_cases c4 : x5_1 < (l0.length : Int)
        · rw [if_pos c4] at H
          have c4b0 : decide (x5_1 < (l0.length : Int)) = true := decide_eq_true c4
          clear c4
          by_cases c5 : 0 ≤ x5_1
          · rw [if_pos c5] at H
            have c5b0 : decide (0 ≤ x5_1) = true := decide_eq_true c5
            clear c5
            by_cases c6 : x5_1 < (l1.length : Int)
            · rw [if_pos c6] at H
              have c6b0 : decide (x5_1 < (l1.length : Int)) = true := decide_eq_true c6
              clear c6
              by_cases c7 : (rd l0 x5_1) = (rd l1 x5_1)
              · rw [if_pos c7] at H
                have c7b0 : ((rd l0 x5_1) == (rd l1 x5_1)) = true := beq_iff_eq.mpr c7
                have c7b1 : ((rd l0 x5_1) != (rd l1 x5_1)) = false := bne_eq_false_iff_eq.mpr c7
                clear c7
                have H' := Aside0.mk H
                clear H
                have p113 : 0 ≤ (x5_1 : Int) := of_decide_eq_true (by first | (with_reducible assumption) | assumption)
                have q113 : x5_1 < (l0.length : Int) := of_decide_eq_true (by first | (with_reducible assumption) | assumption)
                obtain ⟨ad113, e113, hx113_0⟩ := Kd.at_int HR0.out x5_1 p113 q113
                cases e113
                replace p113 := eq_true p113
                replace q113 := eq_true q113
                have p114 : 0 ≤ (x5_1 : Int) := of_decide_eq_true (by first | (with_reducible assumption) | assumption)
                have q114 : x5_1 < (l1.length : Int) := of_decide_eq_true (by first | (with_reducible assumption) | assumption)
                obtain ⟨ad114, e114, hx114_0⟩ := Kd.at_int HR1.out x5_1 p114 q114
                cases e114
                replace p114 := eq_true p114
                replace q114 := eq_true q114
                go_wp2
                repeat (go_quiet (fail); try go_wp2)
                go_roundg k1
                case measure => have := HK1.out; omega
                case rel => exact ⟨(wrap64 (x5_1 + 1)), (by first | rfl | (simp; done) | (simp [*]; done)), H', ⟨by have := HK1.out; omega⟩, by repeat (first | exact Drawn0.refl _ | apply Drawn0.step)⟩
              · rw [if_neg c7] at H
                have c7b0 : ((rd l0 x5_1) == (rd l1 x5_1)) = false := beq_eq_false_iff_ne.mpr c7
                have c7b1 : ((rd l0 x5_1) != (rd l1 x5_1)) = true := bne_iff_ne.mpr c7
                obtain rfl := Option.some.inj H
                have p113 : 0 ≤ (x5_1 : Int) := of_decide_eq_true (by first | (with_reducible assumption) | assumption)
                have q113 : x5_1 < (l0.length : Int) := of_decide_eq_true (by first | (with_reducible assumption) | assumption)
                obtain ⟨ad113, e113, hx113_0⟩ := Kd.at_int HR0.out x5_1 p113 q113
                cases e113
                replace p113 := eq_true p113
                replace q113 := eq_true q113
                have p114 : 0 ≤ (x5_1 : Int) := of_decide_eq_true (by first | (with_reducible assumption) | assumption)
                have q114 : x5_1 < (l1.length : Int) := of_decide_eq_true (by first | (with_reducible assumption) | assumption)
                obtain ⟨ad114, e114, hx114_0⟩ := Kd.at_int HR1.out x5_1 p114 q114
                cases e114
                replace p114 := eq_true p114
                replace q114 := eq_true q114
                go_wp2
                repeat (go_quiet (fail); try go_wp2)
                go_ret
                exact ⟨by first | rfl | (simp; done) | (simp [*]; done), by repeat (first | exact Drawn0.refl _ | apply Drawn0.step)⟩
            · rw [if_neg c6] at H
              exact absurd H (by simp)
          · rw [if_neg c5] at H
            exact absurd H (by simp)
        · rw [if_neg c4] at H
          have c4b0 : decide (x5_1 < (l0.length : Int)) = false := decide_eq_false c4
          clear c4
          obtain rfl := Option.some.inj H
          go_wp2
          repeat (go_quiet (fail); try go_wp2)
          go_ret
          exact ⟨by first | rfl | (simp; done) | (simp [*]; done), by repeat (first | exact Drawn0.refl _ | apply Drawn0.step)⟩
  · rw [if_neg c3] at H
    have c3b0 : ((l0.length : Int) == (l1.length : Int)) = false := beq_eq_false_iff_ne.mpr c3
    have c3b1 : ((l0.length : Int) != (l1.length : Int)) = true := bne_iff_ne.mpr c3
    have c3b2 : (l0.length == l1.length) = false := by first | simpa using c3 | (simp at c3 ⊢; omega)
    obtain rfl := Option.some.inj H
    go_enter Try.func46, Try.ntmps46
    go_wp2
    repeat (go_quiet (fail); try go_wp2)
    go_ret
    exact ⟨by first | rfl | (simp; done) | (simp [*]; done), by repeat (first | exact Drawn0.refl _ | apply Drawn0.step)⟩

/-- THE ONE PURE STATEMENT of shuttermem_SameUint64s: yours. -/
def shuttermem_SameUint64s.Pure : Prop := ∀ (l0 : List Int) (l1 : List Int), l0.length ≤ maxLen → l0.length * 8 ≤ 140737488351232 → (∀ x ∈ l0, (Lit.int .u64 x).wf = true) → l1.length ≤ maxLen → l1.length * 8 ≤ 140737488351232 → (∀ x ∈ l1, (Lit.int .u64 x).wf = true) → ∃ k, shuttermem_SameUint64s.f k l0 l1 = some true
theorem shuttermem_SameUint64s.walk (P : shuttermem_SameUint64s.Pure) (a0 : Option Addr) (len0 cap0 : Nat) (z0 : List Int) (a1 : Option Addr) (len1 cap1 : Nat) (z1 : List Int) (w : World) (w0 : (a0 = none ∧ len0 = 0 ∧ cap0 = 0 ∧ z0 = []) ∨ ∃ x, a0 = some x ∧ len0 ≤ cap0 ∧ cap0 ≤ maxLen ∧ z0.length = cap0 ∧ (∀ i, i < z0.length → w.cell? (x.add i) = some (.int .u64 (z0.getD i 0))) ∧ ∀ n ∈ z0, (Lit.int .u64 n).wf = true) (y0 : len0 * 8 ≤ 140737488351232) (w1 : (a1 = none ∧ len1 = 0 ∧ cap1 = 0 ∧ z1 = []) ∨ ∃ x, a1 = some x ∧ len1 ≤ cap1 ∧ cap1 ≤ maxLen ∧ z1.length = cap1 ∧ (∀ i, i < z1.length → w.cell? (x.add i) = some (.int .u64 (z1.getD i 0))) ∧ ∀ n ∈ z1, (Lit.int .u64 n).wf = true) (y1 : len1 * 8 ≤ 140737488351232) :
    Calls Try.prog 46 #[.slice a0 len0 cap0, .slice a1 len1 cap1] w fun e w' => e = .returned (.bool true) ∧ Below w.heap.size w w' := by
  obtain ⟨l0, rfl, hr0, hm0, hw0, hc0⟩ := ReadsInt.ofRowC w0
  obtain ⟨l1, rfl, hr1, hm1, hw1, hc1⟩ := ReadsInt.ofRowC w1
  obtain ⟨k, h⟩ := P l0 l1 hm0 y0 hw0 hm1 y1 hw1
  refine (shuttermem_SameUint64s.calls k _ _ l0 _ _ l1 true w (Kd.C_of_reads (d := (0 : Int)) (h1 := fun _ => rfl) hr0) hc0 (Kd.C_of_reads (d := (0 : Int)) (h1 := fun _ => rfl) hr1) hc1 h).mono ?_
  rintro e w' ⟨rfl, hd⟩
  exact ⟨rfl, hd.below⟩

end Go.Proofs.Ytngocadnbpdnoaa.Q
namespace Go.Proofs.Ytngocadnbpdnoaa.Mo
open Go Go.Maps Go.RowKit Go.Proofs.Ytngocadnbpdnoaa.Srt Go.Proofs.Ytngocadnbpdnoaa.Q Go.Proofs.YtngocadnbpdnoaaW.PrintWords Go.Proofs.YtngocadnbpdnoaaW.PrintLast Go.Proofs.YtngocadnbpdnoaaW.PrintMore
set_option linter.unusedVariables false
set_option linter.unusedSimpArgs false
theorem memU_l0 (x0 x1 : List Int) (hl : x0.length = x1.length) (hm : x0.length ≤ 4398046511104) : ∀ m i : Nat, i + m = x0.length → shuttermem_SameUint64s.l0 (m + 1) x0 x1 (i : Int) = some (decide (x0.drop i = x1.drop i))
  | 0, i, e => by
    unfold shuttermem_SameUint64s.l0
    rw [if_neg (by omega)]
    rw [List.drop_eq_nil_of_le (by omega), List.drop_eq_nil_of_le (by omega)]; simp
  | m + 1, i, e => by
    unfold shuttermem_SameUint64s.l0
    have h0 : i < x0.length := by omega
    have h1 : i < x1.length := by omega
    have e0 : rd x0 (i : Int) = x0[i] := by simp [rd, rdOf, List.getD_eq_getElem?_getD, h0]
    have e1 : rd x1 (i : Int) = x1[i] := by simp [rd, rdOf, List.getD_eq_getElem?_getD, h1]
    rw [if_pos (by omega), if_pos (by omega), if_pos (by omega), e0, e1]
    have hd0 : x0.drop i = x1.drop i ↔ x0[i] = x1[i] ∧ x0.drop (i + 1) = x1.drop (i + 1) := by
      rw [List.drop_eq_getElem_cons h0, List.drop_eq_getElem_cons h1, List.cons.injEq]
    by_cases hd : x0[i] = x1[i]
    · rw [if_pos hd, show wrap64 ((i : Int) + 1) = ((i + 1 : Nat) : Int) by unfold wrap64; omega, memU_l0 x0 x1 hl hm m (i + 1) (by omega)]
      simp [hd0, hd]
    · rw [if_neg hd]
      simp [hd0, hd]
theorem memU_f (x0 x1 : List Int) (hm : x0.length ≤ 4398046511104) : ∃ k, shuttermem_SameUint64s.f k x0 x1 = some (decide (x0 = x1)) := by
  unfold shuttermem_SameUint64s.f
  by_cases hl : x0.length = x1.length
  · exact ⟨x0.length + 1, by rw [if_pos (by omega)]; simpa using memU_l0 x0 x1 hl hm x0.length 0 (by omega)⟩
  · exact ⟨0, by rw [if_neg (by omega)]; simp; intro e; exact hl (by rw [e])⟩
theorem memU_c (x y : List Int) (A B : Option Addr) (c d : Nat) (w : World) (hA : Kd.C (Kd.int .u64) w A x.length x) (hc : x.length ≤ c) (hB : Kd.C (Kd.int .u64) w B y.length y) (hd : y.length ≤ d) (hm : x.length ≤ 4398046511104) (b : Bool) (hb : b = decide (x = y)) :
    Calls Try.prog 46 #[.slice A x.length c, .slice B y.length d] w fun e w' => e = .returned (.bool b) ∧ Drawn0 w w' := by
  obtain ⟨k, hk⟩ := memU_f x y hm
  rw [← hb] at hk
  exact shuttermem_SameUint64s.calls k A c x B d y b w hA hc hB hd hk
theorem memP_l0 (x0 x1 : List SP) (hl : x0.length = x1.length) (hm : x0.length ≤ 4398046511104) : ∀ m i : Nat, i + m = x0.length → shuttermem_SamePairs.l0 (m + 1) x0 x1 (i : Int) = some (decide (x0.drop i = x1.drop i))
  | 0, i, e => by
    unfold shuttermem_SamePairs.l0
    rw [if_neg (by omega)]
    rw [List.drop_eq_nil_of_le (by omega), List.drop_eq_nil_of_le (by omega)]; simp
  | m + 1, i, e => by
    unfold shuttermem_SamePairs.l0
    have h0 : i < x0.length := by omega
    have h1 : i < x1.length := by omega
    rw [if_pos (by omega), if_pos (by omega), if_pos (by omega), rd_get h0, rd_get h1]
    by_cases hd : x0[i] = x1[i]
    · rw [if_neg (by rw [pair_ne]; simpa using hd), show wrap64 ((i : Int) + 1) = ((i + 1 : Nat) : Int) by unfold wrap64; omega, memP_l0 x0 x1 hl hm m (i + 1) (by omega)]
      simp [drop_iff h0 h1, hd]
    · rw [if_pos (pair_ne.2 hd)]
      simp [drop_iff h0 h1, hd]
theorem memP_f (x0 x1 : List SP) (hm : x0.length ≤ 4398046511104) : ∃ k, shuttermem_SamePairs.f k x0 x1 = some (decide (x0 = x1)) := by
  unfold shuttermem_SamePairs.f
  by_cases hl : x0.length = x1.length
  · exact ⟨x0.length + 1, by rw [if_pos (by omega)]; simpa using memP_l0 x0 x1 hl hm x0.length 0 (by omega)⟩
  · exact ⟨0, by rw [if_neg (by omega)]; simp; intro e; exact hl (by rw [e])⟩
theorem memP_c (x y : List SP) (A B : Option Addr) (c d : Nat) (w : World) (hA : Kd.C kSP w A x.length x) (hc : x.length ≤ c) (hB : Kd.C kSP w B y.length y) (hd : y.length ≤ d) (hm : x.length ≤ 4398046511104) (b : Bool) (hb : b = decide (x = y)) :
    Calls Try.prog 18 #[.slice A x.length c, .slice B y.length d] w fun e w' => e = .returned (.bool b) ∧ Drawn0 w w' := by
  obtain ⟨k, hk⟩ := memP_f x y hm
  rw [← hb] at hk
  exact shuttermem_SamePairs.calls k A c x B d y b w hA hc hB hd hk
theorem cut_spare {t e : TypeId} (ht : Try.prog.underlying t = some (.slice e)) {i : TypeInfo} (hi : Try.prog.info? e = some i) (g n cp m : Nat) (hm : m ≤ cp) (W : World) : (Instr.slice t (.slice (some ⟨g, 0, none⟩) n cp) none (some (.int .i64 (m : Int))) none).run Try.prog W = .ok (.slice (some ⟨g, 0, none⟩) m cp) W := by
  have hel : Try.prog.elem t = e := by simp [Program.elem, ht]
  have hu : Try.prog.underlying t = some (.slice (Try.prog.elem t)) := by rw [hel]; exact ht
  rw [run_slice_h W t (some ⟨g, 0, none⟩) n cp hu .i64 (m : Int) (by omega) (by omega), hel]
  simp [sizeOf, typeInfo, hi, sliced, Result.andThen, Addr.add]
set_option maxRecDepth 100000 in
set_option maxHeartbeats 8000000 in
theorem keptU_c (g cp : Nat) (A : Option Addr) (c n : Nat) (l : List (Int)) (w : World) (hn : n = l.length) (hI : Kd.C (Kd.int .u64) w (some ⟨g, 0, none⟩) (n + 9) (l ++ marksU)) (hcp : n + 9 ≤ cp) (hC : Kd.C (Kd.int .u64) w A n l) (hc : n ≤ c) (hl : n ≤ 1099511627776) :
    Calls Try.prog 91 #[.slice (some ⟨g, 0, none⟩) n cp, .slice A n c] w fun e w' => e = .returned (.bool true) ∧ Drawn0 w w' := by
  have hu := Try.underlying37
  have hT : Kd.C (Kd.int .u64) w (some ⟨g, 0, none⟩) l.length l := by
    have e : (l ++ marksU).length = n + 9 := by rw [List.length_append, marksU_len, hn]
    have := Kd.C_take (m := n) (xs := l ++ marksU) (by rw [e]; exact hI) (by rw [e]; omega)
    rw [hn] at this
    simpa using this
  have hS := memU_c l l (some ⟨g, 0, none⟩) A cp c w hT (by omega) (by rw [← hn]; exact hC) (by omega) (by omega) true (decide_eq_true rfl).symm
  rw [← hn] at hS
  obtain ⟨i0, hi0, _, hsz0, _⟩ := info_parts infoU
  have hcut : ∀ W : World, (Instr.slice 37 (.slice (some ⟨g, 0, none⟩) n cp) none (some (.int .i64 ((n : Int) + 9))) none).run Try.prog W = .ok (.slice (some ⟨g, 0, none⟩) (n + 9) cp) W := cut_spare hu hi0 g n cp (n + 9) hcp
  have HS := Lib.hid hS
  have HI := Lib.hid hI
  have HN := Lib.hid hn
  have hcpi : (n : Int) + 9 ≤ (cp : Int) := by omega
  clear hS hI hC hn hi0 hsz0 hT
  go_enter Try.func91, Try.ntmps91
  go_wp2_with (go_at_call 46; refine HS.out.mono ?_; rintro e w1 ⟨rfl, hd1⟩; have HB1 := Lib.hid hd1; clear hd1)
  go_loopw [6] (fun v6 wr => ∃ j : Nat, v6 = .int .i64 j ∧ n ≤ j ∧ j ≤ n + 9 ∧ Hid (Drawn0 w wr)) (fun v6 _ => n + 9 - (intOf v6).toNat)
  case atStart => exact ⟨n, rfl, Nat.le_refl _, by omega, HB1⟩
  case round =>
    clear HB1
    obtain ⟨j, rfl, hj1, hj2, HB⟩ := hrel
    by_cases hlt : j < n + 9
    · have hlt2 : (j : Int) < (n : Int) + 9 := by omega
      obtain ⟨ad, e9, y0⟩ := Kd.at_int (Kd.C_below HI.out HB.out.below) (j : Int) (by omega) (by omega)
      cases e9
      rw [Int.toNat_natCast, show rd (l ++ marksU) (j : Int) = 2305843009213693952 + (j : Int) - (n : Int) by
        rw [HN.out] at hj1 hlt ⊢
        simp only [rd, rdOf, Int.toNat_natCast, List.getD_eq_getElem?_getD, List.getElem?_append_right hj1, marksU, List.getElem?_map, List.getElem?_range (show j - l.length < 9 by omega), Option.map_some, Option.getD_some]
        omega, add_plain] at y0
      go_wp2_with fail
      go_roundw
      case rel => exact ⟨j + 1, by go_num, by omega, by omega, HB⟩
      case measure => simp [intOf]; omega
    · obtain rfl : j = n + 9 := by omega
      go_wp2_with fail
      go_ret
      exact ⟨rfl, HB.out⟩
set_option maxRecDepth 100000 in
set_option maxHeartbeats 8000000 in
theorem keptP_c (g cp : Nat) (A : Option Addr) (c n : Nat) (l : List (SP)) (w : World) (hn : n = l.length) (hI : Kd.C kSP w (some ⟨g, 0, none⟩) (n + 9) (l ++ marksP)) (hcp : n + 9 ≤ cp) (hC : Kd.C kSP w A n l) (hc : n ≤ c) (hl : n ≤ 1099511627776) :
    Calls Try.prog 89 #[.slice (some ⟨g, 0, none⟩) n cp, .slice A n c] w fun e w' => e = .returned (.bool true) ∧ Drawn0 w w' := by
  have hu := Try.underlying24
  have hT : Kd.C kSP w (some ⟨g, 0, none⟩) l.length l := by
    have e : (l ++ marksP).length = n + 9 := by rw [List.length_append, marksP_len, hn]
    have := Kd.C_take (m := n) (xs := l ++ marksP) (by rw [e]; exact hI) (by rw [e]; omega)
    rw [hn] at this
    simpa using this
  have hS := memP_c l l (some ⟨g, 0, none⟩) A cp c w hT (by omega) (by rw [← hn]; exact hC) (by omega) (by omega) true (decide_eq_true rfl).symm
  rw [← hn] at hS
  obtain ⟨i0, hi0, _, hsz0, _⟩ := info_parts info90
  have hcut : ∀ W : World, (Instr.slice 24 (.slice (some ⟨g, 0, none⟩) n cp) none (some (.int .i64 ((n : Int) + 9))) none).run Try.prog W = .ok (.slice (some ⟨g, 0, none⟩) (n + 9) cp) W := cut_spare hu hi0 g n cp (n + 9) hcp
  have HS := Lib.hid hS
  have HI := Lib.hid hI
  have HN := Lib.hid hn
  have hcpi : (n : Int) + 9 ≤ (cp : Int) := by omega
  clear hS hI hC hn hi0 hsz0 hT
  go_enter Try.func89, Try.ntmps89
  go_wp2_with (go_at_call 18; refine HS.out.mono ?_; rintro e w1 ⟨rfl, hd1⟩; have HB1 := Lib.hid hd1; clear hd1)
  go_loopw [6] (fun v6 wr => ∃ j : Nat, v6 = .int .i64 j ∧ n ≤ j ∧ j ≤ n + 9 ∧ Hid (Drawn0 w wr)) (fun v6 _ => n + 9 - (intOf v6).toNat)
  case atStart => exact ⟨n, rfl, Nat.le_refl _, by omega, HB1⟩
  case round =>
    clear HB1
    obtain ⟨j, rfl, hj1, hj2, HB⟩ := hrel
    by_cases hlt : j < n + 9
    · have hlt2 : (j : Int) < (n : Int) + 9 := by omega
      obtain ⟨ad, c9, e9, _, hK, hc0⟩ := Kd.C_get (Kd.C_below HI.out HB.out.below) (⟨0, 0⟩ : SP) (j : Int) (by omega) (by omega)
      cases e9
      have e8 : (l ++ marksP).getD (j : Int).toNat (⟨0, 0⟩ : SP) = ⟨2305843009213693952 + (j : Int) - (n : Int), 0⟩ := by
        rw [HN.out] at hj1 hlt ⊢
        simp only [Int.toNat_natCast, List.getD_eq_getElem?_getD, List.getElem?_append_right hj1, marksP, List.getElem?_map, List.getElem?_range (show j - l.length < 9 by omega), Option.map_some, Option.getD_some]
        congr 1
        omega
      rw [e8] at hK
      obtain rfl : c9 = [.int .u64 (2305843009213693952 + (j : Int) - (n : Int)), .int .u64 0] := k90_open hK
      have y0 := hc0 0 _ rfl
      have y1 := hc0 1 _ rfl
      rw [Int.toNat_natCast, show (kSP).sz = 2 from rfl] at y0 y1
      replace y0 : wr.cell? ⟨g, j * 2, none⟩ = some (.int .u64 (2305843009213693952 + (j : Int) - (n : Int))) := by rw [add_plain] at y0; exact y0
      replace y1 : wr.cell? ⟨g, j * 2 + 1, none⟩ = some (.int .u64 0) := by rw [add_plain] at y1; exact y1
      have hup := Try.underlying90
      obtain ⟨q, hq⟩ : ∃ q : Int, q = 2305843009213693952 + (j : Int) - (n : Int) := ⟨_, rfl⟩
      rw [← hq] at y0
      have q1 : 2305843009213693952 + (j : Int) - (n : Int) = q := hq.symm
      clear e8 hK hc0 hq
      go_wp2_with fail
      go_roundw
      case rel => exact ⟨j + 1, by go_num, by omega, by omega, HB⟩
      case measure => simp [intOf]; omega
    · obtain rfl : j = n + 9 := by omega
      go_wp2_with fail
      go_ret
      exact ⟨rfl, HB.out⟩
end Go.Proofs.Ytngocadnbpdnoaa.Mo
namespace Go.Proofs.Ytngocadnbpdnoaa.Mo
open Go Go.Maps Go.RowKit Go.Proofs.Ytngocadnbpdnoaa.Srt Go.Proofs.Ytngocadnbpdnoaa.Q Go.Proofs.YtngocadnbpdnoaaW.PrintWords Go.Proofs.YtngocadnbpdnoaaW.PrintLast Go.Proofs.YtngocadnbpdnoaaW.PrintMore
set_option linter.unusedVariables false
set_option linter.unusedSimpArgs false
def rawO (o : OpS) (A : Option Addr) (c : Nat) : Raw 11 := ⟨[.int .u8 o.f0, .int .u64 o.f1, .int .u64 o.f2, .int .u64 o.f3, .int .u64 o.f4, .bool o.f5.f0, .int .i64 o.f5.f1, .int .i64 o.f5.f2, .slice A o.f6.length c, .int .u64 o.f7, .int .u64 o.f8], rfl, by simp [Value.oneCell']⟩
def zRO : Raw 11 := ⟨[.int .u8 0, .int .u64 0, .int .u64 0, .int .u64 0, .int .u64 0, .bool false, .int .i64 0, .int .i64 0, .slice none 0 0, .int .u64 0, .int .u64 0], rfl, by simp [Value.oneCell']⟩
def mkO (q : Int) : Raw 11 := ⟨[.int .u8 0, .int .u64 q, .int .u64 0, .int .u64 0, .int .u64 0, .bool false, .int .i64 0, .int .i64 0, .slice none 0 0, .int .u64 0, .int .u64 0], rfl, by simp [Value.oneCell']⟩
def marksO : List (Raw 11) := (List.range 9).map fun j : Nat => mkO (2305843009213693952 + (j : Int))
theorem marksO_len : marksO.length = 9 := by simp [marksO]
structure HoldO (p : Prop) : Prop where
  out : p
theorem infoO : (Try.prog.info? 39).map (fun i => (i.zero, i.size, i.bytes)) = some (some (.agg #[.int .u8 0, .int .u64 0, .int .u64 0, .int .u64 0, .int .u64 0, .bool false, .int .i64 0, .int .i64 0, .slice none 0 0, .int .u64 0, .int .u64 0]), 11, 104) := by kernel_rfl
/-- What is handed in: one, with a row of its own, and nine marked behind it. -/
def HandO (w : World) (base : Nat) (o : OpS) (g cp g2 c2 : Nat) : Prop :=
  10 ≤ cp ∧ base ≤ g ∧ base ≤ g2 ∧ o.f6.length + 9 ≤ c2 ∧ Kd.R (kRaw 11) 39 w base (fun _ => True) (.slice (some ⟨g, 0, none⟩) 10 cp) (rawO o (some ⟨g2, 0, none⟩) c2 :: marksO) ∧ Kd.R (Kd.int .u64) 23 w base (fun k => True ∧ k ≠ g) (.slice (some ⟨g2, 0, none⟩) (o.f6.length + 9) c2) (o.f6 ++ marksU)
set_option maxRecDepth 100000 in
set_option maxHeartbeats 16000000 in
theorem handO_c (gl : Nat) (o : OpS) (A : Option Addr) (c : Nat) (w : World) (hb : w.heap[gl]? = some (.cells (opC o A c) 39 (0, 0))) (hC : Kd.C (Kd.int .u64) w A o.f6.length o.f6) (hc : o.f6.length ≤ c) (hl : o.f6.length ≤ 1099511627776) :
    Calls Try.prog 40 #[.slice (some ⟨gl, 0, none⟩) 1 1] w fun e w' => ∃ g cp g2 c2, e = .returned (.slice (some ⟨g, 0, none⟩) 1 cp) ∧ HandO w' w.heap.size o g cp g2 c2 ∧ Below w.heap.size w w' := by
  have HC := Lib.hid hC
  have HBK := Lib.hid hb
  have HL := Lib.hid hl
  have HCC := Lib.hid hc
  have hgl := blk_lt hb
  have hu := Try.underlying88
  clear hC hb hl hc
  go_enter Try.func40, Try.ntmps40
  go_wp2_with (first | ((with_reducible refine gate_dst (N := 9) rfl ?_); refine Kd.R_make (kRaw 11) _ 39 rfl (N := 9) rfl 88 _ _ rfl (10 : Int) rfl rfl hu (.agg #[.int .u8 0, .int .u64 0, .int .u64 0, .int .u64 0, .int .u64 0, .bool false, .int .i64 0, .int .i64 0, .slice none 0 0, .int .u64 0, .int .u64 0]) 104 infoO rfl (by decide) (by decide) (zRO : Raw 11) (ok := fun _ => True) (okp := fun _ => True) rfl (fun _ hk => hk) trivial (by decide) (by decide) (Below.refl _ _) (Nat.le_refl _) ?_; intro v1 w1 hR1 hB1 hG1 hO1; rw [show (10 : Int).toNat = 10 from rfl] at hR1; have HR1 := Lib.hid hR1; have HB1 := Lib.hid hB1; clear hR1 hB1 hG1 hO1))
  obtain ⟨A1, cp, rfl⟩ := Kd.R_slice HR1.out
  rw [List.length_replicate] at HR1 ⊢
  have HG : Hid (∃ g, A1 = some ⟨g, 0, none⟩ ∧ w.heap.size ≤ g) := Lib.hid (by
    obtain ⟨g, co, e1, gb, _⟩ := Kd.R_form HR1.out (by simp)
    injection e1 with e1 _ _
    exact ⟨g, e1, gb⟩)
  obtain ⟨g, rfl, hg⟩ := HG.out
  have HGB := Lib.hid hg
  clear HG hg
  go_loopw [4] (fun v4 wr => ∃ i : Nat, v4 = .int .i64 i ∧ i ≤ 1 ∧ Hid (Below w.heap.size w wr) ∧ Hid (i = 0 → Kd.R (kRaw 11) 39 wr w.heap.size (fun _ => True) (.slice (some ⟨g, 0, none⟩) 10 cp) (List.replicate 10 (zRO : Raw 11))) ∧ Hid (i = 1 → ∃ g2 c2, w.heap.size ≤ g2 ∧ o.f6.length + 9 ≤ c2 ∧ Kd.R (kRaw 11) 39 wr w.heap.size (fun _ => True) (.slice (some ⟨g, 0, none⟩) 10 cp) (rawO o (some ⟨g2, 0, none⟩) c2 :: List.replicate 9 (zRO : Raw 11)) ∧ Kd.R (Kd.int .u64) 23 wr w.heap.size (fun k => True ∧ k ≠ g) (.slice (some ⟨g2, 0, none⟩) (o.f6.length + 9) c2) (o.f6 ++ marksU))) (fun v4 _ => 1 - (intOf v4).toNat)
  case atStart => exact ⟨0, rfl, by omega, HB1, Lib.hid (fun _ => HR1.out), Lib.hid (fun e => absurd e (by decide))⟩
  case round =>
    clear HR1 HB1
    obtain ⟨i, rfl, hi, HB, H0, H1⟩ := hrel
    rcases (show i = 0 ∨ i = 1 by omega) with hi0 | hi1
    · subst hi0
      have HR := Lib.hid (H0.out rfl)
      clear H0 H1 hi
      obtain ⟨k0, k1, k2, k3, k4, k5, k6, k7, k8, k9, k10⟩ := op_cells (blk_below HBK.out HB.out)
      go_wp2_with (first
        | ((with_reducible refine gate_store (t := 39) (p := 22) rfl ?_)
           obtain ⟨cc, hcc1, hcc2, hcc3, -⟩ := Kd.R_elem HR.out (zRO : Raw 11) (0 : Int) (by decide) (by decide)
           refine Kd.R_store (kRaw 11) (w0 := w) w.heap.size rfl rfl 39 (.tmp 22) (.tmp 21) rfl 39 (0 : Int) 0 (List.replicate 10 (zRO : Raw 11)) (rawO o A c) (.agg #[.int .u8 o.f0, .int .u64 o.f1, .int .u64 o.f2, .int .u64 o.f3, .int .u64 o.f4, .bool o.f5.f0, .int .i64 o.f5.f1, .int .i64 o.f5.f2, .slice A o.f6.length c, .int .u64 o.f7, .int .u64 o.f8]) [.int .u8 o.f0, .int .u64 o.f1, .int .u64 o.f2, .int .u64 o.f3, .int .u64 o.f4, .bool o.f5.f0, .int .i64 o.f5.f1, .int .i64 o.f5.f2, .slice A o.f6.length c, .int .u64 o.f7, .int .u64 o.f8] cc (fun _ => True) (fun _ => False) rfl (by rfl) rfl rfl (by kernel_rfl) (fun q hq => (rawO o A c).2.2 q hq) HR.out (by decide) (by decide) hcc1 hcc3 (Nat.le_of_eq (Nat.zero_add _)) ?hM (fun _ e => e.elim) HB.out ?_
           (case hM => (rw [List.take_zero, List.nil_append, List.drop_eq_nil_of_le (by rw [hcc1]; exact Nat.le_refl _), List.append_nil]; rfl))
           intro w4 hr4 hb4 hg4
           have HR4 := Lib.hid hr4
           have HB4 := Lib.hid hb4
           have hz4 := hb4.size
           clear hr4 hb4 hg4 hcc1 hcc2 hcc3 k0 k1 k2 k3 k4 k5 k6 k7 k8 k9 k10
           obtain ⟨k0, k1, k2, k3, k4, k5, k6, k7, k8, k9, k10⟩ := op_cells (blk_below HBK.out HB4.out))
        | (go_at_call 86
           refine (handU_c A c o.f6 w4 (Kd.C_below HC.out HB4.out) HCC.out HL.out).mono ?_
           rintro e w5 ⟨g2, c2, rfl, hc2, hg2, hR5, hB5⟩
           obtain ⟨g', co', e', _, _, cl', hgg⟩ := Kd.R_form HR4.out (by simp)
           have e'' : g' = g := by injection e' with e' _ _; injection e' with e'; injection e' with e'; exact e'.symm
           rw [e''] at hgg
           have HR5 := Lib.hid (Kd.R_types (Kd.R_lower hR5 hz4) (blk_below hgg hB5) (by decide))
           have HG2 := Lib.hid (Nat.le_trans hz4 hg2)
           have HC2 := Lib.hid hc2
           have HRW := Lib.hid (Kd.R_below HR4.out hB5)
           have HB5 := Lib.hid (HB4.out.trans (hB5.mono hz4))
           clear hc2 hg2 hR5 hB5 HR4)
        | ((with_reducible refine gate_store (t := 37) (p := 32) rfl ?_)
           obtain ⟨cc, hcc1, hcc2, hcc3, -⟩ := Kd.R_elem HRW.out (zRO : Raw 11) (0 : Int) (by decide) (by decide)
           have hcc4 : cc = [.int .u8 o.f0, .int .u64 o.f1, .int .u64 o.f2, .int .u64 o.f3, .int .u64 o.f4, .bool o.f5.f0, .int .i64 o.f5.f1, .int .i64 o.f5.f2, .slice A o.f6.length c, .int .u64 o.f7, .int .u64 o.f8] := hcc2
           subst hcc4
           refine Kd.R_store (kRaw 11) (w0 := w) w.heap.size rfl rfl 37 (.tmp 32) (.tmp 30) rfl 39 (0 : Int) 8 _ (rawO o (some ⟨g2, 0, none⟩) c2) (.slice (some ⟨g2, 0, none⟩) o.f6.length c2) [.slice (some ⟨g2, 0, none⟩) o.f6.length c2] _ (fun _ => True) (fun _ => False) rfl (by rfl) rfl rfl (by kernel_rfl) (fun q hq => by rw [List.mem_singleton.1 hq]; rfl) HRW.out (by decide) (by decide) hcc1 hcc3 (by show 8 + 1 ≤ 11; decide) rfl (fun _ e => e.elim) HB5.out ?_
           intro w6 hr6 hb6 hg6
           have HR6 := Lib.hid (show Kd.R (kRaw 11) 39 w6 w.heap.size (fun _ => True) (.slice (some ⟨g, 0, none⟩) 10 cp) (rawO o (some ⟨g2, 0, none⟩) c2 :: List.replicate 9 (zRO : Raw 11)) from hr6)
           have HB6 := Lib.hid hb6
           have HI6 := Lib.hid (show Kd.R (Kd.int .u64) 23 w6 w.heap.size (fun k => True ∧ k ≠ g) (.slice (some ⟨g2, 0, none⟩) (o.f6.length + 9) c2) (o.f6 ++ marksU) from Kd.R_grown HR5.out hg6 (fun k h e => h.2 (Option.some.inj e)))
           clear hr6 hb6 hg6 hcc1 hcc3))
      go_roundw
      case rel => exact ⟨1, rfl, by omega, HB6, Lib.hid (fun e => absurd e (by decide)), Lib.hid (fun _ => ⟨g2, c2, HG2.out, HC2.out, HR6.out, HI6.out⟩)⟩
      case measure => simp [intOf]
    · subst hi1
      obtain ⟨g2, c2, hg2, hc2, hR2, hI2⟩ := H1.out rfl
      have HG2 := Lib.hid hg2
      have HC2 := Lib.hid hc2
      have HI2 := Lib.hid hI2
      have HR2 := Lib.hid hR2
      have HB2 := Lib.hid (And.intro HB.out (World.grownBy.refl wr (some g)))
      obtain ⟨X, hX⟩ : ∃ X, X = rawO o (some ⟨g2, 0, none⟩) c2 :: marksO := ⟨_, rfl⟩
      have hXl : X.length = 10 := by rw [hX, List.length_cons, marksO_len]
      have hX0 : rawO o (some ⟨g2, 0, none⟩) c2 :: List.replicate 9 (zRO : Raw 11) = X.take 1 ++ List.replicate (X.length - 1) (zRO : Raw 11) := by rw [hXl, hX]; rfl
      rw [hX0] at HR2
      have HX := Lib.hid hX
      have HXL := Lib.hid hXl
      clear hg2 hc2 hR2 hI2 hX hXl hX0 H0 H1 HB hi
      obtain ⟨W2, hW2⟩ : ∃ W2, W2 = wr := ⟨_, rfl⟩
      rw [← hW2] at HI2 HR2 HB2 ⊢
      clear hW2
      go_wp2_with fail
      go_loopw [5] (fun v5 wr => ∃ j : Nat, v5 = .int .i64 j ∧ 1 ≤ j ∧ j ≤ 10 ∧ Hid (Kd.R (kRaw 11) 39 wr w.heap.size (fun _ => True) (.slice (some ⟨g, 0, none⟩) 10 cp) (X.take j ++ List.replicate (X.length - j) (zRO : Raw 11))) ∧ Hid (Below w.heap.size w wr ∧ W2.grownBy wr (some g))) (fun v5 _ => 10 - (intOf v5).toNat)
      case atStart => exact ⟨1, rfl, Nat.le_refl _, by omega, HR2, HB2⟩
      case round =>
        clear HR2 HB2
        obtain ⟨j, rfl, hj1, hj2, HR, HB⟩ := hrel
        by_cases hjl : j < 10
        · have h0i : (0 : Int) ≤ (j : Int) := by omega
          have hin : (j : Int) < ((10 : Nat) : Int) := by omega
          have hin2 : (j : Int) < 10 := by omega
          have hjX : j < X.length := by rw [HXL.out]; omega
          obtain ⟨row, hrow⟩ : ∃ row, row = X.take j ++ List.replicate (X.length - j) (zRO : Raw 11) := ⟨_, rfl⟩
          rw [← hrow] at HR
          have HROW := Lib.hid hrow
          have HJX := Lib.hid hjX
          clear hrow hjX
          go_wp2_with (first
            | ((with_reducible refine gate_store (t := 39) (p := 50) rfl ?_)
               obtain ⟨cc, hcc1, hcc2, hcc3, -⟩ := Kd.R_elem HR.out (zRO : Raw 11) (j : Int) h0i hin
               refine Kd.R_store (kRaw 11) (w0 := w) w.heap.size rfl rfl 39 (.tmp 50) (.tmp 49) rfl 39 (j : Int) 0 row (mkO (2305843009213693952 + (j : Int) - 1)) (.agg #[.int .u8 0, .int .u64 (2305843009213693952 + (j : Int) - 1), .int .u64 0, .int .u64 0, .int .u64 0, .bool false, .int .i64 0, .int .i64 0, .slice none 0 0, .int .u64 0, .int .u64 0]) [.int .u8 0, .int .u64 (2305843009213693952 + (j : Int) - 1), .int .u64 0, .int .u64 0, .int .u64 0, .bool false, .int .i64 0, .int .i64 0, .slice none 0 0, .int .u64 0, .int .u64 0] cc (fun _ => True) (fun _ => False) rfl (by show j * 11 = (j : Int).toNat * 11 + 0; simp) rfl rfl (by kernel_rfl) (fun q hq => (mkO (2305843009213693952 + (j : Int) - 1)).2.2 q hq) HR.out h0i hin hcc1 hcc3 (Nat.le_of_eq (Nat.zero_add _)) ?hM (fun _ e => e.elim) HB.out.1 ?_
               (case hM => (rw [List.take_zero, List.nil_append, List.drop_eq_nil_of_le (by rw [hcc1]; exact Nat.le_refl _), List.append_nil]; rfl))
               intro w4 hr4 hb4 hg4
               have HR4 := Lib.hid hr4
               have HB4 := Lib.hid (And.intro hb4 (HB.out.2.trans hg4))
               clear hr4 hb4 hg4 hcc1 hcc2 hcc3))
          go_roundw
          case rel => exact ⟨j + 1, by go_num, by omega, by omega, Lib.hid (by
            have e : row.set (j : Int).toNat (mkO (2305843009213693952 + (j : Int) - 1)) = X.take (j + 1) ++ List.replicate (X.length - (j + 1)) (zRO : Raw 11) := by
              rw [Int.toNat_natCast, HROW.out, ← fill_set X (zRO : Raw 11) j HJX.out]
              congr 1
              rw [show (2305843009213693952 + (j : Int) - 1) = 2305843009213693952 + ((j - 1 : Nat) : Int) by omega]
              have : X[j]? = some (mkO (2305843009213693952 + ((j - 1 : Nat) : Int))) := by
                rw [HX.out]
                obtain ⟨j', rfl⟩ : ∃ j', j = j' + 1 := ⟨j - 1, by omega⟩
                rw [List.getElem?_cons_succ]
                simp [marksO, List.getElem?_map, List.getElem?_range (show j' < 9 by omega)]
              rw [List.getElem?_eq_getElem HJX.out] at this
              exact (Option.some.inj this).symm
            rw [← e]; exact HR4.out), HB4⟩
          case measure => simp [intOf]; omega
        · obtain rfl : j = 10 := by omega
          have HRX : Hid (Kd.R (kRaw 11) 39 wr w.heap.size (fun _ => True) (.slice (some ⟨g, 0, none⟩) 10 cp) X) := Lib.hid (by
            have h := HR.out
            rw [show X.take 10 ++ List.replicate (X.length - 10) (zRO : Raw 11) = X by rw [HXL.out, List.take_of_length_le (by rw [HXL.out]; exact Nat.le_refl _)]; simp] at h
            exact h)
          have hcp := (Kd.R_reads' HRX.out).2.1
          obtain ⟨i0, hi0, _, hsz0, _⟩ := info_parts infoO
          have hcut := cut_to (P := Try.prog) 88 39 .i64 hu hi0 (some ⟨g, 0, none⟩) 10 cp (1 : Int) (by decide) (by decide) hcp
          replace hcut : ∀ W : World, (Instr.slice 88 (.slice (some ⟨g, 0, none⟩) 10 cp) none (some (.int .i64 1)) none).run Try.prog W = .ok (.slice (some ⟨g, 0, none⟩) 1 cp) W := hcut
          clear hi0 hsz0 HR
          go_wp2_with fail
          go_ret
          exact ⟨g, cp, g2, c2, rfl, ⟨hcp, HGB.out, HG2.out, HC2.out, by rw [← HX.out]; exact HRX.out, Kd.R_grown HI2.out HB.out.2 (fun k h e => h.2 (Option.some.inj e))⟩, HB.out.1⟩
end Go.Proofs.Ytngocadnbpdnoaa.Mo
namespace Go.Proofs.Ytngocadnbpdnoaa.Mo
open Go Go.Maps Go.RowKit Go.Proofs.Ytngocadnbpdnoaa.Srt Go.Proofs.Ytngocadnbpdnoaa.Q Go.Proofs.YtngocadnbpdnoaaW.PrintWords Go.Proofs.YtngocadnbpdnoaaW.PrintLast Go.Proofs.YtngocadnbpdnoaaW.PrintMore
set_option linter.unusedVariables false
set_option linter.unusedSimpArgs false
def rawA (o : AnS) (A : Option Addr) (c : Nat) : Raw 7 := ⟨[.int .i64 o.f0, .bool o.f1, .int .u64 o.f2, .bool o.f3, .int .u64 o.f4, .slice A o.f5.length c, .int .u64 o.f6], rfl, by simp [Value.oneCell']⟩
def zRA : Raw 7 := ⟨[.int .i64 0, .bool false, .int .u64 0, .bool false, .int .u64 0, .slice none 0 0, .int .u64 0], rfl, by simp [Value.oneCell']⟩
def mkA (q : Int) : Raw 7 := ⟨[.int .i64 0, .bool false, .int .u64 q, .bool false, .int .u64 0, .slice none 0 0, .int .u64 0], rfl, by simp [Value.oneCell']⟩
def marksA : List (Raw 7) := (List.range 9).map fun j : Nat => mkA (2305843009213693952 + (j : Int))
theorem marksA_len : marksA.length = 9 := by simp [marksA]
structure HoldA (p : Prop) : Prop where
  out : p
theorem infoA : (Try.prog.info? 26).map (fun i => (i.zero, i.size, i.bytes)) = some (some (.agg #[.int .i64 0, .bool false, .int .u64 0, .bool false, .int .u64 0, .slice none 0 0, .int .u64 0]), 7, 72) := by kernel_rfl
/-- What is handed in: one, with a row of its own, and nine marked behind it. -/
def HandA (w : World) (base : Nat) (o : AnS) (g cp g2 c2 : Nat) : Prop :=
  10 ≤ cp ∧ base ≤ g ∧ base ≤ g2 ∧ o.f5.length + 9 ≤ c2 ∧ Kd.R (kRaw 7) 26 w base (fun _ => True) (.slice (some ⟨g, 0, none⟩) 10 cp) (rawA o (some ⟨g2, 0, none⟩) c2 :: marksA) ∧ Kd.R kSP 90 w base (fun k => True ∧ k ≠ g) (.slice (some ⟨g2, 0, none⟩) (o.f5.length + 9) c2) (o.f5 ++ marksP)
set_option maxRecDepth 100000 in
set_option maxHeartbeats 16000000 in
theorem handA_c (gl : Nat) (o : AnS) (A : Option Addr) (c : Nat) (w : World) (hb : w.heap[gl]? = some (.cells (ansC o.f0 o.f1 o.f2 o.f3 o.f4 (.slice A o.f5.length c) o.f6) 26 (0, 0))) (hC : Kd.C kSP w A o.f5.length o.f5) (hc : o.f5.length ≤ c) (hl : o.f5.length ≤ 1099511627776) :
    Calls Try.prog 41 #[.slice (some ⟨gl, 0, none⟩) 1 1] w fun e w' => ∃ g cp g2 c2, e = .returned (.slice (some ⟨g, 0, none⟩) 1 cp) ∧ HandA w' w.heap.size o g cp g2 c2 ∧ Below w.heap.size w w' := by
  have HC := Lib.hid hC
  have HBK := Lib.hid hb
  have HL := Lib.hid hl
  have HCC := Lib.hid hc
  have hgl := blk_lt hb
  have hu := Try.underlying82
  clear hC hb hl hc
  go_enter Try.func41, Try.ntmps41
  go_wp2_with (first | ((with_reducible refine gate_dst (N := 9) rfl ?_); refine Kd.R_make (kRaw 7) _ 26 rfl (N := 9) rfl 82 _ _ rfl (10 : Int) rfl rfl hu (.agg #[.int .i64 0, .bool false, .int .u64 0, .bool false, .int .u64 0, .slice none 0 0, .int .u64 0]) 72 infoA rfl (by decide) (by decide) (zRA : Raw 7) (ok := fun _ => True) (okp := fun _ => True) rfl (fun _ hk => hk) trivial (by decide) (by decide) (Below.refl _ _) (Nat.le_refl _) ?_; intro v1 w1 hR1 hB1 hG1 hO1; rw [show (10 : Int).toNat = 10 from rfl] at hR1; have HR1 := Lib.hid hR1; have HB1 := Lib.hid hB1; clear hR1 hB1 hG1 hO1))
  obtain ⟨A1, cp, rfl⟩ := Kd.R_slice HR1.out
  rw [List.length_replicate] at HR1 ⊢
  have HG : Hid (∃ g, A1 = some ⟨g, 0, none⟩ ∧ w.heap.size ≤ g) := Lib.hid (by
    obtain ⟨g, co, e1, gb, _⟩ := Kd.R_form HR1.out (by simp)
    injection e1 with e1 _ _
    exact ⟨g, e1, gb⟩)
  obtain ⟨g, rfl, hg⟩ := HG.out
  have HGB := Lib.hid hg
  clear HG hg
  go_loopw [4] (fun v4 wr => ∃ i : Nat, v4 = .int .i64 i ∧ i ≤ 1 ∧ Hid (Below w.heap.size w wr) ∧ Hid (i = 0 → Kd.R (kRaw 7) 26 wr w.heap.size (fun _ => True) (.slice (some ⟨g, 0, none⟩) 10 cp) (List.replicate 10 (zRA : Raw 7))) ∧ Hid (i = 1 → ∃ g2 c2, w.heap.size ≤ g2 ∧ o.f5.length + 9 ≤ c2 ∧ Kd.R (kRaw 7) 26 wr w.heap.size (fun _ => True) (.slice (some ⟨g, 0, none⟩) 10 cp) (rawA o (some ⟨g2, 0, none⟩) c2 :: List.replicate 9 (zRA : Raw 7)) ∧ Kd.R kSP 90 wr w.heap.size (fun k => True ∧ k ≠ g) (.slice (some ⟨g2, 0, none⟩) (o.f5.length + 9) c2) (o.f5 ++ marksP))) (fun v4 _ => 1 - (intOf v4).toNat)
  case atStart => exact ⟨0, rfl, by omega, HB1, Lib.hid (fun _ => HR1.out), Lib.hid (fun e => absurd e (by decide))⟩
  case round =>
    clear HR1 HB1
    obtain ⟨i, rfl, hi, HB, H0, H1⟩ := hrel
    rcases (show i = 0 ∨ i = 1 by omega) with hi0 | hi1
    · subst hi0
      have HR := Lib.hid (H0.out rfl)
      clear H0 H1 hi
      obtain ⟨k0, k1, k2, k3, k4, k5, k6⟩ := ans_cells (blk_below HBK.out HB.out)
      go_wp2_with (first
        | ((with_reducible refine gate_store (t := 26) (p := 22) rfl ?_)
           obtain ⟨cc, hcc1, hcc2, hcc3, -⟩ := Kd.R_elem HR.out (zRA : Raw 7) (0 : Int) (by decide) (by decide)
           refine Kd.R_store (kRaw 7) (w0 := w) w.heap.size rfl rfl 26 (.tmp 22) (.tmp 21) rfl 26 (0 : Int) 0 (List.replicate 10 (zRA : Raw 7)) (rawA o A c) (.agg #[.int .i64 o.f0, .bool o.f1, .int .u64 o.f2, .bool o.f3, .int .u64 o.f4, .slice A o.f5.length c, .int .u64 o.f6]) [.int .i64 o.f0, .bool o.f1, .int .u64 o.f2, .bool o.f3, .int .u64 o.f4, .slice A o.f5.length c, .int .u64 o.f6] cc (fun _ => True) (fun _ => False) rfl (by rfl) rfl rfl (by kernel_rfl) (fun q hq => (rawA o A c).2.2 q hq) HR.out (by decide) (by decide) hcc1 hcc3 (Nat.le_of_eq (Nat.zero_add _)) ?hM (fun _ e => e.elim) HB.out ?_
           (case hM => (rw [List.take_zero, List.nil_append, List.drop_eq_nil_of_le (by rw [hcc1]; exact Nat.le_refl _), List.append_nil]; rfl))
           intro w4 hr4 hb4 hg4
           have HR4 := Lib.hid hr4
           have HB4 := Lib.hid hb4
           have hz4 := hb4.size
           clear hr4 hb4 hg4 hcc1 hcc2 hcc3 k0 k1 k2 k3 k4 k5 k6
           obtain ⟨k0, k1, k2, k3, k4, k5, k6⟩ := ans_cells (blk_below HBK.out HB4.out))
        | (go_at_call 87
           refine (handP_c A c o.f5 w4 (Kd.C_below HC.out HB4.out) HCC.out HL.out).mono ?_
           rintro e w5 ⟨g2, c2, rfl, hc2, hg2, hR5, hB5⟩
           obtain ⟨g', co', e', _, _, cl', hgg⟩ := Kd.R_form HR4.out (by simp)
           have e'' : g' = g := by injection e' with e' _ _; injection e' with e'; injection e' with e'; exact e'.symm
           rw [e''] at hgg
           have HR5 := Lib.hid (Kd.R_types (Kd.R_lower hR5 hz4) (blk_below hgg hB5) (by decide))
           have HG2 := Lib.hid (Nat.le_trans hz4 hg2)
           have HC2 := Lib.hid hc2
           have HRW := Lib.hid (Kd.R_below HR4.out hB5)
           have HB5 := Lib.hid (HB4.out.trans (hB5.mono hz4))
           clear hc2 hg2 hR5 hB5 HR4)
        | ((with_reducible refine gate_store (t := 24) (p := 32) rfl ?_)
           obtain ⟨cc, hcc1, hcc2, hcc3, -⟩ := Kd.R_elem HRW.out (zRA : Raw 7) (0 : Int) (by decide) (by decide)
           have hcc4 : cc = [.int .i64 o.f0, .bool o.f1, .int .u64 o.f2, .bool o.f3, .int .u64 o.f4, .slice A o.f5.length c, .int .u64 o.f6] := hcc2
           subst hcc4
           refine Kd.R_store (kRaw 7) (w0 := w) w.heap.size rfl rfl 24 (.tmp 32) (.tmp 30) rfl 26 (0 : Int) 5 _ (rawA o (some ⟨g2, 0, none⟩) c2) (.slice (some ⟨g2, 0, none⟩) o.f5.length c2) [.slice (some ⟨g2, 0, none⟩) o.f5.length c2] _ (fun _ => True) (fun _ => False) rfl (by rfl) rfl rfl (by kernel_rfl) (fun q hq => by rw [List.mem_singleton.1 hq]; rfl) HRW.out (by decide) (by decide) hcc1 hcc3 (by show 5 + 1 ≤ 7; decide) rfl (fun _ e => e.elim) HB5.out ?_
           intro w6 hr6 hb6 hg6
           have HR6 := Lib.hid (show Kd.R (kRaw 7) 26 w6 w.heap.size (fun _ => True) (.slice (some ⟨g, 0, none⟩) 10 cp) (rawA o (some ⟨g2, 0, none⟩) c2 :: List.replicate 9 (zRA : Raw 7)) from hr6)
           have HB6 := Lib.hid hb6
           have HI6 := Lib.hid (show Kd.R kSP 90 w6 w.heap.size (fun k => True ∧ k ≠ g) (.slice (some ⟨g2, 0, none⟩) (o.f5.length + 9) c2) (o.f5 ++ marksP) from Kd.R_grown HR5.out hg6 (fun k h e => h.2 (Option.some.inj e)))
           clear hr6 hb6 hg6 hcc1 hcc3))
      go_roundw
      case rel => exact ⟨1, rfl, by omega, HB6, Lib.hid (fun e => absurd e (by decide)), Lib.hid (fun _ => ⟨g2, c2, HG2.out, HC2.out, HR6.out, HI6.out⟩)⟩
      case measure => simp [intOf]
    · subst hi1
      obtain ⟨g2, c2, hg2, hc2, hR2, hI2⟩ := H1.out rfl
      have HG2 := Lib.hid hg2
      have HC2 := Lib.hid hc2
      have HI2 := Lib.hid hI2
      have HR2 := Lib.hid hR2
      have HB2 := Lib.hid (And.intro HB.out (World.grownBy.refl wr (some g)))
      obtain ⟨X, hX⟩ : ∃ X, X = rawA o (some ⟨g2, 0, none⟩) c2 :: marksA := ⟨_, rfl⟩
      have hXl : X.length = 10 := by rw [hX, List.length_cons, marksA_len]
      have hX0 : rawA o (some ⟨g2, 0, none⟩) c2 :: List.replicate 9 (zRA : Raw 7) = X.take 1 ++ List.replicate (X.length - 1) (zRA : Raw 7) := by rw [hXl, hX]; rfl
      rw [hX0] at HR2
      have HX := Lib.hid hX
      have HXL := Lib.hid hXl
      clear hg2 hc2 hR2 hI2 hX hXl hX0 H0 H1 HB hi
      obtain ⟨W2, hW2⟩ : ∃ W2, W2 = wr := ⟨_, rfl⟩
      rw [← hW2] at HI2 HR2 HB2 ⊢
      clear hW2
      go_wp2_with fail
      go_loopw [5] (fun v5 wr => ∃ j : Nat, v5 = .int .i64 j ∧ 1 ≤ j ∧ j ≤ 10 ∧ Hid (Kd.R (kRaw 7) 26 wr w.heap.size (fun _ => True) (.slice (some ⟨g, 0, none⟩) 10 cp) (X.take j ++ List.replicate (X.length - j) (zRA : Raw 7))) ∧ Hid (Below w.heap.size w wr ∧ W2.grownBy wr (some g))) (fun v5 _ => 10 - (intOf v5).toNat)
      case atStart => exact ⟨1, rfl, Nat.le_refl _, by omega, HR2, HB2⟩
      case round =>
        clear HR2 HB2
        obtain ⟨j, rfl, hj1, hj2, HR, HB⟩ := hrel
        by_cases hjl : j < 10
        · have h0i : (0 : Int) ≤ (j : Int) := by omega
          have hin : (j : Int) < ((10 : Nat) : Int) := by omega
          have hin2 : (j : Int) < 10 := by omega
          have hjX : j < X.length := by rw [HXL.out]; omega
          obtain ⟨row, hrow⟩ : ∃ row, row = X.take j ++ List.replicate (X.length - j) (zRA : Raw 7) := ⟨_, rfl⟩
          rw [← hrow] at HR
          have HROW := Lib.hid hrow
          have HJX := Lib.hid hjX
          clear hrow hjX
          go_wp2_with (first
            | ((with_reducible refine gate_store (t := 26) (p := 50) rfl ?_)
               obtain ⟨cc, hcc1, hcc2, hcc3, -⟩ := Kd.R_elem HR.out (zRA : Raw 7) (j : Int) h0i hin
               refine Kd.R_store (kRaw 7) (w0 := w) w.heap.size rfl rfl 26 (.tmp 50) (.tmp 49) rfl 26 (j : Int) 0 row (mkA (2305843009213693952 + (j : Int) - 1)) (.agg #[.int .i64 0, .bool false, .int .u64 (2305843009213693952 + (j : Int) - 1), .bool false, .int .u64 0, .slice none 0 0, .int .u64 0]) [.int .i64 0, .bool false, .int .u64 (2305843009213693952 + (j : Int) - 1), .bool false, .int .u64 0, .slice none 0 0, .int .u64 0] cc (fun _ => True) (fun _ => False) rfl (by show j * 7 = (j : Int).toNat * 7 + 0; simp) rfl rfl (by kernel_rfl) (fun q hq => (mkA (2305843009213693952 + (j : Int) - 1)).2.2 q hq) HR.out h0i hin hcc1 hcc3 (Nat.le_of_eq (Nat.zero_add _)) ?hM (fun _ e => e.elim) HB.out.1 ?_
               (case hM => (rw [List.take_zero, List.nil_append, List.drop_eq_nil_of_le (by rw [hcc1]; exact Nat.le_refl _), List.append_nil]; rfl))
               intro w4 hr4 hb4 hg4
               have HR4 := Lib.hid hr4
               have HB4 := Lib.hid (And.intro hb4 (HB.out.2.trans hg4))
               clear hr4 hb4 hg4 hcc1 hcc2 hcc3))
          go_roundw
          case rel => exact ⟨j + 1, by go_num, by omega, by omega, Lib.hid (by
            have e : row.set (j : Int).toNat (mkA (2305843009213693952 + (j : Int) - 1)) = X.take (j + 1) ++ List.replicate (X.length - (j + 1)) (zRA : Raw 7) := by
              rw [Int.toNat_natCast, HROW.out, ← fill_set X (zRA : Raw 7) j HJX.out]
              congr 1
              rw [show (2305843009213693952 + (j : Int) - 1) = 2305843009213693952 + ((j - 1 : Nat) : Int) by omega]
              have : X[j]? = some (mkA (2305843009213693952 + ((j - 1 : Nat) : Int))) := by
                rw [HX.out]
                obtain ⟨j', rfl⟩ : ∃ j', j = j' + 1 := ⟨j - 1, by omega⟩
                rw [List.getElem?_cons_succ]
                simp [marksA, List.getElem?_map, List.getElem?_range (show j' < 9 by omega)]
              rw [List.getElem?_eq_getElem HJX.out] at this
              exact (Option.some.inj this).symm
            rw [← e]; exact HR4.out), HB4⟩
          case measure => simp [intOf]; omega
        · obtain rfl : j = 10 := by omega
          have HRX : Hid (Kd.R (kRaw 7) 26 wr w.heap.size (fun _ => True) (.slice (some ⟨g, 0, none⟩) 10 cp) X) := Lib.hid (by
            have h := HR.out
            rw [show X.take 10 ++ List.replicate (X.length - 10) (zRA : Raw 7) = X by rw [HXL.out, List.take_of_length_le (by rw [HXL.out]; exact Nat.le_refl _)]; simp] at h
            exact h)
          have hcp := (Kd.R_reads' HRX.out).2.1
          obtain ⟨i0, hi0, _, hsz0, _⟩ := info_parts infoA
          have hcut := cut_to (P := Try.prog) 82 26 .i64 hu hi0 (some ⟨g, 0, none⟩) 10 cp (1 : Int) (by decide) (by decide) hcp
          replace hcut : ∀ W : World, (Instr.slice 82 (.slice (some ⟨g, 0, none⟩) 10 cp) none (some (.int .i64 1)) none).run Try.prog W = .ok (.slice (some ⟨g, 0, none⟩) 1 cp) W := hcut
          clear hi0 hsz0 HR
          go_wp2_with fail
          go_ret
          exact ⟨g, cp, g2, c2, rfl, ⟨hcp, HGB.out, HG2.out, HC2.out, by rw [← HX.out]; exact HRX.out, Kd.R_grown HI2.out HB.out.2 (fun k h e => h.2 (Option.some.inj e))⟩, HB.out.1⟩
end Go.Proofs.Ytngocadnbpdnoaa.Mo
namespace Go.Proofs.Ytngocadnbpdnoaa.Mo
open Go Go.Maps Go.RowKit Go.Proofs.Ytngocadnbpdnoaa.Srt Go.Proofs.Ytngocadnbpdnoaa.Q Go.Proofs.YtngocadnbpdnoaaW.PrintWords Go.Proofs.YtngocadnbpdnoaaW.PrintLast Go.Proofs.YtngocadnbpdnoaaW.PrintMore
set_option linter.unusedVariables false
set_option linter.unusedSimpArgs false
theorem raw_cell {n m g : Nat} {w : World} {xs : List (Raw n)} (h : Kd.C (kRaw n) w (some ⟨g, 0, none⟩) m xs) (i j : Nat) (x : Raw n) (u : Value) (hi : i < m) (hx : xs[i]? = some x) (hu : x.1[j]? = some u) : w.cell? ⟨g, i * n + j, none⟩ = some u := by
  obtain ⟨ad, c9, e9, _, hK, hc0⟩ := Kd.C_get h x (i : Int) (by omega) (by omega)
  cases e9
  have e8 : xs.getD (i : Int).toNat x = x := by rw [Int.toNat_natCast]; simp [List.getD_eq_getElem?_getD, hx]
  rw [e8] at hK
  have hc : c9 = x.1 := hK
  have := hc0 j u (by rw [hc]; exact hu)
  rw [Int.toNat_natCast, add_plain] at this
  exact this
set_option maxRecDepth 100000 in
set_option maxHeartbeats 8000000 in
theorem memA_c (x y : AnS) (A B : Option Addr) (c d : Nat) (w : World) (hA : Kd.C k90 w A x.f5.length x.f5) (hc : x.f5.length ≤ c) (hB : Kd.C k90 w B y.f5.length y.f5) (hd : y.f5.length ≤ d) (hm : x.f5.length ≤ 4398046511104) :
    Calls Try.prog 43 #[anV x A c, anV y B d] w fun e w' => e = .returned (.bool (anEq x y)) ∧ Below w.heap.size w w' := by
  obtain ⟨b5, hb5⟩ : ∃ b, b = decide (x.f5 = y.f5) := ⟨_, rfl⟩
  have HB5 := Lib.hid hb5
  obtain ⟨W0, hW0⟩ : ∃ W0, W0 = (w.alloc (.cells (ansC x.f0 x.f1 x.f2 x.f3 x.f4 (.slice A x.f5.length c) x.f6) 26)).alloc (.cells (ansC y.f0 y.f1 y.f2 y.f3 y.f4 (.slice B y.f5.length d) y.f6) 26) := ⟨_, rfl⟩
  have HW := Lib.hid hW0
  have hb1 : Below w.heap.size w W0 := by rw [hW0]; exact below_alloc (below_alloc (Below.refl _ w) _) _
  have hn1 : W0.heap[w.heap.size]? = some (.cells (ansC x.f0 x.f1 x.f2 x.f3 x.f4 (.slice A x.f5.length c) x.f6) 26 (0, 0)) := by
    rw [hW0]
    exact ((below_alloc (Below.refl _ (w.alloc (.cells (ansC x.f0 x.f1 x.f2 x.f3 x.f4 (.slice A x.f5.length c) x.f6) 26))) (.cells (ansC y.f0 y.f1 y.f2 y.f3 y.f4 (.slice B y.f5.length d) y.f6) 26)).block _ (by simp)).trans (heap_alloc_new w _)
  have hn2 : W0.heap[w.heap.size + 1]? = some (.cells (ansC y.f0 y.f1 y.f2 y.f3 y.f4 (.slice B y.f5.length d) y.f6) 26 (0, 0)) := by
    rw [hW0]
    have := heap_alloc_new (w.alloc (.cells (ansC x.f0 x.f1 x.f2 x.f3 x.f4 (.slice A x.f5.length c) x.f6) 26)) (.cells (ansC y.f0 y.f1 y.f2 y.f3 y.f4 (.slice B y.f5.length d) y.f6) 26)
    simpa using this
  have HS := Lib.hid (memP_c x.f5 y.f5 A B c d W0 (Kd.C_below hA hb1) hc (Kd.C_below hB hb1) hd hm b5 hb5)
  have HB := Lib.hid hb1
  obtain ⟨p0, p1, p2, p3, p4, p5, p6⟩ := ans_cells hn1
  obtain ⟨q0, q1, q2, q3, q4, q5, q6⟩ := ans_cells hn2
  clear hA hB hb1 hn1 hn2 hW0 hb5
  go_enter Try.func43, Try.ntmps43
  go_upto_region 1 with fail
  change Code.wp _ _ _ _ ((w.alloc (.cells (ansC x.f0 x.f1 x.f2 x.f3 x.f4 (.slice A x.f5.length c) x.f6) 26)).alloc (.cells (ansC y.f0 y.f1 y.f2 y.f3 y.f4 (.slice B y.f5.length d) y.f6) 26))
  rw [← HW.out]
  cases h0 : (x.f0 == y.f0) with
  | false =>
    go_wp2_with (go_at_call 18; refine HS.out.mono ?_; rintro e w1 ⟨rfl, ⟨nd, rfl⟩⟩)
    go_ret
    exact ⟨congrArg (fun b => Ending.returned (.bool b)) (show false = anEq x y from (by unfold anEq; rw [← HB5.out, h0]; try simp)), by first | exact HB.out | exact pw_below_drewN HB.out _⟩
  | true =>
    cases h1 : (x.f1 == y.f1) with
    | false =>
      go_wp2_with (go_at_call 18; refine HS.out.mono ?_; rintro e w1 ⟨rfl, ⟨nd, rfl⟩⟩)
      go_ret
      exact ⟨congrArg (fun b => Ending.returned (.bool b)) (show false = anEq x y from (by unfold anEq; rw [← HB5.out, h0, h1]; try simp)), by first | exact HB.out | exact pw_below_drewN HB.out _⟩
    | true =>
      cases h2 : (x.f2 == y.f2) with
      | false =>
        go_wp2_with (go_at_call 18; refine HS.out.mono ?_; rintro e w1 ⟨rfl, ⟨nd, rfl⟩⟩)
        go_ret
        exact ⟨congrArg (fun b => Ending.returned (.bool b)) (show false = anEq x y from (by unfold anEq; rw [← HB5.out, h0, h1, h2]; try simp)), by first | exact HB.out | exact pw_below_drewN HB.out _⟩
      | true =>
        cases h3 : (x.f3 == y.f3) with
        | false =>
          go_wp2_with (go_at_call 18; refine HS.out.mono ?_; rintro e w1 ⟨rfl, ⟨nd, rfl⟩⟩)
          go_ret
          exact ⟨congrArg (fun b => Ending.returned (.bool b)) (show false = anEq x y from (by unfold anEq; rw [← HB5.out, h0, h1, h2, h3]; try simp)), by first | exact HB.out | exact pw_below_drewN HB.out _⟩
        | true =>
          cases h4 : (x.f4 == y.f4) with
          | false =>
            go_wp2_with (go_at_call 18; refine HS.out.mono ?_; rintro e w1 ⟨rfl, ⟨nd, rfl⟩⟩)
            go_ret
            exact ⟨congrArg (fun b => Ending.returned (.bool b)) (show false = anEq x y from (by unfold anEq; rw [← HB5.out, h0, h1, h2, h3, h4]; try simp)), by first | exact HB.out | exact pw_below_drewN HB.out _⟩
          | true =>
            cases b5 with
            | false =>
              go_wp2_with (go_at_call 18; refine HS.out.mono ?_; rintro e w1 ⟨rfl, ⟨nd, rfl⟩⟩)
              go_ret
              exact ⟨congrArg (fun b => Ending.returned (.bool b)) (show false = anEq x y from (by unfold anEq; rw [← HB5.out, h0, h1, h2, h3, h4]; try simp)), by first | exact HB.out | exact pw_below_drewN HB.out _⟩
            | true =>
              cases h6 : (x.f6 == y.f6) with
              | false =>
                go_wp2_with (go_at_call 18; refine HS.out.mono ?_; rintro e w1 ⟨rfl, ⟨nd, rfl⟩⟩)
                go_ret
                exact ⟨congrArg (fun b => Ending.returned (.bool b)) (show false = anEq x y from (by unfold anEq; rw [← HB5.out, h0, h1, h2, h3, h4, h6]; try simp)), by first | exact HB.out | exact pw_below_drewN HB.out _⟩
              | true =>
                go_wp2_with (go_at_call 18; refine HS.out.mono ?_; rintro e w1 ⟨rfl, ⟨nd, rfl⟩⟩)
                go_ret
                exact ⟨congrArg (fun b => Ending.returned (.bool b)) (show true = anEq x y from (by unfold anEq; rw [← HB5.out, h0, h1, h2, h3, h4, h6]; try simp)), by first | exact HB.out | exact pw_below_drewN HB.out _⟩
set_option maxRecDepth 100000 in
set_option maxHeartbeats 16000000 in
theorem memO_c (o : OpS) (A B : Option Addr) (c d : Nat) (w : World) (hA : Kd.C (Kd.int .u64) w A o.f6.length o.f6) (hc : o.f6.length ≤ c) (hB : Kd.C (Kd.int .u64) w B o.f6.length o.f6) (hd : o.f6.length ≤ d) (hm : o.f6.length ≤ 4398046511104) :
    Calls Try.prog 101 #[.agg (opC o A c), .agg (opC o B d)] w fun e w' => e = .returned (.bool true) ∧ Below w.heap.size w w' := by
  obtain ⟨W0, hW0⟩ : ∃ W0, W0 = (w.alloc (.cells (opC o A c) 39)).alloc (.cells (opC o B d) 39) := ⟨_, rfl⟩
  have HW := Lib.hid hW0
  have hb1 : Below w.heap.size w W0 := by rw [hW0]; exact below_alloc (below_alloc (Below.refl _ w) _) _
  have hn1 : W0.heap[w.heap.size]? = some (.cells (opC o A c) 39 (0, 0)) := by
    rw [hW0]
    exact ((below_alloc (Below.refl _ (w.alloc (.cells (opC o A c) 39))) (.cells (opC o B d) 39)).block _ (by simp)).trans (heap_alloc_new w _)
  have hn2 : W0.heap[w.heap.size + 1]? = some (.cells (opC o B d) 39 (0, 0)) := by
    rw [hW0]
    have := heap_alloc_new (w.alloc (.cells (opC o A c) 39)) (.cells (opC o B d) 39)
    simpa using this
  have hS := memU_c o.f6 o.f6 A B c d W0 (Kd.C_below hA hb1) hc (Kd.C_below hB hb1) hd hm true (decide_eq_true rfl).symm
  have HB := Lib.hid hb1
  have HN := Lib.hid hn1
  have HN2 := Lib.hid hn2
  clear hA hB hb1 hn1 hn2 hW0
  go_enter Try.func101, Try.ntmps101
  go_upto_region 1 with fail
  change Code.wp _ _ _ _ ((w.alloc (.cells (opC o A c) 39)).alloc (.cells (opC o B d) 39))
  rw [← HW.out]
  obtain ⟨p0, p1, p2, p3, p4, p5, p6, p7, p8, p9, p10⟩ := op_cells HN.out
  obtain ⟨q0, q1, q2, q3, q4, q5, q6, q7, q8, q9, q10⟩ := op_cells HN2.out
  have hur := Try.underlying36
  go_wp2_with (go_at_call 46; refine hS.mono ?_; rintro e w1 ⟨rfl, ⟨nd, rfl⟩⟩)
  go_ret
  exact ⟨rfl, pw_below_drewN HB.out _⟩
end Go.Proofs.Ytngocadnbpdnoaa.Mo
namespace Go.Proofs.Ytngocadnbpdnoaa.Mo
open Go Go.Maps Go.RowKit Go.Proofs.Ytngocadnbpdnoaa.Srt Go.Proofs.Ytngocadnbpdnoaa.Q Go.Proofs.YtngocadnbpdnoaaW.PrintWords Go.Proofs.YtngocadnbpdnoaaW.PrintLast Go.Proofs.YtngocadnbpdnoaaW.PrintMore
set_option linter.unusedVariables false
set_option linter.unusedSimpArgs false
set_option maxRecDepth 100000 in
set_option maxHeartbeats 16000000 in
theorem samesO_c (gl g cp g2 c2 : Nat) (o : OpS) (A : Option Addr) (c : Nat) (w : World) (hb : w.heap[gl]? = some (.cells (opC o A c) 39 (0, 0))) (hC : Kd.C (Kd.int .u64) w A o.f6.length o.f6) (hc : o.f6.length ≤ c) (hl : o.f6.length ≤ 1099511627776) (hcp : 10 ≤ cp) (hc2 : o.f6.length + 9 ≤ c2) (hI : Kd.C (kRaw 11) w (some ⟨g, 0, none⟩) 10 (rawO o (some ⟨g2, 0, none⟩) c2 :: marksO)) (hJ : Kd.C (Kd.int .u64) w (some ⟨g2, 0, none⟩) (o.f6.length + 9) (o.f6 ++ marksU)) :
    Calls Try.prog 90 #[.slice (some ⟨g, 0, none⟩) 1 cp, .slice (some ⟨gl, 0, none⟩) 1 1] w fun e w' => e = .returned (.bool true) ∧ Below w.heap.size w w' := by
  have hT : Kd.C (Kd.int .u64) w (some ⟨g2, 0, none⟩) o.f6.length o.f6 := by
    have e : (o.f6 ++ marksU).length = o.f6.length + 9 := by rw [List.length_append, marksU_len]
    have := Kd.C_take (m := o.f6.length) (xs := o.f6 ++ marksU) (by rw [e]; exact hJ) (by rw [e]; omega)
    simpa using this
  have HC := Lib.hid hC
  have HBK := Lib.hid hb
  have HI := Lib.hid hI
  have HT := Lib.hid hT
  have hgl := blk_lt hb
  have hcl : o.f6.length ≤ c2 := by omega
  have hm4 : o.f6.length ≤ 4398046511104 := by omega
  clear hC hb hI hJ hT
  go_enter Try.func90, Try.ntmps90
  go_wp2_with fail
  go_loopw [5] (fun v5 wr => ∃ i : Nat, v5 = .int .i64 i ∧ i ≤ 1 ∧ Hid (Below w.heap.size w wr)) (fun v5 _ => 1 - (intOf v5).toNat)
  case atStart => exact ⟨0, rfl, by omega, Lib.hid (Below.refl _ _)⟩
  case round =>
    obtain ⟨i, rfl, hi, HB⟩ := hrel
    rcases (show i = 0 ∨ i = 1 by omega) with hi0 | hi1
    · subst hi0
      have y0 : wr.cell? ⟨g, 0, none⟩ = some (.int .u8 o.f0) := by simpa using raw_cell (Kd.C_below HI.out HB.out) 0 0 _ _ (by decide) rfl rfl
      have y1 : wr.cell? ⟨g, 1, none⟩ = some (.int .u64 o.f1) := by simpa using raw_cell (Kd.C_below HI.out HB.out) 0 1 _ _ (by decide) rfl rfl
      have y2 : wr.cell? ⟨g, 2, none⟩ = some (.int .u64 o.f2) := by simpa using raw_cell (Kd.C_below HI.out HB.out) 0 2 _ _ (by decide) rfl rfl
      have y3 : wr.cell? ⟨g, 3, none⟩ = some (.int .u64 o.f3) := by simpa using raw_cell (Kd.C_below HI.out HB.out) 0 3 _ _ (by decide) rfl rfl
      have y4 : wr.cell? ⟨g, 4, none⟩ = some (.int .u64 o.f4) := by simpa using raw_cell (Kd.C_below HI.out HB.out) 0 4 _ _ (by decide) rfl rfl
      have y5 : wr.cell? ⟨g, 5, none⟩ = some (.bool o.f5.f0) := by simpa using raw_cell (Kd.C_below HI.out HB.out) 0 5 _ _ (by decide) rfl rfl
      have y6 : wr.cell? ⟨g, 6, none⟩ = some (.int .i64 o.f5.f1) := by simpa using raw_cell (Kd.C_below HI.out HB.out) 0 6 _ _ (by decide) rfl rfl
      have y7 : wr.cell? ⟨g, 7, none⟩ = some (.int .i64 o.f5.f2) := by simpa using raw_cell (Kd.C_below HI.out HB.out) 0 7 _ _ (by decide) rfl rfl
      have y8 : wr.cell? ⟨g, 8, none⟩ = some (.slice (some ⟨g2, 0, none⟩) o.f6.length c2) := by simpa using raw_cell (Kd.C_below HI.out HB.out) 0 8 _ _ (by decide) rfl rfl
      have y9 : wr.cell? ⟨g, 9, none⟩ = some (.int .u64 o.f7) := by simpa using raw_cell (Kd.C_below HI.out HB.out) 0 9 _ _ (by decide) rfl rfl
      have y10 : wr.cell? ⟨g, 10, none⟩ = some (.int .u64 o.f8) := by simpa using raw_cell (Kd.C_below HI.out HB.out) 0 10 _ _ (by decide) rfl rfl
      obtain ⟨k0, k1, k2, k3, k4, k5, k6, k7, k8, k9, k10⟩ := op_cells (blk_below HBK.out HB.out)
      go_upto_region 6 with fail
      go_region_with ((go_at_call 101; refine (memO_c o (some ⟨g2, 0, none⟩) A c2 c _ (Kd.C_below HT.out (by first | exact HB.out | exact below_drew HB.out)) hcl (Kd.C_below HC.out (by first | exact HB.out | exact below_drew HB.out)) hc hm4).mono ?_; skip; rintro e w2 ⟨rfl, hB2⟩))
      all_goals
        have HB2 : Hid (Below w.heap.size w w2) := Lib.hid ((below_drew HB.out).trans (hB2.mono (below_drew HB.out).size))
        go_wp2_with fail
        go_roundw
      all_goals first | exact ⟨1, rfl, by omega, HB2⟩ | simp [intOf]
    · subst hi1
      go_wp2_with fail
      go_ret
      exact ⟨rfl, HB.out⟩
set_option maxRecDepth 100000 in
set_option maxHeartbeats 16000000 in
theorem keepsO_c (gl g cp g2 c2 : Nat) (o : OpS) (A : Option Addr) (c : Nat) (w : World) (hb : w.heap[gl]? = some (.cells (opC o A c) 39 (0, 0))) (hC : Kd.C (Kd.int .u64) w A o.f6.length o.f6) (hc : o.f6.length ≤ c) (hl : o.f6.length ≤ 1099511627776) (hcp : 10 ≤ cp) (hc2 : o.f6.length + 9 ≤ c2) (hI : Kd.C (kRaw 11) w (some ⟨g, 0, none⟩) 10 (rawO o (some ⟨g2, 0, none⟩) c2 :: marksO)) (hJ : Kd.C (Kd.int .u64) w (some ⟨g2, 0, none⟩) (o.f6.length + 9) (o.f6 ++ marksU)) :
    Calls Try.prog 44 #[.slice (some ⟨g, 0, none⟩) 1 cp, .slice (some ⟨gl, 0, none⟩) 1 1] w fun e w' => e = .returned (.bool true) ∧ Below w.heap.size w w' := by
  have hS := samesO_c gl g cp g2 c2 o A c w hb hC hc hl hcp hc2 hI hJ
  have HC := Lib.hid hC
  have HBK := Lib.hid hb
  have HI := Lib.hid hI
  have HJ := Lib.hid hJ
  have HS := Lib.hid hS
  have HCC := Lib.hid hc
  have HC2 := Lib.hid hc2
  have HL := Lib.hid hl
  have hgl := blk_lt hb
  have hu := Try.underlying88
  obtain ⟨i0, hi0, _, hsz0, _⟩ := info_parts infoO
  have hcut : ∀ W : World, (Instr.slice 88 (.slice (some ⟨g, 0, none⟩) 1 cp) none (some (.int .i64 10)) none).run Try.prog W = .ok (.slice (some ⟨g, 0, none⟩) 10 cp) W := cut_spare hu hi0 g 1 cp 10 hcp
  have hcpi : (10 : Int) ≤ (cp : Int) := by omega
  clear hC hb hI hJ hS hi0 hsz0 hc hl hc2
  go_enter Try.func44, Try.ntmps44
  go_wp2_with (go_at_call 90; refine HS.out.mono ?_; rintro e w1 ⟨rfl, hB1⟩; have HB1 := Lib.hid hB1; clear hB1)
  go_loopw [5] (fun v5 wr => ∃ i : Nat, v5 = .int .i64 i ∧ i ≤ 1 ∧ Hid (Below w.heap.size w wr)) (fun v5 _ => 1 - (intOf v5).toNat)
  case atStart => exact ⟨0, rfl, by omega, HB1⟩
  case round =>
    clear HB1
    obtain ⟨i, rfl, hi, HB⟩ := hrel
    rcases (show i = 0 ∨ i = 1 by omega) with hi0 | hi1
    · subst hi0
      have y0 : wr.cell? ⟨g, 0, none⟩ = some (.int .u8 o.f0) := by simpa using raw_cell (Kd.C_below HI.out HB.out) 0 0 _ _ (by decide) rfl rfl
      have y1 : wr.cell? ⟨g, 1, none⟩ = some (.int .u64 o.f1) := by simpa using raw_cell (Kd.C_below HI.out HB.out) 0 1 _ _ (by decide) rfl rfl
      have y2 : wr.cell? ⟨g, 2, none⟩ = some (.int .u64 o.f2) := by simpa using raw_cell (Kd.C_below HI.out HB.out) 0 2 _ _ (by decide) rfl rfl
      have y3 : wr.cell? ⟨g, 3, none⟩ = some (.int .u64 o.f3) := by simpa using raw_cell (Kd.C_below HI.out HB.out) 0 3 _ _ (by decide) rfl rfl
      have y4 : wr.cell? ⟨g, 4, none⟩ = some (.int .u64 o.f4) := by simpa using raw_cell (Kd.C_below HI.out HB.out) 0 4 _ _ (by decide) rfl rfl
      have y5 : wr.cell? ⟨g, 5, none⟩ = some (.bool o.f5.f0) := by simpa using raw_cell (Kd.C_below HI.out HB.out) 0 5 _ _ (by decide) rfl rfl
      have y6 : wr.cell? ⟨g, 6, none⟩ = some (.int .i64 o.f5.f1) := by simpa using raw_cell (Kd.C_below HI.out HB.out) 0 6 _ _ (by decide) rfl rfl
      have y7 : wr.cell? ⟨g, 7, none⟩ = some (.int .i64 o.f5.f2) := by simpa using raw_cell (Kd.C_below HI.out HB.out) 0 7 _ _ (by decide) rfl rfl
      have y8 : wr.cell? ⟨g, 8, none⟩ = some (.slice (some ⟨g2, 0, none⟩) o.f6.length c2) := by simpa using raw_cell (Kd.C_below HI.out HB.out) 0 8 _ _ (by decide) rfl rfl
      have y9 : wr.cell? ⟨g, 9, none⟩ = some (.int .u64 o.f7) := by simpa using raw_cell (Kd.C_below HI.out HB.out) 0 9 _ _ (by decide) rfl rfl
      have y10 : wr.cell? ⟨g, 10, none⟩ = some (.int .u64 o.f8) := by simpa using raw_cell (Kd.C_below HI.out HB.out) 0 10 _ _ (by decide) rfl rfl
      obtain ⟨k0, k1, k2, k3, k4, k5, k6, k7, k8, k9, k10⟩ := op_cells (blk_below HBK.out HB.out)
      have cK : ∀ W, Below wr.heap.size wr W → _ := fun W hW => keptU_c g2 c2 A c o.f6.length o.f6 W rfl (Kd.C_below HJ.out (HB.out.trans (hW.mono HB.out.size))) HC2.out (Kd.C_below HC.out (HB.out.trans (hW.mono HB.out.size))) HCC.out HL.out
      go_upto_region 6 with fail
      go_quiet ((go_at_call 91; exact find_quiet (cK _ (pw_below_drewN (Below.refl _ wr) _))))
      go_wp2_with fail
      go_roundw
      case rel => exact ⟨1, rfl, by omega, Lib.hid (pw_below_drewN HB.out _)⟩
      case measure => simp [intOf]
    · subst hi1
      go_wp2_with fail
      go_loopw [7] (fun v7 wr => ∃ j : Nat, v7 = .int .i64 j ∧ 1 ≤ j ∧ j ≤ 10 ∧ Hid (Below w.heap.size w wr)) (fun v7 _ => 10 - (intOf v7).toNat)
      case atStart => exact ⟨1, rfl, Nat.le_refl _, by omega, HB⟩
      case round =>
        clear HB
        obtain ⟨j, rfl, hj1, hj2, HB⟩ := hrel
        by_cases hjl : j < 10
        · have hin2 : (j : Int) < 10 := by omega
          have y0 : wr.cell? ⟨g, j * 11 + 1, none⟩ = some (.int .u64 (2305843009213693952 + ((j - 1 : Nat) : Int))) := raw_cell (Kd.C_below HI.out HB.out) j 1 (mkO (2305843009213693952 + ((j - 1 : Nat) : Int))) _ (by omega) (by
            obtain ⟨j', rfl⟩ : ∃ j', j = j' + 1 := ⟨j - 1, by omega⟩
            rw [List.getElem?_cons_succ]
            simp [marksO, List.getElem?_map, List.getElem?_range (show j' < 9 by omega)]) rfl
          obtain ⟨q, hq⟩ : ∃ q : Int, q = 2305843009213693952 + ((j - 1 : Nat) : Int) := ⟨_, rfl⟩
          rw [← hq] at y0
          have q1 : 2305843009213693952 + (j : Int) - 1 = q := by rw [hq]; omega
          clear hq
          go_wp2_with fail
          go_roundw
          case rel => exact ⟨j + 1, by go_num, by omega, by omega, HB⟩
          case measure => simp [intOf]; omega
        · obtain rfl : j = 10 := by omega
          go_wp2_with fail
          go_ret
          exact ⟨rfl, HB.out⟩
end Go.Proofs.Ytngocadnbpdnoaa.Mo
namespace Go.Proofs.Ytngocadnbpdnoaa.Mo
open Go Go.Maps Go.RowKit Go.Proofs.Ytngocadnbpdnoaa.Srt Go.Proofs.Ytngocadnbpdnoaa.Q Go.Proofs.YtngocadnbpdnoaaW.PrintWords Go.Proofs.YtngocadnbpdnoaaW.PrintLast Go.Proofs.YtngocadnbpdnoaaW.PrintMore
set_option linter.unusedVariables false
set_option linter.unusedSimpArgs false
set_option maxRecDepth 100000 in
set_option maxHeartbeats 16000000 in
theorem samesA_c (gl g cp g2 c2 : Nat) (o : AnS) (A : Option Addr) (c : Nat) (w : World) (hb : w.heap[gl]? = some (.cells (ansC o.f0 o.f1 o.f2 o.f3 o.f4 (.slice A o.f5.length c) o.f6) 26 (0, 0))) (hC : Kd.C kSP w A o.f5.length o.f5) (hc : o.f5.length ≤ c) (hl : o.f5.length ≤ 1099511627776) (hcp : 10 ≤ cp) (hc2 : o.f5.length + 9 ≤ c2) (hI : Kd.C (kRaw 7) w (some ⟨g, 0, none⟩) 10 (rawA o (some ⟨g2, 0, none⟩) c2 :: marksA)) (hJ : Kd.C kSP w (some ⟨g2, 0, none⟩) (o.f5.length + 9) (o.f5 ++ marksP)) :
    Calls Try.prog 88 #[.slice (some ⟨g, 0, none⟩) 1 cp, .slice (some ⟨gl, 0, none⟩) 1 1] w fun e w' => e = .returned (.bool true) ∧ Below w.heap.size w w' := by
  have hT : Kd.C kSP w (some ⟨g2, 0, none⟩) o.f5.length o.f5 := by
    have e : (o.f5 ++ marksP).length = o.f5.length + 9 := by rw [List.length_append, marksP_len]
    have := Kd.C_take (m := o.f5.length) (xs := o.f5 ++ marksP) (by rw [e]; exact hJ) (by rw [e]; omega)
    simpa using this
  have HC := Lib.hid hC
  have HBK := Lib.hid hb
  have HI := Lib.hid hI
  have HT := Lib.hid hT
  have hgl := blk_lt hb
  have hcl : o.f5.length ≤ c2 := by omega
  have hm4 : o.f5.length ≤ 4398046511104 := by omega
  clear hC hb hI hJ hT
  go_enter Try.func88, Try.ntmps88
  go_wp2_with fail
  go_loopw [5] (fun v5 wr => ∃ i : Nat, v5 = .int .i64 i ∧ i ≤ 1 ∧ Hid (Below w.heap.size w wr)) (fun v5 _ => 1 - (intOf v5).toNat)
  case atStart => exact ⟨0, rfl, by omega, Lib.hid (Below.refl _ _)⟩
  case round =>
    obtain ⟨i, rfl, hi, HB⟩ := hrel
    rcases (show i = 0 ∨ i = 1 by omega) with hi0 | hi1
    · subst hi0
      have y0 : wr.cell? ⟨g, 0, none⟩ = some (.int .i64 o.f0) := by simpa using raw_cell (Kd.C_below HI.out HB.out) 0 0 _ _ (by decide) rfl rfl
      have y1 : wr.cell? ⟨g, 1, none⟩ = some (.bool o.f1) := by simpa using raw_cell (Kd.C_below HI.out HB.out) 0 1 _ _ (by decide) rfl rfl
      have y2 : wr.cell? ⟨g, 2, none⟩ = some (.int .u64 o.f2) := by simpa using raw_cell (Kd.C_below HI.out HB.out) 0 2 _ _ (by decide) rfl rfl
      have y3 : wr.cell? ⟨g, 3, none⟩ = some (.bool o.f3) := by simpa using raw_cell (Kd.C_below HI.out HB.out) 0 3 _ _ (by decide) rfl rfl
      have y4 : wr.cell? ⟨g, 4, none⟩ = some (.int .u64 o.f4) := by simpa using raw_cell (Kd.C_below HI.out HB.out) 0 4 _ _ (by decide) rfl rfl
      have y5 : wr.cell? ⟨g, 5, none⟩ = some (.slice (some ⟨g2, 0, none⟩) o.f5.length c2) := by simpa using raw_cell (Kd.C_below HI.out HB.out) 0 5 _ _ (by decide) rfl rfl
      have y6 : wr.cell? ⟨g, 6, none⟩ = some (.int .u64 o.f6) := by simpa using raw_cell (Kd.C_below HI.out HB.out) 0 6 _ _ (by decide) rfl rfl
      obtain ⟨k0, k1, k2, k3, k4, k5, k6⟩ := ans_cells (blk_below HBK.out HB.out)
      go_upto_region 6 with fail
      go_region_with ((go_at_call 43; refine (memA_c o o (some ⟨g2, 0, none⟩) A c2 c _ (Kd.C_below HT.out (by first | exact HB.out | exact below_drew HB.out)) hcl (Kd.C_below HC.out (by first | exact HB.out | exact below_drew HB.out)) hc hm4).mono ?_; rw [anEq_self]; rintro e w2 ⟨rfl, hB2⟩))
      all_goals
        have HB2 : Hid (Below w.heap.size w w2) := Lib.hid ((below_drew HB.out).trans (hB2.mono (below_drew HB.out).size))
        go_wp2_with fail
        go_roundw
      all_goals first | exact ⟨1, rfl, by omega, HB2⟩ | simp [intOf]
    · subst hi1
      go_wp2_with fail
      go_ret
      exact ⟨rfl, HB.out⟩
set_option maxRecDepth 100000 in
set_option maxHeartbeats 16000000 in
theorem keepsA_c (gl g cp g2 c2 : Nat) (o : AnS) (A : Option Addr) (c : Nat) (w : World) (hb : w.heap[gl]? = some (.cells (ansC o.f0 o.f1 o.f2 o.f3 o.f4 (.slice A o.f5.length c) o.f6) 26 (0, 0))) (hC : Kd.C kSP w A o.f5.length o.f5) (hc : o.f5.length ≤ c) (hl : o.f5.length ≤ 1099511627776) (hcp : 10 ≤ cp) (hc2 : o.f5.length + 9 ≤ c2) (hI : Kd.C (kRaw 7) w (some ⟨g, 0, none⟩) 10 (rawA o (some ⟨g2, 0, none⟩) c2 :: marksA)) (hJ : Kd.C kSP w (some ⟨g2, 0, none⟩) (o.f5.length + 9) (o.f5 ++ marksP)) :
    Calls Try.prog 42 #[.slice (some ⟨g, 0, none⟩) 1 cp, .slice (some ⟨gl, 0, none⟩) 1 1] w fun e w' => e = .returned (.bool true) ∧ Below w.heap.size w w' := by
  have hS := samesA_c gl g cp g2 c2 o A c w hb hC hc hl hcp hc2 hI hJ
  have HC := Lib.hid hC
  have HBK := Lib.hid hb
  have HI := Lib.hid hI
  have HJ := Lib.hid hJ
  have HS := Lib.hid hS
  have HCC := Lib.hid hc
  have HC2 := Lib.hid hc2
  have HL := Lib.hid hl
  have hgl := blk_lt hb
  have hu := Try.underlying82
  obtain ⟨i0, hi0, _, hsz0, _⟩ := info_parts infoA
  have hcut : ∀ W : World, (Instr.slice 82 (.slice (some ⟨g, 0, none⟩) 1 cp) none (some (.int .i64 10)) none).run Try.prog W = .ok (.slice (some ⟨g, 0, none⟩) 10 cp) W := cut_spare hu hi0 g 1 cp 10 hcp
  have hcpi : (10 : Int) ≤ (cp : Int) := by omega
  clear hC hb hI hJ hS hi0 hsz0 hc hl hc2
  go_enter Try.func42, Try.ntmps42
  go_wp2_with (go_at_call 88; refine HS.out.mono ?_; rintro e w1 ⟨rfl, hB1⟩; have HB1 := Lib.hid hB1; clear hB1)
  go_loopw [5] (fun v5 wr => ∃ i : Nat, v5 = .int .i64 i ∧ i ≤ 1 ∧ Hid (Below w.heap.size w wr)) (fun v5 _ => 1 - (intOf v5).toNat)
  case atStart => exact ⟨0, rfl, by omega, HB1⟩
  case round =>
    clear HB1
    obtain ⟨i, rfl, hi, HB⟩ := hrel
    rcases (show i = 0 ∨ i = 1 by omega) with hi0 | hi1
    · subst hi0
      have y0 : wr.cell? ⟨g, 0, none⟩ = some (.int .i64 o.f0) := by simpa using raw_cell (Kd.C_below HI.out HB.out) 0 0 _ _ (by decide) rfl rfl
      have y1 : wr.cell? ⟨g, 1, none⟩ = some (.bool o.f1) := by simpa using raw_cell (Kd.C_below HI.out HB.out) 0 1 _ _ (by decide) rfl rfl
      have y2 : wr.cell? ⟨g, 2, none⟩ = some (.int .u64 o.f2) := by simpa using raw_cell (Kd.C_below HI.out HB.out) 0 2 _ _ (by decide) rfl rfl
      have y3 : wr.cell? ⟨g, 3, none⟩ = some (.bool o.f3) := by simpa using raw_cell (Kd.C_below HI.out HB.out) 0 3 _ _ (by decide) rfl rfl
      have y4 : wr.cell? ⟨g, 4, none⟩ = some (.int .u64 o.f4) := by simpa using raw_cell (Kd.C_below HI.out HB.out) 0 4 _ _ (by decide) rfl rfl
      have y5 : wr.cell? ⟨g, 5, none⟩ = some (.slice (some ⟨g2, 0, none⟩) o.f5.length c2) := by simpa using raw_cell (Kd.C_below HI.out HB.out) 0 5 _ _ (by decide) rfl rfl
      have y6 : wr.cell? ⟨g, 6, none⟩ = some (.int .u64 o.f6) := by simpa using raw_cell (Kd.C_below HI.out HB.out) 0 6 _ _ (by decide) rfl rfl
      obtain ⟨k0, k1, k2, k3, k4, k5, k6⟩ := ans_cells (blk_below HBK.out HB.out)
      have cK : ∀ W, Below wr.heap.size wr W → _ := fun W hW => keptP_c g2 c2 A c o.f5.length o.f5 W rfl (Kd.C_below HJ.out (HB.out.trans (hW.mono HB.out.size))) HC2.out (Kd.C_below HC.out (HB.out.trans (hW.mono HB.out.size))) HCC.out HL.out
      go_upto_region 6 with fail
      go_quiet ((go_at_call 89; exact find_quiet (cK _ (pw_below_drewN (Below.refl _ wr) _))))
      go_wp2_with fail
      go_roundw
      case rel => exact ⟨1, rfl, by omega, Lib.hid (pw_below_drewN HB.out _)⟩
      case measure => simp [intOf]
    · subst hi1
      go_wp2_with fail
      go_loopw [7] (fun v7 wr => ∃ j : Nat, v7 = .int .i64 j ∧ 1 ≤ j ∧ j ≤ 10 ∧ Hid (Below w.heap.size w wr)) (fun v7 _ => 10 - (intOf v7).toNat)
      case atStart => exact ⟨1, rfl, Nat.le_refl _, by omega, HB⟩
      case round =>
        clear HB
        obtain ⟨j, rfl, hj1, hj2, HB⟩ := hrel
        by_cases hjl : j < 10
        · have hin2 : (j : Int) < 10 := by omega
          have y0 : wr.cell? ⟨g, j * 7 + 2, none⟩ = some (.int .u64 (2305843009213693952 + ((j - 1 : Nat) : Int))) := raw_cell (Kd.C_below HI.out HB.out) j 2 (mkA (2305843009213693952 + ((j - 1 : Nat) : Int))) _ (by omega) (by
            obtain ⟨j', rfl⟩ : ∃ j', j = j' + 1 := ⟨j - 1, by omega⟩
            rw [List.getElem?_cons_succ]
            simp [marksA, List.getElem?_map, List.getElem?_range (show j' < 9 by omega)]) rfl
          obtain ⟨q, hq⟩ : ∃ q : Int, q = 2305843009213693952 + ((j - 1 : Nat) : Int) := ⟨_, rfl⟩
          rw [← hq] at y0
          have q1 : 2305843009213693952 + (j : Int) - 1 = q := by rw [hq]; omega
          clear hq
          go_wp2_with fail
          go_roundw
          case rel => exact ⟨j + 1, by go_num, by omega, by omega, HB⟩
          case measure => simp [intOf]; omega
        · obtain rfl : j = 10 := by omega
          go_wp2_with fail
          go_ret
          exact ⟨rfl, HB.out⟩
end Go.Proofs.Ytngocadnbpdnoaa.Mo
namespace Go.Proofs.Ytngocadnbpdnoaa.Mo
open Go Go.Maps Go.RowKit Go.Proofs.Ytngocadnbpdnoaa.Srt Go.Proofs.Ytngocadnbpdnoaa.Q Go.Proofs.YtngocadnbpdnoaaW.PrintWords Go.Proofs.YtngocadnbpdnoaaW.PrintLast Go.Proofs.YtngocadnbpdnoaaW.PrintMore Go.Proofs.Ytngocadnbpdnoaa.Open
set_option linter.unusedVariables false
set_option linter.unusedSimpArgs false
theorem doM {w wr : World} {f : Nat → Option PL} {N : Nat} {R : Nat → Prop} {gp bn bh : Nat} {s : MS} {r : List Mod} {ds : List (Nat × MS)} (h : J w wr f N R (⟨gp, bn, bh, s⟩ :: r) ds) (o : OpS) (A : Option Addr) (c : Nat) (hdl : Int) (hO : OpWf o) (hh : u64wf hdl) (hN : N ≤ 1099511627776) (hC : ∀ W', Kept wr W' (fun k => k = bn ∨ k = bh) → Kd.C (Kd.int .u64) W' A o.f6.length o.f6) (hw : ∀ k ∈ o.f6, u64wf k) (hn : o.f6.length ≤ 1099511627776) :
    Calls Try.prog 15 #[.pointer (some ⟨gp, 0, none⟩), .agg (opC o A c), .int .u64 hdl] wr fun e w1 => ∃ f' A' c', e = .returned (.agg #[.int .i64 (stepD s o hdl).2.e, .bool (stepD s o hdl).2.fo, .int .u64 (stepD s o hdl).2.v, .bool (stepD s o hdl).2.dn, .int .u64 (stepD s o hdl).2.h, .slice A' (toS (stepD s o hdl).2.ps).length c', .int .u64 (stepD s o hdl).2.c]) ∧ J w w1 f' (N + 1) R (⟨gp, bn, bh, (stepD s o hdl).1⟩ :: r) ds ∧ kSP.R 90 w1 wr.heap.size (fun _ => True) (.slice A' (toS (stepD s o hdl).2.ps).length c') (toS (stepD s o hdl).2.ps) ∧ KO wr w1 (fun k => k = bn ∨ k = bh) := by
  have hp := (h.al.pm ⟨gp, bn, bh, s⟩ (by simp)).1
  refine (do_c f N gp bn bh s.multi s.now s.held o A c hdl wr hp h.al.fro hO hh hN hC hw hn).mono ?_
  intro e w1 hD
  obtain ⟨A', c', he, hR, hL⟩ := DoPost.agg hD
  obtain ⟨f', hA⟩ := h.prog (s' := (stepD s o hdl).1) hL (Nat.le_succ N)
  obtain ⟨_, _, _, _, hK⟩ := hL
  exact ⟨f', A', c', he, hA, hR, hK⟩
theorem tkM {w wr : World} {f : Nat → Option PL} {N : Nat} {R : Nat → Prop} {gp bn bh : Nat} {s : MS} {r : List Mod} {ds : List (Nat × MS)} (h : J w wr f N R (⟨gp, bn, bh, s⟩ :: r) ds) (o : OpS) (a : AnS) (A B : Option Addr) (c d : Nat) (hO : OpWf o) (hN : N + 1 ≤ 1099511627776) (hC : ∀ W', Kept wr W' (fun k => k = bn ∨ k = bh) → Kd.C (Kd.int .u64) W' A o.f6.length o.f6) (hw : ∀ k ∈ o.f6, u64wf k) (hn : o.f6.length ≤ 1099511627776)
    (hB : ∀ W', Kept wr W' (fun k => k = bn ∨ k = bh) → Kd.C k90 W' B a.f5.length a.f5) (hd : a.f5.length ≤ d) (hm : a.f5.length ≤ 4398046511104) (hu : u64wf a.f4) :
    Calls Try.prog 22 #[.pointer (some ⟨gp, 0, none⟩), .agg (opC o A c), anV a B d] wr fun e w1 => ∃ f', e = .returned (.bool (takeD s o a).2) ∧ J w w1 f' (N + 2) R (⟨gp, bn, bh, (takeD s o a).1⟩ :: r) ds ∧ KO wr w1 (fun k => k = bn ∨ k = bh) := by
  have hp := (h.al.pm ⟨gp, bn, bh, s⟩ (by simp)).1
  refine (take_c o a A B c d f N gp bn bh s.multi s.now s.held wr hp h.al.fro hN hC hw hn hB hd hm hO hu).mono ?_
  rintro e w1 ⟨he, hL⟩
  obtain ⟨f', hA⟩ := h.prog (s' := (takeD s o a).1) hL (by omega)
  obtain ⟨_, _, _, _, hK⟩ := hL
  exact ⟨f', he, hA, hK⟩
theorem J.at {w wr : World} {f : Nat → Option PL} {N : Nat} {R : Nat → Prop} {ms : List Mod} {rp : Nat} {s : MS} {r : List (Nat × MS)} (h : J w wr f N R ms ((rp, s) :: r)) : ∃ A c B d hs, RMd wr (fun k => ¬ R k ∧ k < wr.heap.size) rp N s A c B d hs := by
  obtain ⟨A, c, B, d, hs, hM⟩ := (h.doc (rp, s) (by simp)).1
  exact ⟨A, c, B, d, hs, hM.less (fun k e => e.1) ⟨hM.rp, blk_lt hM.blk⟩⟩
theorem doR {w wr : World} {f : Nat → Option PL} {N : Nat} {R : Nat → Prop} {ms : List Mod} {rp : Nat} {s : MS} {r : List (Nat × MS)} (h : J w wr f N R ms ((rp, s) :: r)) (o : OpS) (A : Option Addr) (c : Nat) (hdl : Int) (hN : N ≤ 1099511627776) (hC : Kd.C (Kd.int .u64) wr A o.f6.length o.f6) (hCc : o.f6.length ≤ c) (hn : o.f6.length ≤ 1099511627776) :
    Calls Try.prog 24 #[.pointer (some ⟨rp, 0, none⟩), .agg (opC o A c), .int .u64 hdl] wr fun e w1 => ∃ R' A' c', e = .returned (.agg #[.int .i64 (stepD s o hdl).2.e, .bool (stepD s o hdl).2.fo, .int .u64 (stepD s o hdl).2.v, .bool (stepD s o hdl).2.dn, .int .u64 (stepD s o hdl).2.h, .slice A' (toS (stepD s o hdl).2.ps).length c', .int .u64 (stepD s o hdl).2.c]) ∧ J w w1 f (N + 1) R' ms ((rp, (stepD s o hdl).1) :: r) ∧ kSP.R 90 w1 wr.heap.size (fun _ => True) (.slice A' (toS (stepD s o hdl).2.ps).length c') (toS (stepD s o hdl).2.ps) ∧ KO wr w1 (fun k => k = rp) ∧ ∀ k, R' k → R k ∨ wr.heap.size ≤ k := by
  obtain ⟨A0, c0, B0, d0, hs0, hM⟩ := h.at
  refine (rdo_c hM o A c hdl hN (fun k e => e.2) hC hCc hn).mono ?_
  rintro e w1 ⟨ps, rfl, hR, hD, hK⟩
  obtain ⟨A', c', rfl⟩ := Kd.R_slice hR
  obtain ⟨R', hJ, hRR⟩ := h.docs hD hK (Nat.le_succ N)
  exact ⟨R', A', c', rfl, hJ, hR, hK, hRR⟩
theorem tkR {w wr : World} {f : Nat → Option PL} {N : Nat} {R : Nat → Prop} {ms : List Mod} {rp : Nat} {s : MS} {r : List (Nat × MS)} (h : J w wr f N R ms ((rp, s) :: r)) (o : OpS) (a : AnS) (A B : Option Addr) (c d : Nat) (hN : N ≤ 1099511627776) (hC : Kd.C (Kd.int .u64) wr A o.f6.length o.f6) (hCc : o.f6.length ≤ c) (hn : o.f6.length ≤ 1099511627776) (hB : Kd.C kSP wr B a.f5.length a.f5) (hd : a.f5.length ≤ d) (hm : a.f5.length ≤ 4398046511104) :
    Calls Try.prog 23 #[.pointer (some ⟨rp, 0, none⟩), .agg (opC o A c), anV a B d] wr fun e w1 => ∃ R', e = .returned (.bool (takeD s o a).2) ∧ J w w1 f (N + 1) R' ms ((rp, (takeD s o a).1) :: r) ∧ KO wr w1 (fun k => k = rp) ∧ ∀ k, R' k → R k ∨ wr.heap.size ≤ k := by
  obtain ⟨A0, c0, B0, d0, hs0, hM⟩ := h.at
  refine (takeR_c hM o a A B c d hN (fun k e => e.2) hC hCc hn hB hd hm).mono ?_
  rintro e w1 ⟨he, hD, hK⟩
  obtain ⟨R', hJ, hRR⟩ := h.docs hD hK (Nat.le_succ N)
  exact ⟨R', he, hJ, hK, hRR⟩
/-- Where blocks of cells lie, none of the maps lies. -/
theorem J.apart {w wr : World} {f : Nat → Option PL} {N : Nat} {R : Nat → Prop} {ms : List Mod} {ds : List (Nat × MS)} (h : J w wr f N R ms ds) {m : Mod} (hm : m ∈ ms) {g : Nat} {cs : Array Value} {T : TypeId} {fr : Nat × Nat} (hb : wr.heap[g]? = some (.cells cs T fr)) : ¬ (g = m.bn ∨ g = m.bh) := fun e => by
  have hp := (h.al.pm m hm).1
  rcases e with e | e
  · obtain ⟨⟨es, cl, h3, _⟩, _⟩ := hp.now
    rw [← e, hb] at h3; cases h3
  · obtain ⟨⟨es, cl, h3, _⟩, _⟩ := hp.held
    rw [← e, hb] at h3; cases h3
theorem J.apartR {w wr : World} {f : Nat → Option PL} {N : Nat} {R : Nat → Prop} {ms : List Mod} {ds : List (Nat × MS)} (h : J w wr f N R ms ds) {d : Nat × MS} (hd : d ∈ ds) {g : Nat} {cs : Array Value} {T : TypeId} {fr : Nat × Nat} (hb : wr.heap[g]? = some (.cells cs T fr)) (hT : T ≠ 119) : ¬ (g = d.1) := fun e => by
  obtain ⟨cs2, h2⟩ := (h.doc d hd).1.blk
  rw [← e, hb] at h2
  simp only [Option.some.injEq, Obj.cells.injEq] at h2
  exact hT h2.2.1
end Go.Proofs.Ytngocadnbpdnoaa.Mo
namespace Go.Proofs.Ytngocadnbpdnoaa.Mo
open Go Go.Maps Go.RowKit Go.Proofs.Ytngocadnbpdnoaa.Srt Go.Proofs.Ytngocadnbpdnoaa.Q Go.Proofs.YtngocadnbpdnoaaW.PrintWords Go.Proofs.YtngocadnbpdnoaaW.PrintLast Go.Proofs.YtngocadnbpdnoaaW.PrintMore Go.Proofs.Ytngocadnbpdnoaa.Open
set_option linter.unusedVariables false
set_option linter.unusedSimpArgs false
def callC (x : CallS) (A : Option Addr) (c : Nat) (B : Option Addr) (d : Nat) : Array Value := #[.bool x.tk, .int .u8 x.op.f0, .int .u64 x.op.f1, .int .u64 x.op.f2, .int .u64 x.op.f3, .int .u64 x.op.f4, .bool x.op.f5.f0, .int .i64 x.op.f5.f1, .int .i64 x.op.f5.f2, .slice A x.op.f6.length c, .int .u64 x.op.f7, .int .u64 x.op.f8, .int .i64 x.an.f0, .bool x.an.f1, .int .u64 x.an.f2, .bool x.an.f3, .int .u64 x.an.f4, .slice B x.an.f5.length d, .int .u64 x.an.f6, .int .u64 x.hd]
def bothC (gp rp : Nat) : Array Value := #[.pointer (some ⟨gp, 0, none⟩), .pointer (some ⟨rp, 0, none⟩)]
theorem cells_box {W : World} {pb gp rp : Nat} (h : W.heap[pb]? = some (.cells (bothC gp rp) 77 (0, 0))) : W.cell? ⟨pb, 0, none⟩ = some (.pointer (some ⟨gp, 0, none⟩)) ∧ W.cell? ⟨pb, 1, none⟩ = some (.pointer (some ⟨rp, 0, none⟩)) := by
  refine ⟨?_, ?_⟩ <;> (rw [blk_cell h]; rfl)
theorem cells_call {W : World} {gc : Nat} {x : CallS} {A B : Option Addr} {c d : Nat} (h : W.heap[gc]? = some (.cells (callC x A c B d) 41 (0, 0))) : W.cell? ⟨gc, 0, none⟩ = some (.bool x.tk) ∧ W.cell? ⟨gc, 1, none⟩ = some (.int .u8 x.op.f0) ∧ W.cell? ⟨gc, 2, none⟩ = some (.int .u64 x.op.f1) ∧ W.cell? ⟨gc, 3, none⟩ = some (.int .u64 x.op.f2) ∧ W.cell? ⟨gc, 4, none⟩ = some (.int .u64 x.op.f3) ∧ W.cell? ⟨gc, 5, none⟩ = some (.int .u64 x.op.f4) ∧ W.cell? ⟨gc, 6, none⟩ = some (.bool x.op.f5.f0) ∧ W.cell? ⟨gc, 7, none⟩ = some (.int .i64 x.op.f5.f1) ∧ W.cell? ⟨gc, 8, none⟩ = some (.int .i64 x.op.f5.f2) ∧ W.cell? ⟨gc, 9, none⟩ = some (.slice A x.op.f6.length c) ∧ W.cell? ⟨gc, 10, none⟩ = some (.int .u64 x.op.f7) ∧ W.cell? ⟨gc, 11, none⟩ = some (.int .u64 x.op.f8) ∧ W.cell? ⟨gc, 12, none⟩ = some (.int .i64 x.an.f0) ∧ W.cell? ⟨gc, 13, none⟩ = some (.bool x.an.f1) ∧ W.cell? ⟨gc, 14, none⟩ = some (.int .u64 x.an.f2) ∧ W.cell? ⟨gc, 15, none⟩ = some (.bool x.an.f3) ∧ W.cell? ⟨gc, 16, none⟩ = some (.int .u64 x.an.f4) ∧ W.cell? ⟨gc, 17, none⟩ = some (.slice B x.an.f5.length d) ∧ W.cell? ⟨gc, 18, none⟩ = some (.int .u64 x.an.f6) ∧ W.cell? ⟨gc, 19, none⟩ = some (.int .u64 x.hd) := by
  refine ⟨?_, ?_, ?_, ?_, ?_, ?_, ?_, ?_, ?_, ?_, ?_, ?_, ?_, ?_, ?_, ?_, ?_, ?_, ?_, ?_⟩ <;> (rw [blk_cell h]; rfl)
theorem cells_inO {W : World} {gi g2 c2 : Nat} {x : CallS} (h : Kd.C (kRaw 11) W (some ⟨gi, 0, none⟩) 10 (rawO x.op (some ⟨g2, 0, none⟩) c2 :: marksO)) : W.cell? ⟨gi, 0, none⟩ = some (.int .u8 x.op.f0) ∧ W.cell? ⟨gi, 1, none⟩ = some (.int .u64 x.op.f1) ∧ W.cell? ⟨gi, 2, none⟩ = some (.int .u64 x.op.f2) ∧ W.cell? ⟨gi, 3, none⟩ = some (.int .u64 x.op.f3) ∧ W.cell? ⟨gi, 4, none⟩ = some (.int .u64 x.op.f4) ∧ W.cell? ⟨gi, 5, none⟩ = some (.bool x.op.f5.f0) ∧ W.cell? ⟨gi, 6, none⟩ = some (.int .i64 x.op.f5.f1) ∧ W.cell? ⟨gi, 7, none⟩ = some (.int .i64 x.op.f5.f2) ∧ W.cell? ⟨gi, 8, none⟩ = some (.slice (some ⟨g2, 0, none⟩) x.op.f6.length c2) ∧ W.cell? ⟨gi, 9, none⟩ = some (.int .u64 x.op.f7) ∧ W.cell? ⟨gi, 10, none⟩ = some (.int .u64 x.op.f8) :=
  ⟨by simpa using raw_cell h 0 0 _ _ (by decide) rfl rfl, by simpa using raw_cell h 0 1 _ _ (by decide) rfl rfl, by simpa using raw_cell h 0 2 _ _ (by decide) rfl rfl, by simpa using raw_cell h 0 3 _ _ (by decide) rfl rfl, by simpa using raw_cell h 0 4 _ _ (by decide) rfl rfl, by simpa using raw_cell h 0 5 _ _ (by decide) rfl rfl, by simpa using raw_cell h 0 6 _ _ (by decide) rfl rfl, by simpa using raw_cell h 0 7 _ _ (by decide) rfl rfl, by simpa using raw_cell h 0 8 _ _ (by decide) rfl rfl, by simpa using raw_cell h 0 9 _ _ (by decide) rfl rfl, by simpa using raw_cell h 0 10 _ _ (by decide) rfl rfl⟩
theorem cells_inA {W : World} {ga h2 d2 : Nat} {x : CallS} (h : Kd.C (kRaw 7) W (some ⟨ga, 0, none⟩) 10 (rawA x.an (some ⟨h2, 0, none⟩) d2 :: marksA)) : W.cell? ⟨ga, 0, none⟩ = some (.int .i64 x.an.f0) ∧ W.cell? ⟨ga, 1, none⟩ = some (.bool x.an.f1) ∧ W.cell? ⟨ga, 2, none⟩ = some (.int .u64 x.an.f2) ∧ W.cell? ⟨ga, 3, none⟩ = some (.bool x.an.f3) ∧ W.cell? ⟨ga, 4, none⟩ = some (.int .u64 x.an.f4) ∧ W.cell? ⟨ga, 5, none⟩ = some (.slice (some ⟨h2, 0, none⟩) x.an.f5.length d2) ∧ W.cell? ⟨ga, 6, none⟩ = some (.int .u64 x.an.f6) :=
  ⟨by simpa using raw_cell h 0 0 _ _ (by decide) rfl rfl, by simpa using raw_cell h 0 1 _ _ (by decide) rfl rfl, by simpa using raw_cell h 0 2 _ _ (by decide) rfl rfl, by simpa using raw_cell h 0 3 _ _ (by decide) rfl rfl, by simpa using raw_cell h 0 4 _ _ (by decide) rfl rfl, by simpa using raw_cell h 0 5 _ _ (by decide) rfl rfl, by simpa using raw_cell h 0 6 _ _ (by decide) rfl rfl⟩
theorem cells_take {W : World} {pb gp rp gc gi ga g2 c2 h2 d2 : Nat} {x : CallS} {A B : Option Addr} {c d : Nat} (h1 : W.heap[pb]? = some (.cells (bothC gp rp) 77 (0, 0))) (h2' : W.heap[gc]? = some (.cells (callC x A c B d) 41 (0, 0))) (h3 : Kd.C (kRaw 11) W (some ⟨gi, 0, none⟩) 10 (rawO x.op (some ⟨g2, 0, none⟩) c2 :: marksO)) (h4 : Kd.C (kRaw 7) W (some ⟨ga, 0, none⟩) 10 (rawA x.an (some ⟨h2, 0, none⟩) d2 :: marksA)) : W.cell? ⟨pb, 0, none⟩ = some (.pointer (some ⟨gp, 0, none⟩)) ∧ W.cell? ⟨pb, 1, none⟩ = some (.pointer (some ⟨rp, 0, none⟩)) ∧ W.cell? ⟨gc, 0, none⟩ = some (.bool x.tk) ∧ W.cell? ⟨gc, 1, none⟩ = some (.int .u8 x.op.f0) ∧ W.cell? ⟨gc, 2, none⟩ = some (.int .u64 x.op.f1) ∧ W.cell? ⟨gc, 3, none⟩ = some (.int .u64 x.op.f2) ∧ W.cell? ⟨gc, 4, none⟩ = some (.int .u64 x.op.f3) ∧ W.cell? ⟨gc, 5, none⟩ = some (.int .u64 x.op.f4) ∧ W.cell? ⟨gc, 6, none⟩ = some (.bool x.op.f5.f0) ∧ W.cell? ⟨gc, 7, none⟩ = some (.int .i64 x.op.f5.f1) ∧ W.cell? ⟨gc, 8, none⟩ = some (.int .i64 x.op.f5.f2) ∧ W.cell? ⟨gc, 9, none⟩ = some (.slice A x.op.f6.length c) ∧ W.cell? ⟨gc, 10, none⟩ = some (.int .u64 x.op.f7) ∧ W.cell? ⟨gc, 11, none⟩ = some (.int .u64 x.op.f8) ∧ W.cell? ⟨gc, 12, none⟩ = some (.int .i64 x.an.f0) ∧ W.cell? ⟨gc, 13, none⟩ = some (.bool x.an.f1) ∧ W.cell? ⟨gc, 14, none⟩ = some (.int .u64 x.an.f2) ∧ W.cell? ⟨gc, 15, none⟩ = some (.bool x.an.f3) ∧ W.cell? ⟨gc, 16, none⟩ = some (.int .u64 x.an.f4) ∧ W.cell? ⟨gc, 17, none⟩ = some (.slice B x.an.f5.length d) ∧ W.cell? ⟨gc, 18, none⟩ = some (.int .u64 x.an.f6) ∧ W.cell? ⟨gc, 19, none⟩ = some (.int .u64 x.hd) ∧ W.cell? ⟨gi, 0, none⟩ = some (.int .u8 x.op.f0) ∧ W.cell? ⟨gi, 1, none⟩ = some (.int .u64 x.op.f1) ∧ W.cell? ⟨gi, 2, none⟩ = some (.int .u64 x.op.f2) ∧ W.cell? ⟨gi, 3, none⟩ = some (.int .u64 x.op.f3) ∧ W.cell? ⟨gi, 4, none⟩ = some (.int .u64 x.op.f4) ∧ W.cell? ⟨gi, 5, none⟩ = some (.bool x.op.f5.f0) ∧ W.cell? ⟨gi, 6, none⟩ = some (.int .i64 x.op.f5.f1) ∧ W.cell? ⟨gi, 7, none⟩ = some (.int .i64 x.op.f5.f2) ∧ W.cell? ⟨gi, 8, none⟩ = some (.slice (some ⟨g2, 0, none⟩) x.op.f6.length c2) ∧ W.cell? ⟨gi, 9, none⟩ = some (.int .u64 x.op.f7) ∧ W.cell? ⟨gi, 10, none⟩ = some (.int .u64 x.op.f8) ∧ W.cell? ⟨ga, 0, none⟩ = some (.int .i64 x.an.f0) ∧ W.cell? ⟨ga, 1, none⟩ = some (.bool x.an.f1) ∧ W.cell? ⟨ga, 2, none⟩ = some (.int .u64 x.an.f2) ∧ W.cell? ⟨ga, 3, none⟩ = some (.bool x.an.f3) ∧ W.cell? ⟨ga, 4, none⟩ = some (.int .u64 x.an.f4) ∧ W.cell? ⟨ga, 5, none⟩ = some (.slice (some ⟨h2, 0, none⟩) x.an.f5.length d2) ∧ W.cell? ⟨ga, 6, none⟩ = some (.int .u64 x.an.f6) := by
  have a := cells_box h1
  have b := cells_call h2'
  have c := cells_inO h3
  have d := cells_inA h4
  simp only [a, b, c, d, and_self]
theorem cells_do {W : World} {pb gp rp gc gi g2 c2 : Nat} {x : CallS} {A B : Option Addr} {c d : Nat} (h1 : W.heap[pb]? = some (.cells (bothC gp rp) 77 (0, 0))) (h2' : W.heap[gc]? = some (.cells (callC x A c B d) 41 (0, 0))) (h3 : Kd.C (kRaw 11) W (some ⟨gi, 0, none⟩) 10 (rawO x.op (some ⟨g2, 0, none⟩) c2 :: marksO)) : W.cell? ⟨pb, 0, none⟩ = some (.pointer (some ⟨gp, 0, none⟩)) ∧ W.cell? ⟨pb, 1, none⟩ = some (.pointer (some ⟨rp, 0, none⟩)) ∧ W.cell? ⟨gc, 0, none⟩ = some (.bool x.tk) ∧ W.cell? ⟨gc, 1, none⟩ = some (.int .u8 x.op.f0) ∧ W.cell? ⟨gc, 2, none⟩ = some (.int .u64 x.op.f1) ∧ W.cell? ⟨gc, 3, none⟩ = some (.int .u64 x.op.f2) ∧ W.cell? ⟨gc, 4, none⟩ = some (.int .u64 x.op.f3) ∧ W.cell? ⟨gc, 5, none⟩ = some (.int .u64 x.op.f4) ∧ W.cell? ⟨gc, 6, none⟩ = some (.bool x.op.f5.f0) ∧ W.cell? ⟨gc, 7, none⟩ = some (.int .i64 x.op.f5.f1) ∧ W.cell? ⟨gc, 8, none⟩ = some (.int .i64 x.op.f5.f2) ∧ W.cell? ⟨gc, 9, none⟩ = some (.slice A x.op.f6.length c) ∧ W.cell? ⟨gc, 10, none⟩ = some (.int .u64 x.op.f7) ∧ W.cell? ⟨gc, 11, none⟩ = some (.int .u64 x.op.f8) ∧ W.cell? ⟨gc, 12, none⟩ = some (.int .i64 x.an.f0) ∧ W.cell? ⟨gc, 13, none⟩ = some (.bool x.an.f1) ∧ W.cell? ⟨gc, 14, none⟩ = some (.int .u64 x.an.f2) ∧ W.cell? ⟨gc, 15, none⟩ = some (.bool x.an.f3) ∧ W.cell? ⟨gc, 16, none⟩ = some (.int .u64 x.an.f4) ∧ W.cell? ⟨gc, 17, none⟩ = some (.slice B x.an.f5.length d) ∧ W.cell? ⟨gc, 18, none⟩ = some (.int .u64 x.an.f6) ∧ W.cell? ⟨gc, 19, none⟩ = some (.int .u64 x.hd) ∧ W.cell? ⟨gi, 0, none⟩ = some (.int .u8 x.op.f0) ∧ W.cell? ⟨gi, 1, none⟩ = some (.int .u64 x.op.f1) ∧ W.cell? ⟨gi, 2, none⟩ = some (.int .u64 x.op.f2) ∧ W.cell? ⟨gi, 3, none⟩ = some (.int .u64 x.op.f3) ∧ W.cell? ⟨gi, 4, none⟩ = some (.int .u64 x.op.f4) ∧ W.cell? ⟨gi, 5, none⟩ = some (.bool x.op.f5.f0) ∧ W.cell? ⟨gi, 6, none⟩ = some (.int .i64 x.op.f5.f1) ∧ W.cell? ⟨gi, 7, none⟩ = some (.int .i64 x.op.f5.f2) ∧ W.cell? ⟨gi, 8, none⟩ = some (.slice (some ⟨g2, 0, none⟩) x.op.f6.length c2) ∧ W.cell? ⟨gi, 9, none⟩ = some (.int .u64 x.op.f7) ∧ W.cell? ⟨gi, 10, none⟩ = some (.int .u64 x.op.f8) := by
  have a := cells_box h1
  have b := cells_call h2'
  have c := cells_inO h3
  simp only [a, b, c, and_self]
theorem cells_do2 {W : World} {pb gp rp gc gi g2 c2 : Nat} {x : CallS} {A B : Option Addr} {c d : Nat} (h1 : W.heap[pb]? = some (.cells (bothC gp rp) 77 (0, 0))) (h2' : W.heap[gc]? = some (.cells (callC x A c B d) 41 (0, 0))) (h3 : Kd.C (kRaw 11) W (some ⟨gi, 0, none⟩) 10 (rawO x.op (some ⟨g2, 0, none⟩) c2 :: marksO)) {g8 : Nat} {D : AnsD} {A5 : Option Addr} {c5 : Nat} (h4 : W.heap[g8]? = some (.cells #[.int .i64 D.e, .bool D.fo, .int .u64 D.v, .bool D.dn, .int .u64 D.h, .slice A5 (toS D.ps).length c5, .int .u64 D.c] 26 (0, 0))) : W.cell? ⟨pb, 0, none⟩ = some (.pointer (some ⟨gp, 0, none⟩)) ∧ W.cell? ⟨pb, 1, none⟩ = some (.pointer (some ⟨rp, 0, none⟩)) ∧ W.cell? ⟨gc, 0, none⟩ = some (.bool x.tk) ∧ W.cell? ⟨gc, 1, none⟩ = some (.int .u8 x.op.f0) ∧ W.cell? ⟨gc, 2, none⟩ = some (.int .u64 x.op.f1) ∧ W.cell? ⟨gc, 3, none⟩ = some (.int .u64 x.op.f2) ∧ W.cell? ⟨gc, 4, none⟩ = some (.int .u64 x.op.f3) ∧ W.cell? ⟨gc, 5, none⟩ = some (.int .u64 x.op.f4) ∧ W.cell? ⟨gc, 6, none⟩ = some (.bool x.op.f5.f0) ∧ W.cell? ⟨gc, 7, none⟩ = some (.int .i64 x.op.f5.f1) ∧ W.cell? ⟨gc, 8, none⟩ = some (.int .i64 x.op.f5.f2) ∧ W.cell? ⟨gc, 9, none⟩ = some (.slice A x.op.f6.length c) ∧ W.cell? ⟨gc, 10, none⟩ = some (.int .u64 x.op.f7) ∧ W.cell? ⟨gc, 11, none⟩ = some (.int .u64 x.op.f8) ∧ W.cell? ⟨gc, 12, none⟩ = some (.int .i64 x.an.f0) ∧ W.cell? ⟨gc, 13, none⟩ = some (.bool x.an.f1) ∧ W.cell? ⟨gc, 14, none⟩ = some (.int .u64 x.an.f2) ∧ W.cell? ⟨gc, 15, none⟩ = some (.bool x.an.f3) ∧ W.cell? ⟨gc, 16, none⟩ = some (.int .u64 x.an.f4) ∧ W.cell? ⟨gc, 17, none⟩ = some (.slice B x.an.f5.length d) ∧ W.cell? ⟨gc, 18, none⟩ = some (.int .u64 x.an.f6) ∧ W.cell? ⟨gc, 19, none⟩ = some (.int .u64 x.hd) ∧ W.cell? ⟨gi, 0, none⟩ = some (.int .u8 x.op.f0) ∧ W.cell? ⟨gi, 1, none⟩ = some (.int .u64 x.op.f1) ∧ W.cell? ⟨gi, 2, none⟩ = some (.int .u64 x.op.f2) ∧ W.cell? ⟨gi, 3, none⟩ = some (.int .u64 x.op.f3) ∧ W.cell? ⟨gi, 4, none⟩ = some (.int .u64 x.op.f4) ∧ W.cell? ⟨gi, 5, none⟩ = some (.bool x.op.f5.f0) ∧ W.cell? ⟨gi, 6, none⟩ = some (.int .i64 x.op.f5.f1) ∧ W.cell? ⟨gi, 7, none⟩ = some (.int .i64 x.op.f5.f2) ∧ W.cell? ⟨gi, 8, none⟩ = some (.slice (some ⟨g2, 0, none⟩) x.op.f6.length c2) ∧ W.cell? ⟨gi, 9, none⟩ = some (.int .u64 x.op.f7) ∧ W.cell? ⟨gi, 10, none⟩ = some (.int .u64 x.op.f8) ∧ W.cell? ⟨g8, 0, none⟩ = some (.int .i64 D.e) ∧ W.cell? ⟨g8, 1, none⟩ = some (.bool D.fo) ∧ W.cell? ⟨g8, 2, none⟩ = some (.int .u64 D.v) ∧ W.cell? ⟨g8, 3, none⟩ = some (.bool D.dn) ∧ W.cell? ⟨g8, 4, none⟩ = some (.int .u64 D.h) ∧ W.cell? ⟨g8, 5, none⟩ = some (.slice A5 (toS D.ps).length c5) ∧ W.cell? ⟨g8, 6, none⟩ = some (.int .u64 D.c) := by
  have a := cells_box h1
  have b := cells_call h2'
  have c := cells_inO h3
  have d : W.cell? ⟨g8, 0, none⟩ = some (.int .i64 D.e) ∧ W.cell? ⟨g8, 1, none⟩ = some (.bool D.fo) ∧ W.cell? ⟨g8, 2, none⟩ = some (.int .u64 D.v) ∧ W.cell? ⟨g8, 3, none⟩ = some (.bool D.dn) ∧ W.cell? ⟨g8, 4, none⟩ = some (.int .u64 D.h) ∧ W.cell? ⟨g8, 5, none⟩ = some (.slice A5 (toS D.ps).length c5) ∧ W.cell? ⟨g8, 6, none⟩ = some (.int .u64 D.c) := by refine ⟨?_, ?_, ?_, ?_, ?_, ?_, ?_⟩ <;> (rw [blk_cell h4]; rfl)
  simp only [a, b, c, d, and_self]
def runC (s : MS) (x : CallS) : MS := if x.tk then (takeD s x.op x.an).1 else (stepD s x.op x.hd).1
theorem wpostT {α : Type} {d : Kd α} {W : World} {S : Nat → Prop} {A : Option Addr} {n : Nat} {xs : List α} {e base : Nat} {c : Nat} {ok : Nat → Prop} (h : d.R e W base ok (.slice A n c) xs) (hb : ∀ k, S k → k < base) : ∀ W', Kept W W' S → d.C W' A n xs := wpostH (Kd.R_mono h (fun _ _ => trivial)) hb
theorem C_front {α : Type} {d : Kd α} {w : World} {A : Option Addr} {n m : Nat} {xs ys : List α} (h : d.C w A n (xs ++ ys)) (hm : m = xs.length) : d.C w A m xs := by
  obtain ⟨h1, h2, h3⟩ := h
  refine ⟨hm.symm, by rw [List.length_append] at h1; omega, fun hp => ?_⟩
  obtain ⟨ad, e, hc⟩ := h3 (by rw [List.length_append] at h1; omega)
  refine ⟨ad, e, fun j p hj => hc j p ?_⟩
  rw [List.getElem?_append_left (List.getElem?_eq_some_iff.1 hj).1]
  exact hj
theorem grown_of_KO {W W' : World} {g : Nat} (h : KO W W' (fun k => k = g)) : W.grownBy W' (some g) := ⟨h.os, h.tape, h.output, h.kept.1, fun k hk hne => h.kept.2 k hk (fun e => hne (by rw [e]))⟩
theorem R_other {α : Type} {d : Kd α} {e base : Nat} {W W' : World} {v : Value} {xs : List α} {g : Nat} (h : d.R e W base (fun _ => True) v xs) (hk : KO W W' (fun k => k = g)) (hg : g < base) : d.R e W' base (fun _ => True) v xs :=
  Kd.R_mono (Kd.R_grown (Kd.R_mono (ok' := fun k => base ≤ k) (Kd.R_bound h) (fun k hk => hk.2.1)) (grown_of_KO hk) (fun k h1 h2 => by injection h2 with h2; omega)) (fun _ _ => trivial)
theorem R_typed {α : Type} {d : Kd α} {e base : Nat} {W W' : World} {v : Value} {xs : List α} {g t : Nat} {cs : Array Value} (h : d.R e W base (fun _ => True) v xs) (hk : KO W W' (fun k => k = g)) (hb : W.heap[g]? = some (.cells cs t (0, 0))) (ht : ∀ q, q ∈ e :: d.E → q ≠ t) : d.R e W' base (fun _ => True) v xs :=
  Kd.R_mono (Kd.R_grown (Kd.R_types h hb ht) (grown_of_KO hk) (fun k h1 h2 => h1.2 (Option.some.inj h2))) (fun _ _ => trivial)
theorem set7 {W : World} {g : Nat} {u0 u1 u2 u3 u4 u5 u6 : Value} {T : TypeId} (hb : W.heap[g]? = some (.cells #[u0, u1, u2, u3, u4, u5, u6] T (0, 0))) (v0 v1 v2 v3 v4 v5 v6 : Value) : (((((((W.setCell ⟨g, 0, none⟩ v0).setCell ⟨g, 1, none⟩ v1).setCell ⟨g, 2, none⟩ v2).setCell ⟨g, 3, none⟩ v3).setCell ⟨g, 4, none⟩ v4).setCell ⟨g, 5, none⟩ v5).setCell ⟨g, 6, none⟩ v6).heap[g]? = some (.cells #[v0, v1, v2, v3, v4, v5, v6] T (0, 0)) ∧ KO W (((((((W.setCell ⟨g, 0, none⟩ v0).setCell ⟨g, 1, none⟩ v1).setCell ⟨g, 2, none⟩ v2).setCell ⟨g, 3, none⟩ v3).setCell ⟨g, 4, none⟩ v4).setCell ⟨g, 5, none⟩ v5).setCell ⟨g, 6, none⟩ v6) (fun k => k = g) := by
  have b0 := blk_put (cs' := #[v0, u1, u2, u3, u4, u5, u6]) hb 0 v0 rfl
  have b1 := blk_put (cs' := #[v0, v1, u2, u3, u4, u5, u6]) b0 1 v1 rfl
  have b2 := blk_put (cs' := #[v0, v1, v2, u3, u4, u5, u6]) b1 2 v2 rfl
  have b3 := blk_put (cs' := #[v0, v1, v2, v3, u4, u5, u6]) b2 3 v3 rfl
  have b4 := blk_put (cs' := #[v0, v1, v2, v3, v4, u5, u6]) b3 4 v4 rfl
  have b5 := blk_put (cs' := #[v0, v1, v2, v3, v4, v5, u6]) b4 5 v5 rfl
  have b6 := blk_put (cs' := #[v0, v1, v2, v3, v4, v5, v6]) b5 6 v6 rfl
  have k : ∀ (w : World) (j : Nat) (v : Value), KO w (w.setCell ⟨g, j, none⟩ v) (fun k => k = g) := fun w j v => ⟨kept_set w g j v, rfl, rfl, rfl⟩
  exact ⟨b6, ((((((k _ 0 v0).then_ (k _ 1 v1) (fun _ e => .inl e)).then_ (k _ 2 v2) (fun _ e => .inl e)).then_ (k _ 3 v3) (fun _ e => .inl e)).then_ (k _ 4 v4) (fun _ e => .inl e)).then_ (k _ 5 v5) (fun _ e => .inl e)).then_ (k _ 6 v6) (fun _ e => .inl e)⟩
end Go.Proofs.Ytngocadnbpdnoaa.Mo
namespace Go.Proofs.Ytngocadnbpdnoaa.Mo
open Go Go.Maps Go.RowKit Go.Proofs.Ytngocadnbpdnoaa.Srt Go.Proofs.Ytngocadnbpdnoaa.Q Go.Proofs.YtngocadnbpdnoaaW.PrintWords Go.Proofs.YtngocadnbpdnoaaW.PrintLast Go.Proofs.YtngocadnbpdnoaaW.PrintMore Go.Proofs.Ytngocadnbpdnoaa.Open
set_option linter.unusedVariables false
set_option linter.unusedSimpArgs false
set_option maxRecDepth 100000 in
set_option maxHeartbeats 16000000 in
theorem call_take {w wr : World} {f : Nat → Option PL} {N : Nat} {R : Nat → Prop} {gp bn bh rp : Nat} {s : MS} {r : List Mod} {q : List (Nat × MS)} (h : J w wr f N R (⟨gp, bn, bh, s⟩ :: r) ((rp, s) :: q)) (pb : Nat) (hbox : wr.heap[pb]? = some (.cells (bothC gp rp) 77 (0, 0))) (x : CallS) (A : Option Addr) (c : Nat) (B : Option Addr) (d : Nat) (hN : N + 3 ≤ 1099511627776)
    (hA : ∀ W', Kept wr W' (fun k => k = bn ∨ k = bh ∨ k = rp) → Kd.C (Kd.int .u64) W' A x.op.f6.length x.op.f6) (hAc : x.op.f6.length ≤ c) (hAn : x.op.f6.length ≤ 1099511627776) (hB : ∀ W', Kept wr W' (fun k => k = bn ∨ k = bh ∨ k = rp) → Kd.C kSP W' B x.an.f5.length x.an.f5) (hBd : x.an.f5.length ≤ d) (hBn : x.an.f5.length ≤ 1099511627776) (hO : OpWf x.op) (hw : ∀ k ∈ x.op.f6, u64wf k) (hu : u64wf x.an.f4) (hh : u64wf x.hd) (htk : x.tk = true) :
    Calls Try.prog 20 #[.pointer (some ⟨pb, 0, none⟩), .agg (callC x A c B d)] wr (fun e w1 => ∃ f' R', e = .returned (.bool true) ∧ J w w1 f' (N + 3) R' (⟨gp, bn, bh, runC s x⟩ :: r) ((rp, runC s x) :: q) ∧ KO wr w1 (fun k => k = bn ∨ k = bh ∨ k = rp) ∧ ∀ k, R' k → R k ∨ wr.heap.size ≤ k) := by
  have hrun : runC s x = (takeD s x.op x.an).1 := by unfold runC; rw [if_pos htk]
  rw [hrun]
  clear hrun
  obtain ⟨s1, hs1⟩ : ∃ s1, s1 = (takeD s x.op x.an).1 := ⟨_, rfl⟩
  obtain ⟨tb, htb⟩ : ∃ tb, tb = (takeD s x.op x.an).2 := ⟨_, rfl⟩
  rw [← hs1]
  have HS1 := Lib.hid hs1
  have HTB := Lib.hid htb
  clear hs1 htb
  obtain ⟨K3, hK3⟩ : ∃ K : Nat → Prop, K = (fun k => k = bn ∨ k = bh ∨ k = rp) := ⟨_, rfl⟩
  rw [← hK3] at hA hB ⊢
  have HK3 := Lib.hid hK3
  have hm := (h.al.pm ⟨gp, bn, bh, s⟩ (by simp)).1
  have l1 : bn < wr.heap.size := hm.now.lt
  have l2 : bh < wr.heap.size := hm.held.1.lt
  have l3 : rp < wr.heap.size := by obtain ⟨_, hb⟩ := (h.doc (rp, s) (by simp)).1.blk; exact blk_lt hb
  have hlt : ∀ k, K3 k → k < wr.heap.size := fun k e => by rw [hK3] at e; rcases e with e | e | e <;> omega
  have hpb : ¬ K3 pb := fun e => by
    rw [hK3] at e
    rcases e with e | e | e
    · exact h.apart (m := ⟨gp, bn, bh, s⟩) (by simp) hbox (.inl e)
    · exact h.apart (m := ⟨gp, bn, bh, s⟩) (by simp) hbox (.inr e)
    · exact h.apartR (d := (rp, s)) (by simp) hbox (by decide) e
  have e2 : ∀ k, (k = bn ∨ k = bh) → K3 k := fun k e => by rw [hK3]; exact e.elim .inl (fun e => .inr (.inl e))
  have e1 : ∀ k, k = rp → K3 k := fun k e => by rw [hK3]; exact .inr (.inr e)
  have hplt := blk_lt hbox
  clear hm hK3 l1 l2 l3
  have HLT := Lib.hid hlt
  have HPB := Lib.hid hpb
  have HE1 := Lib.hid e1
  have HE2 := Lib.hid e2
  have HJ := Lib.hid h
  have HBOX := Lib.hid hbox
  have HA := Lib.hid hA
  have HB := Lib.hid hB
  have HO := Lib.hid hO
  have HWF := Lib.hid hw
  have HU := Lib.hid hu
  have HH := Lib.hid hh
  have HAC := Lib.hid hAc
  have HAN := Lib.hid hAn
  have HBD := Lib.hid hBd
  have HBN := Lib.hid hBn
  have HNN := Lib.hid hN
  clear hlt hpb e1 e2 h hbox hA hB hO hw hu hh hAc hAn hBd hBn hN
  obtain ⟨gc, hgc⟩ : ∃ gc, gc = wr.heap.size := ⟨_, rfl⟩
  have HGC := Lib.hid hgc
  obtain ⟨W0, hW0⟩ : ∃ W0, W0 = wr.alloc (.cells (callC x A c B d) 41) := ⟨_, rfl⟩
  have HW0 := Lib.hid hW0
  have hb0 : Below wr.heap.size wr W0 := by rw [hW0]; exact below_alloc (Below.refl _ _) _
  have hc0 : W0.heap[gc]? = some (.cells (callC x A c B d) 41 (0, 0)) := by rw [hW0, hgc]; exact heap_alloc_new wr _
  have HB0 := Lib.hid hb0
  have HC0 := Lib.hid hc0
  have HX0 := Lib.hid (blk_below HBOX.out hb0)
  clear hgc hW0 hb0 hc0
  go_enter Try.func20, Try.ntmps20
  go_upto_region 1 with fail
  change Code.wp _ _ _ _ (wr.alloc (.cells (callC x A c B d) 41))
  rw [← HW0.out, ← HGC.out]
  obtain ⟨k0, k1, k2, k3, k4, k5, k6, k7, k8, k9, k10, k11, k12, k13, k14, k15, k16, k17, k18, k19⟩ := cells_call HC0.out
  go_wp2_with fail
  go_at_call 40
  have hz0 := HB0.out.size
  have hbl := below_alloc (Below.refl _ W0) (.cells (opC x.op A c) 39)
  refine (handO_c W0.heap.size x.op A c _ (heap_alloc_new W0 _) (HA.out _ (Kept.of_below (HB0.out.trans (hbl.mono hz0)) _)) HAC.out HAN.out).mono ?_
  rintro e w2 ⟨gi, cpi, g2, c2, rfl, ⟨hcpi, hgi, hg2, hc2, hRI, hRJ⟩, hB2⟩
  have hbw2 : Below wr.heap.size wr w2 := (HB0.out.trans (hbl.mono hz0)).trans (hB2.mono (Nat.le_trans hz0 hbl.size))
  have hsz2 : W0.heap.size ≤ (W0.alloc (.cells (opC x.op A c) 39)).heap.size := by simp
  have hbase : ∀ k, K3 k → k < (W0.alloc (.cells (opC x.op A c) 39)).heap.size := fun k e => by have := HLT.out k e; omega
  have HI := Lib.hid (wpostT hRI hbase)
  have HIJ := Lib.hid (wpostT hRJ hbase)
  have HCPI := Lib.hid hcpi
  have HCP2 := Lib.hid hc2
  have HB2 := Lib.hid hbw2
  have HC2 := Lib.hid (blk_below (blk_below HC0.out hbl) (hB2.mono (by simp)))
  have HX2 := Lib.hid (blk_below HBOX.out hbw2)
  have HJ2 := Lib.hid (HJ.out.below hbw2)
  clear hcpi hgi hg2 hc2 hRI hRJ hB2 hbw2 hbase hz0 hbl hsz2 k0 k1 k2 k3 k4 k5 k6 k7 k8 k9 k10 k11 k12 k13 k14 k15 k16 k17 k18 k19
  obtain ⟨k0, k1, k2, k3, k4, k5, k6, k7, k8, k9, k10, k11, k12, k13, k14, k15, k16, k17, k18, k19⟩ := cells_call HC2.out
  rw [htk] at k0
  go_wp2_with fail
  go_at_call 41
  have hz2 := HB2.out.size
  have hbl := below_alloc (Below.refl _ w2) (.cells (ansC x.an.f0 x.an.f1 x.an.f2 x.an.f3 x.an.f4 (.slice B x.an.f5.length d) x.an.f6) 26)
  refine (handA_c w2.heap.size x.an B d _ (heap_alloc_new w2 _) (HB.out _ (Kept.of_below (HB2.out.trans (hbl.mono hz2)) _)) HBD.out HBN.out).mono ?_
  rintro e w4 ⟨ga, cpa, h2, d2, rfl, ⟨hcpa, hga, hh2, hd2, hRA, hRB⟩, hB4⟩
  have hb24 : Below w2.heap.size w2 w4 := hbl.trans (hB4.mono hbl.size)
  have hbw4 : Below wr.heap.size wr w4 := HB2.out.trans (hb24.mono hz2)
  have hbase : ∀ k, K3 k → k < (w2.alloc (.cells (ansC x.an.f0 x.an.f1 x.an.f2 x.an.f3 x.an.f4 (.slice B x.an.f5.length d) x.an.f6) 26)).heap.size := fun k e => by have := HLT.out k e; have := hbl.size; omega
  have HIA := Lib.hid (wpostT hRA hbase)
  have HIB := Lib.hid (wpostT hRB hbase)
  have HK24 : Hid (Kept w2 w4.drew K3) := Lib.hid (Kept.of_below (below_drew hb24) _)
  have HD4 := Lib.hid (below_drew (Below.refl w4.heap.size w4))
  have HCPA := Lib.hid hcpa
  have HD2 := Lib.hid hd2
  have HB4 := Lib.hid (below_drew hbw4)
  have HC4 := Lib.hid (blk_below HC2.out (below_drew hb24))
  have HX4 := Lib.hid (blk_below HX2.out (below_drew hb24))
  have HJ4 := Lib.hid (HJ2.out.below (below_drew hb24))
  have HI4 := Lib.hid (HI.out _ HK24.out)
  have HIA4 := Lib.hid (HIA.out _ (Kept.of_below HD4.out _))
  clear hcpa hga hh2 hd2 hRA hRB hB4 hb24 hbw4 hbase hz2 hbl k0 k1 k2 k3 k4 k5 k6 k7 k8 k9 k10 k11 k12 k13 k14 k15 k16 k17 k18 k19
  have hS4 := cells_take HX4.out HC4.out HI4.out HIA4.out
  have HGCK : Hid (¬ K3 gc) := Lib.hid (fun e => by have := HLT.out gc e; have := HGC.out; omega)
  go_upto_region 5 with fail
  go_region_held3 (fun w' => w'.cell? ⟨pb, 0, none⟩ = some (.pointer (some ⟨gp, 0, none⟩)) ∧ w'.cell? ⟨pb, 1, none⟩ = some (.pointer (some ⟨rp, 0, none⟩)) ∧ w'.cell? ⟨gc, 0, none⟩ = some (.bool x.tk) ∧ w'.cell? ⟨gc, 1, none⟩ = some (.int .u8 x.op.f0) ∧ w'.cell? ⟨gc, 2, none⟩ = some (.int .u64 x.op.f1) ∧ w'.cell? ⟨gc, 3, none⟩ = some (.int .u64 x.op.f2) ∧ w'.cell? ⟨gc, 4, none⟩ = some (.int .u64 x.op.f3) ∧ w'.cell? ⟨gc, 5, none⟩ = some (.int .u64 x.op.f4) ∧ w'.cell? ⟨gc, 6, none⟩ = some (.bool x.op.f5.f0) ∧ w'.cell? ⟨gc, 7, none⟩ = some (.int .i64 x.op.f5.f1) ∧ w'.cell? ⟨gc, 8, none⟩ = some (.int .i64 x.op.f5.f2) ∧ w'.cell? ⟨gc, 9, none⟩ = some (.slice A x.op.f6.length c) ∧ w'.cell? ⟨gc, 10, none⟩ = some (.int .u64 x.op.f7) ∧ w'.cell? ⟨gc, 11, none⟩ = some (.int .u64 x.op.f8) ∧ w'.cell? ⟨gc, 12, none⟩ = some (.int .i64 x.an.f0) ∧ w'.cell? ⟨gc, 13, none⟩ = some (.bool x.an.f1) ∧ w'.cell? ⟨gc, 14, none⟩ = some (.int .u64 x.an.f2) ∧ w'.cell? ⟨gc, 15, none⟩ = some (.bool x.an.f3) ∧ w'.cell? ⟨gc, 16, none⟩ = some (.int .u64 x.an.f4) ∧ w'.cell? ⟨gc, 17, none⟩ = some (.slice B x.an.f5.length d) ∧ w'.cell? ⟨gc, 18, none⟩ = some (.int .u64 x.an.f6) ∧ w'.cell? ⟨gc, 19, none⟩ = some (.int .u64 x.hd) ∧ w'.cell? ⟨gi, 0, none⟩ = some (.int .u8 x.op.f0) ∧ w'.cell? ⟨gi, 1, none⟩ = some (.int .u64 x.op.f1) ∧ w'.cell? ⟨gi, 2, none⟩ = some (.int .u64 x.op.f2) ∧ w'.cell? ⟨gi, 3, none⟩ = some (.int .u64 x.op.f3) ∧ w'.cell? ⟨gi, 4, none⟩ = some (.int .u64 x.op.f4) ∧ w'.cell? ⟨gi, 5, none⟩ = some (.bool x.op.f5.f0) ∧ w'.cell? ⟨gi, 6, none⟩ = some (.int .i64 x.op.f5.f1) ∧ w'.cell? ⟨gi, 7, none⟩ = some (.int .i64 x.op.f5.f2) ∧ w'.cell? ⟨gi, 8, none⟩ = some (.slice (some ⟨g2, 0, none⟩) x.op.f6.length c2) ∧ w'.cell? ⟨gi, 9, none⟩ = some (.int .u64 x.op.f7) ∧ w'.cell? ⟨gi, 10, none⟩ = some (.int .u64 x.op.f8) ∧ w'.cell? ⟨ga, 0, none⟩ = some (.int .i64 x.an.f0) ∧ w'.cell? ⟨ga, 1, none⟩ = some (.bool x.an.f1) ∧ w'.cell? ⟨ga, 2, none⟩ = some (.int .u64 x.an.f2) ∧ w'.cell? ⟨ga, 3, none⟩ = some (.bool x.an.f3) ∧ w'.cell? ⟨ga, 4, none⟩ = some (.int .u64 x.an.f4) ∧ w'.cell? ⟨ga, 5, none⟩ = some (.slice (some ⟨h2, 0, none⟩) x.an.f5.length d2) ∧ w'.cell? ⟨ga, 6, none⟩ = some (.int .u64 x.an.f6))
    (first | go_keep | exact hS4 | exact hS5 | exact hS6 | exact hS7)
    (first
      | (go_at_call 22; refine (tkM HJ4.out x.op x.an (some ⟨g2, 0, none⟩) (some ⟨h2, 0, none⟩) c2 d2 HO.out (by have := HNN.out; omega) (fun W' hW => C_front (HIJ.out W' (HK24.out.then_ (hW.mono HE2.out) (fun k e => .inl e))) rfl) HWF.out HAN.out (fun W' hW => C_front (HIB.out W' ((Kept.of_below HD4.out K3).then_ (hW.mono HE2.out) (fun k e => .inl e))) rfl) (by have := HD2.out; omega) (by have := HBN.out; omega) HU.out).mono ?_
         rintro e w5 ⟨f5, rfl, hJ5, hK5⟩
         rw [← HS1.out] at hJ5
         rw [← HTB.out]
         have HK5 := Lib.hid (hK5.mono HE2.out)
         have HJ5 := Lib.hid hJ5
         have HKW5 : Hid (KO wr w5 K3) := Lib.hid ((KO.of_below HB4.out K3).then_ HK5.out (fun k e => .inl e))
         have HK25 : Hid (Kept w2 w5 K3) := Lib.hid (HK24.out.then_ HK5.out.kept (fun k e => .inl e))
         have HK45 : Hid (Kept w4 w5 K3) := Lib.hid ((Kept.of_below HD4.out K3).then_ HK5.out.kept (fun k e => .inl e))
         have HX5 := Lib.hid (blk_kept HX4.out HK5.out.kept HPB.out)
         have HC5 := Lib.hid (blk_kept HC4.out HK5.out.kept HGCK.out)
         have HI5 := Lib.hid (HI.out _ HK25.out)
         have HIA5 := Lib.hid (HIA.out _ HK45.out)
         have hS5 := cells_take HX5.out HC5.out HI5.out HIA5.out
         clear hJ5 hK5)
      | (go_at_call 23; refine (tkR HJ5.out x.op x.an A B c d (by have := HNN.out; omega) (HA.out _ HKW5.out.kept) HAC.out HAN.out (HB.out _ HKW5.out.kept) HBD.out (by have := HBN.out; omega)).mono ?_
         rintro e w6 ⟨R6, rfl, hJ6, hK6, hR6⟩
         have HR6 := Lib.hid (fun k e => (hR6 k e).imp id (fun e => Nat.le_trans HKW5.out.kept.1 e))
         rw [← HS1.out] at hJ6
         rw [← HTB.out]
         have HK6 := Lib.hid (hK6.mono HE1.out)
         have HJ6 := Lib.hid hJ6
         have HKW6 : Hid (KO wr w6 K3) := Lib.hid (HKW5.out.then_ HK6.out (fun k e => .inl e))
         have HK26 : Hid (Kept w2 w6 K3) := Lib.hid (HK25.out.then_ HK6.out.kept (fun k e => .inl e))
         have HK46 : Hid (Kept w4 w6 K3) := Lib.hid (HK45.out.then_ HK6.out.kept (fun k e => .inl e))
         have HX6 := Lib.hid (blk_kept HX5.out HK6.out.kept HPB.out)
         have HC6 := Lib.hid (blk_kept HC5.out HK6.out.kept HGCK.out)
         have HI6 := Lib.hid (HI.out _ HK26.out)
         have HIA6 := Lib.hid (HIA.out _ HK46.out)
         have hS6 := cells_take HX6.out HC6.out HI6.out HIA6.out
         clear hJ6 hK6 hR6)
      | (go_at_call 42
         have hbl := below_alloc (Below.refl _ w6) (.cells (ansC x.an.f0 x.an.f1 x.an.f2 x.an.f3 x.an.f4 (.slice B x.an.f5.length d) x.an.f6) 26)
         have hkl : Kept w4 (w6.alloc (.cells (ansC x.an.f0 x.an.f1 x.an.f2 x.an.f3 x.an.f4 (.slice B x.an.f5.length d) x.an.f6) 26)) K3 := HK46.out.then_ (Kept.of_below hbl K3) (fun k e => .inl e)
         refine (keepsA_c w6.heap.size ga cpa h2 d2 x.an B d _ (heap_alloc_new w6 _) (HB.out _ (HKW6.out.kept.then_ (Kept.of_below hbl K3) (fun k e => .inl e))) HBD.out HBN.out HCPA.out HD2.out (HIA.out _ hkl) (HIB.out _ hkl)).mono ?_
         rintro e w7 ⟨rfl, hB7⟩
         have hb67 : Below w6.heap.size w6 w7 := hbl.trans (hB7.mono hbl.size)
         have HB67 := Lib.hid hb67
         have HX7 := Lib.hid (blk_below HX6.out hb67)
         have HC7 := Lib.hid (blk_below HC6.out hb67)
         have HI7 := Lib.hid (HI.out _ (HK26.out.then_ (Kept.of_below hb67 K3) (fun k e => .inl e)))
         have HIA7 := Lib.hid (HIA.out _ (HK46.out.then_ (Kept.of_below hb67 K3) (fun k e => .inl e)))
         have hS7 := cells_take HX7.out HC7.out HI7.out HIA7.out
         clear hbl hkl hB7 hb67))
  clear hS4 hS5 hS6 hS7
  have HK27 : Hid (Kept w2 w7 K3) := Lib.hid (HK26.out.then_ (Kept.of_below HB67.out K3) (fun k e => .inl e))
  have HKW7 : Hid (KO wr w7 K3) := Lib.hid (HKW6.out.below HB67.out)
  have HJ7 := Lib.hid (HJ6.out.below HB67.out)
  obtain ⟨k0, k1, k2, k3, k4, k5, k6, k7, k8, k9, k10, k11, k12, k13, k14, k15, k16, k17, k18, k19⟩ := cells_call HC7.out
  go_wp2_with fail
  go_at_call 44
  have hbl := below_alloc (Below.refl _ w7) (.cells (opC x.op A c) 39)
  refine (keepsO_c w7.heap.size gi cpi g2 c2 x.op A c _ (heap_alloc_new w7 _) (HA.out _ (HKW7.out.kept.then_ (Kept.of_below hbl K3) (fun k e => .inl e))) HAC.out HAN.out HCPI.out HCP2.out (HI.out _ (HK27.out.then_ (Kept.of_below hbl K3) (fun k e => .inl e))) (HIJ.out _ (HK27.out.then_ (Kept.of_below hbl K3) (fun k e => .inl e)))).mono ?_
  rintro e w8 ⟨rfl, hB8⟩
  have hb78 : Below w7.heap.size w7 w8 := hbl.trans (hB8.mono hbl.size)
  go_wp2_with fail
  go_ret
  exact ⟨f5, R6, rfl, HJ7.out.below hb78, HKW7.out.below hb78, HR6.out⟩
end Go.Proofs.Ytngocadnbpdnoaa.Mo
namespace Go.Proofs.Ytngocadnbpdnoaa.Mo
open Go Go.Maps Go.RowKit Go.Proofs.Ytngocadnbpdnoaa.Srt Go.Proofs.Ytngocadnbpdnoaa.Q Go.Proofs.YtngocadnbpdnoaaW.PrintWords Go.Proofs.YtngocadnbpdnoaaW.PrintLast Go.Proofs.YtngocadnbpdnoaaW.PrintMore Go.Proofs.Ytngocadnbpdnoaa.Open
set_option linter.unusedVariables false
set_option linter.unusedSimpArgs false
set_option maxRecDepth 100000 in
set_option maxHeartbeats 16000000 in
theorem call_do {w ws : World} {f : Nat → Option PL} {N : Nat} {R : Nat → Prop} {gp bn bh rp : Nat} {s : MS} {r : List Mod} {q : List (Nat × MS)} (h : J w ws f N R (⟨gp, bn, bh, s⟩ :: r) ((rp, s) :: q)) (pb : Nat) (hbox : ws.heap[pb]? = some (.cells (bothC gp rp) 77 (0, 0))) (x : CallS) (A : Option Addr) (c : Nat) (B : Option Addr) (d : Nat) (hN : N + 3 ≤ 1099511627776)
    (hA : ∀ W', Kept ws W' (fun k => k = bn ∨ k = bh ∨ k = rp) → Kd.C (Kd.int .u64) W' A x.op.f6.length x.op.f6) (hAc : x.op.f6.length ≤ c) (hAn : x.op.f6.length ≤ 1099511627776) (hB : ∀ W', Kept ws W' (fun k => k = bn ∨ k = bh ∨ k = rp) → Kd.C kSP W' B x.an.f5.length x.an.f5) (hBd : x.an.f5.length ≤ d) (hBn : x.an.f5.length ≤ 1099511627776) (hO : OpWf x.op) (hw : ∀ k ∈ x.op.f6, u64wf k) (hu : u64wf x.an.f4) (hh : u64wf x.hd) (htk : x.tk = false) :
    Calls Try.prog 20 #[.pointer (some ⟨pb, 0, none⟩), .agg (callC x A c B d)] ws (fun e w1 => ∃ f' R', e = .returned (.bool true) ∧ J w w1 f' (N + 3) R' (⟨gp, bn, bh, runC s x⟩ :: r) ((rp, runC s x) :: q) ∧ KO ws w1 (fun k => k = bn ∨ k = bh ∨ k = rp) ∧ ∀ k, R' k → R k ∨ ws.heap.size ≤ k) := by
  have hrun : runC s x = (stepD s x.op x.hd).1 := by unfold runC; rw [htk]; simp
  rw [hrun]
  clear hrun
  have hps : (stepD s x.op x.hd).2.ps.length ≤ 4398046511104 := by
    obtain ⟨_, _, _, _, _, hM⟩ := h.at
    have := len_ps s N hM.lens x.op x.hd
    omega
  obtain ⟨s1, hs1⟩ : ∃ s1, s1 = (stepD s x.op x.hd).1 := ⟨_, rfl⟩
  obtain ⟨D, hD⟩ : ∃ D, D = (stepD s x.op x.hd).2 := ⟨_, rfl⟩
  rw [← hs1]
  rw [← hD] at hps
  have HPS := Lib.hid hps
  have HS1 := Lib.hid hs1
  have HDD := Lib.hid hD
  clear hs1 hD hps
  obtain ⟨K3, hK3⟩ : ∃ K : Nat → Prop, K = (fun k => k = bn ∨ k = bh ∨ k = rp) := ⟨_, rfl⟩
  rw [← hK3] at hA hB ⊢
  have HK3 := Lib.hid hK3
  have hm := (h.al.pm ⟨gp, bn, bh, s⟩ (by simp)).1
  have l1 : bn < ws.heap.size := hm.now.lt
  have l2 : bh < ws.heap.size := hm.held.1.lt
  have l3 : rp < ws.heap.size := by obtain ⟨_, hb⟩ := (h.doc (rp, s) (by simp)).1.blk; exact blk_lt hb
  have hlt : ∀ k, K3 k → k < ws.heap.size := fun k e => by rw [hK3] at e; rcases e with e | e | e <;> omega
  have hpb : ¬ K3 pb := fun e => by
    rw [hK3] at e
    rcases e with e | e | e
    · exact h.apart (m := ⟨gp, bn, bh, s⟩) (by simp) hbox (.inl e)
    · exact h.apart (m := ⟨gp, bn, bh, s⟩) (by simp) hbox (.inr e)
    · exact h.apartR (d := (rp, s)) (by simp) hbox (by decide) e
  have e2 : ∀ k, (k = bn ∨ k = bh) → K3 k := fun k e => by rw [hK3]; exact e.elim .inl (fun e => .inr (.inl e))
  have e1 : ∀ k, k = rp → K3 k := fun k e => by rw [hK3]; exact .inr (.inr e)
  have hplt := blk_lt hbox
  clear hm hK3 l1 l2 l3
  have HLT := Lib.hid hlt
  have HPB := Lib.hid hpb
  have HE1 := Lib.hid e1
  have HE2 := Lib.hid e2
  have HJ := Lib.hid h
  have HBOX := Lib.hid hbox
  have HA := Lib.hid hA
  have HB := Lib.hid hB
  have HO := Lib.hid hO
  have HWF := Lib.hid hw
  have HU := Lib.hid hu
  have HH := Lib.hid hh
  have HAC := Lib.hid hAc
  have HAN := Lib.hid hAn
  have HBD := Lib.hid hBd
  have HBN := Lib.hid hBn
  have HNN := Lib.hid hN
  clear hlt hpb e1 e2 h hbox hA hB hO hw hu hh hAc hAn hBd hBn hN
  obtain ⟨gc, hgc⟩ : ∃ gc, gc = ws.heap.size := ⟨_, rfl⟩
  have HGC := Lib.hid hgc
  obtain ⟨W0, hW0⟩ : ∃ W0, W0 = ws.alloc (.cells (callC x A c B d) 41) := ⟨_, rfl⟩
  have HW0 := Lib.hid hW0
  have hb0 : Below ws.heap.size ws W0 := by rw [hW0]; exact below_alloc (Below.refl _ _) _
  have hc0 : W0.heap[gc]? = some (.cells (callC x A c B d) 41 (0, 0)) := by rw [hW0, hgc]; exact heap_alloc_new ws _
  have HB0 := Lib.hid hb0
  have HC0 := Lib.hid hc0
  have HX0 := Lib.hid (blk_below HBOX.out hb0)
  clear hgc hW0 hb0 hc0
  go_enter Try.func20, Try.ntmps20
  go_upto_region 1 with fail
  change Code.wp _ _ _ _ (ws.alloc (.cells (callC x A c B d) 41))
  rw [← HW0.out, ← HGC.out]
  obtain ⟨k0, k1, k2, k3, k4, k5, k6, k7, k8, k9, k10, k11, k12, k13, k14, k15, k16, k17, k18, k19⟩ := cells_call HC0.out
  go_wp2_with fail
  go_at_call 40
  have hz0 := HB0.out.size
  have hbl := below_alloc (Below.refl _ W0) (.cells (opC x.op A c) 39)
  refine (handO_c W0.heap.size x.op A c _ (heap_alloc_new W0 _) (HA.out _ (Kept.of_below (HB0.out.trans (hbl.mono hz0)) _)) HAC.out HAN.out).mono ?_
  rintro e w2 ⟨gi, cpi, g2, c2, rfl, ⟨hcpi, hgi, hg2, hc2, hRI, hRJ⟩, hB2⟩
  have hbw2 : Below ws.heap.size ws w2 := (HB0.out.trans (hbl.mono hz0)).trans (hB2.mono (Nat.le_trans hz0 hbl.size))
  have hsz2 : W0.heap.size ≤ (W0.alloc (.cells (opC x.op A c) 39)).heap.size := by simp
  have hbase : ∀ k, K3 k → k < (W0.alloc (.cells (opC x.op A c) 39)).heap.size := fun k e => by have := HLT.out k e; omega
  have HI := Lib.hid (wpostT hRI hbase)
  have HIJ := Lib.hid (wpostT hRJ hbase)
  have HCPI := Lib.hid hcpi
  have HCP2 := Lib.hid hc2
  have HB2 := Lib.hid hbw2
  have HC2 := Lib.hid (blk_below (blk_below HC0.out hbl) (hB2.mono (by simp)))
  have HX2 := Lib.hid (blk_below HBOX.out hbw2)
  have HJ2 := Lib.hid (HJ.out.below hbw2)
  clear hcpi hgi hg2 hc2 hRI hRJ hB2 hbw2 hbase hz0 hbl hsz2 k0 k1 k2 k3 k4 k5 k6 k7 k8 k9 k10 k11 k12 k13 k14 k15 k16 k17 k18 k19
  obtain ⟨k0, k1, k2, k3, k4, k5, k6, k7, k8, k9, k10, k11, k12, k13, k14, k15, k16, k17, k18, k19⟩ := cells_call HC2.out
  rw [htk] at k0
  have HGCK : Hid (¬ K3 gc) := Lib.hid (fun e => by have := HLT.out gc e; have := HGC.out; omega)
  go_upto_region 6 with fail
  have HD2 := Lib.hid (below_drew (Below.refl w2.heap.size w2))
  have HD2a := Lib.hid (below_drew (below_alloc (Below.refl w2.heap.size w2) (.cells #[.int .i64 0, .bool false, .int .u64 0, .bool false, .int .u64 0, .slice none 0 0, .int .u64 0] 26)))
  have HB2' := Lib.hid (below_drew HB2.out)
  have HB2a' := Lib.hid (HB2.out.trans (HD2a.out.mono HB2.out.size))
  have HC4 := Lib.hid (blk_below HC2.out HD2.out)
  have HC4a := Lib.hid (blk_below HC2.out HD2a.out)
  have HX4 := Lib.hid (blk_below HX2.out HD2.out)
  have HX4a := Lib.hid (blk_below HX2.out HD2a.out)
  have HJ4 := Lib.hid (HJ2.out.below HD2.out)
  have HJ4a := Lib.hid (HJ2.out.below HD2a.out)
  have HK24 : Hid (Kept w2 w2.drew K3) := Lib.hid (Kept.of_below HD2.out _)
  have HK24a : Hid (Kept w2 (w2.alloc (.cells #[.int .i64 0, .bool false, .int .u64 0, .bool false, .int .u64 0, .slice none 0 0, .int .u64 0] 26)).drew K3) := Lib.hid (Kept.of_below HD2a.out _)
  have HI4 := Lib.hid (HI.out _ HK24.out)
  have HI4a := Lib.hid (HI.out _ HK24a.out)
  clear k0 k1 k2 k3 k4 k5 k6 k7 k8 k9 k10 k11 k12 k13 k14 k15 k16 k17 k18 k19
  have HPL := Lib.hid hplt
  have HCL := Lib.hid (blk_lt HC2.out)
  have HN4 : Hid ((w2.alloc (.cells #[.int .i64 0, .bool false, .int .u64 0, .bool false, .int .u64 0, .slice none 0 0, .int .u64 0] 26)).drew.heap[w2.heap.size]? = some (.cells (ansC 0 false 0 false 0 (.slice none 0 0) 0) 26 (0, 0))) := Lib.hid (heap_alloc_new w2 _)
  have HK2Z : Hid (¬ K3 w2.heap.size) := Lib.hid (fun e => by have := HLT.out _ e; have := HB2.out.size; omega)
  have hS4 := cells_do HX4.out HC4.out HI4.out
  have hS4a := cells_do HX4a.out HC4a.out HI4a.out
  go_region_held3 (fun w' => w'.cell? ⟨pb, 0, none⟩ = some (.pointer (some ⟨gp, 0, none⟩)) ∧ w'.cell? ⟨pb, 1, none⟩ = some (.pointer (some ⟨rp, 0, none⟩)) ∧ w'.cell? ⟨gc, 0, none⟩ = some (.bool x.tk) ∧ w'.cell? ⟨gc, 1, none⟩ = some (.int .u8 x.op.f0) ∧ w'.cell? ⟨gc, 2, none⟩ = some (.int .u64 x.op.f1) ∧ w'.cell? ⟨gc, 3, none⟩ = some (.int .u64 x.op.f2) ∧ w'.cell? ⟨gc, 4, none⟩ = some (.int .u64 x.op.f3) ∧ w'.cell? ⟨gc, 5, none⟩ = some (.int .u64 x.op.f4) ∧ w'.cell? ⟨gc, 6, none⟩ = some (.bool x.op.f5.f0) ∧ w'.cell? ⟨gc, 7, none⟩ = some (.int .i64 x.op.f5.f1) ∧ w'.cell? ⟨gc, 8, none⟩ = some (.int .i64 x.op.f5.f2) ∧ w'.cell? ⟨gc, 9, none⟩ = some (.slice A x.op.f6.length c) ∧ w'.cell? ⟨gc, 10, none⟩ = some (.int .u64 x.op.f7) ∧ w'.cell? ⟨gc, 11, none⟩ = some (.int .u64 x.op.f8) ∧ w'.cell? ⟨gc, 12, none⟩ = some (.int .i64 x.an.f0) ∧ w'.cell? ⟨gc, 13, none⟩ = some (.bool x.an.f1) ∧ w'.cell? ⟨gc, 14, none⟩ = some (.int .u64 x.an.f2) ∧ w'.cell? ⟨gc, 15, none⟩ = some (.bool x.an.f3) ∧ w'.cell? ⟨gc, 16, none⟩ = some (.int .u64 x.an.f4) ∧ w'.cell? ⟨gc, 17, none⟩ = some (.slice B x.an.f5.length d) ∧ w'.cell? ⟨gc, 18, none⟩ = some (.int .u64 x.an.f6) ∧ w'.cell? ⟨gc, 19, none⟩ = some (.int .u64 x.hd) ∧ w'.cell? ⟨gi, 0, none⟩ = some (.int .u8 x.op.f0) ∧ w'.cell? ⟨gi, 1, none⟩ = some (.int .u64 x.op.f1) ∧ w'.cell? ⟨gi, 2, none⟩ = some (.int .u64 x.op.f2) ∧ w'.cell? ⟨gi, 3, none⟩ = some (.int .u64 x.op.f3) ∧ w'.cell? ⟨gi, 4, none⟩ = some (.int .u64 x.op.f4) ∧ w'.cell? ⟨gi, 5, none⟩ = some (.bool x.op.f5.f0) ∧ w'.cell? ⟨gi, 6, none⟩ = some (.int .i64 x.op.f5.f1) ∧ w'.cell? ⟨gi, 7, none⟩ = some (.int .i64 x.op.f5.f2) ∧ w'.cell? ⟨gi, 8, none⟩ = some (.slice (some ⟨g2, 0, none⟩) x.op.f6.length c2) ∧ w'.cell? ⟨gi, 9, none⟩ = some (.int .u64 x.op.f7) ∧ w'.cell? ⟨gi, 10, none⟩ = some (.int .u64 x.op.f8))
    (first | go_keep | exact hS4 | exact hS4a | exact hS5 | exact hS5a | (have hS6' := cells_do HX6.out HC6.out HI6.out; exact hS6'))
    (first
      | (go_at_call 15
         have hc := doM HJ4.out x.op (some ⟨g2, 0, none⟩) c2 x.hd HO.out HH.out (by have := HNN.out; omega) (fun W' hW => C_front (HIJ.out W' (HK24.out.then_ (hW.mono HE2.out) (fun k e => .inl e))) rfl) HWF.out HAN.out
         unfold opC at hc
         (with_reducible refine hc.mono ?_)
         clear hc
         rw [← HS1.out, ← HDD.out]
         rintro e w5 ⟨f5, A5, c5, rfl, hJ5, hR5, hK5⟩
         have HK5 := Lib.hid (hK5.mono HE2.out)
         have HJ5 := Lib.hid hJ5
         have HR5 := Lib.hid hR5
         have HZ5 : Hid (w2.heap.size ≤ (w2.drew).heap.size ∧ w2.drew.heap.size ≤ w5.heap.size) := Lib.hid ⟨HK24.out.1, hK5.kept.1⟩
         have HKW5 : Hid (KO ws w5 K3) := Lib.hid ((KO.of_below HB2'.out K3).then_ HK5.out (fun k e => .inl e))
         have HK25 : Hid (Kept w2 w5 K3) := Lib.hid (HK24.out.then_ HK5.out.kept (fun k e => .inl e))
         have HX5 := Lib.hid (blk_kept HX4.out HK5.out.kept HPB.out)
         have HC5 := Lib.hid (blk_kept HC4.out HK5.out.kept HGCK.out)
         have HI5 := Lib.hid (HI.out _ HK25.out)
         have hS5 := cells_do HX5.out HC5.out HI5.out
         have hba5 := below_alloc (Below.refl _ w5) (.cells #[.int .i64 0, .bool false, .int .u64 0, .bool false, .int .u64 0, .slice none 0 0, .int .u64 0] 26)
         have hS5a := cells_do (blk_below HX5.out hba5) (blk_below HC5.out hba5) (HI.out _ (HK25.out.then_ (Kept.of_below hba5 K3) (fun k e => .inl e)))
         have hba5' := below_alloc (Below.refl _ w5) (.cells #[.int .i64 D.e, .bool D.fo, .int .u64 D.v, .bool D.dn, .int .u64 D.h, .slice A5 (toS D.ps).length c5, .int .u64 D.c] 26)
         have s7 := heap_alloc_new w5 (.cells #[.int .i64 D.e, .bool D.fo, .int .u64 D.v, .bool D.dn, .int .u64 D.h, .slice A5 (toS D.ps).length c5, .int .u64 D.c] 26)
         have HK6 := Lib.hid (KO.of_below (below_alloc (Below.refl _ w5) (.cells #[.int .i64 D.e, .bool D.fo, .int .u64 D.v, .bool D.dn, .int .u64 D.h, .slice A5 (toS D.ps).length c5, .int .u64 D.c] 26)) (fun k => k = w5.heap.size))
         have HN6 := Lib.hid s7
         have HG8 : Hid (w2.heap.size ≤ w5.heap.size) := Lib.hid (by have := HZ5.out; omega)
         have HX6 := Lib.hid (blk_kept HX5.out HK6.out.kept (by have := HPL.out; have := HB2.out.size; have := HZ5.out; omega))
         have HC6 := Lib.hid (blk_kept HC5.out HK6.out.kept (by have := HCL.out; have := HZ5.out; omega))
         have HK26 := Lib.hid (HK25.out.then_ HK6.out.kept (fun k e => .inr (by have := HZ5.out; omega)))
         have HI6 := Lib.hid (HI.out _ HK26.out)
         have HKW6 := Lib.hid (HKW5.out.then_ HK6.out (fun k e => .inr (by have := HZ5.out; have := HB2.out.size; omega)))
         have hS6 := cells_do2 HX6.out HC6.out HI6.out HN6.out
         have HJ6 := Lib.hid (HJ5.out.below hba5')
         have HR6 := Lib.hid (Kd.R_lower (base' := w2.heap.size) (Kd.R_below HR5.out hba5') HZ5.out.1)
         clear hba5'
         obtain ⟨W6, hW6⟩ : ∃ W6, W6 = w5.alloc (.cells #[.int .i64 D.e, .bool D.fo, .int .u64 D.v, .bool D.dn, .int .u64 D.h, .slice A5 (toS D.ps).length c5, .int .u64 D.c] 26) := ⟨_, rfl⟩
         obtain ⟨g8, hg8⟩ : ∃ g8, g8 = w5.heap.size := ⟨_, rfl⟩
         have HW6 := Lib.hid hW6
         have Hg8 := Lib.hid hg8
         clear hW6 hg8 s7
         clear hJ5 hK5 hR5 hba5)
      | (go_at_call 15
         have hc := doM HJ4a.out x.op (some ⟨g2, 0, none⟩) c2 x.hd HO.out HH.out (by have := HNN.out; omega) (fun W' hW => C_front (HIJ.out W' (HK24a.out.then_ (hW.mono HE2.out) (fun k e => .inl e))) rfl) HWF.out HAN.out
         unfold opC at hc
         (with_reducible refine hc.mono ?_)
         clear hc
         rw [← HS1.out, ← HDD.out]
         rintro e w5 ⟨f5, A5, c5, rfl, hJ5, hR5, hK5⟩
         have HK5 := Lib.hid (hK5.mono HE2.out)
         have HJ5 := Lib.hid hJ5
         have HR5 := Lib.hid hR5
         have HZ5 : Hid (w2.heap.size ≤ ((w2.alloc (.cells #[.int .i64 0, .bool false, .int .u64 0, .bool false, .int .u64 0, .slice none 0 0, .int .u64 0] 26)).drew).heap.size ∧ (w2.alloc (.cells #[.int .i64 0, .bool false, .int .u64 0, .bool false, .int .u64 0, .slice none 0 0, .int .u64 0] 26)).drew.heap.size ≤ w5.heap.size) := Lib.hid ⟨HK24a.out.1, hK5.kept.1⟩
         have HKW5 : Hid (KO ws w5 K3) := Lib.hid ((KO.of_below HB2a'.out K3).then_ HK5.out (fun k e => .inl e))
         have HK25 : Hid (Kept w2 w5 K3) := Lib.hid (HK24a.out.then_ HK5.out.kept (fun k e => .inl e))
         have HX5 := Lib.hid (blk_kept HX4a.out HK5.out.kept HPB.out)
         have HC5 := Lib.hid (blk_kept HC4a.out HK5.out.kept HGCK.out)
         have HI5 := Lib.hid (HI.out _ HK25.out)
         have hS5 := cells_do HX5.out HC5.out HI5.out
         have hba5 := below_alloc (Below.refl _ w5) (.cells #[.int .i64 0, .bool false, .int .u64 0, .bool false, .int .u64 0, .slice none 0 0, .int .u64 0] 26)
         have hS5a := cells_do (blk_below HX5.out hba5) (blk_below HC5.out hba5) (HI.out _ (HK25.out.then_ (Kept.of_below hba5 K3) (fun k e => .inl e)))
         have HN5 := Lib.hid (blk_kept HN4.out HK5.out.kept HK2Z.out)
         obtain ⟨l0, l1, l2, l3, l4, l5, l6⟩ := ans_cells HN5.out
         have fz0 := blk_frozen HN5.out 0
         have fz1 := blk_frozen HN5.out 1
         have fz2 := blk_frozen HN5.out 2
         have fz3 := blk_frozen HN5.out 3
         have fz4 := blk_frozen HN5.out 4
         have fz5 := blk_frozen HN5.out 5
         have fz6 := blk_frozen HN5.out 6
         have s7 := set7 HN5.out (.int .i64 D.e) (.bool D.fo) (.int .u64 D.v) (.bool D.dn) (.int .u64 D.h) (.slice A5 (toS D.ps).length c5) (.int .u64 D.c)
         have HK6 := Lib.hid s7.2
         have HN6 := Lib.hid s7.1
         have HG8 : Hid (w2.heap.size ≤ w2.heap.size) := Lib.hid (by have := HZ5.out; omega)
         have HX6 := Lib.hid (blk_kept HX5.out HK6.out.kept (by have := HPL.out; have := HB2.out.size; have := HZ5.out; omega))
         have HC6 := Lib.hid (blk_kept HC5.out HK6.out.kept (by have := HCL.out; have := HZ5.out; omega))
         have HK26 := Lib.hid (HK25.out.then_ HK6.out.kept (fun k e => .inr (by have := HZ5.out; omega)))
         have HI6 := Lib.hid (HI.out _ HK26.out)
         have HKW6 := Lib.hid (HKW5.out.then_ HK6.out (fun k e => .inr (by have := HZ5.out; have := HB2.out.size; omega)))
         have hS6 := cells_do2 HX6.out HC6.out HI6.out HN6.out
         have HJ6 := Lib.hid (HJ5.out.far HK6.out (by have := HJ5.out.al.ko.kept.1; have := HJ.out.al.ko.kept.1; have := HB2.out.size; omega) (fun e => by have := HJ.out.rlt _ e; have := HB2.out.size; omega) HN5.out (by decide) (by decide))
         have HR6 := Lib.hid (Kd.R_lower (base' := w2.heap.size) (R_typed HR5.out HK6.out HN5.out (by decide)) HZ5.out.1)
         obtain ⟨W6, hW6⟩ : ∃ W6, W6 = (((((((w5.setCell ⟨w2.heap.size, 0, none⟩ (.int .i64 D.e)).setCell ⟨w2.heap.size, 1, none⟩ (.bool D.fo)).setCell ⟨w2.heap.size, 2, none⟩ (.int .u64 D.v)).setCell ⟨w2.heap.size, 3, none⟩ (.bool D.dn)).setCell ⟨w2.heap.size, 4, none⟩ (.int .u64 D.h)).setCell ⟨w2.heap.size, 5, none⟩ (.slice A5 (toS D.ps).length c5)).setCell ⟨w2.heap.size, 6, none⟩ (.int .u64 D.c)) := ⟨_, rfl⟩
         obtain ⟨g8, hg8⟩ : ∃ g8, g8 = w2.heap.size := ⟨_, rfl⟩
         have HW6 := Lib.hid hW6
         have Hg8 := Lib.hid hg8
         clear hW6 hg8 s7
         clear hJ5 hK5 hR5 hba5))
  all_goals
    rw [← HW6.out, ← Hg8.out] at HN6 HK6 hS6
    rw [← HW6.out] at HX6 HC6 HK26 HI6 HKW6 HJ6 HR6
    rw [← HW6.out, ← Hg8.out]
    replace HG8 : Hid (w2.heap.size ≤ g8) := Lib.hid (by rw [Hg8.out]; exact HG8.out)
    have HWS : Hid (w2.heap.size ≤ w5.heap.size ∧ w5.heap.size ≤ W6.heap.size) := Lib.hid ⟨by have := HZ5.out; omega, HK6.out.kept.1⟩
    clear HW6 Hg8 hS4 hS4a hS5 hS5a hS6
  all_goals
    go_upto_region 7 with fail
    have HD6 := Lib.hid (below_drew (Below.refl W6.heap.size W6))
    have HX6d := Lib.hid (blk_below HX6.out HD6.out)
    have HC6d := Lib.hid (blk_below HC6.out HD6.out)
    have HN6d := Lib.hid (blk_below HN6.out HD6.out)
    have HJ6d := Lib.hid (HJ6.out.below HD6.out)
    have HR6d := Lib.hid (Kd.R_below HR6.out HD6.out)
    have HKW6d : Hid (KO ws W6.drew K3) := Lib.hid (HKW6.out.below HD6.out)
    have HK26d : Hid (Kept w2 W6.drew K3) := Lib.hid (HK26.out.then_ (Kept.of_below HD6.out K3) (fun k e => .inl e))
    have hS6 := cells_do2 HX6d.out HC6d.out (HI.out _ HK26d.out) HN6d.out
    go_region_held3 (fun w' => w'.cell? ⟨pb, 0, none⟩ = some (.pointer (some ⟨gp, 0, none⟩)) ∧ w'.cell? ⟨pb, 1, none⟩ = some (.pointer (some ⟨rp, 0, none⟩)) ∧ w'.cell? ⟨gc, 0, none⟩ = some (.bool x.tk) ∧ w'.cell? ⟨gc, 1, none⟩ = some (.int .u8 x.op.f0) ∧ w'.cell? ⟨gc, 2, none⟩ = some (.int .u64 x.op.f1) ∧ w'.cell? ⟨gc, 3, none⟩ = some (.int .u64 x.op.f2) ∧ w'.cell? ⟨gc, 4, none⟩ = some (.int .u64 x.op.f3) ∧ w'.cell? ⟨gc, 5, none⟩ = some (.int .u64 x.op.f4) ∧ w'.cell? ⟨gc, 6, none⟩ = some (.bool x.op.f5.f0) ∧ w'.cell? ⟨gc, 7, none⟩ = some (.int .i64 x.op.f5.f1) ∧ w'.cell? ⟨gc, 8, none⟩ = some (.int .i64 x.op.f5.f2) ∧ w'.cell? ⟨gc, 9, none⟩ = some (.slice A x.op.f6.length c) ∧ w'.cell? ⟨gc, 10, none⟩ = some (.int .u64 x.op.f7) ∧ w'.cell? ⟨gc, 11, none⟩ = some (.int .u64 x.op.f8) ∧ w'.cell? ⟨gc, 12, none⟩ = some (.int .i64 x.an.f0) ∧ w'.cell? ⟨gc, 13, none⟩ = some (.bool x.an.f1) ∧ w'.cell? ⟨gc, 14, none⟩ = some (.int .u64 x.an.f2) ∧ w'.cell? ⟨gc, 15, none⟩ = some (.bool x.an.f3) ∧ w'.cell? ⟨gc, 16, none⟩ = some (.int .u64 x.an.f4) ∧ w'.cell? ⟨gc, 17, none⟩ = some (.slice B x.an.f5.length d) ∧ w'.cell? ⟨gc, 18, none⟩ = some (.int .u64 x.an.f6) ∧ w'.cell? ⟨gc, 19, none⟩ = some (.int .u64 x.hd) ∧ w'.cell? ⟨gi, 0, none⟩ = some (.int .u8 x.op.f0) ∧ w'.cell? ⟨gi, 1, none⟩ = some (.int .u64 x.op.f1) ∧ w'.cell? ⟨gi, 2, none⟩ = some (.int .u64 x.op.f2) ∧ w'.cell? ⟨gi, 3, none⟩ = some (.int .u64 x.op.f3) ∧ w'.cell? ⟨gi, 4, none⟩ = some (.int .u64 x.op.f4) ∧ w'.cell? ⟨gi, 5, none⟩ = some (.bool x.op.f5.f0) ∧ w'.cell? ⟨gi, 6, none⟩ = some (.int .i64 x.op.f5.f1) ∧ w'.cell? ⟨gi, 7, none⟩ = some (.int .i64 x.op.f5.f2) ∧ w'.cell? ⟨gi, 8, none⟩ = some (.slice (some ⟨g2, 0, none⟩) x.op.f6.length c2) ∧ w'.cell? ⟨gi, 9, none⟩ = some (.int .u64 x.op.f7) ∧ w'.cell? ⟨gi, 10, none⟩ = some (.int .u64 x.op.f8) ∧ w'.cell? ⟨g8, 0, none⟩ = some (.int .i64 D.e) ∧ w'.cell? ⟨g8, 1, none⟩ = some (.bool D.fo) ∧ w'.cell? ⟨g8, 2, none⟩ = some (.int .u64 D.v) ∧ w'.cell? ⟨g8, 3, none⟩ = some (.bool D.dn) ∧ w'.cell? ⟨g8, 4, none⟩ = some (.int .u64 D.h) ∧ w'.cell? ⟨g8, 5, none⟩ = some (.slice A5 (toS D.ps).length c5) ∧ w'.cell? ⟨g8, 6, none⟩ = some (.int .u64 D.c))
      (first | go_keep | exact hS6 | exact hS7 | exact hS8)
      (first
        | (go_at_call 24; refine (doR HJ6d.out x.op A c x.hd (by have := HNN.out; omega) (HA.out _ HKW6d.out.kept) HAC.out HAN.out).mono ?_
           rw [← HS1.out, ← HDD.out]
           rintro e w7 ⟨R7, A7, c7, rfl, hJ7, hR7, hK7, hRR⟩
           have HK7 := Lib.hid (hK7.mono HE1.out)
           have HJ7 := Lib.hid hJ7
           have HRR := Lib.hid hRR
           have HR7 := Lib.hid hR7
           have HKW7 : Hid (KO ws w7 K3) := Lib.hid (HKW6d.out.then_ HK7.out (fun k e => .inl e))
           have HK27 : Hid (Kept w2 w7 K3) := Lib.hid (HK26d.out.then_ HK7.out.kept (fun k e => .inl e))
           have HX7 := Lib.hid (blk_kept HX6d.out HK7.out.kept HPB.out)
           have HC7 := Lib.hid (blk_kept HC6d.out HK7.out.kept HGCK.out)
           have HN7 := Lib.hid (blk_kept HN6d.out HK7.out.kept (fun e => by have := HLT.out _ e; have := HG8.out; have := HB2.out.size; omega))
           have HRA := Lib.hid (R_other HR6d.out hK7 (by have := HLT.out rp (HE1.out _ rfl); have := HB2.out.size; omega))
           have hS7 := cells_do2 HX7.out HC7.out (HI.out _ HK27.out) HN7.out
           clear hJ7 hK7 hRR hR7)
        | (go_at_call 43; refine (memA_c (ansS D) (ansS D) A5 A7 c5 c7 w7 (Kd.R_reads' HRA.out).2.2 (Kd.R_reads' HRA.out).2.1 (Kd.R_reads' HR7.out).2.2 (Kd.R_reads' HR7.out).2.1 (by simp only [ansS, toS_length]; exact HPS.out)).mono ?_
           rw [anEq_self]
           rintro e w8 ⟨rfl, hB8⟩
           have HB8 := Lib.hid hB8
           have hS8 := cells_do2 (blk_below HX7.out hB8) (blk_below HC7.out hB8) (HI.out _ (HK27.out.then_ (Kept.of_below hB8 K3) (fun k e => .inl e))) (blk_below HN7.out hB8)
           clear hB8))
  all_goals
    have HC8 := Lib.hid (blk_below HC7.out HB8.out)
    have HN8 := Lib.hid (blk_below HN7.out HB8.out)
    have HRA8 := Lib.hid (Kd.R_below HRA.out HB8.out)
    have HJ8 := Lib.hid (HJ7.out.below HB8.out)
    have HKW8 : Hid (KO ws w8 K3) := Lib.hid (HKW7.out.below HB8.out)
    have HK28 : Hid (Kept w2 w8 K3) := Lib.hid (HK27.out.then_ (Kept.of_below HB8.out K3) (fun k e => .inl e))
    clear hS6 hS7 hS8 HC7 HN7 HRA HJ7 HKW7 HK27
    obtain ⟨P, hP⟩ : ∃ P, P = toS D.ps := ⟨_, rfl⟩
    obtain ⟨n, hn⟩ : ∃ n, n = P.length := ⟨_, rfl⟩
    have hPl : (toS D.ps).length = n := by rw [hn, hP]
    have hnl : n ≤ 4398046511104 := by rw [← hPl, toS_length]; exact HPS.out
    rw [← hP] at HRA8 HN8 HR6d ⊢
    have HP := Lib.hid hP
    rw [← hn] at HRA8 HN8 HR6d ⊢
    have HPN := Lib.hid hn
    have HNE : Hid (∀ k, A5 = some (⟨k, 0, none⟩ : Addr) → w2.heap.size ≤ k ∧ k ≠ g8 ∧ k < W6.drew.heap.size ∧ ∃ cs, w8.heap[k]? = some (.cells cs 90 (0, 0))) := Lib.hid (fun k e => by
      obtain ⟨inner, ho⟩ := Kd.R_own HRA8.out
      have ho2 : (Value.slice A5 n c5).ownBlock = some k := by rw [e]; rfl
      obtain ⟨cs, hcs⟩ := own_typed ho k ho2
      exact ⟨own_base ho k ho2, fun e2 => by
        have h8 := HN8.out
        rw [← e2, hcs] at h8
        simp only [Option.some.injEq, Obj.cells.injEq] at h8
        exact absurd h8.2.1 (by decide), by
          obtain ⟨inner2, ho3⟩ := Kd.R_own HR6d.out
          obtain ⟨cs3, hcs3⟩ := own_typed ho3 k ho2
          exact blk_lt hcs3, cs, hcs⟩)
    clear hP hn hPl
    go_wp2_with fail
    go_loopw [9] (fun v9 wr => ∃ i : Nat, v9 = .int .i64 i ∧ i ≤ n ∧ Hid (∃ cur : List SP, cur.length = n ∧ kSP.R 90 wr w2.heap.size (fun _ => True) (.slice A5 n c5) cur) ∧ Hid (KO w8 wr (fun k => A5 = some (⟨k, 0, none⟩ : Addr)))) (fun v9 _ => n - (intOf v9).toNat)
    case atStart => exact ⟨0, rfl, Nat.zero_le _, Lib.hid ⟨P, HPN.out.symm, HRA8.out⟩, Lib.hid (KO.refl _ _)⟩
    case round =>
      obtain ⟨i, rfl, hi, HCUR, HKL⟩ := hrel
      have HNL := Lib.hid (blk_kept HN8.out HKL.out.kept (fun e => (HNE.out g8 e).2.1 rfl))
      have l5 : wr.cell? ⟨g8, 5, none⟩ = some (.slice A5 n c5) := by rw [blk_cell HNL.out]; rfl
      by_cases hin : i < n
      · obtain ⟨cur, hcl, hR⟩ := HCUR.out
        obtain ⟨g9, cap, e9, gb9, gl9, cl9, hg9⟩ := Kd.R_form hR (by omega)
        have e10 : A5 = some (⟨g9, 0, none⟩ : Addr) := by injection e9
        clear e9 gb9 gl9 hg9
        subst e10
        have HR := Lib.hid hR
        have HCL := Lib.hid hcl
        have HBW : Hid (Below w2.heap.size w2 w2) := Lib.hid (Below.refl _ _)
        have hii : (i : Int) < (n : Int) := by omega
        have h0i : (0 : Int) ≤ (i : Int) := by omega
        clear hR hcl HCUR
        go_wp2_with (first
          | ((with_reducible refine gate_store (t := 90) (p := 80) rfl ?_)
             obtain ⟨cc, hcc1, hcc2, hcc3, -⟩ := Kd.R_elem HR.out (⟨0, 0⟩ : SP) (i : Int) h0i hii
             refine Kd.R_store kSP (w0 := wr) w2.heap.size rfl rfl 90 (.tmp 80) (.tmp 79) rfl 90 (i : Int) 0 cur (⟨77, 77⟩ : SP) (.agg #[.int .u64 77, .int .u64 77]) [.int .u64 77, .int .u64 77] cc (fun _ => True) (fun _ => False) rfl (by show i * 2 = (i : Int).toNat * 2 + 0; simp) rfl rfl (by kernel_rfl) (by intro q hq; simp at hq; rcases hq with rfl | rfl <;> rfl) HR.out h0i hii hcc1 hcc3 (Nat.le_of_eq (Nat.zero_add _)) ?hM (fun _ e => e.elim) (Below.refl _ _) ?_
             (case hM => (rw [List.take_zero, List.nil_append, List.drop_eq_nil_of_le (by rw [hcc1]; exact Nat.le_of_eq (Nat.zero_add _).symm), List.append_nil]; exact k90_mkM _ _ _ (⟨77, 77⟩ : SP)))
             intro w9 hr9 hb9 hg9
             have HR9 := Lib.hid hr9
             have HG9 := Lib.hid hg9
             clear hr9 hb9 hg9 hcc1 hcc2 hcc3))
        go_roundw
        case rel => exact ⟨i + 1, by go_num, by omega, Lib.hid ⟨_, by rw [List.length_set]; exact HCL.out, HR9.out⟩, Lib.hid (KO.of_grown HG9.out HKL.out (fun k e => .inl (by injection e with e; rw [e])))⟩
        case measure => simp [intOf]; omega
      · have HJ7 : Hid (J w wr f5 (N + 2) R7 (⟨gp, bn, bh, s1⟩ :: r) ((rp, s1) :: q)) := Lib.hid (by
          by_cases hA : ∃ k, A5 = some (⟨k, 0, none⟩ : Addr)
          · obtain ⟨g9, hA⟩ := hA
            obtain ⟨b9, n9, lt9, cs9, hcs9⟩ := HNE.out g9 hA
            refine HJ8.out.far (g := g9) (HKL.out.mono (fun k e => by rw [hA] at e; injection e with e; injection e with e; exact e.symm)) (by have := HJ.out.al.ko.kept.1; have := HB2.out.size; omega) (fun e => ?_) hcs9 (by decide) (by decide)
            have hl9 := blk_lt hcs9
            rcases HRR.out _ e with e | e
            · have := HJ.out.rlt _ e; have := HB2.out.size; omega
            · exact absurd e (Nat.not_le.2 lt9)
          · exact HJ8.out.below (HKL.out.below_of (fun k e => absurd ⟨k, e⟩ hA)))
        have HC7 := Lib.hid (blk_kept HC8.out HKL.out.kept (fun e => by have := (HNE.out gc e).1; have := HCL.out; omega))
        have HK27 : Hid (Kept w2 wr K3) := Lib.hid (HK28.out.then_ HKL.out.kept (fun k e => .inr (HNE.out k e).1))
        have HKW7 : Hid (KO ws wr K3) := Lib.hid (HKW8.out.then_ HKL.out (fun k e => .inr (Nat.le_trans HB2.out.size (HNE.out k e).1)))
        obtain ⟨k0, k1, k2, k3, k4, k5, k6, k7, k8, k9, k10, k11, k12, k13, k14, k15, k16, k17, k18, k19⟩ := cells_call HC7.out
        go_wp2_with fail
        go_at_call 44
        have hbl := below_alloc (Below.refl _ wr) (.cells (opC x.op A c) 39)
        refine (keepsO_c wr.heap.size gi cpi g2 c2 x.op A c _ (heap_alloc_new wr _) (HA.out _ (HKW7.out.kept.then_ (Kept.of_below hbl K3) (fun k e => .inl e))) HAC.out HAN.out HCPI.out HCP2.out (HI.out _ (HK27.out.then_ (Kept.of_below hbl K3) (fun k e => .inl e))) (HIJ.out _ (HK27.out.then_ (Kept.of_below hbl K3) (fun k e => .inl e)))).mono ?_
        rintro e w8 ⟨rfl, hB8⟩
        have hb78 : Below wr.heap.size wr w8 := hbl.trans (hB8.mono hbl.size)
        go_wp2_with fail
        go_ret
        exact ⟨f5, R7, rfl, (HJ7.out.below hb78).mono (by omega), HKW7.out.below hb78, fun k e => (HRR.out k e).imp id (fun e => Nat.le_trans HKW6d.out.kept.1 e)⟩
end Go.Proofs.Ytngocadnbpdnoaa.Mo
namespace Go.Proofs.Ytngocadnbpdnoaa.Mo
open Go Go.Maps Go.RowKit Go.Proofs.Ytngocadnbpdnoaa.Srt Go.Proofs.Ytngocadnbpdnoaa.Q Go.Proofs.YtngocadnbpdnoaaW.PrintWords Go.Proofs.YtngocadnbpdnoaaW.PrintLast Go.Proofs.YtngocadnbpdnoaaW.PrintMore Go.Proofs.Ytngocadnbpdnoaa.Open
set_option linter.unusedVariables false
set_option linter.unusedSimpArgs false
def heldL (s : MS) (k : Int) : List SP := toS ((fnd s.held k).getD [])
section
variable {w wr : World} {f : Nat → Option PL} {N : Nat} {R : Nat → Prop} {gp bn bh rp : Nat} {s : MS} {r : List Mod} {ms : List Mod} {ds q : List (Nat × MS)}
theorem contM (h : J w wr f N R (⟨gp, bn, bh, s⟩ :: r) ds) (hN : N ≤ 1099511627776) :
    Calls Try.prog 17 #[.pointer (some ⟨gp, 0, none⟩)] wr fun e w1 => ∃ A c, e = .returned (.slice A (toS s.now).length c) ∧ kSP.R 90 w1 wr.heap.size (fun _ => True) (.slice A (toS s.now).length c) (toS s.now) ∧ Below wr.heap.size wr w1 := by
  refine (content_c f N gp bn bh s.multi s.now s.held wr (h.al.pm ⟨gp, bn, bh, s⟩ (by simp)).1 hN).mono ?_
  rintro e w1 ⟨v, rfl, hR, hB⟩
  obtain ⟨A, c, rfl⟩ := Kd.R_slice hR
  exact ⟨A, c, rfl, hR, hB⟩
theorem contR (h : J w wr f N R ms ((rp, s) :: q)) :
    Calls Try.prog 45 #[.pointer (some ⟨rp, 0, none⟩)] wr fun e w1 => ∃ A c, e = .returned (.slice A (toS s.now).length c) ∧ (toS s.now).length ≤ c ∧ Kd.C kSP w1 A (toS s.now).length (toS s.now) ∧ wr = w1 := by
  obtain ⟨A, c, B, d, hs, hM⟩ := h.at
  refine (contentR_c hM).mono ?_
  rintro e w1 ⟨rfl, rfl⟩
  exact ⟨A, c, by rw [toS_length], by rw [toS_length]; exact hM.nc, by rw [toS_length]; exact hM.now _ (Kept.refl _ _), rfl⟩
theorem handM (h : J w wr f N R (⟨gp, bn, bh, s⟩ :: r) ds) (hN : N ≤ 1099511627776) :
    Calls Try.prog 27 #[.pointer (some ⟨gp, 0, none⟩)] wr fun e w1 => ∃ A c, e = .returned (.slice A (s.held.map (·.1)).length c) ∧ (Kd.int .u64).R 23 w1 wr.heap.size (fun _ => True) (.slice A (s.held.map (·.1)).length c) (s.held.map (·.1)) ∧ Below wr.heap.size wr w1 := by
  refine (handles_c f N gp bn bh s.multi s.now s.held wr (h.al.pm ⟨gp, bn, bh, s⟩ (by simp)).1 hN).mono ?_
  rintro e w1 ⟨v, rfl, hR, hB⟩
  obtain ⟨A, c, rfl⟩ := Kd.R_slice hR
  exact ⟨A, c, rfl, hR, hB⟩
theorem handR (h : J w wr f N R ms ((rp, s) :: q)) (hN : N ≤ 1099511627776) :
    Calls Try.prog 28 #[.pointer (some ⟨rp, 0, none⟩)] wr fun e w1 => ∃ A c, e = .returned (.slice A (s.held.map (·.1)).length c) ∧ (Kd.int .u64).R 23 w1 wr.heap.size (fun _ => True) (.slice A (s.held.map (·.1)).length c) (s.held.map (·.1)) ∧ Below wr.heap.size wr w1 := by
  obtain ⟨A, c, B, d, hs, hM⟩ := h.at
  refine (handlesR_c hM hN).mono ?_
  rintro e w1 ⟨v, rfl, hR, hB⟩
  obtain ⟨A, c, rfl⟩ := Kd.R_slice hR
  exact ⟨A, c, rfl, hR, hB⟩
theorem heldM (h : J w wr f N R (⟨gp, bn, bh, s⟩ :: r) ds) (k : Int) (hk : u64wf k) (hN : N ≤ 1099511627776) :
    Calls Try.prog 16 #[.pointer (some ⟨gp, 0, none⟩), .int .u64 k] wr fun e w1 => ∃ A c, e = .returned (.tuple #[.slice A (heldL s k).length c, .bool (fnd s.held k).isSome]) ∧ kSP.R 90 w1 wr.heap.size (fun _ => True) (.slice A (heldL s k).length c) (heldL s k) ∧ Below wr.heap.size wr w1 := by
  refine (held_c f N gp bn bh s.multi s.now s.held k wr (h.al.pm ⟨gp, bn, bh, s⟩ (by simp)).1 h.al.fro hk hN).mono ?_
  rintro e w1 ⟨v, rfl, hR, hB⟩
  obtain ⟨A, c, rfl⟩ := Kd.R_slice hR
  exact ⟨A, c, rfl, hR, hB⟩
theorem whatR (h : J w wr f N R ms ((rp, s) :: q)) (k : Int) (hN : N ≤ 1099511627776) :
    Calls Try.prog 47 #[.pointer (some ⟨rp, 0, none⟩), .int .u64 k] wr fun e w1 => ∃ A c, e = .returned (.tuple #[.slice A (heldL s k).length c, .bool (fnd s.held k).isSome]) ∧ (heldL s k).length ≤ c ∧ Kd.C kSP w1 A (heldL s k).length (heldL s k) ∧ wr = w1 := by
  obtain ⟨A, c, B, d, hs, hM⟩ := h.at
  cases hf : fnd s.held k with
  | none =>
    refine (what_none hM k hf hN).mono ?_
    rintro e w1 ⟨rfl, rfl⟩
    have e0 : heldL s k = [] := by unfold heldL; rw [hf]; rfl
    rw [e0]
    exact ⟨none, 0, rfl, Nat.le_refl _, Kd.C_nil _ _, rfl⟩
  | some l =>
    refine (what_some hM k l hf hN).mono ?_
    rintro e w1 ⟨A1, c1, rfl, h1, h2, rfl⟩
    have e0 : heldL s k = toS l := by unfold heldL; rw [hf]; rfl
    rw [e0]
    exact ⟨A1, c1, rfl, h1, h2 _ (Kept.refl _ _), rfl⟩
theorem J.keys (h : J w wr f N R (⟨gp, bn, bh, s⟩ :: r) ds) : ∀ k ∈ s.held.map (·.1), u64wf k := fun k hk => by
  obtain ⟨p, hp, rfl⟩ := List.mem_map.1 hk
  exact wf_keys (h.al.pm ⟨gp, bn, bh, s⟩ (by simp)).1.held.1 hp
theorem J.hlen (h : J w wr f N R ms ((rp, s) :: q)) : s.held.length ≤ N := by
  obtain ⟨A, c, B, d, hs, hM⟩ := h.at
  rw [hM.hd, List.length_map]; exact hM.hle
theorem J.nlen (h : J w wr f N R ms ((rp, s) :: q)) : s.now.length ≤ N := by
  obtain ⟨A, c, B, d, hs, hM⟩ := h.at
  exact hM.nle
theorem J.llen (h : J w wr f N R ms ((rp, s) :: q)) (k : Int) : (heldL s k).length ≤ N := by
  obtain ⟨A, c, B, d, hs, hM⟩ := h.at
  unfold heldL
  rw [toS_length]
  cases hf : fnd s.held k with
  | none => exact Nat.zero_le _
  | some l => exact hM.lens k l hf
theorem J.zero0 (h : J w wr f N R ms ((rp, s) :: q)) : fnd s.held 0 = none := by
  obtain ⟨A, c, B, d, hs, hM⟩ := h.at
  exact hM.zero
end
theorem u64wf_wrap (x : Int) : u64wf (IntKind.u64.wrap x) := by
  have e3 : ∀ x : Int, IntKind.u64.wrap x = x % 18446744073709551616 := fun x => by simp [IntKind.wrap, IntKind.bits, IntKind.signed]
  rw [e3]
  unfold u64wf
  simp [Lit.wf, IntKind.min, IntKind.max, IntKind.bits, IntKind.signed]
  omega
end Go.Proofs.Ytngocadnbpdnoaa.Mo
namespace Go.Proofs.Ytngocadnbpdnoaa.Mo
open Go Go.Maps Go.RowKit Go.Proofs.Ytngocadnbpdnoaa.Srt Go.Proofs.Ytngocadnbpdnoaa.Q Go.Proofs.YtngocadnbpdnoaaW.PrintWords Go.Proofs.YtngocadnbpdnoaaW.PrintLast Go.Proofs.YtngocadnbpdnoaaW.PrintMore Go.Proofs.Ytngocadnbpdnoaa.Open
set_option linter.unusedVariables false
set_option linter.unusedSimpArgs false
set_option maxRecDepth 100000 in
set_option maxHeartbeats 16000000 in
theorem alike_c {w ws : World} {f : Nat → Option PL} {N : Nat} {R : Nat → Prop} {gp bn bh rp : Nat} {s : MS} {r : List Mod} {q : List (Nat × MS)} (h : J w ws f N R (⟨gp, bn, bh, s⟩ :: r) ((rp, s) :: q)) (pb : Nat) (hbox : ws.heap[pb]? = some (.cells (bothC gp rp) 77 (0, 0))) (hN : N ≤ 1099511627776) :
    Calls Try.prog 21 #[.pointer (some ⟨pb, 0, none⟩)] ws fun e w1 => e = .returned (.bool true) ∧ Below ws.heap.size ws w1 := by
  have HJ := Lib.hid h
  have HBOX := Lib.hid hbox
  have hkeys := h.keys
  have hhl := h.hlen
  have hnl := h.nlen
  have HK := Lib.hid hkeys
  have HLL := Lib.hid h.llen
  have HZ := Lib.hid h.zero0
  obtain ⟨ks, hks⟩ : ∃ ks, ks = s.held.map (·.1) := ⟨_, rfl⟩
  have hkl : ks.length ≤ N := by rw [hks, List.length_map]; exact hhl
  rw [← hks] at HK
  have HKS := Lib.hid hks
  obtain ⟨p0, p1⟩ := cells_box hbox
  clear h hbox hkeys hhl hks
  go_enter Try.func21, Try.ntmps21
  go_upto_region 2 with (go_at_call 28; refine (handR HJ.out hN).mono ?_; rw [← HKS.out]; rintro e w1 ⟨A1, c1, rfl, hR1, hB1⟩; have HR1 := Lib.hid hR1; have HB1 := Lib.hid hB1; clear hR1 hB1)
  clear p0 p1
  have HD1 := Lib.hid (below_drew (Below.refl w1.heap.size w1))
  have HB2 := Lib.hid (below_drew HB1.out)
  have hS1 := cells_box (blk_below HBOX.out HB2.out)
  go_region_held3 (fun w' => w'.cell? ⟨pb, 0, none⟩ = some (.pointer (some ⟨gp, 0, none⟩)) ∧ w'.cell? ⟨pb, 1, none⟩ = some (.pointer (some ⟨rp, 0, none⟩)))
    (first | go_keep | exact hS1 | exact hS2 | exact hS3 | exact hS4 | exact hS5)
    (first
      | (go_at_call 17; refine (contM (HJ.out.below HB2.out) hN).mono ?_
         rintro e w2 ⟨A2, c2, rfl, hR2, hB⟩
         have HR2 := Lib.hid hR2
         have HB3 := Lib.hid (HB2.out.trans (hB.mono HB2.out.size))
         have HD2 := Lib.hid (HD1.out.trans (hB.mono HD1.out.size))
         have hS2 := cells_box (blk_below HBOX.out HB3.out)
         clear hR2 hB)
      | (go_at_call 45; refine (contR (HJ.out.below HB3.out)).mono ?_
         rintro e w3 ⟨A3, c3, rfl, hc3, hC3, rfl⟩
         have HR3 := Lib.hid (And.intro hc3 hC3)
         clear hc3 hC3)
      | (go_at_call 18; refine (memP_c (toS s.now) (toS s.now) A2 A3 c2 c3 w2 (Kd.R_reads' HR2.out).2.2 (Kd.R_reads' HR2.out).2.1 HR3.out.2 HR3.out.1 (by rw [toS_length]; omega) true (decide_eq_true rfl).symm).mono ?_
         rintro e w4 ⟨rfl, hB⟩
         have HB4 := Lib.hid (HB3.out.trans (hB.below.mono HB3.out.size))
         have HD4 := Lib.hid (HD2.out.trans (hB.below.mono HD2.out.size))
         have hS4 := cells_box (blk_below HBOX.out HB4.out)
         clear hB)
      | (go_at_call 27; refine (handM (HJ.out.below HB4.out) hN).mono ?_
         rw [← HKS.out]
         rintro e w5 ⟨A5, c5, rfl, hR5, hB⟩
         have HR5 := Lib.hid hR5
         have HB5 := Lib.hid (HB4.out.trans (hB.mono HB4.out.size))
         have HD5 := Lib.hid (HD4.out.trans (hB.mono HD4.out.size))
         have hS5 := cells_box (blk_below HBOX.out HB5.out)
         clear hR5 hB)
      | (go_at_call 46; refine (memU_c ks ks A5 A1 c5 c1 w5 (Kd.R_reads' HR5.out).2.2 (Kd.R_reads' HR5.out).2.1 (Kd.R_reads' (Kd.R_below HR1.out HD5.out)).2.2 (Kd.R_reads' HR1.out).2.1 (by omega) true (decide_eq_true rfl).symm).mono ?_
         rintro e w6 ⟨rfl, hB⟩
         have HB6 := Lib.hid (HB5.out.trans (hB.below.mono HB5.out.size))
         have HD6 := Lib.hid (HD5.out.trans (hB.below.mono HD5.out.size))
         have hS6 := cells_box (blk_below HBOX.out HB6.out)
         clear hB))
  all_goals
    clear hS1 hS2 hS4 hS5 hS6
    go_wp2_with fail
    go_loopw [4] (fun v4 wr => ∃ i : Nat, v4 = .int .i64 i ∧ i ≤ ks.length ∧ Hid (Below ws.heap.size ws wr) ∧ Hid (Below w1.heap.size w1 wr)) (fun v4 _ => ks.length - (intOf v4).toNat)
    case atStart => exact ⟨0, rfl, Nat.zero_le _, HB6, HD6⟩
    case round =>
      clear HB6 HD6 HB5 HD5 HB4 HD4 HB3 HD2
      obtain ⟨i, rfl, hi, HB, HD⟩ := hrel
      by_cases hlt : i < ks.length
      · obtain ⟨k, hk⟩ : ∃ k, ks[i]? = some k := ⟨_, List.getElem?_eq_getElem hlt⟩
        obtain ⟨ad, e9, y0⟩ := Kd.at_int (Kd.R_reads' HR1.out).2.2 (i : Int) (by omega) (by omega)
        rw [Int.toNat_natCast, show rd ks (i : Int) = k by simp [rd, rdOf, List.getD_eq_getElem?_getD, hk]] at y0
        have HF : Hid (∀ W, Below ws.heap.size ws W → Below w1.heap.size w1 W → W.cell? ⟨pb, 0, none⟩ = some (.pointer (some ⟨gp, 0, none⟩)) ∧ W.cell? ⟨pb, 1, none⟩ = some (.pointer (some ⟨rp, 0, none⟩)) ∧ W.cell? (ad.add i) = some (.int .u64 k)) := Lib.hid (fun W h1 h2 => by
          have h3 := cells_box (blk_below HBOX.out h1)
          exact ⟨h3.1, h3.2, (h2.cell (World.block_lt_of_cell? _ _ y0)).trans y0⟩)
        have hku : u64wf k := HK.out k (List.mem_iff_getElem?.2 ⟨i, hk⟩)
        have HKU := Lib.hid hku
        cases e9
        obtain ⟨L1, hL1⟩ : ∃ L, L = heldL s k := ⟨_, rfl⟩
        obtain ⟨b1, hb1⟩ : ∃ b, b = (fnd s.held k).isSome := ⟨_, rfl⟩
        obtain ⟨L2, hL2⟩ : ∃ L, L = heldL s (IntKind.u64.wrap (k + 1)) := ⟨_, rfl⟩
        obtain ⟨b2, hb2⟩ : ∃ b, b = (fnd s.held (IntKind.u64.wrap (k + 1))).isSome := ⟨_, rfl⟩
        have HLN1 : Hid (L1.length ≤ 4398046511104) := Lib.hid (by have := HLL.out k; rw [hL1]; omega)
        have HLN2 : Hid (L2.length ≤ 4398046511104) := Lib.hid (by have := HLL.out (IntKind.u64.wrap (k + 1)); rw [hL2]; omega)
        have HL1 := Lib.hid hL1
        have HS1 := Lib.hid hb1
        have HL2 := Lib.hid hL2
        have HS2 := Lib.hid hb2
        clear hk y0 hku hL1 hb1 hL2 hb2
        have HBa1 := Lib.hid (below_drew HB.out)
        have HDa1 := Lib.hid (below_drew HD.out)
        have hSa1 := HF.out _ HBa1.out HDa1.out
        go_upto_region 7 with fail
        go_region_held3 (fun w' => w'.cell? ⟨pb, 0, none⟩ = some (.pointer (some ⟨gp, 0, none⟩)) ∧ w'.cell? ⟨pb, 1, none⟩ = some (.pointer (some ⟨rp, 0, none⟩)) ∧ w'.cell? (ad.add i) = some (.int .u64 k))
          (first | go_keep | exact hSa1 | exact hSb1)
          ((go_at_call 16; refine (heldM (HJ.out.below HBa1.out) k HKU.out hN).mono ?_
            rw [← HL1.out, ← HS1.out]
            rintro e v1 ⟨A7, c7, rfl, hR7, hB7⟩
            have HR7 := Lib.hid hR7
            have HBb1 := Lib.hid (HBa1.out.trans (hB7.mono HBa1.out.size))
            have HDb1 := Lib.hid (HDa1.out.trans (hB7.mono HDa1.out.size))
            have hSb1 := HF.out _ HBb1.out HDb1.out
            clear hR7 hB7))
        all_goals
          have HBc1 := Lib.hid (below_drew HBb1.out)
          have HDc1 := Lib.hid (below_drew HDb1.out)
          have hSc1 := HF.out _ HBc1.out HDc1.out
          replace HR7 := Lib.hid (Kd.R_below HR7.out (below_drew (Below.refl _ _)))
          clear hSa1 hSb1
        all_goals
          go_upto_region 8 with fail
          go_region_held3 (fun w' => w'.cell? ⟨pb, 0, none⟩ = some (.pointer (some ⟨gp, 0, none⟩)) ∧ w'.cell? ⟨pb, 1, none⟩ = some (.pointer (some ⟨rp, 0, none⟩)) ∧ w'.cell? (ad.add i) = some (.int .u64 k))
            (first | go_keep | exact hSc1)
            ((go_at_call 47; refine (whatR (HJ.out.below HBc1.out) k hN).mono ?_
              rw [← HL1.out, ← HS1.out]
              rintro e w8 ⟨A8, c8, rfl, hc8, hC8, rfl⟩
              have HC8 := Lib.hid (And.intro hc8 hC8)
              clear hc8 hC8))
        all_goals
          have bb1 : (b1 != b1) = false := by cases b1 <;> rfl
          have be1 : (b1 == b1) = true := by cases b1 <;> rfl
          clear hSc1
          go_wp2_with fail
          go_at_call 18
          refine (memP_c L1 L1 A7 A8 c7 c8 _ (Kd.R_reads' HR7.out).2.2 (Kd.R_reads' HR7.out).2.1 HC8.out.2 HC8.out.1 HLN1.out true (decide_eq_true rfl).symm).mono ?_
          rintro e v1z ⟨rfl, hBz⟩
          have HB1z := Lib.hid (HBc1.out.trans (hBz.below.mono HBc1.out.size))
          have HD1z := Lib.hid (HDc1.out.trans (hBz.below.mono HDc1.out.size))
          clear hBz bb1 be1 HR7 HC8
          replace HB := HB1z
          replace HD := HD1z
        all_goals skip
        all_goals
          have HBa2 := Lib.hid (below_drew HB.out)
          have HDa2 := Lib.hid (below_drew HD.out)
          have hSa2 := HF.out _ HBa2.out HDa2.out
          go_upto_region 11 with fail
          go_region_held3 (fun w' => w'.cell? ⟨pb, 0, none⟩ = some (.pointer (some ⟨gp, 0, none⟩)) ∧ w'.cell? ⟨pb, 1, none⟩ = some (.pointer (some ⟨rp, 0, none⟩)) ∧ w'.cell? (ad.add i) = some (.int .u64 k))
            (first | go_keep | exact hSa2 | exact hSb2)
            ((go_at_call 16; refine (heldM (HJ.out.below HBa2.out) (IntKind.u64.wrap (k + 1)) (u64wf_wrap _) hN).mono ?_
              rw [← HL2.out, ← HS2.out]
              rintro e v2 ⟨A7, c7, rfl, hR7, hB7⟩
              have HR7 := Lib.hid hR7
              have HBb2 := Lib.hid (HBa2.out.trans (hB7.mono HBa2.out.size))
              have HDb2 := Lib.hid (HDa2.out.trans (hB7.mono HDa2.out.size))
              have hSb2 := HF.out _ HBb2.out HDb2.out
              clear hR7 hB7))
          all_goals
            have HBc2 := Lib.hid (below_drew HBb2.out)
            have HDc2 := Lib.hid (below_drew HDb2.out)
            have hSc2 := HF.out _ HBc2.out HDc2.out
            replace HR7 := Lib.hid (Kd.R_below HR7.out (below_drew (Below.refl _ _)))
            clear hSa2 hSb2
          all_goals
            go_upto_region 12 with fail
            go_region_held3 (fun w' => w'.cell? ⟨pb, 0, none⟩ = some (.pointer (some ⟨gp, 0, none⟩)) ∧ w'.cell? ⟨pb, 1, none⟩ = some (.pointer (some ⟨rp, 0, none⟩)) ∧ w'.cell? (ad.add i) = some (.int .u64 k))
              (first | go_keep | exact hSc2)
              ((go_at_call 47; refine (whatR (HJ.out.below HBc2.out) (IntKind.u64.wrap (k + 1)) hN).mono ?_
                rw [← HL2.out, ← HS2.out]
                rintro e w8 ⟨A8, c8, rfl, hc8, hC8, rfl⟩
                have HC8 := Lib.hid (And.intro hc8 hC8)
                clear hc8 hC8))
          all_goals
            have bb2 : (b2 != b2) = false := by cases b2 <;> rfl
            have be2 : (b2 == b2) = true := by cases b2 <;> rfl
            clear hSc2
            go_wp2_with fail
            go_at_call 18
            refine (memP_c L2 L2 A7 A8 c7 c8 _ (Kd.R_reads' HR7.out).2.2 (Kd.R_reads' HR7.out).2.1 HC8.out.2 HC8.out.1 HLN2.out true (decide_eq_true rfl).symm).mono ?_
            rintro e v2z ⟨rfl, hBz⟩
            have HB2z := Lib.hid (HBc2.out.trans (hBz.below.mono HBc2.out.size))
            have HD2z := Lib.hid (HDc2.out.trans (hBz.below.mono HDc2.out.size))
            clear hBz bb2 be2 HR7 HC8
            replace HB := HB2z
            replace HD := HD2z
        all_goals
          go_wp2_with fail
          go_roundw
        all_goals first | exact ⟨i + 1, by go_num, by omega, HB, HD⟩ | (simp [intOf]; omega)
      · obtain rfl : i = ks.length := by omega
        have hF := cells_box (blk_below HBOX.out HB.out)
        obtain ⟨p0, p1⟩ := hF
        have HB0 := HZ.out
        go_wp2_with (go_at_call 16; refine (heldM (HJ.out.below HB.out) 0 (by unfold u64wf; decide) hN).mono ?_; rw [HZ.out]; rintro e w9 ⟨A9, c9, rfl, hR9, hB9⟩)
        go_ret
        exact ⟨rfl, HB.out.trans (hB9.mono HB.out.size)⟩
end Go.Proofs.Ytngocadnbpdnoaa.Mo
