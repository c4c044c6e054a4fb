import Derived.Test.YthblincfnfpgbaaQxH4f
namespace Go.Proofs.Ythblincfnfpgbaa.Q
open Go.RowKit Go.Proofs.YthblincfnfpgbaaW.PrintWords Go.Proofs.YthblincfnfpgbaaW.PrintLast Go.Proofs.YthblincfnfpgbaaW.PrintMore
set_option linter.unusedVariables false
theorem putC_len (c : S30) : (putC c).length ≤ 1 := by unfold putC; split <;> simp
set_option maxHeartbeats 8000000 in
set_option maxRecDepth 100000 in
theorem beside30_c (w0 w : World) (g h : Nat) (va vb : Value) (la : List S82) (lb : List S30) (hB : Below w0.heap.size w0 w) (hg : w0.heap.size ≤ g) (hh : w0.heap.size ≤ h) (hv : VisP w0 g h true [] w) (ha : Rest w0 va la) (hb : Rest30 w0 vb lb) (hl : la.length + lb.length < 4398046511104) :
    Calls Try.prog 48 #[va, vb, .func (.func 41) #[] #[], .func (.func 46) #[] #[], .func (.func 49) #[] #[.pointer (some ⟨g, 0, none⟩), .pointer (some ⟨h, 0, none⟩)]] w fun e w' => e = .returned (.tuple #[]) ∧ VisP w0 g h (patF la lb) (patO la lb) w' := by
  have hu82 := Try.underlying82
  have hu30 := Try.underlying30
  have HB := Lib.hid hB
  have HG := Lib.hid hg
  have HG2 := Lib.hid hh
  have HV := Lib.hid hv
  have HLA := Lib.hid ha
  have HLB := Lib.hid hb
  have HL := Lib.hid hl
  clear hB hg hh hv ha hb hl
  go_enter Try.func48, Try.ntmps48
  go_wp2
  go_loopg [0, 1] (la.length + lb.length) (fun kq x y w' => ∃ (a : List S82) (b : List S30) (xs : List S82) (ft : Bool) (A B : Option Addr) (c d na nb : Nat), x = .slice A na c ∧ y = .slice B nb d ∧ Hid (na = a.length) ∧ Hid (nb = b.length) ∧ Hid (kq = a.length + b.length) ∧ Hid (Kd.C k82 w0 A a.length a) ∧ Hid (Kd.C k30 w0 B b.length b) ∧ Hid (a.length ≤ c) ∧ Hid (b.length ≤ d) ∧ Hid (xs ++ patO a b = patO la lb ∧ (ft && patF a b) = patF la lb) ∧ Hid (xs.length + a.length + b.length ≤ la.length + lb.length) ∧ Hid (VisP w0 g h ft xs w'))
  case atStart =>
    obtain ⟨A, c, rfl, h1, h2⟩ := HLA.out
    obtain ⟨B, d, rfl, h3, h4⟩ := HLB.out
    exact ⟨la, lb, [], true, A, B, c, d, _, _, rfl, rfl, Lib.hid rfl, Lib.hid rfl, Lib.hid rfl, Lib.hid h2, Lib.hid h4, Lib.hid h1, Lib.hid h3, Lib.hid ⟨rfl, by simp⟩, Lib.hid (by simp), HV⟩
  case round =>
    obtain ⟨a, b, xs, ft, A, B, c, d, na, nb, rfl, rfl, HNA, HNB, HK, HA, HBB, HC, HD, HX, HN, HV'⟩ := hrel
    clear HLA HLB HV
    rcases a with _ | ⟨x, a⟩
    · obtain rfl : na = 0 := HNA.out
      rcases b with _ | ⟨y, b⟩
      · obtain rfl : nb = 0 := HNB.out
        go_wp2
        go_end0
        refine ⟨rfl, ?_⟩
        obtain ⟨hx, hf⟩ := HX.out
        rw [patO, List.append_nil] at hx
        rw [patF, Bool.and_true] at hf
        rw [← hx, ← hf]
        exact HV'.out
      · obtain ⟨q, rfl, hq1, hq2, hq3, hq4, hq5⟩ := rest30_head HBB.out
        have HQB := Lib.hid (World.block_lt_of_cell? w0 _ hq1)
        replace hq1 := pw_cell_below HV'.out.1 hq1
        replace hq2 := pw_cell_below HV'.out.1 hq2
        replace hq3 := pw_cell_below HV'.out.1 hq3
        replace hq4 := pw_cell_below HV'.out.1 hq4
        replace hq5 := pw_cell_below HV'.out.1 hq5
        obtain ⟨y1, y2, y3, y4, y5⟩ := y
        dsimp only at hq1 hq2 hq3 hq4 hq5
        have pb : 0 < nb := by have := HNB.out; simp at this; omega
        have n2 : decide ((0:Int) < (nb : Int)) = true := by simp; omega
        have n3 : ((nb : Int) == 0) = false := by simp; omega
        have HQ1 := Lib.hid hq1
        have HQ2 := Lib.hid hq2
        have HQ3 := Lib.hid hq3
        have HQ4 := Lib.hid hq4
        have HQ5 := Lib.hid hq5
        clear hq1 hq2 hq3 hq4 hq5
        go_wp2
        go_quiet (fail)
        go_wp2
        go_quiet (fail)
        go_wp2_with (first | (go_at_call 49; refine (pvisB_v ⟨y1, y2, y3, y4, y5⟩ (visP_below HV'.out (pw_below_drewN (Below.refl _ _) _)) HG.out HG2.out (by have := HN.out; have := HL.out; omega) HQB.out HQ1.out HQ2.out HQ3.out HQ4.out HQ5.out).mono ?_; rintro e w2 ⟨rfl, hv⟩; have HV2 := Lib.hid hv; clear hv))
        all_goals
          go_roundg (gk - 1)
          case measure => have := HK.out; simp at this; omega
          case rel =>
            have hk := HK.out
            have hn := HN.out
            have hb := HNB.out
            have hdd := HD.out
            have hpl := putC_len ⟨y1, y2, y3, y4, y5⟩
            simp only [List.length_cons, List.length_nil] at hk hn hb hdd
            refine ⟨[], b, _, _, _, _, _, _, _, _, rfl, rfl, HNA, Lib.hid (by omega), Lib.hid (by simp only [List.length_nil]; omega), HA, Lib.hid ?_, HC, Lib.hid (by omega), Lib.hid ?_, Lib.hid (by simp only [List.length_append, List.length_nil]; omega), HV2⟩
            · first | exact rest30_tail2 HBB.out | exact rest30_tail1 HBB.out (by simp only [List.length_cons]; omega)
            · obtain ⟨hx, hf⟩ := HX.out
              rw [patO] at hx
              rw [patF] at hf
              exact ⟨by rw [← hx]; simp [putC], by rw [← hf]; simp [Bool.and_assoc]⟩
    · rcases b with _ | ⟨y, b⟩
      · obtain ⟨p, rfl, hp1, hp2⟩ := rest_head HA.out
        replace hp1 := pw_cell_below HV'.out.1 hp1
        replace hp2 := pw_cell_below HV'.out.1 hp2
        obtain ⟨x1, x2⟩ := x
        dsimp only at hp1 hp2
        have hnb := HNB.out
        have pa : 0 < na := by have := HNA.out; simp at this; omega
        have n1 : decide ((0:Int) < (na : Int)) = true := by simp; omega
        have n2 : decide ((0:Int) < (nb : Int)) = false := by simp at hnb; simp; omega
        have n3 : ((nb : Int) == 0) = true := by simp at hnb; simp; omega
        have n4 : ((na : Int) == 0) = false := by simp; omega
        clear hnb
        have HP1 := Lib.hid hp1
        have HP2 := Lib.hid hp2
        clear hp1 hp2
        go_wp2
        go_quiet (fail)
        go_wp2_with (first | (go_at_call 49; refine (pvisA_c _ _ _ _ _ _ _ _ _ (visP_below HV'.out (pw_below_drewN (Below.refl _ _) _)) HG.out HG2.out (by have := HN.out; have := HL.out; omega) HP1.out HP2.out).mono ?_; rintro e w2 ⟨rfl, hv⟩; have HV2 := Lib.hid hv; clear hv))
        all_goals
          go_roundg (gk - 1)
          case measure => have := HK.out; simp at this; omega
          case rel =>
            have hk := HK.out
            have hn := HN.out
            have ha := HNA.out
            have hcc := HC.out
            simp only [List.length_cons, List.length_nil] at hk hn ha hcc
            refine ⟨a, [], _, _, _, _, _, _, _, _, rfl, rfl, Lib.hid (by omega), HNB, Lib.hid (by simp only [List.length_nil]; omega), Lib.hid ?_, HBB, Lib.hid (by omega), HD, Lib.hid ?_, Lib.hid (by simp only [List.length_append, List.length_cons, List.length_nil]; omega), HV2⟩
            · first | exact rest_tail2 HA.out | exact rest_tail1 HA.out (by simp only [List.length_cons]; omega)
            · obtain ⟨hx, hf⟩ := HX.out
              rw [patO] at hx
              rw [patF] at hf
              exact ⟨by rw [← hx]; simp, hf⟩
      · obtain ⟨p, rfl, hp1, hp2⟩ := rest_head HA.out
        obtain ⟨q, rfl, hq1, hq2, hq3, hq4, hq5⟩ := rest30_head HBB.out
        have HQB := Lib.hid (World.block_lt_of_cell? w0 _ hq1)
        have hb := HV'.out.1
        replace hp1 := pw_cell_below hb hp1
        replace hp2 := pw_cell_below hb hp2
        replace hq1 := pw_cell_below hb hq1
        replace hq2 := pw_cell_below hb hq2
        replace hq3 := pw_cell_below hb hq3
        replace hq4 := pw_cell_below hb hq4
        replace hq5 := pw_cell_below hb hq5
        clear hb
        obtain ⟨x1, x2⟩ := x
        obtain ⟨y1, y2, y3, y4, y5⟩ := y
        dsimp only at hp1 hp2 hq1 hq2 hq3 hq4 hq5
        have pa : 0 < na := by have := HNA.out; simp at this; omega
        have pb : 0 < nb := by have := HNB.out; simp at this; omega
        have n1 : decide ((0:Int) < (na : Int)) = true := by simp; omega
        have n2 : decide ((0:Int) < (nb : Int)) = true := by simp; omega
        have n3 : ((nb : Int) == 0) = false := by simp; omega
        have n4 : ((na : Int) == 0) = false := by simp; omega
        by_cases hxy : x1 < y1
        · have hxy1 : decide (x1 < y1) = true := decide_eq_true hxy
          go_wp2
          go_region_held3 (fun w' => VisP w0 g h ft xs w' ∧ w'.cell? p = some (.int .u64 x1) ∧ w'.cell? ⟨p.block, p.off + 1, none⟩ = some (.int .u64 x2) ∧ w'.cell? q = some (.int .u64 y1) ∧ w'.cell? ⟨q.block, q.off + 1, none⟩ = some (.bool y2) ∧ w'.cell? ⟨q.block, q.off + 2, none⟩ = some (.bool y3) ∧ w'.cell? ⟨q.block, q.off + 3, none⟩ = some (.int .u64 y4) ∧ w'.cell? ⟨q.block, q.off + 4, none⟩ = some (.int .u64 y5)) (first | exact ⟨visP_drew HV'.out, hp1, hp2, hq1, hq2, hq3, hq4, hq5⟩ | exact keepP (by assumption) hb | exact keepP (by assumption) (below_drew (Below.refl _ _))) (first | (go_at_call 41; refine (pairKey_c _ _ _).mono ?_; rintro e w' ⟨rfl, hb⟩) | (go_at_call 46; refine (changeKey_c _ _ _ _ _ _).mono ?_; rintro e w' ⟨rfl, hb⟩))
          rename_i hS
          have HS := Lib.hid hS
          clear hS hb hp1 hp2 hq1 hq2 hq3 hq4 hq5 n1 n2 n3 n4
          go_wp2_with (first | (go_at_call 49; refine (pvisA_c _ _ _ _ _ _ _ _ _ HS.out.1 HG.out HG2.out (by have := HN.out; have := HL.out; omega) HS.out.2.1 HS.out.2.2.1).mono ?_; rintro e w2 ⟨rfl, hv⟩; have HV2 := Lib.hid hv; clear hv))
          all_goals
            go_roundg (gk - 1)
            case measure => have := HK.out; simp at this; omega
            case rel =>
              have hk := HK.out
              have hn := HN.out
              have ha := HNA.out
              have hcc := HC.out
              simp only [List.length_cons] at hk hn ha hcc
              refine ⟨a, S30.mk y1 y2 y3 y4 y5 :: b, _, _, _, _, _, _, _, _, rfl, rfl, Lib.hid (by omega), HNB, Lib.hid (by simp only [List.length_cons]; omega), Lib.hid ?_, HBB, Lib.hid (by omega), HD, Lib.hid ?_, Lib.hid (by simp only [List.length_append, List.length_cons, List.length_nil]; omega), HV2⟩
              · first | exact rest_tail2 HA.out | exact rest_tail1 HA.out (by simp only [List.length_cons]; omega)
              · obtain ⟨hx, hf⟩ := HX.out
                rw [patO, if_pos hxy] at hx
                rw [patF, if_pos hxy] at hf
                exact ⟨by rw [← hx]; simp, hf⟩
        · have hxy1 : decide (x1 < y1) = false := decide_eq_false hxy
          by_cases hyx : y1 < x1
          · have hyx1 : decide (y1 < x1) = true := decide_eq_true hyx
            go_wp2
            go_region_held3 (fun w' => VisP w0 g h ft xs w' ∧ w'.cell? p = some (.int .u64 x1) ∧ w'.cell? ⟨p.block, p.off + 1, none⟩ = some (.int .u64 x2) ∧ w'.cell? q = some (.int .u64 y1) ∧ w'.cell? ⟨q.block, q.off + 1, none⟩ = some (.bool y2) ∧ w'.cell? ⟨q.block, q.off + 2, none⟩ = some (.bool y3) ∧ w'.cell? ⟨q.block, q.off + 3, none⟩ = some (.int .u64 y4) ∧ w'.cell? ⟨q.block, q.off + 4, none⟩ = some (.int .u64 y5)) (first | exact ⟨visP_drew HV'.out, hp1, hp2, hq1, hq2, hq3, hq4, hq5⟩ | exact keepP (by assumption) hb | exact keepP (by assumption) (below_drew (Below.refl _ _))) (first | (go_at_call 41; refine (pairKey_c _ _ _).mono ?_; rintro e w' ⟨rfl, hb⟩) | (go_at_call 46; refine (changeKey_c _ _ _ _ _ _).mono ?_; rintro e w' ⟨rfl, hb⟩))
            rename_i hS
            clear hb
            go_wp2
            go_region_held3 (fun w' => VisP w0 g h ft xs w' ∧ w'.cell? p = some (.int .u64 x1) ∧ w'.cell? ⟨p.block, p.off + 1, none⟩ = some (.int .u64 x2) ∧ w'.cell? q = some (.int .u64 y1) ∧ w'.cell? ⟨q.block, q.off + 1, none⟩ = some (.bool y2) ∧ w'.cell? ⟨q.block, q.off + 2, none⟩ = some (.bool y3) ∧ w'.cell? ⟨q.block, q.off + 3, none⟩ = some (.int .u64 y4) ∧ w'.cell? ⟨q.block, q.off + 4, none⟩ = some (.int .u64 y5)) (first | exact ⟨visP_drew HV'.out, hp1, hp2, hq1, hq2, hq3, hq4, hq5⟩ | exact keepP (by assumption) hb | exact keepP (by assumption) (below_drew (Below.refl _ _))) (first | (go_at_call 41; refine (pairKey_c _ _ _).mono ?_; rintro e w' ⟨rfl, hb⟩) | (go_at_call 46; refine (changeKey_c _ _ _ _ _ _).mono ?_; rintro e w' ⟨rfl, hb⟩))
            rename_i hS2
            have HS := Lib.hid hS2
            clear hS hS2 hb hp1 hp2 hq1 hq2 hq3 hq4 hq5 n1 n2 n3 n4
            go_wp2_with (first | (go_at_call 49; refine (pvisB_v ⟨y1, y2, y3, y4, y5⟩ HS.out.1 HG.out HG2.out (by have := HN.out; have := HL.out; omega) HQB.out HS.out.2.2.2.1 HS.out.2.2.2.2.1 HS.out.2.2.2.2.2.1 HS.out.2.2.2.2.2.2.1 HS.out.2.2.2.2.2.2.2).mono ?_; rintro e w2 ⟨rfl, hv⟩; have HV2 := Lib.hid hv; clear hv))
            all_goals
              go_roundg (gk - 1)
              case measure => have := HK.out; simp at this; omega
              case rel =>
                have hk := HK.out
                have hn := HN.out
                have hb := HNB.out
                have hdd := HD.out
                have hpl := putC_len ⟨y1, y2, y3, y4, y5⟩
                simp only [List.length_cons] at hk hn hb hdd
                refine ⟨S82.mk x1 x2 :: a, b, _, _, _, _, _, _, _, _, rfl, rfl, HNA, Lib.hid (by omega), Lib.hid (by simp only [List.length_cons]; omega), HA, Lib.hid ?_, HC, Lib.hid (by omega), Lib.hid ?_, Lib.hid (by simp only [List.length_append, List.length_cons]; omega), HV2⟩
                · first | exact rest30_tail2 HBB.out | exact rest30_tail1 HBB.out (by simp only [List.length_cons]; omega)
                · obtain ⟨hx, hf⟩ := HX.out
                  rw [patO, if_neg (show ¬ x1 < y1 by omega), if_pos hyx] at hx
                  rw [patF, if_neg (show ¬ x1 < y1 by omega), if_pos hyx] at hf
                  exact ⟨by rw [← hx]; simp [putC], by rw [← hf]; simp [Bool.and_assoc]⟩
          · have hyx1 : decide (y1 < x1) = false := decide_eq_false hyx
            go_wp2
            go_region_held3 (fun w' => VisP w0 g h ft xs w' ∧ w'.cell? p = some (.int .u64 x1) ∧ w'.cell? ⟨p.block, p.off + 1, none⟩ = some (.int .u64 x2) ∧ w'.cell? q = some (.int .u64 y1) ∧ w'.cell? ⟨q.block, q.off + 1, none⟩ = some (.bool y2) ∧ w'.cell? ⟨q.block, q.off + 2, none⟩ = some (.bool y3) ∧ w'.cell? ⟨q.block, q.off + 3, none⟩ = some (.int .u64 y4) ∧ w'.cell? ⟨q.block, q.off + 4, none⟩ = some (.int .u64 y5)) (first | exact ⟨visP_drew HV'.out, hp1, hp2, hq1, hq2, hq3, hq4, hq5⟩ | exact keepP (by assumption) hb | exact keepP (by assumption) (below_drew (Below.refl _ _))) (first | (go_at_call 41; refine (pairKey_c _ _ _).mono ?_; rintro e w' ⟨rfl, hb⟩) | (go_at_call 46; refine (changeKey_c _ _ _ _ _ _).mono ?_; rintro e w' ⟨rfl, hb⟩))
            rename_i hS
            clear hb
            go_wp2
            go_region_held3 (fun w' => VisP w0 g h ft xs w' ∧ w'.cell? p = some (.int .u64 x1) ∧ w'.cell? ⟨p.block, p.off + 1, none⟩ = some (.int .u64 x2) ∧ w'.cell? q = some (.int .u64 y1) ∧ w'.cell? ⟨q.block, q.off + 1, none⟩ = some (.bool y2) ∧ w'.cell? ⟨q.block, q.off + 2, none⟩ = some (.bool y3) ∧ w'.cell? ⟨q.block, q.off + 3, none⟩ = some (.int .u64 y4) ∧ w'.cell? ⟨q.block, q.off + 4, none⟩ = some (.int .u64 y5)) (first | exact ⟨visP_drew HV'.out, hp1, hp2, hq1, hq2, hq3, hq4, hq5⟩ | exact keepP (by assumption) hb | exact keepP (by assumption) (below_drew (Below.refl _ _))) (first | (go_at_call 41; refine (pairKey_c _ _ _).mono ?_; rintro e w' ⟨rfl, hb⟩) | (go_at_call 46; refine (changeKey_c _ _ _ _ _ _).mono ?_; rintro e w' ⟨rfl, hb⟩))
            rename_i hS2
            clear hb
            have HS := Lib.hid hS2
            clear hS hS2 hp1 hp2 hq1 hq2 hq3 hq4 hq5
            go_wp2
            go_region_with ((go_at_call 49; refine (pvisAB_v ⟨y1, y2, y3, y4, y5⟩ (visP_drew HS.out.1) HG.out HG2.out (by have := HN.out; have := HL.out; omega) HQB.out HS.out.2.1 HS.out.2.2.1 HS.out.2.2.2.1 HS.out.2.2.2.2.1 HS.out.2.2.2.2.2.1 HS.out.2.2.2.2.2.2.1 HS.out.2.2.2.2.2.2.2).mono ?_; rintro e w2 ⟨rfl, hv⟩; have HV2 := Lib.hid hv; clear hv))
            go_wp2
            by_cases c1 : c = 1 <;> by_cases d1 : d = 1
            all_goals (try subst c1)
            all_goals (try subst d1)
            all_goals go_quiet (fail)
            all_goals go_wp2
            all_goals
              go_roundg (gk - 2)
              case measure => have := HK.out; simp at this; omega
              case rel =>
                have hk := HK.out
                have hn := HN.out
                have hna := HNA.out
                have hnb := HNB.out
                have hcc := HC.out
                have hdd := HD.out
                have hpl := putC_len ⟨y1, y2, y3, y4, y5⟩
                simp only [List.length_cons] at hk hn hna hnb hcc hdd
                refine ⟨a, b, _, _, _, _, _, _, _, _, rfl, rfl, Lib.hid (by omega), Lib.hid (by omega), Lib.hid (by omega), Lib.hid ?_, Lib.hid ?_, Lib.hid (by omega), Lib.hid (by omega), Lib.hid ?_, Lib.hid (by simp only [List.length_append]; omega), Lib.hid (visP_below HV2.out (pw_below_drewN (Below.refl _ _) _))⟩
                · first | exact rest_tail2 HA.out | exact rest_tail1 HA.out (by simp only [List.length_cons]; omega)
                · first | exact rest30_tail2 HBB.out | exact rest30_tail1 HBB.out (by simp only [List.length_cons]; omega)
                · obtain ⟨hx, hf⟩ := HX.out
                  rw [patO, if_neg (show ¬ x1 < y1 by omega), if_neg (show ¬ y1 < x1 by omega)] at hx
                  rw [patF, if_neg (show ¬ x1 < y1 by omega), if_neg (show ¬ y1 < x1 by omega)] at hf
                  exact ⟨by rw [← hx]; simp [putC], by rw [← hf]; simp [Bool.and_assoc]⟩
end Go.Proofs.Ythblincfnfpgbaa.Q
