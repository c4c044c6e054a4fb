import Derived.Test.YthblincfnfpgbaaQxV
namespace Go.Proofs.Ythblincfnfpgbaa.Q
open Go.RowKit Go.Proofs.YthblincfnfpgbaaW.PrintWords Go.Proofs.YthblincfnfpgbaaW.PrintLast Go.Proofs.YthblincfnfpgbaaW.PrintMore
set_option linter.unusedVariables false
def diffS : List S82 → List S82 → List S30
  | [], [] => []
  | x :: a, [] => chgA x :: diffS a []
  | [], y :: b => chgB y :: diffS [] b
  | x :: a, y :: b => if x.f0 < y.f0 then chgA x :: diffS a (y :: b) else if y.f0 < x.f0 then chgB y :: diffS (x :: a) b else (if (!(x.f1 == y.f1)) = true then [chgAB x y] else []) ++ diffS a b
termination_by a b => a.length + b.length
theorem diffS_length (a b : List S82) : (diffS a b).length ≤ a.length + b.length := by
  fun_induction diffS a b
  all_goals (try split)
  all_goals (try simp only [List.length_nil, List.length_cons, List.length_append] at *)
  all_goals omega

/-- A row that is gone through, and what is left of it. -/
def Rest (w0 : World) (v : Value) (l : List S82) : Prop := ∃ A c, v = .slice A l.length c ∧ l.length ≤ c ∧ Kd.C k82 w0 A l.length l

theorem rest_head {w0 : World} {A : Option Addr} {x : S82} {l : List S82} (h : Kd.C k82 w0 A (x :: l).length (x :: l)) : ∃ a : Addr, A = some a ∧ w0.cell? a = some (.int .u64 x.f0) ∧ w0.cell? ⟨a.block, a.off + 1, none⟩ = some (.int .u64 x.f1) := by
  obtain ⟨ad, e, h1, h2⟩ := at_T82 h 0 (by omega) (by simp)
  refine ⟨ad, e, ?_, ?_⟩
  · simpa [Addr.add, rd_T82] using h1
  · simpa [Addr.add, rd_T82] using h2

theorem rest_tail2 {w0 : World} {p : Addr} {x : S82} {l : List S82} (h : Kd.C k82 w0 (some p) (x :: l).length (x :: l)) : Kd.C k82 w0 (some ⟨p.block, p.off + 2, none⟩) l.length l := by
  have := Kd.C_drop (m := 1) (c := (x :: l).length + 1) h (by simp) (by omega)
  rw [if_neg (by simp)] at this
  simpa [k82, Kd.iso, Kd.pair, Kd.int, Kd.scalar, Addr.add] using this
theorem rest_tail1 {w0 : World} {p : Addr} {x : S82} {l : List S82} (h : Kd.C k82 w0 (some p) (x :: l).length (x :: l)) (hc : (x :: l).length ≤ 1) : Kd.C k82 w0 (some p) l.length l := by
  obtain rfl : l = [] := by cases l <;> simp_all
  exact ⟨rfl, by simp, fun h => absurd h (by simp)⟩
theorem vis_below {w0 w1 w2 : World} {g : Nat} {xs : List S30} (h : Vis w0 g xs w1) (hb : Below w1.heap.size w1 w2) : Vis w0 g xs w2 := by
  obtain ⟨h1, v, h2, h3⟩ := h
  exact ⟨h1.trans (hb.mono h1.size), v, (hb.block g (blk_lt h2)).trans h2, Kd.R_below h3 hb⟩
theorem visA_v {w0 w : World} {g : Nat} {xs : List S30} {p : Addr} {k u : Int} (hv : Vis w0 g xs w) (hg : w0.heap.size ≤ g) (hl : xs.length < 4398046511104) (h1 : w.cell? p = some (.int .u64 k)) (h2 : w.cell? ⟨p.block, p.off + 1, none⟩ = some (.int .u64 u)) :
    Calls Try.prog 42 #[.pointer (some p), .pointer none, .pointer (some ⟨g, 0, none⟩)] w fun e w' => e = .returned (.tuple #[]) ∧ Vis w0 g (xs ++ [chgA ⟨k, u⟩]) w' := by
  obtain ⟨a, v, b, c⟩ := hv
  exact visA_c w0 w g v xs p k u a hg b c hl h1 h2
theorem visB_v {w0 w : World} {g : Nat} {xs : List S30} {p : Addr} {k u : Int} (hv : Vis w0 g xs w) (hg : w0.heap.size ≤ g) (hl : xs.length < 4398046511104) (h1 : w.cell? p = some (.int .u64 k)) (h2 : w.cell? ⟨p.block, p.off + 1, none⟩ = some (.int .u64 u)) :
    Calls Try.prog 42 #[.pointer none, .pointer (some p), .pointer (some ⟨g, 0, none⟩)] w fun e w' => e = .returned (.tuple #[]) ∧ Vis w0 g (xs ++ [chgB ⟨k, u⟩]) w' := by
  obtain ⟨a, v, b, c⟩ := hv
  exact visB_c w0 w g v xs p k u a hg b c hl h1 h2
theorem visAB_v {w0 w : World} {g : Nat} {xs : List S30} {p q : Addr} {k u k2 u2 : Int} (hv : Vis w0 g xs w) (hg : w0.heap.size ≤ g) (hl : xs.length < 4398046511104) (h1 : w.cell? p = some (.int .u64 k)) (h2 : w.cell? ⟨p.block, p.off + 1, none⟩ = some (.int .u64 u)) (h3 : w.cell? q = some (.int .u64 k2)) (h4 : w.cell? ⟨q.block, q.off + 1, none⟩ = some (.int .u64 u2)) :
    Calls Try.prog 42 #[.pointer (some p), .pointer (some q), .pointer (some ⟨g, 0, none⟩)] w fun e w' => e = .returned (.tuple #[]) ∧ Vis w0 g (xs ++ if (!(u == u2)) = true then [chgAB ⟨k, u⟩ ⟨k2, u2⟩] else []) w' := by
  obtain ⟨a, v, b, c⟩ := hv
  split
  · exact visAB_c w0 w g v xs p q k u k2 u2 a hg b c hl h1 h2 h3 h4 (by assumption)
  · rw [List.append_nil]
    exact visAA_c w0 w g v xs p q k u k2 u2 a hg b c hl h1 h2 h3 h4 (by simp_all)
theorem vis_drew {w0 w1 : World} {g : Nat} {xs : List S30} (h : Vis w0 g xs w1) : Vis w0 g xs w1.drew := vis_below h (below_drew (Below.refl _ _))
theorem keepV {w0 w1 w2 : World} {g : Nat} {xs : List S30} {p1 p2 p3 p4 : Addr} {v1 v2 v3 v4 : Value} (h : Vis w0 g xs w1 ∧ w1.cell? p1 = some v1 ∧ w1.cell? p2 = some v2 ∧ w1.cell? p3 = some v3 ∧ w1.cell? p4 = some v4) (hb : Below w1.heap.size w1 w2) :
    Vis w0 g xs w2 ∧ w2.cell? p1 = some v1 ∧ w2.cell? p2 = some v2 ∧ w2.cell? p3 = some v3 ∧ w2.cell? p4 = some v4 :=
  ⟨vis_below h.1 hb, pw_cell_below hb h.2.1, pw_cell_below hb h.2.2.1, pw_cell_below hb h.2.2.2.1, pw_cell_below hb h.2.2.2.2⟩
set_option maxHeartbeats 8000000 in
set_option maxRecDepth 100000 in
theorem beside_c (w0 w : World) (g : Nat) (va vb : Value) (la lb : List S82) (hB : Below w0.heap.size w0 w) (hg : w0.heap.size ≤ g) (hv : Vis w0 g [] w) (ha : Rest w0 va la) (hb : Rest w0 vb lb) (hl : la.length + lb.length < 4398046511104) :
    Calls Try.prog 40 #[va, vb, .func (.func 41) #[] #[], .func (.func 41) #[] #[], .func (.func 42) #[] #[.pointer (some ⟨g, 0, none⟩)]] w fun e w' => e = .returned (.tuple #[]) ∧ Vis w0 g (diffS la lb) w' := by
  have hu82 := Try.underlying82
  have HB := Lib.hid hB
  have HG := Lib.hid hg
  have HV := Lib.hid hv
  have HLA := Lib.hid ha
  have HLB := Lib.hid hb
  have HL := Lib.hid hl
  clear hB hg hv ha hb hl
  go_enter Try.func40, Try.ntmps40
  go_wp2
  go_loopg [0, 1] (la.length + lb.length) (fun kq x y w' => ∃ (a b : List S82) (xs : List S30) (A B : Option Addr) (c d na nb : Nat), x = .slice A na c ∧ y = .slice B nb d ∧ Hid (na = a.length) ∧ Hid (nb = b.length) ∧ Hid (kq = a.length + b.length) ∧ Hid (Kd.C k82 w0 A a.length a) ∧ Hid (Kd.C k82 w0 B b.length b) ∧ Hid (a.length ≤ c) ∧ Hid (b.length ≤ d) ∧ Hid (xs ++ diffS a b = diffS la lb) ∧ Hid (xs.length + a.length + b.length ≤ la.length + lb.length) ∧ Hid (Vis w0 g xs w'))
  case atStart =>
    obtain ⟨A, c, rfl, h1, h2⟩ := HLA.out
    obtain ⟨B, d, rfl, h3, h4⟩ := HLB.out
    exact ⟨la, lb, [], A, B, c, d, _, _, rfl, rfl, Lib.hid rfl, Lib.hid rfl, Lib.hid rfl, Lib.hid h2, Lib.hid h4, Lib.hid h1, Lib.hid h3, Lib.hid rfl, Lib.hid (by simp), HV⟩
  case round =>
    obtain ⟨a, b, xs, A, B, c, d, na, nb, rfl, rfl, HNA, HNB, HK, HA, HBB, HC, HD, HX, HN, HV'⟩ := hrel
    clear HLA HLB HV
    rcases a with _ | ⟨x, a⟩
    · obtain rfl : na = 0 := HNA.out
      rcases b with _ | ⟨y, b⟩
      · obtain rfl : nb = 0 := HNB.out
        go_wp2
        go_end0
        refine ⟨rfl, ?_⟩
        have hx := HX.out
        rw [diffS, List.append_nil] at hx
        rw [← hx]
        exact HV'.out
      · obtain ⟨q, rfl, hq1, hq2⟩ := rest_head HBB.out
        replace hq1 := pw_cell_below HV'.out.1 hq1
        replace hq2 := pw_cell_below HV'.out.1 hq2
        obtain ⟨y1, y2⟩ := y
        dsimp only at hq1 hq2
        have pb : 0 < nb := by have := HNB.out; simp at this; omega
        have n2 : decide ((0:Int) < (nb : Int)) = true := by simp; omega
        have n3 : ((nb : Int) == 0) = false := by simp; omega
        have HQ1 := Lib.hid hq1
        have HQ2 := Lib.hid hq2
        clear hq1 hq2
        go_wp2
        go_quiet (fail)
        go_wp2
        go_quiet (fail)
        go_wp2_with (first | (go_at_call 42; refine (visB_v (vis_below HV'.out (pw_below_drewN (Below.refl _ _) _)) HG.out (by have := HN.out; have := HL.out; omega) HQ1.out HQ2.out).mono ?_; rintro e w2 ⟨rfl, hv⟩; have HV2 := Lib.hid hv; clear hv))
        all_goals
          go_roundg (gk - 1)
          case measure => have := HK.out; simp at this; omega
          case rel =>
            have hk := HK.out
            have hn := HN.out
            have hb := HNB.out
            have hdd := HD.out
            simp only [List.length_cons, List.length_nil] at hk hn hb hdd
            refine ⟨[], b, xs ++ [chgB ⟨y1, y2⟩], _, _, _, _, _, _, rfl, rfl, HNA, Lib.hid (by omega), Lib.hid (by simp only [List.length_nil]; omega), HA, Lib.hid ?_, HC, Lib.hid (by omega), Lib.hid ?_, Lib.hid (by simp only [List.length_append, List.length_cons, List.length_nil]; omega), HV2⟩
            · first | exact rest_tail2 HBB.out | exact rest_tail1 HBB.out (by simp only [List.length_cons]; omega)
            · have hx := HX.out
              rw [diffS] at hx
              rw [← hx]
              simp
    · rcases b with _ | ⟨y, b⟩
      · obtain ⟨p, rfl, hp1, hp2⟩ := rest_head HA.out
        replace hp1 := pw_cell_below HV'.out.1 hp1
        replace hp2 := pw_cell_below HV'.out.1 hp2
        obtain ⟨x1, x2⟩ := x
        dsimp only at hp1 hp2
        have hnb := HNB.out
        have pa : 0 < na := by have := HNA.out; simp at this; omega
        have n1 : decide ((0:Int) < (na : Int)) = true := by simp; omega
        have n2 : decide ((0:Int) < (nb : Int)) = false := by simp at hnb; simp; omega
        have n3 : ((nb : Int) == 0) = true := by simp at hnb; simp; omega
        have n4 : ((na : Int) == 0) = false := by simp; omega
        clear hnb
        have HP1 := Lib.hid hp1
        have HP2 := Lib.hid hp2
        clear hp1 hp2
        go_wp2
        go_quiet (fail)
        go_wp2_with (first | (go_at_call 42; refine (visA_v (vis_below HV'.out (pw_below_drewN (Below.refl _ _) _)) HG.out (by have := HN.out; have := HL.out; omega) HP1.out HP2.out).mono ?_; rintro e w2 ⟨rfl, hv⟩; have HV2 := Lib.hid hv; clear hv))
        all_goals
          go_roundg (gk - 1)
          case measure => have := HK.out; simp at this; omega
          case rel =>
            have hk := HK.out
            have hn := HN.out
            have ha := HNA.out
            have hcc := HC.out
            simp only [List.length_cons, List.length_nil] at hk hn ha hcc
            refine ⟨a, [], xs ++ [chgA ⟨x1, x2⟩], _, _, _, _, _, _, rfl, rfl, Lib.hid (by omega), HNB, Lib.hid (by simp only [List.length_nil]; omega), Lib.hid ?_, HBB, Lib.hid (by omega), HD, Lib.hid ?_, Lib.hid (by simp only [List.length_append, List.length_cons, List.length_nil]; omega), HV2⟩
            · first | exact rest_tail2 HA.out | exact rest_tail1 HA.out (by simp only [List.length_cons]; omega)
            · have hx := HX.out
              rw [diffS] at hx
              rw [← hx]
              simp
      · obtain ⟨p, rfl, hp1, hp2⟩ := rest_head HA.out
        obtain ⟨q, rfl, hq1, hq2⟩ := rest_head HBB.out
        have hb := HV'.out.1
        replace hp1 := pw_cell_below hb hp1
        replace hp2 := pw_cell_below hb hp2
        replace hq1 := pw_cell_below hb hq1
        replace hq2 := pw_cell_below hb hq2
        clear hb
        obtain ⟨x1, x2⟩ := x
        obtain ⟨y1, y2⟩ := y
        dsimp only at hp1 hp2 hq1 hq2
        have pa : 0 < na := by have := HNA.out; simp at this; omega
        have pb : 0 < nb := by have := HNB.out; simp at this; omega
        have n1 : decide ((0:Int) < (na : Int)) = true := by simp; omega
        have n2 : decide ((0:Int) < (nb : Int)) = true := by simp; omega
        have n3 : ((nb : Int) == 0) = false := by simp; omega
        have n4 : ((na : Int) == 0) = false := by simp; omega
        by_cases hxy : x1 < y1
        · have hxy1 : decide (x1 < y1) = true := decide_eq_true hxy
          go_wp2
          go_region_held3 (fun w' => Vis w0 g xs w' ∧ w'.cell? p = some (.int .u64 x1) ∧ w'.cell? ⟨p.block, p.off + 1, none⟩ = some (.int .u64 x2) ∧ w'.cell? q = some (.int .u64 y1) ∧ w'.cell? ⟨q.block, q.off + 1, none⟩ = some (.int .u64 y2)) (first | exact ⟨vis_drew HV'.out, hp1, hp2, hq1, hq2⟩ | exact keepV (by assumption) hb) (first | (go_at_call 41; refine (pairKey_c _ _ _).mono ?_; rintro e w' ⟨rfl, hb⟩))
          rename_i hS
          have HS := Lib.hid hS
          clear hS hb hp1 hp2 hq1 hq2 n1 n2 n3 n4
          go_wp2_with (first | (go_at_call 42; refine (visA_v HS.out.1 HG.out (by have := HN.out; have := HL.out; omega) HS.out.2.1 HS.out.2.2.1).mono ?_; rintro e w2 ⟨rfl, hv⟩; have HV2 := Lib.hid hv; clear hv))
          all_goals
            go_roundg (gk - 1)
            case measure => have := HK.out; simp at this; omega
            case rel =>
              have hk := HK.out
              have hn := HN.out
              have ha := HNA.out
              have hcc := HC.out
              simp only [List.length_cons] at hk hn ha hcc
              refine ⟨a, S82.mk y1 y2 :: b, xs ++ [chgA ⟨x1, x2⟩], _, _, _, _, _, _, rfl, rfl, Lib.hid (by omega), HNB, Lib.hid (by simp only [List.length_cons]; omega), Lib.hid ?_, HBB, Lib.hid (by omega), HD, Lib.hid ?_, Lib.hid (by simp only [List.length_append, List.length_cons, List.length_nil]; omega), HV2⟩
              · first | exact rest_tail2 HA.out | exact rest_tail1 HA.out (by simp only [List.length_cons]; omega)
              · have hx := HX.out
                rw [diffS, if_pos hxy] at hx
                rw [← hx]
                simp
        · have hxy1 : decide (x1 < y1) = false := decide_eq_false hxy
          by_cases hyx : y1 < x1
          · have hyx1 : decide (y1 < x1) = true := decide_eq_true hyx
            go_wp2
            go_region_held3 (fun w' => Vis w0 g xs w' ∧ w'.cell? p = some (.int .u64 x1) ∧ w'.cell? ⟨p.block, p.off + 1, none⟩ = some (.int .u64 x2) ∧ w'.cell? q = some (.int .u64 y1) ∧ w'.cell? ⟨q.block, q.off + 1, none⟩ = some (.int .u64 y2)) (first | exact ⟨vis_drew HV'.out, hp1, hp2, hq1, hq2⟩ | exact keepV (by assumption) hb | exact keepV (by assumption) (below_drew (Below.refl _ _))) (first | (go_at_call 41; refine (pairKey_c _ _ _).mono ?_; rintro e w' ⟨rfl, hb⟩))
            rename_i hS
            clear hb
            go_wp2
            go_region_held3 (fun w' => Vis w0 g xs w' ∧ w'.cell? p = some (.int .u64 x1) ∧ w'.cell? ⟨p.block, p.off + 1, none⟩ = some (.int .u64 x2) ∧ w'.cell? q = some (.int .u64 y1) ∧ w'.cell? ⟨q.block, q.off + 1, none⟩ = some (.int .u64 y2)) (first | exact ⟨vis_drew HV'.out, hp1, hp2, hq1, hq2⟩ | exact keepV (by assumption) hb | exact keepV (by assumption) (below_drew (Below.refl _ _))) (first | (go_at_call 41; refine (pairKey_c _ _ _).mono ?_; rintro e w' ⟨rfl, hb⟩))
            rename_i hS2
            have HS := Lib.hid hS2
            clear hS hS2 hb hp1 hp2 hq1 hq2 n1 n2 n3 n4
            go_wp2_with (first | (go_at_call 42; refine (visB_v HS.out.1 HG.out (by have := HN.out; have := HL.out; omega) HS.out.2.2.2.1 HS.out.2.2.2.2).mono ?_; rintro e w2 ⟨rfl, hv⟩; have HV2 := Lib.hid hv; clear hv))
            all_goals
              go_roundg (gk - 1)
              case measure => have := HK.out; simp at this; omega
              case rel =>
                have hk := HK.out
                have hn := HN.out
                have hb := HNB.out
                have hdd := HD.out
                simp only [List.length_cons] at hk hn hb hdd
                refine ⟨S82.mk x1 x2 :: a, b, xs ++ [chgB ⟨y1, y2⟩], _, _, _, _, _, _, rfl, rfl, HNA, Lib.hid (by omega), Lib.hid (by simp only [List.length_cons]; omega), HA, Lib.hid ?_, HC, Lib.hid (by omega), Lib.hid ?_, Lib.hid (by simp only [List.length_append, List.length_cons, List.length_nil]; omega), HV2⟩
                · first | exact rest_tail2 HBB.out | exact rest_tail1 HBB.out (by simp only [List.length_cons]; omega)
                · have hx := HX.out
                  rw [diffS, if_neg (show ¬ x1 < y1 by omega), if_pos hyx] at hx
                  rw [← hx]
                  simp
          · have hyx1 : decide (y1 < x1) = false := decide_eq_false hyx
            go_wp2
            go_region_held3 (fun w' => Vis w0 g xs w' ∧ w'.cell? p = some (.int .u64 x1) ∧ w'.cell? ⟨p.block, p.off + 1, none⟩ = some (.int .u64 x2) ∧ w'.cell? q = some (.int .u64 y1) ∧ w'.cell? ⟨q.block, q.off + 1, none⟩ = some (.int .u64 y2)) (first | exact ⟨vis_drew HV'.out, hp1, hp2, hq1, hq2⟩ | exact keepV (by assumption) hb | exact keepV (by assumption) (below_drew (Below.refl _ _))) (first | (go_at_call 41; refine (pairKey_c _ _ _).mono ?_; rintro e w' ⟨rfl, hb⟩))
            rename_i hS
            clear hb
            go_wp2
            go_region_held3 (fun w' => Vis w0 g xs w' ∧ w'.cell? p = some (.int .u64 x1) ∧ w'.cell? ⟨p.block, p.off + 1, none⟩ = some (.int .u64 x2) ∧ w'.cell? q = some (.int .u64 y1) ∧ w'.cell? ⟨q.block, q.off + 1, none⟩ = some (.int .u64 y2)) (first | exact ⟨vis_drew HV'.out, hp1, hp2, hq1, hq2⟩ | exact keepV (by assumption) hb | exact keepV (by assumption) (below_drew (Below.refl _ _))) (first | (go_at_call 41; refine (pairKey_c _ _ _).mono ?_; rintro e w' ⟨rfl, hb⟩))
            rename_i hS2
            clear hb
            have HS := Lib.hid hS2
            clear hS hS2 hp1 hp2 hq1 hq2
            go_wp2
            go_region_with ((go_at_call 42; refine (visAB_v (vis_drew HS.out.1) HG.out (by have := HN.out; have := HL.out; omega) HS.out.2.1 HS.out.2.2.1 HS.out.2.2.2.1 HS.out.2.2.2.2).mono ?_; rintro e w2 ⟨rfl, hv⟩; have HV2 := Lib.hid hv; clear hv))
            go_wp2
            by_cases c1 : c = 1 <;> by_cases d1 : d = 1
            all_goals (try subst c1)
            all_goals (try subst d1)
            all_goals go_quiet (fail)
            all_goals go_wp2
            all_goals
              go_roundg (gk - 2)
              case measure => have := HK.out; simp at this; omega
              case rel =>
                have hk := HK.out
                have hn := HN.out
                have hna := HNA.out
                have hnb := HNB.out
                have hcc := HC.out
                have hdd := HD.out
                simp only [List.length_cons] at hk hn hna hnb hcc hdd
                refine ⟨a, b, xs ++ (if (!(x2 == y2)) = true then [chgAB ⟨x1, x2⟩ ⟨y1, y2⟩] else []), _, _, _, _, _, _, rfl, rfl, Lib.hid (by omega), Lib.hid (by omega), Lib.hid (by omega), Lib.hid ?_, Lib.hid ?_, Lib.hid (by omega), Lib.hid (by omega), Lib.hid ?_, Lib.hid ?_, Lib.hid (vis_below HV2.out (pw_below_drewN (Below.refl _ _) _))⟩
                · first | exact rest_tail2 HA.out | exact rest_tail1 HA.out (by simp only [List.length_cons]; omega)
                · first | exact rest_tail2 HBB.out | exact rest_tail1 HBB.out (by simp only [List.length_cons]; omega)
                · have hx := HX.out
                  rw [diffS, if_neg (show ¬ x1 < y1 by omega), if_neg (show ¬ y1 < x1 by omega)] at hx
                  rw [← hx]
                  simp
                · split <;> simp only [List.length_append, List.length_cons, List.length_nil] <;> omega

theorem vis_start {w0 w : World} (h : Below w0.heap.size w0 w) : Vis w0 w.heap.size [] (w.alloc (.cells #[.slice none 0 0] 23)) :=
  ⟨h.alloc h.size _, _, heap_alloc_new w _, Kd.R_nil k30 30 _ _ _⟩
def dump_Diff.f (a b : List S82) : Option (List S30 × Int) :=
  if a.length + b.length < 4398046511104 then (if risingS a = true then (if risingS b = true then some (diffS a b, 0) else some ([], 52)) else some ([], 52)) else none

theorem right_c (A : Option Addr) (c : Nat) (l : List S82) (b : Bool) (w : World) (hA : Kd.C k82 w A l.length l) (hc : l.length ≤ c) (h : risingS l = b) :
    Calls Try.prog 39 #[.slice A l.length c] w fun e w' => e = .returned (.bool b) ∧ Below w.heap.size w w' := dump_right.calls A c l b w hA hc (by rw [← h]; rfl)

set_option maxHeartbeats 4000000 in
set_option maxRecDepth 100000 in
theorem dump_Diff.calls (A0 : Option Addr) (c0 : Nat) (l0 : List S82) (A1 : Option Addr) (c1 : Nat) (l1 : List S82) (r1 : List S30) (r2 : Int) (w : World) (hr0 : Kd.C k82 w A0 l0.length l0) (hc0 : l0.length ≤ c0) (hr1 : Kd.C k82 w A1 l1.length l1) (hc1 : l1.length ≤ c1) (h : dump_Diff.f l0 l1 = some (r1, r2)) :
    Calls Try.prog 11 #[.slice A0 l0.length c0, .slice A1 l1.length c1] w fun e w' => ∃ v0_ : Value, e = .returned (.tuple #[v0_, .int .i64 r2]) ∧ Kd.R k30 30 w' w.heap.size (fun _ => True) v0_ r1 ∧ Below w.heap.size w w' := by
  unfold dump_Diff.f at h
  split at h
  case isFalse => exact absurd h (by simp)
  rename_i hl
  have HL := Lib.hid hl
  have HA := Lib.hid hr0
  have HA' := Lib.hid hc0
  have HB := Lib.hid hr1
  have HB' := Lib.hid hc1
  clear hl hr0 hc0 hr1 hc1
  have hu23 := Try.underlying23
  by_cases h0 : risingS l0 = true
  · rw [if_pos h0] at h
    have H0 := Lib.hid h0
    clear h0
    by_cases h1 : risingS l1 = true
    · rw [if_pos h1] at h
      have H1 := Lib.hid h1
      clear h1
      obtain ⟨rfl, rfl⟩ : diffS l0 l1 = r1 ∧ (0 : Int) = r2 := by simpa using h
      clear h
      go_enter Try.func11, Try.ntmps11
      go_wp2_with fail
      go_at_call 39
      refine (right_c _ _ _ _ _ HA.out HA'.out H0.out).mono ?_
      rintro e w1 ⟨rfl, hb⟩
      have HW1 := Lib.hid hb
      clear hb
      go_wp2_with fail
      go_at_call 39
      refine (right_c _ _ _ _ _ (Kd.C_below HB.out HW1.out) HB'.out H1.out).mono ?_
      rintro e w2 ⟨rfl, hb⟩
      have HW2 := Lib.hid (HW1.out.trans (hb.mono HW1.out.size))
      clear hb
      go_wp2_with fail
      go_at_call 40
      refine (beside_c w _ w2.heap.size _ _ l0 l1 (HW2.out.alloc HW2.out.size _) HW2.out.size (vis_start HW2.out) ⟨_, _, rfl, HA'.out, HA.out⟩ ⟨_, _, rfl, HB'.out, HB.out⟩ HL.out).mono ?_
      rintro e w3 ⟨rfl, hv⟩
      obtain ⟨hb3, v, hx, hR⟩ := hv
      obtain ⟨A3, c3, rfl⟩ := Kd.R_slice hR
      have hc3 : w3.cell? ⟨w2.heap.size, 0, none⟩ = some (.slice A3 (diffS l0 l1).length c3) := by rw [blk_cell hx]; rfl
      have HB3 := Lib.hid hb3
      have HR3 := Lib.hid hR
      clear hb3 hx hR
      go_wp2
      go_ret2
      exact ⟨_, rfl, Kd.R_mono HR3.out (fun _ _ => trivial), HB3.out⟩
    · rw [if_neg h1] at h
      have H1 := Lib.hid (show risingS l1 = false by simpa using h1)
      clear h1
      obtain ⟨rfl, rfl⟩ : ([] : List S30) = r1 ∧ (52 : Int) = r2 := by simpa using h
      clear h
      go_enter Try.func11, Try.ntmps11
      go_wp2_with fail
      go_at_call 39
      refine (right_c _ _ _ _ _ HA.out HA'.out H0.out).mono ?_
      rintro e w1 ⟨rfl, hb⟩
      have HW1 := Lib.hid hb
      clear hb
      go_wp2_with fail
      go_at_call 39
      refine (right_c _ _ _ _ _ (Kd.C_below HB.out HW1.out) HB'.out H1.out).mono ?_
      rintro e w2 ⟨rfl, hb⟩
      have HW2 := Lib.hid (HW1.out.trans (hb.mono HW1.out.size))
      clear hb
      go_wp2_with fail
      go_ret2
      exact ⟨_, rfl, Kd.R_nil k30 30 _ _ _, HW2.out⟩
  · rw [if_neg h0] at h
    have H0 := Lib.hid (show risingS l0 = false by simpa using h0)
    clear h0
    obtain ⟨rfl, rfl⟩ : ([] : List S30) = r1 ∧ (52 : Int) = r2 := by simpa using h
    clear h
    go_enter Try.func11, Try.ntmps11
    go_wp2_with fail
    go_at_call 39
    refine (right_c _ _ _ _ _ HA.out HA'.out H0.out).mono ?_
    rintro e w1 ⟨rfl, hb⟩
    have HW1 := Lib.hid hb
    clear hb
    go_wp2_with fail
    go_ret2
    exact ⟨_, rfl, Kd.R_nil k30 30 _ _ _, HW1.out⟩
end Go.Proofs.Ythblincfnfpgbaa.Q
