import Derived.Test.YtbpkepcbmenbcaaNo4
import Derived.StillTailTactics
namespace Go.Proofs.Ytbpkepcbmenbcaa.Ar
open Go.RowKit Go.Proofs.YtbpkepcbmenbcaaW.PrintWords Go.Proofs.YtbpkepcbmenbcaaW.PrintLast Go.Proofs.YtbpkepcbmenbcaaW.PrintMore
set_option linter.unusedVariables false
set_option linter.unusedSimpArgs false
def wordsOf (n : Nat) : List Int := (List.range n).map fun j => ((1 + 2 * j : Nat) : Int) * 2 + 1
theorem wordsOf_len (n : Nat) : (wordsOf n).length = n := by simp [wordsOf]
theorem wordsOf_succ (n : Nat) : wordsOf (n + 1) = wordsOf n ++ [((1 + 2 * n : Nat) : Int) * 2 + 1] := by simp [wordsOf, List.range_succ]
theorem wordsOf_at (n j : Nat) (h : j < n) : rd (wordsOf n) (j : Int) = ((1 + 2 * j : Nat) : Int) * 2 + 1 := by
  rw [rd_nat, List.getD_eq_getElem?_getD]
  simp [wordsOf, h]
theorem num_at {w : World} {e base n c : Nat} {ok : Nat → Prop} {A : Option Addr} {xs : List Int} {k : IntKind} (h : (Kd.int k).R e w base ok (.slice A n c) xs) (y : Int) (h0 : 0 ≤ y) (hy : y < n) : ∃ ad, A = some ad ∧ w.cell? (ad.add y.toNat) = some (.int k (rd xs y)) := by
  obtain ⟨rfl, -, hC⟩ := Kd.R_reads' h
  exact ReadsOf.at_ (Kd.reads_of_C (enc := Value.int k) (d := 0) (h1 := fun _ => rfl) hC) y h0 hy
theorem keepL {w5 w w' : World} {a b : Addr} {x y : Value} (h : Below w5.heap.size w5 w ∧ w.cell? a = some x ∧ w.cell? b = some y) (hb : Below w.heap.size w w') : Below w5.heap.size w5 w' ∧ w'.cell? a = some x ∧ w'.cell? b = some y :=
  ⟨h.1.trans (hb.mono h.1.size), pw_cell_below hb h.2.1, pw_cell_below hb h.2.2⟩
theorem lookpair_S {w5 w : World} {g : Nat} {a at_ key pk pv : Int} {P : Prop} (hL : LookAt w5 g a at_ key pk pv) (h : Below w5.heap.size w5 w ∧ P) :
    Calls Try.prog 17 #[.pointer (some ⟨g, 0, none⟩)] w fun e w' => e = .returned (.agg #[.int .u64 pk, .int .u64 pv]) ∧ Below w.heap.size w w' :=
  lookpair_c g a at_ key pk pv w (blk_kept hL (Kept.of_below h.1 (fun _ => False)) (fun h => h))
set_option maxRecDepth 100000 in
set_option maxHeartbeats 16000000 in
theorem back_c (A : Option Addr) (c : Nat) (l : List SPair) (w : World) (hA : Kd.C kPair w A l.length l) (hc : l.length ≤ c) :
    Calls Try.prog 3 #[.slice A l.length c] w fun e w' => e = .returned (.bool true) ∧ Below w.heap.size w w' := by
  have HA := Lib.hid hA
  have hll : (l.length : Int) ≤ 9223372036854775807 := by have := hA.2.1; omega
  have HLL := Lib.hid hll
  clear hA hll
  go_enter Try.func3, Try.ntmps3
  go_wp2_with fail
  go_at_call 7
  refine (live_c w).mono ?_
  rintro e w0 ⟨rfl, q0⟩
  have B0 := Lib.hid q0
  clear q0
  go_wp2_with fail
  go_at_call 8
  refine (new_c 1000 w0 (by omega) (by omega)).mono ?_
  rintro e w1 ⟨gm, rfl, q1, q2⟩
  have M1 := Lib.hid q1
  have B1 := Lib.hid (B0.out.trans (q2.mono B0.out.size))
  have HB0 : Hid (w.heap.size ≤ w0.heap.size) := Lib.hid B0.out.size
  have HB1 : Hid (w0.heap.size ≤ w1.heap.size) := Lib.hid q2.size
  clear q1 q2
  go_wp2_with fail
  go_at_call 9
  refine (view_c gm 0 w1).mono ?_
  rintro e w2 ⟨rfl, q1, q2⟩
  have M2 := Lib.hid ((M1.out.bound.kept (Kept.of_below q2 (fun _ => False)) (fun _ _ h => h)).mono (S' := fun k => w0.heap.size ≤ k ∧ k < w2.heap.size) (fun k hk => ⟨hk.1, by have := q2.size; omega⟩))
  have V2 := Lib.hid q1
  have B2 := Lib.hid (B1.out.trans (q2.mono B1.out.size))
  have hgv : w1.heap.size < w2.heap.size := blk_lt q1
  obtain ⟨gv, hgv2⟩ : ∃ gv, gv = w1.heap.size := ⟨_, rfl⟩
  have hbv : w0.heap.size ≤ gv := by rw [hgv2]; exact HB1.out
  rw [← hgv2] at V2 hgv ⊢
  have HGV := Lib.hid hgv
  have HBV := Lib.hid hbv
  clear q1 q2 M1 B1 hgv2 hgv hbv HB1
  obtain ⟨n, hn⟩ : ∃ n, n = min l.length 400 := ⟨_, rfl⟩
  have HN : Hid (n ≤ 400 ∧ n ≤ l.length ∧ (n = l.length ∨ n = 400)) := Lib.hid ⟨by omega, by omega, by omega⟩
  obtain ⟨base, hbase⟩ : ∃ b, b = w0.heap.size := ⟨_, rfl⟩
  rw [← hbase] at M2 HBV HB0
  have HBS : Hid (base ≤ w2.heap.size) := Lib.hid (by have := HGV.out; have := HBV.out; omega)
  clear hn hbase B0
  go_wp2_with fail
  go_loopg [6, 7] n (fun kq v6 v7 w' => ∃ (x : Int) (i : Nat) (s : Ms) (S : Nat → Prop), v7 = .int .i64 x ∧ 0 ≤ x ∧ Hid (x = i) ∧ Hid (kq + i = n) ∧ Hid (NB l i s) ∧ Hid (MemW w' base S gm s) ∧ Hid (ViewAt w' gv gm 0 i) ∧ Hid (S gv) ∧ Hid (∀ k, S k → k < w'.heap.size) ∧ Hid ((Kd.int .u64).R 33 w' base (fun k => ¬ S k) v6 (wordsOf i)) ∧ Hid (Below w.heap.size w w') ∧ Hid (s.tr.length = i) ∧ Hid (base ≤ w'.heap.size))
  case atStart => exact ⟨0, 0, Ms.new 1000, _, rfl, by omega, Lib.hid rfl, Lib.hid rfl, Lib.hid (NB.new l), M2, V2, Lib.hid ⟨HBV.out, HGV.out⟩, Lib.hid (fun k hk => hk.2), Lib.hid (Kd.R_nil _ _ _ _ _), B2, Lib.hid rfl, HBS⟩
  case round =>
    clear M2 V2 B2 HGV HBS
    obtain ⟨x, i, s, S, rfl, hx0, HXI, HK, HNB, HM, HV, HSG, HSB, HW, HB, HTR, HBS⟩ := hrel
    obtain ⟨G, hG⟩ : ∃ G, G = gk := ⟨_, rfl⟩
    subst hG
    by_cases hlt : x < (l.length : Int) ∧ x < 400
    · obtain ⟨hl1, hl2⟩ := hlt
      obtain ⟨ad, rfl, c1, c2⟩ := atPair (Kd.C_below HA.out HB.out) x hx0 hl1
      go_wp2_with fail
      go_still_tail 10, (by kernel_rfl)
      change wpList _ _ _ _ _ wr.drew
      have M0 := Lib.hid (HM.out.kept (w1 := wr.drew) (Kept.drew (Kept.refl _ (fun _ => False))) (fun _ _ h => h))
      have V0 : Hid (ViewAt wr.drew gv gm 0 i) := Lib.hid HV.out
      have W0 := Lib.hid (Kd.R_kept HW.out (W2 := wr.drew) (Kept.drew (Kept.refl _ (fun _ => False))) (fun _ _ h => h))
      have B0 : Hid (Below w.heap.size w wr.drew) := Lib.hid (below_drew HB.out)
      have SB0 : Hid (∀ k, S k → k < wr.drew.heap.size) := Lib.hid HSB.out
      have BS0 : Hid (base ≤ wr.drew.heap.size) := Lib.hid HBS.out
      obtain ⟨wd, hwd⟩ : ∃ wd, wd = wr.drew := ⟨_, rfl⟩
      rw [← hwd] at M0 V0 W0 B0 SB0 BS0 ⊢
      clear HM HV HW HB HSB HBS hwd
      go_wp2_with fail
      go_at_call 10
      refine (newleaf_c _ _ wd).mono ?_
      rintro e w3 ⟨rfl, q1, q2⟩
      have hk : Kept wd w3 (fun _ => False) := Kept.of_below q2 _
      obtain ⟨g, hg⟩ : ∃ g, g = wd.heap.size := ⟨_, rfl⟩
      have hg3 : g < w3.heap.size := by rw [hg]; exact blk_lt q1
      have hgS : ¬ S g := fun h => by have := SB0.out g h; omega
      have M3 := Lib.hid (M0.out.kept hk (fun _ _ h => h))
      have V3 : Hid (ViewAt w3 gv gm 0 i) := Lib.hid (blk_kept V0.out hk (fun h => h))
      have W3 : Hid ((Kd.int .u64).R 33 w3 base (fun k => ¬ S k ∧ k < g) u6 (wordsOf i)) := Lib.hid (Kd.R_kept (Kd.R_mono (Kd.R_bound W0.out) (fun k hk => ⟨hk.1, by rw [hg]; exact hk.2.2.1⟩)) hk (fun _ _ h => h))
      have B3 := Lib.hid (B0.out.trans (q2.mono B0.out.size))
      have hbg : base ≤ g := by rw [hg]; exact BS0.out
      rw [← hg] at q1 ⊢
      have L3 := Lib.hid q1
      have HG3 := Lib.hid hg3
      have HGS := Lib.hid hgS
      have HBG := Lib.hid hbg
      clear q1 q2 M0 V0 W0 B0 SB0 BS0 hk hg hg3 hgS hbg c1 c2
      go_wp2_with fail
      go_at_call 11
      have hi4 : i < 400 := by have := HXI.out; omega
      refine (leafstep_c base S g gv gm i s 0 _ _ w3 M3.out V3.out HSG.out HBV.out (by omega) (by have := HTR.out; omega) L3.out HGS.out HBG.out).mono ?_
      rintro e w4 ⟨rfl, q1, q2, q3, q4, q5⟩
      rw [HNB.out.addr hi4] at q3
      have q3' : LeafAt w4 g (((1 + 2 * i : Nat) : Int) * 2 + 1) 0 (rdPair l x).key (rdPair l x).value true := by
        have e1 : leafW ((1 + 2 * i : Nat) : Int) = ((1 + 2 * i : Nat) : Int) * 2 + 1 := if_neg (by omega)
        have e2 : leafE ((1 + 2 * i : Nat) : Int) = 0 := if_neg (by omega)
        rw [e1, e2] at q3
        exact q3
      have hxl : rdPair l x = l.getD i zPair := by have := HXI.out; unfold rdPair; rw [show x.toNat = i by omega]
      have N4 := Lib.hid (HNB.out.step hi4 0 (rdPair l x).key (rdPair l x).value (by rw [hxl]) (by rw [hxl]))
      have T4 : Hid ((s.alloc 0 [(rdPair l x).key, (rdPair l x).value]).tr.length = i + 1) := Lib.hid (by
        rw [(Ms.alloc_yes (HNB.out.fits hi4 _ _) 0).2]
        simp [HTR.out])
      have M4 : Hid (MemW w4 base (fun k => (S k ∨ w3.heap.size ≤ k) ∧ k < w4.heap.size) gm (s.alloc 0 [(rdPair l x).key, (rdPair l x).value])) := Lib.hid (q1.bound.mono (fun k hk => ⟨hk.1, hk.2.2⟩))
      have V4 := Lib.hid q2
      have L4 := Lib.hid q3'
      have W4 : Hid ((Kd.int .u64).R 33 w4 base (fun k => ¬ ((S k ∨ w3.heap.size ≤ k) ∧ k < w4.heap.size)) u6 (wordsOf i)) := Lib.hid (Kd.R_mono (Kd.R_kept W3.out q4 (fun k hk h => h.elim hk.1 (fun h => by omega))) (fun k hk h => h.1.elim hk.1 (fun h => by have := HG3.out; omega)))
      have B4 := Lib.hid (B3.out.trans (q5.mono HB0.out))
      have S4 : Hid (S gv ∧ gv < w4.heap.size) := Lib.hid ⟨HSG.out, blk_lt q2⟩
      have BS4 : Hid (base ≤ w4.heap.size) := Lib.hid (by have := HBV.out; have := blk_lt q2; omega)
      clear q1 q2 q3 q3' q4 q5 M3 V3 W3 B3 L3 HNB HTR hxl
      go_wp2_with fail
      go_at_call 12
      refine (leaferr_c _ _ _ _ _ _ _ L4.out).mono ?_
      rintro e w' ⟨rfl, rfl⟩
      go_wp2_with fail
      go_at_call 13
      refine (leafword_c _ _ _ _ _ _ _ L4.out).mono ?_
      rintro e w' ⟨rfl, rfl⟩
      clear L4
      go_wp2_with (first | (at_builtin; refine Kd.R_append (Kd.int .u64) (w0 := w4) base rfl (.tmp 53) (.tmp 56) 30 33 (.int .u64 0) 8 rfl Try.underlying30 infoU64 rfl (by decide) (by omega) u6 (wordsOf i) (((1 + 2 * i : Nat) : Int) * 2 + 1) [.int .u64 (((1 + 2 * i : Nat) : Int) * 2 + 1)] (fun k => ¬ ((S k ∨ w3.heap.size ≤ k) ∧ k < w4.heap.size)) (fun _ => False) rfl rfl rfl (fun _ hk => hk.elim) (fun k hk h => by omega) W4.out (Below.refl _ _) BS4.out (by rw [wordsOf_len]; omega) ?_; intro v1 w5 ho hb hg hat; obtain ⟨A1, c1, e1⟩ := Kd.R_slice ho; subst e1; simp only [List.length_append, List.length_cons, List.length_nil, Nat.zero_add] at ho; have HO := Lib.hid ho; have HB2 := Lib.hid hb; have HG2 := Lib.hid hg; clear ho hb hg hat))
      have hk5 : Kept w4 w5 (fun k => u6.ownBlock = some k) := Kept.of_grown HG2.out (Kept.refl _ _) (fun k hk => .inl hk)
      have hno : ∀ k, ((S k ∨ w3.heap.size ≤ k) ∧ k < w4.heap.size) → ¬ u6.ownBlock = some k := fun k hS ho => W4.out.1 k ho hS
      have HGP : Hid (0 < G) := Lib.hid (by have h5 := HK.out; have h6 := HXI.out; have h7 := HN.out; omega)
      have HK5 := Lib.hid hk5
      have HNO := Lib.hid hno
      clear hk5 hno
      go_roundg (G - 1)
      case measure => have := HGP.out; omega
      case rel =>
        exact ⟨x + 1, i + 1, _, _, rfl, by omega, Lib.hid (by have := HXI.out; omega), Lib.hid (by have h5 := HK.out; have h6 := HGP.out; omega), N4, Lib.hid (M4.out.kept HK5.out HNO.out), Lib.hid (blk_kept V4.out HK5.out (HNO.out gv ⟨.inl S4.out.1, S4.out.2⟩)), Lib.hid ⟨.inl S4.out.1, S4.out.2⟩, Lib.hid (fun k hk => by have := HK5.out.1; omega), Lib.hid (by rw [wordsOf_succ]; exact HO.out), Lib.hid (B4.out.trans (HB2.out.mono HB0.out)), T4, Lib.hid (by have h5 := BS4.out; have h6 := HK5.out.1; omega)⟩
    · have hin : i = n := by
        have h5 := HN.out; have h6 := HK.out; have h7 := HXI.out
        rcases h5.2.2 with h8 | h8 <;> omega
      have hsp : (l.length : Int) ≤ x ∨ (x < l.length ∧ 400 ≤ x) := by
        by_cases h8 : x < (l.length : Int)
        · exact .inr ⟨h8, by omega⟩
        · exact .inl (by omega)
      have hil : i ≤ l.length := by have := HN.out; omega
      have HI4 : Hid (i ≤ 400) := Lib.hid (by have := HN.out; omega)
      have HIL := Lib.hid hil
      obtain ⟨A6, c6, rfl⟩ := Kd.R_slice HW.out
      have hwl : (wordsOf i).length = i := wordsOf_len i
      have HW6 : Hid ((Kd.int .u64).R 33 wr base (fun k => ¬ S k) (.slice A6 i c6) (wordsOf i)) := Lib.hid (by have := HW.out; rw [hwl] at this; exact this)
      rw [hwl]
      have hi63 : (i : Int) ≤ 400 := by have := HI4.out; omega
      clear hlt HXI HK HW hin hil hwl
      rcases hsp with h1 | ⟨h1, h2⟩
      all_goals
        go_wp2_with fail
        go_loopg [9] i (fun kq v9 w' => ∃ (y : Int) (j : Nat) (s' : Ms) (S' : Nat → Prop), v9 = .int .i64 y ∧ 0 ≤ y ∧ Hid (y = j) ∧ Hid (kq + j = i) ∧ Hid (NB l i s') ∧ Hid (MemW w' base S' gm s') ∧ Hid (ViewAt w' gv gm 0 (i + 2 * j)) ∧ Hid (S' gv) ∧ Hid (∀ k, S' k → k < w'.heap.size) ∧ Hid ((Kd.int .u64).R 33 w' base (fun k => ¬ S' k) (.slice A6 i c6) (wordsOf i)) ∧ Hid (Below w.heap.size w w') ∧ Hid (s'.tr.length = i + 2 * j) ∧ Hid (base ≤ w'.heap.size))
        case atStart => exact ⟨0, 0, s, S, rfl, by omega, Lib.hid rfl, Lib.hid rfl, HNB, HM, HV, HSG, HSB, HW6, HB, HTR, HBS⟩
        case round =>
          clear HNB HM HV HSG HSB HW6 HB HTR HBS
          obtain ⟨y, j, s', S', rfl, hy0, HYJ, HK2, HNB, HM, HV, HSG, HSB, HW6, HB, HTR, HBS⟩ := hrel
          by_cases hy : y < (i : Int)
          · obtain ⟨adl, rfl, p1, p2⟩ := atPair (Kd.C_below HA.out HB.out) y hy0 (by have := HIL.out; omega)
            obtain ⟨adw, rfl, cw⟩ := num_at HW6.out y hy0 hy
            have hj : y = (j : Int) := HYJ.out
            have hwj : rd (wordsOf i) y = ((1 + 2 * j : Nat) : Int) * 2 + 1 := by rw [hj]; exact wordsOf_at i j (by omega)
            rw [hwj] at cw
            clear hwj hj
            have hk1 : rd s'.cells (1 + 2 * (j : Int)) = (rdPair l y).key := by
              have h5 := (HNB.out.vals j (by have := HYJ.out; omega)).1
              have h6 := HYJ.out
              rw [show ((1 + 2 * j : Nat) : Int) = 1 + 2 * (j : Int) by omega] at h5
              unfold rdPair
              rw [show y.toNat = j by omega]
              exact h5
            have hk2 : rd s'.cells (2 + 2 * (j : Int)) = (rdPair l y).value := by
              have h5 := (HNB.out.vals j (by have := HYJ.out; omega)).2
              have h6 := HYJ.out
              rw [show ((2 + 2 * j : Nat) : Int) = 2 + 2 * (j : Int) by omega] at h5
              unfold rdPair
              rw [show y.toNat = j by omega]
              exact h5
            have hj4 : (j : Int) < 400 := by have := HYJ.out; have := HI4.out; omega
            have HK1 := Lib.hid hk1
            have HKK2 := Lib.hid hk2
            clear hk1 hk2
            go_wp2_with fail
            go_at_call 14
            refine (split1_c (1 + 2 * (j : Int)) _ _ rfl (by omega) (by omega)).mono ?_
            rintro e w' ⟨rfl, rfl⟩
            go_wp2_with fail
            go_at_call 15
            refine (newlook_c (1 + 2 * (j : Int)) wr).mono ?_
            rintro e w3 ⟨rfl, q1, q2⟩
            have hk : Kept wr w3 (fun _ => False) := Kept.of_below q2 _
            obtain ⟨q, hq⟩ : ∃ q, q = wr.heap.size := ⟨_, rfl⟩
            have hq3 : q < w3.heap.size := by rw [hq]; exact blk_lt q1
            have hqS : ¬ S' q := fun h => by have := HSB.out q h; omega
            have M3 := Lib.hid (HM.out.kept hk (fun _ _ h => h))
            have V3 : Hid (ViewAt w3 gv gm 0 (i + 2 * j)) := Lib.hid (blk_kept HV.out hk (fun h => h))
            have W3 : Hid ((Kd.int .u64).R 33 w3 base (fun k => ¬ S' k ∧ k < q) (.slice (some adw) i c6) (wordsOf i)) := Lib.hid (Kd.R_kept (Kd.R_mono (Kd.R_bound HW6.out) (fun k hk => ⟨hk.1, by rw [hq]; exact hk.2.2.1⟩)) hk (fun _ _ h => h))
            have B3 := Lib.hid (HB.out.trans (q2.mono HB.out.size))
            have hbq : base ≤ q := by rw [hq]; exact HBS.out
            rw [← hq] at q1 ⊢
            have K3 := Lib.hid q1
            have HQ3 := Lib.hid hq3
            have HQS := Lib.hid hqS
            have HBQ := Lib.hid hbq
            clear q1 q2 HM HV HW6 HB HSB HBS hk hq hq3 hqS hbq p1 p2 cw
            go_wp2_with fail
            go_at_call 16
            refine (lookstep0_c base S' q gv gm (i + 2 * j) s' 0 (1 + 2 * (j : Int)) w3 M3.out V3.out HSG.out HBV.out (by omega) (by have := HTR.out; omega) K3.out HQS.out HBQ.out (by omega)).mono ?_
            rintro e w4 ⟨rfl, q1, q2, q3, q4, q5⟩
            rw [HK1.out] at q3
            have M4 : Hid (MemW w4 base (fun k => (S' k ∨ w3.heap.size ≤ k) ∧ k < w4.heap.size) gm (s'.load 0 (1 + 2 * (j : Int)))) := Lib.hid (q1.bound.mono (fun k hk => ⟨hk.1, hk.2.2⟩))
            have V4 := Lib.hid q2
            have K4 := Lib.hid q3
            have W4 : Hid ((Kd.int .u64).R 33 w4 base (fun k => ¬ S' k ∧ k < q) (.slice (some adw) i c6) (wordsOf i)) := Lib.hid (Kd.R_kept W3.out q4 (fun k hk h => h.elim hk.1 (fun h => by omega)))
            have B4 := Lib.hid (B3.out.trans (q5.mono HB0.out))
            have S4 : Hid (S' gv ∧ gv < w4.heap.size) := Lib.hid ⟨HSG.out, blk_lt q2⟩
            have H34 : Hid (w3.heap.size ≤ w4.heap.size) := Lib.hid q4.1
            clear q1 q2 q3 q4 q5 M3 V3 W3 B3 K3
            go_wp2_with fail
            go_at_call 16
            refine (lookstep1_c base _ q gv gm (i + 2 * j + 1) (s'.load 0 (1 + 2 * (j : Int))) 0 (1 + 2 * (j : Int)) (2 + 2 * (j : Int)) _ w4 M4.out V4.out ⟨.inl S4.out.1, S4.out.2⟩ HBV.out (by omega) (by simp [Ms.load, HTR.out]; omega) K4.out (fun h => h.1.elim HQS.out (fun h => by have := HQ3.out; omega)) HBQ.out (by omega) (by rw [show 1 + 2 * (j : Int) + 1 = 2 + 2 * (j : Int) by omega]; exact wraps_u64 _ (by omega) (by omega))).mono ?_
            rintro e w5 ⟨rfl, q1, q2, q3, q4, q5⟩
            rw [show rd (s'.load 0 (1 + 2 * (j : Int))).cells (2 + 2 * (j : Int)) = rd s'.cells (2 + 2 * (j : Int)) from rfl, HKK2.out] at q3
            have M5 : Hid (MemW w5 base (fun k => ((S' k ∨ w3.heap.size ≤ k) ∧ k ≠ q) ∧ k < w5.heap.size) gm ((s'.load 0 (1 + 2 * (j : Int))).load 0 (2 + 2 * (j : Int)))) := Lib.hid (q1.bound.mono (fun k hk => ⟨⟨hk.1.elim (fun h => h.1) (fun h => .inr (Nat.le_trans H34.out h)), fun e => hk.1.elim (fun h => h.1.elim (fun h2 => HQS.out (e ▸ h2)) (fun h => by have := HQ3.out; omega)) (fun h => by have := HQ3.out; have := H34.out; omega)⟩, hk.2.2⟩))
            have V5 := Lib.hid q2
            have K5 := Lib.hid q3
            have W5 : Hid ((Kd.int .u64).R 33 w5 base (fun k => ¬ S' k ∧ k < q) (.slice (some adw) i c6) (wordsOf i)) := Lib.hid (Kd.R_kept W4.out q4 (fun k hk h => h.elim (fun h => h.1.elim hk.1 (fun h => by have := HQ3.out; omega)) (fun h => by omega)))
            have B5 := Lib.hid (B4.out.trans (q5.mono HB0.out))
            have S5 : Hid (S' gv ∧ gv ≠ q ∧ gv < w5.heap.size) := Lib.hid ⟨HSG.out, fun e => HQS.out (e ▸ HSG.out), blk_lt q2⟩
            have BS5 : Hid (base ≤ w5.heap.size) := Lib.hid (by have := HBV.out; have := blk_lt q2; omega)
            clear q1 q2 q3 q4 q5 M4 V4 W4 K4 B4
            obtain ⟨ad2, e2, p1, p2⟩ := atPair (Kd.C_below HA.out B5.out) y hy0 (by have := HIL.out; omega)
            obtain rfl := Option.some.inj e2
            have hal : adl.block < w5.heap.size := by have := World.block_lt_of_cell? w5 _ p1; rw [add_block] at this; exact this
            have hyl : y < (l.length : Int) := by have := HIL.out; omega
            go_wp2_with fail
            go_region_held3 (fun w' => Below w5.heap.size w5 w' ∧ w'.cell? (adl.add (y.toNat * 2)) = some (.int .u64 (rdPair l y).key) ∧ w'.cell? ⟨(adl.add (y.toNat * 2)).block, (adl.add (y.toNat * 2)).off + 1, none⟩ = some (.int .u64 (rdPair l y).value)) (first | exact ⟨below_drew (Below.refl _ _), p1, p2⟩ | exact keepL (by assumption) hb) (first | (go_at_call 17; refine (lookpair_S K5.out (by assumption)).mono ?_; rintro e w' ⟨rfl, hb⟩))
            rename_i hS
            have HS5 := Lib.hid hS.1
            clear hS hb p1 p2 hal
            have hk5 : Kept w5 w' (fun _ => False) := Kept.of_below HS5.out _
            have HKK5 := Lib.hid hk5
            clear hk5
            go_wp2_with fail
            have HGK : Hid (0 < gk) := Lib.hid (by have h5 := HK2.out; have h6 := HYJ.out; omega)
            go_roundg (gk - 1)
            case measure => have := HGK.out; omega
            case rel =>
              exact ⟨y + 1, j + 1, _, _, rfl, by omega, Lib.hid (by have := HYJ.out; omega), Lib.hid (by have h5 := HK2.out; have h6 := HGK.out; omega), Lib.hid ((HNB.out.load 0 _).load 0 _), Lib.hid (M5.out.kept HKK5.out (fun _ _ h => h)), Lib.hid (by have := V5.out; rw [show i + 2 * (j + 1) = i + 2 * j + 1 + 1 by omega]; exact blk_kept this HKK5.out (fun h => h)), Lib.hid ⟨⟨.inl S5.out.1, S5.out.2.1⟩, S5.out.2.2⟩, Lib.hid (fun k hk => by have h5 := HKK5.out.1; have h6 := hk.2; omega), Lib.hid (Kd.R_mono (Kd.R_kept W5.out HKK5.out (fun _ _ h => h)) (fun k hk h => h.1.1.elim hk.1 (fun h => by have h5 := HQ3.out; have h6 := hk.2; omega))), Lib.hid (B5.out.trans (HS5.out.mono B5.out.size)), Lib.hid (by simp [Ms.load, HTR.out]; omega), Lib.hid (Nat.le_trans BS5.out HKK5.out.1)⟩
          · go_wp2_with fail
            go_ret
            exact ⟨rfl, HB.out⟩
end Go.Proofs.Ytbpkepcbmenbcaa.Ar
