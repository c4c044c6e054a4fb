import Derived.Test.YthblincfnfpgbaaQxAg
import Derived.Lib.Hide
namespace Go.Proofs.Ythblincfnfpgbaa.Q
open Go.RowKit Go.Proofs.YthblincfnfpgbaaW.PrintWords Go.Proofs.YthblincfnfpgbaaW.PrintLast Go.Proofs.YthblincfnfpgbaaW.PrintMore
set_option linter.unusedVariables false
set_option linter.unusedSimpArgs false
def mk5 (i : Nat) : Int := 48 + (i : Int) % 200
/-- The rows, the first i of them written over. -/
def over5 (X : Nat → List Int) (i : Nat) : Nat → List Int := fun j => if j < i then List.replicate (X j).length (mk5 j) else X j
theorem info48 : (Try.prog.info? 48).map (fun i => (i.zero, i.size, i.bytes)) = some (some (.slice none 0 0), 1, 24) := by kernel_rfl
set_option maxHeartbeats 16000000 in
set_option maxRecDepth 100000 in
theorem aloneB (g : Nat) (cs : Array Value) (A0 : Option Addr) (c0 : Nat) (hs : List Hdr) (X : Nat → List Int) (base : Nat) (w : World) (hB : BookF w base g 0 48 cs (.slice A0 hs.length c0) hs) (hF : Fam (Kd.int .u8) 5 w base hs X) (hsl : hs.length < 1099511627776) (hX : ∀ i, (X i).length < 1099511627776) (hbase : base ≤ w.heap.size) (hng : ¬ Blk hs g) (hno : ∀ k, (Value.slice A0 hs.length c0).ownBlock = some k → ¬ Blk hs k) :
    Calls Try.prog 65 #[.pointer (some ⟨g, 0, none⟩)] w fun e w' => e = .returned (.bool true) ∧ Kept w w' (Blk hs) ∧ Below base w w' := by
  have HB0 := Lib.hid hB
  have HF0 := Lib.hid hF
  have HSL := Lib.hid hsl
  have HX := Lib.hid hX
  have HBA := Lib.hid hbase
  have HNG := Lib.hid hng
  have HNO := Lib.hid hno
  clear hB hF hsl hX hbase hng hno
  have HLT0 : Hid (∀ k, Blk hs k → k < w.heap.size) := Lib.hid (by
    rintro k ⟨h, hm, hk⟩
    obtain ⟨j, hj⟩ := List.mem_iff_getElem?.1 hm
    exact ((Kd.own_of_R (HF0.out.row j h hj)).lt k hk).2)
  have HGL : Hid (g < w.heap.size) := Lib.hid (blk_lt HB0.out.blk)
  have HOL : Hid (∀ k, (Value.slice A0 hs.length c0).ownBlock = some k → k < w.heap.size) := Lib.hid (fun k hk => ((Kd.own_of_R HB0.out.row).lt k hk).2)
  have hc0 := HB0.out.cell
  go_enter Try.func65, Try.ntmps65
  go_wp2_with fail
  clear hc0
  go_loopg [3] hs.length (fun kq v w' => ∃ (x : Int) (i : Nat), v = .int .i64 x ∧ 0 ≤ x ∧ Hid (x = i) ∧ Hid (kq + i = hs.length) ∧ Hid (BookF w' base g 0 48 cs (.slice A0 hs.length c0) hs) ∧ Hid (Fam (Kd.int .u8) 5 w' base hs (over5 X i)) ∧ Hid (Kept w w' (Blk hs)) ∧ Hid (Below base w w'))
  case atStart => exact ⟨0, 0, rfl, by omega, Lib.hid rfl, Lib.hid rfl, HB0, Lib.hid (by have h : over5 X 0 = X := (by funext j; unfold over5; rw [if_neg (by omega)]); rw [h]; exact HF0.out), Lib.hid (Kept.refl _ _), Lib.hid (Below.refl _ _)⟩
  case round =>
    obtain ⟨x, i, rfl, hx0, HXI, HK, HBK, HFA, HKE, HBE⟩ := hrel
    obtain ⟨G, hG⟩ : ∃ G, G = gk := ⟨_, rfl⟩
    subst hG
    have hc := HBK.out.cell
    by_cases hlt : x < (hs.length : Int)
    · obtain ⟨ad, ⟨B, n, c⟩, rfl, hhd, hcell⟩ := hdr_at HBK.out.row x hx0 hlt
      have hxi : x.toNat = i := by have := HXI.out; omega
      have hhd' : hs[i]? = some (B, n, c) := by rw [← hxi]; exact hhd
      have HHD := Lib.hid hhd'
      obtain ⟨hn, hnc⟩ := HFA.out.len hhd'
      have hov : over5 X i i = X i := by unfold over5; rw [if_neg (by omega)]
      rw [hov] at hn
      simp only at hn hnc
      have HN := Lib.hid hn
      have hn40 : (n : Int) < 1099511627776 := by have := HX.out i; omega
      clear hhd hhd' hn hnc
      go_wp2_with fail
      clear hc hcell
      go_loopg [4] n (fun kq v w' => ∃ (y : Int) (k : Nat), v = .int .i64 y ∧ 0 ≤ y ∧ Hid (y = k) ∧ Hid (kq + k = n) ∧ Hid (BookF w' base g 0 48 cs (.slice (some ad) hs.length c0) hs) ∧ Hid (Fam (Kd.int .u8) 5 w' base hs (upd (over5 X i) i (List.replicate k (mk5 i) ++ (X i).drop k))) ∧ Hid (Kept w w' (Blk hs)) ∧ Hid (Below base w w'))
      case atStart => exact ⟨0, 0, rfl, by omega, Lib.hid rfl, Lib.hid rfl, HBK, Lib.hid (by rw [List.replicate_zero, List.drop_zero, List.nil_append, ← hov, upd_id]; exact HFA.out), HKE, HBE⟩
      case round =>
        clear HBK HFA HKE HBE
        obtain ⟨y, k, rfl, hy0, HYK, HK2, HBK, HFA, HKE, HBE⟩ := hrel
        have hc := HBK.out.cell
        obtain ⟨ad', hd', e1, hhd', hcell⟩ := hdr_at HBK.out.row x hx0 hlt
        obtain rfl := Option.some.inj e1
        rw [hxi, HHD.out] at hhd'
        obtain rfl := Option.some.inj hhd'
        simp only at hcell
        clear hhd' e1
        by_cases hlt2 : y < (n : Int)
        · have hR := HFA.out.row i _ HHD.out
          rw [upd_same] at hR
          obtain ⟨b, cap, e2, hb0, hb1, -⟩ := Kd.R_form hR (by have := HN.out; have := HYK.out; simp; omega)
          injection e2 with e2 e3 e4
          subst e2
          have HR := Lib.hid hR
          have HB0 := Lib.hid hb0
          have hlen : (List.replicate k (mk5 i) ++ (X i).drop k).length = n := by have := HN.out; have := HYK.out; simp; omega
          obtain ⟨hc1, hc2⟩ := Kd.R_celln (0 : Int) HR.out y hy0 hlt2
          have HLEN := Lib.hid hlen
          clear hR e3 e4 hb0 hb1 hov hxi hlen
          go_wp2_with fail
          have HGK : Hid (0 < gk) := Lib.hid (by have := HK2.out; have := HYK.out; omega)
          go_roundg (gk - 1)
          case measure => have := HGK.out; omega
          case rel =>
            obtain ⟨f1, f2, f3, f4⟩ := fam_put HFA.out HHD.out HBK.out HNG.out HNO.out HKE.out HBE.out HB0.out y (mk5 i)
            have hm : 48 + x % 200 = mk5 i := by rw [HXI.out]; rfl
            have hset : (List.replicate k (mk5 i) ++ (X i).drop k).set y.toNat (mk5 i) = List.replicate (k + 1) (mk5 i) ++ (X i).drop (k + 1) := by
              have h1 := HYK.out
              have h2 := HN.out
              rw [show y.toNat = k by omega]
              exact fillR _ _ _ (by omega)
            rw [hset] at f1
            rw [hm]
            exact ⟨y + 1, k + 1, rfl, by omega, Lib.hid (by have := HYK.out; omega), Lib.hid (by have := HK2.out; have := HGK.out; omega), Lib.hid f2, Lib.hid f1, Lib.hid f3, Lib.hid f4⟩
        · have hxm : x ≤ 1099511627775 := by have := HSL.out; omega
          clear hov hxi
          go_wp2_with fail
          have hkn : k = n := by have := HK2.out; have := HYK.out; omega
          have hfin : upd (over5 X i) i (List.replicate k (mk5 i) ++ (X i).drop k) = over5 X (i + 1) := by
            have hl := HN.out
            subst hkn
            rw [List.drop_of_length_le (by omega), List.append_nil, hl]
            funext j
            unfold upd over5
            by_cases hj : j = i
            · subst hj
              rw [if_pos rfl, if_pos (by omega)]
            · rw [if_neg hj]
              by_cases hj2 : j < i
              · rw [if_pos hj2, if_pos (by omega)]
              · rw [if_neg hj2, if_neg (by omega)]
          have HGP : Hid (0 < G) := Lib.hid (by have := HK.out; have := HXI.out; omega)
          go_roundg (G - 1)
          case measure => have := HGP.out; omega
          case rel => exact ⟨x + 1, i + 1, rfl, by omega, Lib.hid (by have := HXI.out; omega), Lib.hid (by have := HK.out; have := HGP.out; omega), HBK, Lib.hid (by rw [← hfin]; exact HFA.out), HKE, HBE⟩
    · have HI : Hid (i = hs.length) := Lib.hid (by have := HXI.out; have := HK.out; omega)
      have HG0 : Hid (Grown (Value.int .u8) (fun _ => rfl) 5 wr base wr.heap.size hs [] (fun j => (X j).length) mk5 0) := Lib.hid (grown_start HFA.out (fun j hj => by unfold over5; rw [if_pos (by have := HI.out; omega)]))
      have HLT : Hid (∀ k, Blk hs k → k < wr.heap.size) := Lib.hid (by
        rintro k ⟨h, hm, hk⟩
        obtain ⟨j, hj⟩ := List.mem_iff_getElem?.1 hm
        exact ((Kd.own_of_R (HFA.out.row j h hj)).lt k hk).2)
      have HAP := Lib.hid HF0.out.apart
      obtain ⟨N2, hN2⟩ : ∃ N2, N2 = wr.heap.size := ⟨_, rfl⟩
      rw [← hN2] at HG0 HLT
      have HN2 : Hid (N2 ≤ wr.heap.size) := Lib.hid (by omega)
      have HWN : Hid (w.heap.size ≤ N2) := Lib.hid (by have := HKE.out.1; omega)
      clear hN2 HFA HF0
      go_wp2_with fail
      clear hc
      go_loopg [5, 6] hs.length (fun kq u v w' => ∃ (x : Int) (i : Nat) (gs : List Hdr), v = .int .i64 x ∧ 0 ≤ x ∧ Hid (x = i) ∧ Hid (kq + i = hs.length) ∧ Hid (BookF w' base g 0 48 cs (.slice A0 hs.length c0) hs) ∧ Hid (Grown (Value.int .u8) (fun _ => rfl) 5 w' base N2 hs gs (fun j => (X j).length) mk5 i) ∧ Hid (hdr.R 48 w' w.heap.size (fun _ => True) u gs) ∧ Hid (Kept w w' (Blk hs)) ∧ Hid (Below base w w') ∧ Hid (N2 ≤ w'.heap.size))
      case atStart => exact ⟨0, 0, [], rfl, by omega, Lib.hid rfl, Lib.hid rfl, HBK, HG0, Lib.hid (Kd.R_nil _ _ _ _ _), HKE, HBE, HN2⟩
      case round =>
        clear HBK HG0 HKE HBE HN2 HI HXI HK
        clear hlt hx0
        obtain ⟨x, i, gs, rfl, hx0, HXI, HK, HBK, HG, HGS, HKE, HBE, HN2⟩ := hrel
        obtain ⟨G, hG⟩ : ∃ G, G = gk := ⟨_, rfl⟩
        subst hG
        have hc := HBK.out.cell
        by_cases hlt : x < (hs.length : Int)
        · obtain ⟨ad, ⟨B, n, c⟩, rfl, hhd, hcell⟩ := hdr_at HBK.out.row x hx0 hlt
          have hxi : x.toNat = i := by have := HXI.out; omega
          have hhd' : hs[i]? = some (B, n, c) := by rw [← hxi]; exact hhd
          have HHD := Lib.hid hhd'
          have HI0 := Lib.hid (growI_start (HG.out.left i _ (Nat.le_refl _) hhd'))
          simp only at hcell
          have hxm : x ≤ 1099511627775 := by have := HSL.out; omega
          have HLN : Hid ((X i).length < 1099511627776) := Lib.hid (HX.out i)
          clear hhd hhd' hxi
          go_wp2_with fail
          clear hc hcell
          obtain ⟨Wi, hWi⟩ : ∃ W, W = wr := ⟨_, rfl⟩
          subst hWi
          go_loopg [7, 8] 20 (fun kq u v w' => ∃ (y : Int) (k : Nat), v = .int .i64 y ∧ 0 ≤ y ∧ Hid (y = k) ∧ Hid (kq + k = 20) ∧ Hid (GrowI (Value.int .u8) (fun _ => rfl) 5 w' base Wi (B, n, c) (X i).length k (mk5 i) u))
          case atStart => exact ⟨0, 0, rfl, by omega, Lib.hid rfl, Lib.hid rfl, HI0⟩
          case round =>
            clear HI0
            obtain ⟨y, k, rfl, hy0, HYK, HK2, HGI⟩ := hrel
            by_cases hlt2 : y < 20
            · have hm : 48 + x % 200 = mk5 i := by rw [HXI.out]; rfl
              have HBS : Hid (base ≤ wr.heap.size) := Lib.hid (by have h5 := HBA.out; have h6 := HKE.out.1; have h7 := HGI.out.kept.1; omega)
              have HM := Lib.hid hm
              have HGK : Hid (0 < gk) := Lib.hid (by have := HK2.out; have := HYK.out; omega)
              clear hm
              go_wp2_with (first | ((with_reducible refine gate_builtin (b := .append) (xs := #[.tmp 68, .tmp 73]) rfl ?_); at_builtin; refine append2 (Kd.int .u8) (w0 := wr) base rfl (.tmp 68) (.tmp 73) 48 5 (.int .u8 0) 1 rfl Try.underlying48 info5 rfl (by decide) (by omega) u7 (List.replicate ((X i).length + k) (mk5 i)) (48 + x % 200) [.int .u8 (48 + x % 200)] (fun k_ => (hv (B, n, c)).ownBlock = some k_ ∨ Wi.heap.size ≤ k_) (fun _ => False) rfl rfl rfl (fun _ hk => hk.elim) (fun k_ hk => .inr (Nat.le_trans HGI.out.kept.1 hk)) HGI.out.row (Below.refl _ _) HBS.out (by have h5 := HLN.out; have h6 := HYK.out; rw [List.length_replicate]; omega) ?_; intro v1 w5 ho hb hg hat; rw [HM.out] at ho; have HGN := Lib.hid (growI_step HGI.out ho hb hg hat); clear ho hb hg hat))
              go_roundg (gk - 1)
              case measure => have := HGK.out; omega
              case rel => exact ⟨y + 1, k + 1, rfl, by omega, Lib.hid (by have := HYK.out; omega), Lib.hid (by have := HK2.out; have := HGK.out; omega), HGN⟩
            · have HK20 : Hid (k = 20) := Lib.hid (by have := HK2.out; have := HYK.out; omega)
              obtain ⟨Ag, cg, hu⟩ := Kd.R_slice HGI.out.row
              rw [List.length_replicate, HK20.out] at hu
              subst hu
              have hsub : ∀ k, (hv (B, n, c)).ownBlock = some k → Blk hs k := fun k hk => ⟨_, List.mem_of_getElem? HHD.out, hk⟩
              have HIK := Lib.hid HGI.out.kept
              have HGS1 : Hid (hdr.R 48 wr w.heap.size (fun _ => True) u5 gs) := Lib.hid (Kd.R_mono (Kd.R_kept (Kd.R_bound HGS.out) HIK.out (fun k hk hk2 => by have h5 := HLT0.out k (hsub k hk2); have h6 := hk.2.1; omega)) (fun _ h => h.1))
              have HBK1 := Lib.hid (HBK.out.kept HIK.out (fun h => HNG.out (hsub _ h)) (fun k h h2 => HNO.out k h (hsub _ h2)))
              have HG1 : Hid (Grown (Value.int .u8) (fun _ => rfl) 5 wr base N2 hs (gs ++ [(Ag, (X i).length + 20, cg)]) (fun j => (X j).length) mk5 (i + 1)) := Lib.hid (grown_stage HG.out HAP.out HLT.out HN2.out HHD.out (by have h5 := HGI.out; rw [HK20.out] at h5; exact h5) rfl)
              have HKE1 := Lib.hid (HKE.out.then_ HIK.out (fun k h => .inl (hsub k h)))
              have HBE1 := Lib.hid (HBE.out.trans HGI.out.below)
              have HGSL : Hid (gs.length < 1099511627776) := Lib.hid (by have h5 := HG.out.num; have h6 := HSL.out; have h7 := HXI.out; omega)
              have HGP : Hid (0 < G) := Lib.hid (by have := HK.out; have := HXI.out; omega)
              clear hsub
              go_wp2_with (first | ((with_reducible refine gate_builtin (b := .append) (xs := #[.tmp 75, .tmp 77]) rfl ?_); at_builtin; refine Kd.R_append hdr (w0 := wr) w.heap.size rfl (.tmp 75) (.tmp 77) 58 48 (.slice none 0 0) 24 rfl Try.underlying58 info48 rfl (show 0 < 1 by decide) (by omega) u5 gs (Ag, (X i).length + 20, cg) [.slice Ag ((X i).length + 20) cg] (fun _ => True) (fun _ => False) rfl rfl rfl (fun _ hk => hk.elim) (fun _ _ => trivial) HGS1.out (Below.refl _ _) HKE1.out.1 (by have h5 := HGSL.out; omega) ?_; intro v1 w5 ho hb hg hat; have HO := Lib.hid ho; have HB2 := Lib.hid hb; have HG2 := Lib.hid hg; clear ho hb hg hat))
              have hown : ∀ k, u5.ownBlock = some k → w.heap.size ≤ k := Kd.R_base HGS1.out
              go_roundg (G - 1)
              case measure => have := HGP.out; omega
              case rel =>
                have hk5 : Kept wr w5 (fun k => u5.ownBlock = some k) := Kept.of_grown HG2.out (Kept.refl _ _) (fun k hk => .inl hk)
                refine ⟨x + 1, i + 1, _, rfl, by omega, Lib.hid (by have := HXI.out; omega), Lib.hid (by have := HK.out; have := HGP.out; omega), Lib.hid (HBK1.out.kept hk5 (fun h => by have h6 := hown _ h; have h7 := HGL.out; omega) (fun k h h2 => by have h6 := hown _ h2; have h7 := HOL.out k h; omega)), Lib.hid (grown_over HG1.out HGS1.out (by decide) HG2.out), HO, Lib.hid (HKE1.out.then_ hk5 (fun k h => .inr (hown k h))), Lib.hid (HBE1.out.trans ⟨HB2.out.os, HB2.out.tape, HB2.out.output, HB2.out.size, fun k hk => HB2.out.block k (by have h6 := HBA.out; omega)⟩), Lib.hid (by have h5 := HN2.out; have h6 := HIK.out.1; have h7 := hk5.1; omega)⟩
        · have HI : Hid (i = hs.length) := Lib.hid (by have := HXI.out; have := HK.out; omega)
          obtain ⟨Au, cu, hu⟩ := Kd.R_slice HGS.out
          have HGL2 : Hid (gs.length = hs.length) := Lib.hid (by have h5 := HG.out.num; have h6 := HI.out; omega)
          have hgl := HGL2.out
          rw [hgl] at hu
          subst hu
          clear hgl
          go_wp2_with fail
          clear hc
          obtain ⟨W3, hW3⟩ : ∃ W, W = wr := ⟨_, rfl⟩
          subst hW3
          go_loopg [9] hs.length (fun kq v w' => ∃ (x : Int) (i : Nat), v = .int .i64 x ∧ 0 ≤ x ∧ Hid (x = i) ∧ Hid (kq + i = hs.length) ∧ w' = W3)
          case atStart => exact ⟨0, 0, rfl, by omega, Lib.hid rfl, Lib.hid rfl, rfl⟩
          case round =>
            clear hlt hx0 HXI HK HI
            obtain ⟨x, i, rfl, hx0, HXI, HK, rfl⟩ := hrel
            obtain ⟨G, hG⟩ : ∃ G, G = gk := ⟨_, rfl⟩
            subst hG
            by_cases hlt : x < (hs.length : Int)
            · obtain ⟨ad0, ⟨B, n, c⟩, rfl, hhd, hcell0⟩ := hdr_at HBK.out.row x hx0 hlt
              have hlt' : x < (gs.length : Int) := by rw [HGL2.out]; exact hlt
              obtain ⟨ad1, ⟨A1, n1, c1⟩, rfl, hgd, hcell1⟩ := hdr_at HGS.out x hx0 hlt'
              obtain ⟨q1, q2, q3, q4⟩ := grown_old HG.out hhd hgd
              have hc := HBK.out.cell
              simp only at hcell0 hcell1 q1 q2 q3 q4
              have hxi : (mk5 x.toNat) = 48 + x % 200 := by unfold mk5; rw [Int.toNat_of_nonneg hx0]
              rw [hxi] at q3 q4
              rw [← q2] at q1 q3 q4
              rw [← q1] at q3
              have C1 := Lib.hid q3
              have C0 := Lib.hid q4
              have HXL : Hid (n1 < 1099511627796) := Lib.hid (by have h5 := HX.out x.toNat; omega)
              have HN1 : Hid (n1 = n + 20) := Lib.hid q1
              have hxm : x ≤ 1099511627775 := by have := HSL.out; omega
              clear hhd hgd q1 q2 q3 q4 hxi hlt'
              go_wp2_with fail
              go_loopg [10] n1 (fun kq v w' => ∃ (y : Int) (k : Nat), v = .int .i64 y ∧ 0 ≤ y ∧ Hid (y = k) ∧ Hid (kq + k = n1) ∧ w' = wr)
              case atStart => exact ⟨0, 0, rfl, by omega, Lib.hid rfl, Lib.hid rfl, rfl⟩
              case round =>
                obtain ⟨y, k, rfl, hy0, HYK, HK2, hww⟩ := hrel
                subst hww
                by_cases hlt2 : y < (n1 : Int)
                · obtain ⟨ad2, rfl, hcc⟩ := Kd.at_int C1.out y hy0 hlt2
                  rw [rd_rep _ _ _ hy0 hlt2] at hcc
                  have hym : y ≤ 1099511627796 := by have := HXL.out; omega
                  have HGK : Hid (0 < gk) := Lib.hid (by have := HK2.out; have := HYK.out; omega)
                  go_wp2_with fail
                  go_roundg (gk - 1)
                  case measure => have := HGK.out; omega
                  case rel => exact ⟨y + 1, k + 1, rfl, by omega, Lib.hid (by have := HYK.out; omega), Lib.hid (by have := HK2.out; have := HGK.out; omega), rfl⟩
                · go_wp2_with fail
                  go_loopg [12] n (fun kq v w' => ∃ (y : Int) (k : Nat), v = .int .i64 y ∧ 0 ≤ y ∧ Hid (y = k) ∧ Hid (kq + k = n) ∧ w' = wr)
                  case atStart => exact ⟨0, 0, rfl, by omega, Lib.hid rfl, Lib.hid rfl, rfl⟩
                  case round =>
                    clear hlt2 hy0 HYK HK2
                    obtain ⟨y, k, rfl, hy0, HYK, HK2, hww⟩ := hrel
                    subst hww
                    by_cases hlt2 : y < (n : Int)
                    · obtain ⟨ad2, rfl, hcc⟩ := Kd.at_int C0.out y hy0 hlt2
                      rw [rd_rep _ _ _ hy0 hlt2] at hcc
                      have hym : y ≤ 1099511627796 := by have := HXL.out; have := HN1.out; omega
                      have HGK : Hid (0 < gk) := Lib.hid (by have := HK2.out; have := HYK.out; omega)
                      go_wp2_with fail
                      go_roundg (gk - 1)
                      case measure => have := HGK.out; omega
                      case rel => exact ⟨y + 1, k + 1, rfl, by omega, Lib.hid (by have := HYK.out; omega), Lib.hid (by have := HK2.out; have := HGK.out; omega), rfl⟩
                    · have HGP : Hid (0 < G) := Lib.hid (by have := HK.out; have := HXI.out; omega)
                      go_wp2_with fail
                      go_roundg (G - 1)
                      case measure => have := HGP.out; omega
                      case rel => exact ⟨x + 1, i + 1, rfl, by omega, Lib.hid (by have := HXI.out; omega), Lib.hid (by have := HK.out; have := HGP.out; omega), rfl⟩
            · go_wp2_with fail
              go_ret
              exact ⟨rfl, HKE.out, HBE.out⟩
end Go.Proofs.Ythblincfnfpgbaa.Q
