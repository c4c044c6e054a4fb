import Derived.Test.YthblincfnfpgbaaQxNum
namespace Go.Proofs.Ythblincfnfpgbaa.Q
open Go.RowKit Go.Proofs.YthblincfnfpgbaaW.PrintWords Go.Proofs.YthblincfnfpgbaaW.PrintLast Go.Proofs.YthblincfnfpgbaaW.PrintMore
set_option linter.unusedVariables false
set_option maxHeartbeats 4000000 in
theorem fixed_c (s : Int) (w : World) (h0 : 0 ≤ s) (h1 : s < 4294967296) :
    Calls Try.prog 56 #[.int .u32 s] w fun e w' => e = .returned (.agg #[.int .u8 (s % 256), .int .u8 ((s / 256) % 256), .int .u8 ((s / 65536) % 256), .int .u8 (s / 16777216)]) ∧ Below w.heap.size w w' := by
  have hu117 := Try.underlying117
  go_enter Try.func56, Try.ntmps56
  go_wp2
  exact bodyPost_ret (v := .agg #[.int .u8 (s % 256), .int .u8 ((s / 256) % 256), .int .u8 ((s / 65536) % 256), .int .u8 (s / 16777216)]) (by simp [results, Try.results56, go_sem]) rfl ⟨rfl, (Below.refl _ _).alloc (Nat.le_refl _) _⟩
theorem u64_range (x : Int) : 0 ≤ IntKind.u64.wrap x ∧ IntKind.u64.wrap x < 18446744073709551616 := by unfold IntKind.wrap; simp [IntKind.bits, IntKind.signed]; omega

theorem lit_C (k : IntKind) (w : World) (T : Nat) (fz : Nat × Nat) (ls : List Int) (h63 : ls.length ≤ 9223372036854775807) : Kd.C (Kd.int k) (w.alloc (.cells (ls.map (Value.int k)).toArray T fz)) (some ⟨w.heap.size, 0, none⟩) ls.length ls := by
  refine ⟨rfl, h63, fun _ => ⟨_, rfl, fun j p hj => ⟨[.int k p], rfl, rfl, fun i u hu => ?_⟩⟩⟩
  obtain rfl : i = 0 := by have := (List.getElem?_eq_some_iff.1 hu).1; simpa using this
  obtain rfl : Value.int k p = u := by simpa using hu
  have e : (w.alloc (.cells (ls.map (Value.int k)).toArray T fz)).heap[w.heap.size]? = some (.cells (ls.map (Value.int k)).toArray T fz) := heap_alloc_new w _
  rw [add_plain, cell_of_row _ _ _ _ _ _ e]
  simp [Kd.int, Kd.scalar, hj]
theorem arr_lit (w0 w : World) (fz : Nat × Nat) : Arr w0 (w.alloc (.cells #[.int .u8 83, .int .u8 72, .int .u8 85, .int .u8 49] 5 fz)) (fun _ => False) (.slice (some ⟨w.heap.size, 0, none⟩) 4 4) [83, 72, 85, 49] :=
  .inr ⟨_, rfl, lit_C .u8 w 5 fz [83, 72, 85, 49] (by simp)⟩
theorem at82 {w : World} {A : Option Addr} {n : Nat} {l : List S82} (h : Kd.C k82 w A n l) (i : Nat) (hi : i < l.length) : ∃ a, A = some a ∧ w.cell? (a.add (i * 2)) = some (.int .u64 l[i].f0) ∧ w.cell? ⟨(a.add (i * 2)).block, (a.add (i * 2)).off + 1, none⟩ = some (.int .u64 l[i].f1) := by
  obtain ⟨a, e, h1, h2⟩ := at_T82 h (i : Int) (by omega) (by have := h.1; omega)
  rw [rd82 l i i rfl hi] at h1 h2
  exact ⟨a, e, h1, h2⟩
theorem pairsS_drop (l : List S82) (i : Nat) (h : i < l.length) (last : Int) : pairsS last (l.drop i) = numS (IntKind.u64.wrap (l[i].f0 - last)) ++ numS l[i].f1 ++ pairsS l[i].f0 (l.drop (i + 1)) := by
  rw [List.drop_eq_getElem_cons h]
  rfl
theorem wsucc (i : Nat) (h : i < 4398046511104) : Value.int .i64 (wrap64 ((i : Int) + 1)) = .int .i64 ((i + 1 : Nat) : Int) := by
  rw [show wrap64 ((i : Int) + 1) = ((i + 1 : Nat) : Int) by unfold wrap64; omega]
theorem sumS_range (l : List Int) : ∀ s, 0 ≤ s → s < 4294967296 → 0 ≤ sumS s l ∧ sumS s l < 4294967296 := by
  induction l with
  | nil => intro s h0 h1; exact ⟨h0, h1⟩
  | cons c l ih => intro s _ _; exact ih _ (by omega) (by omega)
theorem bodyS_length (l : List S82) : (bodyS l).length ≤ 14 + 20 * l.length := by
  have h1 := numN_length 9 l.length
  have h2 := pairsS_length l 0
  simp only [bodyS, List.length_append, numS, List.length_cons, List.length_nil]
  omega
set_option maxHeartbeats 8000000 in
set_option maxRecDepth 100000 in
theorem encode_yes (A : Option Addr) (c : Nat) (l : List S82) (w : World) (hA : Kd.C k82 w A l.length l) (hc : l.length ≤ c) (hl : l.length < 4398046511104) (hw : ∀ p ∈ l, wfP p) (hr : risingS l = true) :
    Calls Try.prog 28 #[.slice A l.length c] w fun e w' => ∃ v, e = .returned (.tuple #[v, .int .i64 0]) ∧ Kd.R (Kd.int .u8) 5 w' w.heap.size (fun _ => True) v (encS l) ∧ Below w.heap.size w w' := by
  have hu82 := Try.underlying82
  have hu117 := Try.underlying117
  have HA := Lib.hid hA
  have HC := Lib.hid hc
  have HL := Lib.hid hl
  have HW := Lib.hid hw
  have HR := Lib.hid hr
  have b1 : (0 : Int) ≤ (l.length : Int) := by omega
  have b2 : (l.length : Int) < 18446744073709551616 := by omega
  clear hA hc hl hw hr
  go_enter Try.func28, Try.ntmps28
  go_wp2_with fail
  go_at_call 39
  refine (dump_right.calls _ _ _ true _ HA.out HC.out (by rw [← HR.out]; rfl)).mono ?_
  rintro e w1 ⟨rfl, hb⟩
  have HB1 := Lib.hid hb
  clear hb
  have kc := fun (w : World) (C : Array Value) (n c : Nat) => Lib.run_convert_bytes_const (P := Try.prog) w 48 5 C n c Try.underlying48 Try.underlying5
  go_wp2_with fail
  go_at_call 55
  refine (number_c w _ (fun _ => False) (fun _ h => h.elim) _ [83, 72, 85, 49] _ (HB1.out.alloc HB1.out.size _) (arr_lit w w1 _) b2 b1 (by simp)).mono ?_
  rintro e w2 ⟨v2, rfl, h1, h2, -⟩
  have HO2 := Lib.hid h1
  have HB2 := Lib.hid h2
  clear h1 h2 kc b1 b2
  go_wp2
  go_loopg [4, 5, 20] l.length (fun kq u y x w' => ∃ (i : Nat) (bs : List Int) (last : Int), y = .int .u64 last ∧ x = .int .i64 i ∧ Hid (kq + i = l.length) ∧ Hid (bs ++ pairsS last (l.drop i) = bodyS l) ∧ Hid (Own w w' (fun _ => False) u bs) ∧ Hid (Below w.heap.size w w'))
  case atStart => exact ⟨0, _, 0, rfl, rfl, Lib.hid (by omega), Lib.hid rfl, HO2, HB2⟩
  case round =>
    obtain ⟨i, bs, last, rfl, rfl, HK, HE, HO, HB⟩ := hrel
    clear HO2 HB2
    by_cases hlt : i < l.length
    · have hlt1 : (i : Int) < (l.length : Int) := by omega
      obtain ⟨a, rfl, hp1, hp2⟩ := at82 (Kd.C_below HA.out HB.out) i hlt
      have HWF := Lib.hid (HW.out l[i] (List.getElem_mem hlt))
      have HPD := Lib.hid (pairsS_drop l i hlt last)
      generalize l[i] = p at *
      obtain ⟨p1, p2⟩ := p
      dsimp only at hp1 hp2
      have HBL := Lib.hid (show bs.length + 20 < 140737488355328 by
        have h1 := HE.out
        have h2 := bodyS_length l
        have h3 := HL.out
        have h4 := HPD.out
        rw [← h1, h4] at h2
        have h5 := HK.out
        have h6 := congrArg List.length h1
        have h7 := bodyS_length l
        simp only [List.length_append] at h6
        omega)
      have HP := Lib.hid (own_new (Kd.R_mono HO.out (fun _ _ => trivial)) (.cells #[.int .u64 p1, .int .u64 p2] 82))
      go_wp2_with fail
      go_at_call 55
      refine (number_c w _ (fun k => k = wr.heap.size) (fun k h => by subst h; simp) _ bs _ (HB.out.alloc HB.out.size _) (own_arr HP.out) (u64_range _).2 (u64_range _).1 (by have := HBL.out; omega)).mono ?_
      rintro e w3 ⟨v3, rfl, h1, h2, h3⟩
      have hx3 := (h3 _ rfl).trans (heap_alloc_new wr _)
      have hq1 : w3.cell? ⟨wr.heap.size, 0, none⟩ = some (.int .u64 p1) := by rw [blk_cell hx3]; rfl
      have hq2 : w3.cell? ⟨wr.heap.size, 1, none⟩ = some (.int .u64 p2) := by rw [blk_cell hx3]; rfl
      have HX3 := Lib.hid hx3
      have HO3 := Lib.hid h1
      have HB3 := Lib.hid h2
      clear h1 h2 h3 hx3 hp1 hp2
      go_wp2_with fail
      go_at_call 55
      refine (number_c w _ (fun k => k = wr.heap.size) (fun k h => by subst h; exact blk_lt HX3.out) _ _ _ HB3.out (own_arr HO3.out) HWF.out.2.2.2 HWF.out.2.2.1 (by have := HBL.out; have := numN_length 9 (IntKind.u64.wrap (p1 - last)); simp only [List.length_append, numS]; omega)).mono ?_
      rintro e w4 ⟨v4, rfl, h1, h2, h3⟩
      have hx4 := (h3 _ rfl).trans HX3.out
      have hq3 : w4.cell? ⟨wr.heap.size, 0, none⟩ = some (.int .u64 p1) := by rw [blk_cell hx4]; rfl
      have HO4 := Lib.hid h1
      have HB4 := Lib.hid h2
      clear h1 h2 h3 hx4 hq1 hq2
      go_wp2
      go_roundg (gk - 1)
      case measure => have := HK.out; omega
      case rel =>
        refine ⟨i + 1, _, p1, rfl, wsucc i (by have := HL.out; omega), Lib.hid (by have := HK.out; omega), Lib.hid ?_, Lib.hid (Kd.R_mono HO4.out (fun _ _ h => h.elim)), HB4⟩
        have h1 := HE.out
        rw [HPD.out] at h1
        rw [← h1]
        simp
    · have hlt1 : ¬ (i : Int) < (l.length : Int) := by omega
      have hbs : bs = bodyS l := by
        have h1 := HE.out
        rw [List.drop_of_length_le (by omega), pairsS, List.append_nil] at h1
        exact h1
      subst hbs
      obtain ⟨A4, c4, rfl, h4, hC⟩ := Kd.R_reads HO.out
      have HC4 := Lib.hid h4
      have HK4 := Lib.hid hC
      have HBL := Lib.hid (show (bodyS l).length + 20 < 140737488355328 by have := bodyS_length l; have := HL.out; omega)
      have hsr := sumS_range (bodyS l) 2166136261 (by omega) (by omega)
      have hsf := sum_f (bodyS l) (by have := HBL.out; omega)
      generalize hs : sumS 2166136261 (bodyS l) = s at *
      obtain ⟨hs0, hs1⟩ := hsr
      have HSF := Lib.hid hsf
      have HS := Lib.hid hs
      clear h4 hC hsf hs
      go_wp2_with fail
      go_at_call 57
      refine (dump_sum.calls _ _ _ _ _ _ HK4.out HC4.out HSF.out).mono ?_
      rintro e w5 ⟨rfl, hd⟩
      obtain ⟨nd, rfl⟩ := hd
      go_wp2_with fail
      go_at_call 56
      refine (fixed_c s _ hs0 hs1).mono ?_
      rintro e w6 ⟨rfl, hb⟩
      have HB6 := Lib.hid (show Below wr.heap.size wr w6 from (pw_below_drewN (Below.refl _ _) nd).trans hb)
      clear hb
      go_wp2_with (first | (at_builtin; refine Kd.R_append_row (Value.int .u8) (0 : Int) (h1 := fun _ => rfl) (w0 := w) w.heap.size (by rfl) (.tmp 40) (.tmp 41) 48 5 (.int .u8 0) 1 rfl Try.underlying48 info5 rfl (by omega) _ (bodyS l) (fixedS s) (some ⟨w6.heap.size, 0, none⟩) 4 4 (fun _ => True) rfl rfl (fun _ _ => trivial) ?aO ?aC ?aB ?aS ?aL ?_))
      case aO => exact Kd.R_alloc (Kd.R_below (Kd.R_mono HO.out (fun _ _ => trivial)) HB6.out) _
      case aC => exact lit_C .u8 w6 117 (0, 0) (fixedS s) (by simp [fixedS])
      case aB => exact (HB.out.trans (HB6.out.mono HB.out.size)).alloc (Nat.le_trans HB.out.size HB6.out.size) _
      case aS => have := HB.out.size; have := HB6.out.size; simp; omega
      case aL => have := HBL.out; omega
      intro v7 w7 h1 h2 h3 h4
      have H1 := Lib.hid h1
      have H2 := Lib.hid h2
      clear h1 h2 h3 h4
      go_wp2
      go_ret2
      refine ⟨v7, rfl, ?_, H2.out⟩
      have h := H1.out
      rw [← HS.out] at h
      exact h
theorem encode_no (A : Option Addr) (c : Nat) (l : List S82) (w : World) (hA : Kd.C k82 w A l.length l) (hc : l.length ≤ c) (hr : risingS l = false) :
    Calls Try.prog 28 #[.slice A l.length c] w fun e w' => e = .returned (.tuple #[.slice none 0 0, .int .i64 52]) ∧ Below w.heap.size w w' := by
  have HA := Lib.hid hA
  have HC := Lib.hid hc
  have HR := Lib.hid hr
  clear hA hc hr
  go_enter Try.func28, Try.ntmps28
  go_wp2_with fail
  go_at_call 39
  refine (dump_right.calls _ _ _ false _ HA.out HC.out (by rw [← HR.out]; rfl)).mono ?_
  rintro e w1 ⟨rfl, hb⟩
  have HB1 := Lib.hid hb
  clear hb
  go_wp2
  go_ret2
  exact ⟨rfl, HB1.out⟩
theorem dump_Encode.calls (A0 : Option Addr) (c0 : Nat) (l0 : List S82) (r1 : List Int) (r2 : Int) (w : World) (hr0 : Kd.C k82 w A0 l0.length l0) (hc0 : l0.length ≤ c0) (h : dump_Encode.f l0 = some (r1, r2)) :
    Calls Try.prog 28 #[.slice A0 l0.length c0] w fun e w' => ∃ v0_ : Value, e = .returned (.tuple #[v0_, .int .i64 r2]) ∧ Kd.R (Kd.int .u8) 5 w' w.heap.size (fun _ => True) v0_ r1 ∧ Below w.heap.size w w' := by
  unfold dump_Encode.f at h
  split at h
  case isFalse => exact absurd h (by simp)
  rename_i hl
  split at h
  · rename_i hr
    obtain ⟨rfl, rfl⟩ : encS l0 = r1 ∧ (0 : Int) = r2 := by simpa using h
    exact encode_yes A0 c0 l0 w hr0 hc0 hl.1 hl.2 hr
  · rename_i hr
    obtain ⟨rfl, rfl⟩ : ([] : List Int) = r1 ∧ (52 : Int) = r2 := by simpa using h
    refine (encode_no A0 c0 l0 w hr0 hc0 (by simpa using hr)).mono ?_
    rintro e w' ⟨rfl, hb⟩
    exact ⟨_, rfl, Kd.R_nil _ _ _ _ _, hb⟩
end Go.Proofs.Ythblincfnfpgbaa.Q
