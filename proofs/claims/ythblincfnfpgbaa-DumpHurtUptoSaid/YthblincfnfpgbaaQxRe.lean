import Derived.Test.YthblincfnfpgbaaQxRd
import Derived.Deep.RegionHeld3
import Derived.Deep.DeepCutAuto
namespace Go.Proofs.Ythblincfnfpgbaa.Q
open Go.RowKit Go.Proofs.YthblincfnfpgbaaW.PrintWords Go.Proofs.YthblincfnfpgbaaW.PrintLast Go.Proofs.YthblincfnfpgbaaW.PrintMore
set_option linter.unusedVariables false
set_option linter.unusedSimpArgs false
/-- A number at a state of the reader. -/
def numX (bs : List Int) (at' e : Int) : Int × Int × Int := if e = 0 then numR 0 at' 0 (bs.drop at'.toNat) else (0, at', e)
theorem numR_err (l : List Int) : ∀ (i : Nat) (a v : Int), 0 ≤ (numR i a v l).2.2 := by
  induction l with
  | nil => intro i a v; rw [numR]; show (0 : Int) ≤ 270; decide
  | cons c l ih =>
    intro i a v
    rw [numR]
    split
    · show (0 : Int) ≤ 271; decide
    · split
      · exact Int.le_refl _
      · exact ih _ _ _
theorem numR_place (l : List Int) : ∀ (i : Nat) (a v : Int), a ≤ (numR i a v l).2.1 ∧ (numR i a v l).2.1 ≤ a + l.length ∧ ((numR i a v l).2.2 = 0 → a < (numR i a v l).2.1) := by
  induction l with
  | nil => intro i a v; rw [numR]; simp
  | cons c l ih =>
    intro i a v
    rw [numR]
    split
    · simp
      omega
    · split
      · simp
        omega
      · have := ih (i + 1) (a + 1) (v + c % 128 * 2 ^ (7 * i))
        simp only [List.length_cons]
        omega
theorem numR_val (l : List Int) (hl : ∀ c ∈ l, 0 ≤ c ∧ c < 256) : ∀ (i : Nat) (a v : Int), i ≤ 9 → 0 ≤ v → v < 2 ^ (7 * i) → 0 ≤ (numR i a v l).1 ∧ (numR i a v l).1 < 18446744073709551616 := by
  have big : ∀ (i : Nat) (v : Int), i ≤ 9 → v < 2 ^ (7 * i) → v < 18446744073709551616 := by
    intro i v hi hv
    have h1 : (2 : Int) ^ (7 * i) ≤ 2 ^ 63 := by exact_mod_cast Nat.pow_le_pow_right (n := 2) (by decide) (show 7 * i ≤ 63 by omega)
    have h3 : (2 : Int) ^ 63 = 9223372036854775808 := by decide
    omega
  induction l with
  | nil => intro i a v hi h0 h1; rw [numR]; exact ⟨h0, big i v hi h1⟩
  | cons c l ih =>
    intro i a v hi h0 h1
    have hc := hl c (by simp)
    have hn := acc7_lt i v c h0 h1
    rw [numR]
    split
    · exact ⟨h0, big i v hi h1⟩
    · rename_i hb
      split
      · refine ⟨hn.1, ?_⟩
        by_cases h9 : i = 9
        · subst h9
          have : c ≤ 1 := by by_cases h : 1 < c; exact absurd (.inr ⟨rfl, h⟩) hb; omega
          have h3 : (2 : Int) ^ (7 * 9) = 9223372036854775808 := by decide
          rw [h3] at h1 ⊢
          show v + c % 128 * 9223372036854775808 < 18446744073709551616
          omega
        · exact big (i + 1) _ (by omega) hn.2
      · rename_i h128
        have h9 : i ≠ 9 := fun h => hb (.inr ⟨h, by omega⟩)
        exact ih (fun d hd => hl d (by simp [hd])) (i + 1) (a + 1) _ (by omega) hn.1 hn.2
set_option maxHeartbeats 4000000 in
set_option maxRecDepth 100000 in
theorem rdnumX_c (g : Nat) (bs : List Int) (at' e : Int) (w0 w : World) (hI : IsS123 w0 w g bs at' e) (hB : Below w0.heap.size w0 w) (ha : e = 0 → 0 ≤ at' ∧ at' ≤ bs.length) (hbs : ∀ c ∈ bs, 0 ≤ c ∧ c < 256) :
    Calls Try.prog 61 #[.pointer (some ⟨g, 0, none⟩)] w fun en w' => en = .returned (.int .u64 (numX bs at' e).1) ∧ IsS123 w0 w' g bs (numX bs at' e).2.1 (numX bs at' e).2.2 ∧ Below w0.heap.size w0 w' ∧ KeepBut w w' g none := by
  by_cases he : e = 0
  · subst he
    obtain ⟨n, rfl⟩ := Int.eq_ofNat_of_zero_le (ha rfl).1
    have := rdnum_c g bs n w0 w hI hB (by have := (ha rfl).2; omega) hbs
    simpa [numX] using this
  · have e1 : numX bs at' e = (0, at', e) := by unfold numX; rw [if_neg he]
    rw [e1]
    have hI' := Lib.hid hI
    obtain ⟨A, c, hb, hg, hC⟩ := hI
    have c1 := cellS123_1 hb
    have c2 := cellS123_2 hb
    have HB := Lib.hid hB
    have e2 : (e == 0) = false := by rw [beq_eq_false_iff_ne]; exact he
    clear hb hg hC hB e1 ha he
    go_enter Try.func61, Try.ntmps61
    go_wp2
    go_step3
    go_wp2
    go_step3
    go_wp2
    refine wp_loop_rounds 1 ?_
    rw [rounds_succ]
    go_wp2
    rw [Exit.noGoto_ret]
    go_ret
    exact ⟨rfl, hI'.out, HB.out, KeepBut.refl _ _ _⟩
/-- A pair behind another one, at a state of the reader: its key and value, the state then. -/
def pairX (bs : List Int) (at' e : Int) (last : Int) (first : Bool) : (Int × Int) × Int × Int :=
  let d := numX bs at' e
  let s : Int × Int := if first = false ∧ d.2.2 = 0 ∧ (d.1 = 0 ∨ IntKind.u64.wrap (last + d.1) < last) then (at', 271) else (d.2.1, d.2.2)
  let v := numX bs s.1 s.2
  ((IntKind.u64.wrap (last + d.1), v.1), v.2.1, v.2.2)
theorem numX_ok {bs : List Int} {at' e : Int} (ha : e = 0 → 0 ≤ at' ∧ at' ≤ bs.length) : (numX bs at' e).2.2 = 0 → 0 ≤ (numX bs at' e).2.1 ∧ (numX bs at' e).2.1 ≤ bs.length := by
  unfold numX
  split
  · rename_i he
    intro _
    have h1 := numR_place (bs.drop at'.toNat) 0 at' 0
    have h2 := ha he
    rw [List.length_drop] at h1
    omega
  · rename_i he
    intro h
    exact absurd h he
theorem numX_val {bs : List Int} {at' e : Int} (hbs : ∀ c ∈ bs, 0 ≤ c ∧ c < 256) : 0 ≤ (numX bs at' e).1 ∧ (numX bs at' e).1 < 18446744073709551616 := by
  unfold numX
  split
  · exact numR_val _ (fun c hc => hbs c (List.mem_of_mem_drop hc)) 0 at' 0 (by omega) (by omega) (by decide)
  · simp
theorem numX_stay {bs : List Int} {at' e : Int} (he : e ≠ 0) : numX bs at' e = (0, at', e) := by unfold numX; rw [if_neg he]
set_option maxHeartbeats 4000000 in
set_option maxRecDepth 100000 in
theorem pair_c (g : Nat) (bs : List Int) (at' e k v : Int) (first : Bool) (w0 w : World) (hI : IsS123 w0 w g bs at' e) (hB : Below w0.heap.size w0 w) (ha : e = 0 → 0 ≤ at' ∧ at' ≤ bs.length) (hbs : ∀ c ∈ bs, 0 ≤ c ∧ c < 256) (hk0 : 0 ≤ k) (hk1 : k < 18446744073709551616) :
    Calls Try.prog 62 #[.pointer (some ⟨g, 0, none⟩), .agg #[.int .u64 k, .int .u64 v], .bool first] w fun en w' => en = .returned (.agg #[.int .u64 (pairX bs at' e k first).1.1, .int .u64 (pairX bs at' e k first).1.2]) ∧ IsS123 w0 w' g bs (pairX bs at' e k first).2.1 (pairX bs at' e k first).2.2 ∧ Below w0.heap.size w0 w' ∧ KeepBut w w' g none := by
  have hu82 := Try.underlying82
  have hu123 := Try.underlying123
  have HI := Lib.hid hI
  have hgl := hI.lt
  obtain ⟨A, c, hb, hg, hC⟩ := hI
  have c1 := cellS123_1 hb
  have HB := Lib.hid hB
  have HBS := Lib.hid hbs
  have HA := Lib.hid ha
  clear hb hg hC hB hbs ha
  obtain ⟨R, hR⟩ : ∃ R, R = pairX bs at' e k first := ⟨_, rfl⟩
  rw [← hR]
  have HR0 := Lib.hid hR
  clear hR
  go_enter Try.func62, Try.ntmps62
  go_wp2_with fail
  go_at_call 61
  refine (rdnumX_c g bs at' e w0 _ ((HI.out.alloc _).alloc _) ((HB.out.alloc HB.out.size _).alloc (by have := HB.out.size; simp; omega) _) HA.out HBS.out).mono ?_
  rintro en w2 ⟨rfl, h1, h2, h3⟩
  have x4 : w2.heap[w.heap.size]? = some (.cells #[.int .u64 k, .int .u64 v] 82 (0, 0)) := h3.blk (blk_alloc (heap_alloc_new w _) _) (by omega) (by simp)
  have x6 : w2.heap[w.heap.size + 1]? = some (.cells #[.int .u64 0, .int .u64 0] 82 (0, 0)) := h3.blk (by have := heap_alloc_new (w.alloc (.cells #[.int .u64 k, .int .u64 v] 82)) (.cells #[.int .u64 0, .int .u64 0] 82); simpa using this) (by omega) (by simp)
  have H1 := Lib.hid h1
  have H2 := Lib.hid h2
  have H3 := Lib.hid (show KeepBut w w2 g none from (keep_alloc (keep_alloc (KeepBut.refl w g none) _) _).trans h3 (.inl rfl))
  have X4 := Lib.hid x4
  have X6 := Lib.hid x6
  obtain ⟨A', c', hb', -, -⟩ := h1
  have d2 := cellS123_2 hb'
  have hk : w2.cell? ⟨w.heap.size, 0, none⟩ = some (.int .u64 k) := (blk_cell x4 0).trans rfl
  have hv := numX_val (at' := at') (e := e) HBS.out
  have HO := Lib.hid (numX_ok (bs := bs) (e := e) HA.out)
  clear h2 h3 x4 x6 hb'
  have hR := HR0.out
  unfold pairX at hR
  dsimp only at hR
  clear HR0
  generalize numX bs at' e = N at *
  obtain ⟨d, a1, e1⟩ := N
  dsimp only at *
  obtain ⟨hd0, hd1⟩ := hv
  obtain ⟨s, hs⟩ : ∃ s : Int × Int, s = if first = false ∧ e1 = 0 ∧ (d = 0 ∨ IntKind.u64.wrap (k + d) < k) then (at', 271) else (a1, e1) := ⟨_, rfl⟩
  rw [← hs] at hR
  have HR := Lib.hid hR
  have HS := Lib.hid hs
  clear hR hs
  have hc : (first = true ∧ s = (a1, e1)) ∨ (first = false ∧ (e1 == 0) = false ∧ s = (a1, e1)) ∨ (first = false ∧ e1 = 0 ∧ (d == 0) = true ∧ s = (at', 271)) ∨ (first = false ∧ e1 = 0 ∧ (d == 0) = false ∧ IntKind.u64.wrap (k + d) < k ∧ s = (at', 271)) ∨ (first = false ∧ e1 = 0 ∧ (d == 0) = false ∧ ¬ IntKind.u64.wrap (k + d) < k ∧ s = (a1, 0)) := by
    have h := HS.out
    by_cases h1 : first = false
    · by_cases h2 : e1 = 0
      · by_cases h3 : d = 0
        · exact .inr (.inr (.inl ⟨h1, h2, by rw [beq_iff_eq]; exact h3, by rw [h, if_pos ⟨h1, h2, .inl h3⟩]⟩))
        · by_cases h4 : IntKind.u64.wrap (k + d) < k
          · exact .inr (.inr (.inr (.inl ⟨h1, h2, by rw [beq_eq_false_iff_ne]; exact h3, h4, by rw [h, if_pos ⟨h1, h2, .inr h4⟩]⟩)))
          · exact .inr (.inr (.inr (.inr ⟨h1, h2, by rw [beq_eq_false_iff_ne]; exact h3, h4, by rw [h, if_neg (fun hh => hh.2.2.elim h3 h4), h2]⟩)))
      · exact .inr (.inl ⟨h1, by rw [beq_eq_false_iff_ne]; exact h2, by rw [h, if_neg (fun hh => h2 hh.2.1)]⟩)
    · exact .inl ⟨by simpa using h1, by rw [h, if_neg (fun hh => h1 hh.1)]⟩
  rcases hc with ⟨rfl, rfl⟩ | ⟨rfl, q2, rfl⟩ | ⟨rfl, rfl, q3, rfl⟩ | ⟨rfl, rfl, q3, q4, rfl⟩ | ⟨rfl, rfl, q3, q4, rfl⟩
  · go_wp2_with fail
    have k60 : w2.cell? ⟨w.heap.size + 1, 0, none⟩ = some (.int .u64 0) := (blk_cell X6.out 0).trans rfl
    have k61 : w2.cell? ⟨w.heap.size + 1, 1, none⟩ = some (.int .u64 0) := (blk_cell X6.out 1).trans rfl
    have f60 : w2.frozen? ⟨w.heap.size + 1, 0, none⟩ = false := blk_frozen X6.out 0
    have f61 : w2.frozen? ⟨w.heap.size + 1, 1, none⟩ = false := blk_frozen X6.out 1
    go_region_with ((go_at_call 61; refine (rdnumX_c g bs a1 e1 w0 _ (by first | exact H1.out | exact H1.out.drew) (by exact H2.out.drew) (by first | exact HO.out | exact fun _ => HO.out trivial) HBS.out).mono ?_; rintro en w5 ⟨rfl, h1, h2, h3⟩; have x6' := h3.blk X6.out (by omega) (by simp); have hk5 := keep_cell h3 hk (by simp; omega); have k65 : w5.cell? ⟨w.heap.size + 1, 0, none⟩ = some (.int .u64 0) := (blk_cell x6' 0).trans rfl; have k65' : w5.cell? ⟨w.heap.size + 1, 1, none⟩ = some (.int .u64 0) := (blk_cell x6' 1).trans rfl; have f65 := blk_frozen x6' 0; have f65' := blk_frozen x6' 1; have J1 := Lib.hid h1; have J2 := Lib.hid h2; have J3 := Lib.hid h3; have J6 := Lib.hid x6'; clear h1 h2 h3 x6'))
    all_goals go_wp2_with fail
    all_goals
      refine bodyPost_ret (v := .agg #[.int .u64 (IntKind.u64.wrap (k + d)), .int .u64 (numX bs (a1) (e1)).1]) (by simp [results, Try.results62, go_sem, k65, k65', f65, f65', J6.out]) rfl ?_
      have hRR := HR.out
      rw [hRR]
      have hng : g ≠ w.heap.size + 1 := by omega
      exact ⟨rfl, (J1.out.far (p := ⟨w.heap.size + 1, 0, none⟩) hng _).far (p := ⟨w.heap.size + 1, 1, none⟩) hng _, (J2.out.setCell (by have := HB.out.size; simp; omega) _).setCell (by have := HB.out.size; simp; omega) _, keep_far (keep_far (H3.out.trans J3.out (.inl rfl)) (p := ⟨w.heap.size + 1, 0, none⟩) (by simp) _) (p := ⟨w.heap.size + 1, 1, none⟩) (by simp) _⟩
  · go_wp2_with fail
    have k60 : w2.cell? ⟨w.heap.size + 1, 0, none⟩ = some (.int .u64 0) := (blk_cell X6.out 0).trans rfl
    have k61 : w2.cell? ⟨w.heap.size + 1, 1, none⟩ = some (.int .u64 0) := (blk_cell X6.out 1).trans rfl
    have f60 : w2.frozen? ⟨w.heap.size + 1, 0, none⟩ = false := blk_frozen X6.out 0
    have f61 : w2.frozen? ⟨w.heap.size + 1, 1, none⟩ = false := blk_frozen X6.out 1
    go_region_with ((go_at_call 61; refine (rdnumX_c g bs a1 e1 w0 _ (by first | exact H1.out | exact H1.out.drew) (by exact H2.out.drew) (by first | exact HO.out | exact fun _ => HO.out trivial) HBS.out).mono ?_; rintro en w5 ⟨rfl, h1, h2, h3⟩; have x6' := h3.blk X6.out (by omega) (by simp); have hk5 := keep_cell h3 hk (by simp; omega); have k65 : w5.cell? ⟨w.heap.size + 1, 0, none⟩ = some (.int .u64 0) := (blk_cell x6' 0).trans rfl; have k65' : w5.cell? ⟨w.heap.size + 1, 1, none⟩ = some (.int .u64 0) := (blk_cell x6' 1).trans rfl; have f65 := blk_frozen x6' 0; have f65' := blk_frozen x6' 1; have J1 := Lib.hid h1; have J2 := Lib.hid h2; have J3 := Lib.hid h3; have J6 := Lib.hid x6'; clear h1 h2 h3 x6'))
    all_goals go_wp2_with fail
    all_goals
      refine bodyPost_ret (v := .agg #[.int .u64 (IntKind.u64.wrap (k + d)), .int .u64 (numX bs (a1) (e1)).1]) (by simp [results, Try.results62, go_sem, k65, k65', f65, f65', J6.out]) rfl ?_
      have hRR := HR.out
      rw [hRR]
      have hng : g ≠ w.heap.size + 1 := by omega
      exact ⟨rfl, (J1.out.far (p := ⟨w.heap.size + 1, 0, none⟩) hng _).far (p := ⟨w.heap.size + 1, 1, none⟩) hng _, (J2.out.setCell (by have := HB.out.size; simp; omega) _).setCell (by have := HB.out.size; simp; omega) _, keep_far (keep_far (H3.out.trans J3.out (.inl rfl)) (p := ⟨w.heap.size + 1, 0, none⟩) (by simp) _) (p := ⟨w.heap.size + 1, 1, none⟩) (by simp) _⟩
  · go_wp2_with fail
    go_at_call 63
    refine (dump_reader_fail.calls g bs _ 0 271 at' at' 271 w0 _ H1.out H2.out rfl).mono ?_
    rintro en w3 ⟨rfl, h1, h2, h3⟩
    have x6 := h3.blk X6.out (by omega) (by simp)
    have hk3 := keep_cell h3 hk (by simp; omega)
    replace X6 := Lib.hid x6
    replace H1 := Lib.hid h1
    replace H2 := Lib.hid h2
    replace H3 := Lib.hid (H3.out.trans h3 (.inl rfl))
    have HO := Lib.hid (show (271 : Int) = 0 → 0 ≤ at' ∧ at' ≤ bs.length from fun h => absurd h (by decide))
    clear h1 h2 h3 x6 hk d2
    have hk := hk3
    clear hk3
    go_wp2_with fail
    have k60 : w3.cell? ⟨w.heap.size + 1, 0, none⟩ = some (.int .u64 0) := (blk_cell X6.out 0).trans rfl
    have k61 : w3.cell? ⟨w.heap.size + 1, 1, none⟩ = some (.int .u64 0) := (blk_cell X6.out 1).trans rfl
    have f60 : w3.frozen? ⟨w.heap.size + 1, 0, none⟩ = false := blk_frozen X6.out 0
    have f61 : w3.frozen? ⟨w.heap.size + 1, 1, none⟩ = false := blk_frozen X6.out 1
    go_region_with ((go_at_call 61; refine (rdnumX_c g bs at' 271 w0 _ (by first | exact H1.out | exact H1.out.drew) (by exact H2.out.drew) (by first | exact HO.out | exact fun _ => HO.out trivial) HBS.out).mono ?_; rintro en w5 ⟨rfl, h1, h2, h3⟩; have x6' := h3.blk X6.out (by omega) (by simp); have hk5 := keep_cell h3 hk (by simp; omega); have k65 : w5.cell? ⟨w.heap.size + 1, 0, none⟩ = some (.int .u64 0) := (blk_cell x6' 0).trans rfl; have k65' : w5.cell? ⟨w.heap.size + 1, 1, none⟩ = some (.int .u64 0) := (blk_cell x6' 1).trans rfl; have f65 := blk_frozen x6' 0; have f65' := blk_frozen x6' 1; have J1 := Lib.hid h1; have J2 := Lib.hid h2; have J3 := Lib.hid h3; have J6 := Lib.hid x6'; clear h1 h2 h3 x6'))
    all_goals go_wp2_with fail
    all_goals
      refine bodyPost_ret (v := .agg #[.int .u64 (IntKind.u64.wrap (k + d)), .int .u64 (numX bs (at') (271)).1]) (by simp [results, Try.results62, go_sem, k65, k65', f65, f65', J6.out]) rfl ?_
      have hRR := HR.out
      rw [hRR]
      have hng : g ≠ w.heap.size + 1 := by omega
      exact ⟨rfl, (J1.out.far (p := ⟨w.heap.size + 1, 0, none⟩) hng _).far (p := ⟨w.heap.size + 1, 1, none⟩) hng _, (J2.out.setCell (by have := HB.out.size; simp; omega) _).setCell (by have := HB.out.size; simp; omega) _, keep_far (keep_far (H3.out.trans J3.out (.inl rfl)) (p := ⟨w.heap.size + 1, 0, none⟩) (by simp) _) (p := ⟨w.heap.size + 1, 1, none⟩) (by simp) _⟩
  · go_wp2_with fail
    go_at_call 63
    refine (dump_reader_fail.calls g bs _ 0 271 at' at' 271 w0 _ H1.out H2.out rfl).mono ?_
    rintro en w3 ⟨rfl, h1, h2, h3⟩
    have x6 := h3.blk X6.out (by omega) (by simp)
    have hk3 := keep_cell h3 hk (by simp; omega)
    replace X6 := Lib.hid x6
    replace H1 := Lib.hid h1
    replace H2 := Lib.hid h2
    replace H3 := Lib.hid (H3.out.trans h3 (.inl rfl))
    have HO := Lib.hid (show (271 : Int) = 0 → 0 ≤ at' ∧ at' ≤ bs.length from fun h => absurd h (by decide))
    clear h1 h2 h3 x6 hk d2
    have hk := hk3
    clear hk3
    go_wp2_with fail
    have k60 : w3.cell? ⟨w.heap.size + 1, 0, none⟩ = some (.int .u64 0) := (blk_cell X6.out 0).trans rfl
    have k61 : w3.cell? ⟨w.heap.size + 1, 1, none⟩ = some (.int .u64 0) := (blk_cell X6.out 1).trans rfl
    have f60 : w3.frozen? ⟨w.heap.size + 1, 0, none⟩ = false := blk_frozen X6.out 0
    have f61 : w3.frozen? ⟨w.heap.size + 1, 1, none⟩ = false := blk_frozen X6.out 1
    go_region_with ((go_at_call 61; refine (rdnumX_c g bs at' 271 w0 _ (by first | exact H1.out | exact H1.out.drew) (by exact H2.out.drew) (by first | exact HO.out | exact fun _ => HO.out trivial) HBS.out).mono ?_; rintro en w5 ⟨rfl, h1, h2, h3⟩; have x6' := h3.blk X6.out (by omega) (by simp); have hk5 := keep_cell h3 hk (by simp; omega); have k65 : w5.cell? ⟨w.heap.size + 1, 0, none⟩ = some (.int .u64 0) := (blk_cell x6' 0).trans rfl; have k65' : w5.cell? ⟨w.heap.size + 1, 1, none⟩ = some (.int .u64 0) := (blk_cell x6' 1).trans rfl; have f65 := blk_frozen x6' 0; have f65' := blk_frozen x6' 1; have J1 := Lib.hid h1; have J2 := Lib.hid h2; have J3 := Lib.hid h3; have J6 := Lib.hid x6'; clear h1 h2 h3 x6'))
    all_goals go_wp2_with fail
    all_goals
      refine bodyPost_ret (v := .agg #[.int .u64 (IntKind.u64.wrap (k + d)), .int .u64 (numX bs (at') (271)).1]) (by simp [results, Try.results62, go_sem, k65, k65', f65, f65', J6.out]) rfl ?_
      have hRR := HR.out
      rw [hRR]
      have hng : g ≠ w.heap.size + 1 := by omega
      exact ⟨rfl, (J1.out.far (p := ⟨w.heap.size + 1, 0, none⟩) hng _).far (p := ⟨w.heap.size + 1, 1, none⟩) hng _, (J2.out.setCell (by have := HB.out.size; simp; omega) _).setCell (by have := HB.out.size; simp; omega) _, keep_far (keep_far (H3.out.trans J3.out (.inl rfl)) (p := ⟨w.heap.size + 1, 0, none⟩) (by simp) _) (p := ⟨w.heap.size + 1, 1, none⟩) (by simp) _⟩
  · go_wp2_with fail
    have k60 : w2.cell? ⟨w.heap.size + 1, 0, none⟩ = some (.int .u64 0) := (blk_cell X6.out 0).trans rfl
    have k61 : w2.cell? ⟨w.heap.size + 1, 1, none⟩ = some (.int .u64 0) := (blk_cell X6.out 1).trans rfl
    have f60 : w2.frozen? ⟨w.heap.size + 1, 0, none⟩ = false := blk_frozen X6.out 0
    have f61 : w2.frozen? ⟨w.heap.size + 1, 1, none⟩ = false := blk_frozen X6.out 1
    go_region_with ((go_at_call 61; refine (rdnumX_c g bs a1 0 w0 _ (by first | exact H1.out | exact H1.out.drew) (by exact H2.out.drew) (by first | exact HO.out | exact fun _ => HO.out trivial) HBS.out).mono ?_; rintro en w5 ⟨rfl, h1, h2, h3⟩; have x6' := h3.blk X6.out (by omega) (by simp); have hk5 := keep_cell h3 hk (by simp; omega); have k65 : w5.cell? ⟨w.heap.size + 1, 0, none⟩ = some (.int .u64 0) := (blk_cell x6' 0).trans rfl; have k65' : w5.cell? ⟨w.heap.size + 1, 1, none⟩ = some (.int .u64 0) := (blk_cell x6' 1).trans rfl; have f65 := blk_frozen x6' 0; have f65' := blk_frozen x6' 1; have J1 := Lib.hid h1; have J2 := Lib.hid h2; have J3 := Lib.hid h3; have J6 := Lib.hid x6'; clear h1 h2 h3 x6'))
    all_goals go_wp2_with fail
    all_goals
      refine bodyPost_ret (v := .agg #[.int .u64 (IntKind.u64.wrap (k + d)), .int .u64 (numX bs (a1) (0)).1]) (by simp [results, Try.results62, go_sem, k65, k65', f65, f65', J6.out]) rfl ?_
      have hRR := HR.out
      rw [hRR]
      have hng : g ≠ w.heap.size + 1 := by omega
      exact ⟨rfl, (J1.out.far (p := ⟨w.heap.size + 1, 0, none⟩) hng _).far (p := ⟨w.heap.size + 1, 1, none⟩) hng _, (J2.out.setCell (by have := HB.out.size; simp; omega) _).setCell (by have := HB.out.size; simp; omega) _, keep_far (keep_far (H3.out.trans J3.out (.inl rfl)) (p := ⟨w.heap.size + 1, 0, none⟩) (by simp) _) (p := ⟨w.heap.size + 1, 1, none⟩) (by simp) _⟩
end Go.Proofs.Ythblincfnfpgbaa.Q
