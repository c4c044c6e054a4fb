import Derived.Test.YthblincfnfpgbaaQxRf
import Derived.Test.YthblincfnfpgbaaQxPut
import Derived.Test.YthblincfnfpgbaaQxPB
namespace Go.Proofs.Ythblincfnfpgbaa.Q
open Go.RowKit Go.Proofs.YthblincfnfpgbaaW.PrintWords Go.Proofs.YthblincfnfpgbaaW.PrintLast Go.Proofs.YthblincfnfpgbaaW.PrintMore
set_option linter.unusedVariables false
set_option linter.unusedSimpArgs false
theorem numN_small (m : Nat) (v : Int) (h0 : 0 ≤ v) (h : v < 128) : numN m v = [v] := by
  cases m with
  | zero => rw [numN, Int.emod_eq_of_lt h0 (by omega)]
  | succ m => rw [numN, if_neg (by omega), Int.emod_eq_of_lt h0 (by omega)]
theorem numN_big (m : Nat) (v : Int) (h : 128 ≤ v) : numN (m + 1) v = (v % 128 + 128) :: numN m (v / 128) := by
  rw [numN, if_pos h, or128 v (by omega)]
theorem pow_pos7 (i : Nat) : (0 : Int) < 2 ^ (7 * i) := Int.pow_pos (by decide)
theorem pow63 : (2 : Int) ^ (7 * 9) = 9223372036854775808 := by decide
/-- A number that was put is read. -/
theorem num_round (m : Nat) : ∀ (i : Nat) (a x v : Int) (rest : List Int), m + i = 9 → 0 ≤ v → v * 2 ^ (7 * i) < 18446744073709551616 → (0 < i → 0 < v) → numR i a x (numN m v ++ rest) = (x + v * 2 ^ (7 * i), a + (numN m v).length, 0) := by
  induction m with
  | zero =>
    intro i a x v rest hm h0 hv hp
    obtain rfl : i = 9 := by omega
    have h2 : v < 2 := by rw [pow63] at hv; omega
    have h3 := hp (by omega)
    rw [numN_small 0 v h0 (by omega), List.singleton_append, numR, if_neg (by omega), if_pos (by omega), Int.emod_eq_of_lt h0 (by omega)]
    rfl
  | succ m ih =>
    intro i a x v rest hm h0 hv hp
    by_cases h : 128 ≤ v
    · have e : (v % 128 + 128) % 128 = v % 128 := by omega
      have e2 : v * 2 ^ (7 * i) = (v % 128) * 2 ^ (7 * i) + (v / 128) * 2 ^ (7 * (i + 1)) := by
        rw [pow_split]
        generalize (2 : Int) ^ (7 * i) = P
        have : v = v % 128 + v / 128 * 128 := by omega
        conv => lhs; rw [this, Int.add_mul]
        rw [Int.mul_assoc (v / 128) 128 P, Int.mul_comm 128 P]
      have h1 : 0 ≤ v % 128 * 2 ^ (7 * i) := Int.mul_nonneg (by omega) (Int.le_of_lt (pow_pos7 i))
      rw [numN_big m v h, List.cons_append, numR, if_neg (by omega), if_neg (by omega), e, ih (i + 1) (a + 1) _ (v / 128) rest (by omega) (by omega) (by omega) (fun _ => by omega), e2]
      simp only [List.length_cons, Prod.mk.injEq, and_true]
      omega
    · have hi9 : i ≠ 9 := by omega
      have hz : ¬ ((0 < i ∧ v = 0) ∨ (i = 9 ∧ 1 < v)) := by
        rintro (⟨h1, h2⟩ | ⟨h1, h2⟩)
        · have := hp h1; omega
        · omega
      rw [numN_small (m + 1) v h0 (by omega), List.singleton_append, numR, if_neg hz, if_pos (by omega), Int.emod_eq_of_lt h0 (by omega)]
      rfl
/-- What is read as a number was put so. -/
theorem num_canon (l : List Int) (hl : ∀ c ∈ l, 0 ≤ c ∧ c < 256) : ∀ (i : Nat) (a x y a' : Int), i ≤ 9 → numR i a x l = (y, a', 0) →
    ∃ v rest, l = numN (9 - i) v ++ rest ∧ a' = a + (numN (9 - i) v).length ∧ y = x + v * 2 ^ (7 * i) ∧ 0 ≤ v ∧ (0 < i → 0 < v) ∧ v * 2 ^ (7 * i) < 18446744073709551616 := by
  induction l with
  | nil => intro i a x y a' hi h; rw [numR] at h; simp at h
  | cons c l ih =>
    intro i a x y a' hi h
    have hc := hl c (by simp)
    rw [numR] at h
    split at h
    · simp at h
    · rename_i hb
      split at h
      · rename_i h128
        simp only [Prod.mk.injEq, and_true] at h
        refine ⟨c, l, ?_, ?_, ?_, hc.1, fun hp => ?_, ?_⟩
        · rw [numN_small _ c hc.1 h128]; rfl
        · rw [numN_small _ c hc.1 h128, ← h.2]; rfl
        · rw [← h.1, Int.emod_eq_of_lt hc.1 h128]
        · rcases Int.lt_or_eq_of_le hc.1 with h | h
          · exact h
          · exact absurd (.inl ⟨hp, h.symm⟩) hb
        · by_cases h9 : i = 9
          · subst h9
            rw [pow63]
            have : c ≤ 1 := by by_cases h : 1 < c; exact absurd (.inr ⟨rfl, h⟩) hb; omega
            omega
          · have h1 : (2 : Int) ^ (7 * i) ≤ 2 ^ 56 := by exact_mod_cast Nat.pow_le_pow_right (n := 2) (by decide) (show 7 * i ≤ 56 by omega)
            have h3 : (2 : Int) ^ 56 = 72057594037927936 := by decide
            have h4 : c * 2 ^ (7 * i) ≤ 127 * 2 ^ (7 * i) := Int.mul_le_mul_of_nonneg_right (by omega) (Int.le_of_lt (pow_pos7 i))
            omega
      · rename_i h128
        have h9 : i ≠ 9 := fun h => hb (.inr ⟨h, by omega⟩)
        obtain ⟨v, rest, e1, e2, e3, e4, e5, e6⟩ := ih (fun d hd => hl d (by simp [hd])) (i + 1) (a + 1) _ y a' (by omega) h
        have hv := e5 (by omega)
        have ec : c % 128 = c - 128 := by omega
        have ev : (c - 128 + 128 * v) % 128 = c - 128 := by omega
        have ed : (c - 128 + 128 * v) / 128 = v := by omega
        have hN : numN (9 - i) (c - 128 + 128 * v) = c :: numN (9 - (i + 1)) v := by
          rw [show 9 - i = (9 - (i + 1)) + 1 by omega, numN_big _ _ (by omega), ev, ed]
          congr 1
          omega
        have hpw : (c - 128 + 128 * v) * 2 ^ (7 * i) = (c - 128) * 2 ^ (7 * i) + v * 2 ^ (7 * (i + 1)) := by
          rw [pow_split, Int.add_mul, Int.mul_comm 128 v, Int.mul_assoc, Int.mul_comm 128]
        have hb1 := e6
        refine ⟨c - 128 + 128 * v, rest, ?_, ?_, ?_, by omega, fun _ => by omega, ?_⟩
        · rw [hN, e1]; rfl
        · rw [hN, e2, List.length_cons]; omega
        · rw [e3, hpw, ec]; omega
        · rw [hpw]
          -- below 2^64, for the lower digits lie below 2^(7 (i + 1))
          rw [pow_split] at hb1 ⊢
          have hP := pow_pos7 i
          have hdiv : ∃ q : Int, 18446744073709551616 = q * (2 ^ (7 * i) * 128) ∨ i = 8 := by
            by_cases h8 : i = 8
            · exact ⟨0, .inr h8⟩
            · exact ⟨2 ^ (64 - 7 * (i + 1)), .inl (by
                rw [← pow_split, ← Int.pow_add, show 64 - 7 * (i + 1) + 7 * (i + 1) = 64 by omega]; rfl)⟩
          obtain ⟨q, hq | rfl⟩ := hdiv
          · rw [hq] at hb1 ⊢
            generalize (2 : Int) ^ (7 * i) = P at *
            have hvq : v < q := by
              by_cases h : v < q
              · exact h
              · have := Int.mul_le_mul_of_nonneg_right (show q ≤ v by omega) (show 0 ≤ P * 128 by omega)
                omega
            have h1 : (v + 1) * (P * 128) ≤ q * (P * 128) := Int.mul_le_mul_of_nonneg_right (by omega) (by omega)
            have h2 : (c - 128) * P ≤ 127 * P := Int.mul_le_mul_of_nonneg_right (by omega) (by omega)
            rw [Int.add_mul, Int.one_mul] at h1
            omega
          · have p56 : (2 : Int) ^ (7 * 8) = 72057594037927936 := by decide
            rw [p56] at hb1 ⊢
            omega
theorem numS_round (a v : Int) (rest : List Int) (h0 : 0 ≤ v) (hv : v < 18446744073709551616) : numR 0 a 0 (numS v ++ rest) = (v, a + (numS v).length, 0) := by
  have := num_round 9 0 a 0 v rest rfl h0 (by simpa using hv) (fun h => absurd h (by omega))
  simpa [numS] using this
theorem numS_canon (l : List Int) (hl : ∀ c ∈ l, 0 ≤ c ∧ c < 256) (a y a' : Int) (h : numR 0 a 0 l = (y, a', 0)) : ∃ rest, l = numS y ++ rest ∧ a' = a + (numS y).length ∧ 0 ≤ y ∧ y < 18446744073709551616 := by
  obtain ⟨v, rest, e1, e2, e3, e4, e5, e6⟩ := num_canon l hl 0 a 0 y a' (by omega) h
  obtain rfl : y = v := by simpa using e3
  exact ⟨rest, e1, e2, e4, by simpa using e6⟩
/-- Keys rise above last (the first one need not). -/
def chain (first : Bool) (last : Int) : List S82 → Prop
  | [] => True
  | p :: l => wfP p ∧ (first = false → last < p.f0) ∧ chain false p.f0 l
theorem chain_of (l : List S82) (hw : ∀ p ∈ l, wfP p) : ∀ (first : Bool) (last : Int), risingS l = true → (∀ p ∈ l.head?, first = false → last < p.f0) → chain first last l := by
  induction l with
  | nil => intro _ _ _ _; trivial
  | cons p l ih =>
    intro first last hr hh
    refine ⟨hw p (by simp), hh p (by simp), ih (fun q hq => hw q (by simp [hq])) false p.f0 ?_ ?_⟩
    · cases l with
      | nil => rfl
      | cons q l =>
        have : (decide (p.f0 < q.f0) && risingS (q :: l)) = true := hr
        rw [Bool.and_eq_true] at this
        exact this.2
    · intro q hq _
      cases l with
      | nil => simp at hq
      | cons r l =>
        have : (decide (p.f0 < r.f0) && risingS (r :: l)) = true := hr
        rw [Bool.and_eq_true, decide_eq_true_eq] at this
        obtain rfl : r = q := by simpa using hq
        exact this.1
theorem chain_rising (l : List S82) : ∀ (first : Bool) (last : Int), chain first last l → risingS l = true ∧ ∀ p ∈ l, wfP p := by
  induction l with
  | nil => intro _ _ _; exact ⟨rfl, by simp⟩
  | cons p l ih =>
    intro first last h
    obtain ⟨h1, h2, h3⟩ := h
    obtain ⟨h4, h5⟩ := ih false p.f0 h3
    refine ⟨?_, fun q hq => ?_⟩
    · cases l with
      | nil => rfl
      | cons q l =>
        show (decide (p.f0 < q.f0) && risingS (q :: l)) = true
        rw [h4, decide_eq_true (h3.2.1 rfl)]
        rfl
    · rcases List.mem_cons.1 hq with rfl | hq
      · exact h1
      · exact h5 q hq
theorem drop_add (bs A B : List Int) (n : Nat) (h : bs.drop n = A ++ B) : bs.drop (n + A.length) = B := by
  rw [← List.drop_drop, h, List.drop_left]
theorem drop_len {bs A B : List Int} {n : Nat} (h : bs.drop n = A ++ B) (hA : 0 < A.length) : n + A.length ≤ bs.length := by
  have := congrArg List.length h
  rw [List.length_drop, List.length_append] at this
  omega
theorem numX_round (bs rest : List Int) (at' : Nat) (v : Int) (h0 : 0 ≤ v) (hv : v < 18446744073709551616) (h : bs.drop at' = numS v ++ rest) : numX bs at' 0 = (v, ((at' + (numS v).length : Nat) : Int), 0) := by
  unfold numX
  rw [if_pos rfl, Int.toNat_natCast, h, numS_round at' v rest h0 hv]
  simp
/-- Pairs that were put are read. -/
theorem decL_round (l : List S82) : ∀ (bs rest : List Int) (k at' : Nat) (last : Int) (acc : List S82), (acc = [] → last = 0) → 0 ≤ last → last < 18446744073709551616 → chain ((acc.length : Int) == 0) last l → bs.drop at' = pairsS last l ++ rest → l.length ≤ k → (l.length : Int) < 18446744073709551616 →
    decL bs k l.length at' 0 last acc = (acc ++ l, ((at' + (pairsS last l).length : Nat) : Int), 0) := by
  induction l with
  | nil =>
    intro bs rest k at' last acc _ _ _ _ _ _ _
    rw [decL_end _ _ _ _ _ _ _ (fun h => absurd h.1 (by simp)), List.append_nil]
    rfl
  | cons p l ih =>
    intro bs rest k at' last acc hl0 h0 h1 hc hd hk hb
    obtain ⟨k, rfl⟩ : ∃ m, k = m + 1 := ⟨k - 1, by simp at hk; omega⟩
    obtain ⟨hw, hlt, hc'⟩ := hc
    unfold wfP at hw
    have hle : last ≤ p.f0 := by
      by_cases ha : acc = []
      · have := hl0 ha; omega
      · have : ((acc.length : Int) == 0) = false := by rw [beq_eq_false_iff_ne]; intro h; exact ha (List.eq_nil_of_length_eq_zero (by omega))
        exact Int.le_of_lt (hlt this)
    have hdd : IntKind.u64.wrap (p.f0 - last) = p.f0 - last := u64_wrap_id _ (by omega) (by omega)
    have hpk : pairsS last (p :: l) = numS (p.f0 - last) ++ (numS p.f1 ++ pairsS p.f0 l) := by rw [pairsS, hdd, List.append_assoc]
    rw [hpk, List.append_assoc, List.append_assoc] at hd
    have n1 := numX_round bs _ at' (p.f0 - last) (by omega) (by omega) hd
    have hd2 := drop_add bs _ _ at' hd
    have n2 := numX_round bs _ (at' + (numS (p.f0 - last)).length) p.f1 hw.2.2.1 hw.2.2.2 hd2
    have hd3 := drop_add bs _ _ _ hd2
    have hkey : IntKind.u64.wrap (last + (p.f0 - last)) = p.f0 := by rw [show last + (p.f0 - last) = p.f0 by omega]; exact u64_wrap_id _ hw.1 hw.2.1
    have hP : pairX bs (at' : Int) 0 last ((acc.length : Int) == 0) = ((p.f0, p.f1), ((at' + (numS (p.f0 - last)).length + (numS p.f1).length : Nat) : Int), 0) := by
      unfold pairX
      dsimp only
      rw [n1]
      dsimp only
      rw [hkey, if_neg, n2]
      rintro ⟨h2, -, h3⟩
      have := hlt h2
      omega
    rw [decL, if_pos ⟨by simp, rfl⟩, hP]
    dsimp only
    rw [show IntKind.u64.wrap (((p :: l).length : Int) - 1) = (l.length : Int) by rw [show (((p :: l).length : Nat) : Int) - 1 = (l.length : Int) by simp]; exact u64_wrap_id _ (by omega) (by simp at hb; omega),
      ih bs rest k _ p.f0 (acc ++ [p]) (fun h => absurd h (by simp)) hw.1 hw.2.1 ?_ hd3 (by simp at hk; omega) (by simp at hb; omega)]
    · simp only [Prod.mk.injEq, and_true]
      refine ⟨by simp, ?_⟩
      rw [hpk, List.length_append, List.length_append]
      omega
    · have : (((acc ++ [p]).length : Int) == 0) = false := by rw [beq_eq_false_iff_ne]; simp; omega
      rw [this]
      exact hc'
/-- What is read as pairs was put so. -/
theorem decL_canon (bs : List Int) (hbs : ∀ c ∈ bs, 0 ≤ c ∧ c < 256) (k : Nat) : ∀ (n : Int) (at' : Nat) (last : Int) (acc L : List S82) (a' : Int), 0 ≤ n → n < 18446744073709551616 → at' ≤ bs.length → bs.length - at' < k → (acc = [] → last = 0) → 0 ≤ last → last < 18446744073709551616 →
    decL bs k n at' 0 last acc = (L, a', 0) → ∃ l rest, L = acc ++ l ∧ (l.length : Int) = n ∧ bs.drop at' = pairsS last l ++ rest ∧ a' = ((at' + (pairsS last l).length : Nat) : Int) ∧ chain ((acc.length : Int) == 0) last l := by
  induction k with
  | zero => intro n at' last acc L a' _ _ h1 h2; omega
  | succ k ih =>
    intro n at' last acc L a' hn0 hn1 ha hk hl0 h0 h1 h
    by_cases hn : 0 < n
    · rw [decL, if_pos ⟨hn, rfl⟩] at h
      have hpo := pairX_ok (bs := bs) (at' := at') (e := 0) (last := last) (first := ((acc.length : Int) == 0)) (fun _ => ⟨by omega, by omega⟩)
      -- the pair went well
      have he : (pairX bs (at' : Int) 0 last ((acc.length : Int) == 0)).2.2 = 0 := by
        by_cases hz : (pairX bs (at' : Int) 0 last ((acc.length : Int) == 0)).2.2 = 0
        · exact hz
        · rw [decL_end _ _ _ _ _ _ _ (fun hh => hz hh.2)] at h
          simp only [Prod.mk.injEq] at h
          exact absurd h.2.2 hz
      have hpo' := hpo he
      have hsh : ∃ d v : Int, ∃ r2 : List Int, pairX bs (at' : Int) 0 last ((acc.length : Int) == 0) = ((last + d, v), ((at' + (numS d).length + (numS v).length : Nat) : Int), 0) ∧ bs.drop at' = numS d ++ (numS v ++ r2) ∧ 0 ≤ d ∧ last + d < 18446744073709551616 ∧ 0 ≤ v ∧ v < 18446744073709551616 ∧ (((acc.length : Int) == 0) = false → 0 < d) := by
        clear h ih hpo hpo'
        unfold pairX at he ⊢
        dsimp only at he ⊢
        generalize hN : numX bs (at' : Int) 0 = N at *
        obtain ⟨d, a1, e1⟩ := N
        dsimp only at he ⊢
        by_cases hc : ((acc.length : Int) == 0) = false ∧ e1 = 0 ∧ (d = 0 ∨ IntKind.u64.wrap (last + d) < last)
        · rw [if_pos hc, numX_stay (show (271 : Int) ≠ 0 by decide)] at he
          exact absurd he (show ¬ (271 : Int) = 0 by decide)
        · rw [if_neg hc] at he ⊢
          dsimp only at he ⊢
          have he1 : e1 = 0 := by
            by_cases hz : e1 = 0
            · exact hz
            · rw [numX_stay hz] at he
              exact absurd he hz
          subst he1
          have hN' : numR 0 (at' : Int) 0 (bs.drop at') = (d, a1, 0) := by unfold numX at hN; rw [if_pos rfl, Int.toNat_natCast] at hN; exact hN
          obtain ⟨r1, e2, e3, e4, e5⟩ := numS_canon _ (fun c hc => hbs c (List.mem_of_mem_drop hc)) _ _ _ hN'
          obtain rfl : a1 = ((at' + (numS d).length : Nat) : Int) := by omega
          have hd1 := drop_add bs _ _ at' e2
          generalize hM : numX bs ((at' + (numS d).length : Nat) : Int) 0 = M at *
          obtain ⟨v, a2, e6⟩ := M
          dsimp only at he ⊢
          subst he
          have hM' : numR 0 ((at' + (numS d).length : Nat) : Int) 0 (bs.drop (at' + (numS d).length)) = (v, a2, 0) := by unfold numX at hM; rw [if_pos rfl, Int.toNat_natCast] at hM; exact hM
          obtain ⟨r2, f2, f3, f4, f5⟩ := numS_canon _ (fun c hc => hbs c (List.mem_of_mem_drop hc)) _ _ _ hM'
          rw [hd1] at f2
          have hsum : last + d < 18446744073709551616 := by
            by_cases hf : ((acc.length : Int) == 0) = false
            · have h2 : ¬ IntKind.u64.wrap (last + d) < last := fun hh => hc ⟨hf, rfl, .inr hh⟩
              rw [IntKind.wrap_u64] at h2
              omega
            · have : acc = [] := by
                have : ((acc.length : Int) == 0) = true := by simpa using hf
                rw [beq_iff_eq] at this
                exact List.eq_nil_of_length_eq_zero (by omega)
              have := hl0 this
              omega
          refine ⟨d, v, r2, ?_, ?_, e4, hsum, f4, f5, fun hf => ?_⟩
          · rw [u64_wrap_id _ (by omega) hsum, show a2 = ((at' + (numS d).length + (numS v).length : Nat) : Int) by omega]
          · rw [e2, f2]
          · have h2 : ¬ d = 0 := fun hh => hc ⟨hf, rfl, .inl hh⟩
            omega
      obtain ⟨d, v, r2, hP, hd, g1, g2, g3, g4, g5⟩ := hsh
      rw [hP] at h hpo'
      dsimp only at h hpo'
      rw [u64_wrap_id (n - 1) (by omega) (by omega)] at h
      obtain ⟨l, rest, e1, e2, e3, e4, e5⟩ := ih (n - 1) _ (last + d) _ L a' (by omega) (by omega) (by have := hpo'.2.1; omega) (by have := hpo'.1; omega) (fun hh => absurd hh (by simp)) (by omega) g2 h
      have hd3 : bs.drop (at' + (numS d).length + (numS v).length) = r2 := by
        have := drop_add bs _ _ at' hd
        exact drop_add bs _ _ _ this
      rw [hd3] at e3
      have hpk : pairsS last ((⟨last + d, v⟩ : S82) :: l) = numS d ++ (numS v ++ pairsS (last + d) l) := by
        rw [pairsS, show last + d - last = d by omega, u64_wrap_id d g1 (by omega), List.append_assoc]
      refine ⟨⟨last + d, v⟩ :: l, rest, ?_, ?_, ?_, ?_, ⟨⟨by show 0 ≤ last + d; omega, g2, g3, g4⟩, fun hf => ?_, ?_⟩⟩
      · rw [e1, List.append_assoc]; rfl
      · rw [List.length_cons]; omega
      · rw [hd, hpk, e3]; simp
      · rw [e4, hpk, List.length_append, List.length_append]; omega
      · have := g5 hf
        show last < last + d
        omega
      · have : (((acc ++ [(⟨last + d, v⟩ : S82)]).length : Int) == 0) = false := by rw [beq_eq_false_iff_ne]; simp; omega
        rw [this] at e5
        exact e5
    · rw [decL_end _ _ _ _ _ _ _ (fun hh => hn hh.1)] at h
      simp only [Prod.mk.injEq, and_true] at h
      refine ⟨[], bs.drop at', by rw [List.append_nil]; exact h.1.symm, by simp; omega, rfl, by rw [← h.2]; rfl, trivial⟩
theorem startL_round (rest : List Int) : startX ([83, 72, 85, 49] ++ rest) = (4, 0) := by
  unfold startX
  simp [startL]
theorem startX_canon (bs : List Int) (h : (startX bs).2 = 0) : ∃ rest, bs = [83, 72, 85, 49] ++ rest := by
  unfold startX at h
  match bs with
  | [] => exact absurd h (by decide)
  | [a] => simp only [startL] at h; split at h <;> exact absurd h (by decide)
  | [a, b] => simp only [startL] at h; (repeat' split at h) <;> exact absurd h (by decide)
  | [a, b, c] => simp only [startL] at h; (repeat' split at h) <;> exact absurd h (by decide)
  | a :: b :: c :: d :: l =>
    simp only [startL] at h
    repeat' split at h
    all_goals first | exact absurd h (by decide) | skip
    rename_i h1 h2 h3 h4
    exact ⟨l, by subst h1 h2 h3 h4; rfl⟩
theorem pairs_ge (l : List S82) : ∀ last, l.length ≤ (pairsS last l).length := by
  induction l with
  | nil => intro _; simp
  | cons p l ih =>
    intro last
    have h1 := numN_pos 9 (IntKind.u64.wrap (p.f0 - last))
    have h2 := ih p.f0
    simp only [pairsS, List.length_append, List.length_cons, numS]
    omega
/-- Decode of Encode, with bytes behind it or none. -/
theorem decX_round (l : List S82) (ext : List Int) (hw : ∀ p ∈ l, wfP p) (hr : risingS l = true) (hl : l.length < 4398046511104) : decX (encS l ++ ext) = if ext = [] then (l, 0, 0) else ([], 272, ((encS l).length : Int)) := by
  have hb : encS l ++ ext = [83, 72, 85, 49] ++ (numS l.length ++ (pairsS 0 l ++ (fixedS (sumS 2166136261 (bodyS l)) ++ ext))) := by simp [encS, bodyS]
  have hB : bodyS l = [83, 72, 85, 49] ++ (numS l.length ++ pairsS 0 l) := by simp [bodyS]
  unfold decX
  dsimp only
  have hs : startX (encS l ++ ext) = (4, 0) := by rw [hb]; exact startL_round _
  rw [hs]
  dsimp only
  have hd4 : (encS l ++ ext).drop 4 = numS l.length ++ (pairsS 0 l ++ (fixedS (sumS 2166136261 (bodyS l)) ++ ext)) := by rw [hb]; rfl
  have hn := numX_round (encS l ++ ext) _ 4 (l.length : Int) (by omega) (by omega) hd4
  rw [show ((4 : Nat) : Int) = 4 from rfl] at hn
  rw [hn]
  dsimp only
  have hd5 := drop_add _ _ _ 4 hd4
  have hlen : l.length ≤ (encS l ++ ext).length := by
    have : l.length ≤ (pairsS 0 l).length := pairs_ge l 0
    rw [hb]
    simp only [List.length_append]
    omega
  have hD := decL_round l (encS l ++ ext) _ ((encS l ++ ext).length + 1) (4 + (numS (l.length : Int)).length) 0 [] (fun _ => rfl) (by omega) (by decide) (chain_of l hw true 0 hr (fun p hp h => by cases h)) hd5 (by omega) (by omega)
  rw [hD]
  dsimp only
  have hat : 4 + (numS (l.length : Int)).length + (pairsS 0 l).length = (bodyS l).length := by rw [hB]; simp [List.length_append]; omega
  rw [hat]
  have htake : (encS l ++ ext).take (bodyS l).length = bodyS l := by rw [encS, List.append_assoc, List.take_left]
  have hdrop : (encS l ++ ext).drop (bodyS l).length = fixedS (sumS 2166136261 (bodyS l)) ++ ext := by rw [encS, List.append_assoc, List.drop_left]
  have hfl : ∀ s, (fixedS s).length = 4 := fun _ => rfl
  have htot : (encS l ++ ext).length = (bodyS l).length + (4 + ext.length) := by rw [encS, List.append_assoc, List.length_append, List.length_append, hfl]
  have h4 : ((fixedS (sumS 2166136261 (bodyS l)) ++ ext).take 4 == fixedS (sumS 2166136261 (bodyS l))) = true := by
    rw [beq_iff_eq, ← hfl (sumS 2166136261 (bodyS l)), List.take_left]
  unfold finX
  rw [if_pos rfl, Int.toNat_natCast, htake, hdrop, h4, htot, if_neg (show ¬ ((((bodyS l).length + (4 + ext.length) : Nat) : Int) - ((bodyS l).length : Int) < 4) by omega), if_neg (show ¬ (true = false) by decide)]
  by_cases he : ext = []
  · subst he
    rw [if_neg (show ¬ ((((bodyS l).length + (4 + ([] : List Int).length) : Nat) : Int) - ((bodyS l).length : Int) > 4) by simp only [List.length_nil]; omega), if_pos rfl, if_pos rfl]
    rfl
  · have : 0 < ext.length := List.length_pos_iff.2 he
    rw [if_pos (show ((((bodyS l).length + (4 + ext.length) : Nat) : Int) - ((bodyS l).length : Int) > 4) by omega), if_neg he, if_neg (show ¬ ((272 : Int) = 0) by decide)]
    rw [encS, List.length_append, hfl]
    simp
/-- What Decode takes Encode writes. -/
theorem decX_canon (bs : List Int) (p : List S82) (n : Int) (hbs : ∀ c ∈ bs, 0 ≤ c ∧ c < 256) (hl : bs.length < 4398046511104) (h : decX bs = (p, 0, n)) : risingS p = true ∧ (∀ x ∈ p, wfP x) ∧ encS p = bs ∧ n = 0 := by
  unfold decX at h
  dsimp only at h
  have hok := startX_ok bs
  have hsc := startX_canon bs
  generalize hs : startX bs = s at *
  obtain ⟨a, e⟩ := s
  dsimp only at *
  by_cases he : e = 0
  · subst he
    obtain ⟨rest, rfl⟩ := hsc rfl
    have ha : a = 4 := by rw [startL_round] at hs; injection hs with h1; exact h1.symm
    subst ha
    have hn1 : numX ([83, 72, 85, 49] ++ rest) 4 0 = numR 0 4 0 rest := rfl
    rw [hn1] at h
    generalize hN : numR 0 4 0 rest = N at *
    obtain ⟨m, a1, e1⟩ := N
    dsimp only at *
    by_cases he1 : e1 = 0
    · subst he1
      obtain ⟨r1, e2, e3, e4, e5⟩ := numS_canon _ (fun c hc => hbs c (by simp [hc])) _ _ _ hN
      obtain rfl : a1 = ((4 + (numS m).length : Nat) : Int) := by omega
      have hd1 : ([83, 72, 85, 49] ++ rest).drop (4 + (numS m).length) = r1 := drop_add _ (numS m) r1 4 (by rw [e2]; rfl)
      have hle : 4 + (numS m).length ≤ ([83, 72, 85, 49] ++ rest).length := by rw [e2]; simp; omega
      generalize hD : decL ([83, 72, 85, 49] ++ rest) (([83, 72, 85, 49] ++ rest).length + 1) m ((4 + (numS m).length : Nat) : Int) 0 0 [] = D at *
      obtain ⟨L, a2, e6⟩ := D
      dsimp only at *
      by_cases he6 : e6 = 0
      · subst he6
        obtain ⟨l, r2, f1, f2, f3, f4, f5⟩ := decL_canon _ hbs _ m _ 0 [] L a2 e4 e5 hle (by omega) (fun _ => rfl) (by omega) (by decide) hD
        rw [List.nil_append] at f1
        subst f1
        obtain ⟨g1, g2⟩ := chain_rising L _ _ f5
        rw [hd1] at f3
        have hB : [83, 72, 85, 49] ++ rest = bodyS L ++ r2 := by rw [e2, f3, ← f2]; simp [bodyS]
        have hat : a2 = ((bodyS L).length : Int) := by rw [f4, ← f2]; simp [bodyS, List.length_append]; omega
        subst hat
        have htake : ([83, 72, 85, 49] ++ rest).take (bodyS L).length = bodyS L := by rw [hB, List.take_left]
        have hdrop : ([83, 72, 85, 49] ++ rest).drop (bodyS L).length = r2 := by rw [hB, List.drop_left]
        have htot : ([83, 72, 85, 49] ++ rest).length = (bodyS L).length + r2.length := by rw [hB, List.length_append]
        unfold finX at h
        rw [if_pos rfl, Int.toNat_natCast, htake, hdrop, htot] at h
        by_cases c1 : (((bodyS L).length + r2.length : Nat) : Int) - ((bodyS L).length : Int) < 4
        · rw [if_pos c1] at h
          exact absurd h (by simp)
        · rw [if_neg c1] at h
          by_cases c2 : (r2.take 4 == fixedS (sumS 2166136261 (bodyS L))) = false
          · rw [if_pos c2] at h
            exact absurd h (by simp)
          · rw [if_neg c2] at h
            by_cases c3 : (((bodyS L).length + r2.length : Nat) : Int) - ((bodyS L).length : Int) > 4
            · rw [if_pos c3] at h
              exact absurd h (by simp)
            · rw [if_neg c3, if_pos rfl] at h
              simp only [Prod.mk.injEq, true_and] at h
              obtain ⟨rfl, rfl⟩ := h
              refine ⟨g1, g2, ?_, rfl⟩
              have c4 : r2.take 4 = fixedS (sumS 2166136261 (bodyS L)) := by
                have : (r2.take 4 == fixedS (sumS 2166136261 (bodyS L))) = true := by simpa using c2
                rwa [beq_iff_eq] at this
              rw [List.take_of_length_le (by omega)] at c4
              rw [hB, encS, c4]
      · exfalso
        unfold finX at h
        rw [if_neg he6, if_neg he6] at h
        simp only [Prod.mk.injEq] at h
        exact he6 h.2.1
    · exfalso
      rw [decL_end _ _ _ _ _ _ _ (fun hh => he1 hh.2)] at h
      unfold finX at h
      dsimp only at h
      rw [if_neg he1, if_neg he1] at h
      simp only [Prod.mk.injEq] at h
      exact he1 h.2.1
  · exfalso
    rw [numX_stay he, decL_end _ _ _ _ _ _ _ (fun hh => he hh.2)] at h
    unfold finX at h
    dsimp only at h
    rw [if_neg he, if_neg he] at h
    simp only [Prod.mk.injEq] at h
    exact he h.2.1
end Go.Proofs.Ythblincfnfpgbaa.Q
