import Derived.Test.YthblincfnfpgbaaQx35
import Derived.Test.YthblincfnfpgbaaQx25
import Derived.Test.YthblincfnfpgbaaQxH2
namespace Go.Proofs.Ythblincfnfpgbaa.Q
open Go.RowKit Go.Proofs.YthblincfnfpgbaaW.PrintWords Go.Proofs.YthblincfnfpgbaaW.PrintLast Go.Proofs.YthblincfnfpgbaaW.PrintMore
set_option linter.unusedVariables false
theorem w1 (i : Nat) (h : i < 4398046511104) : wrap64 ((i : Int) + 1) = ((i + 1 : Nat) : Int) := by unfold wrap64; omega
theorem refRight_n (l : List S82) (hl : l.length < 4398046511104) (d : Nat) : ∀ (k i : Nat), i + d = l.length → d < k → 0 < i → shutterref27_right.l0 k l i = some (risingS (l.drop (i - 1))) := by
  induction d with
  | zero =>
    intro k i h hk hi
    obtain ⟨k, rfl⟩ : ∃ m, k = m + 1 := ⟨k - 1, by omega⟩
    simp only [shutterref27_right.l0]
    rw [if_neg (by omega), risingS_end l (i - 1) (by omega)]
  | succ d ih =>
    intro k i h hk hi
    obtain ⟨k, rfl⟩ : ∃ m, k = m + 1 := ⟨k - 1, by omega⟩
    obtain ⟨j, rfl⟩ : ∃ j, i = j + 1 := ⟨i - 1, by omega⟩
    have e : wrap64 (((j + 1 : Nat) : Int) - 1) = (j : Int) := by unfold wrap64; omega
    simp only [shutterref27_right.l0, e]
    rw [if_pos (by omega), if_pos (by omega), if_pos (by omega), if_pos (by omega), rd82 l _ (j + 1) rfl (by omega), rd82 l _ j rfl (by omega), Nat.add_sub_cancel, risingS_drop l j (by omega)]
    by_cases c : l[j + 1].f0 ≤ l[j].f0
    · rw [if_pos c, decide_eq_false (by omega)]
      rfl
    · rw [if_neg c, decide_eq_true (by omega), w1 _ (by omega), ih k (j + 1 + 1) (by omega) (by omega) (by omega)]
      rfl
theorem refRight_f (l : List S82) (hl : l.length < 4398046511104) (k : Nat) (hk : l.length + 1 < k) : shutterref27_right.f k l = some (risingS l) := by
  unfold shutterref27_right.f
  rcases Nat.eq_zero_or_pos l.length with h | h
  · obtain ⟨k, rfl⟩ : ∃ m, k = m + 1 := ⟨k - 1, by omega⟩
    obtain rfl : l = [] := List.eq_nil_of_length_eq_zero h
    rfl
  · have := refRight_n l hl (l.length - 1) k 1 (by omega) (by omega) (by omega)
    exact this
def cv (c : S30) : S102 := ⟨c.f0, c.f1, c.f2, c.f3, c.f4⟩
theorem tf : (true != false) = true := rfl
theorem ft : (false != true) = true := rfl
theorem tt : (true != true) = false := rfl
theorem ff : (false != false) = false := rfl
theorem refDiff_n (a b : List S82) (hl : a.length + b.length < 4398046511104) (d : Nat) : ∀ (k i j : Nat) (acc : List S102), i ≤ a.length → j ≤ b.length → (a.length - i) + (b.length - j) = d → 8 * d + 8 ≤ k → acc.length + d ≤ a.length + b.length →
    shutterref27_Diff.l0 k a b acc i j = some (acc ++ (diffS (a.drop i) (b.drop j)).map cv, 0) := by
  induction d using Nat.strongRecOn with
  | _ d ih =>
    intro k i j acc hi hj hd hk ha
    obtain ⟨k, rfl⟩ : ∃ m, k = m + 7 := ⟨k - 7, by omega⟩
    by_cases h1 : i < a.length
    · have e1 := List.drop_eq_getElem_cons h1
      have r1 := rd82 a (i : Int) i rfl h1
      have i1 : (i : Int) < (a.length : Int) := by omega
      have i2 : (0 : Int) ≤ (i : Int) := by omega
      have i3 : ¬ (i : Int) ≥ (a.length : Int) := by omega
      by_cases h2 : j < b.length
      · have e2 := List.drop_eq_getElem_cons h2
        have r2 := rd82 b (j : Int) j rfl h2
        have j1 : (j : Int) < (b.length : Int) := by omega
        have j2 : (0 : Int) ≤ (j : Int) := by omega
        have j3 : ¬ (j : Int) ≥ (b.length : Int) := by omega
        rw [e1, e2, diffS]
        generalize hx : a[i] = x at *
        generalize hy : b[j] = y at *
        by_cases c1 : x.f0 < y.f0
        · have c2 : decide (x.f0 ≤ y.f0) = true := decide_eq_true (by omega)
          have c3 : decide (y.f0 ≤ x.f0) = false := decide_eq_false (by omega)
          simp only [shutterref27_Diff.l0, shutterref27_Diff.j2, shutterref27_Diff.j3, shutterref27_Diff.j4, shutterref27_Diff.j5, shutterref27_Diff.j6, shutterref27_Diff.j7, i1, i2, i3, j1, j2, j3, r1, r2, c2, c3, if_true, if_false, Bool.false_eq_true, tf, ft, tt, ff]
          rw [if_pos (by omega), w1 i (by omega), ih (d - 1) (by omega) k (i + 1) j _ (by omega) hj (by omega) (by omega) (by simp; omega), if_pos c1, e2]
          simp [cv, chgA]
        · rw [if_neg c1]
          by_cases c4 : y.f0 < x.f0
          · have c2 : decide (x.f0 ≤ y.f0) = false := decide_eq_false (by omega)
            have c3 : decide (y.f0 ≤ x.f0) = true := decide_eq_true (by omega)
            simp only [shutterref27_Diff.l0, shutterref27_Diff.j2, shutterref27_Diff.j3, shutterref27_Diff.j4, shutterref27_Diff.j5, shutterref27_Diff.j6, shutterref27_Diff.j7, i1, i2, i3, j1, j2, j3, r1, r2, c2, c3, if_true, if_false, Bool.false_eq_true, tf, ft, tt, ff]
            rw [if_pos (by omega), w1 j (by omega), ih (d - 1) (by omega) k i (j + 1) _ hi (by omega) (by omega) (by omega) (by simp; omega), if_pos c4, e1]
            simp [cv, chgB]
          · have c2 : decide (x.f0 ≤ y.f0) = true := decide_eq_true (by omega)
            have c3 : decide (y.f0 ≤ x.f0) = true := decide_eq_true (by omega)
            rw [if_neg c4]
            by_cases q : x.f1 = y.f1
            · simp only [shutterref27_Diff.l0, shutterref27_Diff.j2, shutterref27_Diff.j3, shutterref27_Diff.j4, shutterref27_Diff.j5, shutterref27_Diff.j6, shutterref27_Diff.j7, i1, i2, i3, j1, j2, j3, r1, r2, c2, c3, q, if_true, if_false, Bool.false_eq_true, tf, ft, tt, ff]
              rw [w1 i (by omega), w1 j (by omega), ih (d - 2) (by omega) k (i + 1) (j + 1) _ (by omega) (by omega) (by omega) (by omega) (by omega)]
              simp
            · simp only [shutterref27_Diff.l0, shutterref27_Diff.j2, shutterref27_Diff.j3, shutterref27_Diff.j4, shutterref27_Diff.j5, shutterref27_Diff.j6, shutterref27_Diff.j7, i1, i2, i3, j1, j2, j3, r1, r2, c2, c3, q, if_true, if_false, Bool.false_eq_true, tf, ft, tt, ff]
              rw [if_pos (by omega), w1 i (by omega), w1 j (by omega), ih (d - 2) (by omega) k (i + 1) (j + 1) _ (by omega) (by omega) (by omega) (by omega) (by simp; omega)]
              simp [cv, chgAB, q]
      · have j1 : ¬ (j : Int) < (b.length : Int) := by omega
        have j3 : (j : Int) ≥ (b.length : Int) := by omega
        have e2 : b.drop j = [] := List.drop_of_length_le (by omega)
        rw [e1, e2, diffS]
        simp only [shutterref27_Diff.l0, shutterref27_Diff.j2, shutterref27_Diff.j3, shutterref27_Diff.j4, shutterref27_Diff.j5, shutterref27_Diff.j6, shutterref27_Diff.j7, i1, i2, j1, j3, r1, if_true, if_false, Bool.false_eq_true, tf, ft, tt, ff]
        rw [if_pos (by omega), w1 i (by omega), ih (d - 1) (by omega) k (i + 1) j _ (by omega) hj (by omega) (by omega) (by simp; omega), e2]
        simp [cv, chgA]
    · have i1 : ¬ (i : Int) < (a.length : Int) := by omega
      have i3 : (i : Int) ≥ (a.length : Int) := by omega
      have e1 : a.drop i = [] := List.drop_of_length_le (by omega)
      by_cases h2 : j < b.length
      · have e2 := List.drop_eq_getElem_cons h2
        have r2 := rd82 b (j : Int) j rfl h2
        have j1 : (j : Int) < (b.length : Int) := by omega
        have j2 : (0 : Int) ≤ (j : Int) := by omega
        rw [e1, e2, diffS]
        simp only [shutterref27_Diff.l0, shutterref27_Diff.j2, shutterref27_Diff.j3, shutterref27_Diff.j4, shutterref27_Diff.j5, shutterref27_Diff.j6, shutterref27_Diff.j7, i1, i3, j1, j2, r2, decide_true, if_true, if_false, Bool.false_eq_true, tf, ft, tt, ff]
        rw [if_pos (by omega), w1 j (by omega), ih (d - 1) (by omega) k i (j + 1) _ hi (by omega) (by omega) (by omega) (by simp; omega), e1]
        simp [cv, chgB]
      · have j4 : decide ((j : Int) < (b.length : Int)) = false := decide_eq_false (by omega)
        have e2 : b.drop j = [] := List.drop_of_length_le (by omega)
        rw [e1, e2, diffS]
        simp only [shutterref27_Diff.l0, shutterref27_Diff.j2, i1, j4, if_false, Bool.false_eq_true]
        simp
def dump_DiffR (a b : List S82) : List S102 × Int := if risingS a = true then (if risingS b = true then ((diffS a b).map cv, 0) else ([], 52)) else ([], 52)
theorem refDiff_f (a b : List S82) (hl : a.length + b.length < 4398046511104) (k : Nat) (hk : 8 * (a.length + b.length) + 10 < k) : shutterref27_Diff.f k a b = some (dump_DiffR a b) := by
  obtain ⟨k, rfl⟩ : ∃ m, k = m + 1 := ⟨k - 1, by omega⟩
  unfold shutterref27_Diff.f dump_DiffR
  rw [refRight_f a (by omega) _ (by omega), refRight_f b (by omega) _ (by omega)]
  by_cases ha : risingS a = true <;> by_cases hb : risingS b = true
  · have := refDiff_n a b hl (a.length + b.length) k 0 0 [] (by omega) (by omega) (by omega) (by omega) (by simp)
    simp [ha, hb, shutterref27_Diff.j0]
    simpa using this
  all_goals simp [ha, hb, shutterref27_Diff.j0]
theorem diff_f (a b : List S82) (hl : a.length + b.length < 4398046511104) : ∃ l e, dump_Diff.f a b = some (l, e) ∧ dump_DiffR a b = (l.map cv, e) ∧ l.length ≤ a.length + b.length ∧ (e ≠ 0 → l = []) := by
  have := diffS_length a b
  unfold dump_Diff.f dump_DiffR
  rw [if_pos hl]
  by_cases ha : risingS a = true <;> by_cases hb : risingS b = true
  · exact ⟨_, 0, by simp [ha, hb], by simp [ha, hb], this, by simp⟩
  all_goals exact ⟨[], 52, by simp [ha, hb], by simp [ha, hb], by simp, by simp⟩
end Go.Proofs.Ythblincfnfpgbaa.Q
