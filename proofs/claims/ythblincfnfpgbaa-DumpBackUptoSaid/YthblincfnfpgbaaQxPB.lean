import Derived.Test.YthblincfnfpgbaaQx25
import Derived.Test.YthblincfnfpgbaaQxV
namespace Go.Proofs.Ythblincfnfpgbaa.Q
open Go.RowKit Go.Proofs.YthblincfnfpgbaaW.PrintWords Go.Proofs.YthblincfnfpgbaaW.PrintLast Go.Proofs.YthblincfnfpgbaaW.PrintMore
set_option linter.unusedVariables false
theorem w1 (i : Nat) (h : i < 4398046511104) : wrap64 ((i : Int) + 1) = ((i + 1 : Nat) : Int) := by unfold wrap64; omega
theorem refRight_n (l : List S82) (hl : l.length < 4398046511104) (d : Nat) : ∀ (k i : Nat), i + d = l.length → d < k → 0 < i → shutterref27_right.l0 k l i = some (risingS (l.drop (i - 1))) := by
  induction d with
  | zero =>
    intro k i h hk hi
    obtain ⟨k, rfl⟩ : ∃ m, k = m + 1 := ⟨k - 1, by omega⟩
    simp only [shutterref27_right.l0]
    rw [if_neg (by omega), risingS_end l (i - 1) (by omega)]
  | succ d ih =>
    intro k i h hk hi
    obtain ⟨k, rfl⟩ : ∃ m, k = m + 1 := ⟨k - 1, by omega⟩
    obtain ⟨j, rfl⟩ : ∃ j, i = j + 1 := ⟨i - 1, by omega⟩
    have e : wrap64 (((j + 1 : Nat) : Int) - 1) = (j : Int) := by unfold wrap64; omega
    simp only [shutterref27_right.l0, e]
    rw [if_pos (by omega), if_pos (by omega), if_pos (by omega), if_pos (by omega), rd82 l _ (j + 1) rfl (by omega), rd82 l _ j rfl (by omega), Nat.add_sub_cancel, risingS_drop l j (by omega)]
    by_cases c : l[j + 1].f0 ≤ l[j].f0
    · rw [if_pos c, decide_eq_false (by omega)]
      rfl
    · rw [if_neg c, decide_eq_true (by omega), w1 _ (by omega), ih k (j + 1 + 1) (by omega) (by omega) (by omega)]
      rfl
theorem refRight_f (l : List S82) (hl : l.length < 4398046511104) (k : Nat) (hk : l.length + 1 < k) : shutterref27_right.f k l = some (risingS l) := by
  unfold shutterref27_right.f
  rcases Nat.eq_zero_or_pos l.length with h | h
  · obtain ⟨k, rfl⟩ : ∃ m, k = m + 1 := ⟨k - 1, by omega⟩
    obtain rfl : l = [] := List.eq_nil_of_length_eq_zero h
    rfl
  · have := refRight_n l hl (l.length - 1) k 1 (by omega) (by omega) (by omega)
    exact this
def cv (c : S30) : S102 := ⟨c.f0, c.f1, c.f2, c.f3, c.f4⟩
end Go.Proofs.Ythblincfnfpgbaa.Q
