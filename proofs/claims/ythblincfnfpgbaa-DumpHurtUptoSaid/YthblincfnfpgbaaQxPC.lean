import Derived.Test.YthblincfnfpgbaaQxPB
import Derived.Test.YthblincfnfpgbaaQx30
import Derived.Test.YthblincfnfpgbaaQx32
import Derived.Test.YthblincfnfpgbaaQx33
namespace Go.Proofs.Ythblincfnfpgbaa.Q
open Go.RowKit Go.Proofs.YthblincfnfpgbaaW.PrintWords Go.Proofs.YthblincfnfpgbaaW.PrintLast Go.Proofs.YthblincfnfpgbaaW.PrintMore
set_option linter.unusedVariables false
theorem rd30p (l : List S30) (i : Int) (k : Nat) (hk : i = k) (h : k < l.length) : rd_T30 l i = l[k] := by
  subst hk; unfold rd_T30; simp [List.getD_eq_getElem?_getD, List.getElem?_eq_getElem h]
theorem rd102 (l : List S102) (i : Int) (k : Nat) (hk : i = k) (h : k < l.length) : rd_T102 l i = l[k] := by
  subst hk; unfold rd_T102; simp [List.getD_eq_getElem?_getD, List.getElem?_eq_getElem h]
theorem samePairs_n (l : List S82) (hl : l.length < 4398046511104) (d : Nat) : ∀ (k i : Nat), i + d = l.length → d < k → shutterref11_SamePairs.l0 k l l i = some true := by
  induction d with
  | zero =>
    intro k i h hk
    obtain ⟨k, rfl⟩ : ∃ m, k = m + 1 := ⟨k - 1, by omega⟩
    simp only [shutterref11_SamePairs.l0]
    rw [if_neg (by omega)]
  | succ d ih =>
    intro k i h hk
    obtain ⟨k, rfl⟩ : ∃ m, k = m + 1 := ⟨k - 1, by omega⟩
    simp only [shutterref11_SamePairs.l0]
    rw [if_pos (by omega), if_pos (by omega), if_pos (by omega), if_neg (by simp), w1 i (by omega)]
    exact ih k (i + 1) (by omega) (by omega)
theorem samePairs_f (l : List S82) (hl : l.length < 4398046511104) : ∃ k, shutterref11_SamePairs.f k l l = some true :=
  ⟨l.length + 1, by unfold shutterref11_SamePairs.f; rw [if_pos rfl]; exact samePairs_n l hl l.length _ 0 (by omega) (by omega)⟩
theorem same_n (l : List S102) (hl : l.length < 4398046511104) (d : Nat) : ∀ (k i : Nat), i + d = l.length → d < k → shutterlaw27_same.l0 k l l i = some true := by
  induction d with
  | zero =>
    intro k i h hk
    obtain ⟨k, rfl⟩ : ∃ m, k = m + 1 := ⟨k - 1, by omega⟩
    simp only [shutterlaw27_same.l0]
    rw [if_neg (by omega)]
  | succ d ih =>
    intro k i h hk
    obtain ⟨k, rfl⟩ : ∃ m, k = m + 1 := ⟨k - 1, by omega⟩
    simp only [shutterlaw27_same.l0]
    rw [if_pos (by omega), if_pos (by omega), if_pos (by omega), if_neg (by simp), w1 i (by omega)]
    exact ih k (i + 1) (by omega) (by omega)
theorem same_f (l : List S102) (hl : l.length < 4398046511104) : ∃ k, shutterlaw27_same.f k l l = some true :=
  ⟨l.length + 1, by unfold shutterlaw27_same.f; rw [if_pos rfl]; exact same_n l hl l.length _ 0 (by omega) (by omega)⟩
theorem turn_n (l : List S30) (hl : l.length < 4398046511104) (d : Nat) : ∀ (k i : Nat) (acc : List S102), i + d = l.length → d < k → acc.length ≤ i → shutterlaw27_turn.l0 k l acc i = some (acc ++ (l.drop i).map cv) := by
  induction d with
  | zero =>
    intro k i acc h hk ha
    obtain ⟨k, rfl⟩ : ∃ m, k = m + 1 := ⟨k - 1, by omega⟩
    simp only [shutterlaw27_turn.l0]
    rw [if_neg (by omega), List.drop_of_length_le (by omega)]
    simp
  | succ d ih =>
    intro k i acc h hk ha
    obtain ⟨k, rfl⟩ : ∃ m, k = m + 1 := ⟨k - 1, by omega⟩
    simp only [shutterlaw27_turn.l0]
    rw [if_pos (by omega), if_pos (by omega), if_pos (by omega), w1 i (by omega), ih k (i + 1) _ (by omega) (by omega) (by simp; omega), rd30p l _ i rfl (by omega), List.drop_eq_getElem_cons (show i < l.length by omega), List.map_cons, List.append_assoc]
    rfl
theorem turn_f (l : List S30) (hl : l.length < 4398046511104) : ∃ k, shutterlaw27_turn.f k l = some (l.map cv) :=
  ⟨l.length + 1, by have := turn_n l hl l.length (l.length + 1) 0 [] (by omega) (by omega) (by simp); simpa [shutterlaw27_turn.f] using this⟩
end Go.Proofs.Ythblincfnfpgbaa.Q
