import Derived.Test.YthblincfnfpgbaaQx16
namespace Go.Proofs.Ythblincfnfpgbaa.Q
open Go.RowKit Go.Proofs.YthblincfnfpgbaaW.PrintWords Go.Proofs.YthblincfnfpgbaaW.PrintLast Go.Proofs.YthblincfnfpgbaaW.PrintMore
set_option linter.unusedVariables false
theorem live_f : shutterlaw27_live.f = some true := by
  unfold shutterlaw27_live.f
  have e1 : dump_Encode.f [(⟨7, 1⟩ : S82)] = some ([83, 72, 85, 49, 1, 7, 1] ++ fixedS (sumS 2166136261 [83, 72, 85, 49, 1, 7, 1]), 0) := by decide
  have e2 : dump_Encode.f [(⟨7, 0⟩ : S82), (⟨7, 0⟩ : S82)] = some ([], 52) := by decide
  rw [e1, e2]
  rfl
def turnS (c : S30) : S30 := ⟨c.f0, c.f2, c.f1, c.f4, c.f3⟩
theorem diffS_turn (a b : List S82) : diffS b a = (diffS a b).map turnS := by
  fun_induction diffS a b
  case case1 => rw [diffS]; rfl
  case case2 x a ih => rw [diffS, ih]; rfl
  case case3 y b ih => rw [diffS, ih]; rfl
  case case4 x a y b h ih => rw [diffS, if_neg (by omega), if_pos h, ih]; rfl
  case case5 x a y b h h' ih => rw [diffS, if_pos h', ih]; rfl
  case case6 x a y b h h' ih =>
    rw [diffS, if_neg h', if_neg h, ih, List.map_append]
    congr 1
    have e : x.f0 = y.f0 := by omega
    by_cases q : x.f1 = y.f1
    · simp [q]
    · simp [q, Ne.symm q, turnS, chgAB, e]
theorem turned_l (l : List S30) (hl : l.length < 9223372036854775807) (d : Nat) : ∀ (k i : Nat), i + d = l.length → d < k → shutterlaw27_DumpTurned.l0 k l (l.map turnS) 0 i = some true := by
  induction d with
  | zero =>
    intro k i h hk
    obtain ⟨k, rfl⟩ : ∃ m, k = m + 1 := ⟨k - 1, by omega⟩
    simp only [shutterlaw27_DumpTurned.l0]
    rw [if_neg (by omega), live_f]
    rfl
  | succ d ih =>
    intro k i h hk
    obtain ⟨k, rfl⟩ : ∃ m, k = m + 1 := ⟨k - 1, by omega⟩
    have hi : i < l.length := by omega
    have e1 : rd_T30 l (i : Int) = l[i] := by unfold rd_T30; simp [List.getD_eq_getElem?_getD, List.getElem?_eq_getElem hi]
    have e2 : rd_T30 (l.map turnS) (i : Int) = turnS l[i] := by unfold rd_T30; simp [List.getD_eq_getElem?_getD, List.getElem?_eq_getElem hi]
    simp only [shutterlaw27_DumpTurned.l0]
    rw [if_pos (by omega), if_pos (by omega), if_pos (by simp; omega), e1, e2]
    rw [if_neg (by simp [turnS]), show wrap64 ((i : Int) + 1) = ((i + 1 : Nat) : Int) by unfold wrap64; omega]
    exact ih k (i + 1) (by omega) (by omega)
theorem turned (a b : List S82) (h : a.length + b.length < 4398046511104) : ∃ k, shutterlaw27_DumpTurned.f k a b = some true := by
  refine ⟨a.length + b.length + 2, ?_⟩
  have hlen := diffS_length a b
  unfold shutterlaw27_DumpTurned.f dump_Diff.f
  rw [if_pos h, if_pos (show b.length + a.length < 4398046511104 by omega)]
  by_cases ha : risingS a = true <;> by_cases hb : risingS b = true
  · simp only [ha, hb, if_true, Option.bind_some, diffS_turn a b, List.length_map, bne_self_eq_false]
    simp only [shutterlaw27_DumpTurned.j0, Bool.false_eq_true, if_false]
    exact turned_l _ (by omega) (diffS a b).length _ 0 (by omega) (by omega)
  all_goals simp [shutterlaw27_DumpTurned.j0, live_f, ha, hb]
end Go.Proofs.Ythblincfnfpgbaa.Q
