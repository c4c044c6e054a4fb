import Derived.Test.YthblincfnfpgbaaQxH1
import Derived.Test.YthblincfnfpgbaaQx11
import Derived.Test.YthblincfnfpgbaaQx13
namespace Go.Proofs.Ythblincfnfpgbaa.Q
open Go.RowKit Go.Proofs.YthblincfnfpgbaaW.PrintWords Go.Proofs.YthblincfnfpgbaaW.PrintLast Go.Proofs.YthblincfnfpgbaaW.PrintMore
set_option linter.unusedVariables false
/-- A number's bytes, seven bits each (at most n and one of them). -/
def numN : Nat → Int → List Int
  | 0, v => [v % 256]
  | n + 1, v => if 128 ≤ v then bits .or .u8 (v % 256) 128 :: numN n (v / 128) else [v % 256]
def numS (v : Int) : List Int := numN 9 v
theorem numN_length (n : Nat) : ∀ v, (numN n v).length ≤ n + 1 := by
  induction n with
  | zero => intro v; simp [numN]
  | succ n ih => intro v; unfold numN; split <;> simp <;> exact ih _
theorem numN_pos (n : Nat) (v : Int) : 0 < (numN n v).length := by cases n <;> unfold numN <;> (try split) <;> simp
theorem number_n (n : Nat) : ∀ (k : Nat) (l : List Int) (v : Int), n < k → v < 128 ^ (n + 1) → l.length + n + 1 < 140737488355328 → dump_number.l0 k l v = some (l ++ numN n v) := by
  induction n with
  | zero =>
    intro k l v hk hv hl
    obtain ⟨k, rfl⟩ : ∃ m, k = m + 1 := ⟨k - 1, by omega⟩
    simp only [dump_number.l0, numN]
    rw [if_neg (by omega), if_pos (by omega)]
  | succ n ih =>
    intro k l v hk hv hl
    obtain ⟨k, rfl⟩ : ∃ m, k = m + 1 := ⟨k - 1, by omega⟩
    simp only [dump_number.l0, numN]
    by_cases h : 128 ≤ v
    · rw [if_pos h, if_pos (by omega), if_pos h, ih k _ _ (by omega) (by rw [Int.pow_succ] at hv; omega) (by simp; omega)]
      simp
    · rw [if_neg h, if_pos (by omega), if_neg h]
theorem number_f (l : List Int) (v : Int) (hv : v < 18446744073709551616) (hl : l.length + 10 < 140737488355328) : dump_number.f 10 l v = some (l ++ numS v) :=
  number_n 9 10 l v (by omega) (by have : (128 : Int) ^ (9 + 1) = 1180591620717411303424 := by decide
                                   omega) (by omega)

/-- The sum of bytes. -/
def sumS (s : Int) : List Int → Int
  | [] => s
  | c :: l => sumS (((bits .xor .u32 s (c % 4294967296)) * 16777619) % 4294967296) l
theorem sum_n (l : List Int) (hl : l.length < 9223372036854775807) (d : Nat) : ∀ (k i : Nat) (s : Int), i + d = l.length → d < k → dump_sum.l0 k s l (l.length : Int) i = some (sumS s (l.drop i)) := by
  induction d with
  | zero =>
    intro k i s h hk
    obtain ⟨k, rfl⟩ : ∃ m, k = m + 1 := ⟨k - 1, by omega⟩
    simp only [dump_sum.l0]
    rw [if_neg (by omega), List.drop_of_length_le (by omega)]
    rfl
  | succ d ih =>
    intro k i s h hk
    obtain ⟨k, rfl⟩ : ∃ m, k = m + 1 := ⟨k - 1, by omega⟩
    simp only [dump_sum.l0]
    have hi : i < l.length := by omega
    rw [if_pos (by omega), if_pos (by omega), if_pos (by omega), show wrap64 ((i : Int) + 1) = ((i + 1 : Nat) : Int) by unfold wrap64; omega, ih k (i + 1) _ (by omega) (by omega), List.drop_eq_getElem_cons hi, sumS]
    unfold rd
    simp [List.getD_eq_getElem?_getD, List.getElem?_eq_getElem hi]
theorem sum_f (l : List Int) (hl : l.length < 9223372036854775807) : dump_sum.f (l.length + 1) l = some (sumS 2166136261 l) := by
  have := sum_n l hl l.length (l.length + 1) 0 2166136261 (by omega) (by omega)
  simpa [dump_sum.f] using this

def fixedS (s : Int) : List Int := [s % 256, (s / 256) % 256, (s / 65536) % 256, s / 16777216]
def pairsS (last : Int) : List S82 → List Int
  | [] => []
  | p :: l => numS (IntKind.u64.wrap (p.f0 - last)) ++ numS p.f1 ++ pairsS p.f0 l
def bodyS (l : List S82) : List Int := [83, 72, 85, 49] ++ numS l.length ++ pairsS 0 l
def encS (l : List S82) : List Int := bodyS l ++ fixedS (sumS 2166136261 (bodyS l))
def wfP (p : S82) : Prop := 0 ≤ p.f0 ∧ p.f0 < 18446744073709551616 ∧ 0 ≤ p.f1 ∧ p.f1 < 18446744073709551616
instance (p : S82) : Decidable (wfP p) := by unfold wfP; infer_instance
theorem pairsS_length (l : List S82) : ∀ last, (pairsS last l).length ≤ 20 * l.length := by
  induction l with
  | nil => intro last; simp [pairsS]
  | cons p l ih =>
    intro last
    have h1 := numN_length 9 (IntKind.u64.wrap (p.f0 - last))
    have h2 := numN_length 9 p.f1
    have h3 := ih p.f0
    simp only [pairsS, List.length_append, List.length_cons, numS]
    omega
def dump_Encode.f (l : List S82) : Option (List Int × Int) :=
  if l.length < 4398046511104 ∧ ∀ p ∈ l, wfP p then (if risingS l = true then some (encS l, 0) else some ([], 52)) else none
end Go.Proofs.Ythblincfnfpgbaa.Q
