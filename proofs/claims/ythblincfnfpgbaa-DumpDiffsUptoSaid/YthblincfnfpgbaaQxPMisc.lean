import Derived.Test.YthblincfnfpgbaaQxPDiff
import Derived.Test.YthblincfnfpgbaaQxH7
import Derived.Test.YthblincfnfpgbaaQx30
import Derived.Test.YthblincfnfpgbaaQx32
import Derived.Test.YthblincfnfpgbaaQx33
import Derived.Test.YthblincfnfpgbaaQx37
import Derived.Test.YthblincfnfpgbaaQx39
import Derived.Test.YthblincfnfpgbaaQx41
namespace Go.Proofs.Ythblincfnfpgbaa.Q
open Go.RowKit Go.Proofs.YthblincfnfpgbaaW.PrintWords Go.Proofs.YthblincfnfpgbaaW.PrintLast Go.Proofs.YthblincfnfpgbaaW.PrintMore
set_option linter.unusedVariables false
theorem C_nil82 (w : World) : Kd.C k82 w none ([] : List S82).length [] := ⟨rfl, by simp, fun h => absurd h (by simp)⟩
set_option maxHeartbeats 4000000 in
theorem load_c (A : Option Addr) (c : Nat) (l : List S82) (r1 : List S95) (r2 : Int) (w : World) (hA : Kd.C k82 w A l.length l) (hc : l.length ≤ c) (h : dump_Sync.f [] l = some (r1, r2)) :
    Calls Try.prog 24 #[.slice A l.length c] w fun e w' => ∃ v, e = .returned (.tuple #[v, .int .i64 r2]) ∧ Kd.R k95 95 w' w.heap.size (fun _ => True) v r1 ∧ Below w.heap.size w w' := by
  have HA := Lib.hid hA
  have HC := Lib.hid hc
  have HF := Lib.hid h
  clear hA hc h
  go_enter Try.func24, Try.ntmps24
  go_wp2_with fail
  go_at_call 22
  refine (dump_Sync.calls none 0 [] A c l r1 r2 w (C_nil82 w) (Nat.le_refl _) HA.out HC.out HF.out).mono ?_
  rintro e w1 ⟨v, rfl, hR, hb⟩
  have HR := Lib.hid hR
  have HB := Lib.hid hb
  clear hR hb
  go_wp2
  go_ret2
  exact ⟨v, rfl, HR.out, HB.out⟩
theorem rd30 (l : List S30) (i : Int) (k : Nat) (hk : i = k) (h : k < l.length) : rd_T30 l i = l[k] := by
  subst hk; unfold rd_T30; simp [List.getD_eq_getElem?_getD, List.getElem?_eq_getElem h]
theorem rd102 (l : List S102) (i : Int) (k : Nat) (hk : i = k) (h : k < l.length) : rd_T102 l i = l[k] := by
  subst hk; unfold rd_T102; simp [List.getD_eq_getElem?_getD, List.getElem?_eq_getElem h]
theorem rd95 (l : List S95) (i : Int) (k : Nat) (hk : i = k) (h : k < l.length) : rd_T95 l i = l[k] := by
  subst hk; unfold rd_T95; simp [List.getD_eq_getElem?_getD, List.getElem?_eq_getElem h]
theorem samePairs_n (l : List S82) (hl : l.length < 4398046511104) (d : Nat) : ∀ (k i : Nat), i + d = l.length → d < k → shutterref11_SamePairs.l0 k l l i = some true := by
  induction d with
  | zero =>
    intro k i h hk
    obtain ⟨k, rfl⟩ : ∃ m, k = m + 1 := ⟨k - 1, by omega⟩
    simp only [shutterref11_SamePairs.l0]
    rw [if_neg (by omega)]
  | succ d ih =>
    intro k i h hk
    obtain ⟨k, rfl⟩ : ∃ m, k = m + 1 := ⟨k - 1, by omega⟩
    simp only [shutterref11_SamePairs.l0]
    rw [if_pos (by omega), if_pos (by omega), if_pos (by omega), if_neg (by simp), w1 i (by omega)]
    exact ih k (i + 1) (by omega) (by omega)
theorem samePairs_f (l : List S82) (hl : l.length < 4398046511104) : ∃ k, shutterref11_SamePairs.f k l l = some true :=
  ⟨l.length + 1, by unfold shutterref11_SamePairs.f; rw [if_pos rfl]; exact samePairs_n l hl l.length _ 0 (by omega) (by omega)⟩
theorem same_n (l : List S102) (hl : l.length < 4398046511104) (d : Nat) : ∀ (k i : Nat), i + d = l.length → d < k → shutterlaw27_same.l0 k l l i = some true := by
  induction d with
  | zero =>
    intro k i h hk
    obtain ⟨k, rfl⟩ : ∃ m, k = m + 1 := ⟨k - 1, by omega⟩
    simp only [shutterlaw27_same.l0]
    rw [if_neg (by omega)]
  | succ d ih =>
    intro k i h hk
    obtain ⟨k, rfl⟩ : ∃ m, k = m + 1 := ⟨k - 1, by omega⟩
    simp only [shutterlaw27_same.l0]
    rw [if_pos (by omega), if_pos (by omega), if_pos (by omega), if_neg (by simp), w1 i (by omega)]
    exact ih k (i + 1) (by omega) (by omega)
theorem same_f (l : List S102) (hl : l.length < 4398046511104) : ∃ k, shutterlaw27_same.f k l l = some true :=
  ⟨l.length + 1, by unfold shutterlaw27_same.f; rw [if_pos rfl]; exact same_n l hl l.length _ 0 (by omega) (by omega)⟩
theorem turn_n (l : List S30) (hl : l.length < 4398046511104) (d : Nat) : ∀ (k i : Nat) (acc : List S102), i + d = l.length → d < k → acc.length ≤ i → shutterlaw27_turn.l0 k l acc i = some (acc ++ (l.drop i).map cv) := by
  induction d with
  | zero =>
    intro k i acc h hk ha
    obtain ⟨k, rfl⟩ : ∃ m, k = m + 1 := ⟨k - 1, by omega⟩
    simp only [shutterlaw27_turn.l0]
    rw [if_neg (by omega), List.drop_of_length_le (by omega)]
    simp
  | succ d ih =>
    intro k i acc h hk ha
    obtain ⟨k, rfl⟩ : ∃ m, k = m + 1 := ⟨k - 1, by omega⟩
    simp only [shutterlaw27_turn.l0]
    rw [if_pos (by omega), if_pos (by omega), if_pos (by omega), w1 i (by omega), ih k (i + 1) _ (by omega) (by omega) (by simp; omega), rd30 l _ i rfl (by omega), List.drop_eq_getElem_cons (show i < l.length by omega), List.map_cons, List.append_assoc]
    rfl
theorem turn_f (l : List S30) (hl : l.length < 4398046511104) : ∃ k, shutterlaw27_turn.f k l = some (l.map cv) :=
  ⟨l.length + 1, by have := turn_n l hl l.length (l.length + 1) 0 [] (by omega) (by omega) (by simp); simpa [shutterlaw27_turn.f] using this⟩
theorem refSync_n (l : List S30) (hl : l.length < 1353245080339) (d : Nat) : ∀ (k i : Nat) (acc : List S95), i + d = l.length → d < k → acc.length ≤ i → shutterref27_Sync.l0 k (l.map cv) acc i = some (acc ++ (l.drop i).map opS, 0) := by
  induction d with
  | zero =>
    intro k i acc h hk ha
    obtain ⟨k, rfl⟩ : ∃ m, k = m + 1 := ⟨k - 1, by omega⟩
    simp only [shutterref27_Sync.l0]
    rw [if_neg (by simp; omega), List.drop_of_length_le (by omega)]
    simp
  | succ d ih =>
    intro k i acc h hk ha
    obtain ⟨k, rfl⟩ : ∃ m, k = m + 1 := ⟨k - 1, by omega⟩
    have hi : i < l.length := by omega
    have e : rd_T102 (l.map cv) (i : Int) = cv l[i] := by rw [rd102 _ _ i rfl (by simpa using hi)]; simp
    simp only [shutterref27_Sync.l0, e, w1 i (show i < 4398046511104 by omega)]
    rw [if_pos (by simp; omega), if_pos (by omega), List.drop_eq_getElem_cons hi]
    generalize l[i] = c
    by_cases hc : c.f2 = true
    · rw [if_pos (show (cv c).f2 = true from hc), if_pos (by omega), ih k (i + 1) _ (by omega) (by omega) (by simp; omega)]
      simp [opS, hc, opP, cv, z92]
    · rw [if_neg (show ¬ (cv c).f2 = true from hc), if_pos (by omega), ih k (i + 1) _ (by omega) (by omega) (by simp; omega)]
      simp [opS, hc, opD, cv, z92]
/-- Sync, the program's and the document's. -/
theorem sync_f (a b : List S82) (hl : a.length + b.length < 1048577) : ∃ k r, dump_Sync.f a b = some r ∧ shutterref27_Sync.f k a b = some r ∧ r.1.length ≤ a.length + b.length ∧ ∀ o ∈ r.1, o.f6 = [] := by
  obtain ⟨l, e, h1, h2, h3, h4⟩ := diff_f a b (by omega)
  refine ⟨8 * (a.length + b.length) + 11, ?_⟩
  unfold dump_Sync.f shutterref27_Sync.f
  rw [if_pos hl, h1, refDiff_f a b (by omega) _ (by omega), h2]
  simp only [Option.bind_some]
  by_cases he : e = 0
  · rw [if_pos he, if_pos he]
    have := refSync_n l (by omega) l.length (8 * (a.length + b.length) + 11) 0 [] (by omega) (by omega) (by simp)
    refine ⟨(l.map opS, 0), rfl, by simpa using this, by simpa using h3, ?_⟩
    intro o ho
    obtain ⟨c, _, rfl⟩ := List.mem_map.1 ho
    unfold opS
    split <;> rfl
  · rw [if_neg he, if_neg he]
    exact ⟨([], e), rfl, rfl, by simp, by simp⟩
end Go.Proofs.Ythblincfnfpgbaa.Q
