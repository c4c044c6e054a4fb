import Derived.Test.YthblincfnfpgbaaQxAb
import Derived.Lib.Hide
namespace Go.Proofs.Ythblincfnfpgbaa.Q
open Go.RowKit Go.Proofs.YthblincfnfpgbaaW.PrintWords Go.Proofs.YthblincfnfpgbaaW.PrintLast Go.Proofs.YthblincfnfpgbaaW.PrintMore
set_option linter.unusedVariables false
set_option linter.unusedSimpArgs false
section
variable {α : Type} {enc : α → Value} {h1 : ∀ x, (enc x).oneCell' = true} {e : Nat} {w w1 Wi : World} {base N2 i : Nat} {hs gs : List Hdr} {len : Nat → Nat} {m : Nat → α}
/-- The rows, the first i of them grown. -/
structure Grown (enc : α → Value) (h1 : ∀ x, (enc x).oneCell' = true) (e : Nat) (w : World) (base N2 : Nat) (hs gs : List Hdr) (len : Nat → Nat) (m : Nat → α) (i : Nat) : Prop where
  num : gs.length = i
  done : ∀ (j : Nat) (h0 h : Hdr), hs[j]? = some h0 → gs[j]? = some h → (Kd.scalar enc h1).R e w base (fun k => (hv h0).ownBlock = some k ∨ N2 ≤ k) (hv h) (List.replicate (len j + 20) (m j)) ∧ h0.2.1 = len j ∧ ((h.1 = h0.1 ∧ h.2.2 = h0.2.2) ∨ (Kd.scalar enc h1).R e w base (fun k => (hv h0).ownBlock = some k) (hv h0) (List.replicate (len j) (m j)))
  left : ∀ (j : Nat) (h0 : Hdr), i ≤ j → hs[j]? = some h0 → (Kd.scalar enc h1).R e w base (fun k => (hv h0).ownBlock = some k) (hv h0) (List.replicate (len j) (m j))
theorem grown_stage (hG : Grown enc h1 e Wi base N2 hs gs len m i) (hap : ∀ (i j : Nat) (h h' : Hdr), hs[i]? = some h → hs[j]? = some h' → i ≠ j → ∀ k, (hv h).ownBlock = some k → (hv h').ownBlock ≠ some k) (hlt : ∀ k, Blk hs k → k < N2) (hN : N2 ≤ Wi.heap.size)
    {h A : Hdr} {vg : Value} (hi : hs[i]? = some h) (hI : GrowI enc h1 e w1 base Wi h (len i) 20 (m i) vg) (hA : vg = hv A) : Grown enc h1 e w1 base N2 hs (gs ++ [A]) len m (i + 1) := by
  subst hA
  have hno : ∀ (j : Nat) (h0 : Hdr), hs[j]? = some h0 → j ≠ i → ∀ k, ((hv h0).ownBlock = some k ∨ N2 ≤ k) → ¬ (hv h).ownBlock = some k := by
    intro j h0 hj hji k hk hk2
    rcases hk with hk | hk
    · exact hap j i h0 h hj hi hji k hk hk2
    · have := hlt k ⟨h, List.mem_of_getElem? hi, hk2⟩
      omega
  refine ⟨by rw [List.length_append, hG.num]; rfl, ?_, ?_⟩
  · intro j h0 h' hj hj'
    rcases Nat.lt_trichotomy j i with hji | hji | hji
    · rw [List.getElem?_append_left (by rw [hG.num]; exact hji)] at hj'
      obtain ⟨p1, p2, p3⟩ := hG.done j h0 h' hj hj'
      refine ⟨Kd.R_kept p1 hI.kept (hno j h0 hj (by omega)), p2, ?_⟩
      rcases p3 with p3 | p3
      · exact .inl p3
      · exact .inr (Kd.R_kept p3 hI.kept (fun k hk => hno j h0 hj (by omega) k (.inl hk)))
    · subst hji
      rw [hi] at hj
      obtain rfl := Option.some.inj hj
      rw [List.getElem?_append_right (by rw [hG.num]; exact Nat.le_refl _), hG.num, Nat.sub_self] at hj'
      obtain rfl := Option.some.inj hj'
      refine ⟨Kd.R_mono hI.row (fun k hk => hk.imp id (fun h => Nat.le_trans hN h)), hI.len, ?_⟩
      rcases hI.old with ho | ⟨ho, -⟩
      · left
        unfold hv at ho
        injection ho with e1 e2 e3
        exact ⟨e1, e3⟩
      · exact .inr ho
    · rw [List.getElem?_eq_none (by rw [List.length_append, hG.num, List.length_singleton]; omega)] at hj'
      cases hj'
  · intro j h0 hij hj
    exact Kd.R_kept (hG.left j h0 (by omega) hj) hI.kept (fun k hk => hno j h0 hj (by omega) k (.inl hk))
theorem grown_over {T : Nat} {v : Value} {ok : Nat → Prop} {b : Nat} {ys : List Hdr} (hG : Grown enc h1 e w base N2 hs gs len m i) (hA : hdr.R T w b ok v ys) (hT : e ≠ T) (hg : w.grownBy w1 v.ownBlock) : Grown enc h1 e w1 base N2 hs gs len m i := by
  have hE : ∀ q, q ∈ e :: (Kd.scalar enc h1).E → q ≠ T := by
    intro q hq
    rcases List.mem_cons.1 hq with rfl | hq
    · exact hT
    · cases hq
  refine ⟨hG.num, fun j h0 h hj hj' => ?_, fun j h0 hij hj => Kd.R_over (hG.left j h0 hij hj) hA hE hg⟩
  obtain ⟨p1, p2, p3⟩ := hG.done j h0 h hj hj'
  exact ⟨Kd.R_over p1 hA hE hg, p2, p3.imp id (fun p => Kd.R_over p hA hE hg)⟩
theorem grown_start {X : Nat → List α} (hF : Fam (Kd.scalar enc h1) e w base hs X) (hX : ∀ j, j < hs.length → X j = List.replicate (len j) (m j)) : Grown enc h1 e w base N2 hs [] len m 0 :=
  ⟨rfl, fun j h0 h hj hj' => by simp at hj', fun j h0 _ hj => by have h := hF.row j h0 hj; rw [hX j (List.getElem?_eq_some_iff.1 hj).1] at h; exact h⟩
end
theorem rd_rep (n : Nat) (m y : Int) (h0 : 0 ≤ y) (h : y < n) : rd (List.replicate n m) y = m := by
  unfold rd
  rw [List.getD_eq_getElem?_getD, List.getElem?_replicate, if_pos (by omega)]
  rfl
/-- The old row, read, behind the growing. -/
theorem grown_old {e : Nat} {w : World} {base N2 i : Nat} {hs gs : List Hdr} {len : Nat → Nat} {m : Nat → Int} {k : IntKind} (hG : Grown (Value.int k) (fun _ => rfl) e w base N2 hs gs len m i) {j : Nat} {h0 h : Hdr} (h2 : hs[j]? = some h0) (h3 : gs[j]? = some h) :
    h.2.1 = len j + 20 ∧ h0.2.1 = len j ∧ (Kd.int k).C w h.1 (len j + 20) (List.replicate (len j + 20) (m j)) ∧ (Kd.int k).C w h0.1 (len j) (List.replicate (len j) (m j)) := by
  obtain ⟨p1, p2, p3⟩ := hG.done j h0 h h2 h3
  obtain ⟨q1, -, q3⟩ := Kd.R_reads' p1
  rw [List.length_replicate] at q1 q3
  refine ⟨q1, p2, q3, ?_⟩
  rcases p3 with p3 | p3
  · have q4 := Kd.C_take (m := len j) (show (Kd.int k).C w h.1 (List.replicate (len j + 20) (m j)).length (List.replicate (len j + 20) (m j)) by rw [List.length_replicate]; exact q3) (by simp)
    rw [List.take_replicate, Nat.min_eq_left (by omega), List.length_replicate] at q4
    rw [← p3.1]
    exact q4
  · obtain ⟨r1, -, r3⟩ := Kd.R_reads' p3
    rw [List.length_replicate] at r3
    exact r3
end Go.Proofs.Ythblincfnfpgbaa.Q
