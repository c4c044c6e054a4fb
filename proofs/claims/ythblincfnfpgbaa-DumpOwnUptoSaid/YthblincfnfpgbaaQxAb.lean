import Derived.Test.YthblincfnfpgbaaQxAp
import Derived.Test.YthblincfnfpgbaaWKept
namespace Go.Proofs.Ythblincfnfpgbaa.Q
open Go.RowKit Go.Proofs.YthblincfnfpgbaaW.PrintWords Go.Proofs.YthblincfnfpgbaaW.PrintLast Go.Proofs.YthblincfnfpgbaaW.PrintMore
set_option linter.unusedVariables false
set_option linter.unusedSimpArgs false
/-- The head of a slice, as a kind. -/
abbrev Hdr := Option Addr × Nat × Nat
def hv (h : Hdr) : Value := .slice h.1 h.2.1 h.2.2
def hdr : Kd Hdr := Kd.scalar hv (fun _ => rfl)
def upd {α : Type} (X : Nat → α) (i : Nat) (y : α) : Nat → α := fun j => if j = i then y else X j
theorem upd_same {α : Type} (X : Nat → α) (i : Nat) (y : α) : upd X i y i = y := if_pos rfl
theorem upd_other {α : Type} (X : Nat → α) (i : Nat) (y : α) {j : Nat} (h : j ≠ i) : upd X i y j = X j := if_neg h
theorem upd_upd {α : Type} (X : Nat → α) (i : Nat) (y z : α) : upd (upd X i y) i z = upd X i z := by
  funext j; unfold upd; split <;> rfl
theorem upd_id {α : Type} (X : Nat → α) (i : Nat) : upd X i (X i) = X := by
  funext j; unfold upd; split
  · rename_i h; rw [h]
  · rfl
/-- The blocks of some rows. -/
def Blk (hs : List Hdr) (k : Nat) : Prop := ∃ h ∈ hs, (hv h).ownBlock = some k
section
variable {α : Type} {enc : α → Value} {h1 : ∀ x, (enc x).oneCell' = true}
theorem narrow {e : Nat} {w : World} {base : Nat} {ok : Nat → Prop} {v : Value} {xs : List α} (h : (Kd.scalar enc h1).R e w base ok v xs) : (Kd.scalar enc h1).R e w base (fun k => v.ownBlock = some k) v xs :=
  Kd.R_of_own (Kd.own_of_R h) (fun _ hk => hk)
/-- Rows of their own, no two in one block. -/
structure Fam (d : Kd α) (e : Nat) (w : World) (base : Nat) (hs : List Hdr) (X : Nat → List α) : Prop where
  row : ∀ (i : Nat) (h : Hdr), hs[i]? = some h → d.R e w base (fun k => (hv h).ownBlock = some k) (hv h) (X i)
  apart : ∀ (i j : Nat) (h h' : Hdr), hs[i]? = some h → hs[j]? = some h' → i ≠ j → ∀ k, (hv h).ownBlock = some k → (hv h').ownBlock ≠ some k
theorem Fam.kept {d : Kd α} {e : Nat} {w w1 : World} {base : Nat} {hs : List Hdr} {X : Nat → List α} {S : Nat → Prop} (hF : Fam d e w base hs X) (hk : Kept w w1 S) (hS : ∀ k, Blk hs k → ¬ S k) : Fam d e w1 base hs X :=
  ⟨fun i h hi => Kd.R_kept (hF.row i h hi) hk (fun k ho => hS k ⟨h, List.mem_of_getElem? hi, ho⟩), hF.apart⟩
/-- One of the rows has been written. -/
theorem Fam.set {d : Kd α} {e : Nat} {w w1 : World} {base : Nat} {hs : List Hdr} {X : Nat → List α} (hF : Fam d e w base hs X) {i : Nat} {h : Hdr} (hi : hs[i]? = some h) {Y : List α} (hR : d.R e w1 base (fun k => (hv h).ownBlock = some k) (hv h) Y) (hg : Kept w w1 (fun k => (hv h).ownBlock = some k)) :
    Fam d e w1 base hs (upd X i Y) := by
  refine ⟨fun j h' hj => ?_, hF.apart⟩
  by_cases hji : j = i
  · subst hji
    rw [hi] at hj
    obtain rfl := Option.some.inj hj
    rw [upd_same]
    exact hR
  · rw [upd_other _ _ _ hji]
    exact Kd.R_kept (hF.row j h' hj) hg (fun k hk hk2 => hF.apart j i h' h hj hi hji k hk hk2)
theorem Fam.len {d : Kd α} {e : Nat} {w : World} {base : Nat} {hs : List Hdr} {X : Nat → List α} (hF : Fam d e w base hs X) {i : Nat} {h : Hdr} (hi : hs[i]? = some h) : h.2.1 = (X i).length ∧ h.2.1 ≤ h.2.2 :=
  ⟨(Kd.R_reads' (hF.row i h hi)).1, (Kd.R_reads' (hF.row i h hi)).2.1⟩
end
/-- A Book's block: the list of lists at field f. -/
structure BookF (w : World) (base : Nat) (g f : Nat) (T : Nat) (cs : Array Value) (vO : Value) (hs : List Hdr) : Prop where
  blk : w.heap[g]? = some (.cells cs 79 (0, 0))
  at_ : cs[f]? = some vO
  row : hdr.R T w base (fun k => vO.ownBlock = some k) vO hs
theorem BookF.kept {w w1 : World} {base g f T : Nat} {cs : Array Value} {vO : Value} {hs : List Hdr} {S : Nat → Prop} (hB : BookF w base g f T cs vO hs) (hk : Kept w w1 S) (hg : ¬ S g) (hS : ∀ k, vO.ownBlock = some k → ¬ S k) : BookF w1 base g f T cs vO hs :=
  ⟨blk_kept hB.blk hk hg, hB.at_, Kd.R_kept hB.row hk hS⟩
theorem BookF.cell {w : World} {base g f T : Nat} {cs : Array Value} {vO : Value} {hs : List Hdr} (hB : BookF w base g f T cs vO hs) : w.cell? ⟨g, f, none⟩ = some vO := by
  rw [cell_of_row w g f cs 79 (0, 0) hB.blk]; exact hB.at_
/-- A place of the list of lists, as the walk reads it. -/
theorem hdr_at {w : World} {base T : Nat} {ok : Nat → Prop} {A : Option Addr} {n c : Nat} {hs : List Hdr} (h : hdr.R T w base ok (.slice A n c) hs) (i : Int) (h0 : 0 ≤ i) (hi : i < hs.length) :
    ∃ ad hd, A = some ad ∧ hs[i.toNat]? = some hd ∧ w.cell? (ad.add i.toNat) = some (.slice hd.1 hd.2.1 hd.2.2) := by
  obtain ⟨rfl, -, hC⟩ := Kd.R_reads' h
  obtain ⟨ad, h2, h3⟩ := ReadsOf.at_ (Kd.reads_of_C (enc := hv) (d := ((none, 0, 0) : Hdr)) (h1 := fun _ => rfl) hC) i h0 hi
  have hlt : i.toNat < hs.length := by omega
  refine ⟨ad, hs[i.toNat], h2, List.getElem?_eq_getElem hlt, ?_⟩
  rw [h3]
  unfold rdOf
  rw [List.getD_eq_getElem?_getD, List.getElem?_eq_getElem hlt]
  rfl
/-- One place of one of the rows is written. -/
theorem fam_put {α : Type} {enc : α → Value} {h1 : ∀ x, (enc x).oneCell' = true} {e : Nat} {w w0 : World} {base g f T : Nat} {cs : Array Value} {vO : Value} {hs : List Hdr} {Z : Nat → List α} {i : Nat} {L : List α} {b n cap : Nat}
    (hF : Fam (Kd.scalar enc h1) e w base hs (upd Z i L)) (hi : hs[i]? = some (some ⟨b, 0, none⟩, n, cap)) (hB : BookF w base g f T cs vO hs) (hng : ¬ Blk hs g) (hno : ∀ k, vO.ownBlock = some k → ¬ Blk hs k) (hK : Kept w0 w (Blk hs)) (hb : Below base w0 w) (hbb : base ≤ b) (y : Int) (x : α) :
    Fam (Kd.scalar enc h1) e (w.setCell ⟨b, y.toNat, none⟩ (enc x)) base hs (upd Z i (L.set y.toNat x)) ∧ BookF (w.setCell ⟨b, y.toNat, none⟩ (enc x)) base g f T cs vO hs ∧ Kept w0 (w.setCell ⟨b, y.toNat, none⟩ (enc x)) (Blk hs) ∧ Below base w0 (w.setCell ⟨b, y.toNat, none⟩ (enc x)) := by
  have hR := hF.row i _ hi
  rw [upd_same] at hR
  obtain ⟨h3, h4⟩ := Kd.R_putg hR y x
  have hk : Kept w (w.setCell ⟨b, y.toNat, none⟩ (enc x)) (fun k => (hv (some ⟨b, 0, none⟩, n, cap)).ownBlock = some k) :=
    Kept.of_grown h4 (Kept.refl _ _) (fun k hk => .inl (by rw [← hk]; rfl))
  have hsub : ∀ k, (hv (some ⟨b, 0, none⟩, n, cap)).ownBlock = some k → Blk hs k := fun k hk => ⟨_, List.mem_of_getElem? hi, hk⟩
  refine ⟨?_, hB.kept hk (fun h => hng (hsub _ h)) (fun k h h2 => hno k h (hsub _ h2)), hK.then_ hk (fun k h => .inl (hsub k h)), hb.setCell hbb _⟩
  have := hF.set hi h3 hk
  rwa [upd_upd] at this
section
variable {α : Type} {enc : α → Value} {h1 : ∀ x, (enc x).oneCell' = true} {e : Nat} {w w1 Wi : World} {base n kk : Nat} {h : Hdr} {m : α} {vg v1 : Value}
/-- A row that is being grown: behind kk of its new places. -/
structure GrowI (enc : α → Value) (h1 : ∀ x, (enc x).oneCell' = true) (e : Nat) (w : World) (base : Nat) (Wi : World) (h : Hdr) (n kk : Nat) (m : α) (vg : Value) : Prop where
  row : (Kd.scalar enc h1).R e w base (fun k => (hv h).ownBlock = some k ∨ Wi.heap.size ≤ k) vg (List.replicate (n + kk) m)
  old : vg = .slice h.1 (n + kk) h.2.2 ∨ ((Kd.scalar enc h1).R e w base (fun k => (hv h).ownBlock = some k) (hv h) (List.replicate n m) ∧ ∀ k, vg.ownBlock = some k → Wi.heap.size ≤ k)
  kept : Kept Wi w (fun k => (hv h).ownBlock = some k)
  below : Below base Wi w
  lt : ∀ k, (hv h).ownBlock = some k → k < Wi.heap.size
  len : h.2.1 = n
/-- The beginning of a row in the same block, of the same room, is a row. -/
theorem prefix_row {A : Option Addr} {c : Nat} {ok : Nat → Prop} {xs ys : List α} (hR : (Kd.scalar enc h1).R e w base ok (.slice A (xs.length + ys.length) c) (xs ++ ys)) : (Kd.scalar enc h1).R e w base (fun k => (Value.slice A xs.length c).ownBlock = some k) (.slice A xs.length c) xs := by
  have ho := Kd.own_of_R hR
  refine Kd.R_of_own ⟨by simp [encs], ?_⟩ (fun _ hk => hk)
  rcases ho.2 with ⟨h2, h3⟩ | ⟨g, cap, cur, h2, h3, h4, h5, h6, h7, h8⟩
  · injection h2 with e1 e2 e3
    subst e1
    left
    exact ⟨by rw [show xs.length = 0 by omega, e3], by omega⟩
  · injection h2 with e1 e2 e3
    subst e1
    subst e3
    refine .inr ⟨g, c, cur, rfl, h3, h4, by simp only [List.length_append] at h5; omega, h6, h7, ?_⟩
    have h9 := congrArg (List.take (xs.length * 1)) h8
    rw [List.take_take, Nat.min_eq_left (by simp only [List.length_append]; omega)] at h9
    rw [h9]
    simp [encs]
theorem growI_start (hR : (Kd.scalar enc h1).R e Wi base (fun k => (hv h).ownBlock = some k) (hv h) (List.replicate n m)) : GrowI enc h1 e Wi base Wi h n 0 m (hv h) := by
  obtain ⟨h2, -⟩ := Kd.R_reads' hR
  rw [List.length_replicate] at h2
  exact ⟨Kd.R_mono hR (fun k hk => .inl hk), .inl (by unfold hv; rw [h2]; rfl), Kept.refl _ _, Below.refl _ _, fun k hk => ((Kd.own_of_R hR).lt k hk).2, h2⟩
theorem growI_step (hG : GrowI enc h1 e w base Wi h n kk m vg) (hR : (Kd.scalar enc h1).R e w1 base (fun k => (hv h).ownBlock = some k ∨ Wi.heap.size ≤ k) v1 (List.replicate (n + kk) m ++ [m])) (hb : Below base w w1) (hg : w.grownBy w1 vg.ownBlock)
    (hat : (∃ g cap, vg = .slice (some ⟨g, 0, none⟩) (List.replicate (n + kk) m).length cap ∧ v1 = .slice (some ⟨g, 0, none⟩) ((List.replicate (n + kk) m).length + 1) cap) ∨ ((∃ b, v1.ownBlock = some b ∧ w.heap.size ≤ b) ∧ w.grownBy w1 none)) : GrowI enc h1 e w1 base Wi h n (kk + 1) m v1 := by
  rw [List.length_replicate] at hat
  have hsz := hG.kept.1
  have hrow : (Kd.scalar enc h1).R e w1 base (fun k => (hv h).ownBlock = some k ∨ Wi.heap.size ≤ k) v1 (List.replicate (n + (kk + 1)) m) := by
    rw [← Nat.add_assoc, List.replicate_succ']; exact hR
  refine ⟨hrow, ?_, Kept.of_grown hg hG.kept (fun k hk => hG.row.1 k hk), hG.below.trans hb, hG.lt, hG.len⟩
  rcases hat with ⟨g, cap, e1, e2⟩ | ⟨⟨b, e1, e2⟩, e3⟩
  · rcases hG.old with ho | ⟨ho, hn⟩
    · left
      rw [ho] at e1
      injection e1 with e4 e5 e6
      rw [e2, e4, e6, Nat.add_assoc]
    · right
      have hgn : Wi.heap.size ≤ g := hn g (by rw [e1]; rfl)
      refine ⟨Kd.R_grown ho hg (fun k hk he => ?_), fun k hk => ?_⟩
      · have := hn k he.symm
        have h5 := hG.lt k hk
        omega
      · rw [e2] at hk
        simp only [Value.ownBlock, Option.some.injEq] at hk
        omega
  · right
    refine ⟨?_, fun k hk => ?_⟩
    · rcases hG.old with ho | ⟨ho, hn⟩
      · have hr := hG.row
        rw [ho] at hr
        have hp := prefix_row (xs := List.replicate n m) (ys := List.replicate kk m) (by rw [List.length_replicate, List.length_replicate, List.replicate_append_replicate]; exact hr)
        rw [List.length_replicate] at hp
        have he : hv h = .slice h.1 n h.2.2 := by unfold hv; rw [hG.len]
        rw [he]
        exact Kd.R_grown hp e3 (fun k _ he => by cases he)
      · exact Kd.R_grown ho e3 (fun k _ he => by cases he)
    · rw [e1] at hk
      injection hk with hk
      omega
end
theorem fillR {α : Type} (m : α) (L : List α) (k : Nat) (h : k < L.length) : (List.replicate k m ++ L.drop k).set k m = List.replicate (k + 1) m ++ L.drop (k + 1) := by
  rw [List.drop_eq_getElem_cons h, List.set_append, if_neg (by simp), List.length_replicate, Nat.sub_self, List.set_cons_zero, List.replicate_succ', List.append_assoc]
  rfl
end Go.Proofs.Ythblincfnfpgbaa.Q
