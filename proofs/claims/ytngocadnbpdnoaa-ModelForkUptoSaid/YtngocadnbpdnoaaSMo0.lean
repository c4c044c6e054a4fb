import Derived.Maps.Own
import Derived.Maps.OwnSet
import Derived.Maps.Views
import Derived.Maps.Ext
import Derived.Lib.SlMapEqual
import Derived.Lib.SlKeysI
namespace Go.Proofs.Ytngocadnbpdnoaa.Mo
open Go Go.Maps
set_option linter.unusedSimpArgs false
set_option linter.unusedVariables false
/-- A map keyed by uint64, as it reads. -/
def mp {β : Type} (d : β → DataW Unit) (l : List (Int × β)) : DataW Unit := .map (l.map fun p => (Lit.int .u64 p.1, d p.2))
def Asc {β : Type} (l : List (Int × β)) : Prop := l.Pairwise (fun p q => p.1 < q.1)
def fnd {β : Type} (l : List (Int × β)) (k : Int) : Option β := (l.find? (fun p => p.1 == k)).map (·.2)
def put {β : Type} : List (Int × β) → Int → β → List (Int × β)
  | [], k, v => [(k, v)]
  | p :: r, k, v => if p.1 < k then p :: put r k v else if p.1 = k then (k, v) :: r else (k, v) :: p :: r
def del {β : Type} (l : List (Int × β)) (k : Int) : List (Int × β) := l.filter (fun p => !(p.1 == k))
section
variable {β : Type} {d : β → DataW Unit}
theorem fnd_nil (k : Int) : fnd ([] : List (Int × β)) k = none := rfl
theorem fnd_cons (p : Int × β) (r : List (Int × β)) (k : Int) : fnd (p :: r) k = if p.1 = k then some p.2 else fnd r k := by
  unfold fnd
  by_cases h : p.1 = k <;> simp [List.find?_cons, h]
theorem has_mp (l : List (Int × β)) (k : Int) : has (mp d l) (.int .u64 k) = (fnd l k).isSome := by
  induction l with
  | nil => rfl
  | cons p r ih =>
    rw [fnd_cons]
    have : has (mp d (p :: r)) (.int .u64 k) = ((Lit.int .u64 p.1).sameKey (.int .u64 k) || has (mp d r) (.int .u64 k)) := rfl
    rw [this, ih]
    by_cases h : p.1 = k <;> simp [Lit.sameKey, h]
theorem atKey_mp (l : List (Int × β)) (k : Int) (z : DataW Unit) : (mp d l).atKey (.int .u64 k) z = match fnd l k with | some v => d v | none => z := by
  induction l with
  | nil => rfl
  | cons p r ih =>
    rw [fnd_cons]
    by_cases h : p.1 = k
    · subst h
      simp [mp, DataW.atKey, Lit.sameKey, List.find?_cons]
    · rw [if_neg h, ← ih]
      simp [mp, DataW.atKey, Lit.sameKey, List.find?_cons, h]
theorem asc_tail {p : Int × β} {r : List (Int × β)} (h : Asc (p :: r)) : Asc r := (List.pairwise_cons.1 h).2
theorem asc_head {p : Int × β} {r : List (Int × β)} (h : Asc (p :: r)) : ∀ q ∈ r, p.1 < q.1 := (List.pairwise_cons.1 h).1
theorem filter_above (l : List (Int × β)) (k : Int) (h : ∀ q ∈ l, k < q.1) : (l.map fun p => (Lit.int .u64 p.1, d p.2)).filter (fun p => !p.1.sameKey (.int .u64 k)) = l.map fun p => (Lit.int .u64 p.1, d p.2) := by
  rw [List.filter_eq_self]
  intro x hx
  obtain ⟨q, hq, rfl⟩ := List.mem_map.1 hx
  have := h q hq
  simp [Lit.sameKey]; omega
theorem put_mp (l : List (Int × β)) (k : Int) (v : β) (h : Asc l) : (mp d l).put (.int .u64 k) (d v) = mp d (put l k v) := by
  have go : ∀ l : List (Int × β), Asc l → DataW.insert (Lit.int .u64 k, d v) ((l.map fun p => (Lit.int .u64 p.1, d p.2)).filter fun p => !p.1.sameKey (.int .u64 k)) = (put l k v).map fun p => (Lit.int .u64 p.1, d p.2) := by
    intro l
    induction l with
    | nil => intro _; rfl
    | cons p r ih =>
      intro ha
      have hh := asc_head ha
      simp only [put]
      by_cases h1 : p.1 < k
      · rw [if_pos h1]
        have hk : (Lit.int .u64 p.1).sameKey (.int .u64 k) = false := by simp [Lit.sameKey]; omega
        simp only [List.map_cons, List.filter_cons, hk, Bool.not_false, if_true]
        rw [DataW.insert, ih (asc_tail ha)]
        have hb : (Lit.int .u64 k).before (.int .u64 p.1) = false := by simp [Lit.before]; omega
        simp [hb]
      · rw [if_neg h1]
        by_cases h2 : p.1 = k
        · rw [if_pos h2]
          have hk : (Lit.int .u64 p.1).sameKey (.int .u64 k) = true := by simp [Lit.sameKey, h2]
          simp only [List.map_cons, List.filter_cons, hk, Bool.not_true]
          rw [filter_above r k (fun q hq => by have := hh q hq; omega)]
          cases r with
          | nil => rfl
          | cons q r => have := hh q (by simp); simp [DataW.insert, Lit.before]; omega
        · rw [if_neg h2]
          rw [filter_above (p :: r) k (fun q hq => by rcases List.mem_cons.1 hq with rfl | hq; omega; have := hh q hq; omega)]
          simp [DataW.insert, Lit.before]; omega
  show DataW.map _ = DataW.map _
  rw [go l h]
theorem del_mp (l : List (Int × β)) (k : Int) : (mp d l).del (.int .u64 k) = mp d (del l k) := by
  show DataW.map _ = DataW.map _
  congr 1
  induction l with
  | nil => rfl
  | cons p r ih =>
    simp only [List.map_cons, List.filter_cons, del] at ih ⊢
    by_cases h : p.1 = k
    · simp [Lit.sameKey, h] at ih ⊢; exact ih
    · simp [Lit.sameKey, h] at ih ⊢; exact ih
theorem size_mp (l : List (Int × β)) : size (mp d l) = l.length := by simp [mp, size]
theorem mem_put {l : List (Int × β)} {k : Int} {v : β} {q : Int × β} (h : q ∈ put l k v) : q = (k, v) ∨ q ∈ l := by
  induction l with
  | nil => simp [put] at h; exact .inl h
  | cons p r ih =>
    simp only [put] at h
    split at h
    · rcases List.mem_cons.1 h with e | h
      · exact .inr (by simp [e])
      · rcases ih h with e | e
        · exact .inl e
        · exact .inr (by simp [e])
    · split at h
      · rcases List.mem_cons.1 h with e | h
        · exact .inl e
        · exact .inr (by simp [h])
      · rcases List.mem_cons.1 h with e | h
        · exact .inl e
        · exact .inr h
theorem asc_put {l : List (Int × β)} (h : Asc l) (k : Int) (v : β) : Asc (put l k v) := by
  induction l with
  | nil => simp [put, Asc]
  | cons p r ih =>
    have hh := asc_head h
    have ht := asc_tail h
    simp only [put]
    split
    · refine List.pairwise_cons.2 ⟨fun q hq => ?_, ih ht⟩
      rcases mem_put hq with rfl | hq
      · assumption
      · exact hh q hq
    · split
      · refine List.pairwise_cons.2 ⟨fun q hq => ?_, ht⟩
        have := hh q hq
        show k < q.1
        omega
      · refine List.pairwise_cons.2 ⟨fun q hq => ?_, h⟩
        show k < q.1
        rcases List.mem_cons.1 hq with rfl | hq
        · omega
        · have := hh q hq; omega
theorem asc_del {l : List (Int × β)} (h : Asc l) (k : Int) : Asc (del l k) := List.Pairwise.filter _ h
theorem length_put_le (l : List (Int × β)) (k : Int) (v : β) : (put l k v).length ≤ l.length + 1 := by
  induction l with
  | nil => simp [put]
  | cons p r ih => simp only [put]; split <;> (try split) <;> simp <;> omega
theorem fnd_mem {l : List (Int × β)} {k : Int} {v : β} (h : fnd l k = some v) : (k, v) ∈ l := by
  induction l with
  | nil => simp [fnd] at h
  | cons p r ih =>
    rw [fnd_cons] at h
    split at h
    · rename_i e; cases h; subst e; simp
    · exact List.mem_cons_of_mem _ (ih h)
theorem fnd_of_mem {l : List (Int × β)} (ha : Asc l) {q : Int × β} (h : q ∈ l) : fnd l q.1 = some q.2 := by
  induction l with
  | nil => cases h
  | cons p r ih =>
    rw [fnd_cons]
    rcases List.mem_cons.1 h with rfl | h
    · simp
    · have := asc_head ha q h
      rw [if_neg (by omega)]
      exact ih (asc_tail ha) h
theorem fnd_put_other (l : List (Int × β)) (k : Int) (v : β) {j : Int} (h : j ≠ k) : fnd (put l k v) j = fnd l j := by
  induction l with
  | nil => simp [put, fnd_cons, fnd_nil]; intro e; exact absurd e.symm h
  | cons p r ih =>
    simp only [put]
    split
    · rw [fnd_cons, fnd_cons, ih]
    · split
      · rename_i e
        rw [fnd_cons, fnd_cons]
        simp only
        rw [if_neg (fun e' => h e'.symm), if_neg (by rw [e]; exact fun e' => h e'.symm)]
      · rw [fnd_cons]
        simp only
        rw [if_neg (fun e' => h e'.symm)]
theorem fnd_del_same (l : List (Int × β)) (k : Int) : fnd (del l k) k = none := by
  unfold fnd del
  rw [Option.map_eq_none_iff, List.find?_eq_none]
  intro x hx
  have := (List.mem_filter.1 hx).2
  simpa using this
theorem fnd_del_other (l : List (Int × β)) (k : Int) {j : Int} (h : j ≠ k) : fnd (del l k) j = fnd l j := by
  induction l with
  | nil => rfl
  | cons p r ih =>
    by_cases e : p.1 = k
    · have : del (p :: r) k = del r k := by simp [del, e]
      rw [this, ih, fnd_cons, if_neg (by rw [e]; exact fun e' => h e'.symm)]
    · have : del (p :: r) k = p :: del r k := by simp [del, e]
      rw [this, fnd_cons, fnd_cons, ih]
theorem mp_inj (hd : ∀ x y, d x = d y → x = y) : ∀ {l l' : List (Int × β)}, mp d l = mp d l' → l = l' := by
  intro l
  induction l with
  | nil => intro l' h; cases l' with
    | nil => rfl
    | cons p r => simp [mp] at h
  | cons p r ih =>
    intro l' h
    cases l' with
    | nil => simp [mp] at h
    | cons q s =>
      simp only [mp, List.map_cons, DataW.map.injEq, List.cons.injEq, Prod.mk.injEq, Lit.int.injEq, true_and] at h
      obtain ⟨⟨h1, h2⟩, h3⟩ := h
      rw [ih (l' := s) (by simp only [mp, h3])]
      obtain ⟨a, b⟩ := p; obtain ⟨a', b'⟩ := q
      simp only at h1 h2
      rw [h1, hd _ _ h2]
theorem asc_nodup {l : List (Int × β)} (h : Asc l) : (l.map (·.1)).Pairwise (· < ·) := List.pairwise_map.2 h
end
def lit64 : Int → DataW Unit := fun v => .lit (.int .u64 v)
theorem lit64_inj (x y : Int) (h : lit64 x = lit64 y) : x = y := by simpa [lit64] using h
abbrev PL := List (Int × Int)
def dmap : PL → DataW Unit := mp lit64
theorem dmap_inj (x y : PL) (h : dmap x = dmap y) : x = y := mp_inj lit64_inj h
theorem intKeys_mp {β : Type} (d : β → DataW Unit) (l : List (Int × β)) : Go.intKeys (mp d l) = l.map (·.1) := by
  simp [Go.intKeys, mp, Go.intOf]
theorem sort_keys {β : Type} {l : List (Int × β)} (h : Asc l) {ss : List Int} (hp : ss.Perm (l.map (·.1))) : ss.mergeSort (fun x y => decide (x ≤ y)) = l.map (·.1) := by
  have e := Go.mergeSort_of_perm_i hp
  refine Eq.trans e ?_
  refine List.mergeSort_of_pairwise ?_
  exact (asc_nodup h).imp (fun {a b} hab => by simp [Go.leI]; omega)
end Go.Proofs.Ytngocadnbpdnoaa.Mo
