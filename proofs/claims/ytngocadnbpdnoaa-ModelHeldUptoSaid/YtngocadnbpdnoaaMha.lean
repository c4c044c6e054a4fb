import Derived.Maps.Own
import Derived.Maps.OwnSet
import Derived.Maps.Views
import Derived.Maps.Ext
import Derived.Lib.SlMapEqual
import Derived.Lib.SlKeysI
import Derived.Shelf.SlBodiesZ
import Derived.Shelf.SlGeneric
import Derived.Test.YtngocadnbpdnoaaProg
import Derived.Test.YtngocadnbpdnoaaXuL
import Derived.Shelf.SlMaps.Clone
import Derived.Shelf.SlMaps.Equal
import Derived.Shelf.SlicesQ.IndexFunc
import Derived.Test.YtngocadnbpdnoaaXiK
import Derived.Shelf.SlIter.Keys
import Derived.Shelf.AbstractIn
import Derived.RangeFuncSeq
import Derived.Sort.MapsRangeIn
import Derived.Sort.KeysCollected
import Derived.WalkKit
import Derived.OwnWalkIn
import Derived.TacticsInMore
import Derived.RegionIn
import Derived.LoopNIn
import Derived.LoopIn
import Derived.Shelf.SlIter.Collect
import Derived.RangeFuncGives
import Derived.Maps.AppendAt
import Derived.Shelf.Abstract
import Derived.Shelf.SlIter.Sorted
import Derived.RangeFuncBound
import Derived.Sort.OwnSorted
import Derived.Shelf.SlIter.Nil
import Derived.Test.YtngocadnbpdnoaaXuN
import Derived.Test.YtngocadnbpdnoaaQx0
import Derived.Sort.EveryDepth
import Derived.Lib.Hide
import Derived.Maps.OwnOps
import Derived.Maps.RangeWalk
import Derived.Test.YtngocadnbpdnoaaWKept
import Derived.Deep.RegionHeld3
import Derived.Laws.Pointers
import Derived.Deep.DeepCutAuto
import Derived.Shelf.SlicesE.Equal
import Derived.BigRegion
import Derived.OrdersHeld
namespace Go.Proofs.Ytngocadnbpdnoaa.Mo
open Go Go.Maps
set_option linter.unusedSimpArgs false
set_option linter.unusedVariables false
/-- A map keyed by uint64, as it reads. -/
def mp {β : Type} (d : β → DataW Unit) (l : List (Int × β)) : DataW Unit := .map (l.map fun p => (Lit.int .u64 p.1, d p.2))
def Asc {β : Type} (l : List (Int × β)) : Prop := l.Pairwise (fun p q => p.1 < q.1)
def fnd {β : Type} (l : List (Int × β)) (k : Int) : Option β := (l.find? (fun p => p.1 == k)).map (·.2)
def put {β : Type} : List (Int × β) → Int → β → List (Int × β)
  | [], k, v => [(k, v)]
  | p :: r, k, v => if p.1 < k then p :: put r k v else if p.1 = k then (k, v) :: r else (k, v) :: p :: r
def del {β : Type} (l : List (Int × β)) (k : Int) : List (Int × β) := l.filter (fun p => !(p.1 == k))
section
variable {β : Type} {d : β → DataW Unit}
theorem fnd_nil (k : Int) : fnd ([] : List (Int × β)) k = none := rfl
theorem fnd_cons (p : Int × β) (r : List (Int × β)) (k : Int) : fnd (p :: r) k = if p.1 = k then some p.2 else fnd r k := by
  unfold fnd
  by_cases h : p.1 = k <;> simp [List.find?_cons, h]
theorem has_mp (l : List (Int × β)) (k : Int) : has (mp d l) (.int .u64 k) = (fnd l k).isSome := by
  induction l with
  | nil => rfl
  | cons p r ih =>
    rw [fnd_cons]
    have : has (mp d (p :: r)) (.int .u64 k) = ((Lit.int .u64 p.1).sameKey (.int .u64 k) || has (mp d r) (.int .u64 k)) := rfl
    rw [this, ih]
    by_cases h : p.1 = k <;> simp [Lit.sameKey, h]
theorem atKey_mp (l : List (Int × β)) (k : Int) (z : DataW Unit) : (mp d l).atKey (.int .u64 k) z = match fnd l k with | some v => d v | none => z := by
  induction l with
  | nil => rfl
  | cons p r ih =>
    rw [fnd_cons]
    by_cases h : p.1 = k
    · subst h
      simp [mp, DataW.atKey, Lit.sameKey, List.find?_cons]
    · rw [if_neg h, ← ih]
      simp [mp, DataW.atKey, Lit.sameKey, List.find?_cons, h]
theorem asc_tail {p : Int × β} {r : List (Int × β)} (h : Asc (p :: r)) : Asc r := (List.pairwise_cons.1 h).2
theorem asc_head {p : Int × β} {r : List (Int × β)} (h : Asc (p :: r)) : ∀ q ∈ r, p.1 < q.1 := (List.pairwise_cons.1 h).1
theorem filter_above (l : List (Int × β)) (k : Int) (h : ∀ q ∈ l, k < q.1) : (l.map fun p => (Lit.int .u64 p.1, d p.2)).filter (fun p => !p.1.sameKey (.int .u64 k)) = l.map fun p => (Lit.int .u64 p.1, d p.2) := by
  rw [List.filter_eq_self]
  intro x hx
  obtain ⟨q, hq, rfl⟩ := List.mem_map.1 hx
  have := h q hq
  simp [Lit.sameKey]; omega
theorem put_mp (l : List (Int × β)) (k : Int) (v : β) (h : Asc l) : (mp d l).put (.int .u64 k) (d v) = mp d (put l k v) := by
  have go : ∀ l : List (Int × β), Asc l → DataW.insert (Lit.int .u64 k, d v) ((l.map fun p => (Lit.int .u64 p.1, d p.2)).filter fun p => !p.1.sameKey (.int .u64 k)) = (put l k v).map fun p => (Lit.int .u64 p.1, d p.2) := by
    intro l
    induction l with
    | nil => intro _; rfl
    | cons p r ih =>
      intro ha
      have hh := asc_head ha
      simp only [put]
      by_cases h1 : p.1 < k
      · rw [if_pos h1]
        have hk : (Lit.int .u64 p.1).sameKey (.int .u64 k) = false := by simp [Lit.sameKey]; omega
        simp only [List.map_cons, List.filter_cons, hk, Bool.not_false, if_true]
        rw [DataW.insert, ih (asc_tail ha)]
        have hb : (Lit.int .u64 k).before (.int .u64 p.1) = false := by simp [Lit.before]; omega
        simp [hb]
      · rw [if_neg h1]
        by_cases h2 : p.1 = k
        · rw [if_pos h2]
          have hk : (Lit.int .u64 p.1).sameKey (.int .u64 k) = true := by simp [Lit.sameKey, h2]
          simp only [List.map_cons, List.filter_cons, hk, Bool.not_true]
          rw [filter_above r k (fun q hq => by have := hh q hq; omega)]
          cases r with
          | nil => rfl
          | cons q r => have := hh q (by simp); simp [DataW.insert, Lit.before]; omega
        · rw [if_neg h2]
          rw [filter_above (p :: r) k (fun q hq => by rcases List.mem_cons.1 hq with rfl | hq; omega; have := hh q hq; omega)]
          simp [DataW.insert, Lit.before]; omega
  show DataW.map _ = DataW.map _
  rw [go l h]
theorem del_mp (l : List (Int × β)) (k : Int) : (mp d l).del (.int .u64 k) = mp d (del l k) := by
  show DataW.map _ = DataW.map _
  congr 1
  induction l with
  | nil => rfl
  | cons p r ih =>
    simp only [List.map_cons, List.filter_cons, del] at ih ⊢
    by_cases h : p.1 = k
    · simp [Lit.sameKey, h] at ih ⊢; exact ih
    · simp [Lit.sameKey, h] at ih ⊢; exact ih
theorem size_mp (l : List (Int × β)) : size (mp d l) = l.length := by simp [mp, size]
theorem mem_put {l : List (Int × β)} {k : Int} {v : β} {q : Int × β} (h : q ∈ put l k v) : q = (k, v) ∨ q ∈ l := by
  induction l with
  | nil => simp [put] at h; exact .inl h
  | cons p r ih =>
    simp only [put] at h
    split at h
    · rcases List.mem_cons.1 h with e | h
      · exact .inr (by simp [e])
      · rcases ih h with e | e
        · exact .inl e
        · exact .inr (by simp [e])
    · split at h
      · rcases List.mem_cons.1 h with e | h
        · exact .inl e
        · exact .inr (by simp [h])
      · rcases List.mem_cons.1 h with e | h
        · exact .inl e
        · exact .inr h
theorem asc_put {l : List (Int × β)} (h : Asc l) (k : Int) (v : β) : Asc (put l k v) := by
  induction l with
  | nil => simp [put, Asc]
  | cons p r ih =>
    have hh := asc_head h
    have ht := asc_tail h
    simp only [put]
    split
    · refine List.pairwise_cons.2 ⟨fun q hq => ?_, ih ht⟩
      rcases mem_put hq with rfl | hq
      · assumption
      · exact hh q hq
    · split
      · refine List.pairwise_cons.2 ⟨fun q hq => ?_, ht⟩
        have := hh q hq
        show k < q.1
        omega
      · refine List.pairwise_cons.2 ⟨fun q hq => ?_, h⟩
        show k < q.1
        rcases List.mem_cons.1 hq with rfl | hq
        · omega
        · have := hh q hq; omega
theorem asc_del {l : List (Int × β)} (h : Asc l) (k : Int) : Asc (del l k) := List.Pairwise.filter _ h
theorem mem_del {l : List (Int × β)} {k : Int} {q : Int × β} (h : q ∈ del l k) : q ∈ l := (List.mem_filter.1 h).1
theorem length_put_le (l : List (Int × β)) (k : Int) (v : β) : (put l k v).length ≤ l.length + 1 := by
  induction l with
  | nil => simp [put]
  | cons p r ih => simp only [put]; split <;> (try split) <;> simp <;> omega
theorem fnd_mem {l : List (Int × β)} {k : Int} {v : β} (h : fnd l k = some v) : (k, v) ∈ l := by
  induction l with
  | nil => simp [fnd] at h
  | cons p r ih =>
    rw [fnd_cons] at h
    split at h
    · rename_i e; cases h; subst e; simp
    · exact List.mem_cons_of_mem _ (ih h)
theorem fnd_of_mem {l : List (Int × β)} (ha : Asc l) {q : Int × β} (h : q ∈ l) : fnd l q.1 = some q.2 := by
  induction l with
  | nil => cases h
  | cons p r ih =>
    rw [fnd_cons]
    rcases List.mem_cons.1 h with rfl | h
    · simp
    · have := asc_head ha q h
      rw [if_neg (by omega)]
      exact ih (asc_tail ha) h
theorem fnd_put_same (l : List (Int × β)) (k : Int) (v : β) : fnd (put l k v) k = some v := by
  induction l with
  | nil => simp [put, fnd_cons]
  | cons p r ih =>
    simp only [put]
    split
    · rw [fnd_cons, if_neg (by omega), ih]
    · split <;> simp [fnd_cons]
theorem fnd_put_other (l : List (Int × β)) (k : Int) (v : β) {j : Int} (h : j ≠ k) : fnd (put l k v) j = fnd l j := by
  induction l with
  | nil => simp [put, fnd_cons, fnd_nil]; intro e; exact absurd e.symm h
  | cons p r ih =>
    simp only [put]
    split
    · rw [fnd_cons, fnd_cons, ih]
    · split
      · rename_i e
        rw [fnd_cons, fnd_cons]
        simp only
        rw [if_neg (fun e' => h e'.symm), if_neg (by rw [e]; exact fun e' => h e'.symm)]
      · rw [fnd_cons]
        simp only
        rw [if_neg (fun e' => h e'.symm)]
theorem fnd_del_same (l : List (Int × β)) (k : Int) : fnd (del l k) k = none := by
  unfold fnd del
  rw [Option.map_eq_none_iff, List.find?_eq_none]
  intro x hx
  have := (List.mem_filter.1 hx).2
  simpa using this
theorem fnd_del_other (l : List (Int × β)) (k : Int) {j : Int} (h : j ≠ k) : fnd (del l k) j = fnd l j := by
  induction l with
  | nil => rfl
  | cons p r ih =>
    by_cases e : p.1 = k
    · have : del (p :: r) k = del r k := by simp [del, e]
      rw [this, ih, fnd_cons, if_neg (by rw [e]; exact fun e' => h e'.symm)]
    · have : del (p :: r) k = p :: del r k := by simp [del, e]
      rw [this, fnd_cons, fnd_cons, ih]
theorem mp_inj (hd : ∀ x y, d x = d y → x = y) : ∀ {l l' : List (Int × β)}, mp d l = mp d l' → l = l' := by
  intro l
  induction l with
  | nil => intro l' h; cases l' with
    | nil => rfl
    | cons p r => simp [mp] at h
  | cons p r ih =>
    intro l' h
    cases l' with
    | nil => simp [mp] at h
    | cons q s =>
      simp only [mp, List.map_cons, DataW.map.injEq, List.cons.injEq, Prod.mk.injEq, Lit.int.injEq, true_and] at h
      obtain ⟨⟨h1, h2⟩, h3⟩ := h
      rw [ih (l' := s) (by simp only [mp, h3])]
      obtain ⟨a, b⟩ := p; obtain ⟨a', b'⟩ := q
      simp only at h1 h2
      rw [h1, hd _ _ h2]
/-- Two rising lists with the same values at each key are one. -/
theorem asc_ext : ∀ {l l' : List (Int × β)}, Asc l → Asc l' → (∀ k, fnd l k = fnd l' k) → l = l' := by
  intro l
  induction l with
  | nil =>
    intro l' _ _ h
    cases l' with
    | nil => rfl
    | cons q s => have := h q.1; rw [fnd_nil, fnd_cons, if_pos rfl] at this; cases this
  | cons p r ih =>
    intro l' ha hb h
    cases l' with
    | nil => have := h p.1; rw [fnd_nil, fnd_cons, if_pos rfl] at this; cases this
    | cons q s =>
      have hp := asc_head ha
      have hq := asc_head hb
      have e : p.1 = q.1 := by
        have h1 := h p.1
        have h2 := h q.1
        rw [fnd_cons, if_pos rfl, fnd_cons] at h1
        rw [fnd_cons, fnd_cons, if_pos rfl] at h2
        by_cases e : p.1 = q.1
        · exact e
        · rw [if_neg (fun e' => e e'.symm)] at h1
          rw [if_neg e] at h2
          have m1 := hq _ (fnd_mem h1.symm)
          have m2 := hp _ (fnd_mem h2)
          simp only at m1 m2
          omega
      have e2 : p.2 = q.2 := by
        have h1 := h p.1
        rw [fnd_cons, if_pos rfl, fnd_cons, if_pos e.symm] at h1
        exact Option.some.inj h1
      have e3 : p = q := Prod.ext e e2
      subst e3
      congr 1
      refine ih (asc_tail ha) (asc_tail hb) (fun k => ?_)
      have hk := h k
      rw [fnd_cons, fnd_cons] at hk
      by_cases e' : p.1 = k
      · have n1 : fnd r k = none := by
          cases hf : fnd r k with
          | none => rfl
          | some v => have := hp _ (fnd_mem hf); simp only at this; omega
        have n2 : fnd s k = none := by
          cases hf : fnd s k with
          | none => rfl
          | some v => have := hq _ (fnd_mem hf); simp only at this; omega
        rw [n1, n2]
      · rwa [if_neg e', if_neg e'] at hk
theorem asc_nodup {l : List (Int × β)} (h : Asc l) : (l.map (·.1)).Pairwise (· < ·) := List.pairwise_map.2 h
end
def lit64 : Int → DataW Unit := fun v => .lit (.int .u64 v)
theorem lit64_inj (x y : Int) (h : lit64 x = lit64 y) : x = y := by simpa [lit64] using h
abbrev PL := List (Int × Int)
def dmap : PL → DataW Unit := mp lit64
theorem dmap_inj (x y : PL) (h : dmap x = dmap y) : x = y := mp_inj lit64_inj h
theorem intKeys_mp {β : Type} (d : β → DataW Unit) (l : List (Int × β)) : Go.intKeys (mp d l) = l.map (·.1) := by
  simp [Go.intKeys, mp, Go.intOf]
theorem sort_keys {β : Type} {l : List (Int × β)} (h : Asc l) {ss : List Int} (hp : ss.Perm (l.map (·.1))) : ss.mergeSort (fun x y => decide (x ≤ y)) = l.map (·.1) := by
  have e := Go.mergeSort_of_perm_i hp
  refine Eq.trans e ?_
  refine List.mergeSort_of_pairwise ?_
  exact (asc_nodup h).imp (fun {a b} hab => by simp [Go.leI]; omega)
/-- maps.Equal and EqualFunc at such maps. -/
theorem equal_mpP {β : Type} {d : β → DataW Unit} {eqd : DataW Unit → DataW Unit → Bool} [DecidableEq β] {l l' : List (Int × β)} (heq : ∀ x y, (∃ k, (k, x) ∈ l) → (∃ k, (k, y) ∈ l') → eqd (d x) (d y) = decide (x = y)) (ha : Asc l) (hb : Asc l') :
    Lib.equalFuncD eqd (mp d l) (mp d l') = decide (l = l') := by
  rw [Bool.eq_iff_iff]
  unfold Lib.equalFuncD
  rw [size_mp, size_mp]
  simp only [Bool.and_eq_true, decide_eq_true_eq]
  have hall : (Lib.entriesD (mp d l)).all (Lib.goodD eqd (mp d l')) = true ↔ ∀ q ∈ l, fnd l' q.1 = some q.2 := by
    rw [List.all_eq_true]
    constructor
    · intro h q hq
      have := h (Lit.int .u64 q.1, d q.2) (List.mem_map.2 ⟨q, hq, rfl⟩)
      simp only [Lib.goodD, Bool.and_eq_true] at this
      obtain ⟨h1, h2⟩ := this
      rw [has_mp] at h1
      rw [atKey_mp] at h2
      cases hf : fnd l' q.1 with
      | none => rw [hf] at h1; cases h1
      | some v => rw [hf] at h2; simp only at h2; rw [heq _ _ ⟨q.1, hq⟩ ⟨q.1, fnd_mem hf⟩] at h2; rw [of_decide_eq_true h2]
    · intro h x hx
      obtain ⟨q, hq, rfl⟩ := List.mem_map.1 hx
      simp only [Lib.goodD, Bool.and_eq_true]
      rw [has_mp, atKey_mp, h q hq]
      simp only [Option.isSome_some, true_and]
      rw [heq _ _ ⟨q.1, hq⟩ ⟨q.1, fnd_mem (h q hq)⟩]
      simp
  rw [hall]
  constructor
  · rintro ⟨hlen, hm⟩
    -- l is a sublist in order of l' with the same length
    have key : ∀ (l l' : List (Int × β)), Asc l → Asc l' → (∀ q ∈ l, q ∈ l') → l.length ≤ l'.length ∧ (l.length = l'.length → l = l') := by
      intro l
      induction l with
      | nil => intro l' _ _ _; exact ⟨by simp, fun e => (List.eq_nil_of_length_eq_zero (by simpa using e.symm)).symm⟩
      | cons p r ih =>
        intro l' ha hb hm
        have hp := hm p (by simp)
        obtain ⟨s, t, rfl⟩ := List.append_of_mem hp
        have hbt : Asc t := asc_tail (List.pairwise_append.1 hb).2.1
        have hsp : ∀ a ∈ s, a.1 < p.1 := fun a hs => (List.pairwise_append.1 hb).2.2 a hs p (by simp)
        have hr : ∀ q ∈ r, q ∈ t := by
          intro q hq
          have h1 := hm q (List.mem_cons_of_mem _ hq)
          have h2 := asc_head ha q hq
          rcases List.mem_append.1 h1 with h1 | h1
          · have := hsp q h1; omega
          · rcases List.mem_cons.1 h1 with h1 | h1
            · subst h1; omega
            · exact h1
        obtain ⟨i1, i2⟩ := ih t (asc_tail ha) hbt hr
        refine ⟨by simp; omega, fun e => ?_⟩
        have hs : s = [] := List.eq_nil_of_length_eq_zero (by simp at e; omega)
        subst hs
        rw [i2 (by simp at e; omega)]
        rfl
    exact (key l l' ha hb (fun q hq => fnd_mem (hm q hq))).2 hlen
  · rintro rfl
    exact ⟨rfl, fun q hq => fnd_of_mem ha hq⟩
theorem equal_mp {β : Type} {d : β → DataW Unit} {eqd : DataW Unit → DataW Unit → Bool} [DecidableEq β] (heq : ∀ x y, eqd (d x) (d y) = decide (x = y)) {l l' : List (Int × β)} (ha : Asc l) (hb : Asc l') :
    Lib.equalFuncD eqd (mp d l) (mp d l') = decide (l = l') := equal_mpP (fun x y _ _ => heq x y) ha hb
end Go.Proofs.Ytngocadnbpdnoaa.Mo
namespace Go.Proofs.Ytngocadnbpdnoaa.Srt
open Go Go.Proofs
open Go.Shelf


structure SlLaysZU.n6 (P : Program) (ρ : Ren) : Prop where
  mixed : P.follows .mixedOrders = true
  f6 : Bears P (ρ.f 6) (SlBodyZ.n6 ρ)
  f8 : Bears P (ρ.f 8) (SlBodyZ.n8 ρ)
  f11 : Bears P (ρ.f 11) (SlBodyZ.n11 ρ)
  t0 : P.underlying (ρ.t 0) = some (TypeDesc.tuple #[])
  a0 : ∀ w, (isAgg (ρ.t 0)).run P w = .ok false w
  z0 : ∀ w, (Go.sizeOf (ρ.t 0)).run P w = .ok 1 w
  v0 : ∀ w, (zeroValue (ρ.t 0)).run P w = .ok (Value.tuple #[]) w
  t24 : P.underlying (ρ.t 24) = some (TypeDesc.slice (ρ.t 26))
  a24 : ∀ w, (isAgg (ρ.t 24)).run P w = .ok false w
  z24 : ∀ w, (Go.sizeOf (ρ.t 24)).run P w = .ok 1 w
  v24 : ∀ w, (zeroValue (ρ.t 24)).run P w = .ok (Value.slice none 0 0) w
  t26 : P.underlying (ρ.t 26) = some (TypeDesc.int IntKind.u64)
  a26 : ∀ w, (isAgg (ρ.t 26)).run P w = .ok false w
  z26 : ∀ w, (Go.sizeOf (ρ.t 26)).run P w = .ok 1 w
  v26 : ∀ w, (zeroValue (ρ.t 26)).run P w = .ok (Value.int IntKind.u64 0) w
  t28 : P.underlying (ρ.t 28) = some (TypeDesc.func #[ρ.t 33] #[] false)
  a28 : ∀ w, (isAgg (ρ.t 28)).run P w = .ok false w
  z28 : ∀ w, (Go.sizeOf (ρ.t 28)).run P w = .ok 1 w
  v28 : ∀ w, (zeroValue (ρ.t 28)).run P w = .ok (Value.nilFunc) w
  i26 : (P.info? (ρ.t 26)).map (fun i => (i.zero, i.size, i.bytes)) = some (some (.int .u64 0), 1, 8)


structure SlLaysZU.n7 (P : Program) (ρ : Ren) : Prop where
  mixed : P.follows .mixedOrders = true
  f7 : Bears P (ρ.f 7) (SlBodyZ.n7 ρ)
  f10 : Bears P (ρ.f 10) (SlBodyZ.n10 ρ)
  t0 : P.underlying (ρ.t 0) = some (TypeDesc.tuple #[])
  a0 : ∀ w, (isAgg (ρ.t 0)).run P w = .ok false w
  z0 : ∀ w, (Go.sizeOf (ρ.t 0)).run P w = .ok 1 w
  v0 : ∀ w, (zeroValue (ρ.t 0)).run P w = .ok (Value.tuple #[]) w
  t4 : P.underlying (ρ.t 4) = some (TypeDesc.bool)
  a4 : ∀ w, (isAgg (ρ.t 4)).run P w = .ok false w
  z4 : ∀ w, (Go.sizeOf (ρ.t 4)).run P w = .ok 1 w
  v4 : ∀ w, (zeroValue (ρ.t 4)).run P w = .ok (Value.bool false) w
  t23 : P.underlying (ρ.t 23) = some (TypeDesc.map (ρ.t 26) (ρ.t 3))
  a23 : ∀ w, (isAgg (ρ.t 23)).run P w = .ok false w
  z23 : ∀ w, (Go.sizeOf (ρ.t 23)).run P w = .ok 1 w
  v23 : ∀ w, (zeroValue (ρ.t 23)).run P w = .ok (Value.map none) w
  t26 : P.underlying (ρ.t 26) = some (TypeDesc.int IntKind.u64)
  a26 : ∀ w, (isAgg (ρ.t 26)).run P w = .ok false w
  z26 : ∀ w, (Go.sizeOf (ρ.t 26)).run P w = .ok 1 w
  v26 : ∀ w, (zeroValue (ρ.t 26)).run P w = .ok (Value.int IntKind.u64 0) w
  t27 : P.underlying (ρ.t 27) = some (TypeDesc.func #[ρ.t 33] #[] false)
  a27 : ∀ w, (isAgg (ρ.t 27)).run P w = .ok false w
  z27 : ∀ w, (Go.sizeOf (ρ.t 27)).run P w = .ok 1 w
  v27 : ∀ w, (zeroValue (ρ.t 27)).run P w = .ok (Value.nilFunc) w
  t28 : P.underlying (ρ.t 28) = some (TypeDesc.func #[ρ.t 33] #[] false)
  a28 : ∀ w, (isAgg (ρ.t 28)).run P w = .ok false w
  z28 : ∀ w, (Go.sizeOf (ρ.t 28)).run P w = .ok 1 w
  v28 : ∀ w, (zeroValue (ρ.t 28)).run P w = .ok (Value.nilFunc) w
  t33 : P.underlying (ρ.t 33) = some (TypeDesc.func #[ρ.t 26] #[ρ.t 4] false)
  a33 : ∀ w, (isAgg (ρ.t 33)).run P w = .ok false w
  z33 : ∀ w, (Go.sizeOf (ρ.t 33)).run P w = .ok 1 w
  v33 : ∀ w, (zeroValue (ρ.t 33)).run P w = .ok (Value.nilFunc) w


structure SlLaysZU.n8 (P : Program) (ρ : Ren) : Prop where
  mixed : P.follows .mixedOrders = true
  f8 : Bears P (ρ.f 8) (SlBodyZ.n8 ρ)
  f11 : Bears P (ρ.f 11) (SlBodyZ.n11 ρ)
  t0 : P.underlying (ρ.t 0) = some (TypeDesc.tuple #[])
  a0 : ∀ w, (isAgg (ρ.t 0)).run P w = .ok false w
  z0 : ∀ w, (Go.sizeOf (ρ.t 0)).run P w = .ok 1 w
  v0 : ∀ w, (zeroValue (ρ.t 0)).run P w = .ok (Value.tuple #[]) w
  t24 : P.underlying (ρ.t 24) = some (TypeDesc.slice (ρ.t 26))
  a24 : ∀ w, (isAgg (ρ.t 24)).run P w = .ok false w
  z24 : ∀ w, (Go.sizeOf (ρ.t 24)).run P w = .ok 1 w
  v24 : ∀ w, (zeroValue (ρ.t 24)).run P w = .ok (Value.slice none 0 0) w
  t26 : P.underlying (ρ.t 26) = some (TypeDesc.int IntKind.u64)
  a26 : ∀ w, (isAgg (ρ.t 26)).run P w = .ok false w
  z26 : ∀ w, (Go.sizeOf (ρ.t 26)).run P w = .ok 1 w
  v26 : ∀ w, (zeroValue (ρ.t 26)).run P w = .ok (Value.int IntKind.u64 0) w
  t28 : P.underlying (ρ.t 28) = some (TypeDesc.func #[ρ.t 33] #[] false)
  a28 : ∀ w, (isAgg (ρ.t 28)).run P w = .ok false w
  z28 : ∀ w, (Go.sizeOf (ρ.t 28)).run P w = .ok 1 w
  v28 : ∀ w, (zeroValue (ρ.t 28)).run P w = .ok (Value.nilFunc) w
  i26 : (P.info? (ρ.t 26)).map (fun i => (i.zero, i.size, i.bytes)) = some (some (.int .u64 0), 1, 8)


structure SlLaysZU.n10 (P : Program) (ρ : Ren) : Prop where
  mixed : P.follows .mixedOrders = true
  f10 : Bears P (ρ.f 10) (SlBodyZ.n10 ρ)
  t0 : P.underlying (ρ.t 0) = some (TypeDesc.tuple #[])
  a0 : ∀ w, (isAgg (ρ.t 0)).run P w = .ok false w
  z0 : ∀ w, (Go.sizeOf (ρ.t 0)).run P w = .ok 1 w
  v0 : ∀ w, (zeroValue (ρ.t 0)).run P w = .ok (Value.tuple #[]) w
  t4 : P.underlying (ρ.t 4) = some (TypeDesc.bool)
  a4 : ∀ w, (isAgg (ρ.t 4)).run P w = .ok false w
  z4 : ∀ w, (Go.sizeOf (ρ.t 4)).run P w = .ok 1 w
  v4 : ∀ w, (zeroValue (ρ.t 4)).run P w = .ok (Value.bool false) w
  t23 : P.underlying (ρ.t 23) = some (TypeDesc.map (ρ.t 26) (ρ.t 3))
  a23 : ∀ w, (isAgg (ρ.t 23)).run P w = .ok false w
  z23 : ∀ w, (Go.sizeOf (ρ.t 23)).run P w = .ok 1 w
  v23 : ∀ w, (zeroValue (ρ.t 23)).run P w = .ok (Value.map none) w
  t26 : P.underlying (ρ.t 26) = some (TypeDesc.int IntKind.u64)
  a26 : ∀ w, (isAgg (ρ.t 26)).run P w = .ok false w
  z26 : ∀ w, (Go.sizeOf (ρ.t 26)).run P w = .ok 1 w
  v26 : ∀ w, (zeroValue (ρ.t 26)).run P w = .ok (Value.int IntKind.u64 0) w
  t33 : P.underlying (ρ.t 33) = some (TypeDesc.func #[ρ.t 26] #[ρ.t 4] false)
  a33 : ∀ w, (isAgg (ρ.t 33)).run P w = .ok false w
  z33 : ∀ w, (Go.sizeOf (ρ.t 33)).run P w = .ok 1 w
  v33 : ∀ w, (zeroValue (ρ.t 33)).run P w = .ok (Value.nilFunc) w


structure SlLaysZU.n11 (P : Program) (ρ : Ren) : Prop where
  mixed : P.follows .mixedOrders = true
  f11 : Bears P (ρ.f 11) (SlBodyZ.n11 ρ)
  t0 : P.underlying (ρ.t 0) = some (TypeDesc.tuple #[])
  a0 : ∀ w, (isAgg (ρ.t 0)).run P w = .ok false w
  z0 : ∀ w, (Go.sizeOf (ρ.t 0)).run P w = .ok 1 w
  v0 : ∀ w, (zeroValue (ρ.t 0)).run P w = .ok (Value.tuple #[]) w
  t24 : P.underlying (ρ.t 24) = some (TypeDesc.slice (ρ.t 26))
  a24 : ∀ w, (isAgg (ρ.t 24)).run P w = .ok false w
  z24 : ∀ w, (Go.sizeOf (ρ.t 24)).run P w = .ok 1 w
  v24 : ∀ w, (zeroValue (ρ.t 24)).run P w = .ok (Value.slice none 0 0) w
  t26 : P.underlying (ρ.t 26) = some (TypeDesc.int IntKind.u64)
  a26 : ∀ w, (isAgg (ρ.t 26)).run P w = .ok false w
  z26 : ∀ w, (Go.sizeOf (ρ.t 26)).run P w = .ok 1 w
  v26 : ∀ w, (zeroValue (ρ.t 26)).run P w = .ok (Value.int IntKind.u64 0) w
  t28 : P.underlying (ρ.t 28) = some (TypeDesc.func #[ρ.t 33] #[] false)
  a28 : ∀ w, (isAgg (ρ.t 28)).run P w = .ok false w
  z28 : ∀ w, (Go.sizeOf (ρ.t 28)).run P w = .ok 1 w
  v28 : ∀ w, (zeroValue (ρ.t 28)).run P w = .ok (Value.nilFunc) w
  i26 : (P.info? (ρ.t 26)).map (fun i => (i.zero, i.size, i.bytes)) = some (some (.int .u64 0), 1, 8)

end Go.Proofs.Ytngocadnbpdnoaa.Srt
set_option linter.unusedVariables false
namespace Go.Proofs.Ytngocadnbpdnoaa.Srt
open Go Go.Proofs Go.Shelf
def KeysA_ren : Go.Shelf.Ren := ⟨fun | 7 => 85 | 10 => 100 | n => n, fun | 23 => 97 | 26 => 23 | 3 => 23 | 28 => 127 | 0 => 0 | 27 => 126 | 33 => 140 | 4 => 4 | n => n, fun | n => n⟩
theorem KeysA : SlLaysZU.n7 Try.prog KeysA_ren := {
  mixed := by kernel_rfl,
  f7 := ⟨Try.f85.name, by decide, Try.func85.trans (congrArg some (by kernel_rfl))⟩,
  f10 := ⟨Try.f100.name, by decide, Try.func100.trans (congrArg some (by kernel_rfl))⟩,
  t0 := Try.underlying0,
  a0 := Try.isAgg0,
  z0 := Try.sizeOf0,
  v0 := Try.zeroValue0,
  t4 := Try.underlying4,
  a4 := Try.isAgg4,
  z4 := Try.sizeOf4,
  v4 := Try.zeroValue4,
  t23 := Try.underlying97,
  a23 := Try.isAgg97,
  z23 := Try.sizeOf97,
  v23 := Try.zeroValue97,
  t26 := Try.underlying23,
  a26 := Try.isAgg23,
  z26 := Try.sizeOf23,
  v26 := Try.zeroValue23,
  t27 := Try.underlying126,
  a27 := Try.isAgg126,
  z27 := Try.sizeOf126,
  v27 := Try.zeroValue126,
  t28 := Try.underlying127,
  a28 := Try.isAgg127,
  z28 := Try.sizeOf127,
  v28 := Try.zeroValue127,
  t33 := Try.underlying140,
  a33 := Try.isAgg140,
  z33 := Try.sizeOf140,
  v33 := Try.zeroValue140 }
def KeysB_ren : Go.Shelf.Ren := ⟨fun | 7 => 58 | 10 => 96 | n => n, fun | 23 => 98 | 26 => 23 | 3 => 97 | 28 => 127 | 0 => 0 | 27 => 126 | 33 => 140 | 4 => 4 | n => n, fun | n => n⟩
theorem KeysB : SlLaysZU.n7 Try.prog KeysB_ren := {
  mixed := by kernel_rfl,
  f7 := ⟨Try.f58.name, by decide, Try.func58.trans (congrArg some (by kernel_rfl))⟩,
  f10 := ⟨Try.f96.name, by decide, Try.func96.trans (congrArg some (by kernel_rfl))⟩,
  t0 := Try.underlying0,
  a0 := Try.isAgg0,
  z0 := Try.sizeOf0,
  v0 := Try.zeroValue0,
  t4 := Try.underlying4,
  a4 := Try.isAgg4,
  z4 := Try.sizeOf4,
  v4 := Try.zeroValue4,
  t23 := Try.underlying98,
  a23 := Try.isAgg98,
  z23 := Try.sizeOf98,
  v23 := Try.zeroValue98,
  t26 := Try.underlying23,
  a26 := Try.isAgg23,
  z26 := Try.sizeOf23,
  v26 := Try.zeroValue23,
  t27 := Try.underlying126,
  a27 := Try.isAgg126,
  z27 := Try.sizeOf126,
  v27 := Try.zeroValue126,
  t28 := Try.underlying127,
  a28 := Try.isAgg127,
  z28 := Try.sizeOf127,
  v28 := Try.zeroValue127,
  t33 := Try.underlying140,
  a33 := Try.isAgg140,
  z33 := Try.sizeOf140,
  v33 := Try.zeroValue140 }
def SortedA_ren : Go.Shelf.Ren := ⟨fun | 6 => 57 | 8 => 94 | 9 => 95 | 11 => 102 | 13 => 104 | 12 => 103 | 23 => 114 | 24 => 115 | 14 => 105 | 15 => 106 | 16 => 107 | 17 => 108 | 18 => 109 | 19 => 110 | 20 => 111 | 21 => 112 | 22 => 113 | 25 => 116 | 26 => 117 | 27 => 118 | 28 => 119 | 29 => 120 | 30 => 121 | 31 => 122 | n => n, fun | 26 => 23 | 28 => 127 | 24 => 37 | 0 => 0 | 3 => 3 | 37 => 172 | 48 => 183 | 50 => 23 | 4 => 4 | 40 => 175 | 39 => 174 | 45 => 180 | 5 => 5 | 9 => 9 | 51 => 184 | 55 => 188 | 57 => 190 | 58 => 191 | 33 => 140 | n => n, fun | n => n⟩
theorem SortedA : SlLaysZU.n6 Try.prog SortedA_ren := {
  mixed := by kernel_rfl,
  f6 := ⟨Try.f57.name, by decide, Try.func57.trans (congrArg some (by kernel_rfl))⟩,
  f8 := ⟨Try.f94.name, by decide, Try.func94.trans (congrArg some (by kernel_rfl))⟩,
  f11 := ⟨Try.f102.name, by decide, Try.func102.trans (congrArg some (by kernel_rfl))⟩,
  t0 := Try.underlying0,
  a0 := Try.isAgg0,
  z0 := Try.sizeOf0,
  v0 := Try.zeroValue0,
  t24 := Try.underlying37,
  a24 := Try.isAgg37,
  z24 := Try.sizeOf37,
  v24 := Try.zeroValue37,
  t26 := Try.underlying23,
  a26 := Try.isAgg23,
  z26 := Try.sizeOf23,
  v26 := Try.zeroValue23,
  t28 := Try.underlying127,
  a28 := Try.isAgg127,
  z28 := Try.sizeOf127,
  v28 := Try.zeroValue127,
  i26 := by kernel_rfl }
def SortA_ren : Go.Shelf.Ren := ⟨fun | 5 => 95 | 8 => 104 | 7 => 103 | 19 => 114 | 20 => 115 | 10 => 105 | 11 => 106 | 12 => 107 | 13 => 108 | 14 => 109 | 15 => 110 | 16 => 111 | 17 => 112 | 18 => 113 | 30 => 116 | 31 => 117 | 32 => 118 | 33 => 119 | 34 => 120 | 35 => 121 | 40 => 122 | n => n, fun | 23 => 37 | 25 => 23 | 3 => 3 | 32 => 172 | 22 => 37 | 0 => 0 | 44 => 183 | 46 => 23 | 4 => 4 | 36 => 175 | 35 => 174 | 41 => 180 | 5 => 5 | 9 => 9 | 53 => 184 | 57 => 188 | 63 => 190 | 64 => 191 | n => n, fun | n => n⟩
theorem SortA : SlLaysU.n5 Try.prog SortA_ren := {
  mixed := by kernel_rfl,
  f5 := ⟨Try.f95.name, by decide, Try.func95.trans (congrArg some (by kernel_rfl))⟩,
  f7 := ⟨Try.f103.name, by decide, Try.func103.trans (congrArg some (by kernel_rfl))⟩,
  f8 := Try.func104.trans (congrArg some (by kernel_rfl)),
  f10 := ⟨Try.f105.name, by decide, Try.func105.trans (congrArg some (by kernel_rfl))⟩,
  f11 := ⟨Try.f106.name, by decide, Try.func106.trans (congrArg some (by kernel_rfl))⟩,
  f12 := ⟨Try.f107.name, by decide, Try.func107.trans (congrArg some (by kernel_rfl))⟩,
  f13 := ⟨Try.f108.name, by decide, Try.func108.trans (congrArg some (by kernel_rfl))⟩,
  f14 := ⟨Try.f109.name, by decide, Try.func109.trans (congrArg some (by kernel_rfl))⟩,
  f15 := ⟨Try.f110.name, by decide, Try.func110.trans (congrArg some (by kernel_rfl))⟩,
  f16 := ⟨Try.f111.name, by decide, Try.func111.trans (congrArg some (by kernel_rfl))⟩,
  f17 := ⟨Try.f112.name, by decide, Try.func112.trans (congrArg some (by kernel_rfl))⟩,
  f18 := ⟨Try.f113.name, by decide, Try.func113.trans (congrArg some (by kernel_rfl))⟩,
  f19 := Try.func114.trans (congrArg some (by kernel_rfl)),
  f20 := Try.func115.trans (congrArg some (by kernel_rfl)),
  f30 := ⟨Try.f116.name, by decide, Try.func116.trans (congrArg some (by kernel_rfl))⟩,
  f31 := Try.func117.trans (congrArg some (by kernel_rfl)),
  f32 := Try.func118.trans (congrArg some (by kernel_rfl)),
  f33 := ⟨Try.f119.name, by decide, Try.func119.trans (congrArg some (by kernel_rfl))⟩,
  f34 := ⟨Try.f120.name, by decide, Try.func120.trans (congrArg some (by kernel_rfl))⟩,
  f35 := ⟨Try.f121.name, by decide, Try.func121.trans (congrArg some (by kernel_rfl))⟩,
  f40 := ⟨Try.f122.name, by decide, Try.func122.trans (congrArg some (by kernel_rfl))⟩,
  t0 := Try.underlying0,
  a0 := Try.isAgg0,
  z0 := Try.sizeOf0,
  v0 := Try.zeroValue0,
  t3 := Try.underlying3,
  a3 := Try.isAgg3,
  z3 := Try.sizeOf3,
  v3 := Try.zeroValue3,
  t4 := Try.underlying4,
  a4 := Try.isAgg4,
  z4 := Try.sizeOf4,
  v4 := Try.zeroValue4,
  t5 := Try.underlying5,
  a5 := Try.isAgg5,
  z5 := Try.sizeOf5,
  v5 := Try.zeroValue5,
  t9 := Try.underlying9,
  a9 := Try.isAgg9,
  z9 := Try.sizeOf9,
  v9 := Try.zeroValue9,
  t22 := Try.underlying37,
  a22 := Try.isAgg37,
  z22 := Try.sizeOf37,
  v22 := Try.zeroValue37,
  t23 := Try.underlying37,
  a23 := Try.isAgg37,
  z23 := Try.sizeOf37,
  v23 := Try.zeroValue37,
  t25 := Try.underlying23,
  a25 := Try.isAgg23,
  z25 := Try.sizeOf23,
  v25 := Try.zeroValue23,
  t32 := Try.underlying172,
  a32 := Try.isAgg172,
  z32 := Try.sizeOf172,
  v32 := Try.zeroValue172,
  t35 := Try.underlying174,
  a35 := Try.isAgg174,
  z35 := Try.sizeOf174,
  v35 := Try.zeroValue174,
  t36 := Try.underlying175,
  a36 := Try.isAgg175,
  z36 := Try.sizeOf175,
  v36 := Try.zeroValue175,
  t41 := Try.underlying180,
  a41 := Try.isAgg180,
  z41 := Try.sizeOf180,
  v41 := Try.zeroValue180,
  t44 := Try.underlying183,
  a44 := Try.isAgg183,
  z44 := Try.sizeOf183,
  v44 := Try.zeroValue183,
  t46 := Try.underlying23,
  a46 := Try.isAgg23,
  z46 := Try.sizeOf23,
  v46 := Try.zeroValue23,
  t53 := Try.underlying184,
  a53 := Try.isAgg184,
  z53 := Try.sizeOf184,
  v53 := Try.zeroValue184,
  t57 := Try.underlying188,
  a57 := Try.isAgg188,
  z57 := Try.sizeOf188,
  v57 := Try.zeroValue188,
  t63 := Try.underlying190,
  a63 := Try.isAgg190,
  z63 := Try.sizeOf190,
  v63 := Try.zeroValue190,
  t64 := Try.underlying191,
  a64 := Try.isAgg191,
  z64 := Try.sizeOf191,
  v64 := Try.zeroValue191 }
def CloneA_ren : Go.Shelf.Ren := ⟨fun | 5 => 79 | 7 => 98 | n => n, fun | 23 => 97 | 25 => 23 | 3 => 23 | 4 => 4 | 20 => 20 | n => n, fun | n => n⟩
theorem CloneA : Go.Proofs.SlLaysW.n5 Try.prog CloneA_ren := {
  mixed := by kernel_rfl,
  f5 := ⟨Try.f79.name, by decide, Try.func79.trans (congrArg some (by kernel_rfl))⟩,
  f7 := Try.func98.trans (congrArg some (by kernel_rfl)),
  t4 := Try.underlying4,
  a4 := Try.isAgg4,
  z4 := Try.sizeOf4,
  v4 := Try.zeroValue4,
  t20 := Try.underlying20,
  a20 := Try.isAgg20,
  z20 := Try.sizeOf20,
  v20 := Try.zeroValue20,
  t23 := Try.underlying97,
  a23 := Try.isAgg97,
  z23 := Try.sizeOf97,
  v23 := Try.zeroValue97 }
def EqualA_ren : Go.Shelf.Ren := ⟨fun | 6 => 80 | n => n, fun | 23 => 97 | 24 => 97 | 26 => 23 | 27 => 23 | 4 => 4 | 3 => 3 | 0 => 0 | 36 => 101 | n => n, fun | n => n⟩
theorem EqualA : Go.Proofs.SlLaysEq.n6 Try.prog EqualA_ren := {
  mixed := by kernel_rfl,
  f6 := ⟨Try.f80.name, by decide, Try.func80.trans (congrArg some (by kernel_rfl))⟩,
  t0 := Try.underlying0,
  a0 := Try.isAgg0,
  z0 := Try.sizeOf0,
  v0 := Try.zeroValue0,
  t3 := Try.underlying3,
  a3 := Try.isAgg3,
  z3 := Try.sizeOf3,
  v3 := Try.zeroValue3,
  t4 := Try.underlying4,
  a4 := Try.isAgg4,
  z4 := Try.sizeOf4,
  v4 := Try.zeroValue4,
  t23 := Try.underlying97,
  a23 := Try.isAgg97,
  z23 := Try.sizeOf97,
  v23 := Try.zeroValue97,
  t24 := Try.underlying97,
  a24 := Try.isAgg97,
  z24 := Try.sizeOf97,
  v24 := Try.zeroValue97,
  a26 := Try.isAgg23,
  z26 := Try.sizeOf23,
  a27 := Try.isAgg23,
  z27 := Try.sizeOf23,
  t36 := Try.underlying101,
  a36 := Try.isAgg101,
  z36 := Try.sizeOf101 }
def EqualFA_ren : Go.Shelf.Ren := ⟨fun | 7 => 81 | n => n, fun | 23 => 98 | 29 => 98 | 26 => 23 | 27 => 97 | 31 => 97 | 32 => 132 | 4 => 4 | 3 => 3 | 0 => 0 | 37 => 102 | n => n, fun | n => n⟩
theorem EqualFA : Go.Proofs.SlLaysEq.n7 Try.prog EqualFA_ren := {
  mixed := by kernel_rfl,
  f7 := ⟨Try.f81.name, by decide, Try.func81.trans (congrArg some (by kernel_rfl))⟩,
  t0 := Try.underlying0,
  a0 := Try.isAgg0,
  z0 := Try.sizeOf0,
  v0 := Try.zeroValue0,
  t3 := Try.underlying3,
  a3 := Try.isAgg3,
  z3 := Try.sizeOf3,
  v3 := Try.zeroValue3,
  t4 := Try.underlying4,
  a4 := Try.isAgg4,
  z4 := Try.sizeOf4,
  v4 := Try.zeroValue4,
  t23 := Try.underlying98,
  a23 := Try.isAgg98,
  z23 := Try.sizeOf98,
  v23 := Try.zeroValue98,
  a26 := Try.isAgg23,
  z26 := Try.sizeOf23,
  a27 := Try.isAgg97,
  z27 := Try.sizeOf97,
  t29 := Try.underlying98,
  a29 := Try.isAgg98,
  z29 := Try.sizeOf98,
  v29 := Try.zeroValue98,
  a31 := Try.isAgg97,
  z31 := Try.sizeOf97,
  t32 := Try.underlying132,
  a32 := Try.isAgg132,
  z32 := Try.sizeOf132,
  v32 := Try.zeroValue132,
  t37 := Try.underlying102,
  a37 := Try.isAgg102,
  z37 := Try.sizeOf102 }
def IdxA_ren : Go.Shelf.Ren := ⟨fun | 6 => 99 | n => n, fun | 22 => 24 | 23 => 90 | 25 => 135 | 3 => 3 | 0 => 0 | 4 => 4 | n => n, fun | n => n⟩
theorem IdxA : Go.Proofs.SlLaysH0.n6 Try.prog IdxA_ren := {
  mixed := by kernel_rfl,
  f6 := ⟨Try.f99.name, by decide, Try.func99.trans (congrArg some (by kernel_rfl))⟩,
  t0 := Try.underlying0,
  a0 := Try.isAgg0,
  z0 := Try.sizeOf0,
  v0 := Try.zeroValue0,
  t3 := Try.underlying3,
  a3 := Try.isAgg3,
  z3 := Try.sizeOf3,
  v3 := Try.zeroValue3,
  t4 := Try.underlying4,
  a4 := Try.isAgg4,
  z4 := Try.sizeOf4,
  v4 := Try.zeroValue4,
  t22 := Try.underlying24,
  a22 := Try.isAgg24,
  z22 := Try.sizeOf24,
  v22 := Try.zeroValue24,
  t25 := Try.underlying135,
  a25 := Try.isAgg135,
  z25 := Try.sizeOf135,
  v25 := Try.zeroValue135 }
end Go.Proofs.Ytngocadnbpdnoaa.Srt
namespace Go.Proofs.Ytngocadnbpdnoaa.Srt
open Go Go.Proofs
open Go.RowKit Go.Maps Go.Sort Go.Shelf
variable {P : Program} {ρ : Ren}

set_option maxRecDepth 100000 in
set_option maxHeartbeats 1000000 in

theorem AnyZU.keys1_in (L : SlLaysZU.n10 P ρ) {H : Type} (F : Fence) (n : Nat) (h10 : F.fn (ρ.f 10)) (hro : F.round = none) (hn : 1 ≤ n) (l Bm b nn : Nat) (D0 : DataW H) {R : Value → Option (DataW H × List MemPlace)} (J : List Int → World → Prop) (hJ : Abides J)
    (hY : ∀ pre x W, J pre W → YieldAt F (n - 1) P l #[encV x] W fun e W' => e = .returned (.bool true) ∧ J (pre ++ [x]) W' ∧ KeepsWalks W W')
    (W : World) (hm : W.cell? ⟨Bm, 0, none⟩ = some (.map (some b))) (hown : W.ownsMap P (ρ.t 26) R b nn D0) (h0 : J [] W) :
    CallsIn F n P (ρ.f 10) #[.func (.yield l) #[] #[], .pointer (some ⟨Bm, 0, none⟩)] W fun e W' => (∃ v, e = .returned v) ∧ ∃ ss : List Int, ss.Perm (intKeys D0) ∧ J ss W' := by
  have mixed := L.mixed; have t0 := L.t0; have a0 := L.a0; have z0 := L.z0; have v0 := L.v0; have t4 := L.t4; have a4 := L.a4; have z4 := L.z4; have v4 := L.v4; have t23 := L.t23; have a23 := L.a23; have z23 := L.z23; have v23 := L.v23; have t26 := L.t26; have a26 := L.a26; have z26 := L.z26; have v26 := L.v26; have t33 := L.t33; have a33 := L.a33; have z33 := L.z33; have v33 := L.v33
  have u0 := run_underlying L.t0; have u4 := run_underlying L.t4; have u23 := run_underlying L.t23; have u26 := run_underlying L.t26; have u33 := run_underlying L.t33
  obtain ⟨_, _, FG⟩ := L.f10
  refine callsIn_of_wp FG rfl h10 ?_ hro
  simp only [SlBodyZ.n10_ntmps ρ, List.size_toArray, List.length_cons, List.length_nil, Nat.reduceAdd, Nat.reduceSub, Array.replicate_succ, Array.replicate_zero, List.push_toArray, List.append_toArray, List.nil_append, List.cons_append]
  gi_wp2_with (first
    | (gi_at_range; refine wpListIn_range_own _ rfl _ (ρ.t 23) rfl (ρ.t 26) (ρ.t 3) (int_keyed L.t26) L.t23 _ b nn _ rfl hown ?_; intro w0 hrg0 hg0 hs0)
    | gi_in)
  go_frame
  gi_loopw [3] (fun _ wr => ∃ (left : Lit → Bool) (cnt : Nat) (ss : List Int), wr.ranges P (ρ.t 26) R b W.heap.size nn D0 left cnt ∧ CollectedU D0 left ss ∧ J ss wr)
    (fun _ wr => wr.rangeLeft b W.heap.size)
  case atStart =>
    exact ⟨_, _, [], hrg0, CollectedU.start D0, hJ [] W w0 none h0 hg0 (fun r e => by cases e)⟩
  case round =>
    obtain ⟨left, cnt, ss, hrg, hC, hJs⟩ := hrel
    gi_wp2_with (first
      | (gi_at_next; refine wpListIn_next_ranges _ rfl _ rfl (ρ.t 26) (int_keyed L.t26) R encV id (fun key kl hk => by obtain ⟨x, hx, _⟩ := Maps.keyOf_u64 L.t26 hk; exact ⟨x, hx⟩) (fun v _ _ => ⟨v, rfl⟩) b W.heap.size nn _ _ _ rfl hrg ?_ ?_)
      | gi_in)
    · 
      intro hc0 hl0
      gi_wp2
      go_end0
      exact ⟨⟨_, rfl⟩, ss, hC.perm hown (int_keyed L.t26) L.t26 hl0, hJs⟩
    · 
      intro x c kl yd yp w2 cnt2 hkey hlk hv hat hrg2 hlt hg2 hs2 hen
      obtain ⟨x', ex, rfl, _⟩ := Maps.keyOf_u64 L.t26 hkey
      obtain rfl : x = x' := encV_inj ex
      have hJ2 : J ss w2 := hJ ss wr w2 (some W.heap.size) hJs hg2 (fun r e => by cases e; exact hrg.iter_walk)
      obtain ⟨fn, tmps, assign, body, hy, hR⟩ := hY ss x w2 hJ2
      clear hs2
      gi_wp2
      refine hR.mono ?_
      rintro e W3 ⟨rfl, hJ3, hk3⟩
      gi_wp2
      have hrg3 := hrg2.of_walks hk3
      go_roundw
      case rel => exact ⟨_, cnt2, ss ++ [x], hrg3, hC.step hlk hat, hJ3⟩
      case measure => rw [hrg3.left_eq, hrg.left_eq]; exact hlt


set_option maxHeartbeats 1000000 in

theorem AnyZU.keys_in (L : SlLaysZU.n7 P ρ) (F : Fence) (n : Nat) (h7 : F.fn (ρ.f 7)) (hro : F.round = none) (mb : Option Nat) (w : World) :
    CallsIn F n P (ρ.f 7) #[.map mb] w fun e w' => e = .returned (.func (.func (ρ.f 10)) #[] #[.pointer (some ⟨w.heap.size, 0, none⟩)]) ∧ w' = w.alloc (.cells #[.map mb] (ρ.t 23)) := by
  have mixed := L.mixed; have t0 := L.t0; have a0 := L.a0; have z0 := L.z0; have v0 := L.v0; have t4 := L.t4; have a4 := L.a4; have z4 := L.z4; have v4 := L.v4; have t23 := L.t23; have a23 := L.a23; have z23 := L.z23; have v23 := L.v23; have t26 := L.t26; have a26 := L.a26; have z26 := L.z26; have v26 := L.v26; have t27 := L.t27; have a27 := L.a27; have z27 := L.z27; have v27 := L.v27; have t28 := L.t28; have a28 := L.a28; have z28 := L.z28; have v28 := L.v28; have t33 := L.t33; have a33 := L.a33; have z33 := L.z33; have v33 := L.v33
  have u0 := run_underlying L.t0; have u4 := run_underlying L.t4; have u23 := run_underlying L.t23; have u26 := run_underlying L.t26; have u27 := run_underlying L.t27; have u28 := run_underlying L.t28; have u33 := run_underlying L.t33
  obtain ⟨_, _, FG⟩ := L.f7
  refine callsIn_of_wp FG rfl h7 ?_ hro
  simp only [SlBodyZ.n7_ntmps ρ, List.size_toArray, List.length_cons, List.length_nil, Nat.reduceAdd, Nat.reduceSub, Array.replicate_succ, Array.replicate_zero, List.push_toArray, List.append_toArray, List.nil_append, List.cons_append]
  gi_wp2
  go_ret
  exact ⟨rfl, rfl⟩

end Go.Proofs.Ytngocadnbpdnoaa.Srt
namespace Go.Proofs.Ytngocadnbpdnoaa.Srt
open Go Go.Proofs
open Go.RowKit Go.Maps Go.Sort Go.Shelf
variable {P : Program} {ρ : Ren}

set_option maxRecDepth 100000 in
set_option maxHeartbeats 1000000 in

theorem AnyZU.keys1N_in (L : SlLaysZU.n10 P ρ) {H : Type} (F : Fence) (n : Nat) (h10 : F.fn (ρ.f 10)) (hro : F.round = none) (hn : 1 ≤ n) (l Bm b nn : Nat) (D0 : DataW H) {R : Value → Option (DataW H × List MemPlace)} (J : List Int → World → Prop)
    (hY : ∀ pre x W, J pre W → pre.length < Maps.size D0 → YieldAt F (n - 1) P l #[encV x] W fun e W' => e = .returned (.bool true) ∧ J (pre ++ [x]) W' ∧ KeepsWalks W W')
    (W : World) (hJ : AbidesFrom W.heap.size J) (hm : W.cell? ⟨Bm, 0, none⟩ = some (.map (some b))) (hown : W.ownsMap P (ρ.t 26) R b nn D0) (h0 : J [] W) :
    CallsIn F n P (ρ.f 10) #[.func (.yield l) #[] #[], .pointer (some ⟨Bm, 0, none⟩)] W fun e W' => (∃ v, e = .returned v) ∧ ∃ ss : List Int, ss.Perm (intKeys D0) ∧ J ss W' := by
  have mixed := L.mixed; have t0 := L.t0; have a0 := L.a0; have z0 := L.z0; have v0 := L.v0; have t4 := L.t4; have a4 := L.a4; have z4 := L.z4; have v4 := L.v4; have t23 := L.t23; have a23 := L.a23; have z23 := L.z23; have v23 := L.v23; have t26 := L.t26; have a26 := L.a26; have z26 := L.z26; have v26 := L.v26; have t33 := L.t33; have a33 := L.a33; have z33 := L.z33; have v33 := L.v33
  have u0 := run_underlying L.t0; have u4 := run_underlying L.t4; have u23 := run_underlying L.t23; have u26 := run_underlying L.t26; have u33 := run_underlying L.t33
  obtain ⟨_, _, FG⟩ := L.f10
  refine callsIn_of_wp FG rfl h10 ?_ hro
  simp only [SlBodyZ.n10_ntmps ρ, List.size_toArray, List.length_cons, List.length_nil, Nat.reduceAdd, Nat.reduceSub, Array.replicate_succ, Array.replicate_zero, List.push_toArray, List.append_toArray, List.nil_append, List.cons_append]
  gi_wp2_with (first
    | (gi_at_range; refine wpListIn_range_own _ rfl _ (ρ.t 23) rfl (ρ.t 26) (ρ.t 3) (int_keyed L.t26) L.t23 _ b nn _ rfl hown ?_; intro w0 hrg0 hg0 hs0)
    | gi_in)
  go_frame
  gi_loopw [3] (fun _ wr => ∃ (left : Lit → Bool) (cnt : Nat) (ss : List Int), wr.ranges P (ρ.t 26) R b W.heap.size nn D0 left cnt ∧ ss.length + cnt ≤ Maps.size D0 ∧ CollectedU D0 left ss ∧ J ss wr)
    (fun _ wr => wr.rangeLeft b W.heap.size)
  case atStart =>
    exact ⟨_, _, [], hrg0, by simp, CollectedU.start D0, hJ [] W w0 none h0 hg0 (fun r e => by cases e)⟩
  case round =>
    obtain ⟨left, cnt, ss, hrg, hcs, hC, hJs⟩ := hrel
    gi_wp2_with (first
      | (gi_at_next; refine wpListIn_next_ranges _ rfl _ rfl (ρ.t 26) (int_keyed L.t26) R encV id (fun key kl hk => by obtain ⟨x, hx, _⟩ := Maps.keyOf_u64 L.t26 hk; exact ⟨x, hx⟩) (fun v _ _ => ⟨v, rfl⟩) b W.heap.size nn _ _ _ rfl hrg ?_ ?_)
      | gi_in)
    · 
      intro hc0 hl0
      gi_wp2
      go_end0
      exact ⟨⟨_, rfl⟩, ss, hC.perm hown (int_keyed L.t26) L.t26 hl0, hJs⟩
    · 
      intro x c kl yd yp w2 cnt2 hkey hlk hv hat hrg2 hlt hg2 hs2 hen
      obtain ⟨x', ex, rfl, _⟩ := Maps.keyOf_u64 L.t26 hkey
      obtain rfl : x = x' := encV_inj ex
      have hJ2 : J ss w2 := hJ ss wr w2 (some W.heap.size) hJs hg2 (fun r e => by cases e; exact ⟨Nat.le_refl _, hrg.iter_walk⟩)
      obtain ⟨fn, tmps, assign, body, hy, hR⟩ := hY ss x w2 hJ2 (by omega)
      clear hs2
      gi_wp2
      refine hR.mono ?_
      rintro e W3 ⟨rfl, hJ3, hk3⟩
      gi_wp2
      have hrg3 := hrg2.of_walks hk3
      go_roundw
      case rel => exact ⟨_, cnt2, ss ++ [x], hrg3, by simp; omega, hC.step hlk hat, hJ3⟩
      case measure => rw [hrg3.left_eq, hrg.left_eq]; exact hlt



theorem AnyZU.keys_gives (L : SlLaysZU.n10 P ρ) {H : Type} (F : Fence) (n : Nat) (h10 : F.fn (ρ.f 10)) (hro : F.round = none) (hn : 1 ≤ n) (Bm b nn : Nat) (D0 : DataW H) {R : Value → Option (DataW H × List MemPlace)} (w : World) (hBm : Bm < w.heap.size)
    (hm : w.cell? ⟨Bm, 0, none⟩ = some (.map (some b))) (hown : w.ownsMap P (ρ.t 26) R b nn D0) :
    SeqGives F n P (ρ.f 10) #[.pointer (some ⟨Bm, 0, none⟩)] encV (fun ss => ss.Perm (intKeys D0)) (Maps.size D0) w := fun l J W hW hJ hY h0 => by
  have hown' : W.ownsMap P (ρ.t 26) R b nn D0 := by
    have hbl := hown.lt
    obtain ⟨es, clock, hb, Ft, hs, hD⟩ := hown
    exact ⟨es, clock, (hW.block b hbl).trans hb, Ft, hs, hD⟩
  exact AnyZU.keys1N_in { L with } F n h10 hro hn l Bm b nn D0 J hY W hJ ((hW.cell (p := ⟨Bm, 0, none⟩) hBm).trans hm) hown' h0

def AnyZU.apAssign (ρ : Ren) : Code := (Code.region 2 #[{ dst := some 5, op := Op.assign (Operand.tmp 7), type := ρ.t 26, pos := "iter.go:51", after := #[], guard := none }] false)
def AnyZU.apBody (ρ : Ren) : Code := (Code.block 1 (Code.region 3 #[{ dst := some 8, op := Op.load (ρ.t 24) (Operand.tmp 2), type := ρ.t 24, pos := "iter.go:52", after := #[], guard := none }, { dst := some 9, op := Op.move (Operand.tmp 5), type := ρ.t 26, pos := "iter.go:52", after := #[], guard := none }, { dst := some 10, op := Op.buildSlice (ρ.t 24) 1 #[(0, Operand.tmp 9)], type := ρ.t 24, pos := "iter.go:52", after := #[{ on := 1, ground := Ground.data }], guard := none }, { dst := some 11, op := Op.call { callee := Callee.builtin Builtin.append, args := #[Operand.tmp 8, Operand.tmp 10], argTypes := #[ρ.t 24, ρ.t 24] }, type := ρ.t 24, pos := "iter.go:52", after := #[{ on := 0, ground := Ground.data }, { on := 2, ground := Ground.data }], guard := none }, { dst := none, op := Op.store (ρ.t 24) (Operand.tmp 2) (Operand.tmp 11), type := ρ.t 0, pos := "iter.go:52", after := #[{ on := 3, ground := Ground.data }, { on := 3, ground := Ground.chain }, { on := 0, ground := Ground.phase }, { on := 1, ground := Ground.phase }, { on := 2, ground := Ground.phase }, { on := 3, ground := Ground.phase }], guard := none }] false))

def AnyZU.apRec (ρ : Ren) (fn : FuncId) (sv : Value) (Bs D : Nat) (st : LoopState) (pend : Option Code) : Loop :=
  { state := st, pending := pend, fn, tmps := #[.slice none 0 0, sv, .pointer (some ⟨Bs, 0, none⟩), undef, .slice none 0 0, undef, sv, undef, undef, undef, undef, undef, undef], params := #[7], assign := AnyZU.apAssign ρ, body := AnyZU.apBody ρ, defers := D }


structure AnyZU.ApAt (ρ : Ren) (w0 : World) (fn : FuncId) (sv : Value) (Bs l D : Nat) (ss : List Int) (W : World) : Prop where
  box : ∃ v, W.heap[Bs]? = some (.cells #[v] (ρ.t 24) (0, 0)) ∧ W.ownsRow w0.heap.size (ρ.t 26) 1 v ss.length (ss.map encV) ∧ (v = .slice none 0 0 ↔ ss = [])
  L : W.heap[l]? = some (.loop (AnyZU.apRec ρ fn sv Bs D .ready none))
  K : W.heap[D]? = some (.deferred (some []))
  below : Below w0.heap.size w0 W

theorem AnyZU.ap_abides (ρ : Ren) (w0 : World) (fn : FuncId) (sv : Value) (Bs l D B : Nat) (hB : w0.heap.size ≤ B) : AbidesFrom B (AnyZU.ApAt ρ w0 fn sv Bs l D) := fun s W W' row h hg hrow => by
  have hrow' : ∀ r, row = some r → ∃ o : Obj, W.heap[r]? = some o ∧ o.isWalk = true := fun r e => (hrow r e).2
  obtain ⟨v, hv, hr, hn⟩ := h.box
  exact ⟨⟨v, (grownBy_keeps hg hrow' hv rfl).trans hv, ownsRow_abides_a hr hg hrow', hn⟩, (grownBy_keeps hg hrow' h.L rfl).trans h.L, (grownBy_keeps hg hrow' h.K rfl).trans h.K,
    h.below.grown hg h.below.size (fun k e => Nat.le_trans hB (hrow k e).1)⟩

set_option maxRecDepth 100000 in
set_option maxHeartbeats 2000000 in
theorem AnyZU.apYield (L : SlLaysZU.n11 P ρ) (F : Fence) (m : Nat) (w0 : World) (fn : FuncId) (hfn : F.fn fn) (sv : Value) (Bs l D : Nat) (hBl : Bs ≠ l) (hDl : D ≠ l) (hDB : D ≠ Bs) (h0B : w0.heap.size ≤ Bs) (h0l : w0.heap.size ≤ l)
    (N : Nat) (hN : N ≤ maxLen) (hNb : N * 8 ≤ 140737488355328) (ss : List Int) (x : Int) (W : World) (h : AnyZU.ApAt ρ w0 fn sv Bs l D ss W) (hlen : ss.length < N) :
    YieldAt F m P l #[encV x] W fun e W' => e = .returned (.bool true) ∧ AnyZU.ApAt ρ w0 fn sv Bs l D (ss ++ [x]) W' ∧ KeepsWalks W W' := by
  have mixed := L.mixed; have t0 := L.t0; have a0 := L.a0; have z0 := L.z0; have v0 := L.v0; have t24 := L.t24; have a24 := L.a24; have z24 := L.z24; have v24 := L.v24; have t26 := L.t26; have a26 := L.a26; have z26 := L.z26; have v26 := L.v26; have t28 := L.t28; have a28 := L.a28; have z28 := L.z28; have v28 := L.v28
  have hne : ρ.t 24 ≠ ρ.t 26 := fun e => by have h := L.t24; rw [e, L.t26] at h; cases h
  have u0 := run_underlying L.t0; have u24 := run_underlying L.t24; have u26 := run_underlying L.t26; have u28 := run_underlying L.t28
  obtain ⟨i0, hi, hz0, hz1, hz2⟩ := info_parts L.i26
  obtain ⟨v, hv, hrow, _⟩ := h.box
  refine ⟨fn, #[.slice none 0 0, sv, .pointer (some ⟨Bs, 0, none⟩), undef, .slice none 0 0, undef, sv, encV x, undef, undef, undef, undef, undef], AnyZU.apAssign ρ, AnyZU.apBody ρ, by simpa [AnyZU.apRec] using run_yield (P := P) (args := #[encV x]) h.L rfl, roundIn_of_wpIn hfn ?_⟩
  have hl : l < W.heap.size := (Array.getElem?_eq_some_iff.1 h.L).1
  have hbr := run_beginRound (P := P) h.L rfl
  obtain ⟨W2, hW2⟩ : ∃ W2, W.putObj l (.loop { AnyZU.apRec ρ fn sv Bs D .ready none with state := .busy }) = W2 := ⟨_, rfl⟩
  rw [hW2] at hbr
  have hg2 : W.grownBy W2 (some l) := by rw [← hW2]; exact grownBy_putObj_a _ _ _
  have hk2 : KeepsWalks W W2 := by rw [← hW2]; exact KeepsWalks.putObj _ h.L rfl
  have hv2 : W2.heap[Bs]? = some (.cells #[v] (ρ.t 24) (0, 0)) := by rw [← hW2]; exact (World.putObj_heap_other hBl).trans hv
  have hK2 : W2.heap[D]? = some (.deferred (some [])) := by rw [← hW2]; exact (World.putObj_heap_other hDl).trans h.K
  have hL2 : W2.heap[l]? = some (.loop { AnyZU.apRec ρ fn sv Bs D .ready none with state := .busy }) := by rw [← hW2]; exact World.putObj_heap_same hl
  have hrow2 : W2.ownsRow w0.heap.size (ρ.t 26) 1 v ss.length (ss.map encV) := hrow.kept hg2 (ownsRow_ne_a hrow h.L (fun cur e => by first | cases e | exact hne (Obj.cells.inj e).2.1))
  have hb2 : Below w0.heap.size w0 W2 := h.below.grown hg2 h.below.size (fun k e => by cases e; exact h0l)
  obtain ⟨hc2, hf2⟩ := cell_of_box_a hv2
  have hBlt : Bs < W2.heap.size := (Array.getElem?_eq_some_iff.1 hv2).1
  have hl2 : l < W2.heap.size := (Array.getElem?_eq_some_iff.1 hL2).1
  have hDlt : D < W2.heap.size := (Array.getElem?_eq_some_iff.1 hK2).1
  have ne_of : ∀ {j : Nat} {o : Obj}, W2.heap[j]? = some o → (∀ cur, o ≠ .cells cur (ρ.t 26) (0, 0)) → some j ≠ v.ownBlock := fun hj hno => by
    rcases ownsRow_ne_a hrow2 hj hno with e | e
    · rw [e]; simp
    · exact fun e' => e e'.symm
  clear hW2
  unfold AnyZU.apAssign
  gi_wp2_with gi_round_op_a
  unfold AnyZU.apBody
  gi_wp2_with (first
    | (gi_at_builtin; refine wpListIn_append_own _ rfl _ _ (ρ.t 24) rfl w0.heap.size (ρ.t 26) i0 (.int .u64 0) 1 8 L.t24 hi hz0 hz1 hz2 rfl (by decide) _ _ _ rfl (hrow2.alloc _) ⟨W2.heap.size, 0, none⟩ 1 1 [encV x] rfl rfl (cell_one_new _ _ _) (by simp [Value.oneCell', encV]) (by omega) (by omega) (by have := hb2.size; simp; omega) ?_; intro v' w3 hown' hg3 hnil3
       have hv3 : w3.heap[Bs]? = some (.cells #[v] (ρ.t 24) (0, 0)) := (hg3.block Bs (by simp; omega) (ne_of hv2 (fun cur e => by first | cases e | exact hne (Obj.cells.inj e).2.1))).trans ((Below.heap_alloc _ _ Bs hBlt).trans hv2)
       obtain ⟨hc3, hf3⟩ := cell_of_box_a hv3
       obtain ⟨g', cap', cur', rfl, hbase', hgb', hr1, hr2, hr3, hr4⟩ : ∃ g' cap' cur', v' = .slice (some ⟨g', 0, none⟩) (ss.length + 1) cap' ∧ w0.heap.size ≤ g' ∧ w3.heap[g']? = some (.cells cur' (ρ.t 26) (0, 0)) ∧ ss.length + 1 ≤ cap' ∧ cap' ≤ maxLen ∧ cur'.size = cap' * 1 ∧ cur'.toList.take ((ss.length + 1) * 1) = ss.map encV ++ [encV x] := by
         rcases hown'.2 with ⟨_, h0⟩ | h'
         · exact absurd h0 (by omega)
         · exact h'
       go_frame)
    | gi_round_op_a)
  have hg3' : (W2.alloc (.cells #[encV x] (ρ.t 26))).grownBy w3 v.ownBlock := hg3
  have hL3 : w3.heap[l]? = some (.loop { AnyZU.apRec ρ fn sv Bs D .ready none with state := .busy }) := (hg3'.block l (by simp; omega) (ne_of hL2 (fun cur e => by first | cases e | exact hne (Obj.cells.inj e).2.1))).trans ((Below.heap_alloc _ _ l hl2).trans hL2)
  have hK3 : w3.heap[D]? = some (.deferred (some [])) := (hg3'.block D (by simp; omega) (ne_of hK2 (fun cur e => by first | cases e | exact hne (Obj.cells.inj e).2.1))).trans ((Below.heap_alloc _ _ D hDlt).trans hK2)
  obtain ⟨w4, hw4⟩ : ∃ w4, w3.setCell ⟨Bs, 0, none⟩ (.slice (some ⟨g', 0, none⟩) (ss.length + 1) cap') = w4 := ⟨_, rfl⟩
  rw [hw4]
  have hg4 : w3.grownBy w4 (some Bs) := by rw [← hw4]; exact grownBy_setCell0_a _ _ _
  have hv4 : w4.heap[Bs]? = some (.cells #[.slice (some ⟨g', 0, none⟩) (ss.length + 1) cap'] (ρ.t 24) (0, 0)) := by rw [← hw4]; exact heap_setCell_box_a _ hv3
  have hL4 : w4.heap[l]? = some (.loop { AnyZU.apRec ρ fn sv Bs D .ready none with state := .busy }) := (hg4.block l (Array.getElem?_eq_some_iff.1 hL3).1 (fun e => hBl (by cases e; rfl))).trans hL3
  have hK4 : w4.heap[D]? = some (.deferred (some [])) := (hg4.block D (Array.getElem?_eq_some_iff.1 hK3).1 (fun e => hDB (by cases e; rfl))).trans hK3
  have hrow4 := hown'.kept hg4 (ownsRow_ne_a hown' hv3 (fun cur e => by first | cases e | exact hne (Obj.cells.inj e).2.1))
  have hl4 : l < w4.heap.size := (Array.getElem?_eq_some_iff.1 hL4).1
  have hb3 : Below w0.heap.size w0 w3 := (hb2.alloc hb2.size _).grown hg3' (by have := hb2.size; simp; omega) (fun k e => (hrow2.lt k e).1)
  have hb4 : Below w0.heap.size w0 w4 := hb3.grown hg4 hb3.size (fun k e => by cases e; exact h0B)
  have hk4 : KeepsWalks W w4 := ((hk2.trans (KeepsWalks.alloc _ _)).trans (KeepsWalks.of_grownBy hg3' (ownsRow_not_walk_a (hrow2.alloc _)))).trans (by rw [← hw4]; exact KeepsWalks.setCell _ _ _)
  clear hw4
  refine ⟨_, _, run_endRound none hL4, rfl, ⟨⟨_, (World.putObj_heap_other hBl).trans hv4, ?_, by simp⟩, World.putObj_heap_same hl4, (World.putObj_heap_other hDl).trans hK4, hb4.grown (grownBy_putObj_a _ _ _) hb4.size (fun k e => by cases e; exact h0l)⟩, hk4.trans (KeepsWalks.putObj _ hL4 rfl)⟩
  have := hrow4.kept (grownBy_putObj_a w4 l (.loop { { AnyZU.apRec ρ fn sv Bs D .ready none with state := .busy } with state := if (none : Option Code).isNone then .ready else .done, pending := none })) (ownsRow_ne_a hrow4 hL4 (fun cur e => by first | cases e | exact hne (Obj.cells.inj e).2.1))
  simpa using this


set_option maxRecDepth 100000 in
set_option maxHeartbeats 2000000 in

theorem AnyZU.appendSeq_in (L : SlLaysZU.n11 P ρ) (F : Fence) (n : Nat) (h11 : F.fn (ρ.f 11)) (hro : F.round = none) (hn : 2 ≤ n) (g : Nat) (lb : Array Value) (hFg : F.fn g) (eg : ∀ args w, (callFunc g args).run P w = .ok (.enter g args) w)
    (S : List Int → Prop) (N : Nat) (hN : N ≤ maxLen) (hNb : N * 8 ≤ 140737488355328) (w : World) (hseq : SeqGives F (n - 1) P g lb encV S N w) :
    CallsIn F n P (ρ.f 11) #[.slice none 0 0, .func (.func g) #[] lb] w fun e w' => ∃ (v : Value) (ss : List Int), e = .returned v ∧ S ss ∧ w'.ownsRow w.heap.size (ρ.t 26) 1 v ss.length (ss.map encV) ∧ (v = .slice none 0 0 ↔ ss = []) ∧ Below w.heap.size w w' := by
  have h1 : 1 ≤ n := by omega
  have mixed := L.mixed; have t0 := L.t0; have a0 := L.a0; have z0 := L.z0; have v0 := L.v0; have t24 := L.t24; have a24 := L.a24; have z24 := L.z24; have v24 := L.v24; have t26 := L.t26; have a26 := L.a26; have z26 := L.z26; have v26 := L.v26; have t28 := L.t28; have a28 := L.a28; have z28 := L.z28; have v28 := L.v28
  have hne : ρ.t 24 ≠ ρ.t 26 := fun e => by have h := L.t24; rw [e, L.t26] at h; cases h
  have u0 := run_underlying L.t0; have u24 := run_underlying L.t24; have u26 := run_underlying L.t26; have u28 := run_underlying L.t28
  obtain ⟨_, _, FG⟩ := L.f11
  refine callsIn_of_wp_marks FG rfl h11 ?_ hro
  simp only [SlBodyZ.n11_ntmps ρ, List.size_toArray, List.length_cons, List.length_nil, Nat.reduceAdd, Nat.reduceSub, Array.replicate_succ, Array.replicate_zero, List.push_toArray, List.append_toArray, List.nil_append, List.cons_append]
  gi_wp2
  refine wpIn_rangeFunc ?_
  intro fn hfn
  rw [hro]
  obtain ⟨W0, hW0⟩ : ∃ W0, w.alloc (.cells #[.slice none 0 0] (ρ.t 24)) = W0 := ⟨_, rfl⟩
  have hs0 : W0.heap.size = w.heap.size + 1 := by rw [← hW0]; simp
  have hv0 : W0.heap[w.heap.size]? = some (.cells #[.slice none 0 0] (ρ.t 24) (0, 0)) := by rw [← hW0]; exact World.alloc_heap_new w _
  have hb0 : Below w.heap.size w W0 := by rw [← hW0]; exact (Below.refl _ w).alloc (Nat.le_refl _) _
  rw [hW0]
  obtain ⟨W1, hW1⟩ : ∃ W1, (W0.alloc (.deferred (some []))).alloc (.loop (AnyZU.apRec ρ fn (.func (.func g) #[] lb) w.heap.size W0.heap.size .ready none)) = W1 := ⟨_, rfl⟩
  have hold : ∀ k, k < W0.heap.size → W1.heap[k]? = W0.heap[k]? := fun k hk => by
    rw [← hW1]; exact (Below.heap_alloc _ _ k (by simp; omega)).trans (Below.heap_alloc _ _ k hk)
  have hb1 : Below w.heap.size w W1 := by rw [← hW1]; exact (hb0.alloc hb0.size _).alloc (by have := hb0.size; simp; omega) _
  have hs1 : W1.heap.size = W0.heap.size + 2 := by rw [← hW1]; simp
  have hM : AnyZU.ApAt ρ w fn (.func (.func g) #[] lb) w.heap.size (W0.heap.size + 1) W0.heap.size [] W1 :=
    ⟨⟨_, (hold w.heap.size (by omega)).trans hv0, ⟨rfl, .inl ⟨rfl, rfl⟩⟩, by simp⟩,
     by rw [← hW1]; have := World.alloc_heap_new (W0.alloc (.deferred (some []))) (.loop (AnyZU.apRec ρ fn (.func (.func g) #[] lb) w.heap.size W0.heap.size .ready none)); rwa [World.size_alloc] at this,
     by rw [← hW1]; exact (Below.heap_alloc _ _ _ (by simp)).trans (World.alloc_heap_new W0 _), hb1⟩
  refine ⟨W0.heap.size + 1, [{ target := .collected W0.heap.size, args := #[] }], W1, { target := .fn (.func g) lb, args := #[.func (.yield (W0.heap.size + 1)) #[] #[]] }, W1, g,
    #[.func (.yield (W0.heap.size + 1)) #[] #[]] ++ lb, W1, ?_, ?_, ?_, ?_, fun _ => h1, ?_⟩
  · rw [← hW1]; exact run_enterLoop_outer _ _ _ _ _
  · simp [resolve, go_sem]
  · intro f' hf'; simp [Target.leads] at hf'; subst hf'; exact hFg
  · simp [invoke, go_sem, eg]
  · refine (hseq (W0.heap.size + 1) (AnyZU.ApAt ρ w fn (.func (.func g) #[] lb) w.heap.size (W0.heap.size + 1) W0.heap.size) W1 hb1 (AnyZU.ap_abides ρ _ _ _ _ _ _ _ hb1.size)
      (fun pre x W hJ hl => AnyZU.apYield { L with } F (n - 1 - 1) w fn hfn _ w.heap.size (W0.heap.size + 1) W0.heap.size (by omega) (by omega) (by omega) (Nat.le_refl _) (by omega) N hN hNb pre x W hJ hl) hM).mono ?_
    rintro e W2 ⟨⟨v0, rfl⟩, ss, hS, h2⟩
    obtain ⟨v, hv, hrow, hnil⟩ := h2.box
    have hend := run_endLoop (P := P) h2.L (by simp [AnyZU.apRec])
    obtain ⟨W3, hW3⟩ : ∃ W3, W2.putObj (W0.heap.size + 1) (.loop { AnyZU.apRec ρ fn (.func (.func g) #[] lb) w.heap.size W0.heap.size .ready none with state := .exhausted }) = W3 := ⟨_, rfl⟩
    rw [hW3] at hend
    have hg3 : W2.grownBy W3 (some (W0.heap.size + 1)) := by rw [← hW3]; exact grownBy_putObj_a _ _ _
    have hv3 : W3.heap[w.heap.size]? = some (.cells #[v] (ρ.t 24) (0, 0)) := by rw [← hW3]; exact (World.putObj_heap_other (by omega)).trans hv
    have hK3 : W3.heap[W0.heap.size]? = some (.deferred (some [])) := by rw [← hW3]; exact (World.putObj_heap_other (by omega)).trans h2.K
    have hrow3 := hrow.kept hg3 (ownsRow_ne_a hrow h2.L (fun cur e => by first | cases e | exact hne (Obj.cells.inj e).2.1))
    have hb3 : Below w.heap.size w W3 := h2.below.grown hg3 h2.below.size (fun k e => by cases e; omega)
    obtain ⟨hc3, hf3⟩ := cell_of_box_a hv3
    clear hW3
    refine ⟨none, W3, hend, ?_⟩
    gi_wp2
    rw [← hs0]
    refine ⟨by simp, .inl ⟨_, _, rfl, run_takeDeferred hK3, ?_⟩⟩
    exact ⟨_, results_tmp rfl _ _ _, v, ss, rfl, hS, hrow3.kept (grownBy_putObj_a _ _ _) (ownsRow_ne_a hrow3 hK3 (fun cur e => by first | cases e | exact hne (Obj.cells.inj e).2.1)), hnil, hb3.grown (grownBy_putObj_a _ _ _) hb3.size (fun k e => by cases e; omega)⟩


set_option maxHeartbeats 1000000 in

theorem AnyZU.collect_in (L : SlLaysZU.n8 P ρ) (F : Fence) (n : Nat) (h8 : F.fn (ρ.f 8)) (h11 : F.fn (ρ.f 11)) (hro : F.round = none) (hn : 3 ≤ n) (g : Nat) (lb : Array Value) (hFg : F.fn g) (eg : ∀ args w, (callFunc g args).run P w = .ok (.enter g args) w)
    (S : List Int → Prop) (N : Nat) (hN : N ≤ maxLen) (hNb : N * 8 ≤ 140737488355328) (w : World) (hseq : SeqGives F (n - 1 - 1) P g lb encV S N w) :
    CallsIn F n P (ρ.f 8) #[.func (.func g) #[] lb] w fun e w' => ∃ (v : Value) (ss : List Int), e = .returned v ∧ S ss ∧ w'.ownsRow w.heap.size (ρ.t 26) 1 v ss.length (ss.map encV) ∧ (v = .slice none 0 0 ↔ ss = []) ∧ Below w.heap.size w w' := by
  have h1 : 1 ≤ n := by omega
  have e11 : ∀ args w, (callFunc (ρ.f 11) args).run P w = .ok (.enter (ρ.f 11) args) w := L.f11.enters rfl
  have mixed := L.mixed; have t0 := L.t0; have a0 := L.a0; have z0 := L.z0; have v0 := L.v0; have t24 := L.t24; have a24 := L.a24; have z24 := L.z24; have v24 := L.v24; have t26 := L.t26; have a26 := L.a26; have z26 := L.z26; have v26 := L.v26; have t28 := L.t28; have a28 := L.a28; have z28 := L.z28; have v28 := L.v28
  have u0 := run_underlying L.t0; have u24 := run_underlying L.t24; have u26 := run_underlying L.t26; have u28 := run_underlying L.t28
  obtain ⟨_, _, FG⟩ := L.f8
  refine callsIn_of_wp FG rfl h8 ?_ hro
  simp only [SlBodyZ.n8_ntmps ρ, List.size_toArray, List.length_cons, List.length_nil, Nat.reduceAdd, Nat.reduceSub, Array.replicate_succ, Array.replicate_zero, List.push_toArray, List.append_toArray, List.nil_append, List.cons_append]
  gi_wp2_with (gi_at_fn (ρ.f 11); refine (AnyZU.appendSeq_in { L with } F (n - 1) h11 hro (by omega) g lb hFg eg S N hN hNb _ hseq).mono ?_; rintro e w' ⟨v, ss, rfl, hS, hrow, hnil, hb⟩)
  go_ret
  exact ⟨v, ss, rfl, hS, hrow, hnil, hb⟩

end Go.Proofs.Ytngocadnbpdnoaa.Srt
namespace Go.Proofs.Ytngocadnbpdnoaa.Srt
open Go Go.Proofs
open Go.RowKit Go.Maps Go.Sort Go.Shelf
variable {P : Program} {ρ : Ren}


def AnyZU.SortsIn (P : Program) (ρ : Ren) (F : Fence) (m : Nat) : Prop :=
  (∀ (blk off cap : Nat) (ss : List Int) (W : World), Holds encV W blk off ss.toArray → blk < W.heap.size → ss.length < 4611686018427387904 →
    CallsIn F m P (ρ.f 9) #[.slice (some ⟨blk, off, none⟩) ss.length cap] W fun e w' => e = .returned (.tuple #[]) ∧ ∃ k os, w' = grow (putRow encV (Sort.ahead W k) blk off (ss.mergeSort fun x y => decide (x ≤ y)).toArray) os) ∧
  (∀ (p : Option Addr) (cap : Nat) (W : World), CallsIn F m P (ρ.f 9) #[.slice p 0 cap] W fun e w' => e = .returned (.tuple #[]) ∧ w' = W)

set_option maxRecDepth 100000 in
set_option maxHeartbeats 2000000 in

theorem AnyZU.sorted_in (L : SlLaysZU.n6 P ρ) (F : Fence) (n : Nat) (h6 : F.fn (ρ.f 6)) (h8 : F.fn (ρ.f 8)) (h9 : F.fn (ρ.f 9)) (h11 : F.fn (ρ.f 11)) (hro : F.round = none) (hn : 4 ≤ n) (hsort : AnyZU.SortsIn P ρ F (n - 1)) (e9 : ∀ args w, (callFunc (ρ.f 9) args).run P w = .ok (.enter (ρ.f 9) args) w) (g : Nat) (lb : Array Value) (hFg : F.fn g) (eg : ∀ args w, (callFunc g args).run P w = .ok (.enter g args) w)
    (S : List Int → Prop) (N : Nat) (hN : N ≤ maxLen) (hNb : N * 8 ≤ 140737488355328) (w : World) (hseq : SeqGives F (n - 1 - 1 - 1) P g lb encV S N w) :
    CallsIn F n P (ρ.f 6) #[.func (.func g) #[] lb] w fun e w' => ∃ (v : Value) (ss : List Int), e = .returned v ∧ S ss ∧
      w'.ownsRow w.heap.size (ρ.t 26) 1 v ss.length ((ss.mergeSort (fun x y => decide (x ≤ y))).map encV) ∧ (v = .slice none 0 0 ↔ ss = []) ∧ Below w.heap.size w w' := by
  have h1 : 1 ≤ n := by omega
  have e8 : ∀ args w, (callFunc (ρ.f 8) args).run P w = .ok (.enter (ρ.f 8) args) w := L.f8.enters rfl
  have mixed := L.mixed; have t0 := L.t0; have a0 := L.a0; have z0 := L.z0; have v0 := L.v0; have t24 := L.t24; have a24 := L.a24; have z24 := L.z24; have v24 := L.v24; have t26 := L.t26; have a26 := L.a26; have z26 := L.z26; have v26 := L.v26; have t28 := L.t28; have a28 := L.a28; have z28 := L.z28; have v28 := L.v28
  have u0 := run_underlying L.t0; have u24 := run_underlying L.t24; have u26 := run_underlying L.t26; have u28 := run_underlying L.t28
  obtain ⟨_, _, FG⟩ := L.f6
  refine callsIn_of_wp FG rfl h6 ?_ hro
  simp only [SlBodyZ.n6_ntmps ρ, List.size_toArray, List.length_cons, List.length_nil, Nat.reduceAdd, Nat.reduceSub, Array.replicate_succ, Array.replicate_zero, List.push_toArray, List.append_toArray, List.nil_append, List.cons_append]
  gi_wp2_with (gi_at_fn (ρ.f 8); refine (AnyZU.collect_in { L with } F (n - 1) h8 h11 hro (by omega) g lb hFg eg _ N hN hNb _ hseq.bounded).mono ?_; rintro e W ⟨v, ss, rfl, ⟨hS, hlen⟩, hrow, hnil, hb⟩)
  rcases hrow.2 with ⟨rfl, hz⟩ | ⟨gb, cap, cur, rfl, hbase, hgb, r1, r2, r3, r4⟩
  · 
    have hss : ss = [] := List.eq_nil_of_length_eq_zero hz
    subst hss
    gi_wp2_with (gi_at_fn (ρ.f 9); refine (hsort.2 none 0 W).mono ?_; rintro e w' ⟨rfl, rfl⟩)
    go_ret
    exact ⟨.slice none 0 0, [], rfl, hS, by simpa using hrow, by simp, hb⟩
  · have hH : Holds encV W gb 0 ss.toArray := holds_of_block_i hgb (by simpa using r4)
    have hgl : gb < W.heap.size := (Array.getElem?_eq_some_iff.1 hgb).1
    have hsz : ss.length < 4611686018427387904 := by omega
    have cS := hsort.1 gb 0 cap ss W hH hgl hsz
    gi_wp2_with (gi_at_fn (ρ.f 9); refine cS.mono ?_; rintro e w' ⟨rfl, nn, os, rfl⟩)
    go_ret
    exact ⟨_, ss, rfl, hS, ownsRow_sorted_i (by simp) hbase hgb r1 r2 r3, hnil, hb.grown (grownBy_sorted_i _) hb.size (fun j hj => by cases hj; exact hbase)⟩


end Go.Proofs.Ytngocadnbpdnoaa.Srt
namespace Go.Proofs.Ytngocadnbpdnoaa.Srt
open Go Go.Proofs
open Go.RowKit Go.Maps Go.Sort Go.Shelf
variable {P : Program} {ρ : Ren}

set_option maxRecDepth 100000 in
set_option maxHeartbeats 1000000 in
theorem AnyZU.keys1_nil_in (L : SlLaysZU.n10 P ρ) (F : Fence) (n : Nat) (h10 : F.fn (ρ.f 10)) (hro : F.round = none) (l Bm : Nat) (J : List Int → World → Prop) (W : World) (hJ : AbidesFrom W.heap.size J)
    (hm : W.cell? ⟨Bm, 0, none⟩ = some (.map none)) (h0 : J [] W) :
    CallsIn F n P (ρ.f 10) #[.func (.yield l) #[] #[], .pointer (some ⟨Bm, 0, none⟩)] W fun e W' => (∃ v, e = .returned v) ∧ ∃ ss : List Int, ss = [] ∧ J ss W' := by
  have mixed := L.mixed; have t0 := L.t0; have a0 := L.a0; have z0 := L.z0; have v0 := L.v0; have t4 := L.t4; have a4 := L.a4; have z4 := L.z4; have v4 := L.v4; have t23 := L.t23; have a23 := L.a23; have z23 := L.z23; have v23 := L.v23; have t26 := L.t26; have a26 := L.a26; have z26 := L.z26; have v26 := L.v26; have t33 := L.t33; have a33 := L.a33; have z33 := L.z33; have v33 := L.v33
  have u0 := run_underlying L.t0; have u4 := run_underlying L.t4; have u23 := run_underlying L.t23; have u26 := run_underlying L.t26; have u33 := run_underlying L.t33
  obtain ⟨_, _, FG⟩ := L.f10
  refine callsIn_of_wp FG rfl h10 ?_ hro
  simp only [SlBodyZ.n10_ntmps ρ, List.size_toArray, List.length_cons, List.length_nil, Nat.reduceAdd, Nat.reduceSub, Array.replicate_succ, Array.replicate_zero, List.push_toArray, List.append_toArray, List.nil_append, List.cons_append]
  have hrg := run_range_nilMap (P := P) W (ρ.t 23) (ρ.t 26) (ρ.t 3) L.t23
  have hnx : ∀ ty, (Instr.next (.pointer (some ⟨W.heap.size, 0, none⟩)) false ty).run P (W.alloc (.mapIter none 0 #[] 0)) = _ := fun ty => run_next_nilMap _ ty 0 0 #[]
  gi_wp2
  refine wpIn_loop_rounds 1 ?_
  rw [roundsIn_succ]
  gi_wp2
  go_end0
  exact ⟨⟨_, rfl⟩, [], rfl, hJ [] W _ none h0 (World.grownBy_alloc W _ none) (fun r e => by cases e)⟩


theorem AnyZU.keys_gives_nil (L : SlLaysZU.n10 P ρ) (F : Fence) (n : Nat) (h10 : F.fn (ρ.f 10)) (hro : F.round = none) (Bm : Nat) (w : World) (hBm : Bm < w.heap.size) (hm : w.cell? ⟨Bm, 0, none⟩ = some (.map none)) :
    SeqGives F n P (ρ.f 10) #[.pointer (some ⟨Bm, 0, none⟩)] encV (fun ss : List Int => ss = []) 0 w := fun l J W hW hJ _ h0 =>
  AnyZU.keys1_nil_in { L with } F n h10 hro l Bm J W hJ ((hW.cell (p := ⟨Bm, 0, none⟩) hBm).trans hm) h0

end Go.Proofs.Ytngocadnbpdnoaa.Srt
namespace Go.Proofs.Ytngocadnbpdnoaa.Mo
open Go Go.Maps Go.RowKit Go.Sort Go.Shelf Go.Proofs.Ytngocadnbpdnoaa.Srt Go.Proofs.Ytngocadnbpdnoaa.Q Go.Proofs.YtngocadnbpdnoaaW.PrintWords Go.Proofs.YtngocadnbpdnoaaW.PrintLast Go.Proofs.YtngocadnbpdnoaaW.PrintMore
set_option linter.unusedVariables false
set_option linter.unusedSimpArgs false
/-- A map of at most n entries that reads as l. -/
def MapN (w : World) (b n : Nat) (l : PL) : Prop := w.ownsMap Try.prog 23 (plainElem (H := Unit) Try.prog 23) b n (dmap l) ∧ Asc l
/-- How the held maps read: by a ghost table of blocks. -/
def RH (f : Nat → Option PL) : Value → Option (DataW Unit × List MemPlace)
  | .map none => some (.nil, [])
  | .map (some b) => (f b).map fun l => (dmap l, [])
  | _ => none
def HeldN (w : World) (f : Nat → Option PL) (b n : Nat) (hs : List (Int × PL)) : Prop := w.ownsMap Try.prog 23 (RH f) b n (mp dmap hs) ∧ Asc hs
theorem lawU : Keyed Try.prog 23 := int_keyed Try.underlying23
theorem zeroU (w : World) : (zeroValue 23).run Try.prog w = .ok (.int .u64 0) w := by kernel_rfl
theorem sortsA (m : Nat) : AnyZU.SortsIn Try.prog SortedA_ren Fence.wide m :=
  ⟨fun blk off cap ss W hH hblk hsz => callsIn_wide.2 (calls_of_every_depth fun D => AnyU.slices_Sort_int_in SortA D blk off cap ss W hH hblk hsz),
   fun p cap W => callsIn_wide.2 (calls_of_every_depth fun D => AnyU.slices_Sort_int_none_in SortA D p cap W)⟩
theorem keysA_c (mb : Option Nat) (w : World) :
    Calls Try.prog 85 #[.map mb] w fun e w' => e = .returned (.func (.func 100) #[] #[.pointer (some ⟨w.heap.size, 0, none⟩)]) ∧ w' = w.alloc (.cells #[.map mb] 97) :=
  (callsIn_wide (n := 5)).1 (AnyZU.keys_in KeysA Fence.wide 5 trivial rfl mb w)
theorem keysB_c (mb : Option Nat) (w : World) :
    Calls Try.prog 58 #[.map mb] w fun e w' => e = .returned (.func (.func 96) #[] #[.pointer (some ⟨w.heap.size, 0, none⟩)]) ∧ w' = w.alloc (.cells #[.map mb] 98) :=
  (callsIn_wide (n := 5)).1 (AnyZU.keys_in KeysB Fence.wide 5 trivial rfl mb w)
theorem own_alloc_u {w : World} {R : Value → Option (DataW Unit × List MemPlace)} {b n : Nat} {D : DataW Unit} (h : w.ownsMap Try.prog 23 R b n D) {W : World} (hb : Below w.heap.size w W) : W.ownsMap Try.prog 23 R b n D := by
  have hl := h.lt
  obtain ⟨es, clock, hb', F, hs, hD⟩ := h
  exact ⟨es, clock, (hb.block b hl).trans hb', F, hs, hD⟩
/-- slices.Sorted of a map's keys. -/
theorem sortedA_c {β : Type} {d : β → DataW Unit} (Bm b n : Nat) (l : List (Int × β)) (R : Value → Option (DataW Unit × List MemPlace)) (w : World) (hBm : Bm < w.heap.size) (hm : w.cell? ⟨Bm, 0, none⟩ = some (.map (some b))) (hown : w.ownsMap Try.prog 23 R b n (mp d l)) (ha : Asc l) (hn : l.length ≤ 1099511627776) :
    Calls Try.prog 57 #[.func (.func 100) #[] #[.pointer (some ⟨Bm, 0, none⟩)]] w fun e w' => ∃ v : Value, e = .returned v ∧
      (Kd.int .u64).R 23 w' w.heap.size (fun _ => True) v (l.map (·.1)) ∧ Below w.heap.size w w' := by
  have hsz : Maps.size (mp d l) = l.length := size_mp l
  have hseq : SeqGives Fence.wide 2 Try.prog 100 #[.pointer (some ⟨Bm, 0, none⟩)] encV (fun ss => ss.Perm (Go.intKeys (mp d l))) (Maps.size (mp d l)) w :=
    AnyZU.keys_gives (ρ := KeysA_ren) { KeysA with } Fence.wide _ trivial rfl (by omega) Bm b n (mp d l) w hBm hm hown
  have cS := AnyZU.sorted_in SortedA Fence.wide 5 trivial trivial trivial trivial rfl (by omega) (sortsA _) (enters_of Try.func95 (by kernel_rfl) rfl) 100 #[.pointer (some ⟨Bm, 0, none⟩)] trivial (enters_of Try.func100 (by kernel_rfl) rfl) _ _ (by rw [hsz]; unfold maxLen; omega) (by rw [hsz]; omega) _ hseq
  change CallsIn _ _ Try.prog 57 _ _ _ at cS
  refine ((callsIn_wide).1 cS).mono ?_
  rintro e w' ⟨v, ss, rfl, hS, hrow, hnil, hb⟩
  rw [intKeys_mp] at hS
  rw [sort_keys ha hS] at hrow
  have hlen : ss.length = (l.map (·.1)).length := hS.length_eq
  rw [hlen] at hrow
  exact ⟨v, rfl, Kd.R_of_own hrow (fun _ _ => trivial), hb⟩
theorem sortedB_c {β : Type} {d : β → DataW Unit} (Bm b n : Nat) (l : List (Int × β)) (R : Value → Option (DataW Unit × List MemPlace)) (w : World) (hBm : Bm < w.heap.size) (hm : w.cell? ⟨Bm, 0, none⟩ = some (.map (some b))) (hown : w.ownsMap Try.prog 23 R b n (mp d l)) (ha : Asc l) (hn : l.length ≤ 1099511627776) :
    Calls Try.prog 57 #[.func (.func 96) #[] #[.pointer (some ⟨Bm, 0, none⟩)]] w fun e w' => ∃ v : Value, e = .returned v ∧
      (Kd.int .u64).R 23 w' w.heap.size (fun _ => True) v (l.map (·.1)) ∧ Below w.heap.size w w' := by
  have hsz : Maps.size (mp d l) = l.length := size_mp l
  have hseq : SeqGives Fence.wide 2 Try.prog 96 #[.pointer (some ⟨Bm, 0, none⟩)] encV (fun ss => ss.Perm (Go.intKeys (mp d l))) (Maps.size (mp d l)) w :=
    AnyZU.keys_gives (ρ := KeysB_ren) { KeysB with } Fence.wide _ trivial rfl (by omega) Bm b n (mp d l) w hBm hm hown
  have cS := AnyZU.sorted_in SortedA Fence.wide 5 trivial trivial trivial trivial rfl (by omega) (sortsA _) (enters_of Try.func95 (by kernel_rfl) rfl) 96 #[.pointer (some ⟨Bm, 0, none⟩)] trivial (enters_of Try.func96 (by kernel_rfl) rfl) _ _ (by rw [hsz]; unfold maxLen; omega) (by rw [hsz]; omega) _ hseq
  change CallsIn _ _ Try.prog 57 _ _ _ at cS
  refine ((callsIn_wide).1 cS).mono ?_
  rintro e w' ⟨v, ss, rfl, hS, hrow, hnil, hb⟩
  rw [intKeys_mp] at hS
  rw [sort_keys ha hS] at hrow
  have hlen : ss.length = (l.map (·.1)).length := hS.length_eq
  rw [hlen] at hrow
  exact ⟨v, rfl, Kd.R_of_own hrow (fun _ _ => trivial), hb⟩
end Go.Proofs.Ytngocadnbpdnoaa.Mo
namespace Go.Proofs.Ytngocadnbpdnoaa.Mo
open Go Go.Maps Go.RowKit Go.Proofs.Ytngocadnbpdnoaa.Srt Go.Proofs.Ytngocadnbpdnoaa.Q Go.Proofs.YtngocadnbpdnoaaW.PrintWords Go.Proofs.YtngocadnbpdnoaaW.PrintLast Go.Proofs.YtngocadnbpdnoaaW.PrintMore
set_option linter.unusedVariables false
set_option linter.unusedSimpArgs false
abbrev SP := S90
abbrev kSP : Kd SP := k90
def toS (l : PL) : List SP := l.map fun p => ⟨p.1, p.2⟩
theorem toS_length (l : PL) : (toS l).length = l.length := by simp [toS]
theorem toS_take_succ (l : PL) (k : Nat) (p : Int × Int) (h : l[k]? = some p) : toS (l.take (k + 1)) = toS (l.take k) ++ [⟨p.1, p.2⟩] := by
  obtain ⟨hk, rfl⟩ := List.getElem?_eq_some_iff.1 h
  rw [List.take_succ_eq_append_getElem hk]
  unfold toS
  rw [List.map_append]
  rfl
theorem MapN.below {w W : World} {b n : Nat} {l : PL} (h : MapN w b n l) (hb : Below w.heap.size w W) : MapN W b n l := ⟨own_alloc_u h.1 hb, h.2⟩
theorem MapN.lt {w : World} {b n : Nat} {l : PL} (h : MapN w b n l) : b < w.heap.size := h.1.lt
theorem wf_keys {β : Type} {d : β → DataW Unit} {w : World} {b n : Nat} {R : Value → Option (DataW Unit × List MemPlace)} {l : List (Int × β)} (h : w.ownsMap Try.prog 23 R b n (mp d l)) {q : Int × β} (hq : q ∈ l) : (Lit.int .u64 q.1).wf = true :=
  Go.Proofs.Ytngocadnbpdnoaa.Srt.intKeys_wf h Try.underlying23 _ (by rw [intKeys_mp]; exact List.mem_map.2 ⟨q, hq, rfl⟩)
theorem at_l64 {l : PL} {k v c : Int} (hf : fnd l k = some v) {z : DataW Unit} (h : (dmap l).atKey (.int .u64 k) z = .lit (.int .u64 c)) : v = c := by
  unfold dmap at h
  rw [atKey_mp, hf] at h
  simpa [lit64] using h
set_option maxRecDepth 100000 in
set_option maxHeartbeats 4000000 in
theorem sorted_c (b n : Nat) (l : PL) (w : World) (h : MapN w b n l) (hn : l.length ≤ 1099511627776) :
    Calls Try.prog 38 #[.map (some b)] w fun e w' => ∃ v : Value, e = .returned v ∧ kSP.R 90 w' w.heap.size (fun _ => True) v (toS l) ∧ Below w.heap.size w w' := by
  have hlt := h.lt
  have h0 := h.below (below_alloc (Below.refl _ w) (.cells #[.map (some b)] 97))
  have HM := Lib.hid h
  have cS := sortedA_c w.heap.size b n l (plainElem (H := Unit) Try.prog 23) (w.alloc (.cells #[.map (some b)] 97)) (by simp) (by simp) h0.1 h0.2 hn
  clear h h0
  go_enter Try.func38, Try.ntmps38
  go_wp2_with (first
    | (go_at_call 85; refine (keysA_c _ _).mono ?_; rintro e w' ⟨rfl, rfl⟩)
    | (go_at_call 57; refine cS.mono ?_; rintro e w1 ⟨v, rfl, hR, hb1⟩; obtain ⟨A, c, rfl⟩ := Kd.R_slice hR))
  have hsz1 : w.heap.size + 1 ≤ w1.heap.size := by have := hb1.size; simp at this; omega
  obtain ⟨-, -, hC⟩ := Kd.R_reads' hR
  have hlen : (l.map (·.1)).length = l.length := by simp
  obtain ⟨ks, hks⟩ : ∃ ks : List Int, ks = l.map (·.1) := ⟨_, rfl⟩
  rw [← hks] at hC hlen
  have hB1 : Below w.heap.size w w1 := (below_alloc (Below.refl _ w) (.cells #[.map (some b)] 97)).trans (hb1.mono (by simp))
  have HC := Lib.hid hC
  have HK := Lib.hid hks
  have HB1 := Lib.hid hB1
  clear hC hks hR hb1 cS hB1
  have HL := Lib.hid hlen
  clear hlen
  go_loopw [3, 10] (fun v3 v10 wr => ∃ i : Nat, v10 = .int .i64 i ∧ i ≤ l.length ∧ Hid (kSP.R 90 wr w1.heap.size (fun _ => True) v3 (toS (l.take i))) ∧ Hid (Below w1.heap.size w1 wr))
    (fun _ v10 _ => l.length - (intOf v10).toNat)
  case atStart => exact ⟨0, rfl, Nat.zero_le _, Lib.hid (Kd.R_nil _ _ _ _ _), Lib.hid (Below.refl _ _)⟩
  case round =>
    obtain ⟨i, rfl, hi, HR, HBW⟩ := hrel
    have HB := Lib.hid (HB1.out.trans (HBW.out.mono HB1.out.size))
    by_cases hlt2 : i < l.length
    · obtain ⟨p, hp⟩ : ∃ p, l[i]? = some p := ⟨l[i], List.getElem?_eq_getElem hlt2⟩
      obtain ⟨ad, rfl, hx⟩ := Kd.at_int HC.out (i : Int) (by omega) (by have := HL.out; omega)
      have hk1 : rd ks (i : Int) = p.1 := by
        rw [HK.out]
        unfold rd
        simp [List.getD, hp]
      rw [hk1, Int.toNat_natCast] at hx
      have hx1 := (HBW.out.cell (World.block_lt_of_cell? w1 _ hx)).trans hx
      have hfd : fnd l p.1 = some p.2 := fnd_of_mem HM.out.2 (List.mem_of_getElem? hp)
      have hown := (HM.out.below HB.out).1
      have HWF := Lib.hid (wf_keys HM.out.1 (List.mem_of_getElem? hp))
      have HF := Lib.hid hfd
      have HP := Lib.hid hp
      clear hfd hp hx hk1
      have hbnd : Hid (((toS (l.take i)).length + 1) * 16 ≤ 140737488355328) := Lib.hid (by rw [toS_length, List.length_take]; omega)
      have hbb : b < wr.heap.size := Nat.lt_of_lt_of_le hlt HB.out.size
      go_wp2_with (first
        | (at_lookup; refine wpList_lookup_own_int _ rfl _ _ 97 rfl 23 23 .u64 lawU Try.underlying97 Try.underlying23 (zeroU _) b n _ rfl hown _ _ rfl (keyOf_int_mk Try.underlying23 HWF.out) ?_; intro c hat hwc; obtain rfl := at_l64 HF.out hat; clear hat hwc hown)
        | (at_builtin; (refine Kd.R_append kSP (w0 := w1) w1.heap.size rfl (.tmp 14) (.tmp 20) 24 90 (.agg #[(.int .u64 0), (.int .u64 0)]) 16 rfl Try.underlying24 info90 rfl (by decide) (by omega) u3 (toS (l.take i)) (⟨p.1, p.2⟩ : SP) [.int .u64 p.1, .int .u64 p.2] (fun _ => True) (fun _ => False) rfl rfl ?aP (fun _ hk => hk.elim) (fun _ _ => trivial) ?aO ?aB ?aS ?aL ?_)
           (case aP => exact k90_mkM _ _ _ (⟨p.1, p.2⟩ : SP))
           (case aO => exact HR.out)
           (case aB => exact HBW.out)
           (case aS => exact below_size HBW.out)
           (case aL => exact hbnd.out)
           intro v1 w2 ho hb hg hat
           have HO2 := Lib.hid ho
           have HB2 := Lib.hid hb
           have HG2 := Lib.hid hg
           have HA2 := Lib.hid hat
           clear ho hb hg hat))
      go_roundw
      case rel => exact ⟨i + 1, by go_num, by omega, Lib.hid (by rw [toS_take_succ l i p HP.out]; exact HO2.out), HB2⟩
      case measure => simp [intOf]; omega
    · obtain rfl : i = l.length := by omega
      go_wp2
      go_ret
      refine ⟨_, rfl, ?_, HB.out⟩
      have := HR.out
      rw [List.take_length] at this
      exact Kd.R_lower this HB1.out.size
theorem sortedA_nil_c (Bm : Nat) (w : World) (hBm : Bm < w.heap.size) (hm : w.cell? ⟨Bm, 0, none⟩ = some (.map none)) :
    Calls Try.prog 57 #[.func (.func 100) #[] #[.pointer (some ⟨Bm, 0, none⟩)]] w fun e w' => e = .returned (.slice none 0 0) ∧ Below w.heap.size w w' := by
  have hseq : SeqGives Fence.wide 2 Try.prog 100 #[.pointer (some ⟨Bm, 0, none⟩)] encV (fun ss => ss = []) 0 w :=
    AnyZU.keys_gives_nil (ρ := KeysA_ren) { KeysA with } Fence.wide _ trivial rfl Bm w hBm hm
  have cS := AnyZU.sorted_in SortedA Fence.wide 5 trivial trivial trivial trivial rfl (by omega) (sortsA _) (enters_of Try.func95 (by kernel_rfl) rfl) 100 #[.pointer (some ⟨Bm, 0, none⟩)] trivial (enters_of Try.func100 (by kernel_rfl) rfl) _ _ (by unfold maxLen; omega) (by omega) _ hseq
  change CallsIn _ _ Try.prog 57 _ _ _ at cS
  refine ((callsIn_wide).1 cS).mono ?_
  rintro e w' ⟨v, ss, rfl, hS, hrow, hnil, hb⟩
  exact ⟨by rw [hnil.2 hS], hb⟩
set_option maxRecDepth 100000 in
set_option maxHeartbeats 4000000 in
theorem sorted_nil_c (w : World) :
    Calls Try.prog 38 #[.map none] w fun e w' => e = .returned (.slice none 0 0) ∧ Below w.heap.size w w' := by
  have cS := sortedA_nil_c w.heap.size (w.alloc (.cells #[.map none] 97)) (by simp) (by simp)
  go_enter Try.func38, Try.ntmps38
  go_wp2_with (first
    | (go_at_call 85; refine (keysA_c _ _).mono ?_; rintro e w' ⟨rfl, rfl⟩)
    | (go_at_call 57; refine cS.mono ?_; rintro e w1 ⟨rfl, hb1⟩))
  have HB1 := Lib.hid ((below_alloc (Below.refl _ w) (.cells #[.map none] 97)).trans (hb1.mono (by simp)))
  clear hb1 cS
  go_loopw [3, 10] (fun v3 v10 wr => v10 = .int .i64 0 ∧ v3 = .slice none 0 0 ∧ wr = w1) (fun _ _ _ => 0)
  case atStart => exact ⟨rfl, rfl, rfl⟩
  case round =>
    obtain ⟨rfl, rfl, rfl⟩ := hrel
    go_wp2
    go_ret
    exact ⟨rfl, HB1.out⟩
end Go.Proofs.Ytngocadnbpdnoaa.Mo
namespace Go.Proofs.Ytngocadnbpdnoaa.Mo
open Go Go.Maps Go.RowKit Go.Proofs.Ytngocadnbpdnoaa.Srt Go.Proofs.Ytngocadnbpdnoaa.Q Go.Proofs.YtngocadnbpdnoaaW.PrintWords Go.Proofs.YtngocadnbpdnoaaW.PrintLast Go.Proofs.YtngocadnbpdnoaaW.PrintMore
set_option linter.unusedVariables false
set_option linter.unusedSimpArgs false
/-! ### the library's contracts -/
theorem clone_c (b n : Nat) (l : PL) (w : World) (h : MapN w b n l) :
    Calls Try.prog 79 #[.map (some b)] w fun e w' => e = .returned (.map (some w.heap.size)) ∧ MapN w' w.heap.size n l ∧ Below w.heap.size w w' ∧ w.heap.size < w'.heap.size := by
  refine (AnyW.maps_Clone_owns CloneA 23 _ b n (dmap l) w h.1).mono ?_
  rintro e w' ⟨he, h1, -, hb⟩
  exact ⟨he, ⟨h1, h.2⟩, hb, h1.lt⟩
/-- m[k] = v at a step of a region. -/
theorem step_mapUpdate {P : Program} {ops : Array Oper} {o : Oper} {a : Act} {K : Act → World → Prop} {Q : Exit → Act → World → Prop} {E : Prop} {w : World} (hgd : o.guard = none) (m x v : Operand) (t : TypeId) (hop : o.op = Op.mapUpdate t m x v)
    (k e : TypeId) (KK : Keyed P k) (ht : P.underlying t = some (.map k e)) (R : Value → Option (DataW Unit × List MemPlace)) (b n : Nat) (D : DataW Unit)
    (hm : a.eval m = .map (some b)) (hown : w.ownsMap P k R b n D) (hn : n < maxLen) (key val : Value) (kl : Lit) (hx : a.eval x = key) (hv : a.eval v = val) (hkey : keyOf P k key = some kl)
    (d : DataW Unit) (ps : List MemPlace) (hval : R val = some (d, ps))
    (hK : ∀ w', w'.ownsMap P k R b (n + 1) (D.put kl d) → w.grownBy w' (some b) → K (a.put o.dst undef) w') :
    if Region.wanted o (yielded ops a.tmps) = true then Oper.wp P o a w K Q else E := by
  have hw : Region.wanted o (yielded ops a.tmps) = true := by simp [Region.wanted, hgd]
  rw [if_pos hw]
  obtain ⟨w', hrun, r1, r2⟩ := hown.update KK ht hn hkey hval
  unfold Oper.wp
  simp [execOp, hop, hm, hx, hv, hrun, Result.andThen]
  exact hK w' r1 r2
/-! ### the program's model in memory -/
structure PM (w : World) (f : Nat → Option PL) (N gp bn bh : Nat) (multi : Int) (now : PL) (held : List (Int × PL)) : Prop where
  blk : w.heap[gp]? = some (.cells #[.int .i64 multi, .map (some bn), .map (some bh)] 100 (0, 0))
  now : MapN w bn N now
  held : HeldN w f bh N held
  fn : f bn = none
  fh : f bh = none
  ne : bn ≠ bh
def Fro (w : World) (f : Nat → Option PL) (N : Nat) : Prop := ∀ b l, f b = some l → MapN w b N l
def Ext (B : Nat) (f f' : Nat → Option PL) : Prop := (∀ b l, f b = some l → f' b = some l) ∧ ∀ b l, f' b = some l → f b = some l ∨ B ≤ b
theorem Ext.refl (B : Nat) (f : Nat → Option PL) : Ext B f f := ⟨fun _ _ h => h, fun _ _ h => .inl h⟩
theorem Ext.trans {B B' : Nat} {f f' f'' : Nat → Option PL} (h : Ext B f f') (h' : Ext B' f' f'') (hB : B ≤ B') : Ext B f f'' :=
  ⟨fun b l e => h'.1 b l (h.1 b l e), fun b l e => (h'.2 b l e).elim (h.2 b l) (fun e => .inr (Nat.le_trans hB e))⟩
def updF (f : Nat → Option PL) (b : Nat) (l : PL) : Nat → Option PL := fun k => if k = b then some l else f k
theorem ext_updF {B b : Nat} {f : Nat → Option PL} {l : PL} (hb : B ≤ b) (hf : f b = none) : Ext B f (updF f b l) := by
  constructor
  · intro k v h
    unfold updF
    split
    · rename_i e; subst e; rw [hf] at h; cases h
    · exact h
  · intro k v h
    unfold updF at h
    split at h
    · rename_i e; subst e; exact .inr hb
    · exact .inl h
theorem MapN.kept {w W : World} {S : Nat → Prop} {b n : Nat} {l : PL} (h : MapN w b n l) (hk : Kept w W S) (hS : ¬ S b) : MapN W b n l := by
  have hl := h.lt
  obtain ⟨⟨es, clock, hb', F, hs, hD⟩, ha⟩ := h
  exact ⟨⟨es, clock, (hk.2 b hl hS).trans hb', F, hs, hD⟩, ha⟩
theorem MapN.mono {w : World} {b n n' : Nat} {l : PL} (h : MapN w b n l) (hn : n ≤ n') : MapN w b n' l := ⟨h.1.mono hn, h.2⟩
theorem HeldN.kept {w W : World} {S : Nat → Prop} {f : Nat → Option PL} {b n : Nat} {l : List (Int × PL)} (h : HeldN w f b n l) (hk : Kept w W S) (hS : ¬ S b) : HeldN W f b n l := by
  have hl := h.1.lt
  obtain ⟨⟨es, clock, hb', F, hs, hD⟩, ha⟩ := h
  exact ⟨⟨es, clock, (hk.2 b hl hS).trans hb', F, hs, hD⟩, ha⟩
theorem HeldN.mono {w : World} {f : Nat → Option PL} {b n n' : Nat} {l : List (Int × PL)} (h : HeldN w f b n l) (hn : n ≤ n') : HeldN w f b n' l := ⟨h.1.mono hn, h.2⟩
theorem RH_ext {B : Nat} {f f' : Nat → Option PL} (h : Ext B f f') (v : Value) (z : DataW Unit × List MemPlace) (hz : RH f v = some z) : RH f' v = some z := by
  unfold RH at hz ⊢
  split at hz
  · exact hz
  · rename_i b
    cases hf : f b with
    | none => rw [hf] at hz; cases hz
    | some l => rw [h.1 b l hf]; rw [hf] at hz; exact hz
  · cases hz
theorem HeldN.ext {w : World} {B : Nat} {f f' : Nat → Option PL} {b n : Nat} {l : List (Int × PL)} (h : HeldN w f b n l) (he : Ext B f f') : HeldN w f' b n l := by
  obtain ⟨⟨es, clock, hb', F, hs, hD⟩, ha⟩ := h
  obtain ⟨F1, hmap, _⟩ := F.stay (fun x _ z hz => RH_ext he x.val z hz)
  exact ⟨⟨es, clock, hb', F1, hs, by rw [hD, ← hmap]⟩, ha⟩
theorem PM.gl {w : World} {f : Nat → Option PL} {N gp bn bh : Nat} {multi : Int} {now : PL} {held : List (Int × PL)} (h : PM w f N gp bn bh multi now held) : gp < w.heap.size := (Array.getElem?_eq_some_iff.1 h.blk).1
theorem PM.kept {w W : World} {S : Nat → Prop} {f : Nat → Option PL} {N gp bn bh : Nat} {multi : Int} {now : PL} {held : List (Int × PL)} (h : PM w f N gp bn bh multi now held) (hk : Kept w W S) (h1 : ¬ S gp) (h2 : ¬ S bn) (h3 : ¬ S bh) : PM W f N gp bn bh multi now held :=
  ⟨(hk.2 gp h.gl h1).trans h.blk, h.now.kept hk h2, h.held.kept hk h3, h.fn, h.fh, h.ne⟩
theorem PM.ext {w : World} {B : Nat} {f f' : Nat → Option PL} {N gp bn bh : Nat} {multi : Int} {now : PL} {held : List (Int × PL)} (h : PM w f N gp bn bh multi now held) (he : Ext B f f') (h2 : bn < B) (h3 : bh < B) : PM w f' N gp bn bh multi now held :=
  ⟨h.blk, h.now, h.held.ext he, by
    cases hf : f' bn with
    | none => rfl
    | some l => rcases he.2 bn l hf with e | e; rw [h.fn] at e; cases e; omega, by
    cases hf : f' bh with
    | none => rfl
    | some l => rcases he.2 bh l hf with e | e; rw [h.fh] at e; cases e; omega, h.ne⟩
theorem PM.mono {w : World} {f : Nat → Option PL} {N N' gp bn bh : Nat} {multi : Int} {now : PL} {held : List (Int × PL)} (h : PM w f N gp bn bh multi now held) (hn : N ≤ N') : PM w f N' gp bn bh multi now held :=
  ⟨h.blk, h.now.mono hn, h.held.mono hn, h.fn, h.fh, h.ne⟩
theorem Fro.kept {w W : World} {S : Nat → Prop} {f : Nat → Option PL} {N : Nat} (h : Fro w f N) (hk : Kept w W S) (hS : ∀ b l, f b = some l → ¬ S b) : Fro W f N := fun b l hb => (h b l hb).kept hk (hS b l hb)
theorem Fro.mono {w : World} {f : Nat → Option PL} {N N' : Nat} (h : Fro w f N) (hn : N ≤ N') : Fro w f N' := fun b l hb => (h b l hb).mono hn
theorem Fro.lt {w : World} {f : Nat → Option PL} {N : Nat} (h : Fro w f N) {b : Nat} (hb : w.heap.size ≤ b) : f b = none := by
  cases hf : f b with
  | none => rfl
  | some l => have := (h b l hf).lt; omega
theorem Fro.upd {w : World} {f : Nat → Option PL} {N b : Nat} {l : PL} (h : Fro w f N) (hb : MapN w b N l) : Fro w (updF f b l) N := by
  intro k v hk
  unfold updF at hk
  split at hk
  · rename_i e; subst e; cases hk; exact hb
  · exact h k v hk
theorem PM.c0 {w : World} {f : Nat → Option PL} {N gp bn bh : Nat} {multi : Int} {now : PL} {held : List (Int × PL)} (h : PM w f N gp bn bh multi now held) : w.cell? ⟨gp, 0, none⟩ = some (.int .i64 multi) := by rw [blk_cell h.blk]; rfl
theorem PM.c1 {w : World} {f : Nat → Option PL} {N gp bn bh : Nat} {multi : Int} {now : PL} {held : List (Int × PL)} (h : PM w f N gp bn bh multi now held) : w.cell? ⟨gp, 1, none⟩ = some (.map (some bn)) := by rw [blk_cell h.blk]; rfl
theorem PM.c2 {w : World} {f : Nat → Option PL} {N gp bn bh : Nat} {multi : Int} {now : PL} {held : List (Int × PL)} (h : PM w f N gp bn bh multi now held) : w.cell? ⟨gp, 2, none⟩ = some (.map (some bh)) := by rw [blk_cell h.blk]; rfl
def u64wf (k : Int) : Prop := (Lit.int .u64 k).wf = true
theorem dmap_ne_nil (l : PL) : dmap l ≠ .nil := by simp [dmap, mp]
/-- What a look-up in held gives. -/
theorem held_at {f : Nat → Option PL} {hs : List (Int × PL)} {k : Int} {v : Value} {ps : List MemPlace} (h : RH f v = some ((mp dmap hs).atKey (.int .u64 k) .nil, ps)) :
    (fnd hs k = none ∧ v = .map none) ∨ ∃ b l, fnd hs k = some l ∧ v = .map (some b) ∧ f b = some l := by
  rw [atKey_mp] at h
  cases hf : fnd hs k with
  | none =>
    left
    rw [hf] at h
    unfold RH at h
    split at h
    · exact ⟨rfl, rfl⟩
    · rename_i b
      cases hb : f b with
      | none => rw [hb] at h; cases h
      | some l =>
        rw [hb] at h
        simp only [Option.map_some, Option.some.injEq, Prod.mk.injEq] at h
        exact absurd h.1 (dmap_ne_nil l)
    · cases h
  | some l =>
    right
    rw [hf] at h
    unfold RH at h
    split at h
    · simp only [Option.some.injEq, Prod.mk.injEq] at h
      exact absurd h.1.symm (dmap_ne_nil l)
    · rename_i b
      cases hb : f b with
      | none => rw [hb] at h; cases h
      | some l' =>
        rw [hb] at h
        simp only [Option.map_some, Option.some.injEq, Prod.mk.injEq] at h
        obtain rfl := dmap_inj _ _ h.1
        exact ⟨b, l', rfl, rfl, hb⟩
    · cases h
theorem zeroM (w : World) : (zeroValue 97).run Try.prog w = .ok (.map none) w := by kernel_rfl
/-- v, ok := m.held[k] : the run. -/
theorem held_look {w : World} {f : Nat → Option PL} {b n : Nat} {hs : List (Int × PL)} (h : HeldN w f b n hs) {k : Int} (hk : u64wf k) :
    (∃ v : Value, ((fnd hs k = none ∧ v = .map none) ∨ ∃ b l, fnd hs k = some l ∧ v = .map (some b) ∧ f b = some l) ∧ (Instr.lookup 98 (.map (some b)) (.int .u64 k) true).run Try.prog w = .ok (.tuple #[v, .bool (fnd hs k).isSome]) w) := by
  obtain ⟨v, ps, hrun, hR⟩ := h.1.look_ok lawU Try.underlying98 (zeroM w) (zd := .nil) (zp := []) rfl (keyOf_int_mk Try.underlying23 hk)
  rw [has_mp] at hrun
  exact ⟨v, held_at hR, hrun⟩
/-- v, ok := m.now[k] : the run. -/
theorem now_look {w : World} {b n : Nat} {l : PL} (h : MapN w b n l) {k : Int} (hk : u64wf k) :
    (Instr.lookup 97 (.map (some b)) (.int .u64 k) true).run Try.prog w = .ok (.tuple #[.int .u64 ((fnd l k).getD 0), .bool (fnd l k).isSome]) w := by
  obtain ⟨v, ps, hrun, hR⟩ := h.1.look_ok lawU Try.underlying97 (zeroU w) (zd := .lit (.int .u64 0)) (zp := []) (plainElem_int Try.underlying23 (by decide)) (keyOf_int_mk Try.underlying23 hk)
  unfold dmap at hrun hR
  rw [has_mp] at hrun
  rw [atKey_mp] at hR
  obtain ⟨a, rfl, hz, -⟩ := plainElem_int_inv Try.underlying23 hR
  rw [hrun]
  cases hf : fnd l k with
  | none => rw [hf] at hz; simp at hz; rw [← hz.1]; rfl
  | some c => rw [hf] at hz; simp [lit64] at hz; rw [← hz.1]; rfl
/-- m.held[k] = a held map : the run. -/
theorem held_put {w : World} {f : Nat → Option PL} {b n : Nat} {hs : List (Int × PL)} (h : HeldN w f b n hs) {k : Int} (hk : u64wf k) {bl : Nat} {l : PL} (hf : f bl = some l) (hn : n < maxLen) :
    ∃ w', (Instr.mapUpdate 98 (.map (some b)) (.int .u64 k) (.map (some bl))).run Try.prog w = .ok () w' ∧ HeldN w' f b (n + 1) (put hs k l) ∧ w.grownBy w' (some b) := by
  obtain ⟨w', hrun, ho, hg⟩ := h.1.update lawU Try.underlying98 hn (key := .int .u64 k) (val := .map (some bl)) (kl := .int .u64 k) (d := dmap l) (ps := []) (keyOf_int_mk Try.underlying23 hk) (by simp [RH, hf])
  rw [put_mp _ _ _ h.2] at ho
  exact ⟨w', hrun, ⟨ho, asc_put h.2 _ _⟩, hg⟩
theorem now_put {w : World} {b n : Nat} {l : PL} (h : MapN w b n l) {k v : Int} (hk : u64wf k) (hv : u64wf v) (hn : n < maxLen) :
    ∃ w', (Instr.mapUpdate 97 (.map (some b)) (.int .u64 k) (.int .u64 v)).run Try.prog w = .ok () w' ∧ MapN w' b (n + 1) (put l k v) ∧ w.grownBy w' (some b) := by
  obtain ⟨w', hrun, ho, hg⟩ := h.1.update lawU Try.underlying97 hn (key := .int .u64 k) (val := .int .u64 v) (kl := .int .u64 k) (d := lit64 v) (ps := []) (keyOf_int_mk Try.underlying23 hk) (plainElem_int Try.underlying23 hv)
  unfold dmap at ho
  rw [put_mp _ _ _ h.2] at ho
  exact ⟨w', hrun, ⟨ho, asc_put h.2 _ _⟩, hg⟩
theorem now_del {w : World} {b n : Nat} {l : PL} (h : MapN w b n l) {k : Int} (hk : u64wf k) (ty : TypeId) :
    ∃ w', (Builtin.delete_ #[97, 23] ty #[.map (some b), .int .u64 k]).run Try.prog w = .ok (.tuple #[]) w' ∧ MapN w' b n (del l k) ∧ w.grownBy w' (some b) := by
  obtain ⟨w', hrun, ho, hg⟩ := h.1.drop lawU Try.underlying97 (key := .int .u64 k) (kl := .int .u64 k) (keyOf_int_mk Try.underlying23 hk) ty
  unfold dmap at ho
  rw [del_mp] at ho
  exact ⟨w', hrun, ⟨ho, asc_del h.2 _⟩, hg.grown⟩
theorem held_del {w : World} {f : Nat → Option PL} {b n : Nat} {hs : List (Int × PL)} (h : HeldN w f b n hs) {k : Int} (hk : u64wf k) (ty : TypeId) :
    ∃ w', (Builtin.delete_ #[98, 23] ty #[.map (some b), .int .u64 k]).run Try.prog w = .ok (.tuple #[]) w' ∧ HeldN w' f b n (del hs k) ∧ w.grownBy w' (some b) := by
  obtain ⟨w', hrun, ho, hg⟩ := h.1.drop lawU Try.underlying98 (key := .int .u64 k) (kl := .int .u64 k) (keyOf_int_mk Try.underlying23 hk) ty
  rw [del_mp] at ho
  exact ⟨w', hrun, ⟨ho, asc_del h.2 _⟩, hg.grown⟩
end Go.Proofs.Ytngocadnbpdnoaa.Mo
namespace Go.Proofs.Ytngocadnbpdnoaa.Mo
open Go Go.Maps Go.RowKit Go.Proofs.Ytngocadnbpdnoaa.Srt Go.Proofs.Ytngocadnbpdnoaa.Q Go.Proofs.YtngocadnbpdnoaaW.PrintWords Go.Proofs.YtngocadnbpdnoaaW.PrintLast Go.Proofs.YtngocadnbpdnoaaW.PrintMore
set_option linter.unusedVariables false
set_option linter.unusedSimpArgs false
def ansV (e : Int) (fo : Bool) (v : Int) (dn : Bool) (h : Int) (ps : Value) (c : Int) : Value := .agg #[.int .i64 e, .bool fo, .int .u64 v, .bool dn, .int .u64 h, ps, .int .u64 c]
/-- An error alone. -/
def ansE (e : Int) : Value := ansV e false 0 false 0 (.slice none 0 0) 0
def ansC (e : Int) (fo : Bool) (v : Int) (dn : Bool) (h : Int) (ps : Value) (c : Int) : Array Value := #[.int .i64 e, .bool fo, .int .u64 v, .bool dn, .int .u64 h, ps, .int .u64 c]
theorem ansC_one (e : Int) (fo : Bool) (v : Int) (dn : Bool) (h : Int) (A : Option Addr) (n cp : Nat) (c : Int) : (ansC e fo v dn h (.slice A n cp) c).all (·.oneCell') = true := by simp [ansC, Value.oneCell']
theorem res_ans {fn : Func} {p : Tmp} (h : fn.results = #[.cell p 26]) (tmps : Array Value) {g : Nat} (hg : tmps.getD p undef = .pointer (some ⟨g, 0, none⟩)) {w : World} {e : Int} {fo : Bool} {v : Int} {dn : Bool} {hd : Int} {A : Option Addr} {n cp : Nat} {c : Int}
    (hb : w.heap[g]? = some (.cells (ansC e fo v dn hd (.slice A n cp) c) 26 (0, 0))) : (results fn tmps).run Try.prog w = .ok (ansV e fo v dn hd (.slice A n cp) c) w := by
  have h0 : w.cell? ⟨g, 0, none⟩ = some (.int .i64 e) := by rw [blk_cell hb]; rfl
  have h1 : w.cell? ⟨g, 1, none⟩ = some (.bool fo) := by rw [blk_cell hb]; rfl
  have h2 : w.cell? ⟨g, 2, none⟩ = some (.int .u64 v) := by rw [blk_cell hb]; rfl
  have h3 : w.cell? ⟨g, 3, none⟩ = some (.bool dn) := by rw [blk_cell hb]; rfl
  have h4 : w.cell? ⟨g, 4, none⟩ = some (.int .u64 hd) := by rw [blk_cell hb]; rfl
  have h5 : w.cell? ⟨g, 5, none⟩ = some (.slice A n cp) := by rw [blk_cell hb]; rfl
  have h6 : w.cell? ⟨g, 6, none⟩ = some (.int .u64 c) := by rw [blk_cell hb]; rfl
  have hg' : tmps[p]?.getD undef = .pointer (some ⟨g, 0, none⟩) := by simpa using hg
  simp only [results, h]
  simp [go_sem, hg', h0, h1, h2, h3, h4, h5, h6, ansV]
theorem Kept_row (w : World) (g : Nat) (cs : Array Value) : Kept w (w.setRow g cs) (fun k => k = g) := ⟨by simp, fun i _ hi => setRow_other w g i cs hi⟩
/-- Kept, and nothing told outside. -/
structure KO (w w' : World) (K : Nat → Prop) : Prop where
  kept : Kept w w' K
  os : w'.os = w.os
  tape : w'.tape = w.tape
  output : w'.output = w.output
theorem KO.refl (w : World) (K : Nat → Prop) : KO w w K := ⟨Kept.refl _ _, rfl, rfl, rfl⟩
theorem KO.of_below {w W : World} (h : Below w.heap.size w W) (K : Nat → Prop) : KO w W K := ⟨Kept.of_below h K, h.os, h.tape, h.output⟩
theorem KO.mono {w W : World} {K K' : Nat → Prop} (h : KO w W K) (hs : ∀ k, K k → K' k) : KO w W K' := ⟨h.kept.mono hs, h.os, h.tape, h.output⟩
theorem KO.then_ {w W W2 : World} {K K2 : Nat → Prop} (h : KO w W K) (k : KO W W2 K2) (hs : ∀ k, K2 k → K k ∨ w.heap.size ≤ k) : KO w W2 K := ⟨h.kept.then_ k.kept hs, k.os.trans h.os, k.tape.trans h.tape, k.output.trans h.output⟩
theorem KO.of_grown {w W W2 : World} {K : Nat → Prop} {row : Option Nat} (hg : W.grownBy W2 row) (h : KO w W K) (hr : ∀ k, row = some k → K k ∨ w.heap.size ≤ k) : KO w W2 K := ⟨Kept.of_grown hg h.kept hr, hg.os.trans h.os, hg.tape.trans h.tape, hg.output.trans h.output⟩
theorem KO.below {w W W2 : World} {K : Nat → Prop} (h : KO w W K) (hb : Below W.heap.size W W2) : KO w W2 K := h.then_ (KO.of_below hb (fun _ => False)) (fun _ e => e.elim)
theorem KO.row (w : World) (g : Nat) (cs : Array Value) : KO w (w.setRow g cs) (fun k => k = g) := ⟨Kept_row w g cs, rfl, rfl, rfl⟩
theorem KO.below_of {w W : World} {K : Nat → Prop} (h : KO w W K) (hs : ∀ k, K k → w.heap.size ≤ k) : Below w.heap.size w W := ⟨h.os, h.tape, h.output, h.kept.1, fun i hi => h.kept.2 i hi (fun e => by have := hs i e; omega)⟩
/-- What a step of the model leaves: n: how many more. -/
def Left (w w' : World) (f : Nat → Option PL) (N gp bn bh : Nat) (multi : Int) (now : PL) (held : List (Int × PL)) (K : Nat → Prop) : Prop :=
  ∃ f', Ext w.heap.size f f' ∧ PM w' f' N gp bn bh multi now held ∧ Fro w' f' N ∧ KO w w' K
theorem left_same {w w' : World} {f : Nat → Option PL} {N N' gp bn bh : Nat} {multi : Int} {now : PL} {held : List (Int × PL)} {K : Nat → Prop} (hM : PM w f N gp bn bh multi now held) (hF : Fro w f N) (hb : Below w.heap.size w w') (hn : N ≤ N') : Left w w' f N' gp bn bh multi now held K :=
  ⟨f, Ext.refl _ _, (hM.kept (Kept.of_below hb (fun _ => False)) (fun e => e) (fun e => e) (fun e => e)).mono hn, (hF.kept (Kept.of_below hb (fun _ => False)) (fun _ _ _ e => e)).mono hn, KO.of_below hb _⟩
def snapHeld (h : Int) (now : PL) (held : List (Int × PL)) : List (Int × PL) := if (fnd held h).isSome then held else if h = 0 then held else put held h now
def snapAns (h : Int) (held : List (Int × PL)) : Value := if (fnd held h).isSome then ansE 32 else ansV 0 false 0 false h (.slice none 0 0) 0
set_option maxRecDepth 100000 in
set_option maxHeartbeats 4000000 in
theorem snapshot_c (f : Nat → Option PL) (N gp bn bh : Nat) (multi : Int) (now : PL) (held : List (Int × PL)) (hdl : Int) (w : World) (hM : PM w f N gp bn bh multi now held) (hF : Fro w f N) (hh : u64wf hdl) (hN : N ≤ 1099511627776) :
    Calls Try.prog 36 #[.pointer (some ⟨gp, 0, none⟩), .int .u64 hdl] w fun e w' => e = .returned (snapAns hdl held) ∧ Left w w' f (N + 1) gp bn bh multi now (snapHeld hdl now held) (fun k => k = bh) := by
  have hgl := hM.gl
  have hnl := hM.now.lt
  have hhl := hM.held.1.lt
  have c2 := hM.c2
  have c1 := hM.c1
  have HMM := Lib.hid hM
  have HFF := Lib.hid hF
  have HU := Lib.hid hh
  obtain ⟨w1, hw1⟩ : ∃ w1, w1 = w.alloc (.cells #[.int .i64 0, .bool false, .int .u64 0, .bool false, .int .u64 0, .slice none 0 0, .int .u64 0] 26) := ⟨_, rfl⟩
  have hb1 : Below w.heap.size w w1 := by rw [hw1]; exact below_alloc (Below.refl _ w) _
  obtain ⟨v, hv, hrun⟩ := held_look (hM.held.kept (Kept.of_below hb1 (fun _ => False)) (fun e => e)) hh
  rw [hw1] at hrun
  have HV := Lib.hid hv
  have HW1 := Lib.hid hw1
  clear hM hF hh hv hw1 hb1
  by_cases hs : (fnd held hdl).isSome = true
  · rw [hs] at hrun
    go_enter Try.func36, Try.ntmps36
    go_wp2
    exact bodyPost_ret (v := ansE 32) (by simp [results, Try.results36, go_sem, ansE, ansV]) rfl ⟨by unfold snapAns; rw [if_pos hs], by unfold snapHeld; rw [if_pos hs]; exact left_same HMM.out HFF.out (below_alloc (Below.refl _ w) _) (Nat.le_succ N)⟩
  · have hs' : (fnd held hdl).isSome = false := by simpa using hs
    rw [hs'] at hrun
    by_cases h0 : hdl = 0
    · subst h0
      go_enter Try.func36, Try.ntmps36
      go_wp2
      exact bodyPost_ret (v := ansV 0 false 0 false 0 (.slice none 0 0) 0) (by simp [results, Try.results36, go_sem, ansE, ansV]) rfl ⟨by unfold snapAns; rw [hs']; rfl, by unfold snapHeld; rw [if_neg hs, if_pos rfl]; exact left_same HMM.out HFF.out (below_alloc (Below.refl _ w) _) (Nat.le_succ N)⟩
    · have hne : (hdl != 0) = true := by simp [h0]
      go_enter Try.func36, Try.ntmps36
      go_wp2_with fail
      have hBw : Below w.heap.size w (w.alloc (Obj.cells #[.int .i64 0, .bool false, .int .u64 0, .bool false, .int .u64 0, .slice none 0 0, .int .u64 0] 26)).drew := below_drew (below_alloc (Below.refl _ w) _)
      have hHn := Lib.hid (HMM.out.now.below hBw)
      have HB0 := Lib.hid hBw
      clear hBw hrun
      have hHh := Lib.hid (HMM.out.held.kept (Kept.of_below HB0.out (fun _ => False)) (fun e => e))
      have hblk : (w.alloc (Obj.cells #[.int .i64 0, .bool false, .int .u64 0, .bool false, .int .u64 0, .slice none 0 0, .int .u64 0] 26)).drew.heap[w.heap.size]? = some (.cells (ansC 0 false 0 false 0 (.slice none 0 0) 0) 26 (0, 0)) := heap_alloc_new w _
      have HBLK := Lib.hid hblk
      clear hblk
      go_region_held3 (fun w' => w'.cell? ⟨gp, 1, none⟩ = some (.map (some bn)) ∧ w'.cell? ⟨gp, 2, none⟩ = some (.map (some bh)))
        (first
          | go_keep
          | (go_split_ands
             refine ⟨?_, ?_⟩ <;> assumption))
        ((go_at_call 79; refine (clone_c bn N now _ hHn.out).mono ?_; rintro e w2 ⟨rfl, hm2, hb2, hs2⟩
          have he2 := ext_updF (f := f) (B := w.heap.size) (b := w.heap.size + 1) (l := now) (by omega) (HFF.out.lt (by omega))
          have hk02 : KO w w2 (fun _ => False) := (KO.of_below HB0.out (fun _ => False)).below hb2
          obtain ⟨w3, hrun3, ho3, hg3⟩ := held_put (f := updF f (w.heap.size + 1) now) ((hHh.out.kept (Kept.of_below hb2 (fun _ => False)) (fun e => e)).ext he2) HU.out (bl := w.heap.size + 1) (l := now) (by simp [updF]) (by unfold maxLen; omega)
          have hk3 : KO w w3 (fun k => k = bh) := KO.of_grown hg3 (hk02.mono (fun _ e => e.elim)) (fun k e => .inl (by cases e; rfl))
          have hne3 : gp ≠ bh := fun e => by
            have h1 := HMM.out.blk
            rw [e] at h1
            obtain ⟨⟨es, cl, h2, _⟩, _⟩ := HMM.out.held
            rw [h1] at h2; cases h2
          have hPM : PM w3 (updF f (w.heap.size + 1) now) (N + 1) gp bn bh multi now (put held hdl now) :=
            ⟨(hk3.kept.2 gp hgl hne3).trans HMM.out.blk, ((HMM.out.now.kept hk3.kept HMM.out.ne).mono (Nat.le_succ N)), ho3, (HMM.out.ext he2 hnl hhl).fn, (HMM.out.ext he2 hnl hhl).fh, HMM.out.ne⟩
          have hm2' : MapN w2 (w.heap.size + 1) N now := by simpa using hm2
          have hmN : MapN w3 (w.heap.size + 1) N now := hm2'.kept (Kept.of_grown hg3 (Kept.refl _ (fun k => k = bh)) (fun k e => .inl (by cases e; rfl))) (by omega)
          have hFr : Fro w3 (updF f (w.heap.size + 1) now) (N + 1) := ((HFF.out.kept hk3.kept (fun b l hb e => by subst e; rw [HMM.out.fh] at hb; cases hb)).upd hmN).mono (Nat.le_succ N)
          have hc21 := hPM.c1
          have hc22 := hPM.c2
          have hc11 := (HMM.out.kept hk02.kept (fun e => e) (fun e => e) (fun e => e)).c1
          have hc12 := (HMM.out.kept hk02.kept (fun e => e) (fun e => e) (fun e => e)).c2
          have hb3 : w3.heap[w.heap.size]? = some (.cells (ansC 0 false 0 false 0 (.slice none 0 0) 0) 26 (0, 0)) :=
            (hg3.block w.heap.size (Nat.lt_of_lt_of_le (by simp) hb2.size) (by simp; omega)).trans ((hb2.block w.heap.size (by simp)).trans HBLK.out)
          have HE2 := Lib.hid he2
          have HK3 := Lib.hid hk3
          have HPM := Lib.hid hPM
          have HFr := Lib.hid hFr
          have HB3 := Lib.hid hb3
          clear he2 hk02 hk3 hPM hmN hFr hb3 hm2 hm2' hb2 hs2 ho3 hg3 hne3))
      go_wp2_with (first | ((with_reducible refine gate_store (t := 26) (p := 4) rfl ?_); (refine wpList_store_row rfl 26 (.tmp 4) (.tmp 31) rfl w.heap.size (ansC 0 false 0 false hdl (.slice none 0 0) 0) rfl rfl 26 _ HB3.out (by kernel_rfl) rfl (ansC_one _ _ _ _ _ _ _ _ _) ?_)))
      refine bodyPost_ret (res_ans rfl _ rfl (setRow_heap _ _ _ _ _ _ HB3.out)) rfl ⟨by unfold snapAns; rw [hs']; rfl, by unfold snapHeld; rw [if_neg hs, if_neg h0]; exact ⟨_, HE2.out, HPM.out.kept (Kept_row _ _ _) (by omega) (by omega) (by omega), HFr.out.kept (Kept_row _ _ _) (fun b l hb e => by subst e; unfold updF at hb; rw [if_neg (by omega), HFF.out.lt (Nat.le_refl _)] at hb; cases hb), HK3.out.then_ (KO.row _ _ _) (fun k e => .inr (by omega))⟩⟩
end Go.Proofs.Ytngocadnbpdnoaa.Mo
namespace Go.Proofs.Ytngocadnbpdnoaa.Mo
open Go Go.Maps Go.RowKit Go.Proofs.Ytngocadnbpdnoaa.Srt Go.Proofs.Ytngocadnbpdnoaa.Q Go.Proofs.YtngocadnbpdnoaaW.PrintWords Go.Proofs.YtngocadnbpdnoaaW.PrintLast Go.Proofs.YtngocadnbpdnoaaW.PrintMore
set_option linter.unusedVariables false
set_option linter.unusedSimpArgs false
theorem MapN.len {w : World} {b n : Nat} {l : PL} (h : MapN w b n l) : l.length ≤ n := by have := h.1.size_le; unfold dmap at this; rwa [size_mp] at this
theorem HeldN.len {w : World} {f : Nat → Option PL} {b n : Nat} {l : List (Int × PL)} (h : HeldN w f b n l) : l.length ≤ n := by have := h.1.size_le; rwa [size_mp] at this
set_option maxHeartbeats 4000000 in
theorem content_c (f : Nat → Option PL) (N gp bn bh : Nat) (multi : Int) (now : PL) (held : List (Int × PL)) (w : World) (hM : PM w f N gp bn bh multi now held) (hN : N ≤ 1099511627776) :
    Calls Try.prog 17 #[.pointer (some ⟨gp, 0, none⟩)] w fun e w' => ∃ v : Value, e = .returned v ∧ kSP.R 90 w' w.heap.size (fun _ => True) v (toS now) ∧ Below w.heap.size w w' := by
  have c1 := hM.c1
  have cS := sorted_c bn N now w hM.now (by have := hM.now.len; omega)
  have HM := Lib.hid hM
  clear hM
  go_enter Try.func17, Try.ntmps17
  go_wp2_with (go_at_call 38; refine cS.mono ?_; rintro e w1 ⟨v, rfl, hR, hb⟩; obtain ⟨A, c, rfl⟩ := Kd.R_slice hR)
  go_ret
  exact ⟨_, rfl, hR, hb⟩
set_option maxHeartbeats 4000000 in
theorem handles_c (f : Nat → Option PL) (N gp bn bh : Nat) (multi : Int) (now : PL) (held : List (Int × PL)) (w : World) (hM : PM w f N gp bn bh multi now held) (hN : N ≤ 1099511627776) :
    Calls Try.prog 27 #[.pointer (some ⟨gp, 0, none⟩)] w fun e w' => ∃ v : Value, e = .returned v ∧ (Kd.int .u64).R 23 w' w.heap.size (fun _ => True) v (held.map (·.1)) ∧ Below w.heap.size w w' := by
  have c2 := hM.c2
  have h0 := hM.held.kept (Kept.of_below (below_alloc (Below.refl _ w) (.cells #[.map (some bh)] 98)) (fun _ => False)) (fun e => e)
  have cS := sortedB_c w.heap.size bh N held (RH f) (w.alloc (.cells #[.map (some bh)] 98)) (by simp) (by simp) h0.1 h0.2 (by have := hM.held.len; omega)
  have HM := Lib.hid hM
  clear hM h0
  go_enter Try.func27, Try.ntmps27
  go_wp2_with (first
    | (go_at_call 58; refine (keysB_c _ _).mono ?_; rintro e w' ⟨rfl, rfl⟩)
    | (go_at_call 57; refine cS.mono ?_; rintro e w1 ⟨v, rfl, hR, hb⟩; obtain ⟨A, c, rfl⟩ := Kd.R_slice hR))
  go_ret
  exact ⟨_, rfl, by simpa using Kd.R_lower (base' := w.heap.size) hR (by simp), (below_alloc (Below.refl _ w) _).trans (hb.mono (by simp))⟩
set_option maxHeartbeats 4000000 in
theorem held_c (f : Nat → Option PL) (N gp bn bh : Nat) (multi : Int) (now : PL) (held : List (Int × PL)) (k : Int) (w : World) (hM : PM w f N gp bn bh multi now held) (hF : Fro w f N) (hk : u64wf k) (hN : N ≤ 1099511627776) :
    Calls Try.prog 16 #[.pointer (some ⟨gp, 0, none⟩), .int .u64 k] w fun e w' => ∃ v : Value, e = .returned (.tuple #[v, .bool (fnd held k).isSome]) ∧ kSP.R 90 w' w.heap.size (fun _ => True) v (toS ((fnd held k).getD [])) ∧ Below w.heap.size w w' := by
  have c2 := hM.c2
  obtain ⟨v, hv, hrun⟩ := held_look hM.held hk
  rcases hv with ⟨hn, rfl⟩ | ⟨b, l, hn, rfl, hfb⟩
  · have cS := sorted_nil_c w
    rw [hn] at hrun ⊢
    have HM := Lib.hid hM
    clear hM hF hk hn
    go_enter Try.func16, Try.ntmps16
    go_wp2_with (go_at_call 38; refine cS.mono ?_; rintro e w1 ⟨rfl, hb⟩)
    go_ret2
    exact ⟨_, rfl, Kd.R_nil _ _ _ _ _, hb⟩
  · have hl := hF b l hfb
    have cS := sorted_c b N l w hl (by have := hl.len; omega)
    rw [hn] at hrun ⊢
    have HM := Lib.hid hM
    clear hM hF hk hn hl hfb
    go_enter Try.func16, Try.ntmps16
    go_wp2_with (go_at_call 38; refine cS.mono ?_; rintro e w1 ⟨v, rfl, hR, hb⟩; obtain ⟨A, c, rfl⟩ := Kd.R_slice hR)
    go_ret2
    exact ⟨_, rfl, hR, hb⟩
set_option maxHeartbeats 4000000 in
theorem new_c (multi : Int) (f : Nat → Option PL) (w : World) (hF : Fro w f 0) (hm : 1 ≤ multi) (hm2 : multi ≤ 1024) :
    Calls Try.prog 14 #[.int .i64 multi] w fun e w' => ∃ gp bn bh, e = .returned (.tuple #[.pointer (some ⟨gp, 0, none⟩), .int .i64 0]) ∧ PM w' f 0 gp bn bh multi [] [] ∧ Below w.heap.size w w' ∧ w.heap.size ≤ gp ∧ w.heap.size ≤ bn ∧ w.heap.size ≤ bh := by
  have hmm := @run_makeMap Try.prog
  have h1 : ¬ multi < 1 := by omega
  have h2 : ¬ 1024 < multi := by omega
  have d1 : decide (multi < 1) = false := decide_eq_false h1
  have d2 : decide (1024 < multi) = false := decide_eq_false h2
  have HF := Lib.hid hF
  clear hF h1 h2
  go_enter Try.func14, Try.ntmps14
  go_wp2
  go_ret2
  have b1 : Below (w.alloc (Obj.map #[] 0)).heap.size (w.alloc (Obj.map #[] 0)) (((w.alloc (Obj.map #[] 0)).alloc (Obj.map #[] 0)).alloc (Obj.cells #[Value.int IntKind.i64 multi, Value.map (some w.heap.size), Value.map (some (w.heap.size + 1))] 100)) := below_alloc (below_alloc (Below.refl _ _) _) _
  have b2 : Below ((w.alloc (Obj.map #[] 0)).alloc (Obj.map #[] 0)).heap.size ((w.alloc (Obj.map #[] 0)).alloc (Obj.map #[] 0)) (((w.alloc (Obj.map #[] 0)).alloc (Obj.map #[] 0)).alloc (Obj.cells #[Value.int IntKind.i64 multi, Value.map (some w.heap.size), Value.map (some (w.heap.size + 1))] 100)) := below_alloc (Below.refl _ _) _
  have o1 : MapN (w.alloc (Obj.map #[] 0)) w.heap.size 0 [] := ⟨World.ownsMap_made _ _ _ _, List.Pairwise.nil⟩
  have o2 : HeldN ((w.alloc (Obj.map #[] 0)).alloc (Obj.map #[] 0)) f (w.heap.size + 1) 0 [] := ⟨by have := World.ownsMap_made (w.alloc (Obj.map #[] 0)) Try.prog 23 (RH f); simpa [mp] using this, List.Pairwise.nil⟩
  refine ⟨w.heap.size + 1 + 1, w.heap.size, w.heap.size + 1, rfl, ⟨?_, o1.kept (Kept.of_below b1 (fun _ => False)) (fun e => e), o2.kept (Kept.of_below b2 (fun _ => False)) (fun e => e), HF.out.lt (Nat.le_refl _), HF.out.lt (by omega), by omega⟩, below_alloc (below_alloc (below_alloc (Below.refl _ _) _) _) _, by omega, by omega, by omega⟩
  have := heap_alloc_new ((w.alloc (Obj.map #[] 0)).alloc (Obj.map #[] 0)) (Obj.cells #[Value.int IntKind.i64 multi, Value.map (some w.heap.size), Value.map (some (w.heap.size + 1))] 100)
  simpa using this
end Go.Proofs.Ytngocadnbpdnoaa.Mo
namespace Go.Proofs.Ytngocadnbpdnoaa.Mo
open Go Go.Maps Go.RowKit Go.Proofs.Ytngocadnbpdnoaa.Srt Go.Proofs.Ytngocadnbpdnoaa.Q Go.Proofs.YtngocadnbpdnoaaW.PrintWords Go.Proofs.YtngocadnbpdnoaaW.PrintLast Go.Proofs.YtngocadnbpdnoaaW.PrintMore
set_option linter.unusedVariables false
set_option linter.unusedSimpArgs false
/-- A model but for what is held. -/
structure PB (w : World) (f : Nat → Option PL) (N gp bn bh : Nat) (multi : Int) (now : PL) : Prop where
  blk : w.heap[gp]? = some (.cells #[.int .i64 multi, .map (some bn), .map (some bh)] 100 (0, 0))
  now : MapN w bn N now
  fn : f bn = none
  fh : f bh = none
  ne : bn ≠ bh
theorem PB.kept {w W : World} {S : Nat → Prop} {f : Nat → Option PL} {N gp bn bh : Nat} {multi : Int} {now : PL} (h : PB w f N gp bn bh multi now) (hk : Kept w W S) (h1 : ¬ S gp) (h2 : ¬ S bn) : PB W f N gp bn bh multi now :=
  ⟨(hk.2 gp (Array.getElem?_eq_some_iff.1 h.blk).1 h1).trans h.blk, h.now.kept hk h2, h.fn, h.fh, h.ne⟩
theorem PB.ext {w : World} {B : Nat} {f f' : Nat → Option PL} {N gp bn bh : Nat} {multi : Int} {now : PL} (h : PB w f N gp bn bh multi now) (he : Ext B f f') (h2 : bn < B) (h3 : bh < B) : PB w f' N gp bn bh multi now :=
  ⟨h.blk, h.now, by
    cases hf : f' bn with
    | none => rfl
    | some l => rcases he.2 bn l hf with e | e; rw [h.fn] at e; cases e; omega, by
    cases hf : f' bh with
    | none => rfl
    | some l => rcases he.2 bh l hf with e | e; rw [h.fh] at e; cases e; omega, h.ne⟩
theorem PB.c2 {w : World} {f : Nat → Option PL} {N gp bn bh : Nat} {multi : Int} {now : PL} (h : PB w f N gp bn bh multi now) : w.cell? ⟨gp, 2, none⟩ = some (.map (some bh)) := by rw [blk_cell h.blk]; rfl
theorem PB.ng {w : World} {f : Nat → Option PL} {N gp bn bh n : Nat} {multi : Int} {now : PL} {hs : List (Int × PL)} (h : PB w f N gp bn bh multi now) (hh : HeldN w f bh n hs) : gp ≠ bh := fun e => by
  have h1 := h.blk
  rw [e] at h1
  obtain ⟨⟨es, cl, h2, _⟩, _⟩ := hh
  rw [h1] at h2; cases h2
theorem held_val {f : Nat → Option PL} {held : List (Int × PL)} {k : Int} {c : Value} {y : DataW Unit × List MemPlace} (hv : RH f c = some y) (hat : ∀ zd, (mp dmap held).atKey (.int .u64 k) zd = y.1) :
    ∃ b l, fnd held k = some l ∧ c = .map (some b) ∧ f b = some l := by
  have h0 := hat .nil
  have hv' : RH f c = some ((mp dmap held).atKey (.int .u64 k) .nil, y.2) := by rw [h0]; exact hv
  rcases held_at hv' with ⟨hn, rfl⟩ | ⟨b, l, h1, h2, h3⟩
  · exfalso
    have h1 := hat (.lit (.int .u64 5))
    rw [atKey_mp, hn] at h0 h1
    rw [← h0] at h1
    cases h1
  · exact ⟨b, l, h1, h2, h3⟩
theorem grown_of_below {w W : World} (row : Option Nat) (h : Below w.heap.size w W) : w.grownBy W row := ⟨h.os, h.tape, h.output, h.size, fun i hi _ => h.block i hi⟩
theorem made_held (w : World) (f : Nat → Option PL) : HeldN (w.alloc (Obj.map #[] 0)) f w.heap.size 0 [] := ⟨World.ownsMap_made _ _ _ _, List.Pairwise.nil⟩
theorem fork_way1 {w w2 : World} {f : Nat → Option PL} {N : Nat} {multi : Int} {now : PL} (hF : Fro w f N) (hB : Below w.heap.size w w2) (hm : MapN w2 w.heap.size N now) (hs : w.heap.size < w2.heap.size) :
    PB ((w2.alloc (Obj.map #[] 0)).alloc (Obj.cells #[.int .i64 multi, .map (some w.heap.size), .map (some w2.heap.size)] 100)) f N (w2.heap.size + 1) w.heap.size w2.heap.size multi now ∧
    HeldN ((w2.alloc (Obj.map #[] 0)).alloc (Obj.cells #[.int .i64 multi, .map (some w.heap.size), .map (some w2.heap.size)] 100)) f w2.heap.size 0 [] ∧
    Below w.heap.size w ((w2.alloc (Obj.map #[] 0)).alloc (Obj.cells #[.int .i64 multi, .map (some w.heap.size), .map (some w2.heap.size)] 100)) := by
  have b2 : Below w2.heap.size w2 ((w2.alloc (Obj.map #[] 0)).alloc (Obj.cells #[.int .i64 multi, .map (some w.heap.size), .map (some w2.heap.size)] 100)) := below_alloc (below_alloc (Below.refl _ _) _) _
  have b3 : Below (w2.alloc (Obj.map #[] 0)).heap.size (w2.alloc (Obj.map #[] 0)) ((w2.alloc (Obj.map #[] 0)).alloc (Obj.cells #[.int .i64 multi, .map (some w.heap.size), .map (some w2.heap.size)] 100)) := below_alloc (Below.refl _ _) _
  refine ⟨⟨?_, hm.kept (Kept.of_below b2 (fun _ => False)) (fun e => e), hF.lt (Nat.le_refl _), hF.lt (by omega), by omega⟩, (made_held w2 f).kept (Kept.of_below b3 (fun _ => False)) (fun e => e), hB.trans (b2.mono hB.size)⟩
  have := heap_alloc_new (w2.alloc (Obj.map #[] 0)) (Obj.cells #[.int .i64 multi, .map (some w.heap.size), .map (some w2.heap.size)] 100)
  simpa using this
theorem fork_way2 {w w2 : World} {f : Nat → Option PL} {N : Nat} {multi : Int} {now : PL} (hF : Fro w f N) (hB : Below w.heap.size w w2) (hB2 : Below (w.alloc (Obj.map #[] 0)).drew.heap.size (w.alloc (Obj.map #[] 0)).drew w2) (hm : MapN w2 (w.alloc (Obj.map #[] 0)).drew.heap.size N now) (hs : (w.alloc (Obj.map #[] 0)).drew.heap.size < w2.heap.size) :
    PB (w2.alloc (Obj.cells #[.int .i64 multi, .map (some (w.heap.size + 1)), .map (some w.heap.size)] 100)) f N w2.heap.size (w.heap.size + 1) w.heap.size multi now ∧
    HeldN (w2.alloc (Obj.cells #[.int .i64 multi, .map (some (w.heap.size + 1)), .map (some w.heap.size)] 100)) f w.heap.size 0 [] ∧
    Below w.heap.size w (w2.alloc (Obj.cells #[.int .i64 multi, .map (some (w.heap.size + 1)), .map (some w.heap.size)] 100)) := by
  have e1 : (w.alloc (Obj.map #[] 0)).drew.heap.size = w.heap.size + 1 := by simp
  rw [e1] at hm hs
  have b2 : Below w2.heap.size w2 (w2.alloc (Obj.cells #[.int .i64 multi, .map (some (w.heap.size + 1)), .map (some w.heap.size)] 100)) := below_alloc (Below.refl _ _) _
  refine ⟨⟨heap_alloc_new w2 _, hm.kept (Kept.of_below b2 (fun _ => False)) (fun e => e), hF.lt (by omega), hF.lt (Nat.le_refl _), by omega⟩, ((made_held w f).kept (W := w2) (Kept.of_below (w := (w.alloc (Obj.map #[] 0)).drew) hB2 (fun _ => False)) (fun e => e)).kept (Kept.of_below b2 (fun _ => False)) (fun e => e), hB.trans (b2.mono hB.size)⟩
set_option maxRecDepth 100000 in
set_option maxHeartbeats 8000000 in
theorem fork_c (f : Nat → Option PL) (N gp bn bh : Nat) (multi : Int) (now : PL) (held : List (Int × PL)) (w : World) (hM : PM w f N gp bn bh multi now held) (hF : Fro w f N) (hN : N ≤ 1099511627776) :
    Calls Try.prog 30 #[.pointer (some ⟨gp, 0, none⟩)] w fun e w' => ∃ gq bm bi, e = .returned (.pointer (some ⟨gq, 0, none⟩)) ∧
      ∃ f', Ext w.heap.size f f' ∧ PM w' f' N gq bm bi multi now held ∧ Fro w' f' N ∧ Below w.heap.size w w' ∧ w.heap.size ≤ gq ∧ w.heap.size ≤ bm ∧ w.heap.size ≤ bi := by
  have hmm := @run_makeMap Try.prog
  have hgl := hM.gl
  have hnl := hM.now.lt
  have hhl := hM.held.1.lt
  have c0 := hM.c0
  have c1 := hM.c1
  have c2 := hM.c2
  have HMM := Lib.hid hM
  have HFF := Lib.hid hF
  clear hM hF
  go_enter Try.func30, Try.ntmps30
  go_upto_region 3 with fail
  go_cut [3] (fun v3 w1 => ∃ gq bm bi, v3 = .pointer (some ⟨gq, 0, none⟩) ∧ Hid (PB w1 f N gq bm bi multi now ∧ HeldN w1 f bi 0 [] ∧ Below w.heap.size w w1) ∧ w.heap.size ≤ gq ∧ w.heap.size ≤ bm ∧ w.heap.size ≤ bi)
  case first =>
    go_region_held3 (fun w' => w'.cell? ⟨gp, 0, none⟩ = some (.int .i64 multi) ∧ w'.cell? ⟨gp, 1, none⟩ = some (.map (some bn)))
      (first
        | go_keep
        | (go_split_ands
           refine ⟨?_, ?_⟩ <;> assumption))
      ((go_at_call 79; refine (clone_c bn N now _ (MapN.below HMM.out.now (by first | exact below_drew (Below.refl _ _) | exact below_alloc (below_drew (Below.refl _ _)) _))).mono ?_; rintro e w2 ⟨rfl, hm2, hb2, hs2⟩
        have hB : Below w.heap.size w w2 := Below.trans (by first | exact below_drew (Below.refl _ _) | exact below_alloc (below_drew (Below.refl _ _)) _) (hb2.mono (by simp))
        have hc0 := (hB.cell (p := ⟨gp, 0, none⟩) hgl).trans c0
        have hc1 := (hB.cell (p := ⟨gp, 1, none⟩) hgl).trans c1
        have HB := Lib.hid hB
        have HB2 := Lib.hid hb2
        have HM2 := Lib.hid hm2
        have HS2 := Lib.hid hs2
        clear hB hb2 hm2 hs2))
    all_goals (go_wp2_with fail)
    all_goals go_meet
    case rel => exact ⟨_, _, _, rfl, Lib.hid (fork_way1 HFF.out HB.out HM2.out HS2.out), by have := HB.out.size; omega, Nat.le_refl _, HB.out.size⟩
    case rel => exact ⟨_, _, _, rfl, Lib.hid (fork_way2 HFF.out HB.out HB2.out HM2.out HS2.out), HB.out.size, Nat.le_succ _, Nat.le_refl _⟩
  case rest =>
    obtain ⟨gq, bm, bi, rfl, HP, hq1, hq2, hq3⟩ := hcut
    have cc2 := (HP.out.2.2.cell (p := ⟨gp, 2, none⟩) hgl).trans c2
    have hown := Lib.hid (HMM.out.held.kept (Kept.of_below HP.out.2.2 (fun _ => False)) (fun e => e))
    go_wp2_with (first
      | (at_range; refine wpList_range_own _ rfl _ 98 rfl 23 97 lawU Try.underlying98 (RH f) bh N (mp dmap held) rfl hown.out.1 ?_; intro w0 hrg0 hg0 hs0)
      | fail)
    go_frame
    have hk0 : Kept wc w0 (fun _ => False) := Kept.of_grown hg0 (Kept.refl _ _) (fun k e => by cases e)
    have R0 := Lib.hid (And.intro (HP.out.1.kept hk0 (fun e => e) (fun e => e)) (And.intro (HP.out.2.1.kept hk0 (fun e => e)) (And.intro (HFF.out.kept ((Kept.of_below HP.out.2.2 (fun _ => False)).then_ hk0 (fun _ e => e.elim)) (fun _ _ _ e => e)) (HP.out.2.2.grown hg0 HP.out.2.2.size (fun j hj => by cases hj)))))
    have HS0 := Lib.hid hs0
    have HN1 := Lib.hid HP.out.2.2.size
    clear hs0 hk0 hg0 cc2 HP hown
    go_loopw [5] (fun _ wr => ∃ (left : Lit → Bool) (cnt : Nat) (hs : List (Int × PL)) (f' : Nat → Option PL), wr.ranges Try.prog 23 (RH f) bh wc.heap.size N (mp dmap held) left cnt ∧ cnt ≤ held.length ∧ Hid (Agree (mp dmap hs) (mp dmap held) left ∧ PB wr f' N gq bm bi multi now ∧ HeldN wr f' bi (held.length - cnt) hs ∧ Fro wr f' N ∧ Ext w.heap.size f f' ∧ Below w.heap.size w wr ∧ wc.heap.size < wr.heap.size))
      (fun _ wr => wr.rangeLeft bh wc.heap.size)
    case atStart =>
      exact ⟨_, _, [], f, hrg0, Nat.le_of_eq (size_mp _), Lib.hid ⟨agree_start _, R0.out.1, R0.out.2.1.mono (Nat.zero_le _), R0.out.2.2.1, Ext.refl _ _, R0.out.2.2.2, by have := HS0.out; omega⟩⟩
    case round =>
      obtain ⟨left, cnt, hs, f', hrg, hcnt, HI⟩ := hrel
      go_wp2_with (first
        | (at_next; refine wpList_next_ranges _ rfl _ rfl 23 lawU (RH f) (Value.int .u64) id (fun key kl hk => by obtain ⟨x, hx, _⟩ := Maps.keyOf_int_inv Try.underlying23 hk; exact ⟨x, hx⟩) (fun v _ _ => ⟨v, rfl⟩) bh wc.heap.size N _ _ _ rfl hrg ?_ ?_)
        | fail)
      · intro hc0 hl0
        go_wp2
        go_ret
        subst hc0
        obtain ⟨hA, hP, hH, hFr, hE, hB, _⟩ := HI.out
        have e := mp_inj dmap_inj (agree_end hA hl0 (hH.1.canon lawU) (HMM.out.held.1.canon lawU))
        subst e
        exact ⟨gq, bm, bi, rfl, f', hE, ⟨hP.blk, hP.now, hH.mono (by have := HMM.out.held.len; omega), hP.fn, hP.fh, hP.ne⟩, hFr, hB, hq1, hq2, hq3⟩
      · intro x c kl yd yp w1 cnt1 hkey hlk hv hat hrg1 hlt hg1 hs1 hen
        obtain ⟨x', ex, rfl, hwx⟩ := Maps.keyOf_int_inv Try.underlying23 hkey
        cases ex
        obtain ⟨b, l, hfd, rfl, hfb⟩ := held_val (y := (yd, yp)) hv hat
        have hat' : ∀ zd, (mp dmap held).atKey (.int .u64 x) zd = dmap l := fun zd => by rw [atKey_mp, hfd]
        have hk1 : Kept wr w1 (fun k => k = wc.heap.size) := Kept.of_grown hg1 (Kept.refl _ _) (fun k e => .inl (by cases e; rfl))
        obtain ⟨hA, hP, hH, hFr, hE, hB, hws⟩ := HI.out
        have hkf : ∀ b' l', f' b' = some l' → ¬ b' = wc.heap.size := fun b' l' hb e => by
          subst e
          have h1 := (hFr _ _ hb).1
          obtain ⟨es, cl, h2, _⟩ := h1
          obtain ⟨es', cl', since, seen, c0', _, _, _, _, h3, _⟩ := hrg
          rw [h2] at h3; cases h3
        have hgq : gq ≠ wc.heap.size := fun e => by
          have h2 := hP.blk
          obtain ⟨es', cl', since, seen, c0', _, _, _, _, h3, _⟩ := hrg
          rw [← e, h2] at h3; cases h3
        have hbm : bm ≠ wc.heap.size := fun e => by
          obtain ⟨es, cl, h2, _⟩ := hP.now.1
          obtain ⟨es', cl', since, seen, c0', _, _, _, _, h3, _⟩ := hrg
          rw [← e, h2] at h3; cases h3
        have hbi : bi ≠ wc.heap.size := fun e => by
          obtain ⟨es, cl, h2, _⟩ := hH.1
          obtain ⟨es', cl', since, seen, c0', _, _, _, _, h3, _⟩ := hrg
          rw [← e, h2] at h3; cases h3
        have hgi := hP.ng hH
        have hP1 := hP.kept hk1 hgq hbm
        have hH1 := hH.kept hk1 hbi
        have hF1 := hFr.kept hk1 hkf
        have hB1 : Below w.heap.size w w1 := hB.grown hg1 hB.size (fun j hj => by cases hj; exact HN1.out)
        have hcq := hP1.c2
        have hml := Lib.hid (hF1 b l (hE.1 b l hfb))
        have hgl1 : gq < w1.heap.size := (Array.getElem?_eq_some_iff.1 hP1.blk).1
        have hml1 : bm < w1.heap.size := hP1.now.lt
        have hil1 : bi < w1.heap.size := hH1.1.lt
        have hbl1 : bh < w1.heap.size := hrg1.owns.lt
        have hrl1 : wc.heap.size < w1.heap.size := hrg1.lt
        have hbhi : bh ≠ bi := by omega
        have hwl1 := hB1.size
        have HP1 := Lib.hid hP1
        have HH1 := Lib.hid hH1
        have HF1 := Lib.hid hF1
        have HB1 := Lib.hid hB1
        have HA := Lib.hid hA
        have HE := Lib.hid hE
        have HR1 := Lib.hid hrg1
        have HG1 := Lib.hid hg1
        have HAT := Lib.hid hat'
        have HWX := Lib.hid hwx
        have HL := Lib.hid hlt
        have HRG := Lib.hid hrg
        clear hA hP hH hFr hE hB hws hkf hgq hbm hP1 hH1 hF1 hB1 hrg1 hg1 hat hat' hv hlk hk1 hwx hkey hfb hfd hrg hlt hs1
        go_wp2_with fail
        go_region_held3 (fun w' => w'.cell? ⟨gq, 2, none⟩ = some (.map (some bi)))
          (first
            | go_keep
            | assumption)
          ((go_at_call 79; refine (clone_c b N l w1.drew (hml.out.below (below_drew (Below.refl w1.heap.size w1)))).mono ?_; rintro e w2 ⟨rfl, hm2, hb2, hs2⟩
            have hbw : Below w1.heap.size w1 w2 := (below_drew (Below.refl w1.heap.size w1)).trans hb2
            have hm2' : MapN w2 w1.heap.size N l := hm2
            have hs2' : w1.heap.size < w2.heap.size := hs2
            have he2 := ext_updF (f := f') (B := w1.heap.size) (b := w1.heap.size) (l := l) (Nat.le_refl _) (HF1.out.lt (Nat.le_refl _))
            have hk02 : Kept w1 w2 (fun _ => False) := Kept.of_below hbw (fun _ => False)
            obtain ⟨w3, hrun3, ho3, hg3⟩ := held_put (f := updF f' w1.heap.size l) ((HH1.out.kept hk02 (fun e => e)).ext he2) HWX.out (bl := w1.heap.size) (l := l) (by simp [updF]) (by have := HMM.out.held.len; unfold maxLen; omega)
            have hk3 : Kept w1 w3 (fun k => k = bi) := Kept.of_grown hg3 (hk02.mono (fun _ e => e.elim)) (fun k e => .inl (by cases e; rfl))
            have hP3 : PB w3 (updF f' w1.heap.size l) N gq bm bi multi now := (HP1.out.kept hk3 hgi HP1.out.ne).ext he2 hml1 hil1
            have hmN : MapN w3 w1.heap.size N l := hm2'.kept (Kept.of_grown hg3 (Kept.refl _ (fun k => k = bi)) (fun k e => .inl (by cases e; rfl))) (by omega)
            have hF3 : Fro w3 (updF f' w1.heap.size l) N := (HF1.out.kept hk3 (fun b l hb e => by subst e; rw [HP1.out.fh] at hb; cases hb)).upd hmN
            have hB3 : Below w.heap.size w w3 := (HB1.out.trans (hbw.mono hwl1)).grown hg3 (Nat.le_trans hwl1 (Nat.le_of_lt hs2')) (fun j hj => by cases hj; exact hq3)
            have hR3 := HR1.out.kept ((grown_of_below (some bi) hbw).trans hg3) (fun e => hbhi (Option.some.inj e)) (fun e => hbi (Option.some.inj e).symm)
            have hcq2 := (HP1.out.kept hk02 (fun e => e) (fun e => e)).c2
            have hcq3 := hP3.c2
            have HP3 := Lib.hid hP3
            have HF3 := Lib.hid hF3
            have HB3 := Lib.hid hB3
            have HR3 := Lib.hid hR3
            have HO3 := Lib.hid ho3
            have HE3 := Lib.hid he2
            have HS3 := Lib.hid (Nat.lt_of_lt_of_le hs2' hg3.size)
            clear hbw hm2 hm2' hs2 hs2' he2 hk02 hk3 hP3 hmN hF3 hB3 hR3 ho3 hg3 hb2))
        go_wp2_with fail
        go_roundw
        case rel =>
          exact ⟨_, cnt1, put hs x l, updF f' w1.heap.size l, HR3.out, by have := HL.out; omega, Lib.hid ⟨by have := agree_step (kl := .int .u64 x) HA.out ⟨_, rfl⟩ trivial HAT.out; rw [put_mp _ _ _ HH1.out.2] at this; exact this, HP3.out, HO3.out.mono (by have := HL.out; omega), HF3.out, HE.out.trans HE3.out hwl1, HB3.out, by have := HS3.out; omega⟩⟩
        case measure => rw [HR3.out.left_eq, HRG.out.left_eq]; exact HL.out
end Go.Proofs.Ytngocadnbpdnoaa.Mo
namespace Go.Proofs.Ytngocadnbpdnoaa.Mo
open Go Go.Maps Go.RowKit Go.Proofs.Ytngocadnbpdnoaa.Srt Go.Proofs.Ytngocadnbpdnoaa.Q Go.Proofs.YtngocadnbpdnoaaW.PrintWords Go.Proofs.YtngocadnbpdnoaaW.PrintLast Go.Proofs.YtngocadnbpdnoaaW.PrintMore
set_option linter.unusedVariables false
set_option linter.unusedSimpArgs false
def eq64 : DataW Unit → DataW Unit → Bool
  | .lit (.int _ a), .lit (.int _ b) => a == b
  | _, _ => false
theorem eq64_lit (x y : Int) : eq64 (lit64 x) (lit64 y) = decide (x = y) := by
  simp only [eq64, lit64]
  by_cases h : x = y <;> simp [h]
theorem eqd_dmap {l l' : PL} (ha : Asc l) (hb : Asc l') : Lib.equalFuncD eq64 (dmap l) (dmap l') = decide (l = l') := equal_mp eq64_lit ha hb
abbrev RU : Value → Option (DataW Unit × List MemPlace) → Prop := fun v o => plainElem (H := Unit) Try.prog 23 v = o
theorem equal_c (p1 p2 : Option Nat) (D1 D2 : DataW Unit) (w : World) (h1 : SrcOf Try.prog 23 (plainElem (H := Unit) Try.prog 23) w p1 D1) (h2 : SrcOf Try.prog 23 (plainElem (H := Unit) Try.prog 23) w p2 D2) :
    Calls Try.prog 80 #[.map p1, .map p2] w fun e w' => e = .returned (.bool (Lib.equalFuncD eq64 D1 D2)) ∧ w.grownBy w' none :=
  AnyEq.maps_Equal_opt EqualA lawU _ _ eq64 p1 p2 D1 D2 w h1 h2 (.int .u64 0) zeroU (.lit (.int .u64 0)) [] (plainElem_int Try.underlying23 (by decide)) (fun W x y xd yd xp yp hx hy => by
    obtain ⟨a, rfl, hz, -⟩ := plainElem_int_inv Try.underlying23 hx
    obtain ⟨b, rfl, hz2, -⟩ := plainElem_int_inv Try.underlying23 hy
    obtain ⟨rfl, rfl⟩ := Prod.mk.inj hz
    obtain ⟨rfl, rfl⟩ := Prod.mk.inj hz2
    have h := NeqAt.int Try.prog 23 .u64
    exact ⟨h.1 a b W, fun o o' => h.2 .neq o o' a b W⟩)
theorem same1_c (p1 p2 : Option Nat) (D1 D2 : DataW Unit) (w : World) (h1 : SrcOf Try.prog 23 (plainElem (H := Unit) Try.prog 23) w p1 D1) (h2 : SrcOf Try.prog 23 (plainElem (H := Unit) Try.prog 23) w p2 D2) :
    Calls Try.prog 82 #[.map p1, .map p2] w fun e w' => e = .returned (.bool (Lib.equalFuncD eq64 D1 D2)) ∧ w.grownBy w' none := by
  have c := equal_c p1 p2 D1 D2 w h1 h2
  clear h1 h2
  obtain ⟨r, hr⟩ : ∃ r, r = Lib.equalFuncD eq64 D1 D2 := ⟨_, rfl⟩
  rw [← hr] at c ⊢
  clear hr
  go_enter Try.func82, Try.ntmps82
  go_wp2_with (go_at_call 80; refine c.mono ?_; rintro e w1 ⟨rfl, hg⟩)
  go_ret
  exact ⟨rfl, hg⟩
theorem RH_inv {f : Nat → Option PL} {v : Value} {z : DataW Unit × List MemPlace} (h : RH f v = some z) : (v = .map none ∧ z = (.nil, [])) ∨ ∃ b l, v = .map (some b) ∧ f b = some l ∧ z = (dmap l, []) := by
  unfold RH at h
  split at h
  · left; exact ⟨rfl, (Option.some.inj h).symm⟩
  · rename_i b
    cases hb : f b with
    | none => rw [hb] at h; cases h
    | some l => rw [hb] at h; exact .inr ⟨b, l, rfl, hb, (Option.some.inj h).symm⟩
  · cases h
theorem src_of {w W : World} {f : Nat → Option PL} {N : Nat} (hF : Fro w f N) (hg : w.grownBy W none) {v : Value} {z : DataW Unit × List MemPlace} (h : RH f v = some z) : ∃ p, v = .map p ∧ SrcOf Try.prog 23 (plainElem (H := Unit) Try.prog 23) W p z.1 := by
  rcases RH_inv h with ⟨rfl, rfl⟩ | ⟨b, l, rfl, hb, rfl⟩
  · exact ⟨none, rfl, .inl ⟨rfl, rfl⟩⟩
  · exact ⟨some b, rfl, .inr ⟨b, N, rfl, (hF b l hb).1.kept hg (by simp)⟩⟩
theorem HeldN.blk {w : World} {f : Nat → Option PL} {b n : Nat} {hs : List (Int × PL)} (h : HeldN w f b n hs) {q : Int × PL} (hq : q ∈ hs) : ∃ b, f b = some q.2 := by
  obtain ⟨v, hv, -⟩ := held_look h (k := q.1) (wf_keys h.1 hq)
  have hf := fnd_of_mem h.2 hq
  rcases hv with ⟨hn, -⟩ | ⟨b', l, hl, -, hfb⟩
  · rw [hf] at hn; cases hn
  · rw [hf] at hl; obtain rfl := Option.some.inj hl; exact ⟨b', hfb⟩
theorem equalF_c (f : Nat → Option PL) (N : Nat) (b1 b2 n1 n2 : Nat) (hs1 hs2 : List (Int × PL)) (w : World) (hF : Fro w f N) (h1 : HeldN w f b1 n1 hs1) (h2 : HeldN w f b2 n2 hs2) :
    Calls Try.prog 81 #[.map (some b1), .map (some b2), .func (.func 82) #[] #[]] w fun e w' => e = .returned (.bool (decide (hs1 = hs2))) ∧ w.grownBy w' none := by
  have c := AnyEq.maps_EqualFunc_opt EqualFA lawU (RH f) (RH f) (Lib.equalFuncD eq64) 82 #[] (some b1) (some b2) (mp dmap hs1) (mp dmap hs2) w (enters_of Try.func82 (by kernel_rfl) rfl) (.inr ⟨b1, n1, rfl, h1.1⟩) (.inr ⟨b2, n2, rfl, h2.1⟩) (.map none) zeroM .nil [] rfl (fun W x y xd yd xp yp hg hx hy => by
    obtain ⟨p1, rfl, s1⟩ := src_of hF hg hx
    obtain ⟨p2, rfl, s2⟩ := src_of hF hg hy
    exact same1_c p1 p2 xd yd W s1 s2)
  refine Calls.mono c ?_
  rintro e w' ⟨rfl, hg⟩
  refine ⟨?_, hg⟩
  have key : Lib.equalFuncD (Lib.equalFuncD eq64) (mp dmap hs1) (mp dmap hs2) = decide (hs1 = hs2) := by
    refine equal_mpP (fun x y hx hy => ?_) h1.2 h2.2
    obtain ⟨k, hx⟩ := hx
    obtain ⟨k', hy⟩ := hy
    obtain ⟨b, hb⟩ := h1.blk hx
    obtain ⟨b', hb'⟩ := h2.blk hy
    exact eqd_dmap (hF b _ hb).2 (hF b' _ hb').2
  rw [key]
end Go.Proofs.Ytngocadnbpdnoaa.Mo
namespace Go.Proofs.Ytngocadnbpdnoaa.Mo
open Go Go.Maps Go.RowKit Go.Proofs.Ytngocadnbpdnoaa.Srt Go.Proofs.Ytngocadnbpdnoaa.Q Go.Proofs.YtngocadnbpdnoaaW.PrintWords Go.Proofs.YtngocadnbpdnoaaW.PrintLast Go.Proofs.YtngocadnbpdnoaaW.PrintMore
set_option linter.unusedVariables false
set_option linter.unusedSimpArgs false
def samB (m m2 : Int) (now now2 : PL) (held held2 : List (Int × PL)) : Bool := decide (m = m2) && decide (now = now2) && decide (held = held2)
theorem grown_cell {w W : World} (h : w.grownBy W none) {a : Addr} {v : Value} (hc : w.cell? a = some v) : W.cell? a = some v := cell_grown h hc (by simp)
theorem below_of_grown {w W : World} (h : w.grownBy W none) : Below w.heap.size w W := (Below.refl _ w).grown h (Nat.le_refl _) (fun j hj => by cases hj)
set_option maxRecDepth 100000 in
set_option maxHeartbeats 8000000 in
theorem same_c (f : Nat → Option PL) (N gp bn bh gp2 bn2 bh2 : Nat) (m m2 : Int) (now now2 : PL) (held held2 : List (Int × PL)) (w : World) (hM : PM w f N gp bn bh m now held) (hM2 : PM w f N gp2 bn2 bh2 m2 now2 held2) (hF : Fro w f N) :
    Calls Try.prog 31 #[.pointer (some ⟨gp, 0, none⟩), .pointer (some ⟨gp2, 0, none⟩)] w fun e w' => e = .returned (.bool (samB m m2 now now2 held held2)) ∧ Below w.heap.size w w' := by
  have hgl := hM.gl
  have hgl2 := hM2.gl
  have c0 := hM.c0
  have c1 := hM.c1
  have c2 := hM.c2
  have k0 := hM2.c0
  have k1 := hM2.c1
  have k2 := hM2.c2
  have HM := Lib.hid hM
  have HM2 := Lib.hid hM2
  have HF := Lib.hid hF
  clear hM hM2 hF
  by_cases e0 : m = m2
  · subst e0
    have c80 := equal_c (some bn) (some bn2) (dmap now) (dmap now2) w.drew (.inr ⟨bn, N, rfl, HM.out.now.1.drew⟩) (.inr ⟨bn2, N, rfl, HM2.out.now.1.drew⟩)
    rw [eqd_dmap HM.out.now.2 HM2.out.now.2] at c80
    have HS : (fun w' => w'.cell? ⟨gp, 0, none⟩ = some (.int .i64 m) ∧ w'.cell? ⟨gp, 1, none⟩ = some (.map (some bn)) ∧ w'.cell? ⟨gp, 2, none⟩ = some (.map (some bh)) ∧ w'.cell? ⟨gp2, 0, none⟩ = some (.int .i64 m) ∧ w'.cell? ⟨gp2, 1, none⟩ = some (.map (some bn2)) ∧ w'.cell? ⟨gp2, 2, none⟩ = some (.map (some bh2))) w.drew := ⟨c0, c1, c2, k0, k1, k2⟩
    by_cases e1 : now = now2
    · have hS : samB m m now now2 held held2 = decide (held = held2) := by unfold samB; rw [decide_eq_true rfl, decide_eq_true e1]; rfl
      rw [hS]
      rw [decide_eq_true e1] at c80
      obtain ⟨r, hr⟩ : ∃ r, r = decide (held = held2) := ⟨_, rfl⟩
      have c81 : ∀ W, w.drew.grownBy W none → Calls Try.prog 81 #[.map (some bh), .map (some bh2), .func (.func 82) #[] #[]] W fun e w' => e = .returned (.bool r) ∧ W.grownBy w' none := fun W hg => by
        rw [hr]
        exact equalF_c f N bh bh2 N N held held2 W (fun b l hb => ⟨((HF.out b l hb).1.drew).kept hg (by simp), (HF.out b l hb).2⟩) ⟨HM.out.held.1.drew.kept hg (by simp), HM.out.held.2⟩ ⟨HM2.out.held.1.drew.kept hg (by simp), HM2.out.held.2⟩
      rw [← hr]
      have C81 := Lib.hid c81
      have C80 := Lib.hid c80
      clear hS hr c81 c80 e1 c0 c1 c2 k0 k1 k2
      go_enter Try.func31, Try.ntmps31
      go_wp2_with fail
      refine wp_region_held_drew (S := fun w' => w'.cell? ⟨gp, 0, none⟩ = some (.int .i64 m) ∧ w'.cell? ⟨gp, 1, none⟩ = some (.map (some bn)) ∧ w'.cell? ⟨gp, 2, none⟩ = some (.map (some bh)) ∧ w'.cell? ⟨gp2, 0, none⟩ = some (.int .i64 m) ∧ w'.cell? ⟨gp2, 1, none⟩ = some (.map (some bn2)) ∧ w'.cell? ⟨gp2, 2, none⟩ = some (.map (some bh2))) (by kernel_rfl) HS (fun _ => ?_)
      refine wpAnyH_take (i := 0) (oi := ?oi0) (v := ?v0) ?hi0 (by kernel_rfl) (by kernel_rfl) (by kernel_rfl) ?hq0 (Or.inl ⟨?hw0, ?hy0⟩) HS ?rest0
      case hi0 =>
        simp only [List.getElem?_toArray, List.getElem?_cons_succ, List.getElem?_cons_zero]
        exact rfl
      case hq0 => exact fun _ _ _ h => h
      case hw0 => rfl
      case hy0 =>
        intro w hSw
        obtain ⟨hw0_, hw1_, hw2_, hw3_, hw4_, hw5_⟩ := hSw
        go_simp
        try with_reducible rfl
      try simp only [Act.put, List.setIfInBounds_toArray, List.set_cons_zero, List.set_cons_succ]
      refine wpAnyH_take (i := 1) (oi := ?oi1) (v := ?v1) ?hi1 (by kernel_rfl) (by kernel_rfl) (by kernel_rfl) ?hq1 (Or.inl ⟨?hw1, ?hy1⟩) HS ?rest1
      case hi1 =>
        simp only [List.getElem?_toArray, List.getElem?_cons_succ, List.getElem?_cons_zero]
        exact rfl
      case hq1 => exact fun _ _ _ h => h
      case hw1 => rfl
      case hy1 =>
        intro w hSw
        obtain ⟨hw0_, hw1_, hw2_, hw3_, hw4_, hw5_⟩ := hSw
        go_simp
        try with_reducible rfl
      try simp only [Act.put, List.setIfInBounds_toArray, List.set_cons_zero, List.set_cons_succ]
      refine wpAnyH_take (i := 2) (oi := ?oi2) (v := ?v2) ?hi2 (by kernel_rfl) (by kernel_rfl) (by kernel_rfl) ?hq2 (Or.inl ⟨?hw2, ?hy2⟩) HS ?rest2
      case hi2 =>
        simp only [List.getElem?_toArray, List.getElem?_cons_succ, List.getElem?_cons_zero]
        exact rfl
      case hq2 => exact fun _ _ _ h => h
      case hw2 => rfl
      case hy2 =>
        intro w hSw
        obtain ⟨hw0_, hw1_, hw2_, hw3_, hw4_, hw5_⟩ := hSw
        go_simp
        try with_reducible rfl
      try simp only [Act.put, List.setIfInBounds_toArray, List.set_cons_zero, List.set_cons_succ]
      refine wpAnyH_take (i := 3) (oi := ?oi3) (v := ?v3) ?hi3 (by kernel_rfl) (by kernel_rfl) (by kernel_rfl) ?hq3 (Or.inl ⟨?hw3, ?hy3⟩) HS ?rest3
      case hi3 =>
        simp only [List.getElem?_toArray, List.getElem?_cons_succ, List.getElem?_cons_zero]
        exact rfl
      case hq3 => exact fun _ _ _ h => h
      case hw3 => rfl
      case hy3 =>
        intro w hSw
        obtain ⟨hw0_, hw1_, hw2_, hw3_, hw4_, hw5_⟩ := hSw
        go_simp
        try with_reducible rfl
      try simp only [Act.put, List.setIfInBounds_toArray, List.set_cons_zero, List.set_cons_succ]
      refine wpAnyH_take (i := 4) (oi := ?oi4) (v := ?v4) ?hi4 (by kernel_rfl) (by kernel_rfl) (by kernel_rfl) ?hq4 (Or.inl ⟨?hw4, ?hy4⟩) HS ?rest4
      case hi4 =>
        simp only [List.getElem?_toArray, List.getElem?_cons_succ, List.getElem?_cons_zero]
        exact rfl
      case hq4 => exact fun _ _ _ h => h
      case hw4 => rfl
      case hy4 =>
        intro w hSw
        obtain ⟨hw0_, hw1_, hw2_, hw3_, hw4_, hw5_⟩ := hSw
        go_simp
        try with_reducible rfl
      try simp only [Act.put, List.setIfInBounds_toArray, List.set_cons_zero, List.set_cons_succ]
      refine wpAnyH_take (i := 5) (oi := ?oi5) (v := ?v5) ?hi5 (by kernel_rfl) (by kernel_rfl) (by kernel_rfl) ?hq5 (Or.inl ⟨?hw5, ?hy5⟩) HS ?rest5
      case hi5 =>
        simp only [List.getElem?_toArray, List.getElem?_cons_succ, List.getElem?_cons_zero]
        exact rfl
      case hq5 => exact fun _ _ _ h => h
      case hw5 => rfl
      case hy5 =>
        intro w hSw
        obtain ⟨hw0_, hw1_, hw2_, hw3_, hw4_, hw5_⟩ := hSw
        go_simp
        try with_reducible rfl
      try simp only [Act.put, List.setIfInBounds_toArray, List.set_cons_zero, List.set_cons_succ]
      refine wpAnyH_take (i := 6) (oi := ?oi6) (v := ?v6) ?hi6 (by kernel_rfl) (by kernel_rfl) (by kernel_rfl) ?hq6 (Or.inl ⟨?hw6, ?hy6⟩) HS ?rest6
      case hi6 =>
        simp only [List.getElem?_toArray, List.getElem?_cons_succ, List.getElem?_cons_zero]
        exact rfl
      case hq6 => exact fun _ _ _ h => h
      case hw6 => rfl
      case hy6 =>
        intro w hSw
        obtain ⟨hw0_, hw1_, hw2_, hw3_, hw4_, hw5_⟩ := hSw
        go_simp
        try with_reducible rfl
      try simp only [Act.put, List.setIfInBounds_toArray, List.set_cons_zero, List.set_cons_succ]
      refine wpAnyH_take (i := 7) (oi := ?oi7) (v := ?v7) ?hi7 (by kernel_rfl) (by kernel_rfl) (by kernel_rfl) ?hq7 (Or.inl ⟨?hw7, ?hy7⟩) HS ?rest7
      case hi7 =>
        simp only [List.getElem?_toArray, List.getElem?_cons_succ, List.getElem?_cons_zero]
        exact rfl
      case hq7 => exact fun _ _ _ h => h
      case hw7 => rfl
      case hy7 =>
        intro w hSw
        obtain ⟨hw0_, hw1_, hw2_, hw3_, hw4_, hw5_⟩ := hSw
        go_simp
        try with_reducible rfl
      try simp only [Act.put, List.setIfInBounds_toArray, List.set_cons_zero, List.set_cons_succ]
      refine wpAnyH_take (i := 8) (oi := ?oi8) (v := ?v8) ?hi8 (by kernel_rfl) (by kernel_rfl) (by kernel_rfl) ?hq8 (Or.inl ⟨?hw8, ?hy8⟩) HS ?rest8
      case hi8 =>
        simp only [List.getElem?_toArray, List.getElem?_cons_succ, List.getElem?_cons_zero]
        exact rfl
      case hq8 => exact fun _ _ _ h => h
      case hw8 => rfl
      case hy8 =>
        intro w hSw
        obtain ⟨hw0_, hw1_, hw2_, hw3_, hw4_, hw5_⟩ := hSw
        go_simp
        try with_reducible rfl
      try simp only [Act.put, List.setIfInBounds_toArray, List.set_cons_zero, List.set_cons_succ]
      refine wpAnyH_take (i := 9) (oi := ?oi9) (v := ?v9) ?hi9 (by kernel_rfl) (by kernel_rfl) (by kernel_rfl) ?hq9 (Or.inl ⟨?hw9, ?hy9⟩) HS ?rest9
      case hi9 =>
        simp only [List.getElem?_toArray, List.getElem?_cons_succ, List.getElem?_cons_zero]
        exact rfl
      case hq9 => exact fun _ _ _ h => h
      case hw9 => rfl
      case hy9 =>
        intro w hSw
        obtain ⟨hw0_, hw1_, hw2_, hw3_, hw4_, hw5_⟩ := hSw
        go_simp
        try with_reducible rfl
      try simp only [Act.put, List.setIfInBounds_toArray, List.set_cons_zero, List.set_cons_succ]
      refine wpAnyH_take (i := 10) (oi := ?oi10) (v := ?v10) ?hi10 (by kernel_rfl) (by kernel_rfl) (by kernel_rfl) ?hq10 (Or.inl ⟨?hw10, ?hy10⟩) HS ?rest10
      case hi10 =>
        simp only [List.getElem?_toArray, List.getElem?_cons_succ, List.getElem?_cons_zero]
        exact rfl
      case hq10 => exact fun _ _ _ h => h
      case hw10 => rfl
      case hy10 =>
        intro w hSw
        obtain ⟨hw0_, hw1_, hw2_, hw3_, hw4_, hw5_⟩ := hSw
        go_simp
        try with_reducible rfl
      try simp only [Act.put, List.setIfInBounds_toArray, List.set_cons_zero, List.set_cons_succ]
      refine wpAnyH_take (i := 11) (oi := ?oi11) (v := ?v11) ?hi11 (by kernel_rfl) (by kernel_rfl) (by kernel_rfl) ?hq11 (Or.inl ⟨?hw11, ?hy11⟩) HS ?rest11
      case hi11 =>
        simp only [List.getElem?_toArray, List.getElem?_cons_succ, List.getElem?_cons_zero]
        exact rfl
      case hq11 => exact fun _ _ _ h => h
      case hw11 => rfl
      case hy11 =>
        intro w hSw
        obtain ⟨hw0_, hw1_, hw2_, hw3_, hw4_, hw5_⟩ := hSw
        go_simp
        try with_reducible rfl
      try simp only [Act.put, List.setIfInBounds_toArray, List.set_cons_zero, List.set_cons_succ]
      refine wpAnyH_take (i := 12) (oi := ?oi12) (v := ?v12) ?hi12 (by kernel_rfl) (by kernel_rfl) (by kernel_rfl) ?hq12 (Or.inl ⟨?hw12, ?hy12⟩) HS ?rest12
      case hi12 =>
        simp only [List.getElem?_toArray, List.getElem?_cons_succ, List.getElem?_cons_zero]
        exact rfl
      case hq12 => exact fun _ _ _ h => h
      case hw12 => rfl
      case hy12 =>
        intro w hSw
        obtain ⟨hw0_, hw1_, hw2_, hw3_, hw4_, hw5_⟩ := hSw
        go_simp
        try with_reducible rfl
      try simp only [Act.put, List.setIfInBounds_toArray, List.set_cons_zero, List.set_cons_succ]
      refine wpAnyH_take (i := 13) (oi := ?oi13) (v := ?v13) ?hi13 (by kernel_rfl) (by kernel_rfl) (by kernel_rfl) ?hq13 (Or.inl ⟨?hw13, ?hy13⟩) HS ?rest13
      case hi13 =>
        simp only [List.getElem?_toArray, List.getElem?_cons_succ, List.getElem?_cons_zero]
        exact rfl
      case hq13 => exact fun _ _ _ h => h
      case hw13 => rfl
      case hy13 =>
        intro w hSw
        obtain ⟨hw0_, hw1_, hw2_, hw3_, hw4_, hw5_⟩ := hSw
        go_simp
        try with_reducible rfl
      try simp only [Act.put, List.setIfInBounds_toArray, List.set_cons_zero, List.set_cons_succ]
      refine wpAnyH_take (i := 14) (oi := ?oi14) (v := ?v14) ?hi14 (by kernel_rfl) (by kernel_rfl) (by kernel_rfl) ?hq14 (Or.inl ⟨?hw14, ?hy14⟩) HS ?rest14
      case hi14 =>
        simp only [List.getElem?_toArray, List.getElem?_cons_succ, List.getElem?_cons_zero]
        exact rfl
      case hq14 => exact fun _ _ _ h => h
      case hw14 => rfl
      case hy14 =>
        intro w hSw
        obtain ⟨hw0_, hw1_, hw2_, hw3_, hw4_, hw5_⟩ := hSw
        go_simp
        try with_reducible rfl
      try simp only [Act.put, List.setIfInBounds_toArray, List.set_cons_zero, List.set_cons_succ]
      refine wpAnyH_take (i := 15) (oi := ?oi15) (v := ?v15) ?hi15 (by kernel_rfl) (by kernel_rfl) (by kernel_rfl) ?hq15 (Or.inl ⟨?hw15, ?hy15⟩) HS ?rest15
      case hi15 =>
        simp only [List.getElem?_toArray, List.getElem?_cons_succ, List.getElem?_cons_zero]
        exact rfl
      case hq15 => exact fun _ _ _ h => h
      case hw15 => rfl
      case hy15 =>
        intro w hSw
        obtain ⟨hw0_, hw1_, hw2_, hw3_, hw4_, hw5_⟩ := hSw
        go_simp
        try with_reducible rfl
      try simp only [Act.put, List.setIfInBounds_toArray, List.set_cons_zero, List.set_cons_succ]
      refine wpAnyH_take (i := 16) (oi := ?oi16) (v := ?v16) ?hi16 (by kernel_rfl) (by kernel_rfl) (by kernel_rfl) ?hq16 (Or.inl ⟨?hw16, ?hy16⟩) HS ?rest16
      case hi16 =>
        simp only [List.getElem?_toArray, List.getElem?_cons_succ, List.getElem?_cons_zero]
        exact rfl
      case hq16 => exact fun _ _ _ h => h
      case hw16 => rfl
      case hy16 =>
        intro w hSw
        obtain ⟨hw0_, hw1_, hw2_, hw3_, hw4_, hw5_⟩ := hSw
        go_simp
        try with_reducible rfl
      try simp only [Act.put, List.setIfInBounds_toArray, List.set_cons_zero, List.set_cons_succ]
      refine wpAnyH_take (i := 17) (oi := ?oi17) (v := ?v17) ?hi17 (by kernel_rfl) (by kernel_rfl) (by kernel_rfl) ?hq17 (Or.inl ⟨?hw17, ?hy17⟩) HS ?rest17
      case hi17 =>
        simp only [List.getElem?_toArray, List.getElem?_cons_succ, List.getElem?_cons_zero]
        exact rfl
      case hq17 => exact fun _ _ _ h => h
      case hw17 => rfl
      case hy17 =>
        intro w hSw
        obtain ⟨hw0_, hw1_, hw2_, hw3_, hw4_, hw5_⟩ := hSw
        go_simp
        try with_reducible rfl
      try simp only [Act.put, List.setIfInBounds_toArray, List.set_cons_zero, List.set_cons_succ]
      refine wpAnyH_ready (rs := [18]) (by kernel_rfl) (by simp) ?_
      refine AllReadyH.cons (o := ?oi18) ?hi18 (fun K hK => ?rest18) AllReadyH.nil
      case hi18 =>
        simp only [List.getElem?_toArray, List.getElem?_cons_succ, List.getElem?_cons_zero]
        exact rfl
      go_simp
      go_at_call 80
      refine (C80.out).mono ?_
      rintro e w2 ⟨rfl, hg2⟩
      have HS2 : (fun w' => w'.cell? ⟨gp, 0, none⟩ = some (.int .i64 m) ∧ w'.cell? ⟨gp, 1, none⟩ = some (.map (some bn)) ∧ w'.cell? ⟨gp, 2, none⟩ = some (.map (some bh)) ∧ w'.cell? ⟨gp2, 0, none⟩ = some (.int .i64 m) ∧ w'.cell? ⟨gp2, 1, none⟩ = some (.map (some bn2)) ∧ w'.cell? ⟨gp2, 2, none⟩ = some (.map (some bh2))) w2 := ⟨grown_cell hg2 HS.1, grown_cell hg2 HS.2.1, grown_cell hg2 HS.2.2.1, grown_cell hg2 HS.2.2.2.1, grown_cell hg2 HS.2.2.2.2.1, grown_cell hg2 HS.2.2.2.2.2⟩
      clear HS
      have HS := HS2
      clear HS2
      have HG2 := Lib.hid hg2
      clear hg2
      refine hK.out _ _ HS (fun _ => ?_)
      clear hK K
      try simp only [Act.put, List.setIfInBounds_toArray, List.set_cons_zero, List.set_cons_succ]
      refine wpAnyH_take (i := 19) (oi := ?oi19) (v := ?v19) ?hi19 (by kernel_rfl) (by kernel_rfl) (by kernel_rfl) ?hq19 (Or.inl ⟨?hw19, ?hy19⟩) HS ?rest19
      case hi19 =>
        simp only [List.getElem?_toArray, List.getElem?_cons_succ, List.getElem?_cons_zero]
        exact rfl
      case hq19 => exact fun _ _ _ h => h
      case hw19 => rfl
      case hy19 =>
        intro w hSw
        obtain ⟨hw0_, hw1_, hw2_, hw3_, hw4_, hw5_⟩ := hSw
        go_simp
        try with_reducible rfl
      try simp only [Act.put, List.setIfInBounds_toArray, List.set_cons_zero, List.set_cons_succ]
      refine wpAnyH_take (i := 20) (oi := ?oi20) (v := ?v20) ?hi20 (by kernel_rfl) (by kernel_rfl) (by kernel_rfl) ?hq20 (Or.inl ⟨?hw20, ?hy20⟩) HS ?rest20
      case hi20 =>
        simp only [List.getElem?_toArray, List.getElem?_cons_succ, List.getElem?_cons_zero]
        exact rfl
      case hq20 => exact fun _ _ _ h => h
      case hw20 => rfl
      case hy20 =>
        intro w hSw
        obtain ⟨hw0_, hw1_, hw2_, hw3_, hw4_, hw5_⟩ := hSw
        go_simp
        try with_reducible rfl
      try simp only [Act.put, List.setIfInBounds_toArray, List.set_cons_zero, List.set_cons_succ]
      refine wpAnyH_take (i := 21) (oi := ?oi21) (v := ?v21) ?hi21 (by kernel_rfl) (by kernel_rfl) (by kernel_rfl) ?hq21 (Or.inl ⟨?hw21, ?hy21⟩) HS ?rest21
      case hi21 =>
        simp only [List.getElem?_toArray, List.getElem?_cons_succ, List.getElem?_cons_zero]
        exact rfl
      case hq21 => exact fun _ _ _ h => h
      case hw21 => rfl
      case hy21 =>
        intro w hSw
        obtain ⟨hw0_, hw1_, hw2_, hw3_, hw4_, hw5_⟩ := hSw
        go_simp
        try with_reducible rfl
      try simp only [Act.put, List.setIfInBounds_toArray, List.set_cons_zero, List.set_cons_succ]
      refine wpAnyH_take (i := 22) (oi := ?oi22) (v := ?v22) ?hi22 (by kernel_rfl) (by kernel_rfl) (by kernel_rfl) ?hq22 (Or.inl ⟨?hw22, ?hy22⟩) HS ?rest22
      case hi22 =>
        simp only [List.getElem?_toArray, List.getElem?_cons_succ, List.getElem?_cons_zero]
        exact rfl
      case hq22 => exact fun _ _ _ h => h
      case hw22 => rfl
      case hy22 =>
        intro w hSw
        obtain ⟨hw0_, hw1_, hw2_, hw3_, hw4_, hw5_⟩ := hSw
        go_simp
        try with_reducible rfl
      try simp only [Act.put, List.setIfInBounds_toArray, List.set_cons_zero, List.set_cons_succ]
      refine wpAnyH_take (i := 23) (oi := ?oi23) (v := ?v23) ?hi23 (by kernel_rfl) (by kernel_rfl) (by kernel_rfl) ?hq23 (Or.inl ⟨?hw23, ?hy23⟩) HS ?rest23
      case hi23 =>
        simp only [List.getElem?_toArray, List.getElem?_cons_succ, List.getElem?_cons_zero]
        exact rfl
      case hq23 => exact fun _ _ _ h => h
      case hw23 => rfl
      case hy23 =>
        intro w hSw
        obtain ⟨hw0_, hw1_, hw2_, hw3_, hw4_, hw5_⟩ := hSw
        go_simp
        try with_reducible rfl
      try simp only [Act.put, List.setIfInBounds_toArray, List.set_cons_zero, List.set_cons_succ]
      refine wpAnyH_take (i := 24) (oi := ?oi24) (v := ?v24) ?hi24 (by kernel_rfl) (by kernel_rfl) (by kernel_rfl) ?hq24 (Or.inl ⟨?hw24, ?hy24⟩) HS ?rest24
      case hi24 =>
        simp only [List.getElem?_toArray, List.getElem?_cons_succ, List.getElem?_cons_zero]
        exact rfl
      case hq24 => exact fun _ _ _ h => h
      case hw24 => rfl
      case hy24 =>
        intro w hSw
        obtain ⟨hw0_, hw1_, hw2_, hw3_, hw4_, hw5_⟩ := hSw
        go_simp
        try with_reducible rfl
      try simp only [Act.put, List.setIfInBounds_toArray, List.set_cons_zero, List.set_cons_succ]
      refine wpAnyH_take (i := 25) (oi := ?oi25) (v := ?v25) ?hi25 (by kernel_rfl) (by kernel_rfl) (by kernel_rfl) ?hq25 (Or.inl ⟨?hw25, ?hy25⟩) HS ?rest25
      case hi25 =>
        simp only [List.getElem?_toArray, List.getElem?_cons_succ, List.getElem?_cons_zero]
        exact rfl
      case hq25 => exact fun _ _ _ h => h
      case hw25 => rfl
      case hy25 =>
        intro w hSw
        obtain ⟨hw0_, hw1_, hw2_, hw3_, hw4_, hw5_⟩ := hSw
        go_simp
        try with_reducible rfl
      try simp only [Act.put, List.setIfInBounds_toArray, List.set_cons_zero, List.set_cons_succ]
      refine wpAnyH_take (i := 26) (oi := ?oi26) (v := ?v26) ?hi26 (by kernel_rfl) (by kernel_rfl) (by kernel_rfl) ?hq26 (Or.inl ⟨?hw26, ?hy26⟩) HS ?rest26
      case hi26 =>
        simp only [List.getElem?_toArray, List.getElem?_cons_succ, List.getElem?_cons_zero]
        exact rfl
      case hq26 => exact fun _ _ _ h => h
      case hw26 => rfl
      case hy26 =>
        intro w hSw
        obtain ⟨hw0_, hw1_, hw2_, hw3_, hw4_, hw5_⟩ := hSw
        go_simp
        try with_reducible rfl
      try simp only [Act.put, List.setIfInBounds_toArray, List.set_cons_zero, List.set_cons_succ]
      refine wpAnyH_take (i := 27) (oi := ?oi27) (v := ?v27) ?hi27 (by kernel_rfl) (by kernel_rfl) (by kernel_rfl) ?hq27 (Or.inl ⟨?hw27, ?hy27⟩) HS ?rest27
      case hi27 =>
        simp only [List.getElem?_toArray, List.getElem?_cons_succ, List.getElem?_cons_zero]
        exact rfl
      case hq27 => exact fun _ _ _ h => h
      case hw27 => rfl
      case hy27 =>
        intro w hSw
        obtain ⟨hw0_, hw1_, hw2_, hw3_, hw4_, hw5_⟩ := hSw
        go_simp
        try with_reducible rfl
      try simp only [Act.put, List.setIfInBounds_toArray, List.set_cons_zero, List.set_cons_succ]
      refine wpAnyH_take (i := 28) (oi := ?oi28) (v := ?v28) ?hi28 (by kernel_rfl) (by kernel_rfl) (by kernel_rfl) ?hq28 (Or.inl ⟨?hw28, ?hy28⟩) HS ?rest28
      case hi28 =>
        simp only [List.getElem?_toArray, List.getElem?_cons_succ, List.getElem?_cons_zero]
        exact rfl
      case hq28 => exact fun _ _ _ h => h
      case hw28 => rfl
      case hy28 =>
        intro w hSw
        obtain ⟨hw0_, hw1_, hw2_, hw3_, hw4_, hw5_⟩ := hSw
        go_simp
        try with_reducible rfl
      try simp only [Act.put, List.setIfInBounds_toArray, List.set_cons_zero, List.set_cons_succ]
      refine wpAnyH_ready (rs := [29]) (by kernel_rfl) (by simp) ?_
      refine AllReadyH.cons (o := ?oi29) ?hi29 (fun K hK => ?rest29) AllReadyH.nil
      case hi29 =>
        simp only [List.getElem?_toArray, List.getElem?_cons_succ, List.getElem?_cons_zero]
        exact rfl
      go_simp
      go_at_call 81
      refine (C81.out _ HG2.out).mono ?_
      rintro e w3 ⟨rfl, hg3⟩
      have HS2 : (fun w' => w'.cell? ⟨gp, 0, none⟩ = some (.int .i64 m) ∧ w'.cell? ⟨gp, 1, none⟩ = some (.map (some bn)) ∧ w'.cell? ⟨gp, 2, none⟩ = some (.map (some bh)) ∧ w'.cell? ⟨gp2, 0, none⟩ = some (.int .i64 m) ∧ w'.cell? ⟨gp2, 1, none⟩ = some (.map (some bn2)) ∧ w'.cell? ⟨gp2, 2, none⟩ = some (.map (some bh2))) w3 := ⟨grown_cell hg3 HS.1, grown_cell hg3 HS.2.1, grown_cell hg3 HS.2.2.1, grown_cell hg3 HS.2.2.2.1, grown_cell hg3 HS.2.2.2.2.1, grown_cell hg3 HS.2.2.2.2.2⟩
      clear HS
      have HS := HS2
      clear HS2
      have HG3 := Lib.hid hg3
      clear hg3
      refine hK.out _ _ HS (fun _ => ?_)
      clear hK K
      try simp only [Act.put, List.setIfInBounds_toArray, List.set_cons_zero, List.set_cons_succ]
      refine wpAnyH_take (i := 30) (oi := ?oi30) (v := ?v30) ?hi30 (by kernel_rfl) (by kernel_rfl) (by kernel_rfl) ?hq30 (Or.inl ⟨?hw30, ?hy30⟩) HS ?rest30
      case hi30 =>
        simp only [List.getElem?_toArray, List.getElem?_cons_succ, List.getElem?_cons_zero]
        exact rfl
      case hq30 => exact fun _ _ _ h => h
      case hw30 => rfl
      case hy30 =>
        intro w hSw
        obtain ⟨hw0_, hw1_, hw2_, hw3_, hw4_, hw5_⟩ := hSw
        go_simp
        try with_reducible rfl
      try simp only [Act.put, List.setIfInBounds_toArray, List.set_cons_zero, List.set_cons_succ]
      refine wpAnyH_take (i := 31) (oi := ?oi31) (v := ?v31) ?hi31 (by kernel_rfl) (by kernel_rfl) (by kernel_rfl) ?hq31 (Or.inl ⟨?hw31, ?hy31⟩) HS ?rest31
      case hi31 =>
        simp only [List.getElem?_toArray, List.getElem?_cons_succ, List.getElem?_cons_zero]
        exact rfl
      case hq31 => exact fun _ _ _ h => h
      case hw31 => rfl
      case hy31 =>
        intro w hSw
        obtain ⟨hw0_, hw1_, hw2_, hw3_, hw4_, hw5_⟩ := hSw
        go_simp
        try with_reducible rfl
      try simp only [Act.put, List.setIfInBounds_toArray, List.set_cons_zero, List.set_cons_succ]
      refine wpAnyH_done (by kernel_rfl) ?_ _
      go_wp2_with fail
      go_ret
      exact ⟨rfl, (below_drew (Below.refl w.heap.size w)).trans (below_of_grown (HG2.out.trans HG3.out))⟩
    · have hS : samB m m now now2 held held2 = false := by unfold samB; rw [decide_eq_true rfl, decide_eq_false e1]; rfl
      rw [hS]
      rw [decide_eq_false e1] at c80
      have C80 := Lib.hid c80
      clear hS c80 e1 c0 c1 c2 k0 k1 k2
      go_enter Try.func31, Try.ntmps31
      go_wp2_with fail
      refine wp_region_held_drew (S := fun w' => w'.cell? ⟨gp, 0, none⟩ = some (.int .i64 m) ∧ w'.cell? ⟨gp, 1, none⟩ = some (.map (some bn)) ∧ w'.cell? ⟨gp, 2, none⟩ = some (.map (some bh)) ∧ w'.cell? ⟨gp2, 0, none⟩ = some (.int .i64 m) ∧ w'.cell? ⟨gp2, 1, none⟩ = some (.map (some bn2)) ∧ w'.cell? ⟨gp2, 2, none⟩ = some (.map (some bh2))) (by kernel_rfl) HS (fun _ => ?_)
      refine wpAnyH_take (i := 0) (oi := ?oiz0) (v := ?vz0) ?hiz0 (by kernel_rfl) (by kernel_rfl) (by kernel_rfl) ?hqz0 (Or.inl ⟨?hwz0, ?hyz0⟩) HS ?restz0
      case hiz0 =>
        simp only [List.getElem?_toArray, List.getElem?_cons_succ, List.getElem?_cons_zero]
        exact rfl
      case hqz0 => exact fun _ _ _ h => h
      case hwz0 => rfl
      case hyz0 =>
        intro w hSw
        obtain ⟨hw0_, hw1_, hw2_, hw3_, hw4_, hw5_⟩ := hSw
        go_simp
        try with_reducible rfl
      try simp only [Act.put, List.setIfInBounds_toArray, List.set_cons_zero, List.set_cons_succ]
      refine wpAnyH_take (i := 1) (oi := ?oiz1) (v := ?vz1) ?hiz1 (by kernel_rfl) (by kernel_rfl) (by kernel_rfl) ?hqz1 (Or.inl ⟨?hwz1, ?hyz1⟩) HS ?restz1
      case hiz1 =>
        simp only [List.getElem?_toArray, List.getElem?_cons_succ, List.getElem?_cons_zero]
        exact rfl
      case hqz1 => exact fun _ _ _ h => h
      case hwz1 => rfl
      case hyz1 =>
        intro w hSw
        obtain ⟨hw0_, hw1_, hw2_, hw3_, hw4_, hw5_⟩ := hSw
        go_simp
        try with_reducible rfl
      try simp only [Act.put, List.setIfInBounds_toArray, List.set_cons_zero, List.set_cons_succ]
      refine wpAnyH_take (i := 2) (oi := ?oiz2) (v := ?vz2) ?hiz2 (by kernel_rfl) (by kernel_rfl) (by kernel_rfl) ?hqz2 (Or.inl ⟨?hwz2, ?hyz2⟩) HS ?restz2
      case hiz2 =>
        simp only [List.getElem?_toArray, List.getElem?_cons_succ, List.getElem?_cons_zero]
        exact rfl
      case hqz2 => exact fun _ _ _ h => h
      case hwz2 => rfl
      case hyz2 =>
        intro w hSw
        obtain ⟨hw0_, hw1_, hw2_, hw3_, hw4_, hw5_⟩ := hSw
        go_simp
        try with_reducible rfl
      try simp only [Act.put, List.setIfInBounds_toArray, List.set_cons_zero, List.set_cons_succ]
      refine wpAnyH_take (i := 3) (oi := ?oiz3) (v := ?vz3) ?hiz3 (by kernel_rfl) (by kernel_rfl) (by kernel_rfl) ?hqz3 (Or.inl ⟨?hwz3, ?hyz3⟩) HS ?restz3
      case hiz3 =>
        simp only [List.getElem?_toArray, List.getElem?_cons_succ, List.getElem?_cons_zero]
        exact rfl
      case hqz3 => exact fun _ _ _ h => h
      case hwz3 => rfl
      case hyz3 =>
        intro w hSw
        obtain ⟨hw0_, hw1_, hw2_, hw3_, hw4_, hw5_⟩ := hSw
        go_simp
        try with_reducible rfl
      try simp only [Act.put, List.setIfInBounds_toArray, List.set_cons_zero, List.set_cons_succ]
      refine wpAnyH_take (i := 4) (oi := ?oiz4) (v := ?vz4) ?hiz4 (by kernel_rfl) (by kernel_rfl) (by kernel_rfl) ?hqz4 (Or.inl ⟨?hwz4, ?hyz4⟩) HS ?restz4
      case hiz4 =>
        simp only [List.getElem?_toArray, List.getElem?_cons_succ, List.getElem?_cons_zero]
        exact rfl
      case hqz4 => exact fun _ _ _ h => h
      case hwz4 => rfl
      case hyz4 =>
        intro w hSw
        obtain ⟨hw0_, hw1_, hw2_, hw3_, hw4_, hw5_⟩ := hSw
        go_simp
        try with_reducible rfl
      try simp only [Act.put, List.setIfInBounds_toArray, List.set_cons_zero, List.set_cons_succ]
      refine wpAnyH_take (i := 5) (oi := ?oiz5) (v := ?vz5) ?hiz5 (by kernel_rfl) (by kernel_rfl) (by kernel_rfl) ?hqz5 (Or.inl ⟨?hwz5, ?hyz5⟩) HS ?restz5
      case hiz5 =>
        simp only [List.getElem?_toArray, List.getElem?_cons_succ, List.getElem?_cons_zero]
        exact rfl
      case hqz5 => exact fun _ _ _ h => h
      case hwz5 => rfl
      case hyz5 =>
        intro w hSw
        obtain ⟨hw0_, hw1_, hw2_, hw3_, hw4_, hw5_⟩ := hSw
        go_simp
        try with_reducible rfl
      try simp only [Act.put, List.setIfInBounds_toArray, List.set_cons_zero, List.set_cons_succ]
      refine wpAnyH_take (i := 6) (oi := ?oiz6) (v := ?vz6) ?hiz6 (by kernel_rfl) (by kernel_rfl) (by kernel_rfl) ?hqz6 (Or.inl ⟨?hwz6, ?hyz6⟩) HS ?restz6
      case hiz6 =>
        simp only [List.getElem?_toArray, List.getElem?_cons_succ, List.getElem?_cons_zero]
        exact rfl
      case hqz6 => exact fun _ _ _ h => h
      case hwz6 => rfl
      case hyz6 =>
        intro w hSw
        obtain ⟨hw0_, hw1_, hw2_, hw3_, hw4_, hw5_⟩ := hSw
        go_simp
        try with_reducible rfl
      try simp only [Act.put, List.setIfInBounds_toArray, List.set_cons_zero, List.set_cons_succ]
      refine wpAnyH_take (i := 7) (oi := ?oiz7) (v := ?vz7) ?hiz7 (by kernel_rfl) (by kernel_rfl) (by kernel_rfl) ?hqz7 (Or.inl ⟨?hwz7, ?hyz7⟩) HS ?restz7
      case hiz7 =>
        simp only [List.getElem?_toArray, List.getElem?_cons_succ, List.getElem?_cons_zero]
        exact rfl
      case hqz7 => exact fun _ _ _ h => h
      case hwz7 => rfl
      case hyz7 =>
        intro w hSw
        obtain ⟨hw0_, hw1_, hw2_, hw3_, hw4_, hw5_⟩ := hSw
        go_simp
        try with_reducible rfl
      try simp only [Act.put, List.setIfInBounds_toArray, List.set_cons_zero, List.set_cons_succ]
      refine wpAnyH_take (i := 8) (oi := ?oiz8) (v := ?vz8) ?hiz8 (by kernel_rfl) (by kernel_rfl) (by kernel_rfl) ?hqz8 (Or.inl ⟨?hwz8, ?hyz8⟩) HS ?restz8
      case hiz8 =>
        simp only [List.getElem?_toArray, List.getElem?_cons_succ, List.getElem?_cons_zero]
        exact rfl
      case hqz8 => exact fun _ _ _ h => h
      case hwz8 => rfl
      case hyz8 =>
        intro w hSw
        obtain ⟨hw0_, hw1_, hw2_, hw3_, hw4_, hw5_⟩ := hSw
        go_simp
        try with_reducible rfl
      try simp only [Act.put, List.setIfInBounds_toArray, List.set_cons_zero, List.set_cons_succ]
      refine wpAnyH_take (i := 9) (oi := ?oiz9) (v := ?vz9) ?hiz9 (by kernel_rfl) (by kernel_rfl) (by kernel_rfl) ?hqz9 (Or.inl ⟨?hwz9, ?hyz9⟩) HS ?restz9
      case hiz9 =>
        simp only [List.getElem?_toArray, List.getElem?_cons_succ, List.getElem?_cons_zero]
        exact rfl
      case hqz9 => exact fun _ _ _ h => h
      case hwz9 => rfl
      case hyz9 =>
        intro w hSw
        obtain ⟨hw0_, hw1_, hw2_, hw3_, hw4_, hw5_⟩ := hSw
        go_simp
        try with_reducible rfl
      try simp only [Act.put, List.setIfInBounds_toArray, List.set_cons_zero, List.set_cons_succ]
      refine wpAnyH_take (i := 10) (oi := ?oiz10) (v := ?vz10) ?hiz10 (by kernel_rfl) (by kernel_rfl) (by kernel_rfl) ?hqz10 (Or.inl ⟨?hwz10, ?hyz10⟩) HS ?restz10
      case hiz10 =>
        simp only [List.getElem?_toArray, List.getElem?_cons_succ, List.getElem?_cons_zero]
        exact rfl
      case hqz10 => exact fun _ _ _ h => h
      case hwz10 => rfl
      case hyz10 =>
        intro w hSw
        obtain ⟨hw0_, hw1_, hw2_, hw3_, hw4_, hw5_⟩ := hSw
        go_simp
        try with_reducible rfl
      try simp only [Act.put, List.setIfInBounds_toArray, List.set_cons_zero, List.set_cons_succ]
      refine wpAnyH_take (i := 11) (oi := ?oiz11) (v := ?vz11) ?hiz11 (by kernel_rfl) (by kernel_rfl) (by kernel_rfl) ?hqz11 (Or.inl ⟨?hwz11, ?hyz11⟩) HS ?restz11
      case hiz11 =>
        simp only [List.getElem?_toArray, List.getElem?_cons_succ, List.getElem?_cons_zero]
        exact rfl
      case hqz11 => exact fun _ _ _ h => h
      case hwz11 => rfl
      case hyz11 =>
        intro w hSw
        obtain ⟨hw0_, hw1_, hw2_, hw3_, hw4_, hw5_⟩ := hSw
        go_simp
        try with_reducible rfl
      try simp only [Act.put, List.setIfInBounds_toArray, List.set_cons_zero, List.set_cons_succ]
      refine wpAnyH_take (i := 12) (oi := ?oiz12) (v := ?vz12) ?hiz12 (by kernel_rfl) (by kernel_rfl) (by kernel_rfl) ?hqz12 (Or.inl ⟨?hwz12, ?hyz12⟩) HS ?restz12
      case hiz12 =>
        simp only [List.getElem?_toArray, List.getElem?_cons_succ, List.getElem?_cons_zero]
        exact rfl
      case hqz12 => exact fun _ _ _ h => h
      case hwz12 => rfl
      case hyz12 =>
        intro w hSw
        obtain ⟨hw0_, hw1_, hw2_, hw3_, hw4_, hw5_⟩ := hSw
        go_simp
        try with_reducible rfl
      try simp only [Act.put, List.setIfInBounds_toArray, List.set_cons_zero, List.set_cons_succ]
      refine wpAnyH_take (i := 13) (oi := ?oiz13) (v := ?vz13) ?hiz13 (by kernel_rfl) (by kernel_rfl) (by kernel_rfl) ?hqz13 (Or.inl ⟨?hwz13, ?hyz13⟩) HS ?restz13
      case hiz13 =>
        simp only [List.getElem?_toArray, List.getElem?_cons_succ, List.getElem?_cons_zero]
        exact rfl
      case hqz13 => exact fun _ _ _ h => h
      case hwz13 => rfl
      case hyz13 =>
        intro w hSw
        obtain ⟨hw0_, hw1_, hw2_, hw3_, hw4_, hw5_⟩ := hSw
        go_simp
        try with_reducible rfl
      try simp only [Act.put, List.setIfInBounds_toArray, List.set_cons_zero, List.set_cons_succ]
      refine wpAnyH_take (i := 14) (oi := ?oiz14) (v := ?vz14) ?hiz14 (by kernel_rfl) (by kernel_rfl) (by kernel_rfl) ?hqz14 (Or.inl ⟨?hwz14, ?hyz14⟩) HS ?restz14
      case hiz14 =>
        simp only [List.getElem?_toArray, List.getElem?_cons_succ, List.getElem?_cons_zero]
        exact rfl
      case hqz14 => exact fun _ _ _ h => h
      case hwz14 => rfl
      case hyz14 =>
        intro w hSw
        obtain ⟨hw0_, hw1_, hw2_, hw3_, hw4_, hw5_⟩ := hSw
        go_simp
        try with_reducible rfl
      try simp only [Act.put, List.setIfInBounds_toArray, List.set_cons_zero, List.set_cons_succ]
      refine wpAnyH_take (i := 15) (oi := ?oiz15) (v := ?vz15) ?hiz15 (by kernel_rfl) (by kernel_rfl) (by kernel_rfl) ?hqz15 (Or.inl ⟨?hwz15, ?hyz15⟩) HS ?restz15
      case hiz15 =>
        simp only [List.getElem?_toArray, List.getElem?_cons_succ, List.getElem?_cons_zero]
        exact rfl
      case hqz15 => exact fun _ _ _ h => h
      case hwz15 => rfl
      case hyz15 =>
        intro w hSw
        obtain ⟨hw0_, hw1_, hw2_, hw3_, hw4_, hw5_⟩ := hSw
        go_simp
        try with_reducible rfl
      try simp only [Act.put, List.setIfInBounds_toArray, List.set_cons_zero, List.set_cons_succ]
      refine wpAnyH_take (i := 16) (oi := ?oiz16) (v := ?vz16) ?hiz16 (by kernel_rfl) (by kernel_rfl) (by kernel_rfl) ?hqz16 (Or.inl ⟨?hwz16, ?hyz16⟩) HS ?restz16
      case hiz16 =>
        simp only [List.getElem?_toArray, List.getElem?_cons_succ, List.getElem?_cons_zero]
        exact rfl
      case hqz16 => exact fun _ _ _ h => h
      case hwz16 => rfl
      case hyz16 =>
        intro w hSw
        obtain ⟨hw0_, hw1_, hw2_, hw3_, hw4_, hw5_⟩ := hSw
        go_simp
        try with_reducible rfl
      try simp only [Act.put, List.setIfInBounds_toArray, List.set_cons_zero, List.set_cons_succ]
      refine wpAnyH_take (i := 17) (oi := ?oiz17) (v := ?vz17) ?hiz17 (by kernel_rfl) (by kernel_rfl) (by kernel_rfl) ?hqz17 (Or.inl ⟨?hwz17, ?hyz17⟩) HS ?restz17
      case hiz17 =>
        simp only [List.getElem?_toArray, List.getElem?_cons_succ, List.getElem?_cons_zero]
        exact rfl
      case hqz17 => exact fun _ _ _ h => h
      case hwz17 => rfl
      case hyz17 =>
        intro w hSw
        obtain ⟨hw0_, hw1_, hw2_, hw3_, hw4_, hw5_⟩ := hSw
        go_simp
        try with_reducible rfl
      try simp only [Act.put, List.setIfInBounds_toArray, List.set_cons_zero, List.set_cons_succ]
      refine wpAnyH_ready (rs := [18]) (by kernel_rfl) (by simp) ?_
      refine AllReadyH.cons (o := ?oiz18) ?hiz18 (fun K hK => ?restz18) AllReadyH.nil
      case hiz18 =>
        simp only [List.getElem?_toArray, List.getElem?_cons_succ, List.getElem?_cons_zero]
        exact rfl
      go_simp
      go_at_call 80
      refine (C80.out).mono ?_
      rintro e w2 ⟨rfl, hg2⟩
      have HS2 : (fun w' => w'.cell? ⟨gp, 0, none⟩ = some (.int .i64 m) ∧ w'.cell? ⟨gp, 1, none⟩ = some (.map (some bn)) ∧ w'.cell? ⟨gp, 2, none⟩ = some (.map (some bh)) ∧ w'.cell? ⟨gp2, 0, none⟩ = some (.int .i64 m) ∧ w'.cell? ⟨gp2, 1, none⟩ = some (.map (some bn2)) ∧ w'.cell? ⟨gp2, 2, none⟩ = some (.map (some bh2))) w2 := ⟨grown_cell hg2 HS.1, grown_cell hg2 HS.2.1, grown_cell hg2 HS.2.2.1, grown_cell hg2 HS.2.2.2.1, grown_cell hg2 HS.2.2.2.2.1, grown_cell hg2 HS.2.2.2.2.2⟩
      clear HS
      have HS := HS2
      clear HS2
      have HG2 := Lib.hid hg2
      clear hg2
      refine hK.out _ _ HS (fun _ => ?_)
      clear hK K
      try simp only [Act.put, List.setIfInBounds_toArray, List.set_cons_zero, List.set_cons_succ]
      refine wpAnyH_take (i := 19) (oi := ?oiz19) (v := ?vz19) ?hiz19 (by kernel_rfl) (by kernel_rfl) (by kernel_rfl) ?hqz19 (Or.inl ⟨?hwz19, ?hyz19⟩) HS ?restz19
      case hiz19 =>
        simp only [List.getElem?_toArray, List.getElem?_cons_succ, List.getElem?_cons_zero]
        exact rfl
      case hqz19 => exact fun _ _ _ h => h
      case hwz19 => rfl
      case hyz19 =>
        intro w hSw
        obtain ⟨hw0_, hw1_, hw2_, hw3_, hw4_, hw5_⟩ := hSw
        go_simp
        try with_reducible rfl
      try simp only [Act.put, List.setIfInBounds_toArray, List.set_cons_zero, List.set_cons_succ]
      refine wpAnyH_take (i := 20) (oi := ?oiz20) (v := ?vz20) ?hiz20 (by kernel_rfl) (by kernel_rfl) (by kernel_rfl) ?hqz20 (Or.inl ⟨?hwz20, ?hyz20⟩) HS ?restz20
      case hiz20 =>
        simp only [List.getElem?_toArray, List.getElem?_cons_succ, List.getElem?_cons_zero]
        exact rfl
      case hqz20 => exact fun _ _ _ h => h
      case hwz20 => rfl
      case hyz20 =>
        intro w hSw
        obtain ⟨hw0_, hw1_, hw2_, hw3_, hw4_, hw5_⟩ := hSw
        go_simp
        try with_reducible rfl
      try simp only [Act.put, List.setIfInBounds_toArray, List.set_cons_zero, List.set_cons_succ]
      refine wpAnyH_take (i := 21) (oi := ?oiz21) (v := undef) ?hiz21 (by kernel_rfl) (by kernel_rfl) (by kernel_rfl) ?hqz21 (Or.inr ⟨?hwz21, rfl⟩) HS ?restz21
      case hiz21 =>
        simp only [List.getElem?_toArray, List.getElem?_cons_succ, List.getElem?_cons_zero]
        exact rfl
      case hqz21 => exact fun _ _ _ h => h
      case hwz21 => rfl
      try simp only [Act.put, List.setIfInBounds_toArray, List.set_cons_zero, List.set_cons_succ]
      refine wpAnyH_take (i := 22) (oi := ?oiz22) (v := undef) ?hiz22 (by kernel_rfl) (by kernel_rfl) (by kernel_rfl) ?hqz22 (Or.inr ⟨?hwz22, rfl⟩) HS ?restz22
      case hiz22 =>
        simp only [List.getElem?_toArray, List.getElem?_cons_succ, List.getElem?_cons_zero]
        exact rfl
      case hqz22 => exact fun _ _ _ h => h
      case hwz22 => rfl
      try simp only [Act.put, List.setIfInBounds_toArray, List.set_cons_zero, List.set_cons_succ]
      refine wpAnyH_take (i := 23) (oi := ?oiz23) (v := undef) ?hiz23 (by kernel_rfl) (by kernel_rfl) (by kernel_rfl) ?hqz23 (Or.inr ⟨?hwz23, rfl⟩) HS ?restz23
      case hiz23 =>
        simp only [List.getElem?_toArray, List.getElem?_cons_succ, List.getElem?_cons_zero]
        exact rfl
      case hqz23 => exact fun _ _ _ h => h
      case hwz23 => rfl
      try simp only [Act.put, List.setIfInBounds_toArray, List.set_cons_zero, List.set_cons_succ]
      refine wpAnyH_take (i := 24) (oi := ?oiz24) (v := undef) ?hiz24 (by kernel_rfl) (by kernel_rfl) (by kernel_rfl) ?hqz24 (Or.inr ⟨?hwz24, rfl⟩) HS ?restz24
      case hiz24 =>
        simp only [List.getElem?_toArray, List.getElem?_cons_succ, List.getElem?_cons_zero]
        exact rfl
      case hqz24 => exact fun _ _ _ h => h
      case hwz24 => rfl
      try simp only [Act.put, List.setIfInBounds_toArray, List.set_cons_zero, List.set_cons_succ]
      refine wpAnyH_take (i := 25) (oi := ?oiz25) (v := undef) ?hiz25 (by kernel_rfl) (by kernel_rfl) (by kernel_rfl) ?hqz25 (Or.inr ⟨?hwz25, rfl⟩) HS ?restz25
      case hiz25 =>
        simp only [List.getElem?_toArray, List.getElem?_cons_succ, List.getElem?_cons_zero]
        exact rfl
      case hqz25 => exact fun _ _ _ h => h
      case hwz25 => rfl
      try simp only [Act.put, List.setIfInBounds_toArray, List.set_cons_zero, List.set_cons_succ]
      refine wpAnyH_take (i := 26) (oi := ?oiz26) (v := undef) ?hiz26 (by kernel_rfl) (by kernel_rfl) (by kernel_rfl) ?hqz26 (Or.inr ⟨?hwz26, rfl⟩) HS ?restz26
      case hiz26 =>
        simp only [List.getElem?_toArray, List.getElem?_cons_succ, List.getElem?_cons_zero]
        exact rfl
      case hqz26 => exact fun _ _ _ h => h
      case hwz26 => rfl
      try simp only [Act.put, List.setIfInBounds_toArray, List.set_cons_zero, List.set_cons_succ]
      refine wpAnyH_take (i := 27) (oi := ?oiz27) (v := undef) ?hiz27 (by kernel_rfl) (by kernel_rfl) (by kernel_rfl) ?hqz27 (Or.inr ⟨?hwz27, rfl⟩) HS ?restz27
      case hiz27 =>
        simp only [List.getElem?_toArray, List.getElem?_cons_succ, List.getElem?_cons_zero]
        exact rfl
      case hqz27 => exact fun _ _ _ h => h
      case hwz27 => rfl
      try simp only [Act.put, List.setIfInBounds_toArray, List.set_cons_zero, List.set_cons_succ]
      refine wpAnyH_take (i := 28) (oi := ?oiz28) (v := undef) ?hiz28 (by kernel_rfl) (by kernel_rfl) (by kernel_rfl) ?hqz28 (Or.inr ⟨?hwz28, rfl⟩) HS ?restz28
      case hiz28 =>
        simp only [List.getElem?_toArray, List.getElem?_cons_succ, List.getElem?_cons_zero]
        exact rfl
      case hqz28 => exact fun _ _ _ h => h
      case hwz28 => rfl
      try simp only [Act.put, List.setIfInBounds_toArray, List.set_cons_zero, List.set_cons_succ]
      refine wpAnyH_take (i := 29) (oi := ?oiz29) (v := undef) ?hiz29 (by kernel_rfl) (by kernel_rfl) (by kernel_rfl) ?hqz29 (Or.inr ⟨?hwz29, rfl⟩) HS ?restz29
      case hiz29 =>
        simp only [List.getElem?_toArray, List.getElem?_cons_succ, List.getElem?_cons_zero]
        exact rfl
      case hqz29 => exact fun _ _ _ h => h
      case hwz29 => rfl
      try simp only [Act.put, List.setIfInBounds_toArray, List.set_cons_zero, List.set_cons_succ]
      refine wpAnyH_take (i := 30) (oi := ?oiz30) (v := ?vz30) ?hiz30 (by kernel_rfl) (by kernel_rfl) (by kernel_rfl) ?hqz30 (Or.inl ⟨?hwz30, ?hyz30⟩) HS ?restz30
      case hiz30 =>
        simp only [List.getElem?_toArray, List.getElem?_cons_succ, List.getElem?_cons_zero]
        exact rfl
      case hqz30 => exact fun _ _ _ h => h
      case hwz30 => rfl
      case hyz30 =>
        intro w hSw
        obtain ⟨hw0_, hw1_, hw2_, hw3_, hw4_, hw5_⟩ := hSw
        go_simp
        try with_reducible rfl
      try simp only [Act.put, List.setIfInBounds_toArray, List.set_cons_zero, List.set_cons_succ]
      refine wpAnyH_take (i := 31) (oi := ?oiz31) (v := ?vz31) ?hiz31 (by kernel_rfl) (by kernel_rfl) (by kernel_rfl) ?hqz31 (Or.inl ⟨?hwz31, ?hyz31⟩) HS ?restz31
      case hiz31 =>
        simp only [List.getElem?_toArray, List.getElem?_cons_succ, List.getElem?_cons_zero]
        exact rfl
      case hqz31 => exact fun _ _ _ h => h
      case hwz31 => rfl
      case hyz31 =>
        intro w hSw
        obtain ⟨hw0_, hw1_, hw2_, hw3_, hw4_, hw5_⟩ := hSw
        go_simp
        try with_reducible rfl
      try simp only [Act.put, List.setIfInBounds_toArray, List.set_cons_zero, List.set_cons_succ]
      refine wpAnyH_done (by kernel_rfl) ?_ _
      go_wp2_with fail
      go_ret
      exact ⟨rfl, (below_drew (Below.refl w.heap.size w)).trans (below_of_grown HG2.out)⟩
  · have hq : (m == m2) = false := by simpa using e0
    have hS : samB m m2 now now2 held held2 = false := by unfold samB; rw [decide_eq_false e0]; rfl
    rw [hS]
    clear hS
    go_enter Try.func31, Try.ntmps31
    go_wp2_with fail
    go_quiet (fail)
    go_wp2
    go_ret
    exact ⟨rfl, pw_below_drewN (Below.refl _ _) _⟩
end Go.Proofs.Ytngocadnbpdnoaa.Mo
namespace Go.Proofs.Ytngocadnbpdnoaa.Mo
open Go Go.Maps Go.RowKit Go.Proofs.Ytngocadnbpdnoaa.Srt Go.Proofs.Ytngocadnbpdnoaa.Q Go.Proofs.YtngocadnbpdnoaaW.PrintWords Go.Proofs.YtngocadnbpdnoaaW.PrintLast Go.Proofs.YtngocadnbpdnoaaW.PrintMore
set_option linter.unusedVariables false
set_option linter.unusedSimpArgs false
abbrev OpS := S39
def opC (o : OpS) (A : Option Addr) (c : Nat) : Array Value := #[.int .u8 o.f0, .int .u64 o.f1, .int .u64 o.f2, .int .u64 o.f3, .int .u64 o.f4, .bool o.f5.f0, .int .i64 o.f5.f1, .int .i64 o.f5.f2, .slice A o.f6.length c, .int .u64 o.f7, .int .u64 o.f8]
structure OpWf (o : OpS) : Prop where
  key : u64wf o.f1
  val : u64wf o.f2
  han : u64wf o.f4
structure MS where
  multi : Int
  now : PL
  held : List (Int × PL)
structure AnsD where
  e : Int
  fo : Bool
  v : Int
  dn : Bool
  h : Int
  ps : PL
  c : Int
def errD (e : Int) : AnsD := ⟨e, false, 0, false, 0, [], 0⟩
def foundD (s : MS) (o : OpS) : AnsD := ⟨0, (fnd s.now o.f1).isSome, (fnd s.now o.f1).getD 0, false, 0, [], 0⟩
/-- What Do leaves and tells. -/
def DoPost (w : World) (f : Nat → Option PL) (N gp bn bh : Nat) (s : MS) (d : AnsD) (e : Ending) (w' : World) : Prop :=
  ∃ ps, e = .returned (ansV d.e d.fo d.v d.dn d.h ps d.c) ∧ kSP.R 90 w' w.heap.size (fun _ => True) ps (toS d.ps) ∧ Left w w' f N gp bn bh s.multi s.now s.held (fun k => k = bn ∨ k = bh)
/-- The world behind the boxes of Do. -/
def doW (w : World) (o : OpS) (A : Option Addr) (c : Nat) : World := (w.alloc (.cells (opC o A c) 39)).alloc (.cells (ansC 0 false 0 false 0 (.slice none 0 0) 0) 26)
theorem doW_below (w : World) (o : OpS) (A : Option Addr) (c : Nat) : Below w.heap.size w (doW w o A c) := below_alloc (below_alloc (Below.refl _ _) _) _
theorem doW_size (w : World) (o : OpS) (A : Option Addr) (c : Nat) : (doW w o A c).heap.size = w.heap.size + 2 := by simp [doW]
theorem doW_op (w : World) (o : OpS) (A : Option Addr) (c : Nat) : (doW w o A c).heap[w.heap.size]? = some (.cells (opC o A c) 39 (0, 0)) := by
  have h := heap_alloc_new w (.cells (opC o A c) 39)
  have hl : w.heap.size < (w.alloc (.cells (opC o A c) 39)).heap.size := by simp
  exact ((below_alloc (Below.refl _ (w.alloc (.cells (opC o A c) 39))) (.cells (ansC 0 false 0 false 0 (.slice none 0 0) 0) 26)).block _ hl).trans h
theorem doW_ans (w : World) (o : OpS) (A : Option Addr) (c : Nat) : (doW w o A c).heap[w.heap.size + 1]? = some (.cells (ansC 0 false 0 false 0 (.slice none 0 0) 0) 26 (0, 0)) := by
  have h := heap_alloc_new (w.alloc (.cells (opC o A c) 39)) (.cells (ansC 0 false 0 false 0 (.slice none 0 0) 0) 26)
  simpa [doW] using h
theorem Left.row {w w3 : World} {f : Nat → Option PL} {N gp bn bh : Nat} {multi : Int} {now : PL} {held : List (Int × PL)} {K : Nat → Prop} (h : Left w w3 f N gp bn bh multi now held K) {g : Nat} (hg : w.heap.size ≤ g) {old : Array Value} {T : TypeId} {fr : Nat × Nat} (hb : w3.heap[g]? = some (.cells old T fr)) (h1 : gp < w.heap.size) (h2 : bn < w.heap.size) (h3 : bh < w.heap.size) (cs : Array Value) : Left w (w3.setRow g cs) f N gp bn bh multi now held K := by
  obtain ⟨f', he, hP, hF, hk⟩ := h
  refine ⟨f', he, hP.kept (Kept_row _ _ _) (by omega) (by omega) (by omega), hF.kept (Kept_row _ _ _) (fun b l e1 e2 => ?_), hk.then_ (KO.row _ _ _) (fun k e => .inr (by omega))⟩
  subst e2
  obtain ⟨es, cl, h4, _⟩ := (hF _ _ e1).1
  rw [hb] at h4; cases h4
theorem PM.gn {w : World} {f : Nat → Option PL} {N gp bn bh : Nat} {multi : Int} {now : PL} {held : List (Int × PL)} (h : PM w f N gp bn bh multi now held) : gp ≠ bn := fun e => by
  have h1 := h.blk
  rw [e] at h1
  obtain ⟨⟨es, cl, h2, _⟩, _⟩ := h.now
  rw [h1] at h2; cases h2
theorem PM.gh {w : World} {f : Nat → Option PL} {N gp bn bh : Nat} {multi : Int} {now : PL} {held : List (Int × PL)} (h : PM w f N gp bn bh multi now held) : gp ≠ bh := fun e => by
  have h1 := h.blk
  rw [e] at h1
  obtain ⟨⟨es, cl, h2, _⟩, _⟩ := h.held
  rw [h1] at h2; cases h2
/-- now has been written. -/
theorem left_now {w W w3 : World} {f : Nat → Option PL} {N gp bn bh : Nat} {multi : Int} {now now' : PL} {held : List (Int × PL)} (hP : PM W f N gp bn bh multi now held) (hF : Fro W f N) (hb : Below w.heap.size w W) (hm : MapN w3 bn (N + 1) now') (hg : W.grownBy w3 (some bn)) : Left w w3 f (N + 1) gp bn bh multi now' held (fun k => k = bn ∨ k = bh) := by
  have hk : Kept W w3 (fun k => k = bn) := Kept.of_grown hg (Kept.refl _ _) (fun k e => .inl (by cases e; rfl))
  refine ⟨f, Ext.refl _ _, ⟨(hk.2 gp hP.gl hP.gn).trans hP.blk, hm, (hP.held.kept hk (Ne.symm hP.ne)).mono (Nat.le_succ N), hP.fn, hP.fh, hP.ne⟩, (hF.kept hk (fun b l hb e => by subst e; rw [hP.fn] at hb; cases hb)).mono (Nat.le_succ N), ((KO.of_below hb _).then_ (KO.of_grown hg (KO.refl _ _) (fun k e => .inl (by cases e; rfl)) : KO W w3 (fun k => k = bn)) (fun k e => .inl (.inl e)))⟩
theorem left_held {w W w3 : World} {f : Nat → Option PL} {N gp bn bh : Nat} {multi : Int} {now : PL} {held held' : List (Int × PL)} (hP : PM W f N gp bn bh multi now held) (hF : Fro W f N) (hb : Below w.heap.size w W) (hm : HeldN w3 f bh (N + 1) held') (hg : W.grownBy w3 (some bh)) : Left w w3 f (N + 1) gp bn bh multi now held' (fun k => k = bn ∨ k = bh) := by
  have hk : Kept W w3 (fun k => k = bh) := Kept.of_grown hg (Kept.refl _ _) (fun k e => .inl (by cases e; rfl))
  refine ⟨f, Ext.refl _ _, ⟨(hk.2 gp hP.gl hP.gh).trans hP.blk, (hP.now.kept hk hP.ne).mono (Nat.le_succ N), hm, hP.fn, hP.fh, hP.ne⟩, (hF.kept hk (fun b l hb e => by subst e; rw [hP.fh] at hb; cases hb)).mono (Nat.le_succ N), ((KO.of_below hb _).then_ (KO.of_grown hg (KO.refl _ _) (fun k e => .inl (by cases e; rfl)) : KO W w3 (fun k => k = bh)) (fun k e => .inl (.inr e)))⟩
theorem grown_undrew {w W : World} {r : Option Nat} (h : w.drew.grownBy W r) : w.grownBy W r := ⟨h.os, h.tape, h.output, h.size, h.block⟩
def snapD (h : Int) (held : List (Int × PL)) : AnsD := if (fnd held h).isSome then errD 32 else ⟨0, false, 0, false, h, [], 0⟩
theorem Left.base {w W w' : World} {f : Nat → Option PL} {N gp bn bh : Nat} {multi : Int} {now : PL} {held : List (Int × PL)} {K K' : Nat → Prop} (h : Left W w' f N gp bn bh multi now held K) (hb : Below w.heap.size w W) (hK : ∀ k, K k → K' k) : Left w w' f N gp bn bh multi now held K' := by
  obtain ⟨f', he, hP, hF, hk⟩ := h
  exact ⟨f', ⟨he.1, fun b l e => (he.2 b l e).imp id (fun h => Nat.le_trans hb.size h)⟩, hP, hF, (KO.of_below hb K').then_ hk (fun k e => .inl (hK k e))⟩
theorem ans_cells {w : World} {g : Nat} {e : Int} {fo : Bool} {v : Int} {dn : Bool} {hd : Int} {ps : Value} {c : Int} (hb : w.heap[g]? = some (.cells (ansC e fo v dn hd ps c) 26 (0, 0))) :
    w.cell? ⟨g, 0, none⟩ = some (.int .i64 e) ∧ w.cell? ⟨g, 1, none⟩ = some (.bool fo) ∧ w.cell? ⟨g, 2, none⟩ = some (.int .u64 v) ∧ w.cell? ⟨g, 3, none⟩ = some (.bool dn) ∧ w.cell? ⟨g, 4, none⟩ = some (.int .u64 hd) ∧ w.cell? ⟨g, 5, none⟩ = some ps ∧ w.cell? ⟨g, 6, none⟩ = some (.int .u64 c) := by
  refine ⟨?_, ?_, ?_, ?_, ?_, ?_, ?_⟩ <;> (rw [blk_cell hb]; rfl)
/-- The block of a struct that is read. -/
structure DoAt (w W : World) (o : OpS) (A : Option Addr) (c : Nat) (ra : Array Value) : Prop where
  op : W.heap[w.heap.size]? = some (.cells (opC o A c) 39 (0, 0))
  ans : W.heap[w.heap.size + 1]? = some (.cells ra 26 (0, 0))
  low : Kept w W (fun _ => False)
end Go.Proofs.Ytngocadnbpdnoaa.Mo
namespace Go.Proofs.Ytngocadnbpdnoaa.Mo
open Go Go.Maps Go.RowKit Go.Proofs.Ytngocadnbpdnoaa.Srt Go.Proofs.Ytngocadnbpdnoaa.Q Go.Proofs.YtngocadnbpdnoaaW.PrintWords Go.Proofs.YtngocadnbpdnoaaW.PrintLast Go.Proofs.YtngocadnbpdnoaaW.PrintMore
set_option linter.unusedVariables false
set_option linter.unusedSimpArgs false
set_option maxRecDepth 100000 in
set_option maxHeartbeats 8000000 in
theorem do_get (f : Nat → Option PL) (N gp bn bh : Nat) (multi : Int) (now : PL) (held : List (Int × PL)) (o : OpS) (A : Option Addr) (c : Nat) (hdl : Int) (w : World) (hM : PM w f N gp bn bh multi now held) (hF : Fro w f N) (hO : OpWf o) (hh : u64wf hdl) (hN : N ≤ 1099511627776) (hk : o.f0 = 1) :
    Calls Try.prog 15 #[.pointer (some ⟨gp, 0, none⟩), .agg (opC o A c), .int .u64 hdl] w (DoPost w f (N + 1) gp bn bh ⟨multi, now, held⟩ (foundD ⟨multi, now, held⟩ o)) := by
  have hgl := hM.gl
  have hnl := hM.now.lt
  have hhl := hM.held.1.lt
  have HM := Lib.hid hM
  have HF := Lib.hid hF
  have HO := Lib.hid hO
  have HU := Lib.hid hh
  have hb0 : Below w.heap.size w (doW w o A c).drew := below_drew (doW_below w o A c)
  have hP0 := hM.kept (Kept.of_below hb0 (fun _ => False)) (fun e => e) (fun e => e) (fun e => e)
  have HS : (fun w' : World => w'.cell? ⟨gp, 1, none⟩ = some (.map (some bn)) ∧ w'.cell? ⟨w.heap.size, 1, none⟩ = some (.int .u64 o.f1) ∧ (Instr.lookup 97 (.map (some bn)) (.int .u64 o.f1) true).run Try.prog w' = .ok (.tuple #[.int .u64 ((fnd now o.f1).getD 0), .bool (fnd now o.f1).isSome]) w') (doW w o A c).drew :=
    ⟨hP0.c1, by rw [blk_cell (w := (doW w o A c).drew) (doW_op w o A c)]; rfl, now_look hP0.now hO.key⟩
  obtain ⟨vh, hvh, hrunh⟩ := held_look (hM.held.kept (Kept.of_below (below_drew (below_alloc (below_drew (doW_below w o A c)) (.cells (ansC 0 (fnd now o.f1).isSome ((fnd now o.f1).getD 0) false 0 (.slice none 0 0) 0) 26))) (fun _ => False)) (fun e => e)) hO.han
  have hW2 : Below w.heap.size w ((doW w o A c).drew.alloc (.cells (ansC 0 (fnd now o.f1).isSome ((fnd now o.f1).getD 0) false 0 (.slice none 0 0) 0) 26)).drew := below_drew (below_alloc (below_drew (doW_below w o A c)) _)
  have hP2 := hM.kept (Kept.of_below hW2 (fun _ => False)) (fun e => e) (fun e => e) (fun e => e)
  have hs2 : (doW w o A c).drew.heap.size = w.heap.size + 2 := doW_size w o A c
  have hop2 : ((doW w o A c).drew.alloc (.cells (ansC 0 (fnd now o.f1).isSome ((fnd now o.f1).getD 0) false 0 (.slice none 0 0) 0) 26)).drew.heap[w.heap.size]? = some (.cells (opC o A c) 39 (0, 0)) := ((below_alloc (Below.refl _ (doW w o A c).drew) _).block _ (by rw [hs2]; omega)).trans (doW_op w o A c)
  have hra2 : ((doW w o A c).drew.alloc (.cells (ansC 0 (fnd now o.f1).isSome ((fnd now o.f1).getD 0) false 0 (.slice none 0 0) 0) 26)).drew.heap[w.heap.size + 1]? = some (.cells (ansC 0 false 0 false 0 (.slice none 0 0) 0) 26 (0, 0)) := ((below_alloc (Below.refl _ (doW w o A c).drew) _).block _ (by rw [hs2]; omega)).trans (doW_ans w o A c)
  have hfa2 : ((doW w o A c).drew.alloc (.cells (ansC 0 (fnd now o.f1).isSome ((fnd now o.f1).getD 0) false 0 (.slice none 0 0) 0) 26)).drew.heap[w.heap.size + 2]? = some (.cells (ansC 0 (fnd now o.f1).isSome ((fnd now o.f1).getD 0) false 0 (.slice none 0 0) 0) 26 (0, 0)) := by
    have := heap_alloc_new (doW w o A c).drew (.cells (ansC 0 (fnd now o.f1).isSome ((fnd now o.f1).getD 0) false 0 (.slice none 0 0) 0) 26)
    rw [hs2] at this
    exact this
  have HS2 : (fun w' : World => w'.cell? ⟨gp, 2, none⟩ = some (.map (some bh)) ∧ w'.cell? ⟨w.heap.size, 4, none⟩ = some (.int .u64 o.f4) ∧ (Instr.lookup 98 (.map (some bh)) (.int .u64 o.f4) true).run Try.prog w' = .ok (.tuple #[vh, .bool (fnd held o.f4).isSome]) w') ((doW w o A c).drew.alloc (.cells (ansC 0 (fnd now o.f1).isSome ((fnd now o.f1).getD 0) false 0 (.slice none 0 0) 0) 26)).drew :=
    ⟨hP2.c2, by rw [blk_cell hop2]; rfl, hrunh⟩
  have hkd : ((doW w o A c).drew.alloc (.cells (ansC 0 (fnd now o.f1).isSome ((fnd now o.f1).getD 0) false 0 (.slice none 0 0) 0) 26)).drew.cell? ⟨w.heap.size, 0, none⟩ = some (.int .u8 1) := by rw [blk_cell hop2, ← hk]; rfl
  have HVH := Lib.hid hvh
  have HW2 := Lib.hid hW2
  have HP2 := Lib.hid hP2
  have HOP2 := Lib.hid hop2
  have HRA2 := Lib.hid hra2
  have HFA2 := Lib.hid hfa2
  have hfnd0 : (fnd now o.f1).isSome = (fnd now o.f1).isSome := rfl
  obtain ⟨fo, hfo⟩ : ∃ b : Bool, b = (fnd now o.f1).isSome := ⟨_, rfl⟩
  obtain ⟨fv, hfv⟩ : ∃ v : Int, v = (fnd now o.f1).getD 0 := ⟨_, rfl⟩
  obtain ⟨hd, hhd⟩ : ∃ b : Bool, b = (fnd held o.f4).isSome := ⟨_, rfl⟩
  rw [← hfo, ← hfv] at HS HS2 HW2 HP2 HOP2 HRA2 HFA2 hkd
  rw [← hhd] at HS2
  have HFO := Lib.hid hfo
  have HFV := Lib.hid hfv
  have HHD := Lib.hid hhd
  clear hM hF hO hh hb0 hP0 hvh hrunh hW2 hP2 hs2 hop2 hra2 hfa2 hfnd0 hfo hfv hhd
  obtain ⟨W1, hW1⟩ : ∃ W1, W1 = doW w o A c := ⟨_, rfl⟩
  have HW1 := Lib.hid hW1
  rw [← hW1] at HS HS2 HW2 HP2 HOP2 HRA2 HFA2 hkd
  go_enter Try.func15, Try.ntmps15
  go_wp2_with fail
  change Code.wp _ _ _ _ (doW w o A c)
  rw [← hW1]
  clear hW1
  go_region_held3 (fun w' => w'.cell? ⟨gp, 1, none⟩ = some (.map (some bn)) ∧ w'.cell? ⟨w.heap.size, 1, none⟩ = some (.int .u64 o.f1) ∧ (Instr.lookup 97 (.map (some bn)) (.int .u64 o.f1) true).run Try.prog w' = .ok (.tuple #[.int .u64 fv, .bool fo]) w')
    (first | go_keep | exact HS)
    (first | fail | fail)
  clear HS
  have hs1 : W1.heap.size = w.heap.size + 2 := by rw [HW1.out]; exact doW_size w o A c
  go_wp2_with fail
  obtain ⟨W2, hW2⟩ : ∃ W2, W2 = W1.drew.alloc (Obj.cells (ansC 0 fo fv false 0 (Value.slice none 0 0) 0) 26) := ⟨_, rfl⟩
  change Code.wp _ _ _ _ (W1.drew.alloc (Obj.cells (ansC 0 fo fv false 0 (Value.slice none 0 0) 0) 26))
  rw [← hW2] at HS2 HW2 HP2 HOP2 HRA2 HFA2 hkd ⊢
  clear hW2
  go_region_held3 (fun w' => w'.cell? ⟨gp, 2, none⟩ = some (.map (some bh)) ∧ w'.cell? ⟨w.heap.size, 4, none⟩ = some (.int .u64 o.f4) ∧ (Instr.lookup 98 (.map (some bh)) (.int .u64 o.f4) true).run Try.prog w' = .ok (.tuple #[vh, .bool hd]) w')
    (first | go_keep | exact HS2)
    (first | fail | fail)
  clear HS2
  obtain ⟨W, hW⟩ : ∃ W, W = W2.drew := ⟨_, rfl⟩
  rw [← hW] at HW2 HP2 HOP2 HRA2 HFA2 hkd ⊢
  clear hW
  have HL3 := Lib.hid (left_same (K := fun k => k = bn ∨ k = bh) HM.out HF.out HW2.out (Nat.le_succ N))
  have HFA3 := HFA2
  have HRA3 := HRA2
  obtain ⟨l0, l1, l2, l3, l4, l5, l6⟩ := ans_cells HFA3.out
  go_wp2_with (first | ((with_reducible refine gate_store (t := 26) (p := 6) rfl ?_); refine wpList_store_row rfl 26 (.tmp 6) (.tmp 59) rfl (w.heap.size + 1) (ansC 0 fo fv false 0 (.slice none 0 0) 0) rfl rfl 26 _ HRA3.out (by kernel_rfl) rfl (ansC_one _ _ _ _ _ _ _ _ _) ?_))
  refine bodyPost_ret (res_ans rfl _ rfl (setRow_heap _ _ _ _ _ _ HRA3.out)) rfl ⟨.slice none 0 0, by rw [HFO.out, HFV.out]; rfl, Kd.R_nil _ _ _ _ _, HL3.out.row (by omega) HRA3.out hgl hnl hhl _⟩
end Go.Proofs.Ytngocadnbpdnoaa.Mo
namespace Go.Proofs.Ytngocadnbpdnoaa.Mo
open Go Go.Maps Go.RowKit Go.Proofs.Ytngocadnbpdnoaa.Srt Go.Proofs.Ytngocadnbpdnoaa.Q Go.Proofs.YtngocadnbpdnoaaW.PrintWords Go.Proofs.YtngocadnbpdnoaaW.PrintLast Go.Proofs.YtngocadnbpdnoaaW.PrintMore
set_option linter.unusedVariables false
set_option linter.unusedSimpArgs false
set_option maxRecDepth 100000 in
set_option maxHeartbeats 8000000 in
theorem do_del (f : Nat → Option PL) (N gp bn bh : Nat) (multi : Int) (now : PL) (held : List (Int × PL)) (o : OpS) (A : Option Addr) (c : Nat) (hdl : Int) (w : World) (hM : PM w f N gp bn bh multi now held) (hF : Fro w f N) (hO : OpWf o) (hh : u64wf hdl) (hN : N ≤ 1099511627776) (hk : o.f0 = 3) :
    Calls Try.prog 15 #[.pointer (some ⟨gp, 0, none⟩), .agg (opC o A c), .int .u64 hdl] w (DoPost w f (N + 1) gp bn bh ⟨multi, del now o.f1, held⟩ (foundD ⟨multi, now, held⟩ o)) := by
  have hgl := hM.gl
  have hnl := hM.now.lt
  have hhl := hM.held.1.lt
  have HM := Lib.hid hM
  have HF := Lib.hid hF
  have HO := Lib.hid hO
  have HU := Lib.hid hh
  have hb0 : Below w.heap.size w (doW w o A c).drew := below_drew (doW_below w o A c)
  have hP0 := hM.kept (Kept.of_below hb0 (fun _ => False)) (fun e => e) (fun e => e) (fun e => e)
  have HS : (fun w' : World => w'.cell? ⟨gp, 1, none⟩ = some (.map (some bn)) ∧ w'.cell? ⟨w.heap.size, 1, none⟩ = some (.int .u64 o.f1) ∧ (Instr.lookup 97 (.map (some bn)) (.int .u64 o.f1) true).run Try.prog w' = .ok (.tuple #[.int .u64 ((fnd now o.f1).getD 0), .bool (fnd now o.f1).isSome]) w') (doW w o A c).drew :=
    ⟨hP0.c1, by rw [blk_cell (w := (doW w o A c).drew) (doW_op w o A c)]; rfl, now_look hP0.now hO.key⟩
  obtain ⟨vh, hvh, hrunh⟩ := held_look (hM.held.kept (Kept.of_below (below_drew (below_alloc (below_drew (doW_below w o A c)) (.cells (ansC 0 (fnd now o.f1).isSome ((fnd now o.f1).getD 0) false 0 (.slice none 0 0) 0) 26))) (fun _ => False)) (fun e => e)) hO.han
  have hW2 : Below w.heap.size w ((doW w o A c).drew.alloc (.cells (ansC 0 (fnd now o.f1).isSome ((fnd now o.f1).getD 0) false 0 (.slice none 0 0) 0) 26)).drew := below_drew (below_alloc (below_drew (doW_below w o A c)) _)
  have hP2 := hM.kept (Kept.of_below hW2 (fun _ => False)) (fun e => e) (fun e => e) (fun e => e)
  have hs2 : (doW w o A c).drew.heap.size = w.heap.size + 2 := doW_size w o A c
  have hop2 : ((doW w o A c).drew.alloc (.cells (ansC 0 (fnd now o.f1).isSome ((fnd now o.f1).getD 0) false 0 (.slice none 0 0) 0) 26)).drew.heap[w.heap.size]? = some (.cells (opC o A c) 39 (0, 0)) := ((below_alloc (Below.refl _ (doW w o A c).drew) _).block _ (by rw [hs2]; omega)).trans (doW_op w o A c)
  have hra2 : ((doW w o A c).drew.alloc (.cells (ansC 0 (fnd now o.f1).isSome ((fnd now o.f1).getD 0) false 0 (.slice none 0 0) 0) 26)).drew.heap[w.heap.size + 1]? = some (.cells (ansC 0 false 0 false 0 (.slice none 0 0) 0) 26 (0, 0)) := ((below_alloc (Below.refl _ (doW w o A c).drew) _).block _ (by rw [hs2]; omega)).trans (doW_ans w o A c)
  have hfa2 : ((doW w o A c).drew.alloc (.cells (ansC 0 (fnd now o.f1).isSome ((fnd now o.f1).getD 0) false 0 (.slice none 0 0) 0) 26)).drew.heap[w.heap.size + 2]? = some (.cells (ansC 0 (fnd now o.f1).isSome ((fnd now o.f1).getD 0) false 0 (.slice none 0 0) 0) 26 (0, 0)) := by
    have := heap_alloc_new (doW w o A c).drew (.cells (ansC 0 (fnd now o.f1).isSome ((fnd now o.f1).getD 0) false 0 (.slice none 0 0) 0) 26)
    rw [hs2] at this
    exact this
  have HS2 : (fun w' : World => w'.cell? ⟨gp, 2, none⟩ = some (.map (some bh)) ∧ w'.cell? ⟨w.heap.size, 4, none⟩ = some (.int .u64 o.f4) ∧ (Instr.lookup 98 (.map (some bh)) (.int .u64 o.f4) true).run Try.prog w' = .ok (.tuple #[vh, .bool (fnd held o.f4).isSome]) w') ((doW w o A c).drew.alloc (.cells (ansC 0 (fnd now o.f1).isSome ((fnd now o.f1).getD 0) false 0 (.slice none 0 0) 0) 26)).drew :=
    ⟨hP2.c2, by rw [blk_cell hop2]; rfl, hrunh⟩
  have hkd : ((doW w o A c).drew.alloc (.cells (ansC 0 (fnd now o.f1).isSome ((fnd now o.f1).getD 0) false 0 (.slice none 0 0) 0) 26)).drew.cell? ⟨w.heap.size, 0, none⟩ = some (.int .u8 3) := by rw [blk_cell hop2, ← hk]; rfl
  have HVH := Lib.hid hvh
  have HW2 := Lib.hid hW2
  have HP2 := Lib.hid hP2
  have HOP2 := Lib.hid hop2
  have HRA2 := Lib.hid hra2
  have HFA2 := Lib.hid hfa2
  have hfnd0 : (fnd now o.f1).isSome = (fnd now o.f1).isSome := rfl
  obtain ⟨fo, hfo⟩ : ∃ b : Bool, b = (fnd now o.f1).isSome := ⟨_, rfl⟩
  obtain ⟨fv, hfv⟩ : ∃ v : Int, v = (fnd now o.f1).getD 0 := ⟨_, rfl⟩
  obtain ⟨hd, hhd⟩ : ∃ b : Bool, b = (fnd held o.f4).isSome := ⟨_, rfl⟩
  rw [← hfo, ← hfv] at HS HS2 HW2 HP2 HOP2 HRA2 HFA2 hkd
  rw [← hhd] at HS2
  have HFO := Lib.hid hfo
  have HFV := Lib.hid hfv
  have HHD := Lib.hid hhd
  clear hM hF hO hh hb0 hP0 hvh hrunh hW2 hP2 hs2 hop2 hra2 hfa2 hfnd0 hfo hfv hhd
  obtain ⟨W1, hW1⟩ : ∃ W1, W1 = doW w o A c := ⟨_, rfl⟩
  have HW1 := Lib.hid hW1
  rw [← hW1] at HS HS2 HW2 HP2 HOP2 HRA2 HFA2 hkd
  go_enter Try.func15, Try.ntmps15
  go_wp2_with fail
  change Code.wp _ _ _ _ (doW w o A c)
  rw [← hW1]
  clear hW1
  go_region_held3 (fun w' => w'.cell? ⟨gp, 1, none⟩ = some (.map (some bn)) ∧ w'.cell? ⟨w.heap.size, 1, none⟩ = some (.int .u64 o.f1) ∧ (Instr.lookup 97 (.map (some bn)) (.int .u64 o.f1) true).run Try.prog w' = .ok (.tuple #[.int .u64 fv, .bool fo]) w')
    (first | go_keep | exact HS)
    (first | fail | fail)
  clear HS
  have hs1 : W1.heap.size = w.heap.size + 2 := by rw [HW1.out]; exact doW_size w o A c
  go_wp2_with fail
  obtain ⟨W2, hW2⟩ : ∃ W2, W2 = W1.drew.alloc (Obj.cells (ansC 0 fo fv false 0 (Value.slice none 0 0) 0) 26) := ⟨_, rfl⟩
  change Code.wp _ _ _ _ (W1.drew.alloc (Obj.cells (ansC 0 fo fv false 0 (Value.slice none 0 0) 0) 26))
  rw [← hW2] at HS2 HW2 HP2 HOP2 HRA2 HFA2 hkd ⊢
  clear hW2
  go_region_held3 (fun w' => w'.cell? ⟨gp, 2, none⟩ = some (.map (some bh)) ∧ w'.cell? ⟨w.heap.size, 4, none⟩ = some (.int .u64 o.f4) ∧ (Instr.lookup 98 (.map (some bh)) (.int .u64 o.f4) true).run Try.prog w' = .ok (.tuple #[vh, .bool hd]) w')
    (first | go_keep | exact HS2)
    (first | fail | fail)
  clear HS2
  obtain ⟨W, hW⟩ : ∃ W, W = W2.drew := ⟨_, rfl⟩
  rw [← hW] at HW2 HP2 HOP2 HRA2 HFA2 hkd ⊢
  clear hW
  obtain ⟨w3, hrun3, ho3', hg3⟩ := now_del (w := W.drew) HP2.out.now HO.out.key 0
  have ho3 := ho3'.mono (Nat.le_succ N)
  clear ho3'
  replace hg3 := grown_undrew hg3
  have HL3 := Lib.hid (left_now HP2.out (HF.out.kept (Kept.of_below HW2.out (fun _ => False)) (fun _ _ _ e => e)) HW2.out ho3 hg3)
  have hk3 : Kept W w3 (fun k => k = bn) := Kept.of_grown hg3 (Kept.refl _ _) (fun k e => .inl (by cases e; rfl))
  have hcA := HP2.out.c1
  have hcB : W.cell? ⟨w.heap.size, 1, none⟩ = some (.int .u64 o.f1) := by rw [blk_cell HOP2.out]; rfl
  have hcC : W.cell? ⟨w.heap.size, 2, none⟩ = some (.int .u64 o.f2) := by rw [blk_cell HOP2.out]; rfl
  have hdA : w3.cell? ⟨gp, 1, none⟩ = some (.map (some bn)) := cell_kept hcA hk3 HM.out.gn
  have hdB := cell_kept hcB hk3 (show ¬ w.heap.size = bn by omega)
  have hdC := cell_kept hcC hk3 (show ¬ w.heap.size = bn by omega)
  have HFA3 := Lib.hid (blk_kept HFA2.out hk3 (show ¬ w.heap.size + 2 = bn by omega))
  have HRA3 := Lib.hid (blk_kept HRA2.out hk3 (show ¬ w.heap.size + 1 = bn by omega))
  clear hk3 ho3 hg3
  go_wp2_with fail
  go_region_held3 (fun w' => w'.cell? ⟨gp, 1, none⟩ = some (.map (some bn)) ∧ w'.cell? ⟨w.heap.size, 1, none⟩ = some (.int .u64 o.f1) ∧ w'.cell? ⟨w.heap.size, 2, none⟩ = some (.int .u64 o.f2))
    (first | go_keep | exact ⟨hcA, hcB, hcC⟩ | exact ⟨hdA, hdB, hdC⟩)
    (first | fail | fail)
  clear hcA hcB hcC hdA hdB hdC hrun3
  obtain ⟨l0, l1, l2, l3, l4, l5, l6⟩ := ans_cells HFA3.out
  go_wp2_with (first | ((with_reducible refine gate_store (t := 26) (p := 6) rfl ?_); refine wpList_store_row rfl 26 (.tmp 6) (.tmp 75) rfl (w.heap.size + 1) (ansC 0 fo fv false 0 (.slice none 0 0) 0) rfl rfl 26 _ HRA3.out (by kernel_rfl) rfl (ansC_one _ _ _ _ _ _ _ _ _) ?_))
  refine bodyPost_ret (res_ans rfl _ rfl (setRow_heap _ _ _ _ _ _ HRA3.out)) rfl ⟨.slice none 0 0, by rw [HFO.out, HFV.out]; rfl, Kd.R_nil _ _ _ _ _, HL3.out.row (by omega) HRA3.out hgl hnl hhl _⟩
end Go.Proofs.Ytngocadnbpdnoaa.Mo
namespace Go.Proofs.Ytngocadnbpdnoaa.Mo
open Go Go.Maps Go.RowKit Go.Proofs.Ytngocadnbpdnoaa.Srt Go.Proofs.Ytngocadnbpdnoaa.Q Go.Proofs.YtngocadnbpdnoaaW.PrintWords Go.Proofs.YtngocadnbpdnoaaW.PrintLast Go.Proofs.YtngocadnbpdnoaaW.PrintMore
set_option linter.unusedVariables false
set_option linter.unusedSimpArgs false
set_option maxRecDepth 100000 in
set_option maxHeartbeats 8000000 in
theorem do_coll (f : Nat → Option PL) (N gp bn bh : Nat) (multi : Int) (now : PL) (held : List (Int × PL)) (o : OpS) (A : Option Addr) (c : Nat) (hdl : Int) (w : World) (hM : PM w f N gp bn bh multi now held) (hF : Fro w f N) (hO : OpWf o) (hh : u64wf hdl) (hN : N ≤ 1099511627776) (hk : o.f0 = 10) :
    Calls Try.prog 15 #[.pointer (some ⟨gp, 0, none⟩), .agg (opC o A c), .int .u64 hdl] w (DoPost w f (N + 1) gp bn bh ⟨multi, now, held⟩ (errD 0)) := by
  have hgl := hM.gl
  have hnl := hM.now.lt
  have hhl := hM.held.1.lt
  have HM := Lib.hid hM
  have HF := Lib.hid hF
  have HO := Lib.hid hO
  have HU := Lib.hid hh
  have hb0 : Below w.heap.size w (doW w o A c).drew := below_drew (doW_below w o A c)
  have hP0 := hM.kept (Kept.of_below hb0 (fun _ => False)) (fun e => e) (fun e => e) (fun e => e)
  have HS : (fun w' : World => w'.cell? ⟨gp, 1, none⟩ = some (.map (some bn)) ∧ w'.cell? ⟨w.heap.size, 1, none⟩ = some (.int .u64 o.f1) ∧ (Instr.lookup 97 (.map (some bn)) (.int .u64 o.f1) true).run Try.prog w' = .ok (.tuple #[.int .u64 ((fnd now o.f1).getD 0), .bool (fnd now o.f1).isSome]) w') (doW w o A c).drew :=
    ⟨hP0.c1, by rw [blk_cell (w := (doW w o A c).drew) (doW_op w o A c)]; rfl, now_look hP0.now hO.key⟩
  obtain ⟨vh, hvh, hrunh⟩ := held_look (hM.held.kept (Kept.of_below (below_drew (below_alloc (below_drew (doW_below w o A c)) (.cells (ansC 0 (fnd now o.f1).isSome ((fnd now o.f1).getD 0) false 0 (.slice none 0 0) 0) 26))) (fun _ => False)) (fun e => e)) hO.han
  have hW2 : Below w.heap.size w ((doW w o A c).drew.alloc (.cells (ansC 0 (fnd now o.f1).isSome ((fnd now o.f1).getD 0) false 0 (.slice none 0 0) 0) 26)).drew := below_drew (below_alloc (below_drew (doW_below w o A c)) _)
  have hP2 := hM.kept (Kept.of_below hW2 (fun _ => False)) (fun e => e) (fun e => e) (fun e => e)
  have hs2 : (doW w o A c).drew.heap.size = w.heap.size + 2 := doW_size w o A c
  have hop2 : ((doW w o A c).drew.alloc (.cells (ansC 0 (fnd now o.f1).isSome ((fnd now o.f1).getD 0) false 0 (.slice none 0 0) 0) 26)).drew.heap[w.heap.size]? = some (.cells (opC o A c) 39 (0, 0)) := ((below_alloc (Below.refl _ (doW w o A c).drew) _).block _ (by rw [hs2]; omega)).trans (doW_op w o A c)
  have hra2 : ((doW w o A c).drew.alloc (.cells (ansC 0 (fnd now o.f1).isSome ((fnd now o.f1).getD 0) false 0 (.slice none 0 0) 0) 26)).drew.heap[w.heap.size + 1]? = some (.cells (ansC 0 false 0 false 0 (.slice none 0 0) 0) 26 (0, 0)) := ((below_alloc (Below.refl _ (doW w o A c).drew) _).block _ (by rw [hs2]; omega)).trans (doW_ans w o A c)
  have hfa2 : ((doW w o A c).drew.alloc (.cells (ansC 0 (fnd now o.f1).isSome ((fnd now o.f1).getD 0) false 0 (.slice none 0 0) 0) 26)).drew.heap[w.heap.size + 2]? = some (.cells (ansC 0 (fnd now o.f1).isSome ((fnd now o.f1).getD 0) false 0 (.slice none 0 0) 0) 26 (0, 0)) := by
    have := heap_alloc_new (doW w o A c).drew (.cells (ansC 0 (fnd now o.f1).isSome ((fnd now o.f1).getD 0) false 0 (.slice none 0 0) 0) 26)
    rw [hs2] at this
    exact this
  have HS2 : (fun w' : World => w'.cell? ⟨gp, 2, none⟩ = some (.map (some bh)) ∧ w'.cell? ⟨w.heap.size, 4, none⟩ = some (.int .u64 o.f4) ∧ (Instr.lookup 98 (.map (some bh)) (.int .u64 o.f4) true).run Try.prog w' = .ok (.tuple #[vh, .bool (fnd held o.f4).isSome]) w') ((doW w o A c).drew.alloc (.cells (ansC 0 (fnd now o.f1).isSome ((fnd now o.f1).getD 0) false 0 (.slice none 0 0) 0) 26)).drew :=
    ⟨hP2.c2, by rw [blk_cell hop2]; rfl, hrunh⟩
  have hkd : ((doW w o A c).drew.alloc (.cells (ansC 0 (fnd now o.f1).isSome ((fnd now o.f1).getD 0) false 0 (.slice none 0 0) 0) 26)).drew.cell? ⟨w.heap.size, 0, none⟩ = some (.int .u8 10) := by rw [blk_cell hop2, ← hk]; rfl
  have HVH := Lib.hid hvh
  have HW2 := Lib.hid hW2
  have HP2 := Lib.hid hP2
  have HOP2 := Lib.hid hop2
  have HRA2 := Lib.hid hra2
  have HFA2 := Lib.hid hfa2
  have hfnd0 : (fnd now o.f1).isSome = (fnd now o.f1).isSome := rfl
  obtain ⟨fo, hfo⟩ : ∃ b : Bool, b = (fnd now o.f1).isSome := ⟨_, rfl⟩
  obtain ⟨fv, hfv⟩ : ∃ v : Int, v = (fnd now o.f1).getD 0 := ⟨_, rfl⟩
  obtain ⟨hd, hhd⟩ : ∃ b : Bool, b = (fnd held o.f4).isSome := ⟨_, rfl⟩
  rw [← hfo, ← hfv] at HS HS2 HW2 HP2 HOP2 HRA2 HFA2 hkd
  rw [← hhd] at HS2
  have HFO := Lib.hid hfo
  have HFV := Lib.hid hfv
  have HHD := Lib.hid hhd
  clear hM hF hO hh hb0 hP0 hvh hrunh hW2 hP2 hs2 hop2 hra2 hfa2 hfnd0 hfo hfv hhd
  obtain ⟨W1, hW1⟩ : ∃ W1, W1 = doW w o A c := ⟨_, rfl⟩
  have HW1 := Lib.hid hW1
  rw [← hW1] at HS HS2 HW2 HP2 HOP2 HRA2 HFA2 hkd
  go_enter Try.func15, Try.ntmps15
  go_wp2_with fail
  change Code.wp _ _ _ _ (doW w o A c)
  rw [← hW1]
  clear hW1
  go_region_held3 (fun w' => w'.cell? ⟨gp, 1, none⟩ = some (.map (some bn)) ∧ w'.cell? ⟨w.heap.size, 1, none⟩ = some (.int .u64 o.f1) ∧ (Instr.lookup 97 (.map (some bn)) (.int .u64 o.f1) true).run Try.prog w' = .ok (.tuple #[.int .u64 fv, .bool fo]) w')
    (first | go_keep | exact HS)
    (first | fail | fail)
  clear HS
  have hs1 : W1.heap.size = w.heap.size + 2 := by rw [HW1.out]; exact doW_size w o A c
  go_wp2_with fail
  obtain ⟨W2, hW2⟩ : ∃ W2, W2 = W1.drew.alloc (Obj.cells (ansC 0 fo fv false 0 (Value.slice none 0 0) 0) 26) := ⟨_, rfl⟩
  change Code.wp _ _ _ _ (W1.drew.alloc (Obj.cells (ansC 0 fo fv false 0 (Value.slice none 0 0) 0) 26))
  rw [← hW2] at HS2 HW2 HP2 HOP2 HRA2 HFA2 hkd ⊢
  clear hW2
  go_region_held3 (fun w' => w'.cell? ⟨gp, 2, none⟩ = some (.map (some bh)) ∧ w'.cell? ⟨w.heap.size, 4, none⟩ = some (.int .u64 o.f4) ∧ (Instr.lookup 98 (.map (some bh)) (.int .u64 o.f4) true).run Try.prog w' = .ok (.tuple #[vh, .bool hd]) w')
    (first | go_keep | exact HS2)
    (first | fail | fail)
  clear HS2
  obtain ⟨W, hW⟩ : ∃ W, W = W2.drew := ⟨_, rfl⟩
  rw [← hW] at HW2 HP2 HOP2 HRA2 HFA2 hkd ⊢
  clear hW
  have HL3 := Lib.hid (left_same (K := fun k => k = bn ∨ k = bh) HM.out HF.out HW2.out (Nat.le_succ N))
  have HFA3 := HFA2
  have HRA3 := HRA2
  obtain ⟨l0, l1, l2, l3, l4, l5, l6⟩ := ans_cells HFA3.out
  go_wp2_with (first | ((with_reducible refine gate_store (t := 26) (p := 6) rfl ?_); refine wpList_store_row rfl 26 (.tmp 6) (.tmp 121) rfl (w.heap.size + 1) (ansC 0 false 0 false 0 (.slice none 0 0) 0) rfl rfl 26 _ HRA3.out (by kernel_rfl) rfl (ansC_one _ _ _ _ _ _ _ _ _) ?_))
  refine bodyPost_ret (res_ans rfl _ rfl (setRow_heap _ _ _ _ _ _ HRA3.out)) rfl ⟨.slice none 0 0, by rfl, Kd.R_nil _ _ _ _ _, HL3.out.row (by omega) HRA3.out hgl hnl hhl _⟩
end Go.Proofs.Ytngocadnbpdnoaa.Mo
namespace Go.Proofs.Ytngocadnbpdnoaa.Mo
open Go Go.Maps Go.RowKit Go.Proofs.Ytngocadnbpdnoaa.Srt Go.Proofs.Ytngocadnbpdnoaa.Q Go.Proofs.YtngocadnbpdnoaaW.PrintWords Go.Proofs.YtngocadnbpdnoaaW.PrintLast Go.Proofs.YtngocadnbpdnoaaW.PrintMore
set_option linter.unusedVariables false
set_option linter.unusedSimpArgs false
set_option maxRecDepth 100000 in
set_option maxHeartbeats 8000000 in
theorem do_relN (f : Nat → Option PL) (N gp bn bh : Nat) (multi : Int) (now : PL) (held : List (Int × PL)) (o : OpS) (A : Option Addr) (c : Nat) (hdl : Int) (w : World) (hM : PM w f N gp bn bh multi now held) (hF : Fro w f N) (hO : OpWf o) (hh : u64wf hdl) (hN : N ≤ 1099511627776) (hk : o.f0 = 6) (hx : fnd held o.f4 = none) :
    Calls Try.prog 15 #[.pointer (some ⟨gp, 0, none⟩), .agg (opC o A c), .int .u64 hdl] w (DoPost w f (N + 1) gp bn bh ⟨multi, now, held⟩ (errD 33)) := by
  have hgl := hM.gl
  have hnl := hM.now.lt
  have hhl := hM.held.1.lt
  have HM := Lib.hid hM
  have HF := Lib.hid hF
  have HO := Lib.hid hO
  have HU := Lib.hid hh
  have hb0 : Below w.heap.size w (doW w o A c).drew := below_drew (doW_below w o A c)
  have hP0 := hM.kept (Kept.of_below hb0 (fun _ => False)) (fun e => e) (fun e => e) (fun e => e)
  have HS : (fun w' : World => w'.cell? ⟨gp, 1, none⟩ = some (.map (some bn)) ∧ w'.cell? ⟨w.heap.size, 1, none⟩ = some (.int .u64 o.f1) ∧ (Instr.lookup 97 (.map (some bn)) (.int .u64 o.f1) true).run Try.prog w' = .ok (.tuple #[.int .u64 ((fnd now o.f1).getD 0), .bool (fnd now o.f1).isSome]) w') (doW w o A c).drew :=
    ⟨hP0.c1, by rw [blk_cell (w := (doW w o A c).drew) (doW_op w o A c)]; rfl, now_look hP0.now hO.key⟩
  obtain ⟨vh, hvh, hrunh⟩ := held_look (hM.held.kept (Kept.of_below (below_drew (below_alloc (below_drew (doW_below w o A c)) (.cells (ansC 0 (fnd now o.f1).isSome ((fnd now o.f1).getD 0) false 0 (.slice none 0 0) 0) 26))) (fun _ => False)) (fun e => e)) hO.han
  have hW2 : Below w.heap.size w ((doW w o A c).drew.alloc (.cells (ansC 0 (fnd now o.f1).isSome ((fnd now o.f1).getD 0) false 0 (.slice none 0 0) 0) 26)).drew := below_drew (below_alloc (below_drew (doW_below w o A c)) _)
  have hP2 := hM.kept (Kept.of_below hW2 (fun _ => False)) (fun e => e) (fun e => e) (fun e => e)
  have hs2 : (doW w o A c).drew.heap.size = w.heap.size + 2 := doW_size w o A c
  have hop2 : ((doW w o A c).drew.alloc (.cells (ansC 0 (fnd now o.f1).isSome ((fnd now o.f1).getD 0) false 0 (.slice none 0 0) 0) 26)).drew.heap[w.heap.size]? = some (.cells (opC o A c) 39 (0, 0)) := ((below_alloc (Below.refl _ (doW w o A c).drew) _).block _ (by rw [hs2]; omega)).trans (doW_op w o A c)
  have hra2 : ((doW w o A c).drew.alloc (.cells (ansC 0 (fnd now o.f1).isSome ((fnd now o.f1).getD 0) false 0 (.slice none 0 0) 0) 26)).drew.heap[w.heap.size + 1]? = some (.cells (ansC 0 false 0 false 0 (.slice none 0 0) 0) 26 (0, 0)) := ((below_alloc (Below.refl _ (doW w o A c).drew) _).block _ (by rw [hs2]; omega)).trans (doW_ans w o A c)
  have hfa2 : ((doW w o A c).drew.alloc (.cells (ansC 0 (fnd now o.f1).isSome ((fnd now o.f1).getD 0) false 0 (.slice none 0 0) 0) 26)).drew.heap[w.heap.size + 2]? = some (.cells (ansC 0 (fnd now o.f1).isSome ((fnd now o.f1).getD 0) false 0 (.slice none 0 0) 0) 26 (0, 0)) := by
    have := heap_alloc_new (doW w o A c).drew (.cells (ansC 0 (fnd now o.f1).isSome ((fnd now o.f1).getD 0) false 0 (.slice none 0 0) 0) 26)
    rw [hs2] at this
    exact this
  have HS2 : (fun w' : World => w'.cell? ⟨gp, 2, none⟩ = some (.map (some bh)) ∧ w'.cell? ⟨w.heap.size, 4, none⟩ = some (.int .u64 o.f4) ∧ (Instr.lookup 98 (.map (some bh)) (.int .u64 o.f4) true).run Try.prog w' = .ok (.tuple #[vh, .bool (fnd held o.f4).isSome]) w') ((doW w o A c).drew.alloc (.cells (ansC 0 (fnd now o.f1).isSome ((fnd now o.f1).getD 0) false 0 (.slice none 0 0) 0) 26)).drew :=
    ⟨hP2.c2, by rw [blk_cell hop2]; rfl, hrunh⟩
  have hkd : ((doW w o A c).drew.alloc (.cells (ansC 0 (fnd now o.f1).isSome ((fnd now o.f1).getD 0) false 0 (.slice none 0 0) 0) 26)).drew.cell? ⟨w.heap.size, 0, none⟩ = some (.int .u8 6) := by rw [blk_cell hop2, ← hk]; rfl
  have HVH := Lib.hid hvh
  have HW2 := Lib.hid hW2
  have HP2 := Lib.hid hP2
  have HOP2 := Lib.hid hop2
  have HRA2 := Lib.hid hra2
  have HFA2 := Lib.hid hfa2
  have hfnd0 : (fnd now o.f1).isSome = (fnd now o.f1).isSome := rfl
  obtain ⟨fo, hfo⟩ : ∃ b : Bool, b = (fnd now o.f1).isSome := ⟨_, rfl⟩
  obtain ⟨fv, hfv⟩ : ∃ v : Int, v = (fnd now o.f1).getD 0 := ⟨_, rfl⟩
  obtain ⟨hd, hhd⟩ : ∃ b : Bool, b = (fnd held o.f4).isSome := ⟨_, rfl⟩
  rw [← hfo, ← hfv] at HS HS2 HW2 HP2 HOP2 HRA2 HFA2 hkd
  rw [← hhd] at HS2
  have HFO := Lib.hid hfo
  have HFV := Lib.hid hfv
  have HHD := Lib.hid hhd
  clear hM hF hO hh hb0 hP0 hvh hrunh hW2 hP2 hs2 hop2 hra2 hfa2 hfnd0 hfo hfv hhd
  obtain ⟨W1, hW1⟩ : ∃ W1, W1 = doW w o A c := ⟨_, rfl⟩
  have HW1 := Lib.hid hW1
  rw [← hW1] at HS HS2 HW2 HP2 HOP2 HRA2 HFA2 hkd
  go_enter Try.func15, Try.ntmps15
  go_wp2_with fail
  change Code.wp _ _ _ _ (doW w o A c)
  rw [← hW1]
  clear hW1
  go_region_held3 (fun w' => w'.cell? ⟨gp, 1, none⟩ = some (.map (some bn)) ∧ w'.cell? ⟨w.heap.size, 1, none⟩ = some (.int .u64 o.f1) ∧ (Instr.lookup 97 (.map (some bn)) (.int .u64 o.f1) true).run Try.prog w' = .ok (.tuple #[.int .u64 fv, .bool fo]) w')
    (first | go_keep | exact HS)
    (first | fail | fail)
  clear HS
  have hs1 : W1.heap.size = w.heap.size + 2 := by rw [HW1.out]; exact doW_size w o A c
  go_wp2_with fail
  obtain ⟨W2, hW2⟩ : ∃ W2, W2 = W1.drew.alloc (Obj.cells (ansC 0 fo fv false 0 (Value.slice none 0 0) 0) 26) := ⟨_, rfl⟩
  change Code.wp _ _ _ _ (W1.drew.alloc (Obj.cells (ansC 0 fo fv false 0 (Value.slice none 0 0) 0) 26))
  rw [← hW2] at HS2 HW2 HP2 HOP2 HRA2 HFA2 hkd ⊢
  clear hW2
  go_region_held3 (fun w' => w'.cell? ⟨gp, 2, none⟩ = some (.map (some bh)) ∧ w'.cell? ⟨w.heap.size, 4, none⟩ = some (.int .u64 o.f4) ∧ (Instr.lookup 98 (.map (some bh)) (.int .u64 o.f4) true).run Try.prog w' = .ok (.tuple #[vh, .bool hd]) w')
    (first | go_keep | exact HS2)
    (first | fail | fail)
  clear HS2
  obtain ⟨W, hW⟩ : ∃ W, W = W2.drew := ⟨_, rfl⟩
  rw [← hW] at HW2 HP2 HOP2 HRA2 HFA2 hkd ⊢
  clear hW
  obtain rfl : hd = false := by rw [HHD.out, hx]; rfl
  have HL3 := Lib.hid (left_same (K := fun k => k = bn ∨ k = bh) HM.out HF.out HW2.out (Nat.le_succ N))
  have HFA3 := HFA2
  have HRA3 := HRA2
  obtain ⟨l0, l1, l2, l3, l4, l5, l6⟩ := ans_cells HFA3.out
  go_wp2_with (first | ((with_reducible refine gate_store (t := 26) (p := 6) rfl ?_); refine wpList_store_row rfl 26 (.tmp 6) (.tmp 98) rfl (w.heap.size + 1) (ansC 33 false 0 false 0 (.slice none 0 0) 0) rfl rfl 26 _ HRA3.out (by kernel_rfl) rfl (ansC_one _ _ _ _ _ _ _ _ _) ?_))
  refine bodyPost_ret (res_ans rfl _ rfl (setRow_heap _ _ _ _ _ _ HRA3.out)) rfl ⟨.slice none 0 0, by rfl, Kd.R_nil _ _ _ _ _, HL3.out.row (by omega) HRA3.out hgl hnl hhl _⟩
end Go.Proofs.Ytngocadnbpdnoaa.Mo
namespace Go.Proofs.Ytngocadnbpdnoaa.Mo
open Go Go.Maps Go.RowKit Go.Proofs.Ytngocadnbpdnoaa.Srt Go.Proofs.Ytngocadnbpdnoaa.Q Go.Proofs.YtngocadnbpdnoaaW.PrintWords Go.Proofs.YtngocadnbpdnoaaW.PrintLast Go.Proofs.YtngocadnbpdnoaaW.PrintMore
set_option linter.unusedVariables false
set_option linter.unusedSimpArgs false
set_option maxRecDepth 100000 in
set_option maxHeartbeats 8000000 in
theorem do_swapY (f : Nat → Option PL) (N gp bn bh : Nat) (multi : Int) (now : PL) (held : List (Int × PL)) (o : OpS) (A : Option Addr) (c : Nat) (hdl : Int) (w : World) (hM : PM w f N gp bn bh multi now held) (hF : Fro w f N) (hO : OpWf o) (hh : u64wf hdl) (hN : N ≤ 1099511627776) (hk : o.f0 = 4) (hx : fnd now o.f1 = some o.f3) :
    Calls Try.prog 15 #[.pointer (some ⟨gp, 0, none⟩), .agg (opC o A c), .int .u64 hdl] w (DoPost w f (N + 1) gp bn bh ⟨multi, put now o.f1 o.f2, held⟩ { foundD ⟨multi, now, held⟩ o with dn := true }) := by
  have hgl := hM.gl
  have hnl := hM.now.lt
  have hhl := hM.held.1.lt
  have HM := Lib.hid hM
  have HF := Lib.hid hF
  have HO := Lib.hid hO
  have HU := Lib.hid hh
  have hb0 : Below w.heap.size w (doW w o A c).drew := below_drew (doW_below w o A c)
  have hP0 := hM.kept (Kept.of_below hb0 (fun _ => False)) (fun e => e) (fun e => e) (fun e => e)
  have HS : (fun w' : World => w'.cell? ⟨gp, 1, none⟩ = some (.map (some bn)) ∧ w'.cell? ⟨w.heap.size, 1, none⟩ = some (.int .u64 o.f1) ∧ (Instr.lookup 97 (.map (some bn)) (.int .u64 o.f1) true).run Try.prog w' = .ok (.tuple #[.int .u64 ((fnd now o.f1).getD 0), .bool (fnd now o.f1).isSome]) w') (doW w o A c).drew :=
    ⟨hP0.c1, by rw [blk_cell (w := (doW w o A c).drew) (doW_op w o A c)]; rfl, now_look hP0.now hO.key⟩
  obtain ⟨vh, hvh, hrunh⟩ := held_look (hM.held.kept (Kept.of_below (below_drew (below_alloc (below_drew (doW_below w o A c)) (.cells (ansC 0 (fnd now o.f1).isSome ((fnd now o.f1).getD 0) false 0 (.slice none 0 0) 0) 26))) (fun _ => False)) (fun e => e)) hO.han
  have hW2 : Below w.heap.size w ((doW w o A c).drew.alloc (.cells (ansC 0 (fnd now o.f1).isSome ((fnd now o.f1).getD 0) false 0 (.slice none 0 0) 0) 26)).drew := below_drew (below_alloc (below_drew (doW_below w o A c)) _)
  have hP2 := hM.kept (Kept.of_below hW2 (fun _ => False)) (fun e => e) (fun e => e) (fun e => e)
  have hs2 : (doW w o A c).drew.heap.size = w.heap.size + 2 := doW_size w o A c
  have hop2 : ((doW w o A c).drew.alloc (.cells (ansC 0 (fnd now o.f1).isSome ((fnd now o.f1).getD 0) false 0 (.slice none 0 0) 0) 26)).drew.heap[w.heap.size]? = some (.cells (opC o A c) 39 (0, 0)) := ((below_alloc (Below.refl _ (doW w o A c).drew) _).block _ (by rw [hs2]; omega)).trans (doW_op w o A c)
  have hra2 : ((doW w o A c).drew.alloc (.cells (ansC 0 (fnd now o.f1).isSome ((fnd now o.f1).getD 0) false 0 (.slice none 0 0) 0) 26)).drew.heap[w.heap.size + 1]? = some (.cells (ansC 0 false 0 false 0 (.slice none 0 0) 0) 26 (0, 0)) := ((below_alloc (Below.refl _ (doW w o A c).drew) _).block _ (by rw [hs2]; omega)).trans (doW_ans w o A c)
  have hfa2 : ((doW w o A c).drew.alloc (.cells (ansC 0 (fnd now o.f1).isSome ((fnd now o.f1).getD 0) false 0 (.slice none 0 0) 0) 26)).drew.heap[w.heap.size + 2]? = some (.cells (ansC 0 (fnd now o.f1).isSome ((fnd now o.f1).getD 0) false 0 (.slice none 0 0) 0) 26 (0, 0)) := by
    have := heap_alloc_new (doW w o A c).drew (.cells (ansC 0 (fnd now o.f1).isSome ((fnd now o.f1).getD 0) false 0 (.slice none 0 0) 0) 26)
    rw [hs2] at this
    exact this
  have HS2 : (fun w' : World => w'.cell? ⟨gp, 2, none⟩ = some (.map (some bh)) ∧ w'.cell? ⟨w.heap.size, 4, none⟩ = some (.int .u64 o.f4) ∧ (Instr.lookup 98 (.map (some bh)) (.int .u64 o.f4) true).run Try.prog w' = .ok (.tuple #[vh, .bool (fnd held o.f4).isSome]) w') ((doW w o A c).drew.alloc (.cells (ansC 0 (fnd now o.f1).isSome ((fnd now o.f1).getD 0) false 0 (.slice none 0 0) 0) 26)).drew :=
    ⟨hP2.c2, by rw [blk_cell hop2]; rfl, hrunh⟩
  have hkd : ((doW w o A c).drew.alloc (.cells (ansC 0 (fnd now o.f1).isSome ((fnd now o.f1).getD 0) false 0 (.slice none 0 0) 0) 26)).drew.cell? ⟨w.heap.size, 0, none⟩ = some (.int .u8 4) := by rw [blk_cell hop2, ← hk]; rfl
  have HVH := Lib.hid hvh
  have HW2 := Lib.hid hW2
  have HP2 := Lib.hid hP2
  have HOP2 := Lib.hid hop2
  have HRA2 := Lib.hid hra2
  have HFA2 := Lib.hid hfa2
  have hfnd0 : (fnd now o.f1).isSome = (fnd now o.f1).isSome := rfl
  obtain ⟨fo, hfo⟩ : ∃ b : Bool, b = (fnd now o.f1).isSome := ⟨_, rfl⟩
  obtain ⟨fv, hfv⟩ : ∃ v : Int, v = (fnd now o.f1).getD 0 := ⟨_, rfl⟩
  obtain ⟨hd, hhd⟩ : ∃ b : Bool, b = (fnd held o.f4).isSome := ⟨_, rfl⟩
  rw [← hfo, ← hfv] at HS HS2 HW2 HP2 HOP2 HRA2 HFA2 hkd
  rw [← hhd] at HS2
  have HFO := Lib.hid hfo
  have HFV := Lib.hid hfv
  have HHD := Lib.hid hhd
  clear hM hF hO hh hb0 hP0 hvh hrunh hW2 hP2 hs2 hop2 hra2 hfa2 hfnd0 hfo hfv hhd
  obtain ⟨W1, hW1⟩ : ∃ W1, W1 = doW w o A c := ⟨_, rfl⟩
  have HW1 := Lib.hid hW1
  rw [← hW1] at HS HS2 HW2 HP2 HOP2 HRA2 HFA2 hkd
  go_enter Try.func15, Try.ntmps15
  go_wp2_with fail
  change Code.wp _ _ _ _ (doW w o A c)
  rw [← hW1]
  clear hW1
  go_region_held3 (fun w' => w'.cell? ⟨gp, 1, none⟩ = some (.map (some bn)) ∧ w'.cell? ⟨w.heap.size, 1, none⟩ = some (.int .u64 o.f1) ∧ (Instr.lookup 97 (.map (some bn)) (.int .u64 o.f1) true).run Try.prog w' = .ok (.tuple #[.int .u64 fv, .bool fo]) w')
    (first | go_keep | exact HS)
    (first | fail | fail)
  clear HS
  have hs1 : W1.heap.size = w.heap.size + 2 := by rw [HW1.out]; exact doW_size w o A c
  go_wp2_with fail
  obtain ⟨W2, hW2⟩ : ∃ W2, W2 = W1.drew.alloc (Obj.cells (ansC 0 fo fv false 0 (Value.slice none 0 0) 0) 26) := ⟨_, rfl⟩
  change Code.wp _ _ _ _ (W1.drew.alloc (Obj.cells (ansC 0 fo fv false 0 (Value.slice none 0 0) 0) 26))
  rw [← hW2] at HS2 HW2 HP2 HOP2 HRA2 HFA2 hkd ⊢
  clear hW2
  go_region_held3 (fun w' => w'.cell? ⟨gp, 2, none⟩ = some (.map (some bh)) ∧ w'.cell? ⟨w.heap.size, 4, none⟩ = some (.int .u64 o.f4) ∧ (Instr.lookup 98 (.map (some bh)) (.int .u64 o.f4) true).run Try.prog w' = .ok (.tuple #[vh, .bool hd]) w')
    (first | go_keep | exact HS2)
    (first | fail | fail)
  clear HS2
  obtain ⟨W, hW⟩ : ∃ W, W = W2.drew := ⟨_, rfl⟩
  rw [← hW] at HW2 HP2 HOP2 HRA2 HFA2 hkd ⊢
  clear hW
  obtain rfl : fo = true := by rw [HFO.out, hx]; rfl
  obtain rfl : fv = o.f3 := by rw [HFV.out, hx]; rfl
  have hcD : W.cell? ⟨w.heap.size, 3, none⟩ = some (.int .u64 o.f3) := by rw [blk_cell HOP2.out]; rfl
  obtain ⟨w3, hrun3, ho3, hg3⟩ := now_put (w := W.drew) HP2.out.now HO.out.key HO.out.val (by unfold maxLen; omega)
  replace hg3 := grown_undrew hg3
  have HL3 := Lib.hid (left_now HP2.out (HF.out.kept (Kept.of_below HW2.out (fun _ => False)) (fun _ _ _ e => e)) HW2.out ho3 hg3)
  have hk3 : Kept W w3 (fun k => k = bn) := Kept.of_grown hg3 (Kept.refl _ _) (fun k e => .inl (by cases e; rfl))
  have hcA := HP2.out.c1
  have hcB : W.cell? ⟨w.heap.size, 1, none⟩ = some (.int .u64 o.f1) := by rw [blk_cell HOP2.out]; rfl
  have hcC : W.cell? ⟨w.heap.size, 2, none⟩ = some (.int .u64 o.f2) := by rw [blk_cell HOP2.out]; rfl
  have hdA : w3.cell? ⟨gp, 1, none⟩ = some (.map (some bn)) := cell_kept hcA hk3 HM.out.gn
  have hdB := cell_kept hcB hk3 (show ¬ w.heap.size = bn by omega)
  have hdC := cell_kept hcC hk3 (show ¬ w.heap.size = bn by omega)
  have HFA3 := Lib.hid (blk_kept HFA2.out hk3 (show ¬ w.heap.size + 2 = bn by omega))
  have HRA3 := Lib.hid (blk_kept HRA2.out hk3 (show ¬ w.heap.size + 1 = bn by omega))
  clear hk3 ho3 hg3
  go_wp2_with fail
  go_region_held3 (fun w' => w'.cell? ⟨gp, 1, none⟩ = some (.map (some bn)) ∧ w'.cell? ⟨w.heap.size, 1, none⟩ = some (.int .u64 o.f1) ∧ w'.cell? ⟨w.heap.size, 2, none⟩ = some (.int .u64 o.f2))
    (first | go_keep | exact ⟨hcA, hcB, hcC⟩ | exact ⟨hdA, hdB, hdC⟩)
    (first | fail | fail)
  clear hcA hcB hcC hdA hdB hdC hrun3 hcD
  have hsc : w3.setCell ⟨w.heap.size + 2, 3, none⟩ (.bool true) = w3.setRow (w.heap.size + 2) (ansC 0 true o.f3 true 0 (.slice none 0 0) 0) := setCell_eq_setRow w3 (w.heap.size + 2) 3 _ _ _ (.bool true) HFA3.out
  have HFA4 := Lib.hid (setRow_heap w3 (w.heap.size + 2) _ (ansC 0 true o.f3 true 0 (.slice none 0 0) 0) _ _ HFA3.out)
  have HRA4 := Lib.hid ((setRow_other w3 (w.heap.size + 2) (w.heap.size + 1) (ansC 0 true o.f3 true 0 (.slice none 0 0) 0) (by omega)).trans HRA3.out)
  have HL4 := Lib.hid (HL3.out.row (g := w.heap.size + 2) (by omega) HFA3.out hgl hnl hhl (ansC 0 true o.f3 true 0 (.slice none 0 0) 0))
  have hd3 : w3.cell? ⟨w.heap.size + 2, 3, none⟩ = some (.bool false) := by rw [blk_cell HFA3.out]; rfl
  have hf3 : w3.frozen? ⟨w.heap.size + 2, 3, none⟩ = false := by simp [World.frozen?, HFA3.out]
  clear HFA3 HRA3 HL3
  have HFA3 := HFA4
  have HRA3 := HRA4
  have HL3 := HL4
  clear HFA4 HRA4 HL4
  obtain ⟨w4, hw4⟩ : ∃ w4, w4 = w3.setRow (w.heap.size + 2) (ansC 0 true o.f3 true 0 (.slice none 0 0) 0) := ⟨_, rfl⟩
  rw [← hw4] at hsc HFA3 HRA3 HL3
  clear hw4
  obtain ⟨l0, l1, l2, l3, l4, l5, l6⟩ := ans_cells HFA3.out
  go_wp2_with (first | ((with_reducible refine gate_store (t := 26) (p := 6) rfl ?_); refine wpList_store_row rfl 26 (.tmp 6) (.tmp 92) rfl (w.heap.size + 1) (ansC 0 true o.f3 true 0 (.slice none 0 0) 0) rfl rfl 26 _ HRA3.out (by kernel_rfl) rfl (ansC_one _ _ _ _ _ _ _ _ _) ?_))
  refine bodyPost_ret (res_ans rfl _ rfl (setRow_heap _ _ _ _ _ _ HRA3.out)) rfl ⟨.slice none 0 0, by (simp only [foundD, hx]; rfl), Kd.R_nil _ _ _ _ _, HL3.out.row (by omega) HRA3.out hgl hnl hhl _⟩
end Go.Proofs.Ytngocadnbpdnoaa.Mo
namespace Go.Proofs.Ytngocadnbpdnoaa.Mo
open Go Go.Maps Go.RowKit Go.Proofs.Ytngocadnbpdnoaa.Srt Go.Proofs.Ytngocadnbpdnoaa.Q Go.Proofs.YtngocadnbpdnoaaW.PrintWords Go.Proofs.YtngocadnbpdnoaaW.PrintLast Go.Proofs.YtngocadnbpdnoaaW.PrintMore
set_option linter.unusedVariables false
set_option linter.unusedSimpArgs false
set_option maxRecDepth 100000 in
set_option maxHeartbeats 8000000 in
theorem do_swapN (f : Nat → Option PL) (N gp bn bh : Nat) (multi : Int) (now : PL) (held : List (Int × PL)) (o : OpS) (A : Option Addr) (c : Nat) (hdl : Int) (w : World) (hM : PM w f N gp bn bh multi now held) (hF : Fro w f N) (hO : OpWf o) (hh : u64wf hdl) (hN : N ≤ 1099511627776) (hk : o.f0 = 4) (hx : ¬ fnd now o.f1 = some o.f3) :
    Calls Try.prog 15 #[.pointer (some ⟨gp, 0, none⟩), .agg (opC o A c), .int .u64 hdl] w (DoPost w f (N + 1) gp bn bh ⟨multi, now, held⟩ (foundD ⟨multi, now, held⟩ o)) := by
  have hgl := hM.gl
  have hnl := hM.now.lt
  have hhl := hM.held.1.lt
  have HM := Lib.hid hM
  have HF := Lib.hid hF
  have HO := Lib.hid hO
  have HU := Lib.hid hh
  have hb0 : Below w.heap.size w (doW w o A c).drew := below_drew (doW_below w o A c)
  have hP0 := hM.kept (Kept.of_below hb0 (fun _ => False)) (fun e => e) (fun e => e) (fun e => e)
  have HS : (fun w' : World => w'.cell? ⟨gp, 1, none⟩ = some (.map (some bn)) ∧ w'.cell? ⟨w.heap.size, 1, none⟩ = some (.int .u64 o.f1) ∧ (Instr.lookup 97 (.map (some bn)) (.int .u64 o.f1) true).run Try.prog w' = .ok (.tuple #[.int .u64 ((fnd now o.f1).getD 0), .bool (fnd now o.f1).isSome]) w') (doW w o A c).drew :=
    ⟨hP0.c1, by rw [blk_cell (w := (doW w o A c).drew) (doW_op w o A c)]; rfl, now_look hP0.now hO.key⟩
  obtain ⟨vh, hvh, hrunh⟩ := held_look (hM.held.kept (Kept.of_below (below_drew (below_alloc (below_drew (doW_below w o A c)) (.cells (ansC 0 (fnd now o.f1).isSome ((fnd now o.f1).getD 0) false 0 (.slice none 0 0) 0) 26))) (fun _ => False)) (fun e => e)) hO.han
  have hW2 : Below w.heap.size w ((doW w o A c).drew.alloc (.cells (ansC 0 (fnd now o.f1).isSome ((fnd now o.f1).getD 0) false 0 (.slice none 0 0) 0) 26)).drew := below_drew (below_alloc (below_drew (doW_below w o A c)) _)
  have hP2 := hM.kept (Kept.of_below hW2 (fun _ => False)) (fun e => e) (fun e => e) (fun e => e)
  have hs2 : (doW w o A c).drew.heap.size = w.heap.size + 2 := doW_size w o A c
  have hop2 : ((doW w o A c).drew.alloc (.cells (ansC 0 (fnd now o.f1).isSome ((fnd now o.f1).getD 0) false 0 (.slice none 0 0) 0) 26)).drew.heap[w.heap.size]? = some (.cells (opC o A c) 39 (0, 0)) := ((below_alloc (Below.refl _ (doW w o A c).drew) _).block _ (by rw [hs2]; omega)).trans (doW_op w o A c)
  have hra2 : ((doW w o A c).drew.alloc (.cells (ansC 0 (fnd now o.f1).isSome ((fnd now o.f1).getD 0) false 0 (.slice none 0 0) 0) 26)).drew.heap[w.heap.size + 1]? = some (.cells (ansC 0 false 0 false 0 (.slice none 0 0) 0) 26 (0, 0)) := ((below_alloc (Below.refl _ (doW w o A c).drew) _).block _ (by rw [hs2]; omega)).trans (doW_ans w o A c)
  have hfa2 : ((doW w o A c).drew.alloc (.cells (ansC 0 (fnd now o.f1).isSome ((fnd now o.f1).getD 0) false 0 (.slice none 0 0) 0) 26)).drew.heap[w.heap.size + 2]? = some (.cells (ansC 0 (fnd now o.f1).isSome ((fnd now o.f1).getD 0) false 0 (.slice none 0 0) 0) 26 (0, 0)) := by
    have := heap_alloc_new (doW w o A c).drew (.cells (ansC 0 (fnd now o.f1).isSome ((fnd now o.f1).getD 0) false 0 (.slice none 0 0) 0) 26)
    rw [hs2] at this
    exact this
  have HS2 : (fun w' : World => w'.cell? ⟨gp, 2, none⟩ = some (.map (some bh)) ∧ w'.cell? ⟨w.heap.size, 4, none⟩ = some (.int .u64 o.f4) ∧ (Instr.lookup 98 (.map (some bh)) (.int .u64 o.f4) true).run Try.prog w' = .ok (.tuple #[vh, .bool (fnd held o.f4).isSome]) w') ((doW w o A c).drew.alloc (.cells (ansC 0 (fnd now o.f1).isSome ((fnd now o.f1).getD 0) false 0 (.slice none 0 0) 0) 26)).drew :=
    ⟨hP2.c2, by rw [blk_cell hop2]; rfl, hrunh⟩
  have hkd : ((doW w o A c).drew.alloc (.cells (ansC 0 (fnd now o.f1).isSome ((fnd now o.f1).getD 0) false 0 (.slice none 0 0) 0) 26)).drew.cell? ⟨w.heap.size, 0, none⟩ = some (.int .u8 4) := by rw [blk_cell hop2, ← hk]; rfl
  have HVH := Lib.hid hvh
  have HW2 := Lib.hid hW2
  have HP2 := Lib.hid hP2
  have HOP2 := Lib.hid hop2
  have HRA2 := Lib.hid hra2
  have HFA2 := Lib.hid hfa2
  have hfnd0 : (fnd now o.f1).isSome = (fnd now o.f1).isSome := rfl
  obtain ⟨fo, hfo⟩ : ∃ b : Bool, b = (fnd now o.f1).isSome := ⟨_, rfl⟩
  obtain ⟨fv, hfv⟩ : ∃ v : Int, v = (fnd now o.f1).getD 0 := ⟨_, rfl⟩
  obtain ⟨hd, hhd⟩ : ∃ b : Bool, b = (fnd held o.f4).isSome := ⟨_, rfl⟩
  rw [← hfo, ← hfv] at HS HS2 HW2 HP2 HOP2 HRA2 HFA2 hkd
  rw [← hhd] at HS2
  have HFO := Lib.hid hfo
  have HFV := Lib.hid hfv
  have HHD := Lib.hid hhd
  clear hM hF hO hh hb0 hP0 hvh hrunh hW2 hP2 hs2 hop2 hra2 hfa2 hfnd0 hfo hfv hhd
  obtain ⟨W1, hW1⟩ : ∃ W1, W1 = doW w o A c := ⟨_, rfl⟩
  have HW1 := Lib.hid hW1
  rw [← hW1] at HS HS2 HW2 HP2 HOP2 HRA2 HFA2 hkd
  go_enter Try.func15, Try.ntmps15
  go_wp2_with fail
  change Code.wp _ _ _ _ (doW w o A c)
  rw [← hW1]
  clear hW1
  go_region_held3 (fun w' => w'.cell? ⟨gp, 1, none⟩ = some (.map (some bn)) ∧ w'.cell? ⟨w.heap.size, 1, none⟩ = some (.int .u64 o.f1) ∧ (Instr.lookup 97 (.map (some bn)) (.int .u64 o.f1) true).run Try.prog w' = .ok (.tuple #[.int .u64 fv, .bool fo]) w')
    (first | go_keep | exact HS)
    (first | fail | fail)
  clear HS
  have hs1 : W1.heap.size = w.heap.size + 2 := by rw [HW1.out]; exact doW_size w o A c
  go_wp2_with fail
  obtain ⟨W2, hW2⟩ : ∃ W2, W2 = W1.drew.alloc (Obj.cells (ansC 0 fo fv false 0 (Value.slice none 0 0) 0) 26) := ⟨_, rfl⟩
  change Code.wp _ _ _ _ (W1.drew.alloc (Obj.cells (ansC 0 fo fv false 0 (Value.slice none 0 0) 0) 26))
  rw [← hW2] at HS2 HW2 HP2 HOP2 HRA2 HFA2 hkd ⊢
  clear hW2
  go_region_held3 (fun w' => w'.cell? ⟨gp, 2, none⟩ = some (.map (some bh)) ∧ w'.cell? ⟨w.heap.size, 4, none⟩ = some (.int .u64 o.f4) ∧ (Instr.lookup 98 (.map (some bh)) (.int .u64 o.f4) true).run Try.prog w' = .ok (.tuple #[vh, .bool hd]) w')
    (first | go_keep | exact HS2)
    (first | fail | fail)
  clear HS2
  obtain ⟨W, hW⟩ : ∃ W, W = W2.drew := ⟨_, rfl⟩
  rw [← hW] at HW2 HP2 HOP2 HRA2 HFA2 hkd ⊢
  clear hW
  by_cases hfo : fo = true
  · subst hfo
    have hne : (fv == o.f3) = false := by
      have h1 := HFO.out
      have h2 := HFV.out
      cases hq : fnd now o.f1 with
      | none => rw [hq] at h1; cases h1
      | some v0 =>
        rw [hq] at h2
        simp only [Option.getD_some] at h2
        rw [h2]
        simp only [beq_eq_false_iff_ne, ne_eq]
        intro e
        exact hx (by rw [hq, e])
    have hcD : W.cell? ⟨w.heap.size, 3, none⟩ = some (.int .u64 o.f3) := by rw [blk_cell HOP2.out]; rfl
    have HL3 := Lib.hid (left_same (K := fun k => k = bn ∨ k = bh) HM.out HF.out HW2.out (Nat.le_succ N))
    have HFA3 := HFA2
    have HRA3 := HRA2
    obtain ⟨l0, l1, l2, l3, l4, l5, l6⟩ := ans_cells HFA3.out
    go_wp2_with (first | ((with_reducible refine gate_store (t := 26) (p := 6) rfl ?_); refine wpList_store_row rfl 26 (.tmp 6) (.tmp 92) rfl (w.heap.size + 1) (ansC 0 true fv false 0 (.slice none 0 0) 0) rfl rfl 26 _ HRA3.out (by kernel_rfl) rfl (ansC_one _ _ _ _ _ _ _ _ _) ?_))
    refine bodyPost_ret (res_ans rfl _ rfl (setRow_heap _ _ _ _ _ _ HRA3.out)) rfl ⟨.slice none 0 0, by (simp only [foundD]; rw [← HFO.out, ← HFV.out]), Kd.R_nil _ _ _ _ _, HL3.out.row (by omega) HRA3.out hgl hnl hhl _⟩
  · obtain rfl : fo = false := by simpa using hfo
    have HL3 := Lib.hid (left_same (K := fun k => k = bn ∨ k = bh) HM.out HF.out HW2.out (Nat.le_succ N))
    have HFA3 := HFA2
    have HRA3 := HRA2
    obtain ⟨l0, l1, l2, l3, l4, l5, l6⟩ := ans_cells HFA3.out
    go_wp2_with (first | ((with_reducible refine gate_store (t := 26) (p := 6) rfl ?_); refine wpList_store_row rfl 26 (.tmp 6) (.tmp 92) rfl (w.heap.size + 1) (ansC 0 false fv false 0 (.slice none 0 0) 0) rfl rfl 26 _ HRA3.out (by kernel_rfl) rfl (ansC_one _ _ _ _ _ _ _ _ _) ?_))
    refine bodyPost_ret (res_ans rfl _ rfl (setRow_heap _ _ _ _ _ _ HRA3.out)) rfl ⟨.slice none 0 0, by (simp only [foundD]; rw [← HFO.out, ← HFV.out]), Kd.R_nil _ _ _ _ _, HL3.out.row (by omega) HRA3.out hgl hnl hhl _⟩
end Go.Proofs.Ytngocadnbpdnoaa.Mo
namespace Go.Proofs.Ytngocadnbpdnoaa.Mo
open Go Go.Maps Go.RowKit Go.Proofs.Ytngocadnbpdnoaa.Srt Go.Proofs.Ytngocadnbpdnoaa.Q Go.Proofs.YtngocadnbpdnoaaW.PrintWords Go.Proofs.YtngocadnbpdnoaaW.PrintLast Go.Proofs.YtngocadnbpdnoaaW.PrintMore
set_option linter.unusedVariables false
set_option linter.unusedSimpArgs false
set_option maxRecDepth 100000 in
set_option maxHeartbeats 8000000 in
theorem do_snap (f : Nat → Option PL) (N gp bn bh : Nat) (multi : Int) (now : PL) (held : List (Int × PL)) (o : OpS) (A : Option Addr) (c : Nat) (hdl : Int) (w : World) (hM : PM w f N gp bn bh multi now held) (hF : Fro w f N) (hO : OpWf o) (hh : u64wf hdl) (hN : N ≤ 1099511627776) (hk : o.f0 = 5) :
    Calls Try.prog 15 #[.pointer (some ⟨gp, 0, none⟩), .agg (opC o A c), .int .u64 hdl] w (DoPost w f (N + 1) gp bn bh ⟨multi, now, snapHeld hdl now held⟩ (snapD hdl held)) := by
  have hgl := hM.gl
  have hnl := hM.now.lt
  have hhl := hM.held.1.lt
  have HM := Lib.hid hM
  have HF := Lib.hid hF
  have HO := Lib.hid hO
  have HU := Lib.hid hh
  have hb0 : Below w.heap.size w (doW w o A c).drew := below_drew (doW_below w o A c)
  have hP0 := hM.kept (Kept.of_below hb0 (fun _ => False)) (fun e => e) (fun e => e) (fun e => e)
  have HS : (fun w' : World => w'.cell? ⟨gp, 1, none⟩ = some (.map (some bn)) ∧ w'.cell? ⟨w.heap.size, 1, none⟩ = some (.int .u64 o.f1) ∧ (Instr.lookup 97 (.map (some bn)) (.int .u64 o.f1) true).run Try.prog w' = .ok (.tuple #[.int .u64 ((fnd now o.f1).getD 0), .bool (fnd now o.f1).isSome]) w') (doW w o A c).drew :=
    ⟨hP0.c1, by rw [blk_cell (w := (doW w o A c).drew) (doW_op w o A c)]; rfl, now_look hP0.now hO.key⟩
  obtain ⟨vh, hvh, hrunh⟩ := held_look (hM.held.kept (Kept.of_below (below_drew (below_alloc (below_drew (doW_below w o A c)) (.cells (ansC 0 (fnd now o.f1).isSome ((fnd now o.f1).getD 0) false 0 (.slice none 0 0) 0) 26))) (fun _ => False)) (fun e => e)) hO.han
  have hW2 : Below w.heap.size w ((doW w o A c).drew.alloc (.cells (ansC 0 (fnd now o.f1).isSome ((fnd now o.f1).getD 0) false 0 (.slice none 0 0) 0) 26)).drew := below_drew (below_alloc (below_drew (doW_below w o A c)) _)
  have hP2 := hM.kept (Kept.of_below hW2 (fun _ => False)) (fun e => e) (fun e => e) (fun e => e)
  have hs2 : (doW w o A c).drew.heap.size = w.heap.size + 2 := doW_size w o A c
  have hop2 : ((doW w o A c).drew.alloc (.cells (ansC 0 (fnd now o.f1).isSome ((fnd now o.f1).getD 0) false 0 (.slice none 0 0) 0) 26)).drew.heap[w.heap.size]? = some (.cells (opC o A c) 39 (0, 0)) := ((below_alloc (Below.refl _ (doW w o A c).drew) _).block _ (by rw [hs2]; omega)).trans (doW_op w o A c)
  have hra2 : ((doW w o A c).drew.alloc (.cells (ansC 0 (fnd now o.f1).isSome ((fnd now o.f1).getD 0) false 0 (.slice none 0 0) 0) 26)).drew.heap[w.heap.size + 1]? = some (.cells (ansC 0 false 0 false 0 (.slice none 0 0) 0) 26 (0, 0)) := ((below_alloc (Below.refl _ (doW w o A c).drew) _).block _ (by rw [hs2]; omega)).trans (doW_ans w o A c)
  have hfa2 : ((doW w o A c).drew.alloc (.cells (ansC 0 (fnd now o.f1).isSome ((fnd now o.f1).getD 0) false 0 (.slice none 0 0) 0) 26)).drew.heap[w.heap.size + 2]? = some (.cells (ansC 0 (fnd now o.f1).isSome ((fnd now o.f1).getD 0) false 0 (.slice none 0 0) 0) 26 (0, 0)) := by
    have := heap_alloc_new (doW w o A c).drew (.cells (ansC 0 (fnd now o.f1).isSome ((fnd now o.f1).getD 0) false 0 (.slice none 0 0) 0) 26)
    rw [hs2] at this
    exact this
  have HS2 : (fun w' : World => w'.cell? ⟨gp, 2, none⟩ = some (.map (some bh)) ∧ w'.cell? ⟨w.heap.size, 4, none⟩ = some (.int .u64 o.f4) ∧ (Instr.lookup 98 (.map (some bh)) (.int .u64 o.f4) true).run Try.prog w' = .ok (.tuple #[vh, .bool (fnd held o.f4).isSome]) w') ((doW w o A c).drew.alloc (.cells (ansC 0 (fnd now o.f1).isSome ((fnd now o.f1).getD 0) false 0 (.slice none 0 0) 0) 26)).drew :=
    ⟨hP2.c2, by rw [blk_cell hop2]; rfl, hrunh⟩
  have hkd : ((doW w o A c).drew.alloc (.cells (ansC 0 (fnd now o.f1).isSome ((fnd now o.f1).getD 0) false 0 (.slice none 0 0) 0) 26)).drew.cell? ⟨w.heap.size, 0, none⟩ = some (.int .u8 5) := by rw [blk_cell hop2, ← hk]; rfl
  have HVH := Lib.hid hvh
  have HW2 := Lib.hid hW2
  have HP2 := Lib.hid hP2
  have HOP2 := Lib.hid hop2
  have HRA2 := Lib.hid hra2
  have HFA2 := Lib.hid hfa2
  have hfnd0 : (fnd now o.f1).isSome = (fnd now o.f1).isSome := rfl
  obtain ⟨fo, hfo⟩ : ∃ b : Bool, b = (fnd now o.f1).isSome := ⟨_, rfl⟩
  obtain ⟨fv, hfv⟩ : ∃ v : Int, v = (fnd now o.f1).getD 0 := ⟨_, rfl⟩
  obtain ⟨hd, hhd⟩ : ∃ b : Bool, b = (fnd held o.f4).isSome := ⟨_, rfl⟩
  rw [← hfo, ← hfv] at HS HS2 HW2 HP2 HOP2 HRA2 HFA2 hkd
  rw [← hhd] at HS2
  have HFO := Lib.hid hfo
  have HFV := Lib.hid hfv
  have HHD := Lib.hid hhd
  clear hM hF hO hh hb0 hP0 hvh hrunh hW2 hP2 hs2 hop2 hra2 hfa2 hfnd0 hfo hfv hhd
  obtain ⟨W1, hW1⟩ : ∃ W1, W1 = doW w o A c := ⟨_, rfl⟩
  have HW1 := Lib.hid hW1
  rw [← hW1] at HS HS2 HW2 HP2 HOP2 HRA2 HFA2 hkd
  go_enter Try.func15, Try.ntmps15
  go_wp2_with fail
  change Code.wp _ _ _ _ (doW w o A c)
  rw [← hW1]
  clear hW1
  go_region_held3 (fun w' => w'.cell? ⟨gp, 1, none⟩ = some (.map (some bn)) ∧ w'.cell? ⟨w.heap.size, 1, none⟩ = some (.int .u64 o.f1) ∧ (Instr.lookup 97 (.map (some bn)) (.int .u64 o.f1) true).run Try.prog w' = .ok (.tuple #[.int .u64 fv, .bool fo]) w')
    (first | go_keep | exact HS)
    (first | fail | fail)
  clear HS
  have hs1 : W1.heap.size = w.heap.size + 2 := by rw [HW1.out]; exact doW_size w o A c
  go_wp2_with fail
  obtain ⟨W2, hW2⟩ : ∃ W2, W2 = W1.drew.alloc (Obj.cells (ansC 0 fo fv false 0 (Value.slice none 0 0) 0) 26) := ⟨_, rfl⟩
  change Code.wp _ _ _ _ (W1.drew.alloc (Obj.cells (ansC 0 fo fv false 0 (Value.slice none 0 0) 0) 26))
  rw [← hW2] at HS2 HW2 HP2 HOP2 HRA2 HFA2 hkd ⊢
  clear hW2
  go_region_held3 (fun w' => w'.cell? ⟨gp, 2, none⟩ = some (.map (some bh)) ∧ w'.cell? ⟨w.heap.size, 4, none⟩ = some (.int .u64 o.f4) ∧ (Instr.lookup 98 (.map (some bh)) (.int .u64 o.f4) true).run Try.prog w' = .ok (.tuple #[vh, .bool hd]) w')
    (first | go_keep | exact HS2)
    (first | fail | fail)
  clear HS2
  obtain ⟨W, hW⟩ : ∃ W, W = W2.drew := ⟨_, rfl⟩
  rw [← hW] at HW2 HP2 HOP2 HRA2 HFA2 hkd ⊢
  clear hW
  have cS := snapshot_c f N gp bn bh multi now held hdl W HP2.out (HF.out.kept (Kept.of_below HW2.out (fun _ => False)) (fun _ _ _ e => e)) HU.out hN
  obtain ⟨e, vs, hsn⟩ : ∃ (e h : Int), snapAns hdl held = ansV e false 0 false h (.slice none 0 0) 0 ∧ snapD hdl held = ⟨e, false, 0, false, h, [], 0⟩ := by
    unfold snapAns snapD
    split
    · exact ⟨32, 0, rfl, rfl⟩
    · exact ⟨0, hdl, rfl, rfl⟩
  rw [hsn.1] at cS
  unfold ansV at cS
  go_wp2_with (first | (go_at_call 36; (refine cS.mono ?_; rintro e' w3 ⟨rfl, HL⟩; have HRA3 := Lib.hid (blk_kept HRA2.out HL.choose_spec.2.2.2.kept (show ¬ w.heap.size + 1 = bh by omega)); have HL3 := Lib.hid (HL.base (K' := fun k => k = bn ∨ k = bh) HW2.out (fun k e => Or.inr e)); clear HL)) | ((with_reducible refine gate_store (t := 26) (p := 6) rfl ?_); refine wpList_store_row rfl 26 (.tmp 6) (.tmp 95) rfl (w.heap.size + 1) (ansC e false 0 false vs (.slice none 0 0) 0) rfl rfl 26 _ HRA3.out (by kernel_rfl) rfl (ansC_one _ _ _ _ _ _ _ _ _) ?_))
  refine bodyPost_ret (res_ans rfl _ rfl (setRow_heap _ _ _ _ _ _ HRA3.out)) rfl ⟨.slice none 0 0, by rw [hsn.2], by rw [hsn.2]; exact Kd.R_nil _ _ _ _ _, HL3.out.row (by omega) HRA3.out hgl hnl hhl _⟩
end Go.Proofs.Ytngocadnbpdnoaa.Mo
namespace Go.Proofs.Ytngocadnbpdnoaa.Mo
open Go Go.Maps Go.RowKit Go.Proofs.Ytngocadnbpdnoaa.Srt Go.Proofs.Ytngocadnbpdnoaa.Q Go.Proofs.YtngocadnbpdnoaaW.PrintWords Go.Proofs.YtngocadnbpdnoaaW.PrintLast Go.Proofs.YtngocadnbpdnoaaW.PrintMore
set_option linter.unusedVariables false
set_option linter.unusedSimpArgs false
set_option maxRecDepth 100000 in
set_option maxHeartbeats 8000000 in
theorem do_relY (f : Nat → Option PL) (N gp bn bh : Nat) (multi : Int) (now : PL) (held : List (Int × PL)) (o : OpS) (A : Option Addr) (c : Nat) (hdl : Int) (w : World) (hM : PM w f N gp bn bh multi now held) (hF : Fro w f N) (hO : OpWf o) (hh : u64wf hdl) (hN : N ≤ 1099511627776) (hk : o.f0 = 6) (hx : (fnd held o.f4).isSome = true) :
    Calls Try.prog 15 #[.pointer (some ⟨gp, 0, none⟩), .agg (opC o A c), .int .u64 hdl] w (DoPost w f (N + 1) gp bn bh ⟨multi, now, del held o.f4⟩ (errD 0)) := by
  have hgl := hM.gl
  have hnl := hM.now.lt
  have hhl := hM.held.1.lt
  have HM := Lib.hid hM
  have HF := Lib.hid hF
  have HO := Lib.hid hO
  have HU := Lib.hid hh
  have hb0 : Below w.heap.size w (doW w o A c).drew := below_drew (doW_below w o A c)
  have hP0 := hM.kept (Kept.of_below hb0 (fun _ => False)) (fun e => e) (fun e => e) (fun e => e)
  have HS : (fun w' : World => w'.cell? ⟨gp, 1, none⟩ = some (.map (some bn)) ∧ w'.cell? ⟨w.heap.size, 1, none⟩ = some (.int .u64 o.f1) ∧ (Instr.lookup 97 (.map (some bn)) (.int .u64 o.f1) true).run Try.prog w' = .ok (.tuple #[.int .u64 ((fnd now o.f1).getD 0), .bool (fnd now o.f1).isSome]) w') (doW w o A c).drew :=
    ⟨hP0.c1, by rw [blk_cell (w := (doW w o A c).drew) (doW_op w o A c)]; rfl, now_look hP0.now hO.key⟩
  obtain ⟨vh, hvh, hrunh⟩ := held_look (hM.held.kept (Kept.of_below (below_drew (below_alloc (below_drew (doW_below w o A c)) (.cells (ansC 0 (fnd now o.f1).isSome ((fnd now o.f1).getD 0) false 0 (.slice none 0 0) 0) 26))) (fun _ => False)) (fun e => e)) hO.han
  have hW2 : Below w.heap.size w ((doW w o A c).drew.alloc (.cells (ansC 0 (fnd now o.f1).isSome ((fnd now o.f1).getD 0) false 0 (.slice none 0 0) 0) 26)).drew := below_drew (below_alloc (below_drew (doW_below w o A c)) _)
  have hP2 := hM.kept (Kept.of_below hW2 (fun _ => False)) (fun e => e) (fun e => e) (fun e => e)
  have hs2 : (doW w o A c).drew.heap.size = w.heap.size + 2 := doW_size w o A c
  have hop2 : ((doW w o A c).drew.alloc (.cells (ansC 0 (fnd now o.f1).isSome ((fnd now o.f1).getD 0) false 0 (.slice none 0 0) 0) 26)).drew.heap[w.heap.size]? = some (.cells (opC o A c) 39 (0, 0)) := ((below_alloc (Below.refl _ (doW w o A c).drew) _).block _ (by rw [hs2]; omega)).trans (doW_op w o A c)
  have hra2 : ((doW w o A c).drew.alloc (.cells (ansC 0 (fnd now o.f1).isSome ((fnd now o.f1).getD 0) false 0 (.slice none 0 0) 0) 26)).drew.heap[w.heap.size + 1]? = some (.cells (ansC 0 false 0 false 0 (.slice none 0 0) 0) 26 (0, 0)) := ((below_alloc (Below.refl _ (doW w o A c).drew) _).block _ (by rw [hs2]; omega)).trans (doW_ans w o A c)
  have hfa2 : ((doW w o A c).drew.alloc (.cells (ansC 0 (fnd now o.f1).isSome ((fnd now o.f1).getD 0) false 0 (.slice none 0 0) 0) 26)).drew.heap[w.heap.size + 2]? = some (.cells (ansC 0 (fnd now o.f1).isSome ((fnd now o.f1).getD 0) false 0 (.slice none 0 0) 0) 26 (0, 0)) := by
    have := heap_alloc_new (doW w o A c).drew (.cells (ansC 0 (fnd now o.f1).isSome ((fnd now o.f1).getD 0) false 0 (.slice none 0 0) 0) 26)
    rw [hs2] at this
    exact this
  have HS2 : (fun w' : World => w'.cell? ⟨gp, 2, none⟩ = some (.map (some bh)) ∧ w'.cell? ⟨w.heap.size, 4, none⟩ = some (.int .u64 o.f4) ∧ (Instr.lookup 98 (.map (some bh)) (.int .u64 o.f4) true).run Try.prog w' = .ok (.tuple #[vh, .bool (fnd held o.f4).isSome]) w') ((doW w o A c).drew.alloc (.cells (ansC 0 (fnd now o.f1).isSome ((fnd now o.f1).getD 0) false 0 (.slice none 0 0) 0) 26)).drew :=
    ⟨hP2.c2, by rw [blk_cell hop2]; rfl, hrunh⟩
  have hkd : ((doW w o A c).drew.alloc (.cells (ansC 0 (fnd now o.f1).isSome ((fnd now o.f1).getD 0) false 0 (.slice none 0 0) 0) 26)).drew.cell? ⟨w.heap.size, 0, none⟩ = some (.int .u8 6) := by rw [blk_cell hop2, ← hk]; rfl
  have HVH := Lib.hid hvh
  have HW2 := Lib.hid hW2
  have HP2 := Lib.hid hP2
  have HOP2 := Lib.hid hop2
  have HRA2 := Lib.hid hra2
  have HFA2 := Lib.hid hfa2
  have hfnd0 : (fnd now o.f1).isSome = (fnd now o.f1).isSome := rfl
  obtain ⟨fo, hfo⟩ : ∃ b : Bool, b = (fnd now o.f1).isSome := ⟨_, rfl⟩
  obtain ⟨fv, hfv⟩ : ∃ v : Int, v = (fnd now o.f1).getD 0 := ⟨_, rfl⟩
  obtain ⟨hd, hhd⟩ : ∃ b : Bool, b = (fnd held o.f4).isSome := ⟨_, rfl⟩
  rw [← hfo, ← hfv] at HS HS2 HW2 HP2 HOP2 HRA2 HFA2 hkd
  rw [← hhd] at HS2
  have HFO := Lib.hid hfo
  have HFV := Lib.hid hfv
  have HHD := Lib.hid hhd
  clear hM hF hO hh hb0 hP0 hvh hrunh hW2 hP2 hs2 hop2 hra2 hfa2 hfnd0 hfo hfv hhd
  obtain ⟨W1, hW1⟩ : ∃ W1, W1 = doW w o A c := ⟨_, rfl⟩
  have HW1 := Lib.hid hW1
  rw [← hW1] at HS HS2 HW2 HP2 HOP2 HRA2 HFA2 hkd
  go_enter Try.func15, Try.ntmps15
  go_wp2_with fail
  change Code.wp _ _ _ _ (doW w o A c)
  rw [← hW1]
  clear hW1
  go_region_held3 (fun w' => w'.cell? ⟨gp, 1, none⟩ = some (.map (some bn)) ∧ w'.cell? ⟨w.heap.size, 1, none⟩ = some (.int .u64 o.f1) ∧ (Instr.lookup 97 (.map (some bn)) (.int .u64 o.f1) true).run Try.prog w' = .ok (.tuple #[.int .u64 fv, .bool fo]) w')
    (first | go_keep | exact HS)
    (first | fail | fail)
  clear HS
  have hs1 : W1.heap.size = w.heap.size + 2 := by rw [HW1.out]; exact doW_size w o A c
  go_wp2_with fail
  obtain ⟨W2, hW2⟩ : ∃ W2, W2 = W1.drew.alloc (Obj.cells (ansC 0 fo fv false 0 (Value.slice none 0 0) 0) 26) := ⟨_, rfl⟩
  change Code.wp _ _ _ _ (W1.drew.alloc (Obj.cells (ansC 0 fo fv false 0 (Value.slice none 0 0) 0) 26))
  rw [← hW2] at HS2 HW2 HP2 HOP2 HRA2 HFA2 hkd ⊢
  clear hW2
  go_region_held3 (fun w' => w'.cell? ⟨gp, 2, none⟩ = some (.map (some bh)) ∧ w'.cell? ⟨w.heap.size, 4, none⟩ = some (.int .u64 o.f4) ∧ (Instr.lookup 98 (.map (some bh)) (.int .u64 o.f4) true).run Try.prog w' = .ok (.tuple #[vh, .bool hd]) w')
    (first | go_keep | exact HS2)
    (first | fail | fail)
  clear HS2
  obtain ⟨W, hW⟩ : ∃ W, W = W2.drew := ⟨_, rfl⟩
  rw [← hW] at HW2 HP2 HOP2 HRA2 HFA2 hkd ⊢
  clear hW
  obtain rfl : hd = true := by rw [HHD.out, hx]
  obtain ⟨w3, hrun3, ho3', hg3⟩ := held_del (w := W.drew) HP2.out.held HO.out.han 0
  have ho3 := ho3'.mono (Nat.le_succ N)
  clear ho3'
  replace hg3 := grown_undrew hg3
  have HL3 := Lib.hid (left_held HP2.out (HF.out.kept (Kept.of_below HW2.out (fun _ => False)) (fun _ _ _ e => e)) HW2.out ho3 hg3)
  have hk3 : Kept W w3 (fun k => k = bh) := Kept.of_grown hg3 (Kept.refl _ _) (fun k e => .inl (by cases e; rfl))
  have hcA := HP2.out.c2
  have hcB : W.cell? ⟨w.heap.size, 4, none⟩ = some (.int .u64 o.f4) := by rw [blk_cell HOP2.out]; rfl
  have hcC : W.cell? ⟨w.heap.size, 2, none⟩ = some (.int .u64 o.f2) := by rw [blk_cell HOP2.out]; rfl
  have hdA : w3.cell? ⟨gp, 2, none⟩ = some (.map (some bh)) := cell_kept hcA hk3 HM.out.gh
  have hdB := cell_kept hcB hk3 (show ¬ w.heap.size = bh by omega)
  have hdC := cell_kept hcC hk3 (show ¬ w.heap.size = bh by omega)
  have HFA3 := Lib.hid (blk_kept HFA2.out hk3 (show ¬ w.heap.size + 2 = bh by omega))
  have HRA3 := Lib.hid (blk_kept HRA2.out hk3 (show ¬ w.heap.size + 1 = bh by omega))
  clear hk3 ho3 hg3
  go_wp2_with fail
  go_region_held3 (fun w' => w'.cell? ⟨gp, 2, none⟩ = some (.map (some bh)) ∧ w'.cell? ⟨w.heap.size, 4, none⟩ = some (.int .u64 o.f4) ∧ w'.cell? ⟨w.heap.size, 2, none⟩ = some (.int .u64 o.f2))
    (first | go_keep | exact ⟨hcA, hcB, hcC⟩ | exact ⟨hdA, hdB, hdC⟩)
    (first | fail | fail)
  clear hcA hcB hcC hdA hdB hdC hrun3
  obtain ⟨l0, l1, l2, l3, l4, l5, l6⟩ := ans_cells HFA3.out
  go_wp2_with (first | ((with_reducible refine gate_store (t := 26) (p := 6) rfl ?_); refine wpList_store_row rfl 26 (.tmp 6) (.tmp 105) rfl (w.heap.size + 1) (ansC 0 false 0 false 0 (.slice none 0 0) 0) rfl rfl 26 _ HRA3.out (by kernel_rfl) rfl (ansC_one _ _ _ _ _ _ _ _ _) ?_))
  refine bodyPost_ret (res_ans rfl _ rfl (setRow_heap _ _ _ _ _ _ HRA3.out)) rfl ⟨.slice none 0 0, by rfl, Kd.R_nil _ _ _ _ _, HL3.out.row (by omega) HRA3.out hgl hnl hhl _⟩
end Go.Proofs.Ytngocadnbpdnoaa.Mo
namespace Go.Proofs.Ytngocadnbpdnoaa.Mo
open Go Go.Maps Go.RowKit Go.Proofs.Ytngocadnbpdnoaa.Srt Go.Proofs.Ytngocadnbpdnoaa.Q Go.Proofs.YtngocadnbpdnoaaW.PrintWords Go.Proofs.YtngocadnbpdnoaaW.PrintLast Go.Proofs.YtngocadnbpdnoaaW.PrintMore
set_option linter.unusedVariables false
set_option linter.unusedSimpArgs false
set_option maxRecDepth 100000 in
set_option maxHeartbeats 8000000 in
theorem do_mgLong (f : Nat → Option PL) (N gp bn bh : Nat) (multi : Int) (now : PL) (held : List (Int × PL)) (o : OpS) (A : Option Addr) (c : Nat) (hdl : Int) (w : World) (hM : PM w f N gp bn bh multi now held) (hF : Fro w f N) (hO : OpWf o) (hh : u64wf hdl) (hN : N ≤ 1099511627776) (hk : o.f0 = 7) (hl : multi < (o.f6.length : Int)) :
    Calls Try.prog 15 #[.pointer (some ⟨gp, 0, none⟩), .agg (opC o A c), .int .u64 hdl] w (DoPost w f (N + 1) gp bn bh ⟨multi, now, held⟩ (errD 6)) := by
  have hgl := hM.gl
  have hnl := hM.now.lt
  have hhl := hM.held.1.lt
  have HM := Lib.hid hM
  have HF := Lib.hid hF
  have HO := Lib.hid hO
  have HU := Lib.hid hh
  have hb0 : Below w.heap.size w (doW w o A c).drew := below_drew (doW_below w o A c)
  have hP0 := hM.kept (Kept.of_below hb0 (fun _ => False)) (fun e => e) (fun e => e) (fun e => e)
  have HS : (fun w' : World => w'.cell? ⟨gp, 1, none⟩ = some (.map (some bn)) ∧ w'.cell? ⟨w.heap.size, 1, none⟩ = some (.int .u64 o.f1) ∧ (Instr.lookup 97 (.map (some bn)) (.int .u64 o.f1) true).run Try.prog w' = .ok (.tuple #[.int .u64 ((fnd now o.f1).getD 0), .bool (fnd now o.f1).isSome]) w') (doW w o A c).drew :=
    ⟨hP0.c1, by rw [blk_cell (w := (doW w o A c).drew) (doW_op w o A c)]; rfl, now_look hP0.now hO.key⟩
  obtain ⟨vh, hvh, hrunh⟩ := held_look (hM.held.kept (Kept.of_below (below_drew (below_alloc (below_drew (doW_below w o A c)) (.cells (ansC 0 (fnd now o.f1).isSome ((fnd now o.f1).getD 0) false 0 (.slice none 0 0) 0) 26))) (fun _ => False)) (fun e => e)) hO.han
  have hW2 : Below w.heap.size w ((doW w o A c).drew.alloc (.cells (ansC 0 (fnd now o.f1).isSome ((fnd now o.f1).getD 0) false 0 (.slice none 0 0) 0) 26)).drew := below_drew (below_alloc (below_drew (doW_below w o A c)) _)
  have hP2 := hM.kept (Kept.of_below hW2 (fun _ => False)) (fun e => e) (fun e => e) (fun e => e)
  have hs2 : (doW w o A c).drew.heap.size = w.heap.size + 2 := doW_size w o A c
  have hop2 : ((doW w o A c).drew.alloc (.cells (ansC 0 (fnd now o.f1).isSome ((fnd now o.f1).getD 0) false 0 (.slice none 0 0) 0) 26)).drew.heap[w.heap.size]? = some (.cells (opC o A c) 39 (0, 0)) := ((below_alloc (Below.refl _ (doW w o A c).drew) _).block _ (by rw [hs2]; omega)).trans (doW_op w o A c)
  have hra2 : ((doW w o A c).drew.alloc (.cells (ansC 0 (fnd now o.f1).isSome ((fnd now o.f1).getD 0) false 0 (.slice none 0 0) 0) 26)).drew.heap[w.heap.size + 1]? = some (.cells (ansC 0 false 0 false 0 (.slice none 0 0) 0) 26 (0, 0)) := ((below_alloc (Below.refl _ (doW w o A c).drew) _).block _ (by rw [hs2]; omega)).trans (doW_ans w o A c)
  have hfa2 : ((doW w o A c).drew.alloc (.cells (ansC 0 (fnd now o.f1).isSome ((fnd now o.f1).getD 0) false 0 (.slice none 0 0) 0) 26)).drew.heap[w.heap.size + 2]? = some (.cells (ansC 0 (fnd now o.f1).isSome ((fnd now o.f1).getD 0) false 0 (.slice none 0 0) 0) 26 (0, 0)) := by
    have := heap_alloc_new (doW w o A c).drew (.cells (ansC 0 (fnd now o.f1).isSome ((fnd now o.f1).getD 0) false 0 (.slice none 0 0) 0) 26)
    rw [hs2] at this
    exact this
  have HS2 : (fun w' : World => w'.cell? ⟨gp, 2, none⟩ = some (.map (some bh)) ∧ w'.cell? ⟨w.heap.size, 4, none⟩ = some (.int .u64 o.f4) ∧ (Instr.lookup 98 (.map (some bh)) (.int .u64 o.f4) true).run Try.prog w' = .ok (.tuple #[vh, .bool (fnd held o.f4).isSome]) w') ((doW w o A c).drew.alloc (.cells (ansC 0 (fnd now o.f1).isSome ((fnd now o.f1).getD 0) false 0 (.slice none 0 0) 0) 26)).drew :=
    ⟨hP2.c2, by rw [blk_cell hop2]; rfl, hrunh⟩
  have hkd : ((doW w o A c).drew.alloc (.cells (ansC 0 (fnd now o.f1).isSome ((fnd now o.f1).getD 0) false 0 (.slice none 0 0) 0) 26)).drew.cell? ⟨w.heap.size, 0, none⟩ = some (.int .u8 7) := by rw [blk_cell hop2, ← hk]; rfl
  have HVH := Lib.hid hvh
  have HW2 := Lib.hid hW2
  have HP2 := Lib.hid hP2
  have HOP2 := Lib.hid hop2
  have HRA2 := Lib.hid hra2
  have HFA2 := Lib.hid hfa2
  have hfnd0 : (fnd now o.f1).isSome = (fnd now o.f1).isSome := rfl
  obtain ⟨fo, hfo⟩ : ∃ b : Bool, b = (fnd now o.f1).isSome := ⟨_, rfl⟩
  obtain ⟨fv, hfv⟩ : ∃ v : Int, v = (fnd now o.f1).getD 0 := ⟨_, rfl⟩
  obtain ⟨hd, hhd⟩ : ∃ b : Bool, b = (fnd held o.f4).isSome := ⟨_, rfl⟩
  rw [← hfo, ← hfv] at HS HS2 HW2 HP2 HOP2 HRA2 HFA2 hkd
  rw [← hhd] at HS2
  have HFO := Lib.hid hfo
  have HFV := Lib.hid hfv
  have HHD := Lib.hid hhd
  clear hM hF hO hh hb0 hP0 hvh hrunh hW2 hP2 hs2 hop2 hra2 hfa2 hfnd0 hfo hfv hhd
  obtain ⟨W1, hW1⟩ : ∃ W1, W1 = doW w o A c := ⟨_, rfl⟩
  have HW1 := Lib.hid hW1
  rw [← hW1] at HS HS2 HW2 HP2 HOP2 HRA2 HFA2 hkd
  go_enter Try.func15, Try.ntmps15
  go_wp2_with fail
  change Code.wp _ _ _ _ (doW w o A c)
  rw [← hW1]
  clear hW1
  go_region_held3 (fun w' => w'.cell? ⟨gp, 1, none⟩ = some (.map (some bn)) ∧ w'.cell? ⟨w.heap.size, 1, none⟩ = some (.int .u64 o.f1) ∧ (Instr.lookup 97 (.map (some bn)) (.int .u64 o.f1) true).run Try.prog w' = .ok (.tuple #[.int .u64 fv, .bool fo]) w')
    (first | go_keep | exact HS)
    (first | fail | fail)
  clear HS
  have hs1 : W1.heap.size = w.heap.size + 2 := by rw [HW1.out]; exact doW_size w o A c
  go_wp2_with fail
  obtain ⟨W2, hW2⟩ : ∃ W2, W2 = W1.drew.alloc (Obj.cells (ansC 0 fo fv false 0 (Value.slice none 0 0) 0) 26) := ⟨_, rfl⟩
  change Code.wp _ _ _ _ (W1.drew.alloc (Obj.cells (ansC 0 fo fv false 0 (Value.slice none 0 0) 0) 26))
  rw [← hW2] at HS2 HW2 HP2 HOP2 HRA2 HFA2 hkd ⊢
  clear hW2
  go_region_held3 (fun w' => w'.cell? ⟨gp, 2, none⟩ = some (.map (some bh)) ∧ w'.cell? ⟨w.heap.size, 4, none⟩ = some (.int .u64 o.f4) ∧ (Instr.lookup 98 (.map (some bh)) (.int .u64 o.f4) true).run Try.prog w' = .ok (.tuple #[vh, .bool hd]) w')
    (first | go_keep | exact HS2)
    (first | fail | fail)
  clear HS2
  obtain ⟨W, hW⟩ : ∃ W, W = W2.drew := ⟨_, rfl⟩
  rw [← hW] at HW2 HP2 HOP2 HRA2 HFA2 hkd ⊢
  clear hW
  have kA := HP2.out.c0
  have kB : W.cell? ⟨w.heap.size, 8, none⟩ = some (.slice A o.f6.length c) := by rw [blk_cell HOP2.out]; rfl
  have hlen' : decide (multi < (o.f6.length : Int)) = true := decide_eq_true (by omega)
  go_wp2_with fail
  go_quiet (fail)
  have HL3 := Lib.hid (left_same (w' := W.drewN nq) (K := fun k => k = bn ∨ k = bh) HM.out HF.out (pw_below_drewN HW2.out nq) (Nat.le_succ N))
  have HFA3 : Hid ((W.drewN nq).heap[w.heap.size + 2]? = some (Obj.cells (ansC 0 fo fv false 0 (.slice none 0 0) 0) 26)) := HFA2
  have HRA3 : Hid ((W.drewN nq).heap[w.heap.size + 1]? = some (Obj.cells (ansC 0 false 0 false 0 (.slice none 0 0) 0) 26)) := HRA2
  obtain ⟨l0, l1, l2, l3, l4, l5, l6⟩ := ans_cells HFA3.out
  go_wp2_with (first | ((with_reducible refine gate_store (t := 26) (p := 6) rfl ?_); refine wpList_store_row rfl 26 (.tmp 6) (.tmp 114) rfl (w.heap.size + 1) (ansC 6 false 0 false 0 (.slice none 0 0) 0) rfl rfl 26 _ HRA3.out (by kernel_rfl) rfl (ansC_one _ _ _ _ _ _ _ _ _) ?_))
  refine bodyPost_ret (res_ans rfl _ rfl (setRow_heap _ _ _ _ _ _ HRA3.out)) rfl ⟨.slice none 0 0, by rfl, Kd.R_nil _ _ _ _ _, HL3.out.row (by omega) HRA3.out hgl hnl hhl _⟩
end Go.Proofs.Ytngocadnbpdnoaa.Mo
namespace Go.Proofs.Ytngocadnbpdnoaa.Mo
open Go Go.Maps Go.RowKit Go.Proofs.Ytngocadnbpdnoaa.Srt Go.Proofs.Ytngocadnbpdnoaa.Q Go.Proofs.YtngocadnbpdnoaaW.PrintWords Go.Proofs.YtngocadnbpdnoaaW.PrintLast Go.Proofs.YtngocadnbpdnoaaW.PrintMore
set_option linter.unusedVariables false
set_option linter.unusedSimpArgs false
set_option maxRecDepth 100000 in
set_option maxHeartbeats 8000000 in
theorem do_mgNo (f : Nat → Option PL) (N gp bn bh : Nat) (multi : Int) (now : PL) (held : List (Int × PL)) (o : OpS) (A : Option Addr) (c : Nat) (hdl : Int) (w : World) (hM : PM w f N gp bn bh multi now held) (hF : Fro w f N) (hO : OpWf o) (hh : u64wf hdl) (hN : N ≤ 1099511627776) (hk : o.f0 = 7) (hx : fnd held o.f4 = none) (hl : ¬ multi < (o.f6.length : Int)) :
    Calls Try.prog 15 #[.pointer (some ⟨gp, 0, none⟩), .agg (opC o A c), .int .u64 hdl] w (DoPost w f (N + 1) gp bn bh ⟨multi, now, held⟩ (errD 33)) := by
  have hgl := hM.gl
  have hnl := hM.now.lt
  have hhl := hM.held.1.lt
  have HM := Lib.hid hM
  have HF := Lib.hid hF
  have HO := Lib.hid hO
  have HU := Lib.hid hh
  have hb0 : Below w.heap.size w (doW w o A c).drew := below_drew (doW_below w o A c)
  have hP0 := hM.kept (Kept.of_below hb0 (fun _ => False)) (fun e => e) (fun e => e) (fun e => e)
  have HS : (fun w' : World => w'.cell? ⟨gp, 1, none⟩ = some (.map (some bn)) ∧ w'.cell? ⟨w.heap.size, 1, none⟩ = some (.int .u64 o.f1) ∧ (Instr.lookup 97 (.map (some bn)) (.int .u64 o.f1) true).run Try.prog w' = .ok (.tuple #[.int .u64 ((fnd now o.f1).getD 0), .bool (fnd now o.f1).isSome]) w') (doW w o A c).drew :=
    ⟨hP0.c1, by rw [blk_cell (w := (doW w o A c).drew) (doW_op w o A c)]; rfl, now_look hP0.now hO.key⟩
  obtain ⟨vh, hvh, hrunh⟩ := held_look (hM.held.kept (Kept.of_below (below_drew (below_alloc (below_drew (doW_below w o A c)) (.cells (ansC 0 (fnd now o.f1).isSome ((fnd now o.f1).getD 0) false 0 (.slice none 0 0) 0) 26))) (fun _ => False)) (fun e => e)) hO.han
  have hW2 : Below w.heap.size w ((doW w o A c).drew.alloc (.cells (ansC 0 (fnd now o.f1).isSome ((fnd now o.f1).getD 0) false 0 (.slice none 0 0) 0) 26)).drew := below_drew (below_alloc (below_drew (doW_below w o A c)) _)
  have hP2 := hM.kept (Kept.of_below hW2 (fun _ => False)) (fun e => e) (fun e => e) (fun e => e)
  have hs2 : (doW w o A c).drew.heap.size = w.heap.size + 2 := doW_size w o A c
  have hop2 : ((doW w o A c).drew.alloc (.cells (ansC 0 (fnd now o.f1).isSome ((fnd now o.f1).getD 0) false 0 (.slice none 0 0) 0) 26)).drew.heap[w.heap.size]? = some (.cells (opC o A c) 39 (0, 0)) := ((below_alloc (Below.refl _ (doW w o A c).drew) _).block _ (by rw [hs2]; omega)).trans (doW_op w o A c)
  have hra2 : ((doW w o A c).drew.alloc (.cells (ansC 0 (fnd now o.f1).isSome ((fnd now o.f1).getD 0) false 0 (.slice none 0 0) 0) 26)).drew.heap[w.heap.size + 1]? = some (.cells (ansC 0 false 0 false 0 (.slice none 0 0) 0) 26 (0, 0)) := ((below_alloc (Below.refl _ (doW w o A c).drew) _).block _ (by rw [hs2]; omega)).trans (doW_ans w o A c)
  have hfa2 : ((doW w o A c).drew.alloc (.cells (ansC 0 (fnd now o.f1).isSome ((fnd now o.f1).getD 0) false 0 (.slice none 0 0) 0) 26)).drew.heap[w.heap.size + 2]? = some (.cells (ansC 0 (fnd now o.f1).isSome ((fnd now o.f1).getD 0) false 0 (.slice none 0 0) 0) 26 (0, 0)) := by
    have := heap_alloc_new (doW w o A c).drew (.cells (ansC 0 (fnd now o.f1).isSome ((fnd now o.f1).getD 0) false 0 (.slice none 0 0) 0) 26)
    rw [hs2] at this
    exact this
  have HS2 : (fun w' : World => w'.cell? ⟨gp, 2, none⟩ = some (.map (some bh)) ∧ w'.cell? ⟨w.heap.size, 4, none⟩ = some (.int .u64 o.f4) ∧ (Instr.lookup 98 (.map (some bh)) (.int .u64 o.f4) true).run Try.prog w' = .ok (.tuple #[vh, .bool (fnd held o.f4).isSome]) w') ((doW w o A c).drew.alloc (.cells (ansC 0 (fnd now o.f1).isSome ((fnd now o.f1).getD 0) false 0 (.slice none 0 0) 0) 26)).drew :=
    ⟨hP2.c2, by rw [blk_cell hop2]; rfl, hrunh⟩
  have hkd : ((doW w o A c).drew.alloc (.cells (ansC 0 (fnd now o.f1).isSome ((fnd now o.f1).getD 0) false 0 (.slice none 0 0) 0) 26)).drew.cell? ⟨w.heap.size, 0, none⟩ = some (.int .u8 7) := by rw [blk_cell hop2, ← hk]; rfl
  have HVH := Lib.hid hvh
  have HW2 := Lib.hid hW2
  have HP2 := Lib.hid hP2
  have HOP2 := Lib.hid hop2
  have HRA2 := Lib.hid hra2
  have HFA2 := Lib.hid hfa2
  have hfnd0 : (fnd now o.f1).isSome = (fnd now o.f1).isSome := rfl
  obtain ⟨fo, hfo⟩ : ∃ b : Bool, b = (fnd now o.f1).isSome := ⟨_, rfl⟩
  obtain ⟨fv, hfv⟩ : ∃ v : Int, v = (fnd now o.f1).getD 0 := ⟨_, rfl⟩
  obtain ⟨hd, hhd⟩ : ∃ b : Bool, b = (fnd held o.f4).isSome := ⟨_, rfl⟩
  rw [← hfo, ← hfv] at HS HS2 HW2 HP2 HOP2 HRA2 HFA2 hkd
  rw [← hhd] at HS2
  have HFO := Lib.hid hfo
  have HFV := Lib.hid hfv
  have HHD := Lib.hid hhd
  clear hM hF hO hh hb0 hP0 hvh hrunh hW2 hP2 hs2 hop2 hra2 hfa2 hfnd0 hfo hfv hhd
  obtain ⟨W1, hW1⟩ : ∃ W1, W1 = doW w o A c := ⟨_, rfl⟩
  have HW1 := Lib.hid hW1
  rw [← hW1] at HS HS2 HW2 HP2 HOP2 HRA2 HFA2 hkd
  go_enter Try.func15, Try.ntmps15
  go_wp2_with fail
  change Code.wp _ _ _ _ (doW w o A c)
  rw [← hW1]
  clear hW1
  go_region_held3 (fun w' => w'.cell? ⟨gp, 1, none⟩ = some (.map (some bn)) ∧ w'.cell? ⟨w.heap.size, 1, none⟩ = some (.int .u64 o.f1) ∧ (Instr.lookup 97 (.map (some bn)) (.int .u64 o.f1) true).run Try.prog w' = .ok (.tuple #[.int .u64 fv, .bool fo]) w')
    (first | go_keep | exact HS)
    (first | fail | fail)
  clear HS
  have hs1 : W1.heap.size = w.heap.size + 2 := by rw [HW1.out]; exact doW_size w o A c
  go_wp2_with fail
  obtain ⟨W2, hW2⟩ : ∃ W2, W2 = W1.drew.alloc (Obj.cells (ansC 0 fo fv false 0 (Value.slice none 0 0) 0) 26) := ⟨_, rfl⟩
  change Code.wp _ _ _ _ (W1.drew.alloc (Obj.cells (ansC 0 fo fv false 0 (Value.slice none 0 0) 0) 26))
  rw [← hW2] at HS2 HW2 HP2 HOP2 HRA2 HFA2 hkd ⊢
  clear hW2
  go_region_held3 (fun w' => w'.cell? ⟨gp, 2, none⟩ = some (.map (some bh)) ∧ w'.cell? ⟨w.heap.size, 4, none⟩ = some (.int .u64 o.f4) ∧ (Instr.lookup 98 (.map (some bh)) (.int .u64 o.f4) true).run Try.prog w' = .ok (.tuple #[vh, .bool hd]) w')
    (first | go_keep | exact HS2)
    (first | fail | fail)
  clear HS2
  obtain ⟨W, hW⟩ : ∃ W, W = W2.drew := ⟨_, rfl⟩
  rw [← hW] at HW2 HP2 HOP2 HRA2 HFA2 hkd ⊢
  clear hW
  obtain rfl : hd = false := by rw [HHD.out, hx]; rfl
  have kA := HP2.out.c0
  have kB : W.cell? ⟨w.heap.size, 8, none⟩ = some (.slice A o.f6.length c) := by rw [blk_cell HOP2.out]; rfl
  have hlen' : decide (multi < (o.f6.length : Int)) = false := decide_eq_false (by omega)
  go_wp2_with fail
  go_quiet (fail)
  have HL3 := Lib.hid (left_same (w' := W.drewN nq) (K := fun k => k = bn ∨ k = bh) HM.out HF.out (pw_below_drewN HW2.out nq) (Nat.le_succ N))
  have HFA3 : Hid ((W.drewN nq).heap[w.heap.size + 2]? = some (Obj.cells (ansC 0 fo fv false 0 (.slice none 0 0) 0) 26)) := HFA2
  have HRA3 : Hid ((W.drewN nq).heap[w.heap.size + 1]? = some (Obj.cells (ansC 0 false 0 false 0 (.slice none 0 0) 0) 26)) := HRA2
  obtain ⟨l0, l1, l2, l3, l4, l5, l6⟩ := ans_cells HFA3.out
  go_wp2_with (first | ((with_reducible refine gate_store (t := 26) (p := 6) rfl ?_); refine wpList_store_row rfl 26 (.tmp 6) (.tmp 117) rfl (w.heap.size + 1) (ansC 33 false 0 false 0 (.slice none 0 0) 0) rfl rfl 26 _ HRA3.out (by kernel_rfl) rfl (ansC_one _ _ _ _ _ _ _ _ _) ?_))
  refine bodyPost_ret (res_ans rfl _ rfl (setRow_heap _ _ _ _ _ _ HRA3.out)) rfl ⟨.slice none 0 0, by rfl, Kd.R_nil _ _ _ _ _, HL3.out.row (by omega) HRA3.out hgl hnl hhl _⟩
end Go.Proofs.Ytngocadnbpdnoaa.Mo
namespace Go.Proofs.Ytngocadnbpdnoaa.Mo
open Go Go.Maps Go.RowKit Go.Proofs.Ytngocadnbpdnoaa.Srt Go.Proofs.Ytngocadnbpdnoaa.Q Go.Proofs.YtngocadnbpdnoaaW.PrintWords Go.Proofs.YtngocadnbpdnoaaW.PrintLast Go.Proofs.YtngocadnbpdnoaaW.PrintMore
set_option linter.unusedVariables false
set_option linter.unusedSimpArgs false
set_option maxRecDepth 100000 in
set_option maxHeartbeats 8000000 in
theorem do_rgNo (f : Nat → Option PL) (N gp bn bh : Nat) (multi : Int) (now : PL) (held : List (Int × PL)) (o : OpS) (A : Option Addr) (c : Nat) (hdl : Int) (w : World) (hM : PM w f N gp bn bh multi now held) (hF : Fro w f N) (hO : OpWf o) (hh : u64wf hdl) (hN : N ≤ 1099511627776) (hk : o.f0 = 8) (hx : fnd held o.f4 = none) :
    Calls Try.prog 15 #[.pointer (some ⟨gp, 0, none⟩), .agg (opC o A c), .int .u64 hdl] w (DoPost w f (N + 1) gp bn bh ⟨multi, now, held⟩ (errD 33)) := by
  have hgl := hM.gl
  have hnl := hM.now.lt
  have hhl := hM.held.1.lt
  have HM := Lib.hid hM
  have HF := Lib.hid hF
  have HO := Lib.hid hO
  have HU := Lib.hid hh
  have hb0 : Below w.heap.size w (doW w o A c).drew := below_drew (doW_below w o A c)
  have hP0 := hM.kept (Kept.of_below hb0 (fun _ => False)) (fun e => e) (fun e => e) (fun e => e)
  have HS : (fun w' : World => w'.cell? ⟨gp, 1, none⟩ = some (.map (some bn)) ∧ w'.cell? ⟨w.heap.size, 1, none⟩ = some (.int .u64 o.f1) ∧ (Instr.lookup 97 (.map (some bn)) (.int .u64 o.f1) true).run Try.prog w' = .ok (.tuple #[.int .u64 ((fnd now o.f1).getD 0), .bool (fnd now o.f1).isSome]) w') (doW w o A c).drew :=
    ⟨hP0.c1, by rw [blk_cell (w := (doW w o A c).drew) (doW_op w o A c)]; rfl, now_look hP0.now hO.key⟩
  obtain ⟨vh, hvh, hrunh⟩ := held_look (hM.held.kept (Kept.of_below (below_drew (below_alloc (below_drew (doW_below w o A c)) (.cells (ansC 0 (fnd now o.f1).isSome ((fnd now o.f1).getD 0) false 0 (.slice none 0 0) 0) 26))) (fun _ => False)) (fun e => e)) hO.han
  have hW2 : Below w.heap.size w ((doW w o A c).drew.alloc (.cells (ansC 0 (fnd now o.f1).isSome ((fnd now o.f1).getD 0) false 0 (.slice none 0 0) 0) 26)).drew := below_drew (below_alloc (below_drew (doW_below w o A c)) _)
  have hP2 := hM.kept (Kept.of_below hW2 (fun _ => False)) (fun e => e) (fun e => e) (fun e => e)
  have hs2 : (doW w o A c).drew.heap.size = w.heap.size + 2 := doW_size w o A c
  have hop2 : ((doW w o A c).drew.alloc (.cells (ansC 0 (fnd now o.f1).isSome ((fnd now o.f1).getD 0) false 0 (.slice none 0 0) 0) 26)).drew.heap[w.heap.size]? = some (.cells (opC o A c) 39 (0, 0)) := ((below_alloc (Below.refl _ (doW w o A c).drew) _).block _ (by rw [hs2]; omega)).trans (doW_op w o A c)
  have hra2 : ((doW w o A c).drew.alloc (.cells (ansC 0 (fnd now o.f1).isSome ((fnd now o.f1).getD 0) false 0 (.slice none 0 0) 0) 26)).drew.heap[w.heap.size + 1]? = some (.cells (ansC 0 false 0 false 0 (.slice none 0 0) 0) 26 (0, 0)) := ((below_alloc (Below.refl _ (doW w o A c).drew) _).block _ (by rw [hs2]; omega)).trans (doW_ans w o A c)
  have hfa2 : ((doW w o A c).drew.alloc (.cells (ansC 0 (fnd now o.f1).isSome ((fnd now o.f1).getD 0) false 0 (.slice none 0 0) 0) 26)).drew.heap[w.heap.size + 2]? = some (.cells (ansC 0 (fnd now o.f1).isSome ((fnd now o.f1).getD 0) false 0 (.slice none 0 0) 0) 26 (0, 0)) := by
    have := heap_alloc_new (doW w o A c).drew (.cells (ansC 0 (fnd now o.f1).isSome ((fnd now o.f1).getD 0) false 0 (.slice none 0 0) 0) 26)
    rw [hs2] at this
    exact this
  have HS2 : (fun w' : World => w'.cell? ⟨gp, 2, none⟩ = some (.map (some bh)) ∧ w'.cell? ⟨w.heap.size, 4, none⟩ = some (.int .u64 o.f4) ∧ (Instr.lookup 98 (.map (some bh)) (.int .u64 o.f4) true).run Try.prog w' = .ok (.tuple #[vh, .bool (fnd held o.f4).isSome]) w') ((doW w o A c).drew.alloc (.cells (ansC 0 (fnd now o.f1).isSome ((fnd now o.f1).getD 0) false 0 (.slice none 0 0) 0) 26)).drew :=
    ⟨hP2.c2, by rw [blk_cell hop2]; rfl, hrunh⟩
  have hkd : ((doW w o A c).drew.alloc (.cells (ansC 0 (fnd now o.f1).isSome ((fnd now o.f1).getD 0) false 0 (.slice none 0 0) 0) 26)).drew.cell? ⟨w.heap.size, 0, none⟩ = some (.int .u8 8) := by rw [blk_cell hop2, ← hk]; rfl
  have HVH := Lib.hid hvh
  have HW2 := Lib.hid hW2
  have HP2 := Lib.hid hP2
  have HOP2 := Lib.hid hop2
  have HRA2 := Lib.hid hra2
  have HFA2 := Lib.hid hfa2
  have hfnd0 : (fnd now o.f1).isSome = (fnd now o.f1).isSome := rfl
  obtain ⟨fo, hfo⟩ : ∃ b : Bool, b = (fnd now o.f1).isSome := ⟨_, rfl⟩
  obtain ⟨fv, hfv⟩ : ∃ v : Int, v = (fnd now o.f1).getD 0 := ⟨_, rfl⟩
  obtain ⟨hd, hhd⟩ : ∃ b : Bool, b = (fnd held o.f4).isSome := ⟨_, rfl⟩
  rw [← hfo, ← hfv] at HS HS2 HW2 HP2 HOP2 HRA2 HFA2 hkd
  rw [← hhd] at HS2
  have HFO := Lib.hid hfo
  have HFV := Lib.hid hfv
  have HHD := Lib.hid hhd
  clear hM hF hO hh hb0 hP0 hvh hrunh hW2 hP2 hs2 hop2 hra2 hfa2 hfnd0 hfo hfv hhd
  obtain ⟨W1, hW1⟩ : ∃ W1, W1 = doW w o A c := ⟨_, rfl⟩
  have HW1 := Lib.hid hW1
  rw [← hW1] at HS HS2 HW2 HP2 HOP2 HRA2 HFA2 hkd
  go_enter Try.func15, Try.ntmps15
  go_wp2_with fail
  change Code.wp _ _ _ _ (doW w o A c)
  rw [← hW1]
  clear hW1
  go_region_held3 (fun w' => w'.cell? ⟨gp, 1, none⟩ = some (.map (some bn)) ∧ w'.cell? ⟨w.heap.size, 1, none⟩ = some (.int .u64 o.f1) ∧ (Instr.lookup 97 (.map (some bn)) (.int .u64 o.f1) true).run Try.prog w' = .ok (.tuple #[.int .u64 fv, .bool fo]) w')
    (first | go_keep | exact HS)
    (first | fail | fail)
  clear HS
  have hs1 : W1.heap.size = w.heap.size + 2 := by rw [HW1.out]; exact doW_size w o A c
  go_wp2_with fail
  obtain ⟨W2, hW2⟩ : ∃ W2, W2 = W1.drew.alloc (Obj.cells (ansC 0 fo fv false 0 (Value.slice none 0 0) 0) 26) := ⟨_, rfl⟩
  change Code.wp _ _ _ _ (W1.drew.alloc (Obj.cells (ansC 0 fo fv false 0 (Value.slice none 0 0) 0) 26))
  rw [← hW2] at HS2 HW2 HP2 HOP2 HRA2 HFA2 hkd ⊢
  clear hW2
  go_region_held3 (fun w' => w'.cell? ⟨gp, 2, none⟩ = some (.map (some bh)) ∧ w'.cell? ⟨w.heap.size, 4, none⟩ = some (.int .u64 o.f4) ∧ (Instr.lookup 98 (.map (some bh)) (.int .u64 o.f4) true).run Try.prog w' = .ok (.tuple #[vh, .bool hd]) w')
    (first | go_keep | exact HS2)
    (first | fail | fail)
  clear HS2
  obtain ⟨W, hW⟩ : ∃ W, W = W2.drew := ⟨_, rfl⟩
  rw [← hW] at HW2 HP2 HOP2 HRA2 HFA2 hkd ⊢
  clear hW
  obtain rfl : hd = false := by rw [HHD.out, hx]; rfl
  have HL3 := Lib.hid (left_same (K := fun k => k = bn ∨ k = bh) HM.out HF.out HW2.out (Nat.le_succ N))
  have HFA3 := HFA2
  have HRA3 := HRA2
  obtain ⟨l0, l1, l2, l3, l4, l5, l6⟩ := ans_cells HFA3.out
  go_wp2_with (first | ((with_reducible refine gate_store (t := 26) (p := 6) rfl ?_); refine wpList_store_row rfl 26 (.tmp 6) (.tmp 117) rfl (w.heap.size + 1) (ansC 33 false 0 false 0 (.slice none 0 0) 0) rfl rfl 26 _ HRA3.out (by kernel_rfl) rfl (ansC_one _ _ _ _ _ _ _ _ _) ?_))
  refine bodyPost_ret (res_ans rfl _ rfl (setRow_heap _ _ _ _ _ _ HRA3.out)) rfl ⟨.slice none 0 0, by rfl, Kd.R_nil _ _ _ _ _, HL3.out.row (by omega) HRA3.out hgl hnl hhl _⟩
end Go.Proofs.Ytngocadnbpdnoaa.Mo
namespace Go.Proofs.Ytngocadnbpdnoaa.Mo
open Go Go.Maps Go.RowKit Go.Proofs.Ytngocadnbpdnoaa.Srt Go.Proofs.Ytngocadnbpdnoaa.Q Go.Proofs.YtngocadnbpdnoaaW.PrintWords Go.Proofs.YtngocadnbpdnoaaW.PrintLast Go.Proofs.YtngocadnbpdnoaaW.PrintMore
set_option linter.unusedVariables false
set_option linter.unusedSimpArgs false
set_option maxRecDepth 100000 in
set_option maxHeartbeats 8000000 in
theorem do_ctNo (f : Nat → Option PL) (N gp bn bh : Nat) (multi : Int) (now : PL) (held : List (Int × PL)) (o : OpS) (A : Option Addr) (c : Nat) (hdl : Int) (w : World) (hM : PM w f N gp bn bh multi now held) (hF : Fro w f N) (hO : OpWf o) (hh : u64wf hdl) (hN : N ≤ 1099511627776) (hk : o.f0 = 9) (hx : fnd held o.f4 = none) :
    Calls Try.prog 15 #[.pointer (some ⟨gp, 0, none⟩), .agg (opC o A c), .int .u64 hdl] w (DoPost w f (N + 1) gp bn bh ⟨multi, now, held⟩ (errD 33)) := by
  have hgl := hM.gl
  have hnl := hM.now.lt
  have hhl := hM.held.1.lt
  have HM := Lib.hid hM
  have HF := Lib.hid hF
  have HO := Lib.hid hO
  have HU := Lib.hid hh
  have hb0 : Below w.heap.size w (doW w o A c).drew := below_drew (doW_below w o A c)
  have hP0 := hM.kept (Kept.of_below hb0 (fun _ => False)) (fun e => e) (fun e => e) (fun e => e)
  have HS : (fun w' : World => w'.cell? ⟨gp, 1, none⟩ = some (.map (some bn)) ∧ w'.cell? ⟨w.heap.size, 1, none⟩ = some (.int .u64 o.f1) ∧ (Instr.lookup 97 (.map (some bn)) (.int .u64 o.f1) true).run Try.prog w' = .ok (.tuple #[.int .u64 ((fnd now o.f1).getD 0), .bool (fnd now o.f1).isSome]) w') (doW w o A c).drew :=
    ⟨hP0.c1, by rw [blk_cell (w := (doW w o A c).drew) (doW_op w o A c)]; rfl, now_look hP0.now hO.key⟩
  obtain ⟨vh, hvh, hrunh⟩ := held_look (hM.held.kept (Kept.of_below (below_drew (below_alloc (below_drew (doW_below w o A c)) (.cells (ansC 0 (fnd now o.f1).isSome ((fnd now o.f1).getD 0) false 0 (.slice none 0 0) 0) 26))) (fun _ => False)) (fun e => e)) hO.han
  have hW2 : Below w.heap.size w ((doW w o A c).drew.alloc (.cells (ansC 0 (fnd now o.f1).isSome ((fnd now o.f1).getD 0) false 0 (.slice none 0 0) 0) 26)).drew := below_drew (below_alloc (below_drew (doW_below w o A c)) _)
  have hP2 := hM.kept (Kept.of_below hW2 (fun _ => False)) (fun e => e) (fun e => e) (fun e => e)
  have hs2 : (doW w o A c).drew.heap.size = w.heap.size + 2 := doW_size w o A c
  have hop2 : ((doW w o A c).drew.alloc (.cells (ansC 0 (fnd now o.f1).isSome ((fnd now o.f1).getD 0) false 0 (.slice none 0 0) 0) 26)).drew.heap[w.heap.size]? = some (.cells (opC o A c) 39 (0, 0)) := ((below_alloc (Below.refl _ (doW w o A c).drew) _).block _ (by rw [hs2]; omega)).trans (doW_op w o A c)
  have hra2 : ((doW w o A c).drew.alloc (.cells (ansC 0 (fnd now o.f1).isSome ((fnd now o.f1).getD 0) false 0 (.slice none 0 0) 0) 26)).drew.heap[w.heap.size + 1]? = some (.cells (ansC 0 false 0 false 0 (.slice none 0 0) 0) 26 (0, 0)) := ((below_alloc (Below.refl _ (doW w o A c).drew) _).block _ (by rw [hs2]; omega)).trans (doW_ans w o A c)
  have hfa2 : ((doW w o A c).drew.alloc (.cells (ansC 0 (fnd now o.f1).isSome ((fnd now o.f1).getD 0) false 0 (.slice none 0 0) 0) 26)).drew.heap[w.heap.size + 2]? = some (.cells (ansC 0 (fnd now o.f1).isSome ((fnd now o.f1).getD 0) false 0 (.slice none 0 0) 0) 26 (0, 0)) := by
    have := heap_alloc_new (doW w o A c).drew (.cells (ansC 0 (fnd now o.f1).isSome ((fnd now o.f1).getD 0) false 0 (.slice none 0 0) 0) 26)
    rw [hs2] at this
    exact this
  have HS2 : (fun w' : World => w'.cell? ⟨gp, 2, none⟩ = some (.map (some bh)) ∧ w'.cell? ⟨w.heap.size, 4, none⟩ = some (.int .u64 o.f4) ∧ (Instr.lookup 98 (.map (some bh)) (.int .u64 o.f4) true).run Try.prog w' = .ok (.tuple #[vh, .bool (fnd held o.f4).isSome]) w') ((doW w o A c).drew.alloc (.cells (ansC 0 (fnd now o.f1).isSome ((fnd now o.f1).getD 0) false 0 (.slice none 0 0) 0) 26)).drew :=
    ⟨hP2.c2, by rw [blk_cell hop2]; rfl, hrunh⟩
  have hkd : ((doW w o A c).drew.alloc (.cells (ansC 0 (fnd now o.f1).isSome ((fnd now o.f1).getD 0) false 0 (.slice none 0 0) 0) 26)).drew.cell? ⟨w.heap.size, 0, none⟩ = some (.int .u8 9) := by rw [blk_cell hop2, ← hk]; rfl
  have HVH := Lib.hid hvh
  have HW2 := Lib.hid hW2
  have HP2 := Lib.hid hP2
  have HOP2 := Lib.hid hop2
  have HRA2 := Lib.hid hra2
  have HFA2 := Lib.hid hfa2
  have hfnd0 : (fnd now o.f1).isSome = (fnd now o.f1).isSome := rfl
  obtain ⟨fo, hfo⟩ : ∃ b : Bool, b = (fnd now o.f1).isSome := ⟨_, rfl⟩
  obtain ⟨fv, hfv⟩ : ∃ v : Int, v = (fnd now o.f1).getD 0 := ⟨_, rfl⟩
  obtain ⟨hd, hhd⟩ : ∃ b : Bool, b = (fnd held o.f4).isSome := ⟨_, rfl⟩
  rw [← hfo, ← hfv] at HS HS2 HW2 HP2 HOP2 HRA2 HFA2 hkd
  rw [← hhd] at HS2
  have HFO := Lib.hid hfo
  have HFV := Lib.hid hfv
  have HHD := Lib.hid hhd
  clear hM hF hO hh hb0 hP0 hvh hrunh hW2 hP2 hs2 hop2 hra2 hfa2 hfnd0 hfo hfv hhd
  obtain ⟨W1, hW1⟩ : ∃ W1, W1 = doW w o A c := ⟨_, rfl⟩
  have HW1 := Lib.hid hW1
  rw [← hW1] at HS HS2 HW2 HP2 HOP2 HRA2 HFA2 hkd
  go_enter Try.func15, Try.ntmps15
  go_wp2_with fail
  change Code.wp _ _ _ _ (doW w o A c)
  rw [← hW1]
  clear hW1
  go_region_held3 (fun w' => w'.cell? ⟨gp, 1, none⟩ = some (.map (some bn)) ∧ w'.cell? ⟨w.heap.size, 1, none⟩ = some (.int .u64 o.f1) ∧ (Instr.lookup 97 (.map (some bn)) (.int .u64 o.f1) true).run Try.prog w' = .ok (.tuple #[.int .u64 fv, .bool fo]) w')
    (first | go_keep | exact HS)
    (first | fail | fail)
  clear HS
  have hs1 : W1.heap.size = w.heap.size + 2 := by rw [HW1.out]; exact doW_size w o A c
  go_wp2_with fail
  obtain ⟨W2, hW2⟩ : ∃ W2, W2 = W1.drew.alloc (Obj.cells (ansC 0 fo fv false 0 (Value.slice none 0 0) 0) 26) := ⟨_, rfl⟩
  change Code.wp _ _ _ _ (W1.drew.alloc (Obj.cells (ansC 0 fo fv false 0 (Value.slice none 0 0) 0) 26))
  rw [← hW2] at HS2 HW2 HP2 HOP2 HRA2 HFA2 hkd ⊢
  clear hW2
  go_region_held3 (fun w' => w'.cell? ⟨gp, 2, none⟩ = some (.map (some bh)) ∧ w'.cell? ⟨w.heap.size, 4, none⟩ = some (.int .u64 o.f4) ∧ (Instr.lookup 98 (.map (some bh)) (.int .u64 o.f4) true).run Try.prog w' = .ok (.tuple #[vh, .bool hd]) w')
    (first | go_keep | exact HS2)
    (first | fail | fail)
  clear HS2
  obtain ⟨W, hW⟩ : ∃ W, W = W2.drew := ⟨_, rfl⟩
  rw [← hW] at HW2 HP2 HOP2 HRA2 HFA2 hkd ⊢
  clear hW
  obtain rfl : hd = false := by rw [HHD.out, hx]; rfl
  have HL3 := Lib.hid (left_same (K := fun k => k = bn ∨ k = bh) HM.out HF.out HW2.out (Nat.le_succ N))
  have HFA3 := HFA2
  have HRA3 := HRA2
  obtain ⟨l0, l1, l2, l3, l4, l5, l6⟩ := ans_cells HFA3.out
  go_wp2_with (first | ((with_reducible refine gate_store (t := 26) (p := 6) rfl ?_); refine wpList_store_row rfl 26 (.tmp 6) (.tmp 117) rfl (w.heap.size + 1) (ansC 33 false 0 false 0 (.slice none 0 0) 0) rfl rfl 26 _ HRA3.out (by kernel_rfl) rfl (ansC_one _ _ _ _ _ _ _ _ _) ?_))
  refine bodyPost_ret (res_ans rfl _ rfl (setRow_heap _ _ _ _ _ _ HRA3.out)) rfl ⟨.slice none 0 0, by rfl, Kd.R_nil _ _ _ _ _, HL3.out.row (by omega) HRA3.out hgl hnl hhl _⟩
end Go.Proofs.Ytngocadnbpdnoaa.Mo
