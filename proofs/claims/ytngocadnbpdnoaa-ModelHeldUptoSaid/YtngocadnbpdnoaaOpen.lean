import Derived.Test.YtngocadnbpdnoaaRows
import Derived.Test.YtngocadnbpdnoaaWWords
import Derived.Deep.Slices
import Derived.SizedLaws
import Derived.Deep.CondSized
import Derived.ProofKit
import Derived.OpenShut
/-! From the reading of an argument as data to what its memory holds, kind by kind ('Kd'); with a bound by the reading's bulk. -/
namespace Go.Proofs.Ytngocadnbpdnoaa.Open
open Go.RowKit Go.Proofs.YtngocadnbpdnoaaW.PrintWords Go.ChangeShapes Go.WideShapes
set_option linter.unusedVariables false
/-- Whatever is read as data of type t is of kind d, of a size B that the reading's bulk bounds, and meets wf. -/
def Opens {α : Type} (P : Program) (d : Kd α) (t : TypeId) (B : α → Nat) (wf : α → Prop) : Prop :=
  ∀ {H : Type} {enc : TypeId × Value → H} {w : World} {base : Nat} {held : Bool} {fuel : Nat} {cs : List Value} {x : DataW H × List MemPlace},
    DataW.trod enc P w base (fun _ => true) held fuel t cs = some x → ∃ a, d.K w a cs ∧ B a ≤ Rows.uptoBulk x.1 ∧ wf a
theorem bulk_pos {H : Type} (d : DataW H) : 1 ≤ Rows.uptoBulk d := by
  cases d with
  | lit l => cases l <;> simp [Rows.uptoBulk]
  | _ => simp [Rows.uptoBulk]
theorem opens_int {P : Program} {t : TypeId} {k : IntKind} (ht : P.underlying t = some (.int k)) : Opens P (Kd.int k) t (fun _ => 1) (fun n => (Lit.int k n).wf = true) := by
  intro H enc w base held fuel cs x h
  obtain ⟨n, rfl, rfl, hw⟩ := DataW.trod_int ht h
  exact ⟨n, rfl, bulk_pos _, hw⟩
theorem opens_bool {P : Program} {t : TypeId} (ht : P.underlying t = some .bool) : Opens P Kd.bool t (fun _ => 1) (fun _ => True) := by
  intro H enc w base held fuel cs x h
  obtain ⟨b, rfl, rfl⟩ := DataW.trod_bool ht h
  exact ⟨b, rfl, bulk_pos _, trivial⟩
theorem opens_string {P : Program} {t : TypeId} (ht : P.underlying t = some .string) : Opens P Kd.string t (fun s => s.size + 1) (fun s => s.size ≤ maxLen) := by
  intro H enc w base held fuel cs x h
  obtain ⟨s, rfl, rfl, hs⟩ := DataW.trod_string ht h
  exact ⟨s, rfl, by simp [Rows.uptoBulk], hs⟩
theorem bulkAll_sum {H : Type} (l : List (DataW H)) : Rows.uptoBulkAll l = (l.map Rows.uptoBulk).sum := by
  induction l with
  | nil => simp [Rows.uptoBulkAll]
  | cons a l ih => simp [Rows.uptoBulkAll, ih]
theorem cells_at {w : World} {base : Nat} {a : Addr} {n : Nat} {cs : List Value} (h : w.cells? base a n = some cs) : cs.length = n ∧ ∀ j u, cs[j]? = some u → w.cell? (a.add j) = some u := by
  obtain ⟨_, h1, h2⟩ := World.cells?_some h
  refine ⟨h1, fun j u hu => ?_⟩
  have hj : j < n := by have := (List.getElem?_eq_some_iff.1 hu).1; omega
  rw [h2 j hj, hu]
theorem sum_getD {α : Type} (B : α → Nat) (z : α) : ∀ (l : List α), (l.map B).sum = ((List.range l.length).map fun i => B (l.getD i z)).sum := by
  intro l
  congr 1
  apply List.ext_getElem
  · simp
  · intro i h1 h2
    have : i < l.length := by simpa using h1
    simp [List.getD_eq_getElem?_getD, List.getElem?_eq_getElem this]
theorem sum_le_sum {α : Type} {f g : α → Nat} : ∀ (l : List α), (∀ x ∈ l, f x ≤ g x) → (l.map f).sum ≤ (l.map g).sum
  | [], _ => by simp
  | a :: l, h => by
    have h1 := h a (by simp)
    have h2 := sum_le_sum l (fun x hx => h x (by simp [hx]))
    simp only [List.map_cons, List.sum_cons]
    omega
theorem opens_slice {α : Type} {P : Program} {d : Kd α} {t e : TypeId} {B : α → Nat} {wf : α → Prop} (ht : P.underlying t = some (.slice e)) (hsz : P.cellsOf e = d.sz) (hd : Opens P d e B wf) :
    Opens P (Kd.slice e d) t (fun xs => (xs.map B).sum + 1) (fun xs => ∀ x ∈ xs, wf x) := by
  intro H enc w base held fuel cs x h
  rcases Deep.open_slice ht h with ⟨rfl, rfl⟩ | ⟨a, len, cap, m, n, D, Pl, rfl, hb, hl, hm, hmm, rfl, hel⟩
  · exact ⟨[], ⟨none, 0, rfl, Nat.le_refl _, rfl, by simp, fun h => absurd h (by simp)⟩, bulk_pos _, fun x hx => by cases hx⟩
  · rw [if_pos rfl] at hmm
    subst hmm
    have hx : ∀ i, i < len → ∃ y : α, (∃ c, c.length = d.sz ∧ d.K w y c ∧ ∀ j u, c[j]? = some u → w.cell? (a.add (i * d.sz + j)) = some u) ∧ B y ≤ Rows.uptoBulk (D i) ∧ wf y := by
      intro i hi
      obtain ⟨cs', hc, ht'⟩ := hel i (by omega)
      obtain ⟨y, hk, hB, hw⟩ := hd ht'
      obtain ⟨h1, h2⟩ := cells_at hc
      rw [hsz] at h1
      refine ⟨y, ⟨cs', h1, hk, fun j u hu => ?_⟩, hB, hw⟩
      rw [← Deep.add_add, ← hsz]
      exact h2 j u hu
    rcases Nat.eq_zero_or_pos len with h0 | h0
    · subst h0
      exact ⟨[], ⟨some a, m, rfl, Nat.zero_le _, rfl, by simp, fun h => absurd h (by simp)⟩, bulk_pos _, fun x hx => by cases hx⟩
    haveI : Inhabited α := ⟨(hx 0 h0).choose⟩
    obtain ⟨f, hf⟩ := Deep.choose_lt hx
    refine ⟨(List.range len).map f, ⟨some a, m, ?_, by simpa using hl, ?_⟩, ?_, ?_⟩
    · simp
    · refine ⟨by simp, by simp; unfold maxLen at hm; omega, fun _ => ⟨a, rfl, fun j p hj => ?_⟩⟩
      rw [List.getElem?_map] at hj
      have hjl : j < len := by
        rcases Nat.lt_or_ge j len with h | h
        · exact h
        · rw [List.getElem?_eq_none (by simpa using h)] at hj
          cases hj
      rw [List.getElem?_range hjl] at hj
      obtain rfl : f j = p := by simpa using hj
      obtain ⟨⟨c, h1, h2, h3⟩, _⟩ := hf j hjl
      exact ⟨c, h1, h2, h3⟩
    · simp only [Rows.uptoBulk, bulkAll_sum, List.map_map]
      have := sum_le_sum (f := fun i => B (f i)) (g := fun i => Rows.uptoBulk (D i)) (List.range len) (fun i hi => (hf i (by simpa using hi)).2.1)
      simp only [Function.comp_def]
      omega
    · intro y hy
      obtain ⟨i, hi, rfl⟩ := List.mem_map.1 hy
      exact (hf i (by simpa using hi)).2.2
/-- The fields fs of a struct, from the offset off on. -/
def OpensFs {α : Type} (P : Program) (d : Kd α) (fs : List Field) (off : Nat) (B : α → Nat) (wf : α → Prop) : Prop :=
  ∀ {H : Type} {enc : TypeId × Value → H} {w : World} {base : Nat} {held : Bool} {n : Nat} {cs : List Value} {xs : List (DataW H × List MemPlace)},
    xs.length = fs.length → cs.length = off + d.sz → (∀ (i : Nat) (f : Field), fs[i]? = some f → DataW.trod enc P w base (fun _ => true) held n f.type ((cs.drop f.offset).take (P.cellsOf f.type)) = xs[i]?) →
    ∃ a, d.K w a (cs.drop off) ∧ B a ≤ (xs.map fun x => Rows.uptoBulk x.1).sum ∧ wf a
theorem opens_last {α : Type} {P : Program} {d : Kd α} {f : Field} {off : Nat} {B : α → Nat} {wf : α → Prop} (hd : Opens P d f.type B wf) (ho : f.offset = off) (hsz : P.cellsOf f.type = d.sz) : OpensFs P d [f] off B wf := by
  intro H enc w base held n cs xs hl hc h
  match xs, hl with
  | [y], _ =>
    have h0 := h 0 f rfl
    rw [ho, hsz, List.take_of_length_le (by rw [List.length_drop]; omega)] at h0
    obtain ⟨a, h1, h2, h3⟩ := hd (x := y) h0
    exact ⟨a, h1, by simpa using h2, h3⟩
theorem opens_cons {α β : Type} {P : Program} {d : Kd α} {d' : Kd β} {f : Field} {fs : List Field} {off : Nat} {B : α → Nat} {B' : β → Nat} {wf : α → Prop} {wf' : β → Prop} (hd : Opens P d f.type B wf) (ho : f.offset = off) (hsz : P.cellsOf f.type = d.sz)
    (hs : OpensFs P d' fs (off + d.sz) B' wf') : OpensFs P (Kd.pair d d') (f :: fs) off (fun x => B x.1 + B' x.2) (fun x => wf x.1 ∧ wf' x.2) := by
  intro H enc w base held n cs xs hl hc h
  match xs, hl with
  | y :: ys, hl =>
    have hc' : cs.length = off + (d.sz + d'.sz) := hc
    have h0 := h 0 f rfl
    rw [ho, hsz] at h0
    obtain ⟨a, h1, h2, h3⟩ := hd (x := y) h0
    obtain ⟨b, h4, h5, h6⟩ := hs (enc := enc) (w := w) (base := base) (held := held) (n := n) (cs := cs) (xs := ys) (by simpa using hl) (by omega) (fun i g hg => h (i + 1) g hg)
    refine ⟨(a, b), ⟨_, _, ?_, h1, h4⟩, by simp only [List.map_cons, List.sum_cons]; omega, h3, h6⟩
    rw [← List.drop_drop, List.take_append_drop]
theorem opens_struct {α β : Type} {P : Program} {d : Kd α} {t : TypeId} {fs : Array Field} {B : α → Nat} {wf : α → Prop} (g : β → α) (g' : α → β) (hg : ∀ a, g (g' a) = a) (ht : P.underlying t = some (.struct fs)) (hsz : P.cellsOf t = d.sz) (hs : OpensFs P d fs.toList 0 B wf) :
    Opens P (Kd.iso d g) t (fun x => B (g x) + 1) (fun x => wf (g x)) := by
  intro H enc w base held fuel cs x h
  obtain ⟨xs, n, _, rfl, hl, hlen, hf⟩ := DataW.trod_struct ht h
  obtain ⟨a, h1, h2, h3⟩ := hs (enc := enc) (w := w) (base := base) (held := held) (n := n) (cs := cs) (xs := xs) (by simpa using hlen) (by omega) (fun i f hi => hf i f (by simpa using hi))
  refine ⟨g' a, ?_, ?_, ?_⟩
  · show d.K w (g (g' a)) cs
    rw [hg]
    simpa using h1
  · show B (g (g' a)) + 1 ≤ _
    rw [hg]
    simp only [Rows.uptoBulk, bulkAll_sum, List.map_map]
    simp only [Function.comp_def]
    omega
  · show wf (g (g' a))
    rw [hg]
    exact h3
end Go.Proofs.Ytngocadnbpdnoaa.Open
