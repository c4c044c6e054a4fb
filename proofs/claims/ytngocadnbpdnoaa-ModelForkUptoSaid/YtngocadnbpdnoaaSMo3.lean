import Derived.Test.YtngocadnbpdnoaaSMo2
import Derived.Shelf.SlMaps.Clone
import Derived.Shelf.SlMaps.Equal
import Derived.Test.YtngocadnbpdnoaaSWKept
import Derived.Deep.RegionHeld3
import Derived.Laws.Pointers
namespace Go.Proofs.Ytngocadnbpdnoaa.Mo
open Go Go.Maps Go.RowKit Go.Proofs.Ytngocadnbpdnoaa.Srt Go.Proofs.Ytngocadnbpdnoaa.Q Go.Proofs.YtngocadnbpdnoaaW.PrintWords Go.Proofs.YtngocadnbpdnoaaW.PrintLast Go.Proofs.YtngocadnbpdnoaaW.PrintMore
set_option linter.unusedVariables false
set_option linter.unusedSimpArgs false
theorem clone_c (b n : Nat) (l : PL) (w : World) (h : MapN w b n l) :
    Calls Try.prog 79 #[.map (some b)] w fun e w' => e = .returned (.map (some w.heap.size)) ∧ MapN w' w.heap.size n l ∧ Below w.heap.size w w' ∧ w.heap.size < w'.heap.size := by
  refine (AnyW.maps_Clone_owns CloneA 23 _ b n (dmap l) w h.1).mono ?_
  rintro e w' ⟨he, h1, -, hb⟩
  exact ⟨he, ⟨h1, h.2⟩, hb, h1.lt⟩
structure PM (w : World) (f : Nat → Option PL) (N gp bn bh : Nat) (multi : Int) (now : PL) (held : List (Int × PL)) : Prop where
  blk : w.heap[gp]? = some (.cells #[.int .i64 multi, .map (some bn), .map (some bh)] 100 (0, 0))
  now : MapN w bn N now
  held : HeldN w f bh N held
  fn : f bn = none
  fh : f bh = none
  ne : bn ≠ bh
def Fro (w : World) (f : Nat → Option PL) (N : Nat) : Prop := ∀ b l, f b = some l → MapN w b N l
def Ext (B : Nat) (f f' : Nat → Option PL) : Prop := (∀ b l, f b = some l → f' b = some l) ∧ ∀ b l, f' b = some l → f b = some l ∨ B ≤ b
theorem Ext.refl (B : Nat) (f : Nat → Option PL) : Ext B f f := ⟨fun _ _ h => h, fun _ _ h => .inl h⟩
theorem Ext.trans {B B' : Nat} {f f' f'' : Nat → Option PL} (h : Ext B f f') (h' : Ext B' f' f'') (hB : B ≤ B') : Ext B f f'' :=
  ⟨fun b l e => h'.1 b l (h.1 b l e), fun b l e => (h'.2 b l e).elim (h.2 b l) (fun e => .inr (Nat.le_trans hB e))⟩
def updF (f : Nat → Option PL) (b : Nat) (l : PL) : Nat → Option PL := fun k => if k = b then some l else f k
theorem ext_updF {B b : Nat} {f : Nat → Option PL} {l : PL} (hb : B ≤ b) (hf : f b = none) : Ext B f (updF f b l) := by
  constructor
  · intro k v h
    unfold updF
    split
    · rename_i e; subst e; rw [hf] at h; cases h
    · exact h
  · intro k v h
    unfold updF at h
    split at h
    · rename_i e; subst e; exact .inr hb
    · exact .inl h
theorem MapN.kept {w W : World} {S : Nat → Prop} {b n : Nat} {l : PL} (h : MapN w b n l) (hk : Kept w W S) (hS : ¬ S b) : MapN W b n l := by
  have hl := h.lt
  obtain ⟨⟨es, clock, hb', F, hs, hD⟩, ha⟩ := h
  exact ⟨⟨es, clock, (hk.2 b hl hS).trans hb', F, hs, hD⟩, ha⟩
theorem MapN.mono {w : World} {b n n' : Nat} {l : PL} (h : MapN w b n l) (hn : n ≤ n') : MapN w b n' l := ⟨h.1.mono hn, h.2⟩
theorem HeldN.kept {w W : World} {S : Nat → Prop} {f : Nat → Option PL} {b n : Nat} {l : List (Int × PL)} (h : HeldN w f b n l) (hk : Kept w W S) (hS : ¬ S b) : HeldN W f b n l := by
  have hl := h.1.lt
  obtain ⟨⟨es, clock, hb', F, hs, hD⟩, ha⟩ := h
  exact ⟨⟨es, clock, (hk.2 b hl hS).trans hb', F, hs, hD⟩, ha⟩
theorem HeldN.mono {w : World} {f : Nat → Option PL} {b n n' : Nat} {l : List (Int × PL)} (h : HeldN w f b n l) (hn : n ≤ n') : HeldN w f b n' l := ⟨h.1.mono hn, h.2⟩
theorem RH_ext {B : Nat} {f f' : Nat → Option PL} (h : Ext B f f') (v : Value) (z : DataW Unit × List MemPlace) (hz : RH f v = some z) : RH f' v = some z := by
  unfold RH at hz ⊢
  split at hz
  · exact hz
  · rename_i b
    cases hf : f b with
    | none => rw [hf] at hz; cases hz
    | some l => rw [h.1 b l hf]; rw [hf] at hz; exact hz
  · cases hz
theorem HeldN.ext {w : World} {B : Nat} {f f' : Nat → Option PL} {b n : Nat} {l : List (Int × PL)} (h : HeldN w f b n l) (he : Ext B f f') : HeldN w f' b n l := by
  obtain ⟨⟨es, clock, hb', F, hs, hD⟩, ha⟩ := h
  obtain ⟨F1, hmap, _⟩ := F.stay (fun x _ z hz => RH_ext he x.val z hz)
  exact ⟨⟨es, clock, hb', F1, hs, by rw [hD, ← hmap]⟩, ha⟩
theorem PM.gl {w : World} {f : Nat → Option PL} {N gp bn bh : Nat} {multi : Int} {now : PL} {held : List (Int × PL)} (h : PM w f N gp bn bh multi now held) : gp < w.heap.size := (Array.getElem?_eq_some_iff.1 h.blk).1
theorem PM.kept {w W : World} {S : Nat → Prop} {f : Nat → Option PL} {N gp bn bh : Nat} {multi : Int} {now : PL} {held : List (Int × PL)} (h : PM w f N gp bn bh multi now held) (hk : Kept w W S) (h1 : ¬ S gp) (h2 : ¬ S bn) (h3 : ¬ S bh) : PM W f N gp bn bh multi now held :=
  ⟨(hk.2 gp h.gl h1).trans h.blk, h.now.kept hk h2, h.held.kept hk h3, h.fn, h.fh, h.ne⟩
theorem PM.ext {w : World} {B : Nat} {f f' : Nat → Option PL} {N gp bn bh : Nat} {multi : Int} {now : PL} {held : List (Int × PL)} (h : PM w f N gp bn bh multi now held) (he : Ext B f f') (h2 : bn < B) (h3 : bh < B) : PM w f' N gp bn bh multi now held :=
  ⟨h.blk, h.now, h.held.ext he, by
    cases hf : f' bn with
    | none => rfl
    | some l => rcases he.2 bn l hf with e | e; rw [h.fn] at e; cases e; omega, by
    cases hf : f' bh with
    | none => rfl
    | some l => rcases he.2 bh l hf with e | e; rw [h.fh] at e; cases e; omega, h.ne⟩
theorem PM.mono {w : World} {f : Nat → Option PL} {N N' gp bn bh : Nat} {multi : Int} {now : PL} {held : List (Int × PL)} (h : PM w f N gp bn bh multi now held) (hn : N ≤ N') : PM w f N' gp bn bh multi now held :=
  ⟨h.blk, h.now.mono hn, h.held.mono hn, h.fn, h.fh, h.ne⟩
theorem Fro.kept {w W : World} {S : Nat → Prop} {f : Nat → Option PL} {N : Nat} (h : Fro w f N) (hk : Kept w W S) (hS : ∀ b l, f b = some l → ¬ S b) : Fro W f N := fun b l hb => (h b l hb).kept hk (hS b l hb)
theorem Fro.mono {w : World} {f : Nat → Option PL} {N N' : Nat} (h : Fro w f N) (hn : N ≤ N') : Fro w f N' := fun b l hb => (h b l hb).mono hn
theorem Fro.lt {w : World} {f : Nat → Option PL} {N : Nat} (h : Fro w f N) {b : Nat} (hb : w.heap.size ≤ b) : f b = none := by
  cases hf : f b with
  | none => rfl
  | some l => have := (h b l hf).lt; omega
theorem Fro.upd {w : World} {f : Nat → Option PL} {N b : Nat} {l : PL} (h : Fro w f N) (hb : MapN w b N l) : Fro w (updF f b l) N := by
  intro k v hk
  unfold updF at hk
  split at hk
  · rename_i e; subst e; cases hk; exact hb
  · exact h k v hk
theorem PM.c0 {w : World} {f : Nat → Option PL} {N gp bn bh : Nat} {multi : Int} {now : PL} {held : List (Int × PL)} (h : PM w f N gp bn bh multi now held) : w.cell? ⟨gp, 0, none⟩ = some (.int .i64 multi) := by rw [blk_cell h.blk]; rfl
theorem PM.c1 {w : World} {f : Nat → Option PL} {N gp bn bh : Nat} {multi : Int} {now : PL} {held : List (Int × PL)} (h : PM w f N gp bn bh multi now held) : w.cell? ⟨gp, 1, none⟩ = some (.map (some bn)) := by rw [blk_cell h.blk]; rfl
theorem PM.c2 {w : World} {f : Nat → Option PL} {N gp bn bh : Nat} {multi : Int} {now : PL} {held : List (Int × PL)} (h : PM w f N gp bn bh multi now held) : w.cell? ⟨gp, 2, none⟩ = some (.map (some bh)) := by rw [blk_cell h.blk]; rfl
def u64wf (k : Int) : Prop := (Lit.int .u64 k).wf = true
theorem dmap_ne_nil (l : PL) : dmap l ≠ .nil := by simp [dmap, mp]
/-- What a look-up in held gives. -/
theorem held_at {f : Nat → Option PL} {hs : List (Int × PL)} {k : Int} {v : Value} {ps : List MemPlace} (h : RH f v = some ((mp dmap hs).atKey (.int .u64 k) .nil, ps)) :
    (fnd hs k = none ∧ v = .map none) ∨ ∃ b l, fnd hs k = some l ∧ v = .map (some b) ∧ f b = some l := by
  rw [atKey_mp] at h
  cases hf : fnd hs k with
  | none =>
    left
    rw [hf] at h
    unfold RH at h
    split at h
    · exact ⟨rfl, rfl⟩
    · rename_i b
      cases hb : f b with
      | none => rw [hb] at h; cases h
      | some l =>
        rw [hb] at h
        simp only [Option.map_some, Option.some.injEq, Prod.mk.injEq] at h
        exact absurd h.1 (dmap_ne_nil l)
    · cases h
  | some l =>
    right
    rw [hf] at h
    unfold RH at h
    split at h
    · simp only [Option.some.injEq, Prod.mk.injEq] at h
      exact absurd h.1.symm (dmap_ne_nil l)
    · rename_i b
      cases hb : f b with
      | none => rw [hb] at h; cases h
      | some l' =>
        rw [hb] at h
        simp only [Option.map_some, Option.some.injEq, Prod.mk.injEq] at h
        obtain rfl := dmap_inj _ _ h.1
        exact ⟨b, l', rfl, rfl, hb⟩
    · cases h
theorem zeroM (w : World) : (zeroValue 97).run Try.prog w = .ok (.map none) w := by kernel_rfl
/-- v, ok := m.held[k] : the run. -/
theorem held_look {w : World} {f : Nat → Option PL} {b n : Nat} {hs : List (Int × PL)} (h : HeldN w f b n hs) {k : Int} (hk : u64wf k) :
    (∃ v : Value, ((fnd hs k = none ∧ v = .map none) ∨ ∃ b l, fnd hs k = some l ∧ v = .map (some b) ∧ f b = some l) ∧ (Instr.lookup 98 (.map (some b)) (.int .u64 k) true).run Try.prog w = .ok (.tuple #[v, .bool (fnd hs k).isSome]) w) := by
  obtain ⟨v, ps, hrun, hR⟩ := h.1.look_ok lawU Try.underlying98 (zeroM w) (zd := .nil) (zp := []) rfl (keyOf_int_mk Try.underlying23 hk)
  rw [has_mp] at hrun
  exact ⟨v, held_at hR, hrun⟩
/-- v, ok := m.now[k] : the run. -/
theorem now_look {w : World} {b n : Nat} {l : PL} (h : MapN w b n l) {k : Int} (hk : u64wf k) :
    (Instr.lookup 97 (.map (some b)) (.int .u64 k) true).run Try.prog w = .ok (.tuple #[.int .u64 ((fnd l k).getD 0), .bool (fnd l k).isSome]) w := by
  obtain ⟨v, ps, hrun, hR⟩ := h.1.look_ok lawU Try.underlying97 (zeroU w) (zd := .lit (.int .u64 0)) (zp := []) (plainElem_int Try.underlying23 (by decide)) (keyOf_int_mk Try.underlying23 hk)
  unfold dmap at hrun hR
  rw [has_mp] at hrun
  rw [atKey_mp] at hR
  obtain ⟨a, rfl, hz, -⟩ := plainElem_int_inv Try.underlying23 hR
  rw [hrun]
  cases hf : fnd l k with
  | none => rw [hf] at hz; simp at hz; rw [← hz.1]; rfl
  | some c => rw [hf] at hz; simp [lit64] at hz; rw [← hz.1]; rfl
/-- m.held[k] = a held map : the run. -/
theorem held_put {w : World} {f : Nat → Option PL} {b n : Nat} {hs : List (Int × PL)} (h : HeldN w f b n hs) {k : Int} (hk : u64wf k) {bl : Nat} {l : PL} (hf : f bl = some l) (hn : n < maxLen) :
    ∃ w', (Instr.mapUpdate 98 (.map (some b)) (.int .u64 k) (.map (some bl))).run Try.prog w = .ok () w' ∧ HeldN w' f b (n + 1) (put hs k l) ∧ w.grownBy w' (some b) := by
  obtain ⟨w', hrun, ho, hg⟩ := h.1.update lawU Try.underlying98 hn (key := .int .u64 k) (val := .map (some bl)) (kl := .int .u64 k) (d := dmap l) (ps := []) (keyOf_int_mk Try.underlying23 hk) (by simp [RH, hf])
  rw [put_mp _ _ _ h.2] at ho
  exact ⟨w', hrun, ⟨ho, asc_put h.2 _ _⟩, hg⟩
theorem now_put {w : World} {b n : Nat} {l : PL} (h : MapN w b n l) {k v : Int} (hk : u64wf k) (hv : u64wf v) (hn : n < maxLen) :
    ∃ w', (Instr.mapUpdate 97 (.map (some b)) (.int .u64 k) (.int .u64 v)).run Try.prog w = .ok () w' ∧ MapN w' b (n + 1) (put l k v) ∧ w.grownBy w' (some b) := by
  obtain ⟨w', hrun, ho, hg⟩ := h.1.update lawU Try.underlying97 hn (key := .int .u64 k) (val := .int .u64 v) (kl := .int .u64 k) (d := lit64 v) (ps := []) (keyOf_int_mk Try.underlying23 hk) (plainElem_int Try.underlying23 hv)
  unfold dmap at ho
  rw [put_mp _ _ _ h.2] at ho
  exact ⟨w', hrun, ⟨ho, asc_put h.2 _ _⟩, hg⟩
theorem now_del {w : World} {b n : Nat} {l : PL} (h : MapN w b n l) {k : Int} (hk : u64wf k) (ty : TypeId) :
    ∃ w', (Builtin.delete_ #[97, 23] ty #[.map (some b), .int .u64 k]).run Try.prog w = .ok (.tuple #[]) w' ∧ MapN w' b n (del l k) ∧ w.grownBy w' (some b) := by
  obtain ⟨w', hrun, ho, hg⟩ := h.1.drop lawU Try.underlying97 (key := .int .u64 k) (kl := .int .u64 k) (keyOf_int_mk Try.underlying23 hk) ty
  unfold dmap at ho
  rw [del_mp] at ho
  exact ⟨w', hrun, ⟨ho, asc_del h.2 _⟩, hg.grown⟩
theorem held_del {w : World} {f : Nat → Option PL} {b n : Nat} {hs : List (Int × PL)} (h : HeldN w f b n hs) {k : Int} (hk : u64wf k) (ty : TypeId) :
    ∃ w', (Builtin.delete_ #[98, 23] ty #[.map (some b), .int .u64 k]).run Try.prog w = .ok (.tuple #[]) w' ∧ HeldN w' f b n (del hs k) ∧ w.grownBy w' (some b) := by
  obtain ⟨w', hrun, ho, hg⟩ := h.1.drop lawU Try.underlying98 (key := .int .u64 k) (kl := .int .u64 k) (keyOf_int_mk Try.underlying23 hk) ty
  rw [del_mp] at ho
  exact ⟨w', hrun, ⟨ho, asc_del h.2 _⟩, hg.grown⟩
end Go.Proofs.Ytngocadnbpdnoaa.Mo
