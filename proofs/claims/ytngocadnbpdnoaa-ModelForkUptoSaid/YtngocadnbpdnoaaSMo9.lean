import Derived.Test.YtngocadnbpdnoaaSMo7
import Derived.OrdersHeld
namespace Go.Proofs.Ytngocadnbpdnoaa.Mo
open Go Go.Maps Go.RowKit Go.Proofs.Ytngocadnbpdnoaa.Srt Go.Proofs.Ytngocadnbpdnoaa.Q Go.Proofs.YtngocadnbpdnoaaW.PrintWords Go.Proofs.YtngocadnbpdnoaaW.PrintLast Go.Proofs.YtngocadnbpdnoaaW.PrintMore
set_option linter.unusedVariables false
set_option linter.unusedSimpArgs false
abbrev OpS := S39
def opC (o : OpS) (A : Option Addr) (c : Nat) : Array Value := #[.int .u8 o.f0, .int .u64 o.f1, .int .u64 o.f2, .int .u64 o.f3, .int .u64 o.f4, .bool o.f5.f0, .int .i64 o.f5.f1, .int .i64 o.f5.f2, .slice A o.f6.length c, .int .u64 o.f7, .int .u64 o.f8]
structure OpWf (o : OpS) : Prop where
  key : u64wf o.f1
  val : u64wf o.f2
  han : u64wf o.f4
structure MS where
  multi : Int
  now : PL
  held : List (Int × PL)
structure AnsD where
  e : Int
  fo : Bool
  v : Int
  dn : Bool
  h : Int
  ps : PL
  c : Int
def errD (e : Int) : AnsD := ⟨e, false, 0, false, 0, [], 0⟩
def foundD (s : MS) (o : OpS) : AnsD := ⟨0, (fnd s.now o.f1).isSome, (fnd s.now o.f1).getD 0, false, 0, [], 0⟩
/-- What Do leaves and tells. -/
def DoPost (w : World) (f : Nat → Option PL) (N gp bn bh : Nat) (s : MS) (d : AnsD) (e : Ending) (w' : World) : Prop :=
  ∃ ps, e = .returned (ansV d.e d.fo d.v d.dn d.h ps d.c) ∧ kSP.R 90 w' w.heap.size (fun _ => True) ps (toS d.ps) ∧ Left w w' f N gp bn bh s.multi s.now s.held (fun k => k = bn ∨ k = bh)
/-- The world behind the boxes of Do. -/
def doW (w : World) (o : OpS) (A : Option Addr) (c : Nat) : World := (w.alloc (.cells (opC o A c) 39)).alloc (.cells (ansC 0 false 0 false 0 (.slice none 0 0) 0) 26)
theorem doW_below (w : World) (o : OpS) (A : Option Addr) (c : Nat) : Below w.heap.size w (doW w o A c) := below_alloc (below_alloc (Below.refl _ _) _) _
theorem doW_size (w : World) (o : OpS) (A : Option Addr) (c : Nat) : (doW w o A c).heap.size = w.heap.size + 2 := by simp [doW]
theorem doW_op (w : World) (o : OpS) (A : Option Addr) (c : Nat) : (doW w o A c).heap[w.heap.size]? = some (.cells (opC o A c) 39 (0, 0)) := by
  have h := heap_alloc_new w (.cells (opC o A c) 39)
  have hl : w.heap.size < (w.alloc (.cells (opC o A c) 39)).heap.size := by simp
  exact ((below_alloc (Below.refl _ (w.alloc (.cells (opC o A c) 39))) (.cells (ansC 0 false 0 false 0 (.slice none 0 0) 0) 26)).block _ hl).trans h
theorem doW_ans (w : World) (o : OpS) (A : Option Addr) (c : Nat) : (doW w o A c).heap[w.heap.size + 1]? = some (.cells (ansC 0 false 0 false 0 (.slice none 0 0) 0) 26 (0, 0)) := by
  have h := heap_alloc_new (w.alloc (.cells (opC o A c) 39)) (.cells (ansC 0 false 0 false 0 (.slice none 0 0) 0) 26)
  simpa [doW] using h
theorem Left.row {w w3 : World} {f : Nat → Option PL} {N gp bn bh : Nat} {multi : Int} {now : PL} {held : List (Int × PL)} {K : Nat → Prop} (h : Left w w3 f N gp bn bh multi now held K) {g : Nat} (hg : w.heap.size ≤ g) {old : Array Value} {T : TypeId} {fr : Nat × Nat} (hb : w3.heap[g]? = some (.cells old T fr)) (h1 : gp < w.heap.size) (h2 : bn < w.heap.size) (h3 : bh < w.heap.size) (cs : Array Value) : Left w (w3.setRow g cs) f N gp bn bh multi now held K := by
  obtain ⟨f', he, hP, hF, hk⟩ := h
  refine ⟨f', he, hP.kept (Kept_row _ _ _) (by omega) (by omega) (by omega), hF.kept (Kept_row _ _ _) (fun b l e1 e2 => ?_), hk.then_ (KO.row _ _ _) (fun k e => .inr (by omega))⟩
  subst e2
  obtain ⟨es, cl, h4, _⟩ := (hF _ _ e1).1
  rw [hb] at h4; cases h4
theorem PM.gn {w : World} {f : Nat → Option PL} {N gp bn bh : Nat} {multi : Int} {now : PL} {held : List (Int × PL)} (h : PM w f N gp bn bh multi now held) : gp ≠ bn := fun e => by
  have h1 := h.blk
  rw [e] at h1
  obtain ⟨⟨es, cl, h2, _⟩, _⟩ := h.now
  rw [h1] at h2; cases h2
theorem PM.gh {w : World} {f : Nat → Option PL} {N gp bn bh : Nat} {multi : Int} {now : PL} {held : List (Int × PL)} (h : PM w f N gp bn bh multi now held) : gp ≠ bh := fun e => by
  have h1 := h.blk
  rw [e] at h1
  obtain ⟨⟨es, cl, h2, _⟩, _⟩ := h.held
  rw [h1] at h2; cases h2
/-- now has been written. -/
theorem left_now {w W w3 : World} {f : Nat → Option PL} {N gp bn bh : Nat} {multi : Int} {now now' : PL} {held : List (Int × PL)} (hP : PM W f N gp bn bh multi now held) (hF : Fro W f N) (hb : Below w.heap.size w W) (hm : MapN w3 bn (N + 1) now') (hg : W.grownBy w3 (some bn)) : Left w w3 f (N + 1) gp bn bh multi now' held (fun k => k = bn ∨ k = bh) := by
  have hk : Kept W w3 (fun k => k = bn) := Kept.of_grown hg (Kept.refl _ _) (fun k e => .inl (by cases e; rfl))
  refine ⟨f, Ext.refl _ _, ⟨(hk.2 gp hP.gl hP.gn).trans hP.blk, hm, (hP.held.kept hk (Ne.symm hP.ne)).mono (Nat.le_succ N), hP.fn, hP.fh, hP.ne⟩, (hF.kept hk (fun b l hb e => by subst e; rw [hP.fn] at hb; cases hb)).mono (Nat.le_succ N), ((KO.of_below hb _).then_ (KO.of_grown hg (KO.refl _ _) (fun k e => .inl (by cases e; rfl)) : KO W w3 (fun k => k = bn)) (fun k e => .inl (.inl e)))⟩
theorem left_held {w W w3 : World} {f : Nat → Option PL} {N gp bn bh : Nat} {multi : Int} {now : PL} {held held' : List (Int × PL)} (hP : PM W f N gp bn bh multi now held) (hF : Fro W f N) (hb : Below w.heap.size w W) (hm : HeldN w3 f bh (N + 1) held') (hg : W.grownBy w3 (some bh)) : Left w w3 f (N + 1) gp bn bh multi now held' (fun k => k = bn ∨ k = bh) := by
  have hk : Kept W w3 (fun k => k = bh) := Kept.of_grown hg (Kept.refl _ _) (fun k e => .inl (by cases e; rfl))
  refine ⟨f, Ext.refl _ _, ⟨(hk.2 gp hP.gl hP.gh).trans hP.blk, (hP.now.kept hk hP.ne).mono (Nat.le_succ N), hm, hP.fn, hP.fh, hP.ne⟩, (hF.kept hk (fun b l hb e => by subst e; rw [hP.fh] at hb; cases hb)).mono (Nat.le_succ N), ((KO.of_below hb _).then_ (KO.of_grown hg (KO.refl _ _) (fun k e => .inl (by cases e; rfl)) : KO W w3 (fun k => k = bh)) (fun k e => .inl (.inr e)))⟩
theorem grown_undrew {w W : World} {r : Option Nat} (h : w.drew.grownBy W r) : w.grownBy W r := ⟨h.os, h.tape, h.output, h.size, h.block⟩
def snapD (h : Int) (held : List (Int × PL)) : AnsD := if (fnd held h).isSome then errD 32 else ⟨0, false, 0, false, h, [], 0⟩
theorem Left.base {w W w' : World} {f : Nat → Option PL} {N gp bn bh : Nat} {multi : Int} {now : PL} {held : List (Int × PL)} {K K' : Nat → Prop} (h : Left W w' f N gp bn bh multi now held K) (hb : Below w.heap.size w W) (hK : ∀ k, K k → K' k) : Left w w' f N gp bn bh multi now held K' := by
  obtain ⟨f', he, hP, hF, hk⟩ := h
  exact ⟨f', ⟨he.1, fun b l e => (he.2 b l e).imp id (fun h => Nat.le_trans hb.size h)⟩, hP, hF, (KO.of_below hb K').then_ hk (fun k e => .inl (hK k e))⟩
theorem ans_cells {w : World} {g : Nat} {e : Int} {fo : Bool} {v : Int} {dn : Bool} {hd : Int} {ps : Value} {c : Int} (hb : w.heap[g]? = some (.cells (ansC e fo v dn hd ps c) 26 (0, 0))) :
    w.cell? ⟨g, 0, none⟩ = some (.int .i64 e) ∧ w.cell? ⟨g, 1, none⟩ = some (.bool fo) ∧ w.cell? ⟨g, 2, none⟩ = some (.int .u64 v) ∧ w.cell? ⟨g, 3, none⟩ = some (.bool dn) ∧ w.cell? ⟨g, 4, none⟩ = some (.int .u64 hd) ∧ w.cell? ⟨g, 5, none⟩ = some ps ∧ w.cell? ⟨g, 6, none⟩ = some (.int .u64 c) := by
  refine ⟨?_, ?_, ?_, ?_, ?_, ?_, ?_⟩ <;> (rw [blk_cell hb]; rfl)
/-- The block of a struct that is read. -/
structure DoAt (w W : World) (o : OpS) (A : Option Addr) (c : Nat) (ra : Array Value) : Prop where
  op : W.heap[w.heap.size]? = some (.cells (opC o A c) 39 (0, 0))
  ans : W.heap[w.heap.size + 1]? = some (.cells ra 26 (0, 0))
  low : Kept w W (fun _ => False)
end Go.Proofs.Ytngocadnbpdnoaa.Mo
