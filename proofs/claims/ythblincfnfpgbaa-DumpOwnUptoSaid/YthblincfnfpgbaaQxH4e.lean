import Derived.Test.YthblincfnfpgbaaQxH4d
import Derived.BigRegion
import Derived.Deep.DeepCutAuto
namespace Go.Proofs.Ythblincfnfpgbaa.Q
open Go.RowKit Go.Proofs.YthblincfnfpgbaaW.PrintWords Go.Proofs.YthblincfnfpgbaaW.PrintLast Go.Proofs.YthblincfnfpgbaaW.PrintMore
set_option linter.unusedVariables false
/-- step_R one draw later. -/
theorem step_R2 {α : Type} {P : Program} {ops : Array Oper} {o : Oper} {a : Act} {K : Act → World → Prop} {Q : Exit → Act → World → Prop} {E : Prop} (d : Kd α) {w0 W : World} (base : Nat) (hgd : o.guard = none) (s x : Operand) (t e : TypeId) (z : Value) (bytes : Nat)
    (ho : o.op = .call { callee := .builtin .append, args := #[s, x], argTypes := #[t, t] })
    (ht : P.underlying t = some (.slice e)) (hinfo : (P.info? e).map (fun i => (i.zero, i.size, i.bytes)) = some (some z, d.sz, bytes)) (hz : z.cells.size = d.sz) (hs0 : 0 < d.sz) (hb0 : 0 < bytes)
    (v : Value) (xs : List α) (p : α) (cs : List Value) (ok okp : Nat → Prop) (hs : a.eval s = v) (hx : a.eval x = .slice (some ⟨W.heap.size, 0, none⟩) 1 1) (hp : d.M W.drew base okp p cs) (hokp : ∀ k, okp k → ok k ∧ some k ≠ v.ownBlock) (hfresh : ∀ k, W.heap.size ≤ k → ok k)
    (HO : d.R e W.drew base ok v xs) (HB : Below base w0 W.drew) (hbase : base ≤ W.heap.size) (hl : (xs.length + 1) * bytes ≤ 140737488355328)
    (h : ∀ v1 w1, d.R e w1 base ok v1 (xs ++ [p]) → Below base w0 w1 → W.drew.grownBy w1 v.ownBlock → (v1.ownBlock = v.ownBlock ∨ ∃ b, v1.ownBlock = some b ∧ W.heap.size ≤ b) → K (a.put o.dst v1) w1) :
    if Region.wanted o (yielded ops a.tmps) = true then Oper.wp P o a (W.alloc (.cells cs.toArray e)).drew.drew K Q else E :=
  step_R (W := W.drew) d base hgd s x t e z bytes ho ht hinfo hz hs0 hb0 v xs p cs ok okp hs hx hp hokp hfresh HO HB hbase hl h
/-- VisP with its slot's value told. -/
def VisQ (w0 : World) (g h : Nat) (ft : Bool) (xs : List S82) (v : Value) (w' : World) : Prop :=
  Below w0.heap.size w0 w' ∧ w'.heap[h]? = some (.cells #[.bool ft] 4 (0, 0)) ∧ w'.heap[g]? = some (.cells #[v] 22 (0, 0)) ∧ Kd.R k82 82 w' w0.heap.size (fun k => k ≠ g ∧ k ≠ h) v xs
theorem visQ_fit {w0 w1 : World} {g h : Nat} {ft : Bool} {xs : List S82} {v : Value} (hV : VisQ w0 g h ft xs v w1) (hG : w0.heap.size ≤ h) (ft' : Bool) : VisQ w0 g h ft' xs v (w1.setCell ⟨h, 0, none⟩ (.bool ft')).drew := by
  obtain ⟨h1, h2, h3, h4⟩ := hV
  exact ⟨(h1.setCell hG _).drew, (blk_set h2 0 _).trans rfl, blk_far h3 (blk_ne h3 h2 (by decide)) _, Kd.R_below (Kd.R_far (p := ⟨h, 0, none⟩) h4 (fun _ h => h.2) _) (below_drew (Below.refl _ _))⟩
theorem visQ_P {w0 w1 : World} {g h : Nat} {ft : Bool} {xs : List S82} {v : Value} (hV : VisQ w0 g h ft xs v w1) : VisP w0 g h ft xs w1 := ⟨hV.1, hV.2.1, v, hV.2.2.1, hV.2.2.2⟩
set_option maxHeartbeats 4000000 in
set_option maxRecDepth 100000 in
theorem pvisB0_c (w0 w : World) (g h : Nat) (ft : Bool) (xs : List S82) (q : Addr) (k2 : Int) (b : Bool) (o n : Int) (hV : VisP w0 g h ft xs w) (hg : w0.heap.size ≤ g) (hh : w0.heap.size ≤ h)
    (hl : xs.length < 4398046511104) (hqg : q.block ≠ g) (hqh : q.block ≠ h) (q1 : w.cell? q = some (.int .u64 k2)) (q2 : w.cell? ⟨q.block, q.off + 1, none⟩ = some (.bool b)) (q3 : w.cell? ⟨q.block, q.off + 2, none⟩ = some (.bool false)) (q4 : w.cell? ⟨q.block, q.off + 3, none⟩ = some (.int .u64 o)) (q5 : w.cell? ⟨q.block, q.off + 4, none⟩ = some (.int .u64 n)) :
    Calls Try.prog 49 #[.pointer none, .pointer (some q), .pointer (some ⟨g, 0, none⟩), .pointer (some ⟨h, 0, none⟩)] w fun e w' => e = .returned (.tuple #[]) ∧ VisP w0 g h (ft && !b) (xs) w' := by
  have hu82 := Try.underlying82
  have hu30 := Try.underlying30
  obtain ⟨hB, hH, v, hbox, hR⟩ := hV
  have HV := Lib.hid (show VisQ w0 g h ft xs v w from ⟨hB, hH, hbox, hR⟩)
  have hgh : g ≠ h := blk_ne hbox hH (by decide)
  have hgl := blk_lt hbox
  have hhl := blk_lt hH
  have hgc : w.cell? ⟨g, 0, none⟩ = some v := (blk_cell hbox 0).trans rfl
  have hhc : w.cell? ⟨h, 0, none⟩ = some (.bool ft) := (blk_cell hH 0).trans rfl
  have hhf : w.frozen? ⟨h, 0, none⟩ = false := blk_frozen hH 0
  have HG := Lib.hid hg
  have HG2 := Lib.hid hh
  have HL := Lib.hid hl
  clear hB hg hh hbox hH hR hl
  go_enter Try.func49, Try.ntmps49
  obtain ⟨r, hr⟩ : ∃ r : Bool, r = (ft && !b) := ⟨_, rfl⟩
  rw [← hr]
  go_upto_region 2 with fail
  go_cut [] (fun wx => wx = (w.setCell ⟨h, 0, none⟩ (.bool r)).drew)
  case first =>
    have HR0 := Lib.hid hr
    clear hr
    cases ft <;> cases b
    all_goals go_region
    all_goals (go_wp2_with fail; go_meet; (rw [HR0.out]; rfl))
  case rest =>
    obtain rfl := hcut
    clear hr
    go_wp2
    go_end0
    exact ⟨rfl, visQ_P (visQ_fit HV.out HG2.out _)⟩
set_option maxHeartbeats 4000000 in
set_option maxRecDepth 100000 in
theorem pvisAB0_c (w0 w : World) (g h : Nat) (ft : Bool) (xs : List S82) (p : Addr) (k u : Int) (q : Addr) (k2 : Int) (b : Bool) (o n : Int) (hV : VisP w0 g h ft xs w) (hg : w0.heap.size ≤ g) (hh : w0.heap.size ≤ h)
    (hl : xs.length < 4398046511104) (hqg : q.block ≠ g) (hqh : q.block ≠ h) (h1 : w.cell? p = some (.int .u64 k)) (h2 : w.cell? ⟨p.block, p.off + 1, none⟩ = some (.int .u64 u)) (q1 : w.cell? q = some (.int .u64 k2)) (q2 : w.cell? ⟨q.block, q.off + 1, none⟩ = some (.bool b)) (q3 : w.cell? ⟨q.block, q.off + 2, none⟩ = some (.bool false)) (q4 : w.cell? ⟨q.block, q.off + 3, none⟩ = some (.int .u64 o)) (q5 : w.cell? ⟨q.block, q.off + 4, none⟩ = some (.int .u64 n)) :
    Calls Try.prog 49 #[.pointer (some p), .pointer (some q), .pointer (some ⟨g, 0, none⟩), .pointer (some ⟨h, 0, none⟩)] w fun e w' => e = .returned (.tuple #[]) ∧ VisP w0 g h (ft && b && (o == u)) (xs) w' := by
  have hu82 := Try.underlying82
  have hu30 := Try.underlying30
  obtain ⟨hB, hH, v, hbox, hR⟩ := hV
  have HV := Lib.hid (show VisQ w0 g h ft xs v w from ⟨hB, hH, hbox, hR⟩)
  have hgh : g ≠ h := blk_ne hbox hH (by decide)
  have hgl := blk_lt hbox
  have hhl := blk_lt hH
  have hgc : w.cell? ⟨g, 0, none⟩ = some v := (blk_cell hbox 0).trans rfl
  have hhc : w.cell? ⟨h, 0, none⟩ = some (.bool ft) := (blk_cell hH 0).trans rfl
  have hhf : w.frozen? ⟨h, 0, none⟩ = false := blk_frozen hH 0
  have HG := Lib.hid hg
  have HG2 := Lib.hid hh
  have HL := Lib.hid hl
  clear hB hg hh hbox hH hR hl
  go_enter Try.func49, Try.ntmps49
  obtain ⟨r, hr⟩ : ∃ r : Bool, r = (ft && b && (o == u)) := ⟨_, rfl⟩
  rw [← hr]
  go_upto_region 2 with fail
  go_cut [] (fun wx => wx = (w.setCell ⟨h, 0, none⟩ (.bool r)).drew)
  case first =>
    have HR0 := Lib.hid hr
    clear hr
    generalize hou : (o == u) = ou at HR0; cases ft <;> cases b <;> cases ou
    all_goals go_region
    all_goals (go_wp2_with fail; go_meet; (rw [HR0.out]; rfl))
  case rest =>
    obtain rfl := hcut
    clear hr
    go_wp2
    go_end0
    exact ⟨rfl, visQ_P (visQ_fit HV.out HG2.out _)⟩
set_option maxHeartbeats 4000000 in
set_option maxRecDepth 100000 in
theorem pvisB1_c (w0 w : World) (g h : Nat) (ft : Bool) (xs : List S82) (q : Addr) (k2 : Int) (b : Bool) (o n : Int) (hV : VisP w0 g h ft xs w) (hg : w0.heap.size ≤ g) (hh : w0.heap.size ≤ h)
    (hl : xs.length < 4398046511104) (hqg : q.block ≠ g) (hqh : q.block ≠ h) (q1 : w.cell? q = some (.int .u64 k2)) (q2 : w.cell? ⟨q.block, q.off + 1, none⟩ = some (.bool b)) (q3 : w.cell? ⟨q.block, q.off + 2, none⟩ = some (.bool true)) (q4 : w.cell? ⟨q.block, q.off + 3, none⟩ = some (.int .u64 o)) (q5 : w.cell? ⟨q.block, q.off + 4, none⟩ = some (.int .u64 n)) :
    Calls Try.prog 49 #[.pointer none, .pointer (some q), .pointer (some ⟨g, 0, none⟩), .pointer (some ⟨h, 0, none⟩)] w fun e w' => e = .returned (.tuple #[]) ∧ VisP w0 g h (ft && !b) (xs ++ [⟨k2, n⟩]) w' := by
  have hu82 := Try.underlying82
  have hu30 := Try.underlying30
  obtain ⟨hB, hH, v, hbox, hR⟩ := hV
  have HV := Lib.hid (show VisQ w0 g h ft xs v w from ⟨hB, hH, hbox, hR⟩)
  have hgh : g ≠ h := blk_ne hbox hH (by decide)
  have hgl := blk_lt hbox
  have hhl := blk_lt hH
  have hgc : w.cell? ⟨g, 0, none⟩ = some v := (blk_cell hbox 0).trans rfl
  have hhc : w.cell? ⟨h, 0, none⟩ = some (.bool ft) := (blk_cell hH 0).trans rfl
  have hhf : w.frozen? ⟨h, 0, none⟩ = false := blk_frozen hH 0
  have HG := Lib.hid hg
  have HG2 := Lib.hid hh
  have HL := Lib.hid hl
  clear hB hg hh hbox hH hR hl
  go_enter Try.func49, Try.ntmps49
  obtain ⟨r, hr⟩ : ∃ r : Bool, r = (ft && !b) := ⟨_, rfl⟩
  rw [← hr]
  go_upto_region 2 with fail
  go_cut [] (fun wx => wx = (w.setCell ⟨h, 0, none⟩ (.bool r)).drew)
  case first =>
    have HR0 := Lib.hid hr
    clear hr
    cases ft <;> cases b
    all_goals go_region
    all_goals (go_wp2_with fail; go_meet; (rw [HR0.out]; rfl))
  case rest =>
    obtain rfl := hcut
    clear hr
    go_wp2
    have qs : (w.setCell ⟨h, 0, none⟩ (.bool r)).cell? q = some (.int .u64 k2) := (World.cell?_setCell_far _ _ _ _ (Ne.symm hqh)).trans q1
    have HW := Lib.hid (visQ_fit HV.out HG2.out r)
    go_region_law (refine step_R2 k82 (w0 := w0) (W := w.setCell ⟨h, 0, none⟩ (.bool r)) w0.heap.size (by rfl) (.tmp 43) (.tmp 53) 22 82 (.agg #[.int .u64 0, .int .u64 0]) 16 rfl Try.underlying22 info82 rfl (by decide) (by omega) v xs ⟨k2, n⟩ [.int .u64 k2, .int .u64 n] (fun k => k ≠ g ∧ k ≠ h) (fun _ => False) rfl ?xx (k82_mkM _ _ _ ⟨k2, n⟩) (fun _ hk => hk.elim) (fun j hj => ⟨by simp at hj; omega, by simp at hj; omega⟩) HW.out.2.2.2 HW.out.1 HW.out.1.size (by have := HL.out; omega) ?_; (case xx => simp [Act.eval]); intro v1 w1 hR1 hB1 hG1 hat; obtain ⟨A1, c1, rfl⟩ := Kd.R_slice hR1; have hX1 := blk_grown HW.out.2.2.1 hG1 (fun e => (HW.out.2.2.2.1 g e.symm).1 rfl); have hH1 := blk_grown HW.out.2.1 hG1 (fun e => (HW.out.2.2.2.1 h e.symm).2 rfl); have hgc1 : w1.cell? ⟨g, 0, none⟩ = some v := (blk_cell hX1 0).trans rfl; have hgf1 : w1.frozen? ⟨g, 0, none⟩ = false := blk_frozen hX1 0; have HX1 := Lib.hid hX1; have HH1 := Lib.hid hH1; have HR1 := Lib.hid hR1; have HB1 := Lib.hid hB1; clear hX1 hH1 hR1 hB1 hG1 hat)
    all_goals go_wp2
    all_goals go_end0
    all_goals clear qs
    all_goals exact ⟨rfl, visP_done HB1.out HG.out HX1.out HH1.out HR1.out (by simp)⟩
set_option maxHeartbeats 4000000 in
set_option maxRecDepth 100000 in
theorem pvisAB1_c (w0 w : World) (g h : Nat) (ft : Bool) (xs : List S82) (p : Addr) (k u : Int) (q : Addr) (k2 : Int) (b : Bool) (o n : Int) (hV : VisP w0 g h ft xs w) (hg : w0.heap.size ≤ g) (hh : w0.heap.size ≤ h)
    (hl : xs.length < 4398046511104) (hqg : q.block ≠ g) (hqh : q.block ≠ h) (h1 : w.cell? p = some (.int .u64 k)) (h2 : w.cell? ⟨p.block, p.off + 1, none⟩ = some (.int .u64 u)) (q1 : w.cell? q = some (.int .u64 k2)) (q2 : w.cell? ⟨q.block, q.off + 1, none⟩ = some (.bool b)) (q3 : w.cell? ⟨q.block, q.off + 2, none⟩ = some (.bool true)) (q4 : w.cell? ⟨q.block, q.off + 3, none⟩ = some (.int .u64 o)) (q5 : w.cell? ⟨q.block, q.off + 4, none⟩ = some (.int .u64 n)) :
    Calls Try.prog 49 #[.pointer (some p), .pointer (some q), .pointer (some ⟨g, 0, none⟩), .pointer (some ⟨h, 0, none⟩)] w fun e w' => e = .returned (.tuple #[]) ∧ VisP w0 g h (ft && b && (o == u)) (xs ++ [⟨k2, n⟩]) w' := by
  have hu82 := Try.underlying82
  have hu30 := Try.underlying30
  obtain ⟨hB, hH, v, hbox, hR⟩ := hV
  have HV := Lib.hid (show VisQ w0 g h ft xs v w from ⟨hB, hH, hbox, hR⟩)
  have hgh : g ≠ h := blk_ne hbox hH (by decide)
  have hgl := blk_lt hbox
  have hhl := blk_lt hH
  have hgc : w.cell? ⟨g, 0, none⟩ = some v := (blk_cell hbox 0).trans rfl
  have hhc : w.cell? ⟨h, 0, none⟩ = some (.bool ft) := (blk_cell hH 0).trans rfl
  have hhf : w.frozen? ⟨h, 0, none⟩ = false := blk_frozen hH 0
  have HG := Lib.hid hg
  have HG2 := Lib.hid hh
  have HL := Lib.hid hl
  clear hB hg hh hbox hH hR hl
  go_enter Try.func49, Try.ntmps49
  obtain ⟨r, hr⟩ : ∃ r : Bool, r = (ft && b && (o == u)) := ⟨_, rfl⟩
  rw [← hr]
  go_upto_region 2 with fail
  go_cut [] (fun wx => wx = (w.setCell ⟨h, 0, none⟩ (.bool r)).drew)
  case first =>
    have HR0 := Lib.hid hr
    clear hr
    generalize hou : (o == u) = ou at HR0; cases ft <;> cases b <;> cases ou
    all_goals go_region
    all_goals (go_wp2_with fail; go_meet; (rw [HR0.out]; rfl))
  case rest =>
    obtain rfl := hcut
    clear hr
    go_wp2
    have qs : (w.setCell ⟨h, 0, none⟩ (.bool r)).cell? q = some (.int .u64 k2) := (World.cell?_setCell_far _ _ _ _ (Ne.symm hqh)).trans q1
    have HW := Lib.hid (visQ_fit HV.out HG2.out r)
    go_region_law (refine step_R2 k82 (w0 := w0) (W := w.setCell ⟨h, 0, none⟩ (.bool r)) w0.heap.size (by rfl) (.tmp 43) (.tmp 53) 22 82 (.agg #[.int .u64 0, .int .u64 0]) 16 rfl Try.underlying22 info82 rfl (by decide) (by omega) v xs ⟨k2, n⟩ [.int .u64 k2, .int .u64 n] (fun k => k ≠ g ∧ k ≠ h) (fun _ => False) rfl ?xx (k82_mkM _ _ _ ⟨k2, n⟩) (fun _ hk => hk.elim) (fun j hj => ⟨by simp at hj; omega, by simp at hj; omega⟩) HW.out.2.2.2 HW.out.1 HW.out.1.size (by have := HL.out; omega) ?_; (case xx => simp [Act.eval]); intro v1 w1 hR1 hB1 hG1 hat; obtain ⟨A1, c1, rfl⟩ := Kd.R_slice hR1; have hX1 := blk_grown HW.out.2.2.1 hG1 (fun e => (HW.out.2.2.2.1 g e.symm).1 rfl); have hH1 := blk_grown HW.out.2.1 hG1 (fun e => (HW.out.2.2.2.1 h e.symm).2 rfl); have hgc1 : w1.cell? ⟨g, 0, none⟩ = some v := (blk_cell hX1 0).trans rfl; have hgf1 : w1.frozen? ⟨g, 0, none⟩ = false := blk_frozen hX1 0; have HX1 := Lib.hid hX1; have HH1 := Lib.hid hH1; have HR1 := Lib.hid hR1; have HB1 := Lib.hid hB1; clear hX1 hH1 hR1 hB1 hG1 hat)
    all_goals go_wp2
    all_goals go_end0
    all_goals clear qs
    all_goals exact ⟨rfl, visP_done HB1.out HG.out HX1.out HH1.out HR1.out (by simp)⟩
end Go.Proofs.Ythblincfnfpgbaa.Q
