import Derived.Test.YthblincfnfpgbaaQxH4c
import Derived.StillTailTactics
namespace Go.Proofs.Ythblincfnfpgbaa.Q
open Go.RowKit Go.Proofs.YthblincfnfpgbaaW.PrintWords Go.Proofs.YthblincfnfpgbaaW.PrintLast Go.Proofs.YthblincfnfpgbaaW.PrintMore
set_option linter.unusedVariables false
/-- What a call of Patch's visitor leaves: its list, and whether all fits. -/
def VisP (w0 : World) (g h : Nat) (ft : Bool) (xs : List S82) (w' : World) : Prop :=
  Below w0.heap.size w0 w' ∧ w'.heap[h]? = some (.cells #[.bool ft] 4 (0, 0)) ∧ ∃ v', w'.heap[g]? = some (.cells #[v'] 22 (0, 0)) ∧ Kd.R k82 82 w' w0.heap.size (fun k => k ≠ g ∧ k ≠ h) v' xs
theorem visP_below {w0 w1 w2 : World} {g h : Nat} {ft : Bool} {xs : List S82} (hv : VisP w0 g h ft xs w1) (hb : Below w1.heap.size w1 w2) : VisP w0 g h ft xs w2 := by
  obtain ⟨h1, h2, v, h3, h4⟩ := hv
  exact ⟨h1.trans (hb.mono h1.size), blk_below h2 hb, v, blk_below h3 hb, Kd.R_below h4 hb⟩
theorem visP_done {w0 w1 : World} {g h n : Nat} {A1 : Option Addr} {c1 : Nat} {v : Value} {ft : Bool} {xs : List S82} (hB : Below w0.heap.size w0 w1) (hG : w0.heap.size ≤ g) (hX : w1.heap[g]? = some (.cells #[v] 22 (0, 0))) (hH : w1.heap[h]? = some (.cells #[.bool ft] 4 (0, 0)))
    (hR : Kd.R k82 82 w1 w0.heap.size (fun k => k ≠ g ∧ k ≠ h) (.slice A1 xs.length c1) xs) (hn : n = xs.length) : VisP w0 g h ft xs (w1.setCell ⟨g, 0, none⟩ (.slice A1 n c1)) := by
  subst hn
  exact ⟨hB.setCell hG _, blk_far hH (blk_ne hH hX (by decide)) _, _, (blk_set hX 0 _).trans rfl, Kd.R_far (p := ⟨g, 0, none⟩) hR (fun _ h => h.1) _⟩
theorem visP_fit {w0 w1 : World} {g h : Nat} {ft ft' : Bool} {xs : List S82} (hV : VisP w0 g h ft xs w1) (hG : w0.heap.size ≤ h) : VisP w0 g h ft' xs (w1.setCell ⟨h, 0, none⟩ (.bool ft')) := by
  obtain ⟨h1, h2, v, h3, h4⟩ := hV
  exact ⟨h1.setCell hG _, (blk_set h2 0 _).trans rfl, v, blk_far h3 (blk_ne h3 h2 (by decide)) _, Kd.R_far (p := ⟨h, 0, none⟩) h4 (fun _ h => h.2) _⟩
set_option maxHeartbeats 4000000 in
set_option maxRecDepth 100000 in
theorem pvisA_c (w0 w : World) (g h : Nat) (ft : Bool) (xs : List S82) (p : Addr) (k u : Int) (hV : VisP w0 g h ft xs w) (hg : w0.heap.size ≤ g) (hh : w0.heap.size ≤ h)
    (hl : xs.length < 4398046511104) (h1 : w.cell? p = some (.int .u64 k)) (h2 : w.cell? ⟨p.block, p.off + 1, none⟩ = some (.int .u64 u)) :
    Calls Try.prog 49 #[.pointer (some p), .pointer none, .pointer (some ⟨g, 0, none⟩), .pointer (some ⟨h, 0, none⟩)] w fun e w' => e = .returned (.tuple #[]) ∧ VisP w0 g h ft (xs ++ [⟨k, u⟩]) w' := by
  have hu82 := Try.underlying82
  obtain ⟨hB, hH, v, hbox, hR⟩ := hV
  have hgl := blk_lt hbox
  have hhl := blk_lt hH
  have hgc : w.cell? ⟨g, 0, none⟩ = some v := by rw [blk_cell hbox]; rfl
  have HB := Lib.hid hB
  have HG := Lib.hid hg
  have HG2 := Lib.hid hh
  have HX := Lib.hid hbox
  have HH := Lib.hid hH
  have HR := Lib.hid hR
  have HL := Lib.hid hl
  clear hB hg hh hbox hH hR hl
  go_enter Try.func49, Try.ntmps49
  go_wp2
  go_region_law (refine step_R k82 (w0 := w0) (W := w) w0.heap.size (by rfl) (.tmp 8) (.tmp 12) 22 82 (.agg #[.int .u64 0, .int .u64 0]) 16 rfl Try.underlying22 info82 rfl (by decide) (by omega) v xs ⟨k, u⟩ [.int .u64 k, .int .u64 u] (fun k => k ≠ g ∧ k ≠ h) (fun _ => False) rfl rfl (k82_mkM _ _ _ ⟨k, u⟩) (fun _ hk => hk.elim) (fun j hj => ⟨by omega, by omega⟩) HR.out HB.out HB.out.size (by have := HL.out; omega) ?_; intro v1 w1 hR1 hB1 hG1 hat; obtain ⟨A1, c1, rfl⟩ := Kd.R_slice hR1; have hX1 := blk_grown HX.out hG1 (fun e => (HR.out.1 g e.symm).1 rfl); have hH1 := blk_grown HH.out hG1 (fun e => (HR.out.1 h e.symm).2 rfl); have hgc1 : w1.cell? ⟨g, 0, none⟩ = some v := (blk_cell hX1 0).trans rfl ; have hgf1 : w1.frozen? ⟨g, 0, none⟩ = false := blk_frozen hX1 0 ; have HX1 := Lib.hid hX1 ; have HH1 := Lib.hid hH1 ; have HR1 := Lib.hid hR1 ; have HB1 := Lib.hid hB1 ; clear hX1 hH1 hR1 hB1 hG1 hat)
  all_goals go_wp2
  all_goals (try simp only [Exit.inBlock, Exit.then])
  all_goals refine bodyPost_ret (results_none rfl _ _ _) rfl ?_
  all_goals exact ⟨rfl, visP_done HB1.out HG.out HX1.out HH1.out HR1.out (by simp)⟩
end Go.Proofs.Ythblincfnfpgbaa.Q
