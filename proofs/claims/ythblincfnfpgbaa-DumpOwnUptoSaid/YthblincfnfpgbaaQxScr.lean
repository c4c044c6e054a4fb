import Derived.Test.YthblincfnfpgbaaQxTk
namespace Go.Proofs.Ythblincfnfpgbaa.Q
open Go.RowKit Go.Proofs.YthblincfnfpgbaaW.PrintWords Go.Proofs.YthblincfnfpgbaaW.PrintLast Go.Proofs.YthblincfnfpgbaaW.PrintMore
set_option linter.unusedVariables false
/-- A row of pairs of the call's own that is being written over. -/
structure Scr (w0 w : World) (A : Option Addr) (n : Nat) : Prop where
  below : Below w0.heap.size w0 w
  len : n ≤ 9223372036854775807
  row : 0 < n → ∃ gp cur, A = some ⟨gp, 0, none⟩ ∧ w0.heap.size ≤ gp ∧ w.heap[gp]? = some (.cells cur 82 (0, 0)) ∧ n * 2 ≤ cur.size
theorem scr_of {w0 w : World} {ok : Nat → Prop} {A : Option Addr} {n c : Nat} {xs : List S82} (h : Kd.R k82 82 w w0.heap.size ok (.slice A n c) xs) (hb : Below w0.heap.size w0 w) : Scr w0 w A n := by
  obtain ⟨inner, ho⟩ := Kd.R_own h
  rcases ho.2 with ⟨h2, h3⟩ | ⟨g, cap, cur, h2, hbg, hgg, hnc, hcm, hcs, htake⟩
  · injection h2 with e1 e2 e3
    exact ⟨hb, by omega, fun hp => by omega⟩
  · injection h2 with e1 e2 e3
    subst e1
    refine ⟨hb, by simp only [maxLen] at hcm; omega, fun hp => ⟨g, cur, rfl, hbg, hgg, ?_⟩⟩
    have h5 : cur.size = cap * 2 := hcs
    omega
theorem Scr.at_ {w0 w : World} {A : Option Addr} {n : Nat} (h : Scr w0 w A n) (y : Int) (h0 : 0 ≤ y) (hy : y < n) : ∃ gp u, A = some ⟨gp, 0, none⟩ ∧ w.cell? ⟨gp, y.toNat * 2 + 1, none⟩ = some u ∧ w.frozen? ⟨gp, y.toNat * 2 + 1, none⟩ = false ∧ ∀ z, Scr w0 (w.setCell ⟨gp, y.toNat * 2 + 1, none⟩ z) A n := by
  obtain ⟨gp, cur, e, h1, h2, h3⟩ := h.row (by omega)
  have hlt : y.toNat * 2 + 1 < cur.size := by omega
  refine ⟨gp, cur[y.toNat * 2 + 1], e, ?_, ?_, fun z => ⟨h.below.setCell (p := ⟨gp, _, none⟩) h1 _, h.len, fun hp => ⟨gp, _, e, h1, blk_set h2 _ _, by simpa using h3⟩⟩⟩
  · rw [blk_cell h2, Array.getElem?_eq_getElem hlt]
  · exact blk_frozen h2 _
end Go.Proofs.Ythblincfnfpgbaa.Q
