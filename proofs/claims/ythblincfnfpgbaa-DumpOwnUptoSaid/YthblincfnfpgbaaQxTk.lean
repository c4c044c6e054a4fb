import Derived.Test.YthblincfnfpgbaaQxAB1
namespace Go.Proofs.Ythblincfnfpgbaa.Q
open Go.RowKit Go.Proofs.YthblincfnfpgbaaW.PrintWords Go.Proofs.YthblincfnfpgbaaW.PrintLast Go.Proofs.YthblincfnfpgbaaW.PrintMore
set_option linter.unusedVariables false
set_option linter.unusedSimpArgs false
set_option maxHeartbeats 4000000 in
set_option maxRecDepth 100000 in
theorem take_c (g : Nat) (cs : Array Value) (vO : Value) (hs : List Hdr) (A : Option Addr) (n c : Nat) (base : Nat) (w : World) (hB : BookF w base g 0 48 cs vO hs) (hbase : base ≤ g) (hsl : hs.length < 1099511627776) :
    Calls Try.prog 34 #[.pointer (some ⟨g, 0, none⟩), .slice A n c] w fun e w' => e = .returned (.tuple #[]) ∧ ∃ cs' vO', BookF w' base g 0 48 cs' vO' (hs ++ [(A, n, c)]) ∧ (∀ j, 0 < j → cs'[j]? = cs[j]?) ∧ Kept w w' (fun k => k = g ∨ vO.ownBlock = some k) ∧ Below base w w' ∧ (∀ k, vO'.ownBlock = some k → vO.ownBlock = some k ∨ w.heap.size ≤ k) := by
  have HB := Lib.hid hB
  have HBA := Lib.hid hbase
  have HSL := Lib.hid hsl
  obtain ⟨A0, c0, rfl⟩ := Kd.R_slice hB.row
  have hc := HB.out.cell
  have HGL : Hid (g < w.heap.size) := Lib.hid (blk_lt hB.blk)
  have HNE := Lib.hid (Kd.R_ne hB.row hB.blk (by decide))
  clear hB hbase hsl
  go_enter Try.func34, Try.ntmps34
  go_wp2_with (first | ((with_reducible refine gate_builtin (b := .append) (xs := #[.tmp 8, .tmp 10]) rfl ?_); at_builtin; refine Kd.R_append hdr (w0 := w) base rfl (.tmp 8) (.tmp 10) 58 48 (.slice none 0 0) 24 rfl Try.underlying58 info48 rfl (show 0 < 1 by decide) (by omega) (.slice A0 hs.length c0) hs (A, n, c) [.slice A n c] (fun _ => True) (fun _ => False) rfl rfl rfl (fun _ hk => hk.elim) (fun _ _ => trivial) (Kd.R_mono HB.out.row (fun _ _ => trivial)) (Below.refl _ _) (by have h5 := HBA.out; have h6 := HGL.out; omega) (by have h5 := HSL.out; omega) ?_; intro v1 w5 ho hb hg hat; have HO := Lib.hid ho; have HB2 := Lib.hid hb; have HG2 := Lib.hid hg; have HAT := Lib.hid hat; have hblk : w5.heap[g]? = some (.cells cs 79 (0, 0)) := (hg.block g HGL.out HNE.out).trans HB.out.blk; have hc1 : w5.cell? ⟨g, 0, none⟩ = some (.slice A0 hs.length c0) := (by rw [cell_of_row w5 g 0 cs 79 (0, 0) hblk]; exact HB.out.at_); have hc2 : w5.frozen? ⟨g, 0, none⟩ = false := frozen_of_row w5 g 0 cs 79 hblk; have HBLK := Lib.hid hblk; obtain ⟨A1, c1, e1⟩ := Kd.R_slice ho; subst e1; clear ho hb hg hat hblk hc))
  have hsz : 0 < cs.size := (Array.getElem?_eq_some_iff.1 HB.out.at_).1
  first | go_end0 | ((try simp only [Exit.inBlock, Exit.then]); refine bodyPost_ret (results_none rfl _ _ _) rfl ?_)
  have ho2 := HO.out
  rw [show (hs ++ [(A, n, c)]).length = hs.length + 1 by simp] at ho2
  refine ⟨rfl, cs.setIfInBounds 0 (.slice A1 (hs.length + 1) c1), _, ⟨heap_setCell_same _ g 0 cs 79 _ HBLK.out, ?_, narrow (Kd.R_set ho2 HBLK.out (by decide) 0 _)⟩, ?_, ?_, HB2.out.setCell HBA.out _, ?_⟩
  · simp [hsz]
  · intro j hj
    rw [Array.getElem?_setIfInBounds_ne (by omega)]
  · exact (Kept.of_grown HG2.out (Kept.refl _ _) (fun k hk => .inl (.inr hk))).setCell (.inl (.inl rfl)) _
  · intro k hk
    have h5 := HAT.out
    rw [show (hs ++ [(A, n, c)]).length = hs.length + 1 by simp] at h5
    rcases h5 with h5 | ⟨b, h5, h6⟩
    · exact .inl (h5.symm.trans hk)
    · rw [h5] at hk
      injection hk with hk
      exact .inr (by omega)
end Go.Proofs.Ythblincfnfpgbaa.Q
