import Derived.Test.YtbpkepcbmenbcaaAr0
namespace Go.Proofs.Ytbpkepcbmenbcaa.Ar
open Go.RowKit Go.Proofs.YtbpkepcbmenbcaaW.PrintWords Go.Proofs.YtbpkepcbmenbcaaW.PrintLast Go.Proofs.YtbpkepcbmenbcaaW.PrintMore
set_option linter.unusedVariables false
set_option linter.unusedSimpArgs false
/-- arena.plain's own block, and its cells. -/
structure PlainAt (w : World) (gp gl : Nat) (cells : List Int) (free : Nat) : Prop where
  blk : w.heap[gp]? = some (.cells #[.slice (some ⟨gl, 0, none⟩) cells.length cells.length, .int .i64 free] 102 (0, 0))
  row : w.heap[gl]? = some (.cells (nums .u64 cells).toArray 33 (0, 0))
  len : cells.length ≤ 4194304
  fr : free ≤ cells.length
theorem PlainAt.c0 {w : World} {gp gl free : Nat} {cells : List Int} (h : PlainAt w gp gl cells free) : w.cell? ⟨gp, 0, none⟩ = some (.slice (some ⟨gl, 0, none⟩) cells.length cells.length) := by rw [blk_cell h.blk]; rfl
theorem PlainAt.c1 {w : World} {gp gl free : Nat} {cells : List Int} (h : PlainAt w gp gl cells free) : w.cell? ⟨gp, 1, none⟩ = some (.int .i64 free) := by rw [blk_cell h.blk]; rfl
theorem PlainAt.at_ {w : World} {gp gl free : Nat} {cells : List Int} (h : PlainAt w gp gl cells free) (i : Int) (h0 : 0 ≤ i) (hi : i < cells.length) : w.cell? ⟨gl, i.toNat, none⟩ = some (.int .u64 (rd cells i)) := by
  rw [blk_cell h.row]
  have hlt : i.toNat < cells.length := by omega
  simp [nums, rd, hlt]
theorem PlainAt.drewN {w : World} {gp gl free : Nat} {cells : List Int} (h : PlainAt w gp gl cells free) (n : Nat) : PlainAt (w.drewN n) gp gl cells free := ⟨h.blk, h.row, h.len, h.fr⟩
set_option maxHeartbeats 1000000 in
theorem size_c (gp gl free : Nat) (cells : List Int) (w : World) (h : PlainAt w gp gl cells free) :
    Calls Try.prog 95 #[.pointer (some ⟨gp, 0, none⟩)] w fun e w' => e = .returned (.int .i64 cells.length) ∧ w = w' := by
  have hc := h.c0
  have H := Lib.hid h
  clear h
  go_enter Try.func95, Try.ntmps95
  go_wp2
  go_ret
  exact ⟨rfl, rfl⟩
set_option maxHeartbeats 1000000 in
theorem next_c (gp gl free : Nat) (cells : List Int) (w : World) (h : PlainAt w gp gl cells free) :
    Calls Try.prog 94 #[.pointer (some ⟨gp, 0, none⟩)] w fun e w' => e = .returned (.int .i64 free) ∧ w = w' := by
  have hc := h.c1
  have H := Lib.hid h
  clear h
  go_enter Try.func94, Try.ntmps94
  go_wp2
  go_ret
  exact ⟨rfl, rfl⟩
set_option maxHeartbeats 1000000 in
theorem load_c (gp gl free : Nat) (cells : List Int) (a : Int) (w : World) (h : PlainAt w gp gl cells free) (h0 : 0 ≤ a) (ha : a < cells.length) :
    Calls Try.prog 93 #[.pointer (some ⟨gp, 0, none⟩), .int .u64 a] w fun e w' => e = .returned (.int .u64 (rd cells a)) ∧ w = w' := by
  have hc := h.c0
  have hd := h.at_ a h0 ha
  have H := Lib.hid h
  clear h
  go_enter Try.func93, Try.ntmps93
  go_wp2
  go_ret
  exact ⟨rfl, rfl⟩
end Go.Proofs.Ytbpkepcbmenbcaa.Ar
