import Derived.Test.YtbpkepcbmenbcaaAr6
namespace Go.Proofs.Ytbpkepcbmenbcaa.Ar
open Go.RowKit Go.Proofs.YtbpkepcbmenbcaaW.PrintWords Go.Proofs.YtbpkepcbmenbcaaW.PrintLast Go.Proofs.YtbpkepcbmenbcaaW.PrintMore
set_option linter.unusedVariables false
set_option linter.unusedSimpArgs false
theorem alloc_blk {w : World} {o o2 : Obj} {g : Nat} (h : w.heap[g]? = some o) : (w.alloc o2).heap[g]? = some o := ((below_alloc (Below.refl _ _) o2).block g (blk_lt h)).trans h
theorem alloc_new' (w : World) (o : Obj) (n : Nat) (h : w.heap.size = n) : (w.alloc o).heap[n]? = some o := by rw [← h]; exact heap_alloc_new w o
def Ms.new (n : Nat) : Ms := ⟨List.replicate n 0, 1, []⟩
set_option maxRecDepth 100000 in
set_option maxHeartbeats 2000000 in
theorem new_c (n : Nat) (w : World) (h1 : 128 ≤ n) (h2 : n ≤ 4194304) :
    Calls Try.prog 8 #[.int .i64 n, .bool false] w fun e w' => ∃ gm, e = .returned (.tuple #[.pointer (some ⟨gm, 0, none⟩), .int .i64 0]) ∧ MemW w' w.heap.size (fun k => w.heap.size ≤ k) gm (Ms.new n) ∧ Below w.heap.size w w' := by
  have g1 : (128 : Int) ≤ n := by omega
  have g2 : (n : Int) ≤ 4194304 := by omega
  have hN2 := Lib.hid h2
  have hN1 := Lib.hid h1
  have kmk := print_make (P := Try.prog) 30 33 .u64 8 Try.underlying30 infoU64 (by omega) n (by omega)
  clear h1 h2
  go_enter Try.func8, Try.ntmps8
  go_wp2_with fail
  go_ret2
  have hl : (madeCells #[Value.int .u64 0] n) = (nums .u64 (List.replicate n 0)).toArray := by
    apply Array.ext
    · simp [nums, size_madeCells]
    · intro i h1 h2
      simp [nums, madeCells, Nat.mod_one]
  refine ⟨_, rfl, ⟨w.heap.size + 1, w.heap.size, .slice none 0 0, ?_, ⟨?_, ?_, ?_, ?_⟩, Kd.R_nil _ _ _ _ _, ?_, ?_, ?_, ?_, ?_, ?_⟩, ?_⟩
  · exact alloc_new' _ _ _ (by simp)
  · refine alloc_blk ((alloc_new' _ _ _ (by simp)).trans ?_)
    simp [Ms.new]
  · refine alloc_blk (alloc_blk ((heap_alloc_new w _).trans ?_))
    rw [hl]
    rfl
  · simpa [Ms.new] using hN2.out
  · have := hN1.out; simp [Ms.new]; omega
  · show w.heap.size ≤ _; omega
  · show w.heap.size ≤ _; omega
  · show w.heap.size ≤ _; omega
  · omega
  · omega
  · omega
  · exact below_alloc (below_alloc (below_alloc (Below.refl _ _) _) _) _
set_option maxRecDepth 100000 in
set_option maxHeartbeats 2000000 in
theorem new_bad (n : Int) (w : World) (h : n < 128 ∨ 4194304 < n) :
    Calls Try.prog 8 #[.int .i64 n, .bool false] w fun e w' => e = .returned (.tuple #[.pointer none, .int .i64 2]) ∧ w = w' := by
  rcases h with h | h
  · go_enter Try.func8, Try.ntmps8
    go_wp2_with fail
    go_ret2
    exact ⟨rfl, rfl⟩
  · have h' : ¬ n < 128 := by omega
    go_enter Try.func8, Try.ntmps8
    go_wp2_with fail
    go_ret2
    exact ⟨rfl, rfl⟩
set_option maxRecDepth 100000 in
set_option maxHeartbeats 2000000 in
theorem view_c (gm : Nat) (th : Int) (w : World) :
    Calls Try.prog 9 #[.pointer (some ⟨gm, 0, none⟩), .int .i64 th] w fun e w' => e = .returned (.pointer (some ⟨w.heap.size, 0, none⟩)) ∧ ViewAt w' w.heap.size gm th 0 ∧ Below w.heap.size w w' := by
  go_enter Try.func9, Try.ntmps9
  go_wp2_with fail
  go_ret
  exact ⟨rfl, heap_alloc_new w _, below_alloc (Below.refl _ _) _⟩
end Go.Proofs.Ytbpkepcbmenbcaa.Ar
