import Derived.Test.YtbpkepcbmenbcaaAr7
import Derived.Laws.BitsLemmas
namespace Go.Proofs.Ytbpkepcbmenbcaa.Ar
open Go.RowKit Go.Proofs.YtbpkepcbmenbcaaW.PrintWords Go.Proofs.YtbpkepcbmenbcaaW.PrintLast Go.Proofs.YtbpkepcbmenbcaaW.PrintMore
set_option linter.unusedVariables false
set_option linter.unusedSimpArgs false
theorem wraps_u64 (n : Int) (h0 : 0 ≤ n) (h1 : n < 2 ^ 64) : IntKind.u64.wrap n = n := by
  simp [IntKind.wrap, IntKind.bits, IntKind.signed]; omega
theorem u64_and1 (x : Int) (h0 : 0 ≤ x) (h1 : x < 2 ^ 64) : bits .and .u64 x 1 = x % 2 := bits_mask .u64 64 (by decide) wraps_u64 1 (by decide) x h0 h1
theorem u64_or1 (x : Int) (h0 : 0 ≤ x) (h1 : x < 9223372036854775808) : bits .or .u64 (x * 2) 1 = x * 2 + 1 :=
  bits_join .u64 64 (by decide) wraps_u64 1 (x * 2) 1 (by omega) (by omega) (by omega) (by omega) (by omega) (by omega)
set_option maxRecDepth 100000 in
set_option maxHeartbeats 1000000 in
theorem child1_c (a : Int) (w : World) (h0 : 1 ≤ a) (h1 : a ≤ 1099511627775) :
    Calls Try.prog 35 #[.int .u8 1, .int .u64 a] w fun e w' => e = .returned (.tuple #[.int .u64 (a * 2 + 1), .int .i64 0]) ∧ w = w' := by
  have h2 : 0 ≤ a := by omega
  have h3 : (a == 0) = false := by simp; omega
  have h4 : ¬ a > 4611686018427387904 := by omega
  have h5 : IntKind.u64.wrap (a * 2) = a * 2 := wraps_u64 _ (by omega) (by omega)
  have h6 := u64_or1 a h2 (by omega)
  go_enter Try.func35, Try.ntmps35
  go_wp2_with fail
  go_ret2
  exact ⟨rfl, rfl⟩
set_option maxRecDepth 100000 in
set_option maxHeartbeats 1000000 in
theorem child2_c (a : Int) (w : World) (h0 : 1 ≤ a) (h1 : a ≤ 1099511627775) :
    Calls Try.prog 35 #[.int .u8 2, .int .u64 a] w fun e w' => e = .returned (.tuple #[.int .u64 (a * 2), .int .i64 0]) ∧ w = w' := by
  have h2 : 0 ≤ a := by omega
  have h3 : (a == 0) = false := by simp; omega
  have h4 : ¬ a > 4611686018427387904 := by omega
  have h5 : IntKind.u64.wrap (a * 2) = a * 2 := wraps_u64 _ (by omega) (by omega)
  go_enter Try.func35, Try.ntmps35
  go_wp2_with fail
  go_ret2
  exact ⟨rfl, rfl⟩
set_option maxRecDepth 100000 in
set_option maxHeartbeats 1000000 in
theorem split1_c (a x : Int) (w : World) (hx : x = a * 2 + 1) (h0 : 1 ≤ a) (h1 : a ≤ 1099511627775) :
    Calls Try.prog 14 #[.int .u64 x] w fun e w' => e = .returned (.tuple #[.int .u8 1, .int .u64 a]) ∧ w = w' := by
  have h2 : 0 ≤ x := by omega
  have h3 : (x == 0) = false := by simp; omega
  have h6 : bits .and .u64 x 1 = 1 := by rw [u64_and1 x h2 (by omega)]; omega
  have h7 : x / 2 = a := by omega
  clear hx
  go_enter Try.func14, Try.ntmps14
  go_wp2_with fail
  go_ret2
  exact ⟨by rw [← h7]; rfl, rfl⟩
set_option maxRecDepth 100000 in
set_option maxHeartbeats 1000000 in
theorem split2_c (a x : Int) (w : World) (hx : x = a * 2) (h0 : 1 ≤ a) (h1 : a ≤ 1099511627775) :
    Calls Try.prog 14 #[.int .u64 x] w fun e w' => e = .returned (.tuple #[.int .u8 2, .int .u64 a]) ∧ w = w' := by
  have h2 : 0 ≤ x := by omega
  have h3 : (x == 0) = false := by simp; omega
  have h6 : bits .and .u64 x 1 = 0 := by rw [u64_and1 x h2 (by omega)]; omega
  have h7 : x / 2 = a := by omega
  clear hx
  go_enter Try.func14, Try.ntmps14
  go_wp2_with fail
  go_ret2
  exact ⟨by rw [← h7]; rfl, rfl⟩
/-- A Leaf. -/
def LeafAt (w : World) (g : Nat) (wd er key value : Int) (done : Bool) : Prop := w.heap[g]? = some (.cells #[.int .u64 wd, .int .i64 er, .int .u64 key, .int .u64 value, .bool done] 108 (0, 0))
theorem LeafAt.c (i : Nat) {w : World} {g : Nat} {wd er key value : Int} {done : Bool} (h : LeafAt w g wd er key value done) : w.cell? ⟨g, i, none⟩ = (#[.int .u64 wd, .int .i64 er, .int .u64 key, .int .u64 value, .bool done] : Array Value)[i]? := blk_cell h i
set_option maxRecDepth 100000 in
set_option maxHeartbeats 1000000 in
theorem newleaf_c (k v : Int) (w : World) :
    Calls Try.prog 10 #[.int .u64 k, .int .u64 v] w fun e w' => e = .returned (.pointer (some ⟨w.heap.size, 0, none⟩)) ∧ LeafAt w' w.heap.size 0 0 k v false ∧ Below w.heap.size w w' := by
  go_enter Try.func10, Try.ntmps10
  go_wp2_with fail
  go_ret
  exact ⟨rfl, heap_alloc_new w _, below_alloc (Below.refl _ _) _⟩
set_option maxRecDepth 100000 in
set_option maxHeartbeats 1000000 in
theorem madeword_c (a : Addr) (x : Int) (w : World) (h : w.cell? a = some (.int .u64 x)) :
    Calls Try.prog 37 #[.pointer (some a)] w fun e w' => e = .returned (.int .u64 x) ∧ w = w' := by
  go_enter Try.func37, Try.ntmps37
  go_wp2_with fail
  go_ret
  exact ⟨rfl, rfl⟩
set_option maxRecDepth 100000 in
set_option maxHeartbeats 1000000 in
theorem madeerr_c (g : Nat) (x : Int) (w : World) (h : w.cell? ⟨g, 1, none⟩ = some (.int .i64 x)) :
    Calls Try.prog 36 #[.pointer (some ⟨g, 0, none⟩)] w fun e w' => e = .returned (.int .i64 x) ∧ w = w' := by
  go_enter Try.func36, Try.ntmps36
  go_wp2_with fail
  go_ret
  exact ⟨rfl, rfl⟩
set_option maxRecDepth 100000 in
set_option maxHeartbeats 1000000 in
theorem leafword_c (g : Nat) (wd er key value : Int) (done : Bool) (w : World) (h : LeafAt w g wd er key value done) :
    Calls Try.prog 13 #[.pointer (some ⟨g, 0, none⟩)] w fun e w' => e = .returned (.int .u64 wd) ∧ w = w' := by
  have H := Lib.hid (h.c 0)
  clear h
  go_enter Try.func13, Try.ntmps13
  go_wp2_with fail
  go_at_call 37
  refine (madeword_c _ _ _ H.out).mono ?_
  rintro e w' ⟨rfl, rfl⟩
  go_wp2_with fail
  go_ret
  exact ⟨rfl, rfl⟩
set_option maxRecDepth 100000 in
set_option maxHeartbeats 1000000 in
theorem leaferr_c (g : Nat) (wd er key value : Int) (done : Bool) (w : World) (h : LeafAt w g wd er key value done) :
    Calls Try.prog 12 #[.pointer (some ⟨g, 0, none⟩)] w fun e w' => e = .returned (.int .i64 er) ∧ w = w' := by
  have H := Lib.hid (h.c 1)
  clear h
  go_enter Try.func12, Try.ntmps12
  go_wp2_with fail
  go_at_call 36
  refine (madeerr_c _ _ _ H.out).mono ?_
  rintro e w' ⟨rfl, rfl⟩
  go_wp2_with fail
  go_ret
  exact ⟨rfl, rfl⟩
end Go.Proofs.Ytbpkepcbmenbcaa.Ar
