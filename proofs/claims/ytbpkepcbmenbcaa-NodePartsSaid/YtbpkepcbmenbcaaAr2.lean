import Derived.Test.YtbpkepcbmenbcaaAr1
namespace Go.Proofs.Ytbpkepcbmenbcaa.Ar
open Go.RowKit Go.Proofs.YtbpkepcbmenbcaaW.PrintWords Go.Proofs.YtbpkepcbmenbcaaW.PrintLast Go.Proofs.YtbpkepcbmenbcaaW.PrintMore
set_option linter.unusedVariables false
set_option linter.unusedSimpArgs false
/-- A memory of one goroutine: its blocks are S; what it has traced. -/
structure MemAt (w : World) (base : Nat) (S : Nat → Prop) (gm gp gl : Nat) (vt : Value) (cells : List Int) (free : Nat) (tr : List SAcc) : Prop where
  blk : w.heap[gm]? = some (.cells #[.iface 100 (.pointer (some ⟨gp, 0, none⟩)), .bool false, vt] 99 (0, 0))
  pl : PlainAt w gp gl cells free
  tr : kAcc.R 122 w base (fun k => S k ∧ k ≠ gl) vt tr
  sm : S gm
  sp : S gp
  sl : S gl
  bm : base ≤ gm
  bp : base ≤ gp
  bl : base ≤ gl
theorem MemAt.c0 {w : World} {base : Nat} {S : Nat → Prop} {gm gp gl free : Nat} {vt : Value} {cells : List Int} {tr : List SAcc} (h : MemAt w base S gm gp gl vt cells free tr) : w.cell? ⟨gm, 0, none⟩ = some (.iface 100 (.pointer (some ⟨gp, 0, none⟩))) := by rw [blk_cell h.blk]; rfl
theorem MemAt.c1 {w : World} {base : Nat} {S : Nat → Prop} {gm gp gl free : Nat} {vt : Value} {cells : List Int} {tr : List SAcc} (h : MemAt w base S gm gp gl vt cells free tr) : w.cell? ⟨gm, 1, none⟩ = some (.bool false) := by rw [blk_cell h.blk]; rfl
theorem MemAt.c2 {w : World} {base : Nat} {S : Nat → Prop} {gm gp gl free : Nat} {vt : Value} {cells : List Int} {tr : List SAcc} (h : MemAt w base S gm gp gl vt cells free tr) : w.cell? ⟨gm, 2, none⟩ = some vt := by rw [blk_cell h.blk]; rfl
set_option maxRecDepth 100000 in
set_option maxHeartbeats 1000000 in
theorem has_c (base : Nat) (S : Nat → Prop) (gm gp gl free : Nat) (vt : Value) (cells : List Int) (tr : List SAcc) (a : Int) (w : World) (h : MemAt w base S gm gp gl vt cells free tr) :
    Calls Try.prog 48 #[.pointer (some ⟨gm, 0, none⟩), .int .u64 a] w fun e w' => e = .returned (.bool (decide (a < cells.length))) ∧ w = w' := by
  have hc := h.c0
  have hlen : (cells.length : Int) ≤ 4194304 := by have := h.pl.len; omega
  have H := Lib.hid h
  have hm : ∀ w : World, (method 274 100 (.pointer (some ⟨gp, 0, none⟩)) "shutter/arena.size").run Try.prog w = .ok (95, .pointer (some ⟨gp, 0, none⟩)) w := fun _ => by kernel_rfl
  clear h
  go_enter Try.func48, Try.ntmps48
  go_wp2_with fail
  go_at_call 95
  refine (size_c _ _ _ _ _ H.out.pl).mono ?_
  rintro e w' ⟨rfl, rfl⟩
  go_wp2_with fail
  go_ret
  exact ⟨rfl, rfl⟩
theorem rd_out {cells : List Int} {a : Int} (h : ¬ a < (cells.length : Int)) : rd cells a = 0 := by
  unfold rd
  rw [List.getD_eq_getElem?_getD, List.getElem?_eq_none (by omega)]
  rfl
set_option maxRecDepth 100000 in
set_option maxHeartbeats 1000000 in
theorem peek_c (base : Nat) (S : Nat → Prop) (gm gp gl free : Nat) (vt : Value) (cells : List Int) (tr : List SAcc) (a : Int) (w : World) (h : MemAt w base S gm gp gl vt cells free tr) (h0 : 0 ≤ a) :
    Calls Try.prog 31 #[.pointer (some ⟨gm, 0, none⟩), .int .u64 a] w fun e w' => e = .returned (.int .u64 (rd cells a)) ∧ w = w' := by
  have hc := h.c0
  have hm : ∀ w : World, (method 274 100 (.pointer (some ⟨gp, 0, none⟩)) "shutter/arena.load").run Try.prog w = .ok (93, .pointer (some ⟨gp, 0, none⟩)) w := fun _ => by kernel_rfl
  have H := Lib.hid h
  clear h
  by_cases ha : a < (cells.length : Int)
  · go_enter Try.func31, Try.ntmps31
    go_wp2_with fail
    go_at_call 48
    refine (has_c _ _ _ _ _ _ _ _ _ _ _ H.out).mono ?_
    rintro e w' ⟨rfl, rfl⟩
    have hd : decide (a < (cells.length : Int)) = true := by simpa using ha
    go_wp2_with fail
    go_at_call 93
    refine (load_c _ _ _ _ _ _ H.out.pl h0 ha).mono ?_
    rintro e w' ⟨rfl, rfl⟩
    go_wp2_with fail
    go_ret
    exact ⟨rfl, rfl⟩
  · have HR := Lib.hid (rd_out ha)
    go_enter Try.func31, Try.ntmps31
    go_wp2_with fail
    go_at_call 48
    refine (has_c _ _ _ _ _ _ _ _ _ _ _ H.out).mono ?_
    rintro e w' ⟨rfl, rfl⟩
    have hd : decide (a < (cells.length : Int)) = false := by simpa using ha
    go_wp2_with fail
    go_ret
    exact ⟨by rw [HR.out]; rfl, rfl⟩
set_option maxRecDepth 100000 in
set_option maxHeartbeats 1000000 in
theorem left_c (base : Nat) (S : Nat → Prop) (gm gp gl free : Nat) (vt : Value) (cells : List Int) (tr : List SAcc) (w : World) (h : MemAt w base S gm gp gl vt cells free tr) :
    Calls Try.prog 29 #[.pointer (some ⟨gm, 0, none⟩)] w fun e w' => e = .returned (.int .i64 ((cells.length : Int) - free)) ∧ ∃ m, w' = w.drewN m := by
  have hc := h.c0
  have hm : ∀ w : World, (method 274 100 (.pointer (some ⟨gp, 0, none⟩)) "shutter/arena.size").run Try.prog w = .ok (95, .pointer (some ⟨gp, 0, none⟩)) w := fun _ => by kernel_rfl
  have hm2 : ∀ w : World, (method 274 100 (.pointer (some ⟨gp, 0, none⟩)) "shutter/arena.next").run Try.prog w = .ok (94, .pointer (some ⟨gp, 0, none⟩)) w := fun _ => by kernel_rfl
  have h1 : (cells.length : Int) ≤ 4194304 := by have := h.pl.len; omega
  have h2 : (free : Int) ≤ 4194304 := by have := h.pl.len; have := h.pl.fr; omega
  have H := Lib.hid h
  clear h
  go_enter Try.func29, Try.ntmps29
  go_wp2_with fail
  go_quiet ((first | (go_at_call 95; exact calls_q (size_c _ _ _ _ _ (H.out.pl.drewN _))) | (go_at_call 94; exact calls_q (next_c _ _ _ _ _ (H.out.pl.drewN _)))))
  go_wp2_with fail
  go_ret
  exact ⟨rfl, _, rfl⟩
end Go.Proofs.Ytbpkepcbmenbcaa.Ar
