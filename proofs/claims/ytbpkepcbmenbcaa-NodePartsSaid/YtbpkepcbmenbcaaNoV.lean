import Derived.Test.YtbpkepcbmenbcaaAr7
namespace Go.Proofs.Ytbpkepcbmenbcaa.Ar
open Go.RowKit Go.Proofs.YtbpkepcbmenbcaaW.PrintWords Go.Proofs.YtbpkepcbmenbcaaW.PrintLast Go.Proofs.YtbpkepcbmenbcaaW.PrintMore
set_option linter.unusedVariables false
set_option linter.unusedSimpArgs false
theorem infoVer : (Try.prog.info? 130).map (fun i => (i.zero, i.size, i.bytes)) = some (some (.agg #[.int .u64 0, .int .u64 0]), 2, 16) := by kernel_rfl
set_option maxRecDepth 100000 in
set_option maxHeartbeats 1000000 in
theorem cells_c (base : Nat) (S : Nat → Prop) (gm : Nat) (s : Ms) (w : World) (h : MemW w base S gm s) :
    Calls Try.prog 57 #[.pointer (some ⟨gm, 0, none⟩)] w fun e w' => e = .returned (.int .i64 s.cells.length) ∧ w = w' := by
  obtain ⟨gp, gl, vt, h⟩ := h
  have hc := h.c0
  have hm : ∀ w : World, (method 274 100 (.pointer (some ⟨gp, 0, none⟩)) "shutter/arena.size").run Try.prog w = .ok (95, .pointer (some ⟨gp, 0, none⟩)) w := fun _ => by kernel_rfl
  have H := Lib.hid h
  clear h
  go_enter Try.func57, Try.ntmps57
  go_wp2_with fail
  go_at_call 95
  refine (size_c _ _ _ _ _ H.out.pl).mono ?_
  rintro e w' ⟨rfl, rfl⟩
  go_wp2_with fail
  go_ret
  exact ⟨rfl, rfl⟩
theorem peekW_c (base : Nat) (S : Nat → Prop) (gm : Nat) (s : Ms) (a : Int) (w : World) (h : MemW w base S gm s) (h0 : 0 ≤ a) :
    Calls Try.prog 31 #[.pointer (some ⟨gm, 0, none⟩), .int .u64 a] w fun e w' => e = .returned (.int .u64 (rd s.cells a)) ∧ w = w' := by
  obtain ⟨gp, gl, vt, h⟩ := h
  exact peek_c _ _ _ _ _ _ _ _ _ _ _ h h0
set_option maxRecDepth 100000 in
set_option maxHeartbeats 4000000 in
theorem versions1_c (base : Nat) (S : Nat → Prop) (gm : Nat) (s : Ms) (o v0 x y : Int) (w : World) (h : MemW w base S gm s) (h0 : 0 ≤ o) (hv : rd s.cells o = v0) (h1 : 1 ≤ v0) (h2 : v0 + 2 < s.cells.length) (hx : rd s.cells v0 = x) (hy : rd s.cells (v0 + 1) = y) (hz : rd s.cells (v0 + 2) = 0) :
    Calls Try.prog 49 #[.pointer (some ⟨gm, 0, none⟩), .int .u64 o] w fun e w' => ∃ v, e = .returned v ∧ kPair.R 130 w' w.heap.size (fun _ => True) v [⟨x, y⟩] ∧ Below w.heap.size w w' := by
  have hlen : (s.cells.length : Int) ≤ 4194304 := by have := h.size.1; omega
  have H := Lib.hid h
  have HV := Lib.hid hv
  have HX := Lib.hid hx
  have HY := Lib.hid hy
  have HZ := Lib.hid hz
  have hv0 : (v0 != 0) = true := by simp; omega
  have h4 : v0 < (s.cells.length : Int) := by omega
  have h5 : (s.cells.length : Int) - v0 > 2 := by omega
  have h6 : 0 ≤ v0 := by omega
  have H2 := Lib.hid h2
  clear h hv hx hy hz h2
  go_enter Try.func49, Try.ntmps49
  go_wp2_with fail
  go_at_call 57
  refine (cells_c base S gm s w H.out).mono ?_
  rintro e w' ⟨rfl, rfl⟩
  go_wp2_with fail
  go_at_call 31
  refine (peekW_c base S gm s o w H.out h0).mono ?_
  rintro e w' ⟨rfl, rfl⟩
  rw [HV.out]
  go_wp2_with fail
  go_loopg [5, 7] 1 (fun kq v5 v7 w' => (Hid (kq = 1) ∧ v5 = .slice none 0 0 ∧ v7 = .int .u64 v0 ∧ w' = w) ∨ (Hid (kq = 0) ∧ v7 = .int .u64 0 ∧ Hid (kPair.R 130 w' w.heap.size (fun _ => True) v5 [⟨x, y⟩]) ∧ Hid (Below w.heap.size w w')))
  case atStart => exact .inl ⟨Lib.hid rfl, rfl, rfl, rfl⟩
  case round =>
    rcases hrel with ⟨HK, rfl, rfl, rfl⟩ | ⟨HK, rfl, HR, HB⟩
    · have h7 : (0 : Int) < s.cells.length := by omega
      go_wp2_with fail
      go_at_call 57
      refine (cells_c base S gm s wr H.out).mono ?_
      rintro e w' ⟨rfl, rfl⟩
      go_wp2_with fail
      go_at_call 31
      refine (peekW_c base S gm s v0 wr H.out h6).mono ?_
      rintro e w' ⟨rfl, rfl⟩
      rw [HX.out]
      go_wp2_with fail
      go_at_call 31
      refine (peekW_c base S gm s (v0 + 1) wr H.out (by omega)).mono ?_
      rintro e w' ⟨rfl, rfl⟩
      rw [HY.out]
      go_wp2_with (first | (at_builtin; refine Kd.R_append kPair (w0 := wr) wr.heap.size rfl (.tmp 38) (.tmp 47) 127 130 (.agg #[.int .u64 0, .int .u64 0]) 16 rfl Try.underlying127 infoVer rfl (by decide) (by omega) (.slice none 0 0) [] ⟨x, y⟩ [.int .u64 x, .int .u64 y] (fun _ => True) (fun _ => False) rfl rfl (kPair_mkM _ _ _ ⟨x, y⟩) (fun _ hk => hk.elim) (fun _ _ => trivial) (Kd.R_nil _ _ _ _ _) (Below.refl _ _) (Nat.le_refl _) (by simp) ?_; intro v1 w5 ho hb hg hat; obtain ⟨A1, c1, e1⟩ := Kd.R_slice ho; subst e1; have HO := Lib.hid ho; have HB2 := Lib.hid hb; clear ho hb hg hat))
      go_at_call 31
      have HM5 := Lib.hid (H.out.kept (Kept.of_below HB2.out (fun _ => False)) (fun _ _ h => h))
      refine (peekW_c base S gm s (v0 + 2) w5 HM5.out (by omega)).mono ?_
      rintro e w' ⟨rfl, rfl⟩
      rw [HZ.out]
      go_wp2_with fail
      go_roundg 0
      case measure => have := HK.out; omega
      case rel => exact .inr ⟨Lib.hid rfl, rfl, HO, HB2⟩
    · obtain ⟨A1, c1, rfl⟩ := Kd.R_slice HR.out
      go_wp2_with fail
      go_ret
      exact ⟨_, rfl, HR.out, HB.out⟩
set_option maxRecDepth 100000 in
set_option maxHeartbeats 4000000 in
theorem down_c (base : Nat) (S : Nat → Prop) (gm : Nat) (s : Ms) (o v0 x : Int) (w : World) (h : MemW w base S gm s) (h0 : 0 ≤ o) (hv : rd s.cells o = v0) (h1 : 1 ≤ v0) (h2 : v0 + 2 < s.cells.length) (hx : rd s.cells v0 = x) (hy : rd s.cells (v0 + 1) = 1) (hz : rd s.cells (v0 + 2) = 0) :
    Calls Try.prog 32 #[.pointer (some ⟨gm, 0, none⟩), .int .u64 o] w fun e w' => e = .returned (.tuple #[.int .u64 x, .bool true]) ∧ Below w.heap.size w w' := by
  have HC := Lib.hid (versions1_c base S gm s o v0 x 1 w h h0 hv h1 h2 hx hy hz)
  clear h h0 hv h1 h2 hx hy hz
  go_enter Try.func32, Try.ntmps32
  go_wp2_with fail
  go_at_call 49
  refine HC.out.mono ?_
  rintro e w' ⟨v, rfl, r1, r2⟩
  obtain ⟨A1, c1, rfl⟩ := Kd.R_slice r1
  obtain ⟨-, -, hC⟩ := Kd.R_reads' r1
  obtain ⟨ad, rfl, p1, p2⟩ := atPair hC 0 (by omega) (by simp)
  simp [rdPair] at p1 p2
  have e0 : ad.add 0 = ad := by
    obtain ⟨b, o', p⟩ := ad
    unfold Addr.add
    split <;> simp_all
  rw [e0] at p1 p2
  clear e0
  have R2 := Lib.hid r2
  clear r1 r2 hC
  go_wp2_with fail
  go_ret2
  exact ⟨rfl, R2.out⟩
end Go.Proofs.Ytbpkepcbmenbcaa.Ar
