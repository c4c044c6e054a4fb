import Derived.Test.YtbpkepcbmenbcaaAr3
import Derived.Test.YtbpkepcbmenbcaaAr4
import Derived.Test.YtbpkepcbmenbcaaAr5
namespace Go.Proofs.Ytbpkepcbmenbcaa.Ar
open Go.RowKit Go.Proofs.YtbpkepcbmenbcaaW.PrintWords Go.Proofs.YtbpkepcbmenbcaaW.PrintLast Go.Proofs.YtbpkepcbmenbcaaW.PrintMore
set_option linter.unusedVariables false
set_option linter.unusedSimpArgs false
/-- What a memory holds. -/
structure Ms where
  cells : List Int
  free : Nat
  tr : List SAcc
def Ms.load (s : Ms) (th a : Int) : Ms := { s with tr := s.tr ++ [⟨th, 1, a, 0, 0, [], rd s.cells a, false⟩] }
def Ms.fits (s : Ms) (vals : List Int) : Prop := 0 < vals.length ∧ s.free + vals.length ≤ s.cells.length
instance (s : Ms) (vals : List Int) : Decidable (s.fits vals) := by unfold Ms.fits; infer_instance
def Ms.addr (s : Ms) (vals : List Int) : Int := if s.fits vals then (s.free : Int) else 0
def Ms.alloc (s : Ms) (th : Int) (vals : List Int) : Ms :=
  if s.fits vals then ⟨splice s.cells s.free vals, s.free + vals.length, s.tr ++ [⟨th, 5, (s.free : Int), 0, 0, vals, 0, false⟩]⟩ else ⟨s.cells, s.free, s.tr ++ [⟨th, 5, 0, 0, 0, vals, 0, false⟩]⟩
/-- A memory in the world: its blocks are S. -/
def MemW (w : World) (base : Nat) (S : Nat → Prop) (gm : Nat) (s : Ms) : Prop := ∃ gp gl vt, MemAt w base S gm gp gl vt s.cells s.free s.tr
section
variable {w w1 : World} {base gm : Nat} {S S' K : Nat → Prop} {s : Ms}
theorem MemW.mono (h : MemW w base S gm s) (hS : ∀ k, S k → S' k) : MemW w base S' gm s := by
  obtain ⟨gp, gl, vt, h⟩ := h
  exact ⟨gp, gl, vt, h.mono hS⟩
theorem MemW.kept (h : MemW w base S gm s) (hk : Kept w w1 K) (hK : ∀ k, S k → ¬ K k) : MemW w1 base S gm s := by
  obtain ⟨gp, gl, vt, h⟩ := h
  exact ⟨gp, gl, vt, h.kept hk hK⟩
theorem MemW.far (h : MemW w base S gm s) {g t : Nat} {cs : Array Value} (hb : w.heap[g]? = some (.cells cs t (0, 0))) (hk : Kept w w1 (fun k => k = g)) (t1 : t ≠ 99) (t2 : t ≠ 102) (t3 : t ≠ 33) (t4 : t ≠ 122) : MemW w1 base S gm s := by
  obtain ⟨gp, gl, vt, h⟩ := h
  exact ⟨gp, gl, vt, h.far hb hk t1 t2 t3 t4⟩
theorem MemW.bound (h : MemW w base S gm s) : MemW w base (fun k => S k ∧ base ≤ k ∧ k < w.heap.size) gm s := by
  obtain ⟨gp, gl, vt, h⟩ := h
  exact ⟨gp, gl, vt, h.blk, h.pl, Kd.R_mono (Kd.R_bound h.tr) (fun k hk => ⟨⟨hk.1.1, hk.2.1, hk.2.2.1⟩, hk.1.2⟩), ⟨h.sm, h.bm, blk_lt h.blk⟩, ⟨h.sp, h.bp, blk_lt h.pl.blk⟩, ⟨h.sl, h.bl, blk_lt h.pl.row⟩, h.bm, h.bp, h.bl⟩
theorem MemW.lt (h : MemW w base S gm s) : gm < w.heap.size ∧ S gm ∧ base ≤ gm := by
  obtain ⟨gp, gl, vt, h⟩ := h
  exact ⟨blk_lt h.blk, h.sm, h.bm⟩
theorem MemW.size (h : MemW w base S gm s) : s.cells.length ≤ 4194304 ∧ s.free ≤ s.cells.length := by
  obtain ⟨gp, gl, vt, h⟩ := h
  exact ⟨h.pl.len, h.pl.fr⟩
end
set_option maxRecDepth 100000 in
set_option maxHeartbeats 2000000 in
theorem vload_c (base : Nat) (S : Nat → Prop) (gv gm made : Nat) (s : Ms) (th a : Int) (w : World) (h : MemW w base S gm s) (hv : ViewAt w gv gm th made) (hsv : S gv) (hbv : base ≤ gv) (h0 : 0 ≤ a) (hmade : made ≤ 1099511627775) (htr : s.tr.length ≤ 1099511627775) :
    Calls Try.prog 38 #[.pointer (some ⟨gv, 0, none⟩), .int .u64 a] w fun e w' => e = .returned (.int .u64 (rd s.cells a)) ∧ MemW w' base (fun k => S k ∨ w.heap.size ≤ k) gm (s.load th a) ∧ ViewAt w' gv gm th (made + 1) ∧ Kept w w' S ∧ Below base w w' := by
  obtain ⟨gp, gl, vt, h⟩ := h
  have hc := hv.c0
  have H := Lib.hid h
  have HV := Lib.hid hv
  have HSV := Lib.hid hsv
  have HBV := Lib.hid hbv
  have HMD := Lib.hid hmade
  have HTR := Lib.hid htr
  clear h hv hsv hbv hmade htr
  go_enter Try.func38, Try.ntmps38
  go_wp2_with fail
  go_at_call 31
  refine (peek_c _ _ _ _ _ _ _ _ _ _ _ H.out h0).mono ?_
  rintro e w' ⟨rfl, rfl⟩
  go_wp2_with fail
  go_at_call 51
  refine (note_c base S (fun _ => False) gv gm gp gl s.free made vt s.cells s.tr th 0 1 a 0 0 (rd s.cells a) [] false (.slice none 0 0) w H.out HV.out HSV.out HBV.out (Kd.R_nil _ _ _ _ _) (fun _ h => h.elim) HMD.out HTR.out).mono ?_
  rintro e w' ⟨rfl, vt', q1, q2, q3, q4⟩
  have Q : Hid (MemW w' base (fun k => S k ∨ w.heap.size ≤ k) gm (s.load th a) ∧ ViewAt w' gv gm th (made + 1) ∧ Kept w w' S ∧ Below base w w') := Lib.hid ⟨⟨gp, gl, vt', q1.mono (fun k hk => hk.imp id (fun hk => hk.elim (fun h => h.elim) id))⟩, q2, q3, q4⟩
  clear q1 q2 q3 q4
  go_wp2_with fail
  go_ret
  exact ⟨rfl, Q.out⟩
/-- What a row made from W on is. -/
theorem R_from {α : Type} {d : Kd α} {e : Nat} {W w : World} {ok : Nat → Prop} {v : Value} {xs : List α} {base : Nat} (h : d.R e w W.heap.size ok v xs) (hb : base ≤ W.heap.size) : d.R e w base (fun k => W.heap.size ≤ k) v xs :=
  Kd.R_lower (Kd.R_mono (Kd.R_bound h) (fun k hk => hk.2.1)) hb
/-- The second part of Alloc: the values are written down. -/
theorem valloc_note (base : Nat) (S : Nat → Prop) (gv gm gp gl free made : Nat) (vt : Value) (cells : List Int) (tr : List SAcc) (th addr : Int) (vals : List Int) (w WA : World) (hM : MemAt WA base S gm gp gl vt cells free tr) (hV : ViewAt WA gv gm th made) (hsv : S gv) (hbv : base ≤ gv) (hk : Kept w WA S) (hb : Below base w WA) (hmade : made ≤ 1099511627775) (htr : tr.length ≤ 1099511627775) {v5 : Value} {w2 : World}
    (r1 : (Kd.int .u64).R 33 w2 WA.heap.size (fun _ => True) v5 vals) (r2 : Below WA.heap.size WA w2) :
    Calls Try.prog 51 #[.pointer (some ⟨gv, 0, none⟩), .agg #[.int .i64 0, .int .u8 5, .int .u64 addr, .int .u64 0, .int .u64 0, v5, .int .u64 0, .bool false]] w2 fun e w' => e = .returned (.tuple #[]) ∧ ∃ vt', MemAt w' base (fun k => S k ∨ w.heap.size ≤ k) gm gp gl vt' cells free (tr ++ [⟨th, 5, addr, 0, 0, vals, 0, false⟩]) ∧ ViewAt w' gv gm th (made + 1) ∧ Kept w w' S ∧ Below base w w' := by
  have hk2 : Kept WA w2 (fun _ => False) := Kept.of_below r2 _
  have hks := hk.1
  have hM2 := hM.kept hk2 (fun _ _ h => h)
  have hV2 : ViewAt w2 gv gm th made := blk_kept hV hk2 (fun h => h)
  have hlt : gl < WA.heap.size := blk_lt hM.pl.row
  have hbs : base ≤ WA.heap.size := by have := hM.bl; omega
  refine (note_c base S (fun k => WA.heap.size ≤ k) gv gm gp gl free made vt cells tr th 0 5 addr 0 0 0 vals false v5 w2 hM2 hV2 hsv hbv (R_from r1 hbs) (fun k hk => by omega) hmade htr).mono ?_
  rintro e w' ⟨rfl, vt', q1, q2, q3, q4⟩
  refine ⟨rfl, vt', q1.mono (fun k hk => ?_), q2, (hk.then_ hk2 (fun _ h => h.elim)).then_ q3 (fun k h => .inl h), (hb.trans (r2.mono hbs)).trans q4⟩
  rcases hk with hq | hq | hq
  · exact .inl hq
  · exact .inr (Nat.le_trans hks hq)
  · exact .inr (Nat.le_trans hks (Nat.le_trans r2.size hq))
theorem Ms.alloc_yes {s : Ms} {vals : List Int} (h : s.fits vals) (th : Int) : s.addr vals = s.free ∧ s.alloc th vals = ⟨splice s.cells s.free vals, s.free + vals.length, s.tr ++ [⟨th, 5, (s.free : Int), 0, 0, vals, 0, false⟩]⟩ := by
  unfold Ms.addr Ms.alloc
  rw [if_pos h, if_pos h]
  exact ⟨rfl, rfl⟩
theorem Ms.alloc_no {s : Ms} {vals : List Int} (h : ¬ s.fits vals) (th : Int) : s.addr vals = 0 ∧ s.alloc th vals = ⟨s.cells, s.free, s.tr ++ [⟨th, 5, 0, 0, 0, vals, 0, false⟩]⟩ := by
  unfold Ms.addr Ms.alloc
  rw [if_neg h, if_neg h]
  exact ⟨rfl, rfl⟩
set_option maxRecDepth 100000 in
set_option maxHeartbeats 4000000 in
theorem valloc_c (base : Nat) (S : Nat → Prop) (gv gm made : Nat) (s : Ms) (th : Int) (A : Option Addr) (vals : List Int) (c : Nat) (w : World) (h : MemW w base S gm s) (hv : ViewAt w gv gm th made) (hsv : S gv) (hbv : base ≤ gv) (hmade : made ≤ 1099511627775) (htr : s.tr.length ≤ 1099511627775)
    (hva : ∀ W', Kept w W' S → (Kd.int .u64).C W' A vals.length vals) (hc : vals.length ≤ c) (hl : vals.length ≤ 1099511627775) :
    Calls Try.prog 34 #[.pointer (some ⟨gv, 0, none⟩), .slice A vals.length c] w fun e w' => e = .returned (.int .u64 (s.addr vals)) ∧ MemW w' base (fun k => S k ∨ w.heap.size ≤ k) gm (s.alloc th vals) ∧ ViewAt w' gv gm th (made + 1) ∧ Kept w w' S ∧ Below base w w' := by
  obtain ⟨gp, gl, vt, h⟩ := h
  have hc0 := hv.c0
  have hm0 := h.c0
  have hm : ∀ w : World, (method 274 100 (.pointer (some ⟨gp, 0, none⟩)) "shutter/arena.alloc").run Try.prog w = .ok (90, .pointer (some ⟨gp, 0, none⟩)) w := fun _ => by kernel_rfl
  have H := Lib.hid h
  have HV := Lib.hid hv
  have HSV := Lib.hid hsv
  have HBV := Lib.hid hbv
  have HMD := Lib.hid hmade
  have HTR := Lib.hid htr
  have HVA := Lib.hid hva
  have HC := Lib.hid hc
  have HL := Lib.hid hl
  have hll : (vals.length : Int) ≤ 1099511627775 := by omega
  clear h hv hsv hbv hmade htr hva hc hl
  by_cases hn0 : 0 < vals.length
  · by_cases hf : s.free + vals.length ≤ s.cells.length
    · obtain ⟨e1, e2⟩ := Ms.alloc_yes ⟨hn0, hf⟩ th
      rw [e1, e2]
      clear e1 e2
      have hn : (vals.length : Int) ≤ (s.cells.length : Int) - s.free := by omega
      have HN := Lib.hid hn
      clear hf hn
      go_enter Try.func34, Try.ntmps34
      go_wp2_with fail
      go_at_call 90
      refine (palloc_c base gp gl s.free s.cells A vals c w H.out.pl H.out.bp H.out.bl (HVA.out _ (Kept.refl _ _)) HN.out hn0).mono ?_
      rintro e WA ⟨rfl, q1, q2, q3⟩
      have hk : Kept w WA S := q2.mono (fun k hk => hk.elim (fun e => e ▸ H.out.sp) (fun e => e ▸ H.out.sl))
      have hM : MemAt WA base S gm gp gl vt (splice s.cells s.free vals) (s.free + vals.length) s.tr := by
        refine ⟨blk_kept H.out.blk q2 (fun e => e.elim (blk_ne H.out.blk H.out.pl.blk (by decide)) (blk_ne H.out.blk H.out.pl.row (by decide))), q1, ?_, H.out.sm, H.out.sp, H.out.sl, H.out.bm, H.out.bp, H.out.bl⟩
        have h5 := Kd.R_types H.out.tr H.out.pl.blk (fun q hq => by
          rcases List.mem_cons.1 hq with rfl | hq
          · decide
          · have h6 : q = 33 := by simpa [kAcc, Kd.iso, Kd.pair, Kd.int, Kd.scalar, Kd.bool, Kd.slice] using hq
            subst h6
            decide)
        exact Kd.R_mono (Kd.R_kept h5 q2 (fun k hk h2 => h2.elim hk.2 hk.1.2)) (fun _ hk => hk.1)
      have hV : ViewAt WA gv gm th made := blk_kept HV.out q2 (fun e => e.elim (blk_ne HV.out H.out.pl.blk (by decide)) (blk_ne HV.out H.out.pl.row (by decide)))
      have HM1 := Lib.hid hM
      have HV1 := Lib.hid hV
      have HK := Lib.hid hk
      have HB := Lib.hid q3
      clear q1 q2 q3 hk hM hV
      go_wp2_with fail
      go_at_call 47
      refine (clone_c A vals c WA (HVA.out _ HK.out) HC.out HL.out).mono ?_
      rintro e w2 ⟨v5, rfl, r1, r2⟩
      obtain ⟨A5, c5, rfl⟩ := Kd.R_slice r1
      have R1 := Lib.hid r1
      have R2 := Lib.hid r2
      clear r1 r2
      go_wp2_with fail
      go_at_call 51
      refine (valloc_note base S gv gm gp gl _ made vt _ s.tr th s.free vals w WA HM1.out HV1.out HSV.out HBV.out HK.out HB.out HMD.out HTR.out R1.out R2.out).mono ?_
      rintro e w' ⟨rfl, vt', q1, q2, q3, q4⟩
      have Q := Lib.hid (And.intro q1 (And.intro q2 (And.intro q3 q4)))
      clear q1 q2 q3 q4
      go_wp2_with fail
      go_ret
      exact ⟨rfl, ⟨gp, gl, vt', Q.out.1⟩, Q.out.2⟩
    · obtain ⟨e1, e2⟩ := Ms.alloc_no (s := s) (vals := vals) (fun h => hf h.2) th
      rw [e1, e2]
      clear e1 e2
      have hn : (s.cells.length : Int) - s.free < vals.length := by omega
      have HN := Lib.hid hn
      clear hf hn
      go_enter Try.func34, Try.ntmps34
      go_wp2_with fail
      go_at_call 90
      refine (palloc_no base gp gl s.free s.cells A vals.length c w H.out.pl HN.out HL.out).mono ?_
      rintro e WA ⟨rfl, m, hWA⟩
      have hk : Kept w WA S := by rw [hWA]; exact (Kept.refl _ _).drewN m
      have hb : Below base w WA := by rw [hWA]; exact pw_below_drewN (Below.refl _ _) m
      have HM1 : Hid (MemAt WA base S gm gp gl vt s.cells s.free s.tr) := Lib.hid (by rw [hWA]; exact H.out.drewN m)
      have HV1 : Hid (ViewAt WA gv gm th made) := Lib.hid (by rw [hWA]; exact HV.out)
      have HK := Lib.hid hk
      have HB := Lib.hid hb
      have hc1 := HV1.out.c0
      clear hWA hk hb
      go_wp2_with fail
      go_at_call 47
      refine (clone_c A vals c WA (HVA.out _ HK.out) HC.out HL.out).mono ?_
      rintro e w2 ⟨v5, rfl, r1, r2⟩
      obtain ⟨A5, c5, rfl⟩ := Kd.R_slice r1
      have R1 := Lib.hid r1
      have R2 := Lib.hid r2
      clear r1 r2
      go_wp2_with fail
      go_at_call 51
      refine (valloc_note base S gv gm gp gl _ made vt _ s.tr th 0 vals w WA HM1.out HV1.out HSV.out HBV.out HK.out HB.out HMD.out HTR.out R1.out R2.out).mono ?_
      rintro e w' ⟨rfl, vt', q1, q2, q3, q4⟩
      have Q := Lib.hid (And.intro q1 (And.intro q2 (And.intro q3 q4)))
      clear q1 q2 q3 q4
      go_wp2_with fail
      go_ret
      exact ⟨rfl, ⟨gp, gl, vt', Q.out.1⟩, Q.out.2⟩
  · obtain ⟨e1, e2⟩ := Ms.alloc_no (s := s) (vals := vals) (fun h => hn0 h.1) th
    rw [e1, e2]
    clear e1 e2
    go_enter Try.func34, Try.ntmps34
    go_wp2_with fail
    go_at_call 47
    refine (clone_c A vals c w (HVA.out _ (Kept.refl _ _)) HC.out HL.out).mono ?_
    rintro e w2 ⟨v5, rfl, r1, r2⟩
    obtain ⟨A5, c5, rfl⟩ := Kd.R_slice r1
    have R1 := Lib.hid r1
    have R2 := Lib.hid r2
    clear r1 r2
    go_wp2_with fail
    go_at_call 51
    refine (valloc_note base S gv gm gp gl _ made vt _ s.tr th 0 vals w w H.out HV.out HSV.out HBV.out (Kept.refl _ _) (Below.refl _ _) HMD.out HTR.out R1.out R2.out).mono ?_
    rintro e w' ⟨rfl, vt', q1, q2, q3, q4⟩
    have Q := Lib.hid (And.intro q1 (And.intro q2 (And.intro q3 q4)))
    clear q1 q2 q3 q4
    go_wp2_with fail
    go_ret
    exact ⟨rfl, ⟨gp, gl, vt', Q.out.1⟩, Q.out.2⟩
end Go.Proofs.Ytbpkepcbmenbcaa.Ar
