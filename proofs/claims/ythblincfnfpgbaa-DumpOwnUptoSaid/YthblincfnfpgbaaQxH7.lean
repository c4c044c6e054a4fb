import Derived.Test.YthblincfnfpgbaaQxH3
import Derived.Test.YthblincfnfpgbaaQxH2
namespace Go.Proofs.Ythblincfnfpgbaa.Q
open Go.RowKit Go.Proofs.YthblincfnfpgbaaW.PrintWords Go.Proofs.YthblincfnfpgbaaW.PrintLast Go.Proofs.YthblincfnfpgbaaW.PrintMore
set_option linter.unusedVariables false
def opP (k v : Int) : S95 := ⟨2, k, v, 0, 0, z92, [], 0, 0⟩
def opD (k : Int) : S95 := ⟨3, k, 0, 0, 0, z92, [], 0, 0⟩
def opS (c : S30) : S95 := if c.f2 = true then opP c.f0 c.f4 else opD c.f0
def dump_Sync.f (a b : List S82) : Option (List S95 × Int) :=
  if a.length + b.length < 1048577 then (dump_Diff.f a b).bind fun r => if r.2 = 0 then some (r.1.map opS, 0) else some ([], r.2) else none
theorem at30 {w : World} {A : Option Addr} {n : Nat} {l : List S30} (h : Kd.C k30 w A n l) (i : Nat) (hi : i < l.length) : ∃ a, A = some a ∧ w.cell? (a.add (i * 5)) = some (.int .u64 l[i].f0) ∧ w.cell? ⟨(a.add (i * 5)).block, (a.add (i * 5)).off + 1, none⟩ = some (.bool l[i].f1) ∧ w.cell? ⟨(a.add (i * 5)).block, (a.add (i * 5)).off + 2, none⟩ = some (.bool l[i].f2) ∧ w.cell? ⟨(a.add (i * 5)).block, (a.add (i * 5)).off + 3, none⟩ = some (.int .u64 l[i].f3) ∧ w.cell? ⟨(a.add (i * 5)).block, (a.add (i * 5)).off + 4, none⟩ = some (.int .u64 l[i].f4) := by
  obtain ⟨a, e, h1, h2, h3, h4, h5⟩ := at_T30 h (i : Int) (by omega) (by have := h.1; omega)
  have e1 : rd_T30 l (i : Int) = l[i] := by unfold rd_T30; simp [List.getD_eq_getElem?_getD, List.getElem?_eq_getElem hi]
  rw [e1] at h1 h2 h3 h4 h5
  exact ⟨a, e, h1, h2, h3, h4, h5⟩
set_option maxHeartbeats 8000000 in
set_option maxRecDepth 100000 in
theorem sync_c (A : Option Addr) (c : Nat) (a : List S82) (B : Option Addr) (d : Nat) (b : List S82) (l : List S30) (e : Int) (w : World) (hA : Kd.C k82 w A a.length a) (hc : a.length ≤ c) (hB : Kd.C k82 w B b.length b) (hd : b.length ≤ d) (h : dump_Diff.f a b = some (l, e)) (hl : l.length < 1048577) (he : e = 0) :
    Calls Try.prog 22 #[.slice A a.length c, .slice B b.length d] w fun en w' => ∃ v, en = .returned (.tuple #[v, .int .i64 0]) ∧ Kd.R k95 95 w' w.heap.size (fun _ => True) v (l.map opS) ∧ Below w.heap.size w w' := by
  have hu30 := Try.underlying30
  have hu95 := Try.underlying95
  have HA := Lib.hid hA
  have HC := Lib.hid hc
  have HB := Lib.hid hB
  have HD := Lib.hid hd
  have HF := Lib.hid h
  have HL := Lib.hid hl
  clear hA hc hB hd h hl
  subst he
  go_enter Try.func22, Try.ntmps22
  go_wp2_with fail
  go_at_call 11
  refine (dump_Diff.calls _ _ _ _ _ _ _ _ _ HA.out HC.out HB.out HD.out HF.out).mono ?_
  rintro e w1 ⟨v1, rfl, hR, hb⟩
  obtain ⟨A1, c1, rfl, h1, h2⟩ := Kd.R_reads hR
  have HK := Lib.hid h2
  have HB1 := Lib.hid hb
  clear hR h1 h2 hb
  go_wp2
  go_loopg [8, 23] l.length (fun kq u x w' => ∃ (i : Nat) (os : List S95), x = .int .i64 i ∧ Hid (kq + i = l.length) ∧ Hid (os = (l.take i).map opS) ∧ Hid (Kd.R k95 95 w' w1.heap.size (fun _ => True) u os) ∧ Hid (Below w1.heap.size w1 w'))
  case atStart => exact ⟨0, [], rfl, Lib.hid (by omega), Lib.hid rfl, Lib.hid (Kd.R_nil _ _ _ _ _), Lib.hid (Below.refl _ _)⟩
  case round =>
    obtain ⟨i, os, rfl, HQ, HO, HR, HW1⟩ := hrel
    by_cases hlt : i < l.length
    · have hlt1 : (i : Int) < (l.length : Int) := by omega
      obtain ⟨ad, rfl, p1, p2, p3, p4, p5⟩ := at30 (Kd.C_below HK.out HW1.out) i hlt
      generalize hx : l[i] = x at p1 p2 p3 p4 p5
      have HX := Lib.hid hx
      clear hx
      obtain ⟨f0, f1, f2, f3, f4⟩ := x
      dsimp only at p1 p2 p3 p4 p5
      cases f2
      · go_wp2_with (first | (at_builtin; refine Kd.R_append k95 (w0 := w1) w1.heap.size (by rfl) (.tmp 37) (.tmp 39) 43 95 (.agg #[.int .u8 0, .int .u64 0, .int .u64 0, .int .u64 0, .int .u64 0, .bool false, .int .i64 0, .int .i64 0, .slice none 0 0, .int .u64 0, .int .u64 0]) 104 rfl Try.underlying43 info95 rfl (by decide) (by omega) _ os (opD f0) [.int .u8 3, .int .u64 f0, .int .u64 0, .int .u64 0, .int .u64 0, .bool false, .int .i64 0, .int .i64 0, .slice none 0 0, .int .u64 0, .int .u64 0] (fun _ => True) (fun _ => False) rfl ?aX ?aP (fun _ hk => hk.elim) (fun _ _ => trivial) ?aO ?aB ?aS ?aL ?_))
        case aP => exact k95_mkM _ _ _ (opD f0) (Kd.R_nil _ _ _ _ _)
        case aO => exact Kd.R_alloc (Kd.R_alloc HR.out _) _
        case aB => exact (HW1.out.alloc HW1.out.size _).alloc (by have := HW1.out.size; simp; omega) _
        case aS => have := HW1.out.size; simp; omega
        case aL => have h1 := HO.out; have h2 := HL.out; have h3 := congrArg List.length h1; simp at h3; omega
        · simp [Act.eval]
        intro v2 w2 h1 h2 h3 h4
        have H1 := Lib.hid h1
        have H2 := Lib.hid h2
        clear h1 h2 h3 h4
        go_wp2
        go_roundg (gk - 1)
        case measure => have := HQ.out; omega
        case rel =>
          refine ⟨i + 1, _, wsucc i (by have := HL.out; omega), Lib.hid (by have := HQ.out; omega), Lib.hid ?_, H1, H2⟩
          rw [List.take_succ_eq_append_getElem hlt, List.map_append, HO.out, HX.out]
          rfl
      · go_wp2_with (first | (at_builtin; refine Kd.R_append k95 (w0 := w1) w1.heap.size (by rfl) (.tmp 37) (.tmp 39) 43 95 (.agg #[.int .u8 0, .int .u64 0, .int .u64 0, .int .u64 0, .int .u64 0, .bool false, .int .i64 0, .int .i64 0, .slice none 0 0, .int .u64 0, .int .u64 0]) 104 rfl Try.underlying43 info95 rfl (by decide) (by omega) _ os (opP f0 f4) [.int .u8 2, .int .u64 f0, .int .u64 f4, .int .u64 0, .int .u64 0, .bool false, .int .i64 0, .int .i64 0, .slice none 0 0, .int .u64 0, .int .u64 0] (fun _ => True) (fun _ => False) rfl ?bX ?bP (fun _ hk => hk.elim) (fun _ _ => trivial) ?bO ?bB ?bS ?bL ?_))
        case bP => exact k95_mkM _ _ _ (opP f0 f4) (Kd.R_nil _ _ _ _ _)
        case bO => exact Kd.R_alloc (Kd.R_alloc HR.out _) _
        case bB => exact (HW1.out.alloc HW1.out.size _).alloc (by have := HW1.out.size; simp; omega) _
        case bS => have := HW1.out.size; simp; omega
        case bL => have h1 := HO.out; have h2 := HL.out; have h3 := congrArg List.length h1; simp at h3; omega
        · simp [Act.eval]
        intro v2 w2 h1 h2 h3 h4
        have H1 := Lib.hid h1
        have H2 := Lib.hid h2
        clear h1 h2 h3 h4
        go_wp2
        go_roundg (gk - 1)
        case measure => have := HQ.out; omega
        case rel =>
          refine ⟨i + 1, _, wsucc i (by have := HL.out; omega), Lib.hid (by have := HQ.out; omega), Lib.hid ?_, H1, H2⟩
          rw [List.take_succ_eq_append_getElem hlt, List.map_append, HO.out, HX.out]
          rfl
    · have hlt1 : ¬ (i : Int) < (l.length : Int) := by omega
      have hos : os = l.map opS := by rw [HO.out, List.take_of_length_le (by omega)]
      subst hos
      go_wp2
      go_ret2
      exact ⟨_, rfl, Kd.R_lower HR.out HB1.out.size, HB1.out.trans (HW1.out.mono HB1.out.size)⟩

set_option maxHeartbeats 8000000 in
theorem sync_no (A : Option Addr) (c : Nat) (a : List S82) (B : Option Addr) (d : Nat) (b : List S82) (l : List S30) (e : Int) (w : World) (hA : Kd.C k82 w A a.length a) (hc : a.length ≤ c) (hB : Kd.C k82 w B b.length b) (hd : b.length ≤ d) (h : dump_Diff.f a b = some (l, e)) (he : ¬ e = 0) :
    Calls Try.prog 22 #[.slice A a.length c, .slice B b.length d] w fun en w' => en = .returned (.tuple #[.slice none 0 0, .int .i64 e]) ∧ Below w.heap.size w w' := by
  have HA := Lib.hid hA
  have HC := Lib.hid hc
  have HB := Lib.hid hB
  have HD := Lib.hid hd
  have HF := Lib.hid h
  have he1 : (e == 0) = false := by simp [he]
  clear hA hc hB hd h he
  go_enter Try.func22, Try.ntmps22
  go_wp2_with fail
  go_at_call 11
  refine (dump_Diff.calls _ _ _ _ _ _ _ _ _ HA.out HC.out HB.out HD.out HF.out).mono ?_
  rintro en w1 ⟨v1, rfl, hR, hb⟩
  have HB1 := Lib.hid hb
  clear hR hb
  go_wp2
  go_ret2
  exact ⟨rfl, HB1.out⟩
theorem dump_Sync.calls (A0 : Option Addr) (c0 : Nat) (l0 : List S82) (A1 : Option Addr) (c1 : Nat) (l1 : List S82) (r1 : List S95) (r2 : Int) (w : World) (hr0 : Kd.C k82 w A0 l0.length l0) (hc0 : l0.length ≤ c0) (hr1 : Kd.C k82 w A1 l1.length l1) (hc1 : l1.length ≤ c1) (h : dump_Sync.f l0 l1 = some (r1, r2)) :
    Calls Try.prog 22 #[.slice A0 l0.length c0, .slice A1 l1.length c1] w fun e w' => ∃ v0_ : Value, e = .returned (.tuple #[v0_, .int .i64 r2]) ∧ Kd.R k95 95 w' w.heap.size (fun _ => True) v0_ r1 ∧ Below w.heap.size w w' := by
  unfold dump_Sync.f at h
  split at h
  case isFalse => exact absurd h (by simp)
  rename_i hlen
  obtain ⟨⟨l, e⟩, hd, h⟩ := Option.bind_eq_some_iff.1 h
  dsimp only at h
  have hll : l.length ≤ l0.length + l1.length := by
    have := diffS_length l0 l1
    unfold dump_Diff.f at hd
    rw [if_pos (by omega)] at hd
    repeat' split at hd
    all_goals simp only [Option.some.injEq, Prod.mk.injEq] at hd
    all_goals obtain ⟨rfl, _⟩ := hd
    all_goals simp
    omega
  split at h
  · rename_i he
    obtain ⟨rfl, rfl⟩ : l.map opS = r1 ∧ (0 : Int) = r2 := by simpa using h
    exact sync_c A0 c0 l0 A1 c1 l1 l e w hr0 hc0 hr1 hc1 hd (by omega) he
  · rename_i he
    obtain ⟨rfl, rfl⟩ : [] = r1 ∧ e = r2 := by simpa using h
    refine (sync_no A0 c0 l0 A1 c1 l1 l e w hr0 hc0 hr1 hc1 hd he).mono ?_
    rintro en w' ⟨rfl, hb⟩
    exact ⟨_, rfl, Kd.R_nil _ _ _ _ _, hb⟩
end Go.Proofs.Ythblincfnfpgbaa.Q
