import Derived.Test.YtngocadnbpdnoaaMta
import Derived.Test.YtngocadnbpdnoaaMtb
import Derived.Test.YtngocadnbpdnoaaRows
namespace Go.Proofs.Ytngocadnbpdnoaa.Mo
open Go Go.Maps Go.RowKit Go.Proofs.Ytngocadnbpdnoaa.Srt Go.Proofs.Ytngocadnbpdnoaa.Q Go.Proofs.YtngocadnbpdnoaaW.PrintWords Go.Proofs.YtngocadnbpdnoaaW.PrintLast Go.Proofs.YtngocadnbpdnoaaW.PrintMore
set_option linter.unusedVariables false
set_option linter.unusedSimpArgs false
/-! The plain law of ModelTakes. -/
theorem anEq_self (x : AnS) : anEq x x = true := by simp [anEq]
theorem anEq_comm (x y : AnS) : anEq x y = anEq y x := by
  unfold anEq
  have h : ∀ {α : Type} [DecidableEq α] (a b : α), (a == b) = (b == a) := fun a b => by
    by_cases e : a = b
    · rw [e]
    · rw [beq_eq_false_iff_ne.2 e, beq_eq_false_iff_ne.2 (Ne.symm e)]
  have hd : decide (x.f5 = y.f5) = decide (y.f5 = x.f5) := by
    by_cases e : x.f5 = y.f5
    · rw [e]
    · rw [decide_eq_false e, decide_eq_false (Ne.symm e)]
  rw [hd, h x.f0, h x.f1, h x.f2, h x.f3, h x.f4, h x.f6]
theorem anEq_f0 {x y : AnS} (h : anEq x y = true) : x.f0 = y.f0 := by
  simp only [anEq, Bool.and_eq_true, beq_iff_eq] at h
  exact h.1.1.1.1.1.2
theorem anEq_ne {x y : AnS} (h : x.f0 ≠ y.f0) : anEq x y = false := by
  cases e : anEq x y with
  | false => rfl
  | true => exact absurd (anEq_f0 e) h
theorem stepD_hdl (s : MS) (o : OpS) (h h' : Int) (hk : o.f0 ≠ 5) : stepD s o h = stepD s o h' := by
  unfold stepD
  rw [if_neg hk, if_neg hk]
theorem stepD_held0 {s : MS} {o : OpS} {h : Int} (hk : fnd s.held 0 = none) : fnd (stepD s o h).1.held 0 = none := by
  unfold stepD
  by_cases h1 : o.f0 = 1
  · simp [h1, hk]
  by_cases h2 : o.f0 = 2
  · simp [h2, hk]
  by_cases h3 : o.f0 = 3
  · simp [h3, hk]
  by_cases h4 : o.f0 = 4
  · by_cases hx : fnd s.now o.f1 = some o.f3 <;> simp [h4, hx, hk]
  by_cases h5 : o.f0 = 5
  · simp only [h5, snapHeld]
    by_cases e0 : h = 0
    · simp [e0, hk]
    · by_cases hs : (fnd s.held h).isSome = true
      · simp [hs, hk]
      · simp [hs, e0, fnd_put_other _ _ _ (Ne.symm e0), hk]
  by_cases h6 : o.f0 = 6
  · cases hx : fnd s.held o.f4 with
    | none => simp [h6, hx, hk]
    | some y =>
      have hne : (0 : Int) ≠ o.f4 := fun e => by rw [← e, hk] at hx; cases hx
      simp [h6, hx, hk, fnd_del_other _ _ hne]
  by_cases h7 : o.f0 = 7
  · by_cases hl : s.multi < (o.f6.length : Int)
    · simp [h7, hl, hk]
    · cases hx : fnd s.held o.f4 <;> simp [h7, hl, hx, hk]
  by_cases h8 : o.f0 = 8
  · cases hx : fnd s.held o.f4 <;> simp [h8, hx, hk]
  by_cases h9 : o.f0 = 9
  · cases hx : fnd s.held o.f4 <;> simp [h9, hx, hk]
  by_cases h10 : o.f0 = 10
  · simp [h10, hk]
  · simp [h1, h2, h3, h4, h5, h6, h7, h8, h9, h10, hk]
theorem stepD_query (s : MS) (o : OpS) (h : Int) (hk : 7 ≤ o.f0 ∧ o.f0 ≤ 9) : (stepD s o h).1 = s := by
  have h1 : o.f0 ≠ 1 := by omega
  have h2 : o.f0 ≠ 2 := by omega
  have h3 : o.f0 ≠ 3 := by omega
  have h4 : o.f0 ≠ 4 := by omega
  have h5 : o.f0 ≠ 5 := by omega
  have h6 : o.f0 ≠ 6 := by omega
  unfold stepD
  rw [if_neg h1, if_neg h2, if_neg h3, if_neg h4, if_neg h5, if_neg h6]
  repeat' split
  all_goals rfl
/-- An operation that tells an error changes nothing. -/
theorem stepD_err {s : MS} {o : OpS} {h : Int} (he : (stepD s o h).2.e ≠ 0) : (stepD s o h).1 = s := by
  unfold stepD at he ⊢
  by_cases h1 : o.f0 = 1
  · simp [h1]
  by_cases h2 : o.f0 = 2
  · simp [h2, foundD] at he
  by_cases h3 : o.f0 = 3
  · simp [h3, foundD] at he
  by_cases h4 : o.f0 = 4
  · by_cases hx : fnd s.now o.f1 = some o.f3 <;> simp [h4, hx, foundD] at he
  by_cases h5 : o.f0 = 5
  · by_cases hs : (fnd s.held h).isSome = true
    · simp [h5, snapHeld, hs]
    · simp [h5, snapD, hs] at he
  by_cases h6 : o.f0 = 6
  · cases hx : fnd s.held o.f4 <;> simp [h6, hx, errD] at he ⊢
  by_cases h7 : o.f0 = 7
  · by_cases hl : s.multi < (o.f6.length : Int)
    · simp [h7, hl]
    · cases hx : fnd s.held o.f4 <;> simp [h7, hl, hx]
  by_cases h8 : o.f0 = 8
  · cases hx : fnd s.held o.f4 <;> simp [h8, hx]
  by_cases h9 : o.f0 = 9
  · cases hx : fnd s.held o.f4 <;> simp [h9, hx]
  by_cases h10 : o.f0 = 10
  · simp [h10]
  · simp [h1, h2, h3, h4, h5, h6, h7, h8, h9, h10]
theorem snap0 {s : MS} {o : OpS} (hk : o.f0 = 5) (h0 : fnd s.held 0 = none) : stepD s o 0 = (s, ⟨0, false, 0, false, 0, [], 0⟩) := by
  unfold stepD
  simp [hk, snapHeld, snapD, h0]
theorem take_snap0 {s : MS} {o : OpS} (hk : o.f0 = 5) (h0 : fnd s.held 0 = none) : takeD s o (ansS ⟨0, false, 0, false, 0, [], 0⟩) = (s, false) := by
  have e1 : anEq (ansS ⟨0, false, 0, false, 0, [], 0⟩) (errS 32) = false := anEq_ne (by simp [ansS, errS])
  have e2 : anEq (ansS ⟨0, false, 0, false, 0, [], 0⟩) (errS 31) = false := anEq_ne (by simp [ansS, errS])
  unfold takeD
  rw [if_neg (by omega), if_pos hk, e1, e2]
  simp [ansS]
/-- What Do tells, Take lets be told. -/
theorem take_do {s : MS} {o : OpS} {hdl : Int} (hn : ¬ (o.f0 = 5 ∧ hdl = 0)) : takeD s o (ansS (stepD s o hdl).2) = ((stepD s o hdl).1, true) := by
  by_cases h5 : o.f0 = 5
  · have h0 : hdl ≠ 0 := fun e => hn ⟨h5, e⟩
    unfold takeD
    rw [if_neg (by omega), if_pos h5]
    by_cases hs : (fnd s.held hdl).isSome = true
    · have e : stepD s o hdl = (s, errD 32) := by unfold stepD; simp [h5, snapHeld, snapD, hs]
      rw [e]
      have : anEq (ansS (errD 32)) (errS 32) = true := anEq_self _
      simp [this]
    · have e : stepD s o hdl = (⟨s.multi, s.now, snapHeld hdl s.now s.held⟩, ⟨0, false, 0, false, hdl, [], 0⟩) := by unfold stepD; simp [h5, snapD, hs]
      rw [e]
      have e1 : anEq (ansS ⟨0, false, 0, false, hdl, [], 0⟩) (errS 32) = false := anEq_ne (by simp [ansS, errS])
      have e2 : anEq (ansS ⟨0, false, 0, false, hdl, [], 0⟩) (errS 31) = false := anEq_ne (by simp [ansS, errS])
      have e3 : anEq (ansS ⟨0, false, 0, false, hdl, [], 0⟩) ⟨0, false, 0, false, (ansS ⟨0, false, 0, false, hdl, [], 0⟩).f4, [], 0⟩ = true := anEq_self _
      have hs' : (fnd s.held hdl).isSome = false := by simpa using hs
      rw [e1, e2, e3]
      simp [ansS, hs', h0]
  · rw [stepD_hdl s o hdl 0 h5]
    have hself := anEq_self (ansS (stepD s o 0).2)
    unfold takeD
    by_cases h24 : 2 ≤ o.f0 ∧ o.f0 ≤ 4
    · rw [if_pos h24]
      have e0 : (stepD s o 0).2.e = 0 := by
        unfold stepD
        rcases (show o.f0 = 2 ∨ o.f0 = 3 ∨ o.f0 = 4 by omega) with e | e | e
        · simp [e, foundD]
        · simp [e, foundD]
        · by_cases hx : fnd s.now o.f1 = some o.f3 <;> simp [e, hx, foundD]
      have e1 : anEq (ansS (stepD s o 0).2) (errS 30) = false := anEq_ne (by simp [ansS, errS, e0])
      rw [if_neg (by simp [e1]), if_pos hself]
    rw [if_neg h24, if_neg h5]
    by_cases h10 : o.f0 = 10
    · rw [if_pos h10]
      have e : stepD s o 0 = (s, errD 0) := by unfold stepD; simp [h10]
      rw [e]
      have : anEq (ansS (errD 0)) ⟨0, false, 0, false, 0, [], (ansS (errD 0)).f6⟩ = true := anEq_self _
      rw [this]
    rw [if_neg h10]
    by_cases h79 : 7 ≤ o.f0 ∧ o.f0 ≤ 9
    · rw [if_pos h79, hself]
      simp
    · rw [if_neg h79, if_pos hself]
/-- Another answer it does not, but for want of memory or a stale handle; nothing changes. -/
theorem take_other {s : MS} {o : OpS} {hdl : Int} {x : AnS} (h5 : o.f0 ≠ 5) (h10 : o.f0 ≠ 10) (hx : anEq x (ansS (stepD s o hdl).2) = false) : (takeD s o x).1 = s ∧ ((takeD s o x).2 = true → x.f0 = 30 ∨ x.f0 = 34) := by
  rw [stepD_hdl s o hdl 0 h5] at hx
  have hx' : anEq (ansS (stepD s o 0).2) x = false := by rw [anEq_comm]; exact hx
  unfold takeD
  by_cases h24 : 2 ≤ o.f0 ∧ o.f0 ≤ 4
  · rw [if_pos h24]
    by_cases h30 : anEq x (errS 30) = true
    · rw [if_pos h30]
      exact ⟨rfl, fun _ => .inl (anEq_f0 h30)⟩
    · rw [if_neg h30, if_neg (by simp [hx'])]
      exact ⟨rfl, fun e => by cases e⟩
  rw [if_neg h24, if_neg h5, if_neg h10]
  by_cases h79 : 7 ≤ o.f0 ∧ o.f0 ≤ 9
  · rw [if_pos h79, hx]
    refine ⟨stepD_query s o 0 h79, fun e => ?_⟩
    simp only [Bool.false_or, Bool.and_eq_true] at e
    exact .inr (anEq_f0 e.2)
  · rw [if_neg h79, if_neg (by simp [hx'])]
    exact ⟨rfl, fun e => by cases e⟩
end Go.Proofs.Ytngocadnbpdnoaa.Mo
namespace Go.Proofs.Ytngocadnbpdnoaa.Mo
open Go Go.Maps Go.RowKit Go.Proofs.Ytngocadnbpdnoaa.Srt Go.Proofs.Ytngocadnbpdnoaa.Q Go.Proofs.YtngocadnbpdnoaaW.PrintWords Go.Proofs.YtngocadnbpdnoaaW.PrintLast Go.Proofs.YtngocadnbpdnoaaW.PrintMore
set_option linter.unusedVariables false
set_option linter.unusedSimpArgs false
/-! The plain law of ModelHeld. -/
theorem within_all {l : PL} (h : ∀ q ∈ l, u64wf q.1) : within 0 18446744073709551615 l = l := by
  unfold within
  refine List.filter_eq_self.2 (fun q hq => ?_)
  have h1 := h q hq
  unfold u64wf at h1
  simp [Lit.wf, IntKind.min, IntKind.max, IntKind.signed, IntKind.bits] at h1
  simp only [Bool.not_eq_true', Bool.or_eq_false_iff, decide_eq_false_iff_not]
  omega
theorem snapHeld_keep {held : List (Int × PL)} {hd h : Int} {now c : PL} (hk : fnd held hd = some c) : fnd (snapHeld h now held) hd = some c := by
  unfold snapHeld
  split
  · exact hk
  · rename_i hs
    split
    · exact hk
    · rw [fnd_put_other _ _ _ (fun e => by rw [← e, hk] at hs; exact hs rfl)]
      exact hk
/-- A handle holds what it held, unless it is released. -/
theorem stepD_held {s : MS} {o : OpS} {h hd : Int} {c : PL} (hk : fnd s.held hd = some c) (hr : ¬ (o.f0 = 6 ∧ o.f4 = hd)) : fnd (stepD s o h).1.held hd = some c := by
  unfold stepD
  by_cases h1 : o.f0 = 1
  · simp [h1, hk]
  by_cases h2 : o.f0 = 2
  · simp [h2, hk]
  by_cases h3 : o.f0 = 3
  · simp [h3, hk]
  by_cases h4 : o.f0 = 4
  · by_cases hx : fnd s.now o.f1 = some o.f3 <;> simp [h4, hx, hk]
  by_cases h5 : o.f0 = 5
  · simp [h5, snapHeld_keep hk]
  by_cases h6 : o.f0 = 6
  · have hne : hd ≠ o.f4 := fun e => hr ⟨h6, e.symm⟩
    cases hx : fnd s.held o.f4 <;> simp [h6, hx, hk, fnd_del_other _ _ hne]
  by_cases h7 : o.f0 = 7
  · by_cases hl : s.multi < (o.f6.length : Int)
    · simp [h7, hl, hk]
    · cases hx : fnd s.held o.f4 <;> simp [h7, hl, hx, hk]
  by_cases h8 : o.f0 = 8
  · cases hx : fnd s.held o.f4 <;> simp [h8, hx, hk]
  by_cases h9 : o.f0 = 9
  · cases hx : fnd s.held o.f4 <;> simp [h9, hx, hk]
  by_cases h10 : o.f0 = 10
  · simp [h10, hk]
  · simp [h1, h2, h3, h4, h5, h6, h7, h8, h9, h10, hk]
theorem stepD_multi (s : MS) (o : OpS) (h : Int) : (stepD s o h).1.multi = s.multi := by
  unfold stepD
  repeat' split
  all_goals rfl
theorem snap_new {held : List (Int × PL)} {hd : Int} {now : PL} (hn : fnd held hd = none) (h0 : hd ≠ 0) : fnd (snapHeld hd now held) hd = some now ∧ snapD hd held = ⟨0, false, 0, false, hd, [], 0⟩ := by
  unfold snapHeld snapD
  rw [hn]
  simp [h0, fnd_put_same]
end Go.Proofs.Ytngocadnbpdnoaa.Mo
namespace Go.Proofs.Ytngocadnbpdnoaa.Mo
open Go Go.Maps Go.RowKit Go.Proofs.Ytngocadnbpdnoaa.Srt Go.Proofs.Ytngocadnbpdnoaa.Q Go.Proofs.YtngocadnbpdnoaaW.PrintWords Go.Proofs.YtngocadnbpdnoaaW.PrintLast Go.Proofs.YtngocadnbpdnoaaW.PrintMore
set_option linter.unusedVariables false
set_option linter.unusedSimpArgs false
def runD (s : MS) (l : List CallS) : MS := l.foldl (fun s c => (stepD s c.op c.hd).1) s
theorem runD_succ (s : MS) (l : List CallS) (i : Nat) (h : i < l.length) : runD s (l.take (i + 1)) = (stepD (runD s (l.take i)) l[i].op l[i].hd).1 := by
  rw [runD, runD, List.take_succ_eq_append_getElem h, List.foldl_append]; rfl
/-- One model in a world. -/
structure One (w wr : World) (f : Nat → Option PL) (N gp bn bh : Nat) (s : MS) : Prop where
  pm : PM wr f N gp bn bh s.multi s.now s.held
  fro : Fro wr f N
  ko : KO w wr (fun _ => False)
theorem One.below {w wr W : World} {f : Nat → Option PL} {N gp bn bh : Nat} {s : MS} (h : One w wr f N gp bn bh s) (hB : Below wr.heap.size wr W) : One w W f N gp bn bh s :=
  ⟨h.pm.kept (Kept.of_below hB (fun _ => False)) (fun e => e) (fun e => e) (fun e => e), h.fro.kept (Kept.of_below hB (fun _ => False)) (fun _ _ _ e => e), h.ko.below hB⟩
theorem One.step {w wr w1 : World} {f : Nat → Option PL} {N gp bn bh : Nat} {s s' : MS} (h : One w wr f N gp bn bh s) (hL : Left wr w1 f (N + 1) gp bn bh s'.multi s'.now s'.held (fun k => k = bn ∨ k = bh)) (h1 : w.heap.size ≤ bn) (h2 : w.heap.size ≤ bh) : ∃ f', One w w1 f' (N + 1) gp bn bh s' := by
  obtain ⟨f', hE, hP, hF, hK⟩ := hL
  exact ⟨f', hP, hF, h.ko.then_ hK (fun k e => .inr (by omega))⟩
/-- An operation of the law's own. -/
def litO (k hd hi : Int) : OpS := ⟨k, 0, 0, 0, hd, ⟨false, 0, 0⟩, [], 0, hi⟩
theorem do_lit (k hd hi hdl : Int) (f : Nat → Option PL) (N gp bn bh : Nat) (s : MS) (w : World) (hM : PM w f N gp bn bh s.multi s.now s.held) (hF : Fro w f N) (h1 : u64wf hd) (h2 : u64wf hdl) (hN : N ≤ 1099511627776) :
    Calls Try.prog 15 #[.pointer (some ⟨gp, 0, none⟩), .agg #[.int .u8 k, .int .u64 0, .int .u64 0, .int .u64 0, .int .u64 hd, .bool false, .int .i64 0, .int .i64 0, .slice none 0 0, .int .u64 0, .int .u64 hi], .int .u64 hdl] w (DoPost w f (N + 1) gp bn bh (stepD s (litO k hd hi) hdl).1 (stepD s (litO k hd hi) hdl).2) :=
  do_c f N gp bn bh s.multi s.now s.held (litO k hd hi) none 0 hdl w hM hF ⟨by show u64wf 0; unfold u64wf; decide, by show u64wf 0; unfold u64wf; decide, h1⟩ h2 hN (fun _ _ => Kd.C_nil _ _) (fun k hk => by cases hk) (by show 0 ≤ _; omega)
theorem One.mono {w wr : World} {f : Nat → Option PL} {N N' gp bn bh : Nat} {s : MS} (h : One w wr f N gp bn bh s) (hn : N ≤ N') : One w wr f N' gp bn bh s := ⟨h.pm.mono hn, h.fro.mono hn, h.ko⟩
/-- One step; what is told; what else is new stays. -/
theorem One.told {w wr w1 : World} {f : Nat → Option PL} {N gp bn bh : Nat} {s s' : MS} {d : AnsD} {e : Ending} (h : One w wr f N gp bn bh s) (hD : DoPost wr f (N + 1) gp bn bh s' d e w1) (h1 : w.heap.size ≤ bn) (h2 : w.heap.size ≤ bh) :
    ∃ f' A c, e = .returned (.agg #[.int .i64 d.e, .bool d.fo, .int .u64 d.v, .bool d.dn, .int .u64 d.h, .slice A (toS d.ps).length c, .int .u64 d.c]) ∧ One w w1 f' (N + 1) gp bn bh s' ∧ kSP.R 90 w1 wr.heap.size (fun _ => True) (.slice A (toS d.ps).length c) (toS d.ps) ∧ Kept wr w1 (fun k => k = bn ∨ k = bh) := by
  obtain ⟨ps, rfl, hR, hL⟩ := hD
  obtain ⟨A, c, rfl⟩ := Kd.R_slice hR
  obtain ⟨f', hT⟩ := h.step hL h1 h2
  obtain ⟨f2, _, _, _, hK⟩ := hL
  exact ⟨f', A, c, rfl, hT, hR, hK.kept⟩
theorem held_some (f : Nat → Option PL) (N gp bn bh : Nat) (s : MS) (k : Int) (c : PL) (w : World) (hM : PM w f N gp bn bh s.multi s.now s.held) (hF : Fro w f N) (hk : u64wf k) (hN : N ≤ 1099511627776) (hc : fnd s.held k = some c) :
    Calls Try.prog 16 #[.pointer (some ⟨gp, 0, none⟩), .int .u64 k] w fun e w' => ∃ A n, e = .returned (.tuple #[.slice A (toS c).length n, .bool true]) ∧ kSP.R 90 w' w.heap.size (fun _ => True) (.slice A (toS c).length n) (toS c) ∧ Below w.heap.size w w' :=
  (held_c f N gp bn bh s.multi s.now s.held k w hM hF hk hN).mono fun e w' ⟨v, he, hR, hB⟩ => by
    rw [hc] at he hR
    obtain ⟨A, n, rfl⟩ := Kd.R_slice hR
    exact ⟨A, n, he, hR, hB⟩
theorem held_none (f : Nat → Option PL) (N gp bn bh : Nat) (s : MS) (k : Int) (w : World) (hM : PM w f N gp bn bh s.multi s.now s.held) (hF : Fro w f N) (hk : u64wf k) (hN : N ≤ 1099511627776) (hc : fnd s.held k = none) :
    Calls Try.prog 16 #[.pointer (some ⟨gp, 0, none⟩), .int .u64 k] w fun e w' => ∃ A n, e = .returned (.tuple #[.slice A 0 n, .bool false]) ∧ Below w.heap.size w w' :=
  (held_c f N gp bn bh s.multi s.now s.held k w hM hF hk hN).mono fun e w' ⟨v, he, hR, hB⟩ => by
    rw [hc] at he hR
    obtain ⟨A, n, rfl⟩ := Kd.R_slice hR
    exact ⟨A, n, he, hB⟩
end Go.Proofs.Ytngocadnbpdnoaa.Mo
namespace Go.Proofs.Ytngocadnbpdnoaa.Mo
open Go Go.Maps Go.RowKit Go.Proofs.Ytngocadnbpdnoaa.Srt Go.Proofs.Ytngocadnbpdnoaa.Q Go.Proofs.YtngocadnbpdnoaaW.PrintWords Go.Proofs.YtngocadnbpdnoaaW.PrintLast Go.Proofs.YtngocadnbpdnoaaW.PrintMore
set_option linter.unusedVariables false
set_option linter.unusedSimpArgs false
/-! Several models in one world. -/
structure Mod where
  gp : Nat
  bn : Nat
  bh : Nat
  s : MS
def Mod.to (m : Mod) (s : MS) : Mod := ⟨m.gp, m.bn, m.bh, s⟩
def Mod.own (m : Mod) : Nat → Prop := fun k => k = m.bn ∨ k = m.bh
def Dis (m m' : Mod) : Prop := m.bn ≠ m'.bn ∧ m.bn ≠ m'.bh ∧ m.bh ≠ m'.bn ∧ m.bh ≠ m'.bh
theorem Dis.symm {m m' : Mod} (h : Dis m m') : Dis m' m := ⟨Ne.symm h.1, Ne.symm h.2.2.1, Ne.symm h.2.1, Ne.symm h.2.2.2⟩
def PMm (wr : World) (f : Nat → Option PL) (N : Nat) (m : Mod) : Prop := PM wr f N m.gp m.bn m.bh m.s.multi m.s.now m.s.held
structure All (w wr : World) (f : Nat → Option PL) (N : Nat) (ms : List Mod) : Prop where
  pm : ∀ m ∈ ms, PMm wr f N m ∧ w.heap.size ≤ m.gp ∧ w.heap.size ≤ m.bn ∧ w.heap.size ≤ m.bh
  dis : ms.Pairwise Dis
  fro : Fro wr f N
  ko : KO w wr (fun _ => False)
theorem All.perm {w wr : World} {f : Nat → Option PL} {N : Nat} {ms ms' : List Mod} (h : All w wr f N ms) (p : ms.Perm ms') : All w wr f N ms' :=
  ⟨fun m hm => h.pm m (p.mem_iff.2 hm), p.pairwise h.dis Dis.symm, h.fro, h.ko⟩
theorem All.rot {w wr : World} {f : Nat → Option PL} {N : Nat} {m : Mod} {ms : List Mod} (h : All w wr f N (m :: ms)) : All w wr f N (ms ++ [m]) :=
  h.perm (List.perm_append_comm (l₁ := [m]) (l₂ := ms))
theorem All.below {w wr W : World} {f : Nat → Option PL} {N : Nat} {ms : List Mod} (h : All w wr f N ms) (hB : Below wr.heap.size wr W) : All w W f N ms :=
  ⟨fun m hm => ⟨(h.pm m hm).1.kept (Kept.of_below hB (fun _ => False)) (fun e => e) (fun e => e) (fun e => e), (h.pm m hm).2⟩, h.dis, h.fro.kept (Kept.of_below hB (fun _ => False)) (fun _ _ _ e => e), h.ko.below hB⟩
theorem All.mono {w wr : World} {f : Nat → Option PL} {N N' : Nat} {ms : List Mod} (h : All w wr f N ms) (hn : N ≤ N') : All w wr f N' ms :=
  ⟨fun m hm => ⟨(h.pm m hm).1.mono hn, (h.pm m hm).2⟩, h.dis, h.fro.mono hn, h.ko⟩
theorem All.one {w wr : World} {f : Nat → Option PL} {N gp bn bh : Nat} {s : MS} (h : One w wr f N gp bn bh s) (h0 : w.heap.size ≤ gp) (h1 : w.heap.size ≤ bn) (h2 : w.heap.size ≤ bh) : All w wr f N [⟨gp, bn, bh, s⟩] :=
  ⟨fun m hm => by rw [List.mem_singleton.1 hm]; exact ⟨h.pm, h0, h1, h2⟩, List.pairwise_singleton _ _, h.fro, h.ko⟩
theorem PM.far {w : World} {f : Nat → Option PL} {N gp bn bh gp2 bn2 bh2 : Nat} {m m2 : Int} {now now2 : PL} {held held2 : List (Int × PL)} (h : PM w f N gp bn bh m now held) (h2 : PM w f N gp2 bn2 bh2 m2 now2 held2) : gp ≠ bn2 ∧ gp ≠ bh2 := by
  refine ⟨fun e => ?_, fun e => ?_⟩
  · have h1 := h.blk
    rw [e] at h1
    obtain ⟨⟨es, cl, h3, _⟩, _⟩ := h2.now
    rw [h1] at h3; cases h3
  · have h1 := h.blk
    rw [e] at h1
    obtain ⟨⟨es, cl, h3, _⟩, _⟩ := h2.held
    rw [h1] at h3; cases h3
/-- One of them steps. -/
theorem All.step {w wr w1 : World} {f : Nat → Option PL} {N N' : Nat} {m : Mod} {r : List Mod} {s' : MS} (h : All w wr f N (m :: r)) (hL : Left wr w1 f N' m.gp m.bn m.bh s'.multi s'.now s'.held m.own) (hn : N ≤ N') : ∃ f', All w w1 f' N' (m.to s' :: r) := by
  obtain ⟨f', hE, hP, hF, hK⟩ := hL
  obtain ⟨hd1, hd2⟩ := List.pairwise_cons.1 h.dis
  have hm := h.pm m (by simp)
  refine ⟨f', fun x hx => ?_, List.pairwise_cons.2 ⟨fun x hx => hd1 x hx, hd2⟩, hF, h.ko.then_ hK (fun k e => .inr (by have a := hm.2.2.1; have b := hm.2.2.2; rcases e with e | e <;> omega))⟩
  rcases List.mem_cons.1 hx with rfl | hx
  · exact ⟨hP, hm.2⟩
  · have hxm := h.pm x (by simp [hx])
    have hfar := PM.far hxm.1 hm.1
    have hd := hd1 x hx
    exact ⟨((hxm.1.kept hK.kept (fun e => by rcases e with e | e; exact hfar.1 e; exact hfar.2 e) (fun e => by rcases e with e | e; exact hd.1 e.symm; exact hd.2.2.1 e.symm) (fun e => by rcases e with e | e; exact hd.2.1 e.symm; exact hd.2.2.2 e.symm)).ext hE hxm.1.now.lt hxm.1.held.1.lt).mono hn, hxm.2⟩
/-- A fork of one of them. -/
theorem All.fork {w wr w1 : World} {f f' : Nat → Option PL} {N gq bm bi : Nat} {s : MS} {ms : List Mod} (h : All w wr f N ms) (hE : Ext wr.heap.size f f') (hP : PM w1 f' N gq bm bi s.multi s.now s.held) (hF : Fro w1 f' N) (hB : Below wr.heap.size wr w1) (h1 : wr.heap.size ≤ gq) (h2 : wr.heap.size ≤ bm) (h3 : wr.heap.size ≤ bi) : All w w1 f' N (⟨gq, bm, bi, s⟩ :: ms) := by
  have hz := h.ko.kept.1
  refine ⟨fun x hx => ?_, List.pairwise_cons.2 ⟨fun x hx => ?_, h.dis⟩, hF, h.ko.below hB⟩
  · rcases List.mem_cons.1 hx with rfl | hx
    · exact ⟨hP, Nat.le_trans hz h1, Nat.le_trans hz h2, Nat.le_trans hz h3⟩
    · have hxm := h.pm x hx
      exact ⟨(hxm.1.kept (Kept.of_below hB (fun _ => False)) (fun e => e) (fun e => e) (fun e => e)).ext hE hxm.1.now.lt hxm.1.held.1.lt, hxm.2⟩
  · have hxm := h.pm x hx
    have a := hxm.1.now.lt
    have b := hxm.1.held.1.lt
    exact ⟨by show bm ≠ x.bn; omega, by show bm ≠ x.bh; omega, by show bi ≠ x.bn; omega, by show bi ≠ x.bh; omega⟩
/-- What came in is as it was. -/
theorem All.came {α : Type} {d : Kd α} {w wr : World} {f : Nat → Option PL} {N : Nat} {ms : List Mod} {m : Mod} (h : All w wr f N ms) (hm : m ∈ ms) (hd : Kd.Heap d) {A : Option Addr} {n : Nat} {xs : List α} (hC : d.C w A n xs) {W : World} (hB : Below wr.heap.size wr W) : ∀ W', Kept W W' (fun k => k = m.bn ∨ k = m.bh) → d.C W' A n xs := fun W' hk => by
  have hp := h.pm m hm
  have hz := (h.ko.below hB).kept
  exact Kd.Heap.C hd (fun k hlt => (hk.2 k (Nat.lt_of_lt_of_le hlt hz.1) (fun e => by rcases e with e | e <;> omega)).trans (hz.2 k hlt (fun e => e))) hC
theorem do_all {w wr : World} {f : Nat → Option PL} {N : Nat} {gp bn bh : Nat} {s : MS} {r : List Mod} (h : All w wr f N (⟨gp, bn, bh, s⟩ :: r)) (o : OpS) (A : Option Addr) (c : Nat) (hdl : Int) (hO : OpWf o) (hh : u64wf hdl) (hN : N ≤ 1099511627776) (hC : Kd.C (Kd.int .u64) w A o.f6.length o.f6) (hw : ∀ k ∈ o.f6, u64wf k) (hn : o.f6.length ≤ 1099511627776) :
    Calls Try.prog 15 #[.pointer (some ⟨gp, 0, none⟩), .agg (opC o A c), .int .u64 hdl] wr fun e w1 => ∃ f' A' c', e = .returned (.agg #[.int .i64 (stepD s o hdl).2.e, .bool (stepD s o hdl).2.fo, .int .u64 (stepD s o hdl).2.v, .bool (stepD s o hdl).2.dn, .int .u64 (stepD s o hdl).2.h, .slice A' (toS (stepD s o hdl).2.ps).length c', .int .u64 (stepD s o hdl).2.c]) ∧ All w w1 f' (N + 1) (⟨gp, bn, bh, (stepD s o hdl).1⟩ :: r) ∧ kSP.R 90 w1 wr.heap.size (fun _ => True) (.slice A' (toS (stepD s o hdl).2.ps).length c') (toS (stepD s o hdl).2.ps) ∧ Kept wr w1 (fun k => k = bn ∨ k = bh) := by
  have hp := (h.pm ⟨gp, bn, bh, s⟩ (by simp)).1
  refine (do_c f N gp bn bh s.multi s.now s.held o A c hdl wr hp h.fro hO hh hN (h.came (m := ⟨gp, bn, bh, s⟩) (by simp) (Kd.heap_int _) hC (Below.refl _ _)) hw hn).mono ?_
  intro e w1 hD
  obtain ⟨A', c', he, hR, hL⟩ := DoPost.agg hD
  obtain ⟨f', hA⟩ := h.step (s' := (stepD s o hdl).1) hL (Nat.le_succ N)
  obtain ⟨_, _, _, _, hK⟩ := hL
  exact ⟨f', A', c', he, hA, hR, hK.kept⟩
theorem take_all {w wr : World} {f : Nat → Option PL} {N : Nat} {gp bn bh : Nat} {s : MS} {r : List Mod} (h : All w wr f N (⟨gp, bn, bh, s⟩ :: r)) (o : OpS) (a : AnS) (A B : Option Addr) (c d : Nat) (hO : OpWf o) (hN : N + 1 ≤ 1099511627776) (hC : Kd.C (Kd.int .u64) w A o.f6.length o.f6) (hw : ∀ k ∈ o.f6, u64wf k) (hn : o.f6.length ≤ 1099511627776)
    (hB : ∀ W', Kept wr W' (fun k => k = bn ∨ k = bh) → Kd.C k90 W' B a.f5.length a.f5) (hd : a.f5.length ≤ d) (hm : a.f5.length ≤ 4398046511104) (hu : u64wf a.f4) :
    Calls Try.prog 22 #[.pointer (some ⟨gp, 0, none⟩), .agg (opC o A c), anV a B d] wr fun e w1 => ∃ f', e = .returned (.bool (takeD s o a).2) ∧ All w w1 f' (N + 2) (⟨gp, bn, bh, (takeD s o a).1⟩ :: r) ∧ Kept wr w1 (fun k => k = bn ∨ k = bh) := by
  have hp := (h.pm ⟨gp, bn, bh, s⟩ (by simp)).1
  refine (take_c o a A B c d f N gp bn bh s.multi s.now s.held wr hp h.fro hN (h.came (m := ⟨gp, bn, bh, s⟩) (by simp) (Kd.heap_int _) hC (Below.refl _ _)) hw hn hB hd hm hO hu).mono ?_
  rintro e w1 ⟨he, hL⟩
  obtain ⟨f', hA⟩ := h.step (s' := (takeD s o a).1) hL (by omega)
  obtain ⟨_, _, _, _, hK⟩ := hL
  exact ⟨f', he, hA, hK.kept⟩
theorem fork_all {w wr : World} {f : Nat → Option PL} {N : Nat} {ms : List Mod} (h : All w wr f N ms) (gp bn bh : Nat) (s : MS) (hm : ⟨gp, bn, bh, s⟩ ∈ ms) (hN : N ≤ 1099511627776) :
    Calls Try.prog 30 #[.pointer (some ⟨gp, 0, none⟩)] wr fun e w1 => ∃ f' gq bm bi, e = .returned (.pointer (some ⟨gq, 0, none⟩)) ∧ All w w1 f' N (⟨gq, bm, bi, s⟩ :: ms) ∧ Below wr.heap.size wr w1 ∧ wr.heap.size ≤ gq ∧ wr.heap.size ≤ bm ∧ wr.heap.size ≤ bi := by
  have hp := (h.pm _ hm).1
  refine (fork_c f N gp bn bh s.multi s.now s.held wr hp h.fro hN).mono ?_
  rintro e w1 ⟨gq, bm, bi, he, f', hE, hP, hF, hB, h1, h2, h3⟩
  exact ⟨f', gq, bm, bi, he, h.fork hE hP hF hB h1 h2 h3, hB, h1, h2, h3⟩
theorem same_all {w wr : World} {f : Nat → Option PL} {N : Nat} {ms : List Mod} (h : All w wr f N ms) (gp bn bh gp2 bn2 bh2 : Nat) (s : MS) (h1 : ⟨gp, bn, bh, s⟩ ∈ ms) (h2 : ⟨gp2, bn2, bh2, s⟩ ∈ ms) :
    Calls Try.prog 31 #[.pointer (some ⟨gp, 0, none⟩), .pointer (some ⟨gp2, 0, none⟩)] wr fun e w1 => e = .returned (.bool true) ∧ All w w1 f N ms ∧ Below wr.heap.size wr w1 := by
  refine (same_c f N gp bn bh gp2 bn2 bh2 s.multi s.multi s.now s.now s.held s.held wr (h.pm _ h1).1 (h.pm _ h2).1 h.fro).mono ?_
  rintro e w1 ⟨he, hB⟩
  refine ⟨by rw [he]; simp [samB], h.below hB, hB⟩
/-- How much is told. -/
theorem told_len {w wr : World} {f : Nat → Option PL} {N : Nat} {ms : List Mod} (h : All w wr f N ms) (m : Mod) (hm : m ∈ ms) (o : OpS) (hdl : Int) : (stepD m.s o hdl).2.ps.length ≤ N + o.f6.length := by
  have hp := (h.pm m hm).1
  have hlen : ∀ k x, fnd m.s.held k = some x → x.length ≤ N := fun k x hx => by
    obtain ⟨b, hb⟩ := HeldN.blk hp.held (fnd_mem hx)
    exact (h.fro b x hb).len
  have hwi : ∀ lo hi x, (within lo hi x).length ≤ x.length := fun lo hi x => List.length_filter_le _ _
  have hok : ∀ x, (ofKeys x o.f6).length ≤ o.f6.length := fun x => by
    unfold ofKeys
    exact List.length_filterMap_le _ _
  by_cases h79 : 7 ≤ o.f0 ∧ o.f0 ≤ 9
  · rw [stepD_hdl m.s o hdl 0 (by omega)]
    have h1 : o.f0 ≠ 1 := by omega
    have h2 : o.f0 ≠ 2 := by omega
    have h3 : o.f0 ≠ 3 := by omega
    have h4 : o.f0 ≠ 4 := by omega
    have h5 : o.f0 ≠ 5 := by omega
    have h6 : o.f0 ≠ 6 := by omega
    unfold stepD
    rw [if_neg h1, if_neg h2, if_neg h3, if_neg h4, if_neg h5, if_neg h6]
    rcases (show o.f0 = 7 ∨ o.f0 = 8 ∨ o.f0 = 9 by omega) with e | e | e
    · rw [if_pos e]
      split
      · simp [errD]
      · cases hx : fnd m.s.held o.f4 with
        | none => simp [errD]
        | some x => have := hok x; show (ofKeys x o.f6).length ≤ _; omega
    · rw [if_neg (by omega), if_pos e]
      cases hx : fnd m.s.held o.f4 with
      | none => simp [errD]
      | some x => have := hwi o.f7 o.f8 x; have := hlen _ _ hx; show (within o.f7 o.f8 x).length ≤ _; omega
    · rw [if_neg (by omega), if_neg (by omega), if_pos e]
      cases hx : fnd m.s.held o.f4 with
      | none => simp [errD]
      | some x => simp
  · by_cases h5 : o.f0 = 5
    · have e : (stepD m.s o hdl).2 = snapD hdl m.s.held := by unfold stepD; simp [h5]
      rw [e]
      unfold snapD
      split <;> simp [errD]
    · rw [stepD_hdl m.s o hdl 0 h5, ps_len _ _ h79]; simp
end Go.Proofs.Ytngocadnbpdnoaa.Mo
namespace Go.Proofs.Ytngocadnbpdnoaa.Mo
open Go Go.Maps Go.RowKit Go.Proofs.Ytngocadnbpdnoaa.Srt Go.Proofs.Ytngocadnbpdnoaa.Q Go.Proofs.YtngocadnbpdnoaaW.PrintWords Go.Proofs.YtngocadnbpdnoaaW.PrintLast Go.Proofs.YtngocadnbpdnoaaW.PrintMore
set_option linter.unusedVariables false
set_option linter.unusedSimpArgs false
theorem rdA_get {xs : List AnS} {i : Nat} (h : i < xs.length) : rd_T26 xs (i : Int) = xs[i] := by
  unfold rd_T26
  simp [List.getD_eq_getElem?_getD, h]
theorem runD_held0 (l : List CallS) : ∀ s : MS, fnd s.held 0 = none → fnd (runD s l).held 0 = none := by
  induction l with
  | nil => exact fun s h => h
  | cons c l ih => exact fun s h => ih _ (stepD_held0 h)
theorem told_h (s : MS) (o : OpS) (hdl : Int) (hh : u64wf hdl) : u64wf (stepD s o hdl).2.h := by
  have h0 : u64wf 0 := by unfold u64wf; decide
  by_cases h5 : o.f0 = 5
  · have e : (stepD s o hdl).2 = snapD hdl s.held := by unfold stepD; simp [h5]
    rw [e]
    unfold snapD
    split
    · exact h0
    · exact hh
  · have e : (stepD s o hdl).2.h = 0 := by
      unfold stepD
      simp only [h5, if_false]
      repeat' split
      all_goals first | rfl | simp [foundD, errD]
    rw [e]; exact h0
/-- What the law needs of what Do tells. -/
structure Told (s : MS) (o : OpS) (s1 : MS) (D : AnsD) : Prop where
  take : takeD s o (ansS D) = (s1, true)
  err : D.e ≠ 0 → s1 = s
  other : ∀ x, o.f0 ≠ 5 → o.f0 ≠ 10 → anEq x (ansS D) = false → (takeD s o x).1 = s ∧ ((takeD s o x).2 = true → x.f0 = 30 ∨ x.f0 = 34)
theorem told (s : MS) (o : OpS) (hdl : Int) (hn : ¬ (o.f0 = 5 ∧ hdl = 0)) : Told s o (stepD s o hdl).1 (stepD s o hdl).2 := ⟨take_do hn, fun h => stepD_err h, fun x h5 h10 hx => take_other h5 h10 hx⟩
theorem kept_drew {w W : World} {S : Nat → Prop} (h : Kept w.drew W S) : Kept w W S := h
theorem Kd.C_empty {α : Type} {d : Kd α} {w : World} {A : Option Addr} (h : d.C w A ([] : List α).length []) (W : World) : d.C W A ([] : List α).length [] := by
  refine ⟨rfl, by simp, fun h => absurd h (Nat.lt_irrefl 0)⟩
set_option maxRecDepth 100000 in
set_option maxHeartbeats 32000000 in
theorem takes_law (w : World) (A : Option Addr) (c : Nat) (l : List CallS) (hC0 : Kd.C kCall w A l.length l) (hc : l.length ≤ c) (hwf : ∀ x ∈ l, wfC x) (o : OpS) (Ao : Option Addr) (co : Nat) (hCo : Kd.C (Kd.int .u64) w Ao o.f6.length o.f6) (hwo : wfO o) (hdl : Int) (hh : u64wf hdl)
    (B : Option Addr) (d : Nat) (xs : List AnS) (hX0 : Kd.C k26 w B xs.length xs) (hd : xs.length ≤ d) (hwx : ∀ x ∈ xs, wfA x) (hn : l.length ≤ 1048576) (hn2 : xs.length ≤ 1048576) (hkl : ∀ x ∈ l, x.op.f6.length ≤ 1048576) (hko : o.f6.length ≤ 1048576) (hkx : ∀ x ∈ xs, x.f5.length ≤ 1048576) :
    Calls Try.prog 7 #[.agg #[.slice A l.length c, .int .u8 o.f0, .int .u64 o.f1, .int .u64 o.f2, .int .u64 o.f3, .int .u64 o.f4, .bool o.f5.f0, .int .i64 o.f5.f1, .int .i64 o.f5.f2, .slice Ao o.f6.length co, .int .u64 o.f7, .int .u64 o.f8, .int .u64 hdl, .slice B xs.length d]] w fun e w' => e = .returned (.bool true) ∧ Below w.heap.size w w' := by
  have HC0 := Lib.hid hC0
  have HCo := Lib.hid hCo
  have HX0 := Lib.hid hX0
  have HWF := Lib.hid hwf
  have HWO := Lib.hid hwo
  have HWX := Lib.hid hwx
  have HU := Lib.hid hh
  have HKL := Lib.hid hkl
  have HKX := Lib.hid hkx
  clear hC0 hCo hX0 hwf hwo hwx hh hkl hkx
  go_enter Try.func7, Try.ntmps7
  go_upto_region 1 with fail
  have hbx := below_alloc (Below.refl _ w) (.cells #[.slice A l.length c, .int .u8 o.f0, .int .u64 o.f1, .int .u64 o.f2, .int .u64 o.f3, .int .u64 o.f4, .bool o.f5.f0, .int .i64 o.f5.f1, .int .i64 o.f5.f2, .slice Ao o.f6.length co, .int .u64 o.f7, .int .u64 o.f8, .int .u64 hdl, .slice B xs.length d] 84)
  have hnx := heap_alloc_new w (.cells #[.slice A l.length c, .int .u8 o.f0, .int .u64 o.f1, .int .u64 o.f2, .int .u64 o.f3, .int .u64 o.f4, .bool o.f5.f0, .int .i64 o.f5.f1, .int .i64 o.f5.f2, .slice Ao o.f6.length co, .int .u64 o.f7, .int .u64 o.f8, .int .u64 hdl, .slice B xs.length d] 84)
  obtain ⟨W0, hW0⟩ : ∃ W0, W0 = w.alloc (.cells #[.slice A l.length c, .int .u8 o.f0, .int .u64 o.f1, .int .u64 o.f2, .int .u64 o.f3, .int .u64 o.f4, .bool o.f5.f0, .int .i64 o.f5.f1, .int .i64 o.f5.f2, .slice Ao o.f6.length co, .int .u64 o.f7, .int .u64 o.f8, .int .u64 hdl, .slice B xs.length d] 84) := ⟨_, rfl⟩
  rw [← hW0] at hbx hnx ⊢
  clear hW0
  have HBX := Lib.hid hbx
  have HNX := Lib.hid hnx
  clear hbx hnx
  go_upto_region 3 with (go_at_call 11; refine (live_c W0).mono ?_; rintro e w0 ⟨rfl, hB0⟩; replace HNX := Lib.hid (blk_below HNX.out hB0); replace HBX := Lib.hid (HBX.out.trans (hB0.mono HBX.out.size)); clear hB0)
  have hcs : ∀ j u, #[.slice A l.length c, .int .u8 o.f0, .int .u64 o.f1, .int .u64 o.f2, .int .u64 o.f3, .int .u64 o.f4, .bool o.f5.f0, .int .i64 o.f5.f1, .int .i64 o.f5.f2, .slice Ao o.f6.length co, .int .u64 o.f7, .int .u64 o.f8, .int .u64 hdl, .slice B xs.length d][j]? = some u → w0.cell? ⟨w.heap.size, j, none⟩ = some u := fun j u hj => by rw [blk_cell HNX.out]; exact hj
  have hc0 := hcs 0 _ rfl
  have hc1 := hcs 1 _ rfl
  have hc2 := hcs 2 _ rfl
  have hc3 := hcs 3 _ rfl
  have hc4 := hcs 4 _ rfl
  have hc5 := hcs 5 _ rfl
  have hc6 := hcs 6 _ rfl
  have hc7 := hcs 7 _ rfl
  have hc8 := hcs 8 _ rfl
  have hc9 := hcs 9 _ rfl
  have hc10 := hcs 10 _ rfl
  have hc11 := hcs 11 _ rfl
  have hc12 := hcs 12 _ rfl
  have hc13 := hcs 13 _ rfl
  clear hcs
  have hzl : w.heap.size < w0.heap.size := blk_lt HNX.out
  go_upto_region 7 with fail
  clear hc0 hc1 hc2 hc3 hc4 hc5 hc6 hc7 hc8 hc9 hc10 hc11 hc12 hc13
  have hb1 := below_alloc (Below.refl _ w0) (.cells (opC o Ao co) 39)
  have hn1 := heap_alloc_new w0 (.cells (opC o Ao co) 39)
  change Code.wp _ _ _ _ (w0.alloc (.cells (opC o Ao co) 39))
  obtain ⟨W1, hW1⟩ : ∃ W1, W1 = w0.alloc (.cells (opC o Ao co) 39) := ⟨_, rfl⟩
  rw [← hW1] at hb1 hn1 ⊢
  clear hW1
  obtain ⟨g4, hg4⟩ : ∃ g4, g4 = w0.heap.size := ⟨_, rfl⟩
  rw [← hg4] at hn1 ⊢
  have hg4w : w.heap.size ≤ g4 := by have := HBX.out.size; omega
  have hg4l : g4 < W1.heap.size := blk_lt hn1
  replace HBX := Lib.hid (HBX.out.trans (hb1.mono HBX.out.size))
  have HN1 := Lib.hid hn1
  clear HNX hb1 hn1 hg4
  go_upto_region 8 with (go_at_call 14; refine (new_c 3 (fun _ => none) W1 (fro_none W1 0) (by omega) (by omega)).mono ?_; rintro e w1 ⟨gp, bn, bh, rfl, hP1, hB1, hg1, hg2, hg3⟩; replace HN1 := Lib.hid (blk_below HN1.out hB1); have HT0 : Hid (One w w1 (fun _ => none) 0 gp bn bh ⟨3, [], []⟩) := Lib.hid ⟨hP1, fro_none w1 0, (KO.of_below HBX.out _).below hB1⟩; clear hP1 hB1)
  have hs0 := HBX.out.size
  have hle1 : w.heap.size ≤ bn ∧ w.heap.size ≤ bh := by omega
  clear HBX
  go_wp2_with fail
  go_loopw [9] (fun v9 wr => ∃ (i : Nat) (f : Nat → Option PL), v9 = .int .i64 i ∧ i ≤ l.length ∧ Hid (One w wr f i gp bn bh (runD ⟨3, [], []⟩ (l.take i))) ∧ Hid (wr.heap[g4]? = some (.cells (opC o Ao co) 39 (0, 0))))
    (fun v9 _ => l.length - (intOf v9).toNat)
  case atStart => exact ⟨0, _, rfl, Nat.zero_le _, HT0, HN1⟩
  case round =>
    obtain ⟨i, f, rfl, hi, HT, HG4⟩ := hrel
    by_cases hlt : i < l.length
    · obtain ⟨ad, A1, c1, B1, d1, rfl, hcell0, g1, hd1, g2⟩ := at_call HC0.out i hlt hlt
      obtain ⟨x, hx⟩ : ∃ x, x = l[i] := ⟨_, rfl⟩
      rw [← hx] at hcell0 g1 hd1 g2
      have HX := Lib.hid hx
      have HWX : Hid (wfC x) := Lib.hid (by rw [hx]; exact HWF.out _ (List.getElem_mem hlt))
      have hkn : x.op.f6.length ≤ 1099511627776 := by have := HKL.out x (by rw [HX.out]; exact List.getElem_mem hlt); omega
      have HKC : Hid (∀ W', Kept wr.drew W' (fun k => k = bn ∨ k = bh) → Kd.C (Kd.int .u64) W' A1 x.op.f6.length x.op.f6) := Lib.hid (fun W' hk => Kd.Heap.C (Kd.heap_int _) (fun k hlt2 => (hk.2 k (Nat.lt_of_lt_of_le hlt2 HT.out.ko.kept.1) (by omega)).trans (HT.out.ko.kept.2 k hlt2 (fun e => e))) g1)
      have HCELL0 := Lib.hid hcell0
      clear hx hcell0
      go_wp2_with fail
      have HSG : ∀ W' : World, Kept w W' (fun _ => False) → (fun w' : World => w'.cell? ⟨(ad.add (i * 20)).block, (ad.add (i * 20)).off + 1, none⟩ = some (.int .u8 x.op.f0) ∧ w'.cell? ⟨(ad.add (i * 20)).block, (ad.add (i * 20)).off + 1 + 1, none⟩ = some (.int .u64 x.op.f1) ∧ w'.cell? ⟨(ad.add (i * 20)).block, (ad.add (i * 20)).off + 1 + 2, none⟩ = some (.int .u64 x.op.f2) ∧ w'.cell? ⟨(ad.add (i * 20)).block, (ad.add (i * 20)).off + 1 + 3, none⟩ = some (.int .u64 x.op.f3) ∧ w'.cell? ⟨(ad.add (i * 20)).block, (ad.add (i * 20)).off + 1 + 4, none⟩ = some (.int .u64 x.op.f4) ∧ w'.cell? ⟨(ad.add (i * 20)).block, (ad.add (i * 20)).off + 1 + 5, none⟩ = some (.bool x.op.f5.f0) ∧ w'.cell? ⟨(ad.add (i * 20)).block, (ad.add (i * 20)).off + 1 + 6, none⟩ = some (.int .i64 x.op.f5.f1) ∧ w'.cell? ⟨(ad.add (i * 20)).block, (ad.add (i * 20)).off + 1 + 7, none⟩ = some (.int .i64 x.op.f5.f2) ∧ w'.cell? ⟨(ad.add (i * 20)).block, (ad.add (i * 20)).off + 1 + 8, none⟩ = some (.slice A1 x.op.f6.length c1) ∧ w'.cell? ⟨(ad.add (i * 20)).block, (ad.add (i * 20)).off + 1 + 9, none⟩ = some (.int .u64 x.op.f7) ∧ w'.cell? ⟨(ad.add (i * 20)).block, (ad.add (i * 20)).off + 1 + 10, none⟩ = some (.int .u64 x.op.f8) ∧ w'.cell? ⟨(ad.add (i * 20)).block, (ad.add (i * 20)).off + 19, none⟩ = some (.int .u64 x.hd)) W' := fun W' hk => by
        have hcell := fun j u hj => cell_kept (HCELL0.out j u hj) hk (fun e => e)
        exact ⟨by rw [← add_field _ _ 1 (by omega)]; exact hcell 1 _ rfl, by rw [Nat.add_assoc, ← add_field _ _ 2 (by omega)]; exact hcell 2 _ rfl, by rw [Nat.add_assoc, ← add_field _ _ 3 (by omega)]; exact hcell 3 _ rfl, by rw [Nat.add_assoc, ← add_field _ _ 4 (by omega)]; exact hcell 4 _ rfl, by rw [Nat.add_assoc, ← add_field _ _ 5 (by omega)]; exact hcell 5 _ rfl, by rw [Nat.add_assoc, ← add_field _ _ 6 (by omega)]; exact hcell 6 _ rfl, by rw [Nat.add_assoc, ← add_field _ _ 7 (by omega)]; exact hcell 7 _ rfl, by rw [Nat.add_assoc, ← add_field _ _ 8 (by omega)]; exact hcell 8 _ rfl, by rw [Nat.add_assoc, ← add_field _ _ 9 (by omega)]; exact hcell 9 _ rfl, by rw [Nat.add_assoc, ← add_field _ _ 10 (by omega)]; exact hcell 10 _ rfl, by rw [Nat.add_assoc, ← add_field _ _ 11 (by omega)]; exact hcell 11 _ rfl, by rw [← add_field _ _ 19 (by omega)]; exact hcell 19 _ rfl⟩
      have HSS := HSG wr HT.out.ko.kept
      go_region_held3 (fun w' : World => w'.cell? ⟨(ad.add (i * 20)).block, (ad.add (i * 20)).off + 1, none⟩ = some (.int .u8 x.op.f0) ∧ w'.cell? ⟨(ad.add (i * 20)).block, (ad.add (i * 20)).off + 1 + 1, none⟩ = some (.int .u64 x.op.f1) ∧ w'.cell? ⟨(ad.add (i * 20)).block, (ad.add (i * 20)).off + 1 + 2, none⟩ = some (.int .u64 x.op.f2) ∧ w'.cell? ⟨(ad.add (i * 20)).block, (ad.add (i * 20)).off + 1 + 3, none⟩ = some (.int .u64 x.op.f3) ∧ w'.cell? ⟨(ad.add (i * 20)).block, (ad.add (i * 20)).off + 1 + 4, none⟩ = some (.int .u64 x.op.f4) ∧ w'.cell? ⟨(ad.add (i * 20)).block, (ad.add (i * 20)).off + 1 + 5, none⟩ = some (.bool x.op.f5.f0) ∧ w'.cell? ⟨(ad.add (i * 20)).block, (ad.add (i * 20)).off + 1 + 6, none⟩ = some (.int .i64 x.op.f5.f1) ∧ w'.cell? ⟨(ad.add (i * 20)).block, (ad.add (i * 20)).off + 1 + 7, none⟩ = some (.int .i64 x.op.f5.f2) ∧ w'.cell? ⟨(ad.add (i * 20)).block, (ad.add (i * 20)).off + 1 + 8, none⟩ = some (.slice A1 x.op.f6.length c1) ∧ w'.cell? ⟨(ad.add (i * 20)).block, (ad.add (i * 20)).off + 1 + 9, none⟩ = some (.int .u64 x.op.f7) ∧ w'.cell? ⟨(ad.add (i * 20)).block, (ad.add (i * 20)).off + 1 + 10, none⟩ = some (.int .u64 x.op.f8) ∧ w'.cell? ⟨(ad.add (i * 20)).block, (ad.add (i * 20)).off + 19, none⟩ = some (.int .u64 x.hd))
        (first | go_keep | exact HSS | exact HSS3)
        ((go_at_call 15
          have hD := Lib.hid (HT.out.below (below_drew (Below.refl _ wr)))
          refine (do_c f i gp bn bh _ _ _ x.op A1 c1 x.hd wr.drew hD.out.pm hD.out.fro ⟨HWX.out.2.1.2.1, HWX.out.2.1.2.2.1, HWX.out.2.1.2.2.2.2.1⟩ HWX.out.2.2.2 (by omega) HKC.out HWX.out.2.1.2.2.2.2.2.2.1 hkn).mono ?_
          rintro e w3 ⟨v, rfl, -, hL⟩
          obtain ⟨f', hT'⟩ := hD.out.step hL hle1.1 hle1.2
          have HK' : Hid (Kept wr.drew w3 (fun k => k = bn ∨ k = bh)) := Lib.hid (by obtain ⟨_, _, _, _, hK⟩ := hL; exact hK.kept)
          have HT' := Lib.hid hT'
          have HSS3 := HSG w3 HT'.out.ko.kept
          clear hT' hL hD))
      clear HSS HSG
      go_wp2_with fail
      go_roundw
      case rel => exact ⟨i + 1, f', by go_num, by omega, Lib.hid (by rw [runD_succ _ l i hlt, ← HX.out]; exact HT'.out), Lib.hid (blk_kept HG4.out (kept_drew HK'.out) (by omega))⟩
      case measure => simp [intOf]; omega
    · obtain rfl : i = l.length := by omega
      have hT1 := HT.out
      rw [List.take_length] at hT1
      obtain ⟨s, hs⟩ : ∃ s, s = runD ⟨3, [], []⟩ l := ⟨_, rfl⟩
      rw [← hs] at hT1
      have HS0 : Hid (fnd s.held 0 = none) := Lib.hid (by rw [hs]; exact runD_held0 l _ rfl)
      have HA1 := Lib.hid (All.one hT1 (by omega) hle1.1 hle1.2)
      clear HT HT0 hT1 hs HN1
      have hlb : bn < wr.heap.size ∧ bh < wr.heap.size := ⟨(HA1.out.pm ⟨gp, bn, bh, s⟩ (by simp)).1.now.lt, (HA1.out.pm ⟨gp, bn, bh, s⟩ (by simp)).1.held.1.lt⟩
      have hg4r := blk_lt HG4.out
      go_upto_region 13 with (go_at_call 30; refine (fork_all HA1.out gp bn bh s (by simp) (by omega)).mono ?_; rintro e w4 ⟨f4, ga, na, ha, rfl, hA4, hB4, ha1, ha2, ha3⟩; replace HG4 := Lib.hid (blk_below HG4.out hB4); have HA4 := Lib.hid hA4; have hz4 := hB4.size; clear hA4 hB4)
      clear HA1
      go_upto_region 14 with (go_at_call 30; refine (fork_all HA4.out gp bn bh s (by simp) (by omega)).mono ?_; rintro e w5 ⟨f5, gw, nw, hw, rfl, hA5, hB5, hw1, hw2, hw3⟩; replace HG4 := Lib.hid (blk_below HG4.out hB5); have HA5 := Lib.hid (hA5.rot); have hz5 := hB5.size; clear hA5 hB5)
      clear HA4
      simp only [List.cons_append, List.nil_append] at HA5
      have hla : na < w5.heap.size ∧ ha < w5.heap.size := ⟨(HA5.out.pm ⟨ga, na, ha, s⟩ (by simp)).1.now.lt, (HA5.out.pm ⟨ga, na, ha, s⟩ (by simp)).1.held.1.lt⟩
      have hlw : nw < w5.heap.size ∧ hw < w5.heap.size := ⟨(HA5.out.pm ⟨gw, nw, hw, s⟩ (by simp)).1.now.lt, (HA5.out.pm ⟨gw, nw, hw, s⟩ (by simp)).1.held.1.lt⟩
      obtain ⟨k0, k1, k2, k3, k4, k5, k6, k7, k8, k9, k10⟩ := op_cells HG4.out
      by_cases h50 : o.f0 = 5 ∧ hdl = 0
      · obtain ⟨h5, hz⟩ := h50
        have HSN := Lib.hid (snap0 (s := s) h5 HS0.out)
        have HTK := Lib.hid (take_snap0 (s := s) h5 HS0.out)
        have d5 : (o.f0 == 5) = true := by rw [h5]; rfl
        clear h5
        subst hz
        go_upto_region 15 with (go_at_call 15; refine (do_all HA5.out o Ao co 0 ⟨HWO.out.2.1, HWO.out.2.2.1, HWO.out.2.2.2.2.1⟩ HU.out (by omega) HCo.out HWO.out.2.2.2.2.2.2.1 (by omega)).mono ?_; rw [HSN.out]; rintro e w7 ⟨f7, A7, c7, rfl, hA7, hR7, hK7⟩; replace HG4 := Lib.hid (blk_kept HG4.out hK7 (by omega)); have HA7 := Lib.hid hA7; have HR7 := Lib.hid hR7; have hz7 := hK7.1; clear hA7 hR7 hK7)
        have hb7 := below_alloc (Below.refl _ w7) (.cells #[.int .i64 0, .bool false, .int .u64 0, .bool false, .int .u64 0, .slice A7 (toS []).length c7, .int .u64 0] 26)
        have hn7 := heap_alloc_new w7 (.cells #[.int .i64 0, .bool false, .int .u64 0, .bool false, .int .u64 0, .slice A7 (toS []).length c7, .int .u64 0] 26)
        obtain ⟨W7, hW7⟩ : ∃ W7, W7 = w7.alloc (.cells #[.int .i64 0, .bool false, .int .u64 0, .bool false, .int .u64 0, .slice A7 (toS []).length c7, .int .u64 0] 26) := ⟨_, rfl⟩
        rw [← hW7] at hb7 hn7 ⊢
        clear hW7 k0 k1 k2 k3 k4 k5 k6 k7 k8 k9 k10
        obtain ⟨gt, hgt⟩ : ∃ gt, gt = w7.heap.size := ⟨_, rfl⟩
        rw [← hgt] at hn7 ⊢
        replace HG4 := Lib.hid (blk_below HG4.out hb7)
        replace HA7 := Lib.hid (HA7.out.below hb7)
        replace HR7 := Lib.hid (Kd.R_below HR7.out hb7)
        have HN7 := Lib.hid hn7
        clear hb7 hn7 hgt
        obtain ⟨k0, k1, k2, k3, k4, k5, k6, k7, k8, k9, k10⟩ := op_cells HG4.out
        obtain ⟨t0, t1, t2, t3, t4, t5, t6⟩ := ans_cells (e := 0) (fo := false) (v := 0) (dn := false) (hd := 0) (ps := .slice A7 (toS []).length c7) (c := 0) HN7.out
        have hok : (o.f0 == 5) = true := d5
        go_upto_region 18 with fail
        go_wp2_with (first
          | (go_at_call 31; refine (same_all HA7.out ga na ha gp bn bh s (by simp) (by simp)).mono ?_; rintro e w8 ⟨rfl, hA8, hB8⟩; have HA8 := Lib.hid (hA8.rot); have HG8 := Lib.hid (blk_below HG4.out hB8); have HN8 := Lib.hid (blk_below HN7.out hB8); have HR8 := Lib.hid (Kd.R_below HR7.out hB8); obtain ⟨q0, q1, q2, q3, q4, q5, q6, q7, q8, q9, q10⟩ := op_cells HG8.out; obtain ⟨u0, u1, u2, u3, u4, u5, u6⟩ := ans_cells (e := 0) (fo := false) (v := 0) (dn := false) (hd := 0) (ps := .slice A7 (toS []).length c7) (c := 0) HN8.out; clear hA8 hB8)
          | (go_at_call 22; refine (take_all HA8.out o (ansS ⟨0, false, 0, false, 0, [], 0⟩) Ao A7 co c7 ⟨HWO.out.2.1, HWO.out.2.2.1, HWO.out.2.2.2.2.1⟩ (by omega) HCo.out HWO.out.2.2.2.2.2.2.1 (by omega) (fun W' _ => Kd.C_empty (Kd.R_reads' HR8.out).2.2 W') (Nat.zero_le _) (by simp [ansS, toS]) (by show u64wf 0; unfold u64wf; decide)).mono ?_; rw [HTK.out]; rintro e w9 ⟨f9, rfl, hA9, -⟩; have HA9 := Lib.hid hA9; clear hA9))
        go_ret
        exact ⟨rfl, HA9.out.ko.below_of (fun _ e => e.elim)⟩
      · obtain ⟨D, hD⟩ : ∃ D, D = (stepD s o hdl).2 := ⟨_, rfl⟩
        obtain ⟨s1, hs1⟩ : ∃ s1, s1 = (stepD s o hdl).1 := ⟨_, rfl⟩
        have hTD := told s o hdl h50
        have hDl := told_len HA5.out ⟨ga, na, ha, s⟩ (by simp) o hdl
        have hDh := told_h s o hdl HU.out
        rw [← hD, ← hs1] at hTD
        replace hDl : D.ps.length ≤ l.length + o.f6.length := by rw [hD]; exact hDl
        rw [← hD] at hDh
        have HTD := Lib.hid hTD
        have HDH := Lib.hid hDh
        have HDD := Lib.hid hD
        have HS1 := Lib.hid hs1
        have hcase : ((o.f0 == 5) = false) ∨ ((o.f0 == 5) = true ∧ (hdl == 0) = false) := by
          cases hq : (o.f0 == 5) with
          | false => exact .inl rfl
          | true =>
            refine .inr ⟨rfl, ?_⟩
            rw [beq_eq_false_iff_ne]
            intro e
            exact h50 ⟨beq_iff_eq.1 hq, e⟩
        clear hTD hD hs1 hDh h50
        go_upto_region 15 with (go_at_call 15; refine (do_all HA5.out o Ao co hdl ⟨HWO.out.2.1, HWO.out.2.2.1, HWO.out.2.2.2.2.1⟩ HU.out (by omega) HCo.out HWO.out.2.2.2.2.2.2.1 (by omega)).mono ?_; rw [← HDD.out, ← HS1.out]; rintro e w7 ⟨f7, A7, c7, rfl, hA7, hR7, hK7⟩; replace HG4 := Lib.hid (blk_kept HG4.out hK7 (by omega)); have HA7 := Lib.hid hA7; have HR7 := Lib.hid (Kd.R_mono (ok' := fun k => w5.heap.size ≤ k ∧ k < w7.heap.size) (Kd.R_bound hR7) (fun k hk => ⟨hk.2.1, hk.2.2.1⟩)); have hz7 := hK7.1; clear hA7 hR7 hK7)
        have hb7 := below_alloc (Below.refl _ w7) (.cells #[.int .i64 D.e, .bool D.fo, .int .u64 D.v, .bool D.dn, .int .u64 D.h, .slice A7 (toS D.ps).length c7, .int .u64 D.c] 26)
        have hn7 := heap_alloc_new w7 (.cells #[.int .i64 D.e, .bool D.fo, .int .u64 D.v, .bool D.dn, .int .u64 D.h, .slice A7 (toS D.ps).length c7, .int .u64 D.c] 26)
        obtain ⟨W7, hW7⟩ : ∃ W7, W7 = w7.alloc (.cells #[.int .i64 D.e, .bool D.fo, .int .u64 D.v, .bool D.dn, .int .u64 D.h, .slice A7 (toS D.ps).length c7, .int .u64 D.c] 26) := ⟨_, rfl⟩
        rw [← hW7] at hb7 hn7 ⊢
        clear hW7 k0 k1 k2 k3 k4 k5 k6 k7 k8 k9 k10
        obtain ⟨gt, hgt⟩ : ∃ gt, gt = w7.heap.size := ⟨_, rfl⟩
        rw [← hgt] at hn7 HR7 ⊢
        have hgt2 : w5.heap.size ≤ gt := by omega
        have hgt3 : gt < W7.heap.size := blk_lt hn7
        replace HG4 := Lib.hid (blk_below HG4.out hb7)
        replace HA7 := Lib.hid (HA7.out.below hb7)
        replace HR7 := Lib.hid (Kd.R_below HR7.out hb7)
        have HN7 := Lib.hid hn7
        clear hb7 hn7 hgt
        obtain ⟨t0, t1, t2, t3, t4, t5, t6⟩ := ans_cells (e := D.e) (fo := D.fo) (v := D.v) (dn := D.dn) (hd := D.h) (ps := .slice A7 (toS D.ps).length c7) (c := D.c) HN7.out
        clear t1 t2 t3 t4 t5 t6
        obtain ⟨tp, htp⟩ : ∃ tp, tp = W7.heap.size := ⟨_, rfl⟩
        have htp2 : gt < tp := by omega
        have HW8 : ∃ w8, Hid (All w w8 f7 (l.length + 1) [⟨ga, na, ha, s1⟩, ⟨gp, bn, bh, s⟩, ⟨gw, nw, hw, s⟩]) := ⟨_, HA7⟩
        clear HW8
        rcases (show (D.e != 0) = true ∨ (D.e != 0) = false by cases (D.e != 0) <;> simp) with he | he
        · have HE : Hid (s1 = s) := Lib.hid (HTD.out.err (by simpa using he))
          go_upto_region 17 with (go_at_call 31; refine (same_all HA7.out ga na ha gp bn bh s (by rw [HE.out]; simp) (by simp)).mono ?_; rintro e w8 ⟨rfl, hA8, hB8⟩; replace HA7 := Lib.hid hA8; replace HG4 := Lib.hid (blk_below HG4.out hB8); replace HN7 := Lib.hid (blk_below HN7.out hB8); replace HR7 := Lib.hid (Kd.R_below HR7.out hB8); have hz8 : tp ≤ w8.heap.size := (by have := hB8.size; omega); clear hA8 hB8)
          clear t0 HE
          clear htp hgt3
          obtain ⟨k0, k1, k2, k3, k4, k5, k6, k7, k8, k9, k10⟩ := op_cells HG4.out
          clear k1 k2 k3 k4 k5 k6 k7 k8 k9 k10
          rcases hcase with q5 | ⟨q5, q0⟩
          all_goals
            go_upto_region 20 with (go_at_call 30; refine (fork_all HA7.out gp bn bh s (by simp) (by omega)).mono ?_; rintro e w9 ⟨f9, gb, nb, hbb, rfl, hA9, hB9, hb1, hb2, hb3⟩; replace HA7 := Lib.hid hA9; replace HG4 := Lib.hid (blk_below HG4.out hB9); replace HN7 := Lib.hid (blk_below HN7.out hB9); replace HR7 := Lib.hid (Kd.R_below HR7.out hB9); clear hA9 hB9)
            clear k0
            obtain ⟨k0, k1, k2, k3, k4, k5, k6, k7, k8, k9, k10⟩ := op_cells HG4.out
            obtain ⟨t0, t1, t2, t3, t4, t5, t6⟩ := ans_cells (e := D.e) (fo := D.fo) (v := D.v) (dn := D.dn) (hd := D.h) (ps := .slice A7 (toS D.ps).length c7) (c := D.c) HN7.out
            go_upto_region 22 with (first
              | (go_at_call 22; refine (take_all HA7.out o (ansS D) Ao A7 co c7 ⟨HWO.out.2.1, HWO.out.2.2.1, HWO.out.2.2.2.2.1⟩ (by omega) HCo.out HWO.out.2.2.2.2.2.2.1 (by omega) (fun W' hk => (Kd.R_reads' (Kd.R_kept HR7.out hk (fun k hk2 e => by omega))).2.2) (Kd.R_reads' HR7.out).2.1 (by simp only [ansS, toS_length]; omega) HDH.out).mono ?_; rw [HTD.out.take]; rintro e w10 ⟨f10, rfl, hA10, hK10⟩; have HA10 := Lib.hid hA10; have HG10 := Lib.hid (blk_kept HG4.out hK10 (by omega)); have HN10 := Lib.hid (blk_kept HN7.out hK10 (by omega)); have HR10 := Lib.hid (Kd.R_kept HR7.out hK10 (fun k hk2 e => by omega)); clear hA10 hK10)
              | (go_at_call 31; have hSm := same_all HA10.out ga na ha gb nb hbb s1 (by simp) (by simp); (with_reducible refine hSm.mono ?_); clear hSm; rintro e w11 ⟨rfl, hA11, hB11⟩; have HA11 := Lib.hid hA11; have HG11 := Lib.hid (blk_below HG10.out hB11); have HN11 := Lib.hid (blk_below HN10.out hB11); have HR11 := Lib.hid (Kd.R_below HR10.out hB11); clear hA11 hB11)
              | (go_at_call 31; have hSm := same_all HA11.out gp bn bh gw nw hw s (by simp) (by simp); (with_reducible refine hSm.mono ?_); clear hSm; rintro e w12 ⟨rfl, hA12, hB12⟩; have HA12 : Hid (All w w12 f10 (l.length + 1 + 2) [⟨gp, bn, bh, s⟩, ⟨gw, nw, hw, s⟩, ⟨gb, nb, hbb, s1⟩, ⟨ga, na, ha, s1⟩]) := Lib.hid (hA12.rot.rot); have HG12 := Lib.hid (blk_below HG11.out hB12); have HN12 := Lib.hid (blk_below HN11.out hB12); have HR12 := Lib.hid (Kd.R_below HR11.out hB12); clear hA12 hB12))
            clear HA7 HG4 HN7 HR7 HA10 HG10 HN10 HR10 HA11 HG11 HN11 HR11 HA5 k0 k1 k2 k3 k4 k5 k6 k7 k8 k9 k10 t0 t1 t2 t3 t4 t5 t6
            try clear q0
            go_wp2_with fail
            go_loopw [14, 15] (fun v14 _ wr => ∃ (i : Nat) (f : Nat → Option PL), v14 = .int .i64 i ∧ i ≤ xs.length ∧ Hid (All w wr f (l.length + 1 + 2 + 2 * i) [⟨gp, bn, bh, s⟩, ⟨gw, nw, hw, s⟩, ⟨gb, nb, hbb, s1⟩, ⟨ga, na, ha, s1⟩]) ∧ Hid (wr.heap[g4]? = some (.cells (opC o Ao co) 39 (0, 0))) ∧ Hid (wr.heap[gt]? = some (.cells (ansC D.e D.fo D.v D.dn D.h (.slice A7 (toS D.ps).length c7) D.c) 26 (0, 0))) ∧ Hid (kSP.R 90 wr w5.heap.size (fun k => w5.heap.size ≤ k ∧ k < gt) (.slice A7 (toS D.ps).length c7) (toS D.ps)))
              (fun v14 _ _ => xs.length - (intOf v14).toNat)
            case atStart => exact ⟨0, _, rfl, Nat.zero_le _, HA12, HG12, HN12, HR12⟩
            case round =>
              obtain ⟨i, f, rfl, hi, HA, HG, HN, HR⟩ := hrel
              by_cases hlt3 : i < xs.length
              · obtain ⟨x, hx⟩ : ∃ x, x = xs[i] := ⟨_, rfl⟩
                obtain ⟨adx, A5, c5, rfl, y0, y1, y2, y3, y4, y5, y6, hy7, hy8⟩ := at_T26 HX0.out (i : Int) (by omega) (by omega)
                simp only [Int.toNat_natCast] at y0 y1 y2 y3 y4 y5 y6 hy7 hy8
                rw [rdA_get hlt3, ← hx] at y0 y1 y2 y3 y4 y5 y6 hy7 hy8
                have HXI := Lib.hid hx
                have hwx : wfA x := by rw [hx]; exact HWX.out _ (List.getElem_mem hlt3)
                have hkx : x.f5.length ≤ 1048576 := by rw [hx]; exact HKX.out _ (List.getElem_mem hlt3)
                have HWXI := Lib.hid hwx
                have HXC := Lib.hid hy8
                clear hx hwx hy8
                have hko2 := HA.out.ko.kept
                replace y0 := cell_kept y0 hko2 (fun e => e)
                replace y1 := cell_kept y1 hko2 (fun e => e)
                replace y2 := cell_kept y2 hko2 (fun e => e)
                replace y3 := cell_kept y3 hko2 (fun e => e)
                replace y4 := cell_kept y4 hko2 (fun e => e)
                replace y5 := cell_kept y5 hko2 (fun e => e)
                replace y6 := cell_kept y6 hko2 (fun e => e)
                clear hko2
                have hgtl := blk_lt HN.out
                have hlb2 : bn < wr.heap.size ∧ bh < wr.heap.size := ⟨(HA.out.pm ⟨gp, bn, bh, s⟩ (by simp)).1.now.lt, (HA.out.pm ⟨gp, bn, bh, s⟩ (by simp)).1.held.1.lt⟩
                go_upto_region 26 with fail
                have hb9 := below_alloc (Below.refl _ wr) (.cells #[.int .i64 x.f0, .bool x.f1, .int .u64 x.f2, .bool x.f3, .int .u64 x.f4, .slice A5 x.f5.length c5, .int .u64 x.f6] 26)
                have hn9 := heap_alloc_new wr (.cells #[.int .i64 x.f0, .bool x.f1, .int .u64 x.f2, .bool x.f3, .int .u64 x.f4, .slice A5 x.f5.length c5, .int .u64 x.f6] 26)
                obtain ⟨W9, hW9⟩ : ∃ W9, W9 = wr.alloc (.cells #[.int .i64 x.f0, .bool x.f1, .int .u64 x.f2, .bool x.f3, .int .u64 x.f4, .slice A5 x.f5.length c5, .int .u64 x.f6] 26) := ⟨_, rfl⟩
                rw [← hW9] at hb9 hn9 ⊢
                clear hW9 y0 y1 y2 y3 y4 y5 y6
                obtain ⟨gx, hgx⟩ : ∃ gx, gx = wr.heap.size := ⟨_, rfl⟩
                rw [← hgx] at hn9 hlb2 hgtl ⊢
                have hgxl : gx < W9.heap.size := blk_lt hn9
                replace HA := Lib.hid (HA.out.below hb9)
                replace HG := Lib.hid (blk_below HG.out hb9)
                replace HN := Lib.hid (blk_below HN.out hb9)
                replace HR := Lib.hid (Kd.R_below HR.out hb9)
                have HXB := Lib.hid hn9
                clear hb9 hn9 hgx
                obtain ⟨t0, t1, t2, t3, t4, t5, t6⟩ := ans_cells (e := D.e) (fo := D.fo) (v := D.v) (dn := D.dn) (hd := D.h) (ps := .slice A7 (toS D.ps).length c7) (c := D.c) HN.out
                obtain ⟨x0, x1, x2, x3, x4, x5, x6⟩ := ans_cells (e := x.f0) (fo := x.f1) (v := x.f2) (dn := x.f3) (hd := x.f4) (ps := .slice A5 x.f5.length c5) (c := x.f6) HXB.out
                have hcS := sameAns_c x (ansS D) A5 A7 c5 c7 W9 (HA.out.came (m := ⟨gp, bn, bh, s⟩) (by simp) heapP HXC.out (Below.refl _ _) W9 (Kept.refl _ _)) hy7 (Kd.R_reads' HR.out).2.2 (Kd.R_reads' HR.out).2.1 (by omega)
                obtain ⟨bx, hbx⟩ : ∃ bx, bx = anEq x (ansS D) := ⟨_, rfl⟩
                rw [← hbx] at hcS
                have HCS := Lib.hid hcS
                have HBX2 := Lib.hid hbx
                clear hcS hbx
                cases bx with
                | true =>
                  go_wp2_with (go_at_call 12; refine HCS.out.mono ?_; rintro e w10 ⟨rfl, hB10⟩; replace HA := Lib.hid (HA.out.below hB10); replace HG := Lib.hid (blk_below HG.out hB10); replace HN := Lib.hid (blk_below HN.out hB10); replace HR := Lib.hid (Kd.R_below HR.out hB10); replace HXB := Lib.hid (blk_below HXB.out hB10); have k0 := (op_cells HG.out).1; clear hB10)
                  go_roundw
                  case rel => exact ⟨i + 1, f, by go_num, by omega, Lib.hid (HA.out.mono (by omega)), HG, HN, HR⟩
                  case measure => simp [intOf]; omega
                | false =>
                  go_wp2_with fail
                  go_at_call 12
                  refine HCS.out.mono ?_
                  rintro e w10 ⟨rfl, hB10⟩
                  replace HA := Lib.hid (HA.out.below hB10)
                  replace HG := Lib.hid (blk_below HG.out hB10)
                  replace HN := Lib.hid (blk_below HN.out hB10)
                  replace HR := Lib.hid (Kd.R_below HR.out hB10)
                  replace HXB := Lib.hid (blk_below HXB.out hB10)
                  clear hB10
                  clear HCS t0 t1 t2 t3 t4 t5 t6 x0 x1 x2 x3 x4 x5 x6
                  obtain ⟨k0, k1, k2, k3, k4, k5, k6, k7, k8, k9, k10⟩ := op_cells HG.out
                  obtain ⟨x0, x1, x2, x3, x4, x5, x6⟩ := ans_cells (e := x.f0) (fo := x.f1) (v := x.f2) (dn := x.f3) (hd := x.f4) (ps := .slice A5 x.f5.length c5) (c := x.f6) HXB.out
                  cases hq : (o.f0 == 5) with
                  | true =>
                    first
                    | (rw [hq] at q5; cases q5; done)
                    | (go_wp2_with fail
                       go_roundw
                       case rel => exact ⟨i + 1, f, by go_num, by omega, Lib.hid (HA.out.mono (by omega)), HG, HN, HR⟩
                       case measure => simp [intOf]; omega)
                  | false =>
                    first
                    | (rw [hq] at q5; cases q5; done)
                    | (cases hq10 : (o.f0 == 10) with
                       | true =>
                         go_wp2_with fail
                         go_roundw
                         case rel => exact ⟨i + 1, f, by go_num, by omega, Lib.hid (HA.out.mono (by omega)), HG, HN, HR⟩
                         case measure => simp [intOf]; omega
                       | false =>
                         have HOT := Lib.hid (HTD.out.other x (beq_eq_false_iff_ne.1 hq) (beq_eq_false_iff_ne.1 hq10) HBX2.out.symm)
                         have hTk := take_all HA.out o x Ao A5 co c5 ⟨HWO.out.2.1, HWO.out.2.2.1, HWO.out.2.2.2.2.1⟩ (by omega) HCo.out HWO.out.2.2.2.2.2.2.1 (by omega) (HA.out.came (m := ⟨gp, bn, bh, s⟩) (by simp) heapP HXC.out (Below.refl _ _)) hy7 (by omega) HWXI.out.2.2.2.2.1
                         rw [HOT.out.1] at hTk
                         obtain ⟨tk, htk⟩ : ∃ tk, tk = (takeD s o x).2 := ⟨_, rfl⟩
                         rw [← htk] at hTk
                         have HTK := Lib.hid hTk
                         have HOT2 : Hid (tk = true → x.f0 = 30 ∨ x.f0 = 34) := Lib.hid (by rw [htk]; exact HOT.out.2)
                         clear hTk htk HOT
                         have hlg : ¬ (g4 = bn ∨ g4 = bh) := by omega
                         have hlt4 : ¬ (gt = bn ∨ gt = bh) := by omega
                         have hlx : ¬ (gx = bn ∨ gx = bh) := by omega
                         cases tk with
                         | false =>
                           go_wp2_with (go_at_call 22; refine HTK.out.mono ?_; rintro e w11 ⟨f11, rfl, hA11, hK11⟩; have HA11 := Lib.hid hA11; have HG11 := Lib.hid (blk_kept HG.out hK11 hlg); have HN11 := Lib.hid (blk_kept HN.out hK11 hlt4); have HR11 := Lib.hid (Kd.R_kept HR.out hK11 (fun k hk2 e => by omega)); have z0 : w11.cell? ⟨gx, 0, none⟩ = some (.int .i64 x.f0) := (by rw [blk_cell (blk_kept HXB.out hK11 hlx)]; rfl); clear hA11 hK11)
                           go_roundw
                           case rel => exact ⟨i + 1, f11, by go_num, by omega, HA11, HG11, HN11, HR11⟩
                           case measure => simp [intOf]; omega
                         | true =>
                           rcases HOT2.out rfl with h30 | h34
                           · have d30 : (x.f0 != 30) = false := by rw [h30]; rfl
                             clear h30
                             go_wp2_with (first
                               | (go_at_call 22; refine HTK.out.mono ?_; rintro e w11 ⟨f11, rfl, hA11, hK11⟩; have HA11 := Lib.hid hA11; have HG11 := Lib.hid (blk_kept HG.out hK11 hlg); have HN11 := Lib.hid (blk_kept HN.out hK11 hlt4); have HR11 := Lib.hid (Kd.R_kept HR.out hK11 (fun k hk2 e => by omega)); have z0 : w11.cell? ⟨gx, 0, none⟩ = some (.int .i64 x.f0) := (by rw [blk_cell (blk_kept HXB.out hK11 hlx)]; rfl); clear hA11 hK11)
                               | (go_at_call 31; refine (same_all HA11.out gp bn bh gw nw hw s (by simp) (by simp)).mono ?_; rintro e w12 ⟨rfl, hA12, hB12⟩; have HA12 := Lib.hid hA12; have HG12 := Lib.hid (blk_below HG11.out hB12); have HN12 := Lib.hid (blk_below HN11.out hB12); have HR12 := Lib.hid (Kd.R_below HR11.out hB12); clear hA12 hB12))
                             go_roundw
                             case rel => exact ⟨i + 1, f11, by go_num, by omega, HA12, HG12, HN12, HR12⟩
                             case measure => simp [intOf]; omega
                           · have d30 : (x.f0 != 30) = true := by rw [h34]; rfl
                             have d34 : (x.f0 != 34) = false := by rw [h34]; rfl
                             clear h34
                             go_wp2_with (first
                               | (go_at_call 22; refine HTK.out.mono ?_; rintro e w11 ⟨f11, rfl, hA11, hK11⟩; have HA11 := Lib.hid hA11; have HG11 := Lib.hid (blk_kept HG.out hK11 hlg); have HN11 := Lib.hid (blk_kept HN.out hK11 hlt4); have HR11 := Lib.hid (Kd.R_kept HR.out hK11 (fun k hk2 e => by omega)); have z0 : w11.cell? ⟨gx, 0, none⟩ = some (.int .i64 x.f0) := (by rw [blk_cell (blk_kept HXB.out hK11 hlx)]; rfl); clear hA11 hK11)
                               | (go_at_call 31; refine (same_all HA11.out gp bn bh gw nw hw s (by simp) (by simp)).mono ?_; rintro e w12 ⟨rfl, hA12, hB12⟩; have HA12 := Lib.hid hA12; have HG12 := Lib.hid (blk_below HG11.out hB12); have HN12 := Lib.hid (blk_below HN11.out hB12); have HR12 := Lib.hid (Kd.R_below HR11.out hB12); clear hA12 hB12))
                             go_roundw
                             case rel => exact ⟨i + 1, f11, by go_num, by omega, HA12, HG12, HN12, HR12⟩
                             case measure => simp [intOf]; omega)
              · obtain rfl : i = xs.length := by omega
                go_wp2_with (go_at_call 31; refine (same_all HA.out gp bn bh gw nw hw s (by simp) (by simp)).mono ?_; rintro e w13 ⟨rfl, hA13, -⟩; have HA13 := Lib.hid hA13; clear hA13)
                go_ret
                exact ⟨rfl, HA13.out.ko.below_of (fun _ e => e.elim)⟩
        · go_upto_region 17 with fail
          clear t0
          obtain ⟨w8, hw8⟩ : ∃ w8, w8 = W7 := ⟨_, rfl⟩
          have hz8 : tp ≤ w8.heap.size := by rw [htp, hw8]; exact Nat.le_refl _
          rw [← hw8] at HA7 HG4 HN7 HR7 ⊢
          clear hw8
          clear htp hgt3
          obtain ⟨k0, k1, k2, k3, k4, k5, k6, k7, k8, k9, k10⟩ := op_cells HG4.out
          clear k1 k2 k3 k4 k5 k6 k7 k8 k9 k10
          rcases hcase with q5 | ⟨q5, q0⟩
          all_goals
            go_upto_region 20 with (go_at_call 30; refine (fork_all HA7.out gp bn bh s (by simp) (by omega)).mono ?_; rintro e w9 ⟨f9, gb, nb, hbb, rfl, hA9, hB9, hb1, hb2, hb3⟩; replace HA7 := Lib.hid hA9; replace HG4 := Lib.hid (blk_below HG4.out hB9); replace HN7 := Lib.hid (blk_below HN7.out hB9); replace HR7 := Lib.hid (Kd.R_below HR7.out hB9); clear hA9 hB9)
            clear k0
            obtain ⟨k0, k1, k2, k3, k4, k5, k6, k7, k8, k9, k10⟩ := op_cells HG4.out
            obtain ⟨t0, t1, t2, t3, t4, t5, t6⟩ := ans_cells (e := D.e) (fo := D.fo) (v := D.v) (dn := D.dn) (hd := D.h) (ps := .slice A7 (toS D.ps).length c7) (c := D.c) HN7.out
            go_upto_region 22 with (first
              | (go_at_call 22; refine (take_all HA7.out o (ansS D) Ao A7 co c7 ⟨HWO.out.2.1, HWO.out.2.2.1, HWO.out.2.2.2.2.1⟩ (by omega) HCo.out HWO.out.2.2.2.2.2.2.1 (by omega) (fun W' hk => (Kd.R_reads' (Kd.R_kept HR7.out hk (fun k hk2 e => by omega))).2.2) (Kd.R_reads' HR7.out).2.1 (by simp only [ansS, toS_length]; omega) HDH.out).mono ?_; rw [HTD.out.take]; rintro e w10 ⟨f10, rfl, hA10, hK10⟩; have HA10 := Lib.hid hA10; have HG10 := Lib.hid (blk_kept HG4.out hK10 (by omega)); have HN10 := Lib.hid (blk_kept HN7.out hK10 (by omega)); have HR10 := Lib.hid (Kd.R_kept HR7.out hK10 (fun k hk2 e => by omega)); clear hA10 hK10)
              | (go_at_call 31; have hSm := same_all HA10.out ga na ha gb nb hbb s1 (by simp) (by simp); (with_reducible refine hSm.mono ?_); clear hSm; rintro e w11 ⟨rfl, hA11, hB11⟩; have HA11 := Lib.hid hA11; have HG11 := Lib.hid (blk_below HG10.out hB11); have HN11 := Lib.hid (blk_below HN10.out hB11); have HR11 := Lib.hid (Kd.R_below HR10.out hB11); clear hA11 hB11)
              | (go_at_call 31; have hSm := same_all HA11.out gp bn bh gw nw hw s (by simp) (by simp); (with_reducible refine hSm.mono ?_); clear hSm; rintro e w12 ⟨rfl, hA12, hB12⟩; have HA12 : Hid (All w w12 f10 (l.length + 1 + 2) [⟨gp, bn, bh, s⟩, ⟨gw, nw, hw, s⟩, ⟨gb, nb, hbb, s1⟩, ⟨ga, na, ha, s1⟩]) := Lib.hid (hA12.rot.rot); have HG12 := Lib.hid (blk_below HG11.out hB12); have HN12 := Lib.hid (blk_below HN11.out hB12); have HR12 := Lib.hid (Kd.R_below HR11.out hB12); clear hA12 hB12))
            clear HA7 HG4 HN7 HR7 HA10 HG10 HN10 HR10 HA11 HG11 HN11 HR11 HA5 k0 k1 k2 k3 k4 k5 k6 k7 k8 k9 k10 t0 t1 t2 t3 t4 t5 t6
            try clear q0
            go_wp2_with fail
            go_loopw [14, 15] (fun v14 _ wr => ∃ (i : Nat) (f : Nat → Option PL), v14 = .int .i64 i ∧ i ≤ xs.length ∧ Hid (All w wr f (l.length + 1 + 2 + 2 * i) [⟨gp, bn, bh, s⟩, ⟨gw, nw, hw, s⟩, ⟨gb, nb, hbb, s1⟩, ⟨ga, na, ha, s1⟩]) ∧ Hid (wr.heap[g4]? = some (.cells (opC o Ao co) 39 (0, 0))) ∧ Hid (wr.heap[gt]? = some (.cells (ansC D.e D.fo D.v D.dn D.h (.slice A7 (toS D.ps).length c7) D.c) 26 (0, 0))) ∧ Hid (kSP.R 90 wr w5.heap.size (fun k => w5.heap.size ≤ k ∧ k < gt) (.slice A7 (toS D.ps).length c7) (toS D.ps)))
              (fun v14 _ _ => xs.length - (intOf v14).toNat)
            case atStart => exact ⟨0, _, rfl, Nat.zero_le _, HA12, HG12, HN12, HR12⟩
            case round =>
              obtain ⟨i, f, rfl, hi, HA, HG, HN, HR⟩ := hrel
              by_cases hlt3 : i < xs.length
              · obtain ⟨x, hx⟩ : ∃ x, x = xs[i] := ⟨_, rfl⟩
                obtain ⟨adx, A5, c5, rfl, y0, y1, y2, y3, y4, y5, y6, hy7, hy8⟩ := at_T26 HX0.out (i : Int) (by omega) (by omega)
                simp only [Int.toNat_natCast] at y0 y1 y2 y3 y4 y5 y6 hy7 hy8
                rw [rdA_get hlt3, ← hx] at y0 y1 y2 y3 y4 y5 y6 hy7 hy8
                have HXI := Lib.hid hx
                have hwx : wfA x := by rw [hx]; exact HWX.out _ (List.getElem_mem hlt3)
                have hkx : x.f5.length ≤ 1048576 := by rw [hx]; exact HKX.out _ (List.getElem_mem hlt3)
                have HWXI := Lib.hid hwx
                have HXC := Lib.hid hy8
                clear hx hwx hy8
                have hko2 := HA.out.ko.kept
                replace y0 := cell_kept y0 hko2 (fun e => e)
                replace y1 := cell_kept y1 hko2 (fun e => e)
                replace y2 := cell_kept y2 hko2 (fun e => e)
                replace y3 := cell_kept y3 hko2 (fun e => e)
                replace y4 := cell_kept y4 hko2 (fun e => e)
                replace y5 := cell_kept y5 hko2 (fun e => e)
                replace y6 := cell_kept y6 hko2 (fun e => e)
                clear hko2
                have hgtl := blk_lt HN.out
                have hlb2 : bn < wr.heap.size ∧ bh < wr.heap.size := ⟨(HA.out.pm ⟨gp, bn, bh, s⟩ (by simp)).1.now.lt, (HA.out.pm ⟨gp, bn, bh, s⟩ (by simp)).1.held.1.lt⟩
                go_upto_region 26 with fail
                have hb9 := below_alloc (Below.refl _ wr) (.cells #[.int .i64 x.f0, .bool x.f1, .int .u64 x.f2, .bool x.f3, .int .u64 x.f4, .slice A5 x.f5.length c5, .int .u64 x.f6] 26)
                have hn9 := heap_alloc_new wr (.cells #[.int .i64 x.f0, .bool x.f1, .int .u64 x.f2, .bool x.f3, .int .u64 x.f4, .slice A5 x.f5.length c5, .int .u64 x.f6] 26)
                obtain ⟨W9, hW9⟩ : ∃ W9, W9 = wr.alloc (.cells #[.int .i64 x.f0, .bool x.f1, .int .u64 x.f2, .bool x.f3, .int .u64 x.f4, .slice A5 x.f5.length c5, .int .u64 x.f6] 26) := ⟨_, rfl⟩
                rw [← hW9] at hb9 hn9 ⊢
                clear hW9 y0 y1 y2 y3 y4 y5 y6
                obtain ⟨gx, hgx⟩ : ∃ gx, gx = wr.heap.size := ⟨_, rfl⟩
                rw [← hgx] at hn9 hlb2 hgtl ⊢
                have hgxl : gx < W9.heap.size := blk_lt hn9
                replace HA := Lib.hid (HA.out.below hb9)
                replace HG := Lib.hid (blk_below HG.out hb9)
                replace HN := Lib.hid (blk_below HN.out hb9)
                replace HR := Lib.hid (Kd.R_below HR.out hb9)
                have HXB := Lib.hid hn9
                clear hb9 hn9 hgx
                obtain ⟨t0, t1, t2, t3, t4, t5, t6⟩ := ans_cells (e := D.e) (fo := D.fo) (v := D.v) (dn := D.dn) (hd := D.h) (ps := .slice A7 (toS D.ps).length c7) (c := D.c) HN.out
                obtain ⟨x0, x1, x2, x3, x4, x5, x6⟩ := ans_cells (e := x.f0) (fo := x.f1) (v := x.f2) (dn := x.f3) (hd := x.f4) (ps := .slice A5 x.f5.length c5) (c := x.f6) HXB.out
                have hcS := sameAns_c x (ansS D) A5 A7 c5 c7 W9 (HA.out.came (m := ⟨gp, bn, bh, s⟩) (by simp) heapP HXC.out (Below.refl _ _) W9 (Kept.refl _ _)) hy7 (Kd.R_reads' HR.out).2.2 (Kd.R_reads' HR.out).2.1 (by omega)
                obtain ⟨bx, hbx⟩ : ∃ bx, bx = anEq x (ansS D) := ⟨_, rfl⟩
                rw [← hbx] at hcS
                have HCS := Lib.hid hcS
                have HBX2 := Lib.hid hbx
                clear hcS hbx
                cases bx with
                | true =>
                  go_wp2_with (go_at_call 12; refine HCS.out.mono ?_; rintro e w10 ⟨rfl, hB10⟩; replace HA := Lib.hid (HA.out.below hB10); replace HG := Lib.hid (blk_below HG.out hB10); replace HN := Lib.hid (blk_below HN.out hB10); replace HR := Lib.hid (Kd.R_below HR.out hB10); replace HXB := Lib.hid (blk_below HXB.out hB10); have k0 := (op_cells HG.out).1; clear hB10)
                  go_roundw
                  case rel => exact ⟨i + 1, f, by go_num, by omega, Lib.hid (HA.out.mono (by omega)), HG, HN, HR⟩
                  case measure => simp [intOf]; omega
                | false =>
                  go_wp2_with fail
                  go_at_call 12
                  refine HCS.out.mono ?_
                  rintro e w10 ⟨rfl, hB10⟩
                  replace HA := Lib.hid (HA.out.below hB10)
                  replace HG := Lib.hid (blk_below HG.out hB10)
                  replace HN := Lib.hid (blk_below HN.out hB10)
                  replace HR := Lib.hid (Kd.R_below HR.out hB10)
                  replace HXB := Lib.hid (blk_below HXB.out hB10)
                  clear hB10
                  clear HCS t0 t1 t2 t3 t4 t5 t6 x0 x1 x2 x3 x4 x5 x6
                  obtain ⟨k0, k1, k2, k3, k4, k5, k6, k7, k8, k9, k10⟩ := op_cells HG.out
                  obtain ⟨x0, x1, x2, x3, x4, x5, x6⟩ := ans_cells (e := x.f0) (fo := x.f1) (v := x.f2) (dn := x.f3) (hd := x.f4) (ps := .slice A5 x.f5.length c5) (c := x.f6) HXB.out
                  cases hq : (o.f0 == 5) with
                  | true =>
                    first
                    | (rw [hq] at q5; cases q5; done)
                    | (go_wp2_with fail
                       go_roundw
                       case rel => exact ⟨i + 1, f, by go_num, by omega, Lib.hid (HA.out.mono (by omega)), HG, HN, HR⟩
                       case measure => simp [intOf]; omega)
                  | false =>
                    first
                    | (rw [hq] at q5; cases q5; done)
                    | (cases hq10 : (o.f0 == 10) with
                       | true =>
                         go_wp2_with fail
                         go_roundw
                         case rel => exact ⟨i + 1, f, by go_num, by omega, Lib.hid (HA.out.mono (by omega)), HG, HN, HR⟩
                         case measure => simp [intOf]; omega
                       | false =>
                         have HOT := Lib.hid (HTD.out.other x (beq_eq_false_iff_ne.1 hq) (beq_eq_false_iff_ne.1 hq10) HBX2.out.symm)
                         have hTk := take_all HA.out o x Ao A5 co c5 ⟨HWO.out.2.1, HWO.out.2.2.1, HWO.out.2.2.2.2.1⟩ (by omega) HCo.out HWO.out.2.2.2.2.2.2.1 (by omega) (HA.out.came (m := ⟨gp, bn, bh, s⟩) (by simp) heapP HXC.out (Below.refl _ _)) hy7 (by omega) HWXI.out.2.2.2.2.1
                         rw [HOT.out.1] at hTk
                         obtain ⟨tk, htk⟩ : ∃ tk, tk = (takeD s o x).2 := ⟨_, rfl⟩
                         rw [← htk] at hTk
                         have HTK := Lib.hid hTk
                         have HOT2 : Hid (tk = true → x.f0 = 30 ∨ x.f0 = 34) := Lib.hid (by rw [htk]; exact HOT.out.2)
                         clear hTk htk HOT
                         have hlg : ¬ (g4 = bn ∨ g4 = bh) := by omega
                         have hlt4 : ¬ (gt = bn ∨ gt = bh) := by omega
                         have hlx : ¬ (gx = bn ∨ gx = bh) := by omega
                         cases tk with
                         | false =>
                           go_wp2_with (go_at_call 22; refine HTK.out.mono ?_; rintro e w11 ⟨f11, rfl, hA11, hK11⟩; have HA11 := Lib.hid hA11; have HG11 := Lib.hid (blk_kept HG.out hK11 hlg); have HN11 := Lib.hid (blk_kept HN.out hK11 hlt4); have HR11 := Lib.hid (Kd.R_kept HR.out hK11 (fun k hk2 e => by omega)); have z0 : w11.cell? ⟨gx, 0, none⟩ = some (.int .i64 x.f0) := (by rw [blk_cell (blk_kept HXB.out hK11 hlx)]; rfl); clear hA11 hK11)
                           go_roundw
                           case rel => exact ⟨i + 1, f11, by go_num, by omega, HA11, HG11, HN11, HR11⟩
                           case measure => simp [intOf]; omega
                         | true =>
                           rcases HOT2.out rfl with h30 | h34
                           · have d30 : (x.f0 != 30) = false := by rw [h30]; rfl
                             clear h30
                             go_wp2_with (first
                               | (go_at_call 22; refine HTK.out.mono ?_; rintro e w11 ⟨f11, rfl, hA11, hK11⟩; have HA11 := Lib.hid hA11; have HG11 := Lib.hid (blk_kept HG.out hK11 hlg); have HN11 := Lib.hid (blk_kept HN.out hK11 hlt4); have HR11 := Lib.hid (Kd.R_kept HR.out hK11 (fun k hk2 e => by omega)); have z0 : w11.cell? ⟨gx, 0, none⟩ = some (.int .i64 x.f0) := (by rw [blk_cell (blk_kept HXB.out hK11 hlx)]; rfl); clear hA11 hK11)
                               | (go_at_call 31; refine (same_all HA11.out gp bn bh gw nw hw s (by simp) (by simp)).mono ?_; rintro e w12 ⟨rfl, hA12, hB12⟩; have HA12 := Lib.hid hA12; have HG12 := Lib.hid (blk_below HG11.out hB12); have HN12 := Lib.hid (blk_below HN11.out hB12); have HR12 := Lib.hid (Kd.R_below HR11.out hB12); clear hA12 hB12))
                             go_roundw
                             case rel => exact ⟨i + 1, f11, by go_num, by omega, HA12, HG12, HN12, HR12⟩
                             case measure => simp [intOf]; omega
                           · have d30 : (x.f0 != 30) = true := by rw [h34]; rfl
                             have d34 : (x.f0 != 34) = false := by rw [h34]; rfl
                             clear h34
                             go_wp2_with (first
                               | (go_at_call 22; refine HTK.out.mono ?_; rintro e w11 ⟨f11, rfl, hA11, hK11⟩; have HA11 := Lib.hid hA11; have HG11 := Lib.hid (blk_kept HG.out hK11 hlg); have HN11 := Lib.hid (blk_kept HN.out hK11 hlt4); have HR11 := Lib.hid (Kd.R_kept HR.out hK11 (fun k hk2 e => by omega)); have z0 : w11.cell? ⟨gx, 0, none⟩ = some (.int .i64 x.f0) := (by rw [blk_cell (blk_kept HXB.out hK11 hlx)]; rfl); clear hA11 hK11)
                               | (go_at_call 31; refine (same_all HA11.out gp bn bh gw nw hw s (by simp) (by simp)).mono ?_; rintro e w12 ⟨rfl, hA12, hB12⟩; have HA12 := Lib.hid hA12; have HG12 := Lib.hid (blk_below HG11.out hB12); have HN12 := Lib.hid (blk_below HN11.out hB12); have HR12 := Lib.hid (Kd.R_below HR11.out hB12); clear hA12 hB12))
                             go_roundw
                             case rel => exact ⟨i + 1, f11, by go_num, by omega, HA12, HG12, HN12, HR12⟩
                             case measure => simp [intOf]; omega)
              · obtain rfl : i = xs.length := by omega
                go_wp2_with (go_at_call 31; refine (same_all HA.out gp bn bh gw nw hw s (by simp) (by simp)).mono ?_; rintro e w13 ⟨rfl, hA13, -⟩; have HA13 := Lib.hid hA13; clear hA13)
                go_ret
                exact ⟨rfl, HA13.out.ko.below_of (fun _ e => e.elim)⟩
end Go.Proofs.Ytngocadnbpdnoaa.Mo
namespace Go.Proofs.Ytngocadnbpdnoaa.Mo
open Go Go.RowKit Go.Proofs.Ytngocadnbpdnoaa.Q Go.Proofs.YtngocadnbpdnoaaW.PrintWords Go.Proofs.YtngocadnbpdnoaaW.PrintLast Go.Proofs.YtngocadnbpdnoaaW.PrintMore Go.Proofs.Ytngocadnbpdnoaa.Open
set_option linter.unusedVariables false
set_option linter.unusedSimpArgs false
/-- What the law is asked. -/
structure AskS where
  l : List CallS
  op : OpS
  hd : Int
  xs : List AnS
def kAsk : Kd AskS := Kd.iso (Kd.pair (Kd.slice 41 kCall) (Kd.pair k39 (Kd.pair (Kd.int .u64) (Kd.slice 26 k26)))) (fun x : AskS => (x.l, x.op, x.hd, x.xs))
theorem kAsk_open {w : World} {x : AskS} {cs : List Value} (h : kAsk.K w x cs) : ∃ A c Ao co B d, cs = [.slice A x.l.length c, .int .u8 x.op.f0, .int .u64 x.op.f1, .int .u64 x.op.f2, .int .u64 x.op.f3, .int .u64 x.op.f4, .bool x.op.f5.f0, .int .i64 x.op.f5.f1, .int .i64 x.op.f5.f2, .slice Ao x.op.f6.length co, .int .u64 x.op.f7, .int .u64 x.op.f8, .int .u64 x.hd, .slice B x.xs.length d] ∧
    x.l.length ≤ c ∧ Kd.C kCall w A x.l.length x.l ∧ x.op.f6.length ≤ co ∧ Kd.C (Kd.int .u64) w Ao x.op.f6.length x.op.f6 ∧ x.xs.length ≤ d ∧ Kd.C k26 w B x.xs.length x.xs := by
  obtain ⟨c1, c2, rfl, ⟨A, c, rfl, l1, g1⟩, ⟨c3, c4, rfl, h3, ⟨c5, c6, rfl, h5, ⟨B, d, rfl, l2, g2⟩⟩⟩⟩ := h
  obtain ⟨Ao, co, rfl, l3, g3⟩ := k39_open h3
  obtain rfl : c5 = [.int .u64 x.hd] := h5
  exact ⟨A, c, Ao, co, B, d, rfl, l1, g1, l3, g3, l2, g2⟩
def wfK (x : AskS) : Prop := (∀ y ∈ x.l, wfC y) ∧ wfO x.op ∧ (Lit.int .u64 x.hd).wf = true ∧ (∀ y ∈ x.xs, wfA y)
def BK (x : AskS) : Nat := ((x.l.map BC).sum + 1) + (BO x.op + (1 + ((x.xs.map BA).sum + 1))) + 1
theorem opensK : Opens Try.prog kAsk 84 BK wfK := by
  intro H enc w base held fuel cs x h
  obtain ⟨a, h1, h2, h3⟩ := opens_struct (g := fun x : AskS => (x.l, x.op, x.hd, x.xs)) (fun a => ⟨a.1, a.2.1, a.2.2.1, a.2.2.2⟩) (fun _ => rfl) Try.underlying84 (by kernel_rfl)
    (opens_cons (opens_slice Try.underlying29 (by kernel_rfl) opensC) rfl (by kernel_rfl) (opens_cons opensO rfl (by kernel_rfl) (opens_cons (opens_int Try.underlying23) rfl (by kernel_rfl) (opens_last (opens_slice Try.underlying82 (by kernel_rfl) opensA) rfl (by kernel_rfl))))) h
  exact ⟨a, h1, h2, h3⟩
theorem BC_memT {l : List CallS} {x : CallS} (h : x ∈ l) : x.op.f6.length ≤ (l.map BC).sum := by
  induction l with
  | nil => cases h
  | cons a l ih =>
    have hs : x.op.f6.length ≤ (x.op.f6.map (fun _ => 1)).sum := by
      rw [List.map_const', List.sum_replicate_nat]; omega
    rw [List.map_cons, List.sum_cons]
    rcases List.mem_cons.1 h with rfl | h
    · unfold BC BO; omega
    · have := ih h; omega
theorem BA_mem {l : List AnS} {x : AnS} (h : x ∈ l) : x.f5.length ≤ (l.map BA).sum := by
  induction l with
  | nil => cases h
  | cons a l ih =>
    rw [List.map_cons, List.sum_cons]
    rcases List.mem_cons.1 h with rfl | h
    · have := BA_len x; omega
    · have := ih h; omega
theorem BA_sum (l : List AnS) : l.length ≤ (l.map BA).sum := by
  induction l with
  | nil => simp
  | cons a l ih => simp only [List.map_cons, List.sum_cons, List.length_cons]; unfold BA at ih ⊢; omega
set_option maxRecDepth 100000 in
theorem takes_walk (W : World) {H : Type} {d0 : DataW H} {b0 : Nat} (v0 : Value) (x0 : AskS) (hK0 : kAsk.K W x0 v0.cells.toList) (hB0 : BK x0 ≤ Rows.uptoBulk d0) (hw0 : wfK x0) (hv0 : Value.okWide Try.prog W .any b0 84 v0) (hb : Rows.uptoBulk d0 + 0 ≤ 1048576) :
    Calls Try.prog 7 #[v0] W fun e W' => e = .returned (.bool true) ∧ Below W.heap.size W W' := by
  obtain ⟨cs0, rfl, -⟩ := Go.WideShapes.okWide_struct Try.underlying84 hv0
  obtain ⟨A, c, Ao, co, B, d, h0, l1, g1, l3, g3, l2, g2⟩ := kAsk_open hK0
  have e0 : cs0 = #[.slice A x0.l.length c, .int .u8 x0.op.f0, .int .u64 x0.op.f1, .int .u64 x0.op.f2, .int .u64 x0.op.f3, .int .u64 x0.op.f4, .bool x0.op.f5.f0, .int .i64 x0.op.f5.f1, .int .i64 x0.op.f5.f2, .slice Ao x0.op.f6.length co, .int .u64 x0.op.f7, .int .u64 x0.op.f8, .int .u64 x0.hd, .slice B x0.xs.length d] := Array.toList_inj.1 (by have h3 : cs0.toList = _ := h0; rw [h3])
  rw [e0]
  unfold BK at hB0
  have hBO : x0.op.f6.length ≤ BO x0.op := by
    unfold BO
    rw [List.map_const', List.sum_replicate_nat]; omega
  exact takes_law W A c x0.l g1 l1 hw0.1 x0.op Ao co g3 hw0.2.1 x0.hd hw0.2.2.1 B d x0.xs g2 l2 hw0.2.2.2 (by have := BC_len x0.l; omega) (by have := BA_sum x0.xs; omega) (fun x hx => by have := BC_memT hx; omega) (by omega) (fun x hx => by have := BA_mem hx; omega)
end Go.Proofs.Ytngocadnbpdnoaa.Mo
