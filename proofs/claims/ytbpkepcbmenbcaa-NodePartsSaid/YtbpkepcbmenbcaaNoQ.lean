import Derived.Test.YtbpkepcbmenbcaaNoG
import Derived.Test.YtbpkepcbmenbcaaNoP
import Derived.Test.YtbpkepcbmenbcaaNo9
namespace Go.Proofs.Ytbpkepcbmenbcaa.Ar
open Go.RowKit Go.Proofs.YtbpkepcbmenbcaaW.PrintWords Go.Proofs.YtbpkepcbmenbcaaW.PrintLast Go.Proofs.YtbpkepcbmenbcaaW.PrintMore
set_option linter.unusedVariables false
/-- A version record, told by the cell o, below n. -/
def Ver (n : Int) (C : List Int) (o x : Int) : Prop := ∃ v, rd C o = v ∧ 1 ≤ v ∧ v + 2 < n ∧ rd C v = x ∧ rd C (v + 1) = 1 ∧ rd C (v + 2) = 0
/-- A branch at p, below n: nothing lies in it but at two places. -/
def Br (n : Int) (C : List Int) (p dA dB : Int) : Prop := 1 ≤ p ∧ p + 64 ≤ n ∧ ∀ d : Int, 0 ≤ d → d < 64 → d ≠ dA → d ≠ dB → rd C (p + d) = 0
/-- The branches from p down, k of them above the last one. -/
def Desc (ha hb a b lv n : Int) (C : List Int) : Nat → Int → Prop
  | 0, p => Br n C p (digF ha lv) (digF hb lv) ∧ Ver n C (p + digF ha lv) a ∧ Ver n C (p + digF hb lv) b
  | k + 1, p => Br n C p (digF ha (lv - (k + 1 : Nat))) (digF hb (lv - (k + 1 : Nat))) ∧ ∃ q, Ver n C (p + digF ha (lv - (k + 1 : Nat))) (q * 2) ∧ Desc ha hb a b lv n C k q
section
variable {ha hb a b lv n n' : Int} {C C' : List Int}
theorem Ver.mono {o x : Int} (h : Ver n C o x) (h0 : 0 ≤ o) (ho : o < n) (hn : n ≤ n') (hC : ∀ j : Int, 0 ≤ j → j < n → rd C' j = rd C j) : Ver n' C' o x := by
  obtain ⟨v, h1, h2, h3, h4, h5, h6⟩ := h
  exact ⟨v, by rw [hC _ h0 ho]; exact h1, h2, by omega, by rw [hC _ (by omega) (by omega)]; exact h4, by rw [hC _ (by omega) (by omega)]; exact h5, by rw [hC _ (by omega) (by omega)]; exact h6⟩
theorem Br.mono {p dA dB : Int} (h : Br n C p dA dB) (hn : n ≤ n') (hC : ∀ j : Int, 0 ≤ j → j < n → rd C' j = rd C j) : Br n' C' p dA dB := by
  obtain ⟨h1, h2, h3⟩ := h
  exact ⟨h1, by omega, fun d d0 d1 d2 d3 => by rw [hC _ (by omega) (by omega)]; exact h3 d d0 d1 d2 d3⟩
theorem Desc.mono (hn : n ≤ n') (hC : ∀ j : Int, 0 ≤ j → j < n → rd C' j = rd C j) : ∀ (k : Nat) (p : Int), Desc ha hb a b lv n C k p → Desc ha hb a b lv n' C' k p
  | 0, p, ⟨h1, h2, h3⟩ => by
    have r1 := digF_range ha lv
    have r2 := digF_range hb lv
    obtain ⟨g1, g2, g3⟩ := h1
    exact ⟨Br.mono ⟨g1, g2, g3⟩ hn hC, h2.mono (by omega) (by omega) hn hC, h3.mono (by omega) (by omega) hn hC⟩
  | k + 1, p, ⟨h1, q, h2, h3⟩ => by
    have r1 := digF_range ha (lv - (k + 1 : Nat))
    obtain ⟨g1, g2, g3⟩ := h1
    exact ⟨Br.mono ⟨g1, g2, g3⟩ hn hC, q, h2.mono (by omega) (by omega) hn hC, Desc.mono hn hC k q h3⟩
theorem Desc.root : ∀ (k : Nat) (p : Int), Desc ha hb a b lv n C k p → 1 ≤ p ∧ p + 64 ≤ n
  | 0, p, h => ⟨h.1.1, h.1.2.1⟩
  | k + 1, p, h => ⟨h.1.1, h.1.2.1⟩
end
theorem rd_splice_lt {L vs : List Int} {off : Nat} (h : off + vs.length ≤ L.length) (j : Int) (h0 : 0 ≤ j) (hj : j < off) : rd (splice L off vs) j = rd L j := by
  have := getD_splice L vs off j.toNat h
  rw [if_neg (by omega)] at this
  exact this
theorem rd_splice_at {L vs : List Int} {off : Nat} (h : off + vs.length ≤ L.length) (i : Int) (h0 : 0 ≤ i) (hi : i < vs.length) : rd (splice L off vs) (off + i) = rd vs i := by
  have := getD_splice L vs off ((off : Int) + i).toNat h
  rw [if_pos (by omega)] at this
  unfold rd
  rw [this]
  congr 1
  omega
theorem rd_set {xs : List Int} (i : Int) (x d : Int) (h0 : 0 ≤ i) (hi : i < xs.length) (hd : 0 ≤ d) : rd (xs.set i.toNat x) d = if d = i then x else rd xs d := by
  unfold rd
  simp only [List.getD_eq_getElem?_getD, List.getElem?_set]
  by_cases h : d = i
  · subst h
    rw [if_pos rfl, if_pos (by omega), if_pos rfl]
    rfl
  · rw [if_neg h, if_neg (by omega)]
theorem rd_zero (m : Nat) (d : Int) : rd (List.replicate m (0 : Int)) d = 0 := by
  unfold rd
  rw [List.getD_eq_getElem?_getD, List.getElem?_replicate]
  split <;> rfl
theorem rd_one (f : Fk) (d : Int) (hd : 0 ≤ d) : rd f.one d = if d = digF f.ha f.level then f.x else 0 := by
  have r := digF_range f.ha f.level
  unfold Fk.one
  rw [rd_set _ _ _ r.1 (by rw [List.length_replicate]; exact r.2) hd, rd_zero]
theorem rd_cells (f : Fk) (d : Int) (hd : 0 ≤ d) : rd f.cells d = if f.y ≠ 0 ∧ d = digF f.hb f.level then f.y else if d = digF f.ha f.level then f.x else 0 := by
  have r := digF_range f.hb f.level
  unfold Fk.cells
  by_cases hy : f.y = 0
  · rw [if_pos hy, if_neg (fun h => h.1 hy), rd_one f d hd]
  · rw [if_neg hy, rd_set _ _ _ r.1 (by rw [Fk.one_len]; exact r.2) hd]
    by_cases h : d = digF f.hb f.level
    · rw [if_pos h, if_pos ⟨hy, h⟩]
    · rw [if_neg h, if_neg (fun hh => h hh.2), rd_one f d hd]
/-- What stays. -/
structure FkOf (ha hb a b top L : Int) (f : Fk) : Prop where
  er : f.er = 0
  a : f.a = a
  ha : f.ha = ha
  b : f.b = b
  hb : f.hb = hb
  top : f.top = top
  level : f.level = L
structure MsOf (free tr : Nat) (s : Ms) : Prop where
  len : s.cells.length = 4000
  free : s.free = free
  tr : s.tr.length = tr
theorem MsOf.alloc {free tr : Nat} {s : Ms} (h : MsOf free tr s) (th : Int) (vs : List Int) (h0 : 0 < vs.length) (h1 : free + vs.length ≤ 4000) :
    s.addr vs = free ∧ MsOf (free + vs.length) (tr + 1) (s.alloc th vs) ∧ (s.alloc th vs).cells = splice s.cells free vs ∧ free + vs.length ≤ s.cells.length := by
  have hl := h.len
  have hf := h.free
  have ht := h.tr
  have hfit : s.fits vs := ⟨h0, by omega⟩
  have hle : s.free + vs.length ≤ s.cells.length := hfit.2
  obtain ⟨e1, e2⟩ := Ms.alloc_yes hfit th
  rw [e1, e2]
  refine ⟨by rw [hf], ⟨?_, by show s.free + vs.length = _; rw [hf], by simp [ht]⟩, by show splice s.cells s.free vs = _; rw [hf], by omega⟩
  show (splice s.cells s.free vs).length = 4000
  rw [length_splice _ _ _ hle, hl]
/-- A branch comes next. -/
structure P3 (ha hb a b lv top : Int) (k : Nat) (s : Ms) (f : Fk) : Prop where
  fo : FkOf ha hb a b top (lv - k) f
  at_ : f.at_ = 3
  m : MsOf (7 + 67 * k) (2 + 2 * k) s
  x : 1 ≤ f.x ∧ f.x + 2 < s.free ∧ rd s.cells (f.x + 1) = 1 ∧ rd s.cells (f.x + 2) = 0
  low : k = 0 → f.y = 4 ∧ rd s.cells 4 = b ∧ rd s.cells 5 = 1 ∧ rd s.cells 6 = 0 ∧ rd s.cells f.x = a
  up : ∀ j, k = j + 1 → f.y = 0 ∧ ∃ q, rd s.cells f.x = q * 2 ∧ Desc ha hb a b lv s.free s.cells j q
/-- A branch is made. -/
structure P4 (ha hb a b lv top : Int) (k : Nat) (s : Ms) (f : Fk) (at_ : Int) : Prop where
  fo : FkOf ha hb a b top (lv - k) f
  at_ : f.at_ = at_
  m : MsOf (71 + 67 * k) (3 + 2 * k) s
  d : ∃ q, f.wd = q * 2 ∧ Desc ha hb a b lv s.free s.cells k q
  y0 : f.y = 0
theorem P3.step {ha hb a b lv top : Int} {k : Nat} {s : Ms} {f : Fk} (h : P3 ha hb a b lv top k s f) (hk : k ≤ 10) (th : Int) (hdiff : digF ha lv ≠ digF hb lv) :
    s.addr f.cells = (7 + 67 * k : Nat) ∧ P4 ha hb a b lv top k (s.alloc th f.cells) (f.step3 (s.addr f.cells)) (if lv - k = top then 5 else 4) := by
  obtain ⟨e1, e2, e3, e4⟩ := h.m.alloc th f.cells (by rw [Fk.cells_len]; omega) (by rw [Fk.cells_len]; omega)
  have hfr := h.m.free
  have hfr2 := e2.free
  have hlen := h.m.len
  have hlen2 := e2.len
  rw [Fk.cells_len] at e2 hfr2
  refine ⟨e1, ?_⟩
  obtain ⟨C', hC'⟩ : ∃ C', C' = (s.alloc th f.cells).cells := ⟨_, rfl⟩
  obtain ⟨q, hq⟩ : ∃ q : Int, q = ((7 + 67 * k : Nat) : Int) := ⟨_, rfl⟩
  have hq7 : q = s.free := by rw [hq, hfr]
  have hlt : ∀ j : Int, 0 ≤ j → j < (s.free : Int) → rd C' j = rd s.cells j := by
    intro j h0 hj
    rw [hC', e3]
    exact rd_splice_lt e4 j h0 (by omega)
  have hat : ∀ i : Int, 0 ≤ i → i < 64 → rd C' (q + i) = rd f.cells i := by
    intro i h0 hi
    rw [hC', e3, hq]
    exact rd_splice_at e4 i h0 (by rw [Fk.cells_len]; exact hi)
  have hn : (s.free : Int) ≤ ((s.alloc th f.cells).free : Int) := by rw [hfr2, hfr]; omega
  have hstep : f.step3 (s.addr f.cells) = { f with wd := q * 2, y := 0, at_ := if f.level = f.top then 5 else 4 } := by
    rw [e1, ← hq]
    exact if_neg (by omega)
  have hff := h.fo
  have rA := digF_range ha (lv - k)
  have rB := digF_range hb (lv - k)
  refine ⟨?_, ?_, by rw [show 71 + 67 * k = 7 + 67 * k + 64 by omega, show 3 + 2 * k = 2 + 2 * k + 1 by omega]; exact e2, ⟨q, by rw [hstep], ?_⟩, by rw [hstep]⟩
  · rw [hstep]
    exact ⟨hff.er, hff.a, hff.ha, hff.b, hff.hb, hff.top, hff.level⟩
  · rw [hstep]
    show (if f.level = f.top then (5 : Int) else 4) = _
    rw [hff.level, hff.top]
  rw [← hC']
  obtain ⟨x1, x2, x3, x4⟩ := h.x
  have hbr : Br ((s.alloc th f.cells).free : Int) C' q (digF ha (lv - k)) (digF hb (lv - k)) := by
    refine ⟨by omega, by omega, fun d d0 d1 d2 d3 => ?_⟩
    rw [hat d d0 d1, rd_cells f d d0, hff.ha, hff.hb, hff.level, if_neg (fun hh => d3 hh.2), if_neg d2]
  cases k with
  | zero =>
    obtain ⟨y1, y2, y3, y4, y5⟩ := h.low rfl
    have e0 : lv - ((0 : Nat) : Int) = lv := by omega
    rw [e0] at hbr rA rB
    have hlv : f.level = lv := by rw [hff.level]; omega
    refine ⟨hbr, ⟨f.x, ?_, x1, by omega, ?_, ?_, ?_⟩, ⟨4, ?_, by omega, by omega, ?_, ?_, ?_⟩⟩
    · rw [hat _ rA.1 rA.2, rd_cells f _ rA.1, hff.ha, hff.hb, hlv, if_neg (fun hh => hdiff hh.2), if_pos rfl]
    · rw [hlt _ (by omega) (by omega)]; exact y5
    · rw [hlt _ (by omega) (by omega)]; exact x3
    · rw [hlt _ (by omega) (by omega)]; exact x4
    · rw [hat _ rB.1 rB.2, rd_cells f _ rB.1, hff.hb, hlv, if_pos ⟨by omega, rfl⟩]; exact y1
    · rw [hlt _ (by omega) (by omega)]; exact y2
    · rw [hlt _ (by omega) (by omega)]; exact y3
    · rw [hlt _ (by omega) (by omega)]; exact y4
  | succ j =>
    obtain ⟨y0, p, hp, hD⟩ := h.up j rfl
    refine ⟨hbr, p, ⟨f.x, ?_, x1, by omega, ?_, ?_, ?_⟩, Desc.mono hn hlt j p hD⟩
    · rw [hat _ rA.1 rA.2, rd_cells f _ rA.1, hff.ha, hff.hb, hff.level, if_neg (fun hh => hh.1 y0), if_pos rfl]
    · rw [hlt _ (by omega) (by omega)]; exact hp
    · rw [hlt _ (by omega) (by omega)]; exact x3
    · rw [hlt _ (by omega) (by omega)]; exact x4
theorem P4.step {ha hb a b lv top : Int} {k : Nat} {s : Ms} {f : Fk} (h : P4 ha hb a b lv top k s f 4) (hk : k ≤ 10) (th : Int) :
    s.addr [f.wd, 1, 0] = (71 + 67 * k : Nat) ∧ P3 ha hb a b lv top (k + 1) (s.alloc th [f.wd, 1, 0]) (f.step4 (s.addr [f.wd, 1, 0])) := by
  obtain ⟨e1, e2, e3, e4⟩ := h.m.alloc th [f.wd, 1, 0] (by simp) (by simp; omega)
  have hfr := h.m.free
  have hfr2 := e2.free
  have hlen := h.m.len
  simp only [List.length_cons, List.length_nil] at e2 hfr2 e4
  refine ⟨e1, ?_⟩
  have hy := h.y0
  obtain ⟨C', hC'⟩ : ∃ C', C' = (s.alloc th [f.wd, 1, 0]).cells := ⟨_, rfl⟩
  obtain ⟨x, hx⟩ : ∃ x : Int, x = ((71 + 67 * k : Nat) : Int) := ⟨_, rfl⟩
  have hlt : ∀ j : Int, 0 ≤ j → j < (s.free : Int) → rd C' j = rd s.cells j := by
    intro j h0 hj
    rw [hC', e3]
    exact rd_splice_lt (by simpa using e4) j h0 (by omega)
  have hat : ∀ i : Int, 0 ≤ i → i < 3 → rd C' (x + i) = rd [f.wd, 1, 0] i := by
    intro i h0 hi
    rw [hC', e3, hx]
    exact rd_splice_at (by simpa using e4) i h0 (by simpa using hi)
  have hstep : f.step4 (s.addr [f.wd, 1, 0]) = { f with x := x, level := f.level - 1, at_ := 3 } := by
    rw [e1, ← hx]
    exact if_neg (by omega)
  have hff := h.fo
  obtain ⟨q, hq, hD⟩ := h.d
  have hx0 : rd C' x = f.wd := by have := hat 0 (by omega) (by omega); rw [Int.add_zero] at this; rw [this]; rfl
  have hx1 : rd C' (x + 1) = 1 := by rw [hat 1 (by omega) (by omega)]; rfl
  have hx2 : rd C' (x + 2) = 0 := by rw [hat 2 (by omega) (by omega)]; rfl
  rw [hstep]
  refine ⟨⟨hff.er, hff.a, hff.ha, hff.b, hff.hb, hff.top, ?_⟩, rfl, by rw [show 7 + 67 * (k + 1) = 71 + 67 * k + (0 + 1 + 1 + 1) by omega, show 2 + 2 * (k + 1) = 3 + 2 * k + 1 by omega]; exact e2, ?_, fun h0 => by omega, ?_⟩
  · show f.level - 1 = _
    rw [hff.level]; omega
  · show 1 ≤ x ∧ x + 2 < ((s.alloc th [f.wd, 1, 0]).free : Int) ∧ rd (s.alloc th [f.wd, 1, 0]).cells (x + 1) = 1 ∧ rd (s.alloc th [f.wd, 1, 0]).cells (x + 2) = 0
    rw [← hC']
    exact ⟨by omega, by omega, hx1, hx2⟩
  · intro j hj
    obtain rfl : k = j := by omega
    refine ⟨hy, q, ?_, ?_⟩
    · show rd (s.alloc th [f.wd, 1, 0]).cells x = _
      rw [← hC', hx0, hq]
    · rw [← hC']
      exact Desc.mono (by omega) hlt k q hD
theorem partN_ge : ∀ (k : Nat) (ha hb l : Int), l ≤ partN k ha hb l
  | 0, ha, hb, l => Int.le_refl _
  | k + 1, ha, hb, l => by
    by_cases h : l < 11 ∧ digF ha l = digF hb l
    · rw [partN_go h]; have := partN_ge k ha hb (l + 1); omega
    · rw [partN_stop h]; exact Int.le_refl _
theorem partN_diff : ∀ (k : Nat) (ha hb l : Int), 0 ≤ l → 11 ≤ l + k → partN k ha hb l < 11 → digF ha (partN k ha hb l) ≠ digF hb (partN k ha hb l)
  | 0, ha, hb, l, h0, h1, h2 => by simp only [partN] at h2; omega
  | k + 1, ha, hb, l, h0, h1, h2 => by
    by_cases h : l < 11 ∧ digF ha l = digF hb l
    · rw [partN_go h] at h2 ⊢
      exact partN_diff k ha hb (l + 1) (by omega) (by omega) h2
    · rw [partN_stop h] at h2 ⊢
      exact fun e => h ⟨h2, e⟩
/-- A Fork behind i steps that were not the last. -/
def PH (ha hb a b lv top : Int) (km i : Nat) (s : Ms) (f : Fk) : Prop :=
  (i = 0 ∧ s = Ms.new 4000 ∧ f = ⟨0, 0, a, ha, b, hb, top, 0, 0, 0, 0⟩) ∨ (i = 1 ∧ s = (Ms.new 4000).alloc 0 [a, 1, 0] ∧ f = ⟨0, 0, a, ha, b, hb, top, lv, 2, 1, 0⟩) ∨
  (∃ k, i = 2 + 2 * k ∧ k ≤ km ∧ P3 ha hb a b lv top k s f) ∨ (∃ k, i = 3 + 2 * k ∧ k < km ∧ P4 ha hb a b lv top k s f 4)
theorem new_of : MsOf 1 0 (Ms.new 4000) := ⟨List.length_replicate, rfl, rfl⟩
theorem PH.tr {ha hb a b lv top : Int} {km i : Nat} {s : Ms} {f : Fk} (h : PH ha hb a b lv top km i s f) : s.tr.length = i := by
  rcases h with ⟨h1, h2, h3⟩ | ⟨h1, h2, h3⟩ | ⟨k, h1, hk, hP⟩ | ⟨k, h1, hk, hP⟩
  · rw [h1, h2]; exact new_of.tr
  · have h5 := (new_of.alloc 0 [a, 1, 0] (by show 0 < 3; omega) (by show 1 + 3 ≤ 4000; omega)).2.1
    rw [h1, h2]
    exact h5.tr
  · rw [h1]; exact hP.m.tr
  · rw [h1]; exact hP.m.tr
set_option maxRecDepth 100000 in
theorem low_start (ha hb a b lv top : Int) : P3 ha hb a b lv top 0 (((Ms.new 4000).alloc 0 [a, 1, 0]).alloc 0 [b, 1, 0]) (Fk.step2 ⟨0, 0, a, ha, b, hb, top, lv, 2, 1, 0⟩ (((Ms.new 4000).alloc 0 [a, 1, 0]).addr [b, 1, 0])) := by
  obtain ⟨a1, a2, a3, a4⟩ := new_of.alloc 0 [a, 1, 0] (by simp) (by simp)
  simp only [List.length_cons, List.length_nil] at a2 a4
  obtain ⟨b1, b2, b3, b4⟩ := a2.alloc 0 [b, 1, 0] (by simp) (by simp)
  simp only [List.length_cons, List.length_nil] at b2 b4
  rw [b1]
  have hst : Fk.step2 ⟨0, 0, a, ha, b, hb, top, lv, 2, 1, 0⟩ ((1 + (0 + 1 + 1 + 1) : Nat) : Int) = ⟨0, 0, a, ha, b, hb, top, lv, 3, 1, 4⟩ := if_neg (by omega)
  rw [hst]
  have hA : ∀ i : Int, 0 ≤ i → i < 3 → rd (((Ms.new 4000).alloc 0 [a, 1, 0]).alloc 0 [b, 1, 0]).cells (1 + i) = rd [a, 1, 0] i := by
    intro i h0 hi
    rw [b3, rd_splice_lt (by simpa using b4) _ (by omega) (by omega), a3]
    exact rd_splice_at (by simpa using a4) i h0 (by simpa using hi)
  have hB : ∀ i : Int, 0 ≤ i → i < 3 → rd (((Ms.new 4000).alloc 0 [a, 1, 0]).alloc 0 [b, 1, 0]).cells (4 + i) = rd [b, 1, 0] i := by
    intro i h0 hi
    rw [b3]
    exact rd_splice_at (by simpa using b4) i h0 (by simpa using hi)
  refine ⟨⟨rfl, rfl, rfl, rfl, rfl, rfl, by simp⟩, rfl, b2, ⟨by simp, by have := b2.free; simp; omega, ?_, ?_⟩, fun _ => ⟨rfl, ?_, ?_, ?_, ?_⟩, fun j hj => by omega⟩
  · exact (hA 1 (by omega) (by omega)).trans rfl
  · exact (hA 2 (by omega) (by omega)).trans rfl
  · exact (hB 0 (by omega) (by omega)).trans rfl
  · exact (hB 1 (by omega) (by omega)).trans rfl
  · exact (hB 2 (by omega) (by omega)).trans rfl
  · exact (hA 0 (by omega) (by omega)).trans rfl
set_option maxRecDepth 100000 in
theorem parts_step (base : Nat) (S : Nat → Prop) (g gv gm km i : Nat) (ha hb a b top : Int) (s : Ms) (f : Fk) (w : World) (h : MemW w base S gm s) (hv : ViewAt w gv gm 0 i) (hsv : S gv) (hbv : base ≤ gv) (hF : ForkAt w g f) (hg : ¬ S g) (hbg : base ≤ g)
    (hua : isU ha) (hub : isU hb) (ht : 0 ≤ top) (hlv : partN 11 ha hb top < 11) (hkm : (km : Int) = partN 11 ha hb top - top) (hP : PH ha hb a b (partN 11 ha hb top) top km i s f) :
    Calls Try.prog 18 #[.pointer (some ⟨g, 0, none⟩), .pointer (some ⟨gv, 0, none⟩)] w fun e w' => ∃ (d : Bool) (s' : Ms) (f' : Fk), e = .returned (.bool d) ∧ MemW w' base (fun j => S j ∨ w.heap.size ≤ j) gm s' ∧ ViewAt w' gv gm 0 (i + 1) ∧ ForkAt w' g f' ∧ Kept w w' (fun j => S j ∨ j = g) ∧ Below base w w' ∧
      ((d = false ∧ PH ha hb a b (partN 11 ha hb top) top km (i + 1) s' f') ∨ (d = true ∧ i = 2 + 2 * km ∧ P4 ha hb a b (partN 11 ha hb top) top km s' f' 5)) := by
  have hge := partN_ge 11 ha hb top
  have hkm10 : km ≤ 10 := by omega
  have hdf := partN_diff 11 ha hb top ht (by omega) hlv
  have htr := hP.tr
  rcases hP with ⟨rfl, rfl, rfl⟩ | ⟨rfl, rfl, rfl⟩ | ⟨k, rfl, hk, hP⟩ | ⟨k, rfl, hk, hP⟩
  · refine (forkstep0_c base S g gv gm 0 (Ms.new 4000) 0 _ w h hv hsv hbv (by omega) (by rw [htr]; omega) hF hg hbg rfl ht hua hub hlv).mono ?_
    rintro e w' ⟨rfl, q1, q2, q3, q4, q5⟩
    have e1 : (Ms.new 4000).addr [a, 1, 0] = 1 := (new_of.alloc 0 [a, 1, 0] (by simp) (by simp)).1
    refine ⟨_, _, _, rfl, q1, q2, q3, q4, q5, .inl ⟨?_, .inr (.inl ⟨rfl, rfl, ?_⟩)⟩⟩
    · show decide ((Ms.new 4000).addr [a, 1, 0] = 0) = false
      rw [e1]; rfl
    · show Fk.step0 _ ((Ms.new 4000).addr [a, 1, 0]) = _
      rw [e1]; rfl
  · refine (forkstep2_c base S g gv gm 1 _ 0 _ w h hv hsv hbv (by omega) (by rw [htr]; omega) hF hg hbg rfl).mono ?_
    rintro e w' ⟨rfl, q1, q2, q3, q4, q5⟩
    have a2 := (new_of.alloc 0 [a, 1, 0] (by simp) (by simp)).2.1
    have e1 := (a2.alloc 0 [b, 1, 0] (by simp) (by simp)).1
    refine ⟨_, _, _, rfl, q1, q2, q3, q4, q5, .inl ⟨?_, .inr (.inr (.inl ⟨0, rfl, by omega, low_start ha hb a b _ top⟩))⟩⟩
    show decide (((Ms.new 4000).alloc 0 [a, 1, 0]).addr [b, 1, 0] = 0) = false
    rw [e1]
    rfl
  · have hf := hP.fo
    refine (forkstep3_c base S g gv gm (2 + 2 * k) s 0 f w h hv hsv hbv (by omega) (by rw [htr]; omega) hF hg hbg hP.at_ (by rw [hf.ha]; exact hua) (by rw [hf.hb]; exact hub)).mono ?_
    rintro e w' ⟨rfl, q1, q2, q3, q4, q5⟩
    obtain ⟨-, h4⟩ := hP.step (by omega) 0 hdf
    refine ⟨_, _, _, rfl, q1, q2, q3, q4, q5, ?_⟩
    by_cases hkk : k = km
    · subst hkk
      rw [if_pos (by omega)] at h4
      exact .inr ⟨by unfold Fk.fin; rw [h4.at_]; rfl, rfl, h4⟩
    · rw [if_neg (by omega)] at h4
      exact .inl ⟨by unfold Fk.fin; rw [h4.at_]; rfl, .inr (.inr (.inr ⟨k, by omega, by omega, h4⟩))⟩
  · have hf := hP.fo
    obtain ⟨e1, h3⟩ := hP.step (by omega) 0
    refine (forkstep4_c base S g gv gm (3 + 2 * k) s 0 f w h hv hsv hbv (by omega) (by rw [htr]; omega) hF hg hbg hP.at_ (by rw [hf.level]; omega) (by rw [hf.level]; omega)).mono ?_
    rintro e w' ⟨rfl, q1, q2, q3, q4, q5⟩
    refine ⟨_, _, _, rfl, q1, q2, q3, q4, q5, .inl ⟨?_, .inr (.inr (.inl ⟨k + 1, by omega, by omega, h3⟩))⟩⟩
    rw [e1]
    exact decide_eq_false (by omega)
/-- The topmost level at which two mixed keys part, as the law finds it: k levels from 10 down. -/
def topN (ha hb : Int) : Nat → Int
  | 0 => -1
  | k + 1 => if digF ha (10 - (k : Int)) ≠ digF hb (10 - (k : Int)) then 10 - (k : Int) else topN ha hb k
theorem topN_part (ha hb : Int) : ∀ (k : Nat) (l : Int), l = 11 - k → 0 ≤ l → topN ha hb k = if partN k ha hb l < 11 then partN k ha hb l else -1
  | 0, l, hl, h0 => (if_neg (show ¬ partN 0 ha hb l < 11 by show ¬ l < 11; omega)).symm
  | k + 1, l, hl, h0 => by
    have e : 10 - (k : Int) = l := by omega
    simp only [topN]
    rw [e]
    by_cases h : digF ha l = digF hb l
    · rw [if_neg (by simpa using h), partN_go ⟨by omega, h⟩]
      exact topN_part ha hb k (l + 1) (by omega) (by omega)
    · rw [if_pos h, partN_stop (fun hh => h hh.2), if_pos (by omega)]
theorem partN_more : ∀ (k : Nat) (ha hb l : Int), 11 ≤ l + k → ∀ m, k ≤ m → partN m ha hb l = partN k ha hb l
  | 0, ha, hb, l, h, m, hm => by rw [partN_stop (fun hh => by omega), partN_stop (fun hh => by omega)]
  | k + 1, ha, hb, l, h, m, hm => by
    obtain ⟨j, rfl⟩ : ∃ j, m = j + 1 := ⟨m - 1, by omega⟩
    by_cases hc : l < 11 ∧ digF ha l = digF hb l
    · rw [partN_go hc, partN_go hc]
      exact partN_more k ha hb (l + 1) (by omega) j (by omega)
    · rw [partN_stop hc, partN_stop hc]
theorem topN_eq (ha hb l : Int) (h0 : 0 ≤ l) (k : Nat) (hk : (k : Int) = if l ≤ 11 then 11 - l else 0) : topN ha hb k = if partN 11 ha hb l < 11 then partN 11 ha hb l else -1 := by
  by_cases hl : l ≤ 11
  · rw [if_pos hl] at hk
    rw [topN_part ha hb k l (by omega) h0, partN_more k ha hb l (by omega) 11 (by omega)]
  · rw [if_neg hl] at hk
    obtain rfl : k = 0 := by omega
    rw [partN_stop (fun hh => by omega), if_neg (by omega)]
    rfl
end Go.Proofs.Ytbpkepcbmenbcaa.Ar
