import Derived.Test.YtbpkepcbmenbcaaAr7
namespace Go.Proofs.Ytbpkepcbmenbcaa.Ar
open Go.RowKit Go.Proofs.YtbpkepcbmenbcaaW.PrintWords Go.Proofs.YtbpkepcbmenbcaaW.PrintLast Go.Proofs.YtbpkepcbmenbcaaW.PrintMore
set_option linter.unusedVariables false
theorem rd_nat (xs : List Int) (j : Nat) : rd xs (j : Int) = xs.getD j 0 := by unfold rd; rw [show ((j : Int)).toNat = j by omega]
theorem getD_splice (L vs : List Int) (off j : Nat) (h : off + vs.length ≤ L.length) : (splice L off vs).getD j 0 = if off ≤ j ∧ j < off + vs.length then vs.getD (j - off) 0 else L.getD j 0 := by
  unfold splice
  simp only [List.getD_eq_getElem?_getD]
  rcases Nat.lt_or_ge j off with h1 | h1
  · rw [if_neg (by omega), List.getElem?_append_left (by simp; omega), List.getElem?_take, if_pos h1]
  · rw [List.getElem?_append_right (by simp; omega), List.length_take, Nat.min_eq_left (by omega)]
    rcases Nat.lt_or_ge (j - off) vs.length with h2 | h2
    · rw [if_pos ⟨h1, by omega⟩, List.getElem?_append_left h2]
    · rw [if_neg (by omega), List.getElem?_append_right h2, List.getElem?_drop]
      congr 2
      omega
/-- Behind i Leaves. -/
structure NB (l : List SPair) (i : Nat) (s : Ms) : Prop where
  clen : s.cells.length = 1000
  free : s.free = 1 + 2 * i
  vals : ∀ j : Nat, j < i → rd s.cells ((1 + 2 * j : Nat) : Int) = (l.getD j zPair).key ∧ rd s.cells ((2 + 2 * j : Nat) : Int) = (l.getD j zPair).value
theorem NB.new (l : List SPair) : NB l 0 (Ms.new 1000) := ⟨List.length_replicate, rfl, fun j h => absurd h (Nat.not_lt_zero j)⟩
theorem NB.fits {l : List SPair} {i : Nat} {s : Ms} (h : NB l i s) (hi : i < 400) (x y : Int) : s.fits [x, y] := ⟨by simp, by rw [h.clen, h.free]; simp; omega⟩
theorem NB.addr {l : List SPair} {i : Nat} {s : Ms} (h : NB l i s) (hi : i < 400) (x y : Int) : s.addr [x, y] = ((1 + 2 * i : Nat) : Int) := by
  rw [(Ms.alloc_yes (h.fits hi x y) 0).1, h.free]
theorem NB.step {l : List SPair} {i : Nat} {s : Ms} (h : NB l i s) (hi : i < 400) (th x y : Int) (hx : (l.getD i zPair).key = x) (hy : (l.getD i zPair).value = y) : NB l (i + 1) (s.alloc th [x, y]) := by
  have hf := h.fits hi x y
  rw [(Ms.alloc_yes hf th).2]
  have hle : s.free + [x, y].length ≤ s.cells.length := hf.2
  have hfr := h.free
  refine ⟨by rw [show (splice s.cells s.free [x, y]).length = s.cells.length from length_splice _ _ _ hle]; exact h.clen, by rw [h.free]; simp; omega, fun j hj => ?_⟩
  rw [rd_nat, rd_nat]
  show (splice s.cells s.free [x, y]).getD _ 0 = _ ∧ (splice s.cells s.free [x, y]).getD _ 0 = _
  rw [getD_splice _ _ _ _ hle, getD_splice _ _ _ _ hle]
  simp only [List.length_cons, List.length_nil]
  rcases Nat.lt_or_ge j i with h1 | h1
  · rw [if_neg (by omega), if_neg (by omega)]
    have := h.vals j h1
    rw [rd_nat, rd_nat] at this
    exact this
  · obtain rfl : j = i := by omega
    rw [if_pos (by omega), if_pos (by omega), hx, hy]
    constructor
    · rw [show 1 + 2 * j - s.free = 0 by omega]; rfl
    · rw [show 2 + 2 * j - s.free = 1 by omega]; rfl
theorem NB.load {l : List SPair} {i : Nat} {s : Ms} (h : NB l i s) (th a : Int) : NB l i (s.load th a) := ⟨h.clen, h.free, h.vals⟩
end Go.Proofs.Ytbpkepcbmenbcaa.Ar
