import Derived.Test.YthblincfnfpgbaaQxN
import Derived.Lib.SlBytesConst
namespace Go.Proofs.Ythblincfnfpgbaa.Q
open Go.RowKit Go.Proofs.YthblincfnfpgbaaW.PrintWords Go.Proofs.YthblincfnfpgbaaW.PrintLast Go.Proofs.YthblincfnfpgbaaW.PrintMore
set_option linter.unusedVariables false
/-- The call's own bytes, which lie in none of the blocks that S names. -/
def Own (w0 w : World) (S : Nat → Prop) (v : Value) (l : List Int) : Prop := Kd.R (Kd.int .u8) 5 w w0.heap.size (fun k => ¬ S k) v l
/-- .. or a full row that is read. -/
def Arr (w0 w : World) (S : Nat → Prop) (v : Value) (l : List Int) : Prop := Own w0 w S v l ∨ ∃ a, v = .slice (some a) l.length l.length ∧ Kd.C (Kd.int .u8) w (some a) l.length l
theorem own_new {w0 w : World} {v : Value} {l : List Int} (h : Kd.R (Kd.int .u8) 5 w w0.heap.size (fun _ => True) v l) (o : Obj) : Own w0 (w.alloc o) (fun k => k = w.heap.size) v l :=
  Kd.R_mono (Kd.R_alloc (Kd.R_bound h) o) (fun k hk => by have := hk.2.2.1; omega)
def Same (S : Nat → Prop) (w w' : World) : Prop := ∀ k, S k → w'.heap[k]? = w.heap[k]?
theorem C_int_at {k : IntKind} {w : World} {A : Option Addr} {n : Nat} {ls : List Int} (h : Kd.C (Kd.int k) w A n ls) (j : Nat) (hj : j < ls.length) : ∃ a, A = some a ∧ w.cell? (a.add j) = some (.int k ls[j]) := by
  obtain ⟨a, c, e, hl, hk, hc⟩ := Kd.C_get h 0 (j : Int) (by omega) (by have := h.1; omega)
  refine ⟨a, e, ?_⟩
  have hk' : c = [.int k (ls.getD (j : Int).toNat 0)] := hk
  have := hc 0 _ (by rw [hk']; rfl)
  simpa [Kd.int, Kd.scalar, List.getD_eq_getElem?_getD, List.getElem?_eq_getElem hj] using this
section
variable {ops : Array Oper} {rest : List Oper} {o : Oper} {a : Act} {Q : Exit → Act → World → Prop}
/-- append(v, c): the row is the call's own behind it. -/
theorem arr_append {w0 W : World} {S : Nat → Prop} (hgd : o.guard = none) (s x : Operand) (ho : o.op = .call { callee := .builtin .append, args := #[s, x], argTypes := #[48, 48] })
    (v : Value) (ls : List Int) (c : Int) (hs : a.eval s = v) (hx : a.eval x = .slice (some ⟨W.heap.size, 0, none⟩) 1 1) (hA : Arr w0 W S v ls) (hS : ∀ k, S k → k < W.heap.size) (HB : Below w0.heap.size w0 W) (hl : ls.length + 1 < 140737488355328)
    (h : ∀ v1 w1, Own w0 w1 S v1 (ls ++ [c]) → Below w0.heap.size w0 w1 → Same S W w1 → W.heap.size ≤ w1.heap.size → wpList Try.prog ops Q rest (a.put o.dst v1) w1) :
    wpList Try.prog ops Q (o :: rest) a (W.alloc (.cells #[.int .u8 c] 5)) := by
  rcases hA with hO | ⟨ad, rfl, hC⟩
  · refine Kd.R_append (Kd.int .u8) (w0 := w0) w0.heap.size hgd s x 48 5 (.int .u8 0) 1 ho Try.underlying48 info5 rfl (by decide) (by omega) v ls c [.int .u8 c] (fun k => ¬ S k) (fun _ => False) hs hx rfl (fun _ hk => hk.elim) (fun k hk h => by have := hS k h; omega) hO HB HB.size (by omega) ?_
    intro v1 w1 h1 h2 h3 h4
    exact h v1 w1 h1 h2 (fun k hk => h3.block k (hS k hk) (fun e => hO.1 k e.symm hk)) h3.size
  · obtain ⟨i0, hi, hz0, hz1, hz2⟩ := info_parts info5
    refine wpList_append_grows _ hgd s x 48 ho 5 i0 (.int .u8 0) 1 1 Try.underlying48 hi hz0 hz1 hz2 rfl (by decide) (some ad) ls.length ls.length (ls.map (Value.int .u8)) hs (fun h => by cases h) (by simp) ?_ ⟨W.heap.size, 0, none⟩ 1 1 [.int .u8 c] hx rfl ?_ (by simp [Value.oneCell']) (by omega) (by unfold maxLen; omega) (by omega) ?_
    · rintro b hb j u hu
      obtain rfl : ad = b := by injection hb
      have hj : j < ls.length := by have := (List.getElem?_eq_some_iff.1 hu).1; simpa using this
      obtain ⟨a', e, hcell⟩ := C_int_at hC j hj
      obtain rfl : ad = a' := by injection e
      rw [List.getElem?_map, List.getElem?_eq_getElem hj] at hu
      obtain rfl : Value.int .u8 ls[j] = u := by simpa using hu
      exact World.cell?_alloc_lt _ _ _ (World.block_lt_of_cell? _ _ hcell) ▸ hcell
    · intro j u hu
      obtain rfl : j = 0 := by have := (List.getElem?_eq_some_iff.1 hu).1; simpa using this
      obtain rfl : Value.int .u8 c = u := by simpa using hu
      rw [add_plain, blk_cell (heap_alloc_new W _)]
      rfl
    · intro v1 w1 h1 h2
      have hsz : W.heap.size ≤ w1.heap.size := by have := h2.size; simp at this; omega
      have hbl : ∀ k, k < W.heap.size → w1.heap[k]? = W.heap[k]? := fun k hk => (h2.block k (by simp; omega) (by simp)).trans (Below.heap_alloc W _ k hk)
      have hn : ls.length + 1 = (ls ++ [c]).length := by simp
      have hc : ls.map (Value.int .u8) ++ [Value.int .u8 c] = (ls ++ [c]).map (Value.int .u8) := by simp
      rw [hn, hc] at h1
      refine h v1 w1 (Kd.R_of_own (own_weaken h1 (by simp; have := HB.size; omega)) (fun k hk h => ?_)) ?_ (fun k hk => hbl k (hS k hk)) hsz
      · have h3 := own_base h1 k hk
        have := hS k h
        simp at h3
        omega
      · exact HB.trans ⟨h2.os, h2.tape, h2.output, hsz, fun k hk => hbl k (by have := HB.size; omega)⟩
end

theorem own_arr {w0 w : World} {S : Nat → Prop} {v : Value} {l : List Int} (h : Own w0 w S v l) : Arr w0 w S v l := .inl h
set_option maxHeartbeats 4000000 in
set_option maxRecDepth 100000 in
theorem number_c (w0 w : World) (S : Nat → Prop) (hS : ∀ k, S k → k < w.heap.size) (v : Value) (l : List Int) (x : Int) (hB : Below w0.heap.size w0 w) (ho : Arr w0 w S v l) (hx : x < 18446744073709551616) (hx0 : 0 ≤ x) (hl : l.length + 10 < 140737488355328) :
    Calls Try.prog 55 #[v, .int .u64 x] w fun e w' => ∃ v', e = .returned v' ∧ Own w0 w' S v' (l ++ numS x) ∧ Below w0.heap.size w0 w' ∧ Same S w w' := by
  have hu48 := Try.underlying48
  have HS := Lib.hid hS
  have HB := Lib.hid hB
  have HO := Lib.hid ho
  have HX := Lib.hid hx
  have HL := Lib.hid hl
  clear hS hB ho hl hx
  go_enter Try.func55, Try.ntmps55
  go_wp2
  go_loopg [0, 1] 10 (fun kq u y w' => ∃ (ls : List Int) (z : Int), y = .int .u64 z ∧ 0 ≤ z ∧ Hid (kq + ls.length ≤ l.length + 10) ∧ Hid (0 < kq) ∧ Hid (z < 128 ^ kq) ∧ Hid (ls ++ numN (kq - 1) z = l ++ numS x) ∧ Hid (Arr w0 w' S u ls) ∧ Hid (Below w0.heap.size w0 w') ∧ Hid (Same S w w') ∧ Hid (w.heap.size ≤ w'.heap.size))
  case atStart => exact ⟨l, x, rfl, hx0, Lib.hid (by omega), Lib.hid (by omega), Lib.hid (by have := HX.out; have : (128 : Int) ^ 10 = 1180591620717411303424 := by decide
                                                                                             omega), Lib.hid rfl, HO, HB, Lib.hid (fun _ _ => rfl), Lib.hid (Nat.le_refl _)⟩
  case round =>
    obtain ⟨ls, z, rfl, hz, HN, HK, HZ, HE, HA, HBW, HSM, HSZ⟩ := hrel
    clear HB HO HX hx0
    have HSW := Lib.hid (show ∀ k, S k → k < wr.heap.size from fun k hk => Nat.lt_of_lt_of_le (HS.out k hk) HSZ.out)
    by_cases h : 128 ≤ z
    · have hd : decide (128 ≤ z) = true := decide_eq_true h
      go_wp2_with (first | (at_builtin; refine arr_append (w0 := w0) (S := S) (by rfl) (.tmp 7) (.tmp 11) rfl _ ls (bits .or .u8 (z % 256) 128) rfl rfl HA.out HSW.out HBW.out (by have := HN.out; have := HK.out; have := HL.out; omega) ?_))
      intro v1 w1 h1 h2 h3 h4
      have H1 := Lib.hid h1
      have H2 := Lib.hid h2
      have H3 := Lib.hid (show Same S w w1 from fun k hk => (h3 k hk).trans (HSM.out k hk))
      have H4 := Lib.hid (Nat.le_trans HSZ.out h4)
      clear h1 h2 h3 h4 hd
      go_wp2
      go_roundg (gk - 1)
      case measure => have := HK.out; omega
      case rel =>
        have hk := HK.out
        have hn := HN.out
        have hzz := HZ.out
        have he := HE.out
        obtain ⟨m, rfl⟩ : ∃ m, gk = m + 2 := ⟨gk - 2, by
          rcases Nat.lt_or_ge gk 2 with h' | h'
          · obtain rfl : gk = 1 := by omega
            omega
          · omega⟩
        have hm : numN (m + 2 - 1) z = bits .or .u8 (z % 256) 128 :: numN m (z / 128) := by
          show numN (m + 1) z = _
          rw [numN, if_pos h]
        rw [hm] at he
        refine ⟨ls ++ [bits .or .u8 (z % 256) 128], z / 128, rfl, by omega, Lib.hid (by simp; omega), Lib.hid (by omega), Lib.hid ?_, Lib.hid ?_, Lib.hid (own_arr H1.out), H2, H3, H4⟩
        · rw [show m + 2 - 1 = m + 1 by omega]
          rw [Int.pow_succ] at hzz
          generalize (128 : Int) ^ (m + 1) = q at *
          omega
        · rw [← he]
          simp
    · have hd : decide (128 ≤ z) = false := decide_eq_false h
      go_wp2_with (first | (at_builtin; refine arr_append (w0 := w0) (S := S) (by rfl) (.tmp 15) (.tmp 18) rfl _ ls z rfl rfl HA.out HSW.out HBW.out (by have := HN.out; have := HK.out; have := HL.out; omega) ?_))
      intro v1 w1 h1 h2 h3 h4
      have H1 := Lib.hid h1
      have H2 := Lib.hid h2
      have H3 := Lib.hid (show Same S w w1 from fun k hk => (h3 k hk).trans (HSM.out k hk))
      clear h1 h2 h3 h4 hd
      go_wp2
      go_ret
      refine ⟨v1, rfl, ?_, H2.out, H3.out⟩
      have he := HE.out
      have hm : numN (gk - 1) z = [z] := by
        have e : z % 256 = z := by omega
        cases gk - 1 <;> rw [numN]
        · rw [e]
        · rw [if_neg (by omega), e]
      rw [hm] at he
      rw [← he]
      exact H1.out
end Go.Proofs.Ythblincfnfpgbaa.Q
