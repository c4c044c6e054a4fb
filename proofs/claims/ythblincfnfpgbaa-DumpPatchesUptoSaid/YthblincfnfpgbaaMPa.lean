import Derived.Test.YthblincfnfpgbaaQxH4g
import Derived.Test.YthblincfnfpgbaaQx25
import Derived.Test.YthblincfnfpgbaaQxV
import Derived.Test.YthblincfnfpgbaaQx29
import Derived.Test.YthblincfnfpgbaaQx0
import Derived.Test.YthblincfnfpgbaaQx33
import Derived.Test.YthblincfnfpgbaaQxH3
import Derived.Test.YthblincfnfpgbaaQxLive
import Derived.Test.YthblincfnfpgbaaQxO82
import Derived.Test.YthblincfnfpgbaaQx18
namespace Go.Proofs.Ythblincfnfpgbaa.Q
open Go.RowKit Go.Proofs.YthblincfnfpgbaaW.PrintWords Go.Proofs.YthblincfnfpgbaaW.PrintLast Go.Proofs.YthblincfnfpgbaaW.PrintMore
set_option linter.unusedVariables false
/-- Patch refuses: something is not right. -/
def patBad (a : List S82) (l : List S30) : Bool := !risingS a || !risingC l || l.any (fun x => !isRightB x)
def patR (a : List S82) (l : List S30) : List S82 × Int := if patBad a l = true then ([], 52) else if patF a l = true then (patO a l, 0) else ([], 4)
theorem visP_start {w0 w : World} (hb : Below w0.heap.size w0 w) : VisP w0 w.heap.size (w.heap.size + 1) true [] ((w.alloc (.cells #[.slice none 0 0] 22)).alloc (.cells #[.bool true] 4)) := by
  have h1 := hb.alloc hb.size (.cells #[.slice none 0 0] 22)
  have hs : (w.alloc (.cells #[.slice none 0 0] 22)).heap.size = w.heap.size + 1 := by simp
  have hsz := hb.size
  refine ⟨h1.alloc (by omega) _, ?_, .slice none 0 0, blk_alloc (blk_new w _) _, Kd.R_nil k82 82 _ _ _⟩
  have := blk_new (w.alloc (.cells #[.slice none 0 0] 22)) (.cells #[.bool true] 4)
  rwa [hs] at this
theorem contains_v (A : Option Addr) (c : Nat) (l : List S30) (b : Bool) (w : World) (hA : Kd.C k30 w A l.length l) (hl : l.length < 4398046511104) (h : l.any (fun x => !isRightB x) = b) :
    Calls Try.prog 47 #[.slice A l.length c, .func (.func 44) #[] #[]] w fun e w' => e = .returned (.bool b) ∧ Below w.heap.size w w' := by
  subst h; exact contains_c A c l w hA hl
theorem risingC_v (A : Option Addr) (c : Nat) (l : List S30) (b : Bool) (w : World) (hA : Kd.C k30 w A l.length l) (hl : l.length < 4398046511104) (h : risingC l = b) :
    Calls Try.prog 45 #[.slice A l.length c, .func (.func 46) #[] #[]] w fun e w' => e = .returned (.bool b) ∧ Below w.heap.size w w' := by
  subst h; exact risingC_c A c l w hA hl
set_option maxHeartbeats 4000000 in
set_option maxRecDepth 100000 in
theorem patch_c (A0 : Option Addr) (c0 : Nat) (a : List S82) (A1 : Option Addr) (c1 : Nat) (l : List S30) (w : World) (hA : Kd.C k82 w A0 a.length a) (hc0 : a.length ≤ c0) (hB : Kd.C k30 w A1 l.length l) (hc1 : l.length ≤ c1) (hl : a.length + l.length < 4398046511104) :
    Calls Try.prog 15 #[.slice A0 a.length c0, .slice A1 l.length c1] w fun e w' => ∃ v0_ : Value, e = .returned (.tuple #[v0_, .int .i64 (patR a l).2]) ∧ Kd.R k82 82 w' w.heap.size (fun _ => True) v0_ (patR a l).1 ∧ Below w.heap.size w w' := by
  have hu22 := Try.underlying22
  have HA := Lib.hid hA
  have HA' := Lib.hid hc0
  have HB := Lib.hid hB
  have HB' := Lib.hid hc1
  have HL := Lib.hid hl
  clear hA hc0 hB hc1 hl
  have HLB := Lib.hid (show l.length < 4398046511104 by have := HL.out; omega)
  obtain ⟨b1, h1⟩ : ∃ b, risingS a = b := ⟨_, rfl⟩
  obtain ⟨b2, h2⟩ : ∃ b, risingC l = b := ⟨_, rfl⟩
  obtain ⟨b3, h3⟩ : ∃ b, l.any (fun x => !isRightB x) = b := ⟨_, rfl⟩
  have H1 := Lib.hid h1
  have H2 := Lib.hid h2
  have H3 := Lib.hid h3
  have HR : Hid (patBad a l = (!b1 || !b2 || b3)) := Lib.hid (by unfold patBad; rw [h1, h2, h3])
  clear h1 h2 h3
  cases b1
  · obtain ⟨r, hr⟩ : ∃ r, patR a l = r := ⟨_, rfl⟩
    have hr0 : r = ([], 52) := by rw [← hr]; unfold patR; rw [HR.out]; rfl
    subst hr0
    rw [hr]
    clear hr
    go_enter Try.func15, Try.ntmps15
    go_wp2_with fail
    go_at_call 39
    refine (right_c _ _ _ _ _ HA.out HA'.out H1.out).mono ?_
    rintro e w1 ⟨rfl, hb⟩
    have HW1 := Lib.hid hb
    clear hb
    go_wp2_with fail
    go_ret2
    exact ⟨_, rfl, Kd.R_nil k82 82 _ _ _, HW1.out⟩
  · cases b2
    · obtain ⟨r, hr⟩ : ∃ r, patR a l = r := ⟨_, rfl⟩
      have hr0 : r = ([], 52) := by rw [← hr]; unfold patR; rw [HR.out]; rfl
      subst hr0
      rw [hr]
      clear hr
      go_enter Try.func15, Try.ntmps15
      go_wp2_with fail
      go_at_call 39
      refine (right_c _ _ _ _ _ HA.out HA'.out H1.out).mono ?_
      rintro e w1 ⟨rfl, hb⟩
      have HW1 := Lib.hid hb
      clear hb
      go_wp2_with fail
      go_at_call 45
      refine (risingC_v _ _ _ _ _ (Kd.C_below HB.out HW1.out) HLB.out H2.out).mono ?_
      rintro e w2 ⟨rfl, hb⟩
      have HW2 := Lib.hid (HW1.out.trans (hb.mono HW1.out.size))
      clear hb
      go_wp2_with fail
      go_ret2
      exact ⟨_, rfl, Kd.R_nil k82 82 _ _ _, HW2.out⟩
    · cases b3
      · obtain ⟨f, hf⟩ : ∃ f, patF a l = f := ⟨_, rfl⟩
        have HF := Lib.hid hf
        clear hf
        obtain ⟨r, hr⟩ : ∃ r, patR a l = r := ⟨_, rfl⟩
        have hr0 : r = (if f = true then (patO a l, 0) else ([], 4)) := by rw [← hr]; unfold patR; rw [HR.out, HF.out]; rfl
        rw [hr]
        clear hr
        have HR0 := Lib.hid hr0
        clear hr0
        go_enter Try.func15, Try.ntmps15
        go_wp2_with fail
        go_at_call 39
        refine (right_c _ _ _ _ _ HA.out HA'.out H1.out).mono ?_
        rintro e w1 ⟨rfl, hb⟩
        have HW1 := Lib.hid hb
        clear hb
        go_wp2_with fail
        go_at_call 45
        refine (risingC_v _ _ _ _ _ (Kd.C_below HB.out HW1.out) HLB.out H2.out).mono ?_
        rintro e w2 ⟨rfl, hb⟩
        have HW2 := Lib.hid (HW1.out.trans (hb.mono HW1.out.size))
        clear hb
        go_wp2_with fail
        go_at_call 47
        refine (contains_v _ _ _ _ _ (Kd.C_below HB.out HW2.out) HLB.out H3.out).mono ?_
        rintro e w3 ⟨rfl, hb⟩
        have HW3 := Lib.hid (HW2.out.trans (hb.mono HW2.out.size))
        clear hb
        go_wp2_with fail
        go_at_call 48
        refine (beside30_c w _ w3.heap.size (w3.heap.size + 1) _ _ a l ((HW3.out.alloc HW3.out.size _).alloc (by have := HW3.out.size; simp; omega) _) HW3.out.size (by have := HW3.out.size; omega) (visP_start HW3.out) ⟨_, _, rfl, HA'.out, HA.out⟩ ⟨_, _, rfl, HB'.out, HB.out⟩ HL.out).mono ?_
        rintro e w4 ⟨rfl, hv⟩
        obtain ⟨hb4, hh4, v, hx, hR⟩ := hv
        obtain ⟨A3, c3, rfl⟩ := Kd.R_slice hR
        have hc3 : w4.cell? ⟨w3.heap.size, 0, none⟩ = some (.slice A3 (patO a l).length c3) := (blk_cell hx 0).trans rfl
        have hc4 : w4.cell? ⟨w3.heap.size + 1, 0, none⟩ = some (.bool f) := by rw [← HF.out]; exact (blk_cell hh4 0).trans rfl
        have HB4 := Lib.hid hb4
        have HR4 := Lib.hid hR
        clear hb4 hx hR hh4
        cases f
        · obtain rfl : r = ([], 4) := HR0.out
          go_wp2
          go_ret2
          exact ⟨_, rfl, Kd.R_nil k82 82 _ _ _, HB4.out⟩
        · obtain rfl : r = (patO a l, 0) := HR0.out
          go_wp2
          go_ret2
          exact ⟨_, rfl, Kd.R_mono HR4.out (fun _ _ => trivial), HB4.out⟩
      · obtain ⟨r, hr⟩ : ∃ r, patR a l = r := ⟨_, rfl⟩
        have hr0 : r = ([], 52) := by rw [← hr]; unfold patR; rw [HR.out]; rfl
        subst hr0
        rw [hr]
        clear hr
        go_enter Try.func15, Try.ntmps15
        go_wp2_with fail
        go_at_call 39
        refine (right_c _ _ _ _ _ HA.out HA'.out H1.out).mono ?_
        rintro e w1 ⟨rfl, hb⟩
        have HW1 := Lib.hid hb
        clear hb
        go_wp2_with fail
        go_at_call 45
        refine (risingC_v _ _ _ _ _ (Kd.C_below HB.out HW1.out) HLB.out H2.out).mono ?_
        rintro e w2 ⟨rfl, hb⟩
        have HW2 := Lib.hid (HW1.out.trans (hb.mono HW1.out.size))
        clear hb
        go_wp2_with fail
        go_at_call 47
        refine (contains_v _ _ _ _ _ (Kd.C_below HB.out HW2.out) HLB.out H3.out).mono ?_
        rintro e w3 ⟨rfl, hb⟩
        have HW3 := Lib.hid (HW2.out.trans (hb.mono HW2.out.size))
        clear hb
        go_wp2_with fail
        go_ret2
        exact ⟨_, rfl, Kd.R_nil k82 82 _ _ _, HW3.out⟩
end Go.Proofs.Ythblincfnfpgbaa.Q
namespace Go.Proofs.Ythblincfnfpgbaa.Q
open Go.RowKit Go.Proofs.YthblincfnfpgbaaW.PrintWords Go.Proofs.YthblincfnfpgbaaW.PrintLast Go.Proofs.YthblincfnfpgbaaW.PrintMore
set_option linter.unusedVariables false
theorem w1 (i : Nat) (h : i < 4398046511104) : wrap64 ((i : Int) + 1) = ((i + 1 : Nat) : Int) := by unfold wrap64; omega
theorem refRight_n (l : List S82) (hl : l.length < 4398046511104) (d : Nat) : ∀ (k i : Nat), i + d = l.length → d < k → 0 < i → shutterref27_right.l0 k l i = some (risingS (l.drop (i - 1))) := by
  induction d with
  | zero =>
    intro k i h hk hi
    obtain ⟨k, rfl⟩ : ∃ m, k = m + 1 := ⟨k - 1, by omega⟩
    simp only [shutterref27_right.l0]
    rw [if_neg (by omega), risingS_end l (i - 1) (by omega)]
  | succ d ih =>
    intro k i h hk hi
    obtain ⟨k, rfl⟩ : ∃ m, k = m + 1 := ⟨k - 1, by omega⟩
    obtain ⟨j, rfl⟩ : ∃ j, i = j + 1 := ⟨i - 1, by omega⟩
    have e : wrap64 (((j + 1 : Nat) : Int) - 1) = (j : Int) := by unfold wrap64; omega
    simp only [shutterref27_right.l0, e]
    rw [if_pos (by omega), if_pos (by omega), if_pos (by omega), if_pos (by omega), rd82 l _ (j + 1) rfl (by omega), rd82 l _ j rfl (by omega), Nat.add_sub_cancel, risingS_drop l j (by omega)]
    by_cases c : l[j + 1].f0 ≤ l[j].f0
    · rw [if_pos c, decide_eq_false (by omega)]
      rfl
    · rw [if_neg c, decide_eq_true (by omega), w1 _ (by omega), ih k (j + 1 + 1) (by omega) (by omega) (by omega)]
      rfl
theorem refRight_f (l : List S82) (hl : l.length < 4398046511104) (k : Nat) (hk : l.length + 1 < k) : shutterref27_right.f k l = some (risingS l) := by
  unfold shutterref27_right.f
  rcases Nat.eq_zero_or_pos l.length with h | h
  · obtain ⟨k, rfl⟩ : ∃ m, k = m + 1 := ⟨k - 1, by omega⟩
    obtain rfl : l = [] := List.eq_nil_of_length_eq_zero h
    rfl
  · have := refRight_n l hl (l.length - 1) k 1 (by omega) (by omega) (by omega)
    exact this
def cv (c : S30) : S102 := ⟨c.f0, c.f1, c.f2, c.f3, c.f4⟩
end Go.Proofs.Ythblincfnfpgbaa.Q
namespace Go.Proofs.Ythblincfnfpgbaa.Q
open Go.RowKit Go.Proofs.YthblincfnfpgbaaW.PrintWords Go.Proofs.YthblincfnfpgbaaW.PrintLast Go.Proofs.YthblincfnfpgbaaW.PrintMore
set_option linter.unusedVariables false
set_option linter.unusedSimpArgs false
theorem badX_cv (c : S30) : badX (cv c) = !isRightB c := by
  obtain ⟨a, b, c, d, e⟩ := c
  unfold badX cv isRightB
  cases b <;> cases c <;> simp [bne, Bool.decide_eq_true] <;> rfl
theorem rdcv (l : List S30) (i : Nat) (h : i < l.length) : rd_T102 (l.map cv) (i : Int) = cv l[i] := by
  unfold rd_T102; simp [List.getD_eq_getElem?_getD, List.getElem?_eq_getElem h]
theorem okN_s (l : List S30) (m : Nat) : ∀ i, i + m = l.length → 0 < i → okN (l.map cv) m = (risingC (l.drop (i - 1)) && (l.drop i).all (fun c => isRightB c)) := by
  induction m with
  | zero =>
    intro i h hi
    rw [risingC_end l (i - 1) (by omega), List.drop_of_length_le (by omega)]
    rfl
  | succ m ih =>
    intro i h hi
    obtain ⟨j, rfl⟩ : ∃ j, i = j + 1 := ⟨i - 1, by omega⟩
    rw [okN, ih (j + 1 + 1) (by omega) (by omega)]
    have e : ((l.map cv).length : Int) - ((m + 1 : Nat) : Int) = ((j + 1 : Nat) : Int) := by rw [List.length_map]; omega
    rw [e, okAt, show ((j + 1 : Nat) : Int) - 1 = (j : Int) by omega, rdcv l (j + 1) (by omega), rdcv l j (by omega), badX_cv, Nat.add_sub_cancel, Nat.add_sub_cancel, risingC_drop l j (by omega),
      List.drop_eq_getElem_cons (show j + 1 < l.length by omega), List.all_cons, decide_eq_false (show ¬ ((j + 1 : Nat) : Int) ≤ 0 by omega)]
    change (!(!isRightB l[j + 1]) && (false || decide (l[j].f0 < l[j + 1].f0)) && _) = _
    simp only [Bool.not_not, Bool.false_or]
    generalize isRightB l[j + 1] = p
    generalize decide (l[j].f0 < l[j + 1].f0) = q
    generalize risingC _ = r
    generalize List.all _ _ = s
    cases p <;> cases q <;> cases r <;> cases s <;> rfl
theorem okN_f (l : List S30) : okN (l.map cv) l.length = (risingC l && l.all (fun c => isRightB c)) := by
  rcases Nat.eq_zero_or_pos l.length with h | h
  · obtain rfl : l = [] := List.eq_nil_of_length_eq_zero h
    rfl
  · obtain ⟨m, hm⟩ : ∃ m, l.length = m + 1 := ⟨l.length - 1, by omega⟩
    rw [hm, okN, okN_s l m 1 (by omega) (by omega), show ((l.map cv).length : Int) - ((m + 1 : Nat) : Int) = ((0 : Nat) : Int) by rw [List.length_map]; omega, okAt, rdcv l 0 h, badX_cv]
    have e : l.all (fun c => isRightB c) = (isRightB l[0] && (l.drop 1).all (fun c => isRightB c)) := by
      conv => lhs; rw [← List.drop_zero (l := l), List.drop_eq_getElem_cons h]
      rfl
    rw [e, decide_eq_true (show ((0 : Nat) : Int) ≤ 0 by omega)]
    simp only [Nat.sub_self, List.drop_zero, Bool.not_not, Bool.true_or, Bool.and_true]
    generalize isRightB l[0] = p
    generalize risingC _ = r
    cases p <;> cases r <;> rfl
theorem bad_f (a : List S82) (l : List S30) : patBad a l = !(risingS a && okN (l.map cv) l.length) := by
  rw [okN_f, patBad]
  have e : l.any (fun x => !isRightB x) = !l.all (fun c => isRightB c) := by
    induction l with
    | nil => rfl
    | cons c l ih => rw [List.any_cons, List.all_cons, ih]; cases isRightB c <;> rfl
  rw [e]
  cases risingS a <;> cases risingC l <;> cases l.all (fun c => isRightB c) <;> rfl
/-- A key's value. -/
def findS : List S82 → Int → Int × Bool
  | [], _ => (0, false)
  | x :: a, k => if x.f0 = k then (x.f1, true) else findS a k
def hasC (l : List S30) (k : Int) : Bool := l.any (fun c => decide (c.f0 = k))
theorem find_n (a : List S82) (key : Int) (hl : a.length < 4398046511104) (d : Nat) : ∀ (k i : Nat), i + d = a.length → d < k → shutterref27_find.l0 k a key i = some (findS (a.drop i) key) := by
  induction d with
  | zero =>
    intro k i h hk
    obtain ⟨k, rfl⟩ : ∃ m, k = m + 1 := ⟨k - 1, by omega⟩
    simp only [shutterref27_find.l0]
    rw [if_neg (by omega), List.drop_of_length_le (by omega)]
    rfl
  | succ d ih =>
    intro k i h hk
    obtain ⟨k, rfl⟩ : ∃ m, k = m + 1 := ⟨k - 1, by omega⟩
    have hi : i < a.length := by omega
    simp only [shutterref27_find.l0]
    rw [if_pos (by omega), if_pos (by omega), rd82 a _ i rfl hi, List.drop_eq_getElem_cons hi, findS]
    split
    · rfl
    · rw [w1 i (by omega)]
      exact ih k (i + 1) (by omega) (by omega)
theorem find_f (a : List S82) (key : Int) (hl : a.length < 4398046511104) (k : Nat) (hk : a.length < k) : shutterref27_find.f k a key = some (findS a key) := find_n a key hl a.length k 0 (by omega) hk
theorem change_n (l : List S30) (key : Int) (hl : l.length < 4398046511104) (d : Nat) : ∀ (k i : Nat), i + d = l.length → d < k → ∃ r, shutterref27_change.l0 k (l.map cv) key i = some r ∧ r.2.2.2.2.2 = hasC (l.drop i) key := by
  induction d with
  | zero =>
    intro k i h hk
    obtain ⟨k, rfl⟩ : ∃ m, k = m + 1 := ⟨k - 1, by omega⟩
    simp only [shutterref27_change.l0]
    rw [if_neg (by rw [List.length_map]; omega), List.drop_of_length_le (by omega)]
    exact ⟨_, rfl, rfl⟩
  | succ d ih =>
    intro k i h hk
    obtain ⟨k, rfl⟩ : ∃ m, k = m + 1 := ⟨k - 1, by omega⟩
    have hi : i < l.length := by omega
    simp only [shutterref27_change.l0]
    rw [if_pos (by rw [List.length_map]; omega), if_pos (by omega), rdcv l i hi, List.drop_eq_getElem_cons hi]
    have e : hasC (l[i] :: l.drop (i + 1)) key = (decide (l[i].f0 = key) || hasC (l.drop (i + 1)) key) := rfl
    rw [e]
    by_cases c : l[i].f0 = key
    · rw [if_pos (by exact c), decide_eq_true c]
      exact ⟨_, rfl, rfl⟩
    · rw [if_neg (by exact c), decide_eq_false c, w1 i (by omega)]
      exact ih k (i + 1) (by omega) (by omega)
theorem change_f (l : List S30) (key : Int) (hl : l.length < 4398046511104) (k : Nat) (hk : l.length < k) : ∃ r, shutterref27_change.f k (l.map cv) key = some r ∧ r.2.2.2.2.2 = hasC l key := change_n l key hl l.length k 0 (by omega) hk
/-- Do the changes say what is there? -/
def fitS (a : List S82) (l : List S30) : Bool := l.all (fun c => ((findS a c.f0).2 == c.f1) && decide ((findS a c.f0).1 = c.f3))
/-- What the document puts out: of the pairs those that no change of all names. -/
def outR (all : List S30) : List S82 → List S30 → List S82
  | [], [] => []
  | x :: a, [] => (if hasC all x.f0 = true then [] else [x]) ++ outR all a []
  | [], c :: l => putC c ++ outR all [] l
  | x :: a, c :: l => if x.f0 < c.f0 then (if hasC all x.f0 = true then [] else [x]) ++ outR all a (c :: l) else putC c ++ outR all (x :: a) l
termination_by a b => a.length + b.length
theorem fit_n (a : List S82) (l : List S30) (ha : a.length < 4398046511104) (hl : l.length < 4398046511104) (d : Nat) : ∀ (k i : Nat), i + d = l.length → a.length < k →
    shutterref27_Patch.l0 (k + d + 1) a (l.map cv) i = if fitS a (l.drop i) = true then shutterref27_Patch.l1 k a (l.map cv) [] 0 0 else some ([], 4) := by
  induction d with
  | zero =>
    intro k i h hk
    simp only [shutterref27_Patch.l0]
    rw [if_neg (by rw [List.length_map]; omega), List.drop_of_length_le (by omega)]
    rfl
  | succ d ih =>
    intro k i h hk
    have hi : i < l.length := by omega
    rw [show k + (d + 1) + 1 = (k + d + 1) + 1 by omega, shutterref27_Patch.l0]
    rw [if_pos (by rw [List.length_map]; omega), if_pos (by omega), rdcv l i hi, find_f a _ ha _ (by omega), List.drop_eq_getElem_cons hi, w1 i (by omega), ih k (i + 1) (by omega) hk]
    have e : fitS a (l[i] :: l.drop (i + 1)) = ((((findS a l[i].f0).2 == l[i].f1) && decide ((findS a l[i].f0).1 = l[i].f3)) && fitS a (l.drop (i + 1))) := rfl
    rw [e]
    clear e
    generalize l[i] = x
    obtain ⟨x0, x1, x2, x3, x4⟩ := x
    simp only [Option.bind_some]
    by_cases h2 : (findS a x0).1 = x3
    · cases h3 : (findS a x0).2 <;> cases x1 <;> simp [cv, h2, h3]
    · cases h3 : (findS a x0).2 <;> cases x1 <;> simp [cv, h2, h3]
theorem out_n (a : List S82) (l : List S30) (hl : a.length + l.length < 4398046511104) (d : Nat) : ∀ (k i j : Nat) (acc : List S82), i ≤ a.length → j ≤ l.length → (a.length - i) + (l.length - j) = d → 3 * d + 8 + l.length ≤ k → acc.length + d ≤ a.length + l.length →
    shutterref27_Patch.l2 k a (l.map cv) acc i j = some (acc ++ outR l (a.drop i) (l.drop j), 0) := by
  induction d using Nat.strongRecOn with
  | _ d ih =>
    intro k i j acc hi hj hd hk ha
    obtain ⟨k, rfl⟩ : ∃ m, k = m + 4 := ⟨k - 4, by omega⟩
    -- what j4 makes of a 'yes' and of a 'no'
    have yes : ∀ h1 : i < a.length, shutterref27_Patch.j4 (k + 3) a (l.map cv) acc i j true = some (acc ++ ((if hasC l a[i].f0 = true then [] else [a[i]]) ++ outR l (a.drop (i + 1)) (l.drop j)), 0) := by
      intro h1
      obtain ⟨r, hr, hr2⟩ := change_f l a[i].f0 (by omega) (k + 2) (by omega)
      rw [shutterref27_Patch.j4, if_pos rfl, if_pos (by omega), if_pos (by omega), rd82 a _ i rfl h1, hr]
      simp only [Option.bind_some, hr2]
      by_cases hc : hasC l a[i].f0 = true
      · rw [if_pos hc, if_pos hc, w1 i (by omega), ih (d - 1) (by omega) (k + 2) (i + 1) j acc (by omega) hj (by omega) (by omega) (by omega)]
        rfl
      · rw [if_neg hc, if_neg hc, if_pos (by omega), w1 i (by omega), ih (d - 1) (by omega) (k + 2) (i + 1) j _ (by omega) hj (by omega) (by omega) (by simp; omega), List.append_assoc]
    have no : ∀ h2 : j < l.length, shutterref27_Patch.j4 (k + 3) a (l.map cv) acc i j false = some (acc ++ (putC l[j] ++ outR l (a.drop i) (l.drop (j + 1))), 0) := by
      intro h2
      rw [shutterref27_Patch.j4, if_neg (by decide), if_pos (by rw [List.length_map]; omega), if_pos (by omega), rdcv l j h2, putC]
      by_cases hc : l[j].f2 = true
      · rw [if_pos (by exact hc), if_pos hc, if_pos (by omega), w1 j (by omega), shutterref27_Patch.l1, if_pos (by rw [List.length_map]; omega), ih (d - 1) (by omega) (k + 1) i (j + 1) _ hi (by omega) (by omega) (by omega) (by simp; omega), List.append_assoc]
        rfl
      · rw [if_neg (by exact hc), if_neg hc, w1 j (by omega), shutterref27_Patch.l1, if_pos (by rw [List.length_map]; omega), ih (d - 1) (by omega) (k + 1) i (j + 1) _ hi (by omega) (by omega) (by omega) (by omega)]
        rfl
    rw [shutterref27_Patch.l2]
    by_cases h1 : i < a.length
    · rw [if_pos (by omega), List.drop_eq_getElem_cons h1]
      by_cases h2 : j < l.length
      · rw [if_neg (by rw [List.length_map]; omega), if_pos (by omega), if_pos (by omega), if_pos (by rw [List.length_map]; omega), rd82 a _ i rfl h1, rdcv l j h2, List.drop_eq_getElem_cons h2, outR]
        by_cases hc : a[i].f0 < l[j].f0
        · rw [if_pos hc, decide_eq_true (by exact hc), yes h1, List.drop_eq_getElem_cons h2]
        · rw [if_neg hc, decide_eq_false (by exact hc), no h2, List.drop_eq_getElem_cons h1]
      · rw [if_pos (by rw [List.length_map]; omega), yes h1, List.drop_of_length_le (show l.length ≤ j by omega), outR]
    · rw [if_neg (by omega), List.drop_of_length_le (show a.length ≤ i by omega)]
      by_cases h2 : j < l.length
      · rw [no h2, List.drop_eq_getElem_cons h2, outR, List.drop_of_length_le (show a.length ≤ i by omega)]
      · rw [shutterref27_Patch.j4, if_neg (by decide), if_neg (by rw [List.length_map]; omega), w1 j (by omega), shutterref27_Patch.l1, if_neg (by rw [List.length_map]; omega), List.drop_of_length_le (show l.length ≤ j by omega), outR, List.append_nil]
/-- Do keys rise, all above? -/
theorem risingS_cons {x : S82} {a : List S82} (h : risingS (x :: a) = true) : risingS a = true ∧ ∀ y ∈ a, x.f0 < y.f0 := by
  induction a generalizing x with
  | nil => exact ⟨rfl, by simp⟩
  | cons y a ih =>
    have h' : (decide (x.f0 < y.f0) && risingS (y :: a)) = true := h
    simp only [Bool.and_eq_true, decide_eq_true_eq] at h'
    refine ⟨h'.2, fun z hz => ?_⟩
    rcases List.mem_cons.1 hz with rfl | hz
    · exact h'.1
    · have := (ih h'.2).2 z hz
      omega
theorem risingC_cons {x : S30} {a : List S30} (h : risingC (x :: a) = true) : risingC a = true ∧ ∀ y ∈ a, x.f0 < y.f0 := by
  induction a generalizing x with
  | nil => exact ⟨rfl, by simp⟩
  | cons y a ih =>
    have h' : (decide (x.f0 < y.f0) && risingC (y :: a)) = true := h
    simp only [Bool.and_eq_true, decide_eq_true_eq] at h'
    refine ⟨h'.2, fun z hz => ?_⟩
    rcases List.mem_cons.1 hz with rfl | hz
    · exact h'.1
    · have := (ih h'.2).2 z hz
      omega
theorem findS_none (a : List S82) (k : Int) (h : ∀ x ∈ a, x.f0 ≠ k) : findS a k = (0, false) := by
  induction a with
  | nil => rfl
  | cons x a ih =>
    rw [findS, if_neg (h x (by simp))]
    exact ih (fun y hy => h y (by simp [hy]))
theorem fitS_skip (x : S82) (a : List S82) (l : List S30) (h : ∀ c ∈ l, x.f0 ≠ c.f0) : fitS (x :: a) l = fitS a l := by
  induction l with
  | nil => rfl
  | cons c l ih =>
    have e : ∀ b, fitS b (c :: l) = ((((findS b c.f0).2 == c.f1) && decide ((findS b c.f0).1 = c.f3)) && fitS b l) := fun _ => rfl
    rw [e, e, ih (fun d hd => h d (by simp [hd])), findS, if_neg (h c (by simp))]
theorem isRight_none {c : S30} (h : isRightB c = true) (h1 : c.f1 = false) : c.f3 = 0 := by
  unfold isRightB at h
  rw [h1] at h
  simp at h
  exact h.2
theorem fit_eq (a : List S82) (l : List S30) (ha : risingS a = true) (hl : risingC l = true) (hr : ∀ c ∈ l, isRightB c = true) : fitS a l = patF a l := by
  have e : ∀ (b : List S82) (c : S30) (l : List S30), fitS b (c :: l) = ((((findS b c.f0).2 == c.f1) && decide ((findS b c.f0).1 = c.f3)) && fitS b l) := fun _ _ _ => rfl
  have n : ∀ c : S30, isRightB c = true → ((false == c.f1) && decide ((0 : Int) = c.f3)) = !c.f1 := by
    intro c hc
    cases h : c.f1
    · rw [isRight_none hc h]; rfl
    · rfl
  fun_induction patF a l
  case case1 => rfl
  case case2 x a ih => rw [← ih (risingS_cons ha).1 hl hr]; rfl
  case case3 c l ih =>
    rw [e, findS, n c (hr c (by simp)), ih rfl (risingC_cons hl).1 (fun d hd => hr d (by simp [hd]))]
  case case4 x a c l h ih =>
    rw [← ih (risingS_cons ha).1 hl hr]
    refine fitS_skip x a (c :: l) (fun d hd => ?_)
    rcases List.mem_cons.1 hd with rfl | hd
    · omega
    · have := (risingC_cons hl).2 d hd
      omega
  case case5 x a c l h h2 ih =>
    rw [e, findS_none (x :: a) c.f0 (fun y hy => ?_), n c (hr c (by simp)), ih ha (risingC_cons hl).1 (fun d hd => hr d (by simp [hd]))]
    rcases List.mem_cons.1 hy with rfl | hy
    · omega
    · have := (risingS_cons ha).2 y hy
      omega
  case case6 x a c l h h2 ih =>
    rw [e, findS, if_pos (by omega), fitS_skip x a l (fun d hd => by have := (risingC_cons hl).2 d hd; omega), ih (risingS_cons ha).1 (risingC_cons hl).1 (fun d hd => hr d (by simp [hd]))]
    have e1 : (true == c.f1) = c.f1 := by cases c.f1 <;> rfl
    have e2 : decide (x.f1 = c.f3) = (c.f3 == x.f1) := by rw [Bool.eq_iff_iff, decide_eq_true_iff, beq_iff_eq]; exact eq_comm
    simp only [e1, e2]
theorem hasC_not (l : List S30) (k : Int) (h : ∀ c ∈ l, c.f0 ≠ k) : hasC l k = false := by
  unfold hasC
  rw [List.any_eq_false]
  intro c hc
  simpa using h c hc
theorem out_eq (all : List S30) (a : List S82) (l : List S30) : ∀ pre, all = pre ++ l → (∀ p ∈ pre, ∀ x ∈ a, p.f0 < x.f0) → risingS a = true → risingC l = true → outR all a l = patO a l := by
  fun_induction patO a l
  case case1 => intros; rw [outR]
  case case2 x a ih =>
    intro pre h1 h2 h3 h4
    rw [outR, hasC_not all x.f0, if_neg (by decide), ih pre h1 (fun p hp y hy => h2 p hp y (by simp [hy])) (risingS_cons h3).1 h4]
    · rfl
    · intro c hc
      subst h1
      have := h2 c (by simpa using hc) x (by simp)
      omega
  case case3 c l ih =>
    intro pre h1 h2 h3 h4
    rw [outR, ih (pre ++ [c]) (by rw [h1]; simp) (by simp) h3 (risingC_cons h4).1]
    rfl
  case case4 x a c l h ih =>
    intro pre h1 h2 h3 h4
    rw [outR, if_pos h, hasC_not all x.f0, if_neg (by decide), ih pre h1 (fun p hp y hy => h2 p hp y (by simp [hy])) (risingS_cons h3).1 h4]
    · rfl
    · intro d hd
      subst h1
      rcases List.mem_append.1 hd with hd | hd
      · have := h2 d hd x (by simp)
        omega
      · rcases List.mem_cons.1 hd with rfl | hd
        · omega
        · have := (risingC_cons h4).2 d hd
          omega
  case case5 x a c l h h5 ih =>
    intro pre h1 h2 h3 h4
    rw [outR, if_neg h, ih (pre ++ [c]) (by rw [h1]; simp) ?_ h3 (risingC_cons h4).1]
    · rfl
    · intro p hp y hy
      rcases List.mem_append.1 hp with hp | hp
      · exact h2 p hp y hy
      · obtain rfl : p = c := by simpa using hp
        rcases List.mem_cons.1 hy with rfl | hy
        · exact h5
        · have := (risingS_cons h3).2 y hy
          omega
  case case6 x a c l h h5 ih =>
    intro pre h1 h2 h3 h4
    have hx : hasC all x.f0 = true := by
      rw [h1]
      simp only [hasC, List.any_append, List.any_cons]
      rw [decide_eq_true (show c.f0 = x.f0 by omega)]
      simp
    have hs : outR all (x :: a) l = outR all a l := by
      cases l with
      | nil => rw [outR, if_pos hx]; rfl
      | cons d l => rw [outR, if_pos (by have := (risingC_cons h4).2 d (by simp); omega), if_pos hx]; rfl
    rw [outR, if_neg h, hs, ih (pre ++ [c]) (by rw [h1]; simp) ?_ (risingS_cons h3).1 (risingC_cons h4).1]
    · rfl
    · intro p hp y hy
      rcases List.mem_append.1 hp with hp | hp
      · exact h2 p hp y (by simp [hy])
      · obtain rfl : p = c := by simpa using hp
        have := (risingS_cons h3).2 y hy
        omega
theorem refPatch_f (a : List S82) (l : List S30) (hl : a.length + l.length < 1353245080339) : shutterref27_Patch.f (8 * (a.length + l.length) + 20) a (l.map cv) = some (patR a l) := by
  have hb := bad_f a l
  unfold shutterref27_Patch.f
  rw [refRight_f a (by omega) _ (by omega)]
  simp only [Option.bind_some, shutterref27_changes.f, List.length_map]
  unfold patR
  cases h1 : risingS a
  · rw [if_neg (by decide), show 8 * (a.length + l.length) + 20 = (8 * (a.length + l.length) + 19) + 1 by omega, shutterref27_Patch.j0, if_pos rfl, hb, h1]
    rfl
  · rw [if_pos rfl, show 8 * (a.length + l.length) + 20 = (8 * (a.length + l.length) + 19) + 1 by omega, shutterref27_Patch.j0]
    cases h2 : okN (l.map cv) l.length
    · rw [if_pos (show (!false) = true from rfl), hb, h1, h2]
      rfl
    · rw [if_neg (by decide), hb, h1, h2, if_neg (by decide)]
      rw [okN_f, Bool.and_eq_true] at h2
      have h3 : ∀ c ∈ l, isRightB c = true := by have := h2.2; simpa using this
      have := fit_n a l (by omega) (by omega) l.length (8 * (a.length + l.length) + 18 - l.length) 0 (by omega) (by omega)
      rw [show 8 * (a.length + l.length) + 19 = (8 * (a.length + l.length) + 18 - l.length) + l.length + 1 by omega]
      rw [show ((0 : Int)) = ((0 : Nat) : Int) by rfl, this, List.drop_zero, fit_eq a l h1 h2.1 h3]
      split
      · rw [show 8 * (a.length + l.length) + 18 - l.length = (8 * (a.length + l.length) + 17 - l.length) + 1 by omega, shutterref27_Patch.l1, if_pos (by omega)]
        have h4 := out_n a l (by omega) (a.length + l.length) (8 * (a.length + l.length) + 17 - l.length) 0 0 [] (by omega) (by omega) (by omega) (by omega) (by simp)
        rw [show ((0 : Int)) = ((0 : Nat) : Int) by rfl, h4, List.drop_zero, List.drop_zero, out_eq l a l [] rfl (by simp) h1 h2.1]
        rfl
      · rfl
end Go.Proofs.Ythblincfnfpgbaa.Q
-- Written by a program of this session over the kit's print.py, which was handed contracts that were proved by hand. Lean checks it.
namespace Go.Proofs.Ythblincfnfpgbaa.Q
open Go.RowKit Go.Proofs.YthblincfnfpgbaaW.PrintWords Go.Proofs.YthblincfnfpgbaaW.PrintLast Go.Proofs.YthblincfnfpgbaaW.PrintMore
attribute [local go_sem] max2_int min2_int max_two min_two max_three min_three max_four min_four   -- for this text's walks alone
set_option linter.unusedVariables false
set_option linter.unusedSimpArgs false

theorem eqA82 (d : Nat) (w : World) (x0 y0 : Int) (x1 y1 : Int) :
    (Op.equalIn (d + 2) 82 (.agg #[.int .u64 x0, .int .u64 x1]) (.agg #[.int .u64 y0, .int .u64 y1])).run Try.prog w = .ok (x0 == y0 && (x1 == y1)) w := by
  refine eqA_of Try.underlying82 (by kernel_rfl) ?_
  refine eqf_cons (by rfl) (by go_simp; rfl) (by go_simp; rfl) (by go_simp) ?_
  exact eqf_last (by rfl) (by go_simp; rfl) (by go_simp; rfl) (by go_simp)
end Go.Proofs.Ythblincfnfpgbaa.Q
-- Written by a program of this session over the kit's print.py, which was handed contracts that were proved by hand. Lean checks it.
namespace Go.Proofs.Ythblincfnfpgbaa.Q
open Go.RowKit Go.Proofs.YthblincfnfpgbaaW.PrintWords Go.Proofs.YthblincfnfpgbaaW.PrintLast Go.Proofs.YthblincfnfpgbaaW.PrintMore
attribute [local go_sem] max2_int min2_int max_two min_two max_three min_three max_four min_four   -- for this text's walks alone
set_option linter.unusedVariables false
set_option linter.unusedSimpArgs false

attribute [local go_sem high] eqA82
/-! ### shutterref11_SamePairs: function 17 -/
def shutterref11_SamePairs.l0 : Nat → List (S82) → List (S82) → Int → Option (Bool)
  | 0, _, _, _ => none
  | k + 1, x0, x1, x5 => if x5 < (x0.length : Int) then (if 0 ≤ x5 then (if x5 < (x1.length : Int) then (if (!(((rd_T82 x0 x5).f0) == ((rd_T82 x1 x5).f0)) || (!(((rd_T82 x0 x5).f1) == ((rd_T82 x1 x5).f1)))) = true then (some false) else (shutterref11_SamePairs.l0 k x0 x1 (wrap64 (x5 + 1)))) else (none)) else (none)) else (some true)
def shutterref11_SamePairs.f (k : Nat) (l0 : List (S82)) (l1 : List (S82)) : Option (Bool) := if (l0.length : Int) = (l1.length : Int) then (shutterref11_SamePairs.l0 k l0 l1 0) else (some false)
theorem shutterref11_SamePairs.mono_l : ∀ k, (∀ y0 y1 y2, LeO (shutterref11_SamePairs.l0 k y0 y1 y2) (shutterref11_SamePairs.l0 (k + 1) y0 y1 y2))
  | 0 => fun _ _ _ r h => by simp [shutterref11_SamePairs.l0] at h
  | k + 1 => by
    have ih0 := shutterref11_SamePairs.mono_l k
    · intro y0 y1 y2
      unfold shutterref11_SamePairs.l0
      repeat' first
      | (with_reducible exact ih0 _ _ _)
      | (with_reducible exact LeO.refl _)
      | (with_reducible exact LeO.none _)
      | (with_reducible refine LeO.ite ?_ ?_)
      | (with_reducible refine LeO.bind ?_ (fun _ => ?_))
      | exact ih0 _ _ _
      | exact LeO.none _
      | refine LeO.ite ?_ ?_
      | refine LeO.bind ?_ (fun _ => ?_)
theorem shutterref11_SamePairs.mono : ∀ a0 a1 k, LeO (shutterref11_SamePairs.f k a0 a1) (shutterref11_SamePairs.f (k + 1) a0 a1) := by
  intro a0 a1 k
  have ih0 := shutterref11_SamePairs.mono_l k
  unfold shutterref11_SamePairs.f
  repeat' first
      | (with_reducible exact ih0 _ _ _)
      | (with_reducible exact LeO.refl _)
      | (with_reducible exact LeO.none _)
      | (with_reducible refine LeO.ite ?_ ?_)
      | (with_reducible refine LeO.bind ?_ (fun _ => ?_))
      | exact ih0 _ _ _
      | exact LeO.none _
      | refine LeO.ite ?_ ?_
      | refine LeO.bind ?_ (fun _ => ?_)
set_option maxHeartbeats 8000000 in
set_option maxRecDepth 100000 in
theorem shutterref11_SamePairs.calls (k : Nat) (A0 : Option Addr) (c0 : Nat) (l0 : List (S82)) (A1 : Option Addr) (c1 : Nat) (l1 : List (S82)) (r : Bool) (w : World) (hr0 : Kd.C k82 w A0 l0.length l0) (hc0 : l0.length ≤ c0) (hr1 : Kd.C k82 w A1 l1.length l1) (hc1 : l1.length ≤ c1) (h : shutterref11_SamePairs.f k l0 l1 = some r) :
    Calls Try.prog 17 #[.slice A0 l0.length c0, .slice A1 l1.length c1] w fun e w' => e = .returned (.bool r) ∧ Drawn0 w w' := by
  have hu82 := Try.underlying82
  have HR0 := Aside0.mk hr0
  have HC0 := Aside0.mk hc0
  clear hr0 hc0
  have HR1 := Aside0.mk hr1
  have HC1 := Aside0.mk hc1
  clear hr1 hc1
  have H : (if (l0.length : Int) = (l1.length : Int) then (shutterref11_SamePairs.l0 k l0 l1 0) else (some false)) = some r := h
  clear h
  by_cases c3 : (l0.length : Int) = (l1.length : Int)
  · rw [if_pos c3] at H
    have c3b0 : ((l0.length : Int) == (l1.length : Int)) = true := beq_iff_eq.mpr c3
    have c3b1 : ((l0.length : Int) != (l1.length : Int)) = false := bne_eq_false_iff_eq.mpr c3
    have c3b2 : (l0.length == l1.length) = true := by first | simpa using c3 | (simp at c3 ⊢; omega)
    clear c3
    have H' := Aside0.mk H
    clear H
    go_enter Try.func17, Try.ntmps17
    go_wp2
    repeat (go_quiet (fail); try go_wp2)
    go_loopg [5] k (fun kq v5 w' => ∃ (x5_1 : Int), v5 = .int .i64 x5_1 ∧ Aside0 (shutterref11_SamePairs.l0 kq l0 l1 x5_1 = some r) ∧ Aside0 (kq ≤ k) ∧ Drawn0 w w')
    case atStart => exact ⟨(0), (by first | rfl | (simp; done) | (simp [*]; done)), H', ⟨Nat.le_refl _⟩, by repeat (first | exact Drawn0.refl _ | apply Drawn0.step)⟩
    case round =>
      clear H'
      try clear c1
      try clear p2
      try clear c3
      try clear c3b0
      try clear c3b1
      try clear c3b2
      obtain ⟨x5_1, rfl, HA, HK1, ⟨m1, rfl⟩⟩ := hrel
      cases gk with
      | zero => exact absurd HA.out (by simp [shutterref11_SamePairs.l0])
      | succ k1 =>
        have H := HA.out
        clear HA
        simp only [shutterref11_SamePairs.l0] at H
        by_cases c4 : x5_1 < (l0.length : Int)
        · rw [if_pos c4] at H
          have c4b0 : decide (x5_1 < (l0.length : Int)) = true := decide_eq_true c4
          clear c4
          by_cases c5 : 0 ≤ x5_1
          · rw [if_pos c5] at H
            have c5b0 : decide (0 ≤ x5_1) = true := decide_eq_true c5
            clear c5
            by_cases c6 : x5_1 < (l1.length : Int)
            · rw [if_pos c6] at H
              have c6b0 : decide (x5_1 < (l1.length : Int)) = true := decide_eq_true c6
              clear c6
              by_cases c7 : (!(((rd_T82 l0 x5_1).f0) == ((rd_T82 l1 x5_1).f0)) || (!(((rd_T82 l0 x5_1).f1) == ((rd_T82 l1 x5_1).f1)))) = true
              · rw [if_pos c7] at H
                have c7b0 : (!(((rd_T82 l0 x5_1).f0) == ((rd_T82 l1 x5_1).f0)) || (!(((rd_T82 l0 x5_1).f1) == ((rd_T82 l1 x5_1).f1)))) = true := c7
                clear c7
                obtain rfl := Option.some.inj H
                have p196 : 0 ≤ (x5_1 : Int) := of_decide_eq_true (by first | (with_reducible assumption) | assumption)
                have q196 : x5_1 < (l0.length : Int) := of_decide_eq_true (by first | (with_reducible assumption) | assumption)
                obtain ⟨ad196, e196, hx196_0, hx196_1⟩ := at_T82 HR0.out x5_1 p196 q196
                cases e196
                replace p196 := eq_true p196
                replace q196 := eq_true q196
                have p197 : 0 ≤ (x5_1 : Int) := of_decide_eq_true (by first | (with_reducible assumption) | assumption)
                have q197 : x5_1 < (l1.length : Int) := of_decide_eq_true (by first | (with_reducible assumption) | assumption)
                obtain ⟨ad197, e197, hx197_0, hx197_1⟩ := at_T82 HR1.out x5_1 p197 q197
                cases e197
                replace p197 := eq_true p197
                replace q197 := eq_true q197
                go_wp2
                repeat (go_quiet (fail); try go_wp2)
                go_ret
                exact ⟨by first | rfl | (simp; done) | (simp [*]; done), by repeat (first | exact Drawn0.refl _ | apply Drawn0.step)⟩
              · rw [if_neg c7] at H
                have c7b0 : (!(((rd_T82 l0 x5_1).f0) == ((rd_T82 l1 x5_1).f0)) || (!(((rd_T82 l0 x5_1).f1) == ((rd_T82 l1 x5_1).f1)))) = false := by simpa using c7
                clear c7
                have H' := Aside0.mk H
                clear H
                have p196 : 0 ≤ (x5_1 : Int) := of_decide_eq_true (by first | (with_reducible assumption) | assumption)
                have q196 : x5_1 < (l0.length : Int) := of_decide_eq_true (by first | (with_reducible assumption) | assumption)
                obtain ⟨ad196, e196, hx196_0, hx196_1⟩ := at_T82 HR0.out x5_1 p196 q196
                cases e196
                replace p196 := eq_true p196
                replace q196 := eq_true q196
                have p197 : 0 ≤ (x5_1 : Int) := of_decide_eq_true (by first | (with_reducible assumption) | assumption)
                have q197 : x5_1 < (l1.length : Int) := of_decide_eq_true (by first | (with_reducible assumption) | assumption)
                obtain ⟨ad197, e197, hx197_0, hx197_1⟩ := at_T82 HR1.out x5_1 p197 q197
                cases e197
                replace p197 := eq_true p197
                replace q197 := eq_true q197
                go_wp2
                repeat (go_quiet (fail); try go_wp2)
                go_roundg k1
                case measure => have := HK1.out; omega
                case rel => exact ⟨(wrap64 (x5_1 + 1)), (by first | rfl | (simp; done) | (simp [*]; done)), H', ⟨by have := HK1.out; omega⟩, by repeat (first | exact Drawn0.refl _ | apply Drawn0.step)⟩
            · rw [if_neg c6] at H
              exact absurd H (by simp)
          · rw [if_neg c5] at H
            exact absurd H (by simp)
        · rw [if_neg c4] at H
          have c4b0 : decide (x5_1 < (l0.length : Int)) = false := decide_eq_false c4
          clear c4
          obtain rfl := Option.some.inj H
          go_wp2
          repeat (go_quiet (fail); try go_wp2)
          go_ret
          exact ⟨by first | rfl | (simp; done) | (simp [*]; done), by repeat (first | exact Drawn0.refl _ | apply Drawn0.step)⟩
  · rw [if_neg c3] at H
    have c3b0 : ((l0.length : Int) == (l1.length : Int)) = false := beq_eq_false_iff_ne.mpr c3
    have c3b1 : ((l0.length : Int) != (l1.length : Int)) = true := bne_iff_ne.mpr c3
    have c3b2 : (l0.length == l1.length) = false := by first | simpa using c3 | (simp at c3 ⊢; omega)
    obtain rfl := Option.some.inj H
    go_enter Try.func17, Try.ntmps17
    go_wp2
    repeat (go_quiet (fail); try go_wp2)
    go_ret
    exact ⟨by first | rfl | (simp; done) | (simp [*]; done), by repeat (first | exact Drawn0.refl _ | apply Drawn0.step)⟩

end Go.Proofs.Ythblincfnfpgbaa.Q
-- Written by a program of this session over the kit's print.py, which was handed contracts that were proved by hand. Lean checks it.
namespace Go.Proofs.Ythblincfnfpgbaa.Q
open Go.RowKit Go.Proofs.YthblincfnfpgbaaW.PrintWords Go.Proofs.YthblincfnfpgbaaW.PrintLast Go.Proofs.YthblincfnfpgbaaW.PrintMore
attribute [local go_sem] max2_int min2_int max_two min_two max_three min_three max_four min_four   -- for this text's walks alone
set_option linter.unusedVariables false
set_option linter.unusedSimpArgs false

theorem eqA102 (d : Nat) (w : World) (x0 y0 : Int) (x1 y1 : Bool) (x2 y2 : Bool) (x3 y3 : Int) (x4 y4 : Int) :
    (Op.equalIn (d + 2) 102 (.agg #[.int .u64 x0, .bool x1, .bool x2, .int .u64 x3, .int .u64 x4]) (.agg #[.int .u64 y0, .bool y1, .bool y2, .int .u64 y3, .int .u64 y4])).run Try.prog w = .ok (x0 == y0 && (x1 == y1 && (x2 == y2 && (x3 == y3 && (x4 == y4))))) w := by
  refine eqA_of Try.underlying102 (by kernel_rfl) ?_
  refine eqf_cons (by rfl) (by go_simp; rfl) (by go_simp; rfl) (by go_simp) ?_
  refine eqf_cons (by rfl) (by go_simp; rfl) (by go_simp; rfl) (by go_simp) ?_
  refine eqf_cons (by rfl) (by go_simp; rfl) (by go_simp; rfl) (by go_simp) ?_
  refine eqf_cons (by rfl) (by go_simp; rfl) (by go_simp; rfl) (by go_simp) ?_
  exact eqf_last (by rfl) (by go_simp; rfl) (by go_simp; rfl) (by go_simp)
end Go.Proofs.Ythblincfnfpgbaa.Q
-- Written by a program of this session over the kit's print.py, which was handed contracts that were proved by hand. Lean checks it.
namespace Go.Proofs.Ythblincfnfpgbaa.Q
open Go.RowKit Go.Proofs.YthblincfnfpgbaaW.PrintWords Go.Proofs.YthblincfnfpgbaaW.PrintLast Go.Proofs.YthblincfnfpgbaaW.PrintMore
attribute [local go_sem] max2_int min2_int max_two min_two max_three min_three max_four min_four   -- for this text's walks alone
set_option linter.unusedVariables false
set_option linter.unusedSimpArgs false

attribute [local go_sem high] eqA102
/-! ### shutterlaw27_same: function 19 -/
def shutterlaw27_same.l0 : Nat → List (S102) → List (S102) → Int → Option (Bool)
  | 0, _, _, _ => none
  | k + 1, x0, x1, x5 => if x5 < (x0.length : Int) then (if 0 ≤ x5 then (if x5 < (x1.length : Int) then (if (!(((rd_T102 x0 x5).f0) == ((rd_T102 x1 x5).f0)) || (!(((rd_T102 x0 x5).f1) == ((rd_T102 x1 x5).f1)) || (!(((rd_T102 x0 x5).f2) == ((rd_T102 x1 x5).f2)) || (!(((rd_T102 x0 x5).f3) == ((rd_T102 x1 x5).f3)) || (!(((rd_T102 x0 x5).f4) == ((rd_T102 x1 x5).f4))))))) = true then (some false) else (shutterlaw27_same.l0 k x0 x1 (wrap64 (x5 + 1)))) else (none)) else (none)) else (some true)
def shutterlaw27_same.f (k : Nat) (l0 : List (S102)) (l1 : List (S102)) : Option (Bool) := if (l0.length : Int) = (l1.length : Int) then (shutterlaw27_same.l0 k l0 l1 0) else (some false)
theorem shutterlaw27_same.mono_l : ∀ k, (∀ y0 y1 y2, LeO (shutterlaw27_same.l0 k y0 y1 y2) (shutterlaw27_same.l0 (k + 1) y0 y1 y2))
  | 0 => fun _ _ _ r h => by simp [shutterlaw27_same.l0] at h
  | k + 1 => by
    have ih0 := shutterlaw27_same.mono_l k
    · intro y0 y1 y2
      unfold shutterlaw27_same.l0
      repeat' first
      | (with_reducible exact ih0 _ _ _)
      | (with_reducible exact LeO.refl _)
      | (with_reducible exact LeO.none _)
      | (with_reducible refine LeO.ite ?_ ?_)
      | (with_reducible refine LeO.bind ?_ (fun _ => ?_))
      | exact ih0 _ _ _
      | exact LeO.none _
      | refine LeO.ite ?_ ?_
      | refine LeO.bind ?_ (fun _ => ?_)
theorem shutterlaw27_same.mono : ∀ a0 a1 k, LeO (shutterlaw27_same.f k a0 a1) (shutterlaw27_same.f (k + 1) a0 a1) := by
  intro a0 a1 k
  have ih0 := shutterlaw27_same.mono_l k
  unfold shutterlaw27_same.f
  repeat' first
      | (with_reducible exact ih0 _ _ _)
      | (with_reducible exact LeO.refl _)
      | (with_reducible exact LeO.none _)
      | (with_reducible refine LeO.ite ?_ ?_)
      | (with_reducible refine LeO.bind ?_ (fun _ => ?_))
      | exact ih0 _ _ _
      | exact LeO.none _
      | refine LeO.ite ?_ ?_
      | refine LeO.bind ?_ (fun _ => ?_)
set_option maxHeartbeats 8000000 in
set_option maxRecDepth 100000 in
theorem shutterlaw27_same.calls (k : Nat) (A0 : Option Addr) (c0 : Nat) (l0 : List (S102)) (A1 : Option Addr) (c1 : Nat) (l1 : List (S102)) (r : Bool) (w : World) (hr0 : Kd.C k102 w A0 l0.length l0) (hc0 : l0.length ≤ c0) (hr1 : Kd.C k102 w A1 l1.length l1) (hc1 : l1.length ≤ c1) (h : shutterlaw27_same.f k l0 l1 = some r) :
    Calls Try.prog 19 #[.slice A0 l0.length c0, .slice A1 l1.length c1] w fun e w' => e = .returned (.bool r) ∧ Drawn0 w w' := by
  have hu102 := Try.underlying102
  have HR0 := Aside0.mk hr0
  have HC0 := Aside0.mk hc0
  clear hr0 hc0
  have HR1 := Aside0.mk hr1
  have HC1 := Aside0.mk hc1
  clear hr1 hc1
  have H : (if (l0.length : Int) = (l1.length : Int) then (shutterlaw27_same.l0 k l0 l1 0) else (some false)) = some r := h
  clear h
  by_cases c3 : (l0.length : Int) = (l1.length : Int)
  · rw [if_pos c3] at H
    have c3b0 : ((l0.length : Int) == (l1.length : Int)) = true := beq_iff_eq.mpr c3
    have c3b1 : ((l0.length : Int) != (l1.length : Int)) = false := bne_eq_false_iff_eq.mpr c3
    have c3b2 : (l0.length == l1.length) = true := by first | simpa using c3 | (simp at c3 ⊢; omega)
    clear c3
    have H' := Aside0.mk H
    clear H
    go_enter Try.func19, Try.ntmps19
    go_wp2
    repeat (go_quiet (fail); try go_wp2)
    go_loopg [5] k (fun kq v5 w' => ∃ (x5_1 : Int), v5 = .int .i64 x5_1 ∧ Aside0 (shutterlaw27_same.l0 kq l0 l1 x5_1 = some r) ∧ Aside0 (kq ≤ k) ∧ Drawn0 w w')
    case atStart => exact ⟨(0), (by first | rfl | (simp; done) | (simp [*]; done)), H', ⟨Nat.le_refl _⟩, by repeat (first | exact Drawn0.refl _ | apply Drawn0.step)⟩
    case round =>
      clear H'
      try clear c1
      try clear p2
      try clear c3
      try clear c3b0
      try clear c3b1
      try clear c3b2
      obtain ⟨x5_1, rfl, HA, HK1, ⟨m1, rfl⟩⟩ := hrel
      cases gk with
      | zero => exact absurd HA.out (by simp [shutterlaw27_same.l0])
      | succ k1 =>
        have H := HA.out
        clear HA
        simp only [shutterlaw27_same.l0] at H
        by_cases c4 : x5_1 < (l0.length : Int)
        · rw [if_pos c4] at H
          have c4b0 : decide (x5_1 < (l0.length : Int)) = true := decide_eq_true c4
          clear c4
          by_cases c5 : 0 ≤ x5_1
          · rw [if_pos c5] at H
            have c5b0 : decide (0 ≤ x5_1) = true := decide_eq_true c5
            clear c5
            by_cases c6 : x5_1 < (l1.length : Int)
            · rw [if_pos c6] at H
              have c6b0 : decide (x5_1 < (l1.length : Int)) = true := decide_eq_true c6
              clear c6
              by_cases c7 : (!(((rd_T102 l0 x5_1).f0) == ((rd_T102 l1 x5_1).f0)) || (!(((rd_T102 l0 x5_1).f1) == ((rd_T102 l1 x5_1).f1)) || (!(((rd_T102 l0 x5_1).f2) == ((rd_T102 l1 x5_1).f2)) || (!(((rd_T102 l0 x5_1).f3) == ((rd_T102 l1 x5_1).f3)) || (!(((rd_T102 l0 x5_1).f4) == ((rd_T102 l1 x5_1).f4))))))) = true
              · rw [if_pos c7] at H
                have c7b0 : (!(((rd_T102 l0 x5_1).f0) == ((rd_T102 l1 x5_1).f0)) || (!(((rd_T102 l0 x5_1).f1) == ((rd_T102 l1 x5_1).f1)) || (!(((rd_T102 l0 x5_1).f2) == ((rd_T102 l1 x5_1).f2)) || (!(((rd_T102 l0 x5_1).f3) == ((rd_T102 l1 x5_1).f3)) || (!(((rd_T102 l0 x5_1).f4) == ((rd_T102 l1 x5_1).f4))))))) = true := c7
                clear c7
                obtain rfl := Option.some.inj H
                have p204 : 0 ≤ (x5_1 : Int) := of_decide_eq_true (by first | (with_reducible assumption) | assumption)
                have q204 : x5_1 < (l0.length : Int) := of_decide_eq_true (by first | (with_reducible assumption) | assumption)
                obtain ⟨ad204, e204, hx204_0, hx204_1, hx204_2, hx204_3, hx204_4⟩ := at_T102 HR0.out x5_1 p204 q204
                cases e204
                replace p204 := eq_true p204
                replace q204 := eq_true q204
                have p205 : 0 ≤ (x5_1 : Int) := of_decide_eq_true (by first | (with_reducible assumption) | assumption)
                have q205 : x5_1 < (l1.length : Int) := of_decide_eq_true (by first | (with_reducible assumption) | assumption)
                obtain ⟨ad205, e205, hx205_0, hx205_1, hx205_2, hx205_3, hx205_4⟩ := at_T102 HR1.out x5_1 p205 q205
                cases e205
                replace p205 := eq_true p205
                replace q205 := eq_true q205
                go_wp2
                repeat (go_quiet (fail); try go_wp2)
                go_ret
                exact ⟨by first | rfl | (simp; done) | (simp [*]; done), by repeat (first | exact Drawn0.refl _ | apply Drawn0.step)⟩
              · rw [if_neg c7] at H
                have c7b0 : (!(((rd_T102 l0 x5_1).f0) == ((rd_T102 l1 x5_1).f0)) || (!(((rd_T102 l0 x5_1).f1) == ((rd_T102 l1 x5_1).f1)) || (!(((rd_T102 l0 x5_1).f2) == ((rd_T102 l1 x5_1).f2)) || (!(((rd_T102 l0 x5_1).f3) == ((rd_T102 l1 x5_1).f3)) || (!(((rd_T102 l0 x5_1).f4) == ((rd_T102 l1 x5_1).f4))))))) = false := by simpa using c7
                clear c7
                have H' := Aside0.mk H
                clear H
                have p204 : 0 ≤ (x5_1 : Int) := of_decide_eq_true (by first | (with_reducible assumption) | assumption)
                have q204 : x5_1 < (l0.length : Int) := of_decide_eq_true (by first | (with_reducible assumption) | assumption)
                obtain ⟨ad204, e204, hx204_0, hx204_1, hx204_2, hx204_3, hx204_4⟩ := at_T102 HR0.out x5_1 p204 q204
                cases e204
                replace p204 := eq_true p204
                replace q204 := eq_true q204
                have p205 : 0 ≤ (x5_1 : Int) := of_decide_eq_true (by first | (with_reducible assumption) | assumption)
                have q205 : x5_1 < (l1.length : Int) := of_decide_eq_true (by first | (with_reducible assumption) | assumption)
                obtain ⟨ad205, e205, hx205_0, hx205_1, hx205_2, hx205_3, hx205_4⟩ := at_T102 HR1.out x5_1 p205 q205
                cases e205
                replace p205 := eq_true p205
                replace q205 := eq_true q205
                go_wp2
                repeat (go_quiet (fail); try go_wp2)
                go_roundg k1
                case measure => have := HK1.out; omega
                case rel => exact ⟨(wrap64 (x5_1 + 1)), (by first | rfl | (simp; done) | (simp [*]; done)), H', ⟨by have := HK1.out; omega⟩, by repeat (first | exact Drawn0.refl _ | apply Drawn0.step)⟩
            · rw [if_neg c6] at H
              exact absurd H (by simp)
          · rw [if_neg c5] at H
            exact absurd H (by simp)
        · rw [if_neg c4] at H
          have c4b0 : decide (x5_1 < (l0.length : Int)) = false := decide_eq_false c4
          clear c4
          obtain rfl := Option.some.inj H
          go_wp2
          repeat (go_quiet (fail); try go_wp2)
          go_ret
          exact ⟨by first | rfl | (simp; done) | (simp [*]; done), by repeat (first | exact Drawn0.refl _ | apply Drawn0.step)⟩
  · rw [if_neg c3] at H
    have c3b0 : ((l0.length : Int) == (l1.length : Int)) = false := beq_eq_false_iff_ne.mpr c3
    have c3b1 : ((l0.length : Int) != (l1.length : Int)) = true := bne_iff_ne.mpr c3
    have c3b2 : (l0.length == l1.length) = false := by first | simpa using c3 | (simp at c3 ⊢; omega)
    obtain rfl := Option.some.inj H
    go_enter Try.func19, Try.ntmps19
    go_wp2
    repeat (go_quiet (fail); try go_wp2)
    go_ret
    exact ⟨by first | rfl | (simp; done) | (simp [*]; done), by repeat (first | exact Drawn0.refl _ | apply Drawn0.step)⟩

end Go.Proofs.Ythblincfnfpgbaa.Q
namespace Go.Proofs.Ythblincfnfpgbaa.Q
open Go.RowKit Go.Proofs.YthblincfnfpgbaaW.PrintWords Go.Proofs.YthblincfnfpgbaaW.PrintLast Go.Proofs.YthblincfnfpgbaaW.PrintMore
set_option linter.unusedVariables false
theorem rd30p (l : List S30) (i : Int) (k : Nat) (hk : i = k) (h : k < l.length) : rd_T30 l i = l[k] := by
  subst hk; unfold rd_T30; simp [List.getD_eq_getElem?_getD, List.getElem?_eq_getElem h]
theorem rd102 (l : List S102) (i : Int) (k : Nat) (hk : i = k) (h : k < l.length) : rd_T102 l i = l[k] := by
  subst hk; unfold rd_T102; simp [List.getD_eq_getElem?_getD, List.getElem?_eq_getElem h]
theorem samePairs_n (l : List S82) (hl : l.length < 4398046511104) (d : Nat) : ∀ (k i : Nat), i + d = l.length → d < k → shutterref11_SamePairs.l0 k l l i = some true := by
  induction d with
  | zero =>
    intro k i h hk
    obtain ⟨k, rfl⟩ : ∃ m, k = m + 1 := ⟨k - 1, by omega⟩
    simp only [shutterref11_SamePairs.l0]
    rw [if_neg (by omega)]
  | succ d ih =>
    intro k i h hk
    obtain ⟨k, rfl⟩ : ∃ m, k = m + 1 := ⟨k - 1, by omega⟩
    simp only [shutterref11_SamePairs.l0]
    rw [if_pos (by omega), if_pos (by omega), if_pos (by omega), if_neg (by simp), w1 i (by omega)]
    exact ih k (i + 1) (by omega) (by omega)
theorem samePairs_f (l : List S82) (hl : l.length < 4398046511104) : ∃ k, shutterref11_SamePairs.f k l l = some true :=
  ⟨l.length + 1, by unfold shutterref11_SamePairs.f; rw [if_pos rfl]; exact samePairs_n l hl l.length _ 0 (by omega) (by omega)⟩
theorem same_n (l : List S102) (hl : l.length < 4398046511104) (d : Nat) : ∀ (k i : Nat), i + d = l.length → d < k → shutterlaw27_same.l0 k l l i = some true := by
  induction d with
  | zero =>
    intro k i h hk
    obtain ⟨k, rfl⟩ : ∃ m, k = m + 1 := ⟨k - 1, by omega⟩
    simp only [shutterlaw27_same.l0]
    rw [if_neg (by omega)]
  | succ d ih =>
    intro k i h hk
    obtain ⟨k, rfl⟩ : ∃ m, k = m + 1 := ⟨k - 1, by omega⟩
    simp only [shutterlaw27_same.l0]
    rw [if_pos (by omega), if_pos (by omega), if_pos (by omega), if_neg (by simp), w1 i (by omega)]
    exact ih k (i + 1) (by omega) (by omega)
theorem same_f (l : List S102) (hl : l.length < 4398046511104) : ∃ k, shutterlaw27_same.f k l l = some true :=
  ⟨l.length + 1, by unfold shutterlaw27_same.f; rw [if_pos rfl]; exact same_n l hl l.length _ 0 (by omega) (by omega)⟩
theorem turn_n (l : List S30) (hl : l.length < 4398046511104) (d : Nat) : ∀ (k i : Nat) (acc : List S102), i + d = l.length → d < k → acc.length ≤ i → shutterlaw27_turn.l0 k l acc i = some (acc ++ (l.drop i).map cv) := by
  induction d with
  | zero =>
    intro k i acc h hk ha
    obtain ⟨k, rfl⟩ : ∃ m, k = m + 1 := ⟨k - 1, by omega⟩
    simp only [shutterlaw27_turn.l0]
    rw [if_neg (by omega), List.drop_of_length_le (by omega)]
    simp
  | succ d ih =>
    intro k i acc h hk ha
    obtain ⟨k, rfl⟩ : ∃ m, k = m + 1 := ⟨k - 1, by omega⟩
    simp only [shutterlaw27_turn.l0]
    rw [if_pos (by omega), if_pos (by omega), if_pos (by omega), w1 i (by omega), ih k (i + 1) _ (by omega) (by omega) (by simp; omega), rd30p l _ i rfl (by omega), List.drop_eq_getElem_cons (show i < l.length by omega), List.map_cons, List.append_assoc]
    rfl
theorem turn_f (l : List S30) (hl : l.length < 4398046511104) : ∃ k, shutterlaw27_turn.f k l = some (l.map cv) :=
  ⟨l.length + 1, by have := turn_n l hl l.length (l.length + 1) 0 [] (by omega) (by omega) (by simp); simpa [shutterlaw27_turn.f] using this⟩
end Go.Proofs.Ythblincfnfpgbaa.Q
namespace Go.Proofs.Ythblincfnfpgbaa.Q
open Go.RowKit Go.Proofs.YthblincfnfpgbaaW.PrintWords Go.Proofs.YthblincfnfpgbaaW.PrintLast Go.Proofs.YthblincfnfpgbaaW.PrintMore
set_option linter.unusedVariables false
/-- A copy of l in memory of its own, a marked pair behind it. -/
def Lent (w : World) (v : Value) (l : List S82) : Prop := ∃ g cap, v = .slice (some ⟨g, 0, none⟩) l.length cap ∧ l.length + 1 ≤ cap ∧ Kd.C k82 w (some ⟨g, 0, none⟩) (l ++ [(⟨77, 77⟩ : S82)]).length (l ++ [(⟨77, 77⟩ : S82)]) ∧ g < w.heap.size
theorem lent_below {w w' : World} {v : Value} {l : List S82} (h : Lent w v l) (hb : Below w.heap.size w w') : Lent w' v l := by
  obtain ⟨g, cap, h1, h2, h3, h4⟩ := h
  exact ⟨g, cap, h1, h2, Kd.C_below h3 hb, Nat.lt_of_lt_of_le h4 hb.size⟩
theorem C_take {α : Type} {d : Kd α} {w : World} {A : Option Addr} {n m : Nat} {xs ys : List α} (h : Kd.C d w A n (xs ++ ys)) (hm : m = xs.length) : Kd.C d w A m xs := by
  obtain ⟨h1, h2, h3⟩ := h
  refine ⟨hm.symm, by rw [List.length_append] at h1; omega, fun hp => ?_⟩
  obtain ⟨ad, e, hc⟩ := h3 (by rw [List.length_append] at h1; omega)
  refine ⟨ad, e, fun j p hj => hc j p ?_⟩
  rw [List.getElem?_append_left (List.getElem?_eq_some_iff.1 hj).1]
  exact hj
theorem lent_reads {w : World} {v : Value} {l : List S82} (h : Lent w v l) : ∃ A c, v = .slice A l.length c ∧ l.length ≤ c ∧ Kd.C k82 w A l.length l := by
  obtain ⟨g, cap, h1, h2, h3, h4⟩ := h
  exact ⟨_, cap, h1, by omega, C_take h3 rfl⟩
set_option maxHeartbeats 4000000 in
set_option maxRecDepth 100000 in
theorem lent_c (A : Option Addr) (c : Nat) (l : List S82) (w : World) (hA : Kd.C k82 w A l.length l) (hl : l.length < 4398046511104) :
    Calls Try.prog 13 #[.slice A l.length c] w fun e w' => ∃ v, e = .returned v ∧ Lent w' v l ∧ Below w.heap.size w w' := by
  have hu82 := Try.underlying82
  have HA := Lib.hid hA
  have HL := Lib.hid hl
  clear hA hl
  go_enter Try.func13, Try.ntmps13
  go_wp2_with (first | (at_builtin; refine Kd.R_append_rows k82 (w0 := w) w.heap.size rfl (.tmp 4) (.tmp 5) 22 82 (.agg #[(.int .u64 0), (.int .u64 0)]) 16 rfl Try.underlying22 info82 rfl (by decide) (by omega) (.slice none 0 0) ([] : List (S82)) l _ _ _ (fun _ => True) (fun _ => False) rfl rfl (Kd.R_nil _ _ _ _ _) HA.out (fun _ _ h => h) (fun _ h => h.elim) (fun _ _ => trivial) (Below.refl _ _) (Nat.le_refl _) ?aL ?_))
  case aL => have := HL.out; simp only [List.length_nil]; omega
  intro v1 w1 h1 h2 h3 h4
  obtain ⟨A1, c1, rfl⟩ := Kd.R_slice h1
  have H1 := Lib.hid h1
  have H2 := Lib.hid h2
  clear h1 h2 h3 h4
  go_wp2_with (first | (at_builtin; refine Kd.R_append k82 (w0 := w) w.heap.size (by rfl) (.tmp 7) (.tmp 9) 22 82 (.agg #[.int .u64 0, .int .u64 0]) 16 rfl Try.underlying22 info82 rfl (by decide) (by omega) _ _ (⟨77, 77⟩ : S82) [.int .u64 77, .int .u64 77] (fun _ => True) (fun _ => False) rfl rfl ?aP (fun _ hk => hk.elim) (fun _ _ => trivial) H1.out H2.out H2.out.size ?aL ?_))
  case aP => exact k82_mkM _ _ _ (⟨77, 77⟩ : S82)
  case aL => have := HL.out; simp; omega
  intro v2 w2 h1 h2 h3 h4
  obtain ⟨A2, c2, rfl, h5, h6⟩ := Kd.R_reads h1
  have hlen : (l ++ [(⟨77, 77⟩ : S82)]).length = l.length + 1 := by simp
  have HX : Hid (∃ g, A2 = some ⟨g, 0, none⟩ ∧ g < w2.heap.size) := by
    obtain ⟨inner, ho⟩ := Kd.R_own h1
    rcases ho.2 with ⟨he, _⟩ | ⟨g, cap, cur, he, _, hg, _⟩
    · injection he with _ he2
      rw [hlen] at he2
      cases he2
    · injection he with he _ _
      exact ⟨g, he, blk_lt hg⟩
  have H5 := Lib.hid h5
  have H6 := Lib.hid h6
  have H7 := Lib.hid h2
  have b1 : (l.length : Int) ≤ (c2 : Int) := by rw [hlen] at h5; omega
  have b2 : l.length ≤ c2 := by omega
  clear h1 h2 h3 h4 h5 h6 hlen
  go_wp2
  go_ret
  obtain ⟨g, rfl, hg⟩ := HX.out
  refine ⟨_, rfl, ⟨g, c2, ?_, ?_, H6.out, hg⟩, H7.out⟩
  · rfl
  · have := H5.out; simpa using this

set_option maxHeartbeats 4000000 in
set_option maxRecDepth 100000 in
theorem kept_c (v : Value) (A : Option Addr) (c : Nat) (l : List S82) (w : World) (hv : Lent w v l) (hA : Kd.C k82 w A l.length l) (hc : l.length ≤ c) (hl : l.length < 4398046511104) (hs : ∃ k, shutterref11_SamePairs.f k l l = some true) :
    Calls Try.prog 18 #[v, .slice A l.length c] w fun e w' => e = .returned (.bool true) ∧ Below w.heap.size w w' := by
  have hu82 := Try.underlying82
  obtain ⟨g, cap, rfl, h2, h3, h4⟩ := hv
  obtain ⟨k, hs⟩ := hs
  have HA := Lib.hid hA
  have HC := Lib.hid hc
  have HS := Lib.hid hs
  have H0 := Lib.hid (C_take h3 (m := l.length) rfl)
  have H1 := Lib.hid (show l.length ≤ cap by omega)
  obtain ⟨a, e, hp1, hp2⟩ := at82 h3 l.length (by simp)
  obtain rfl : (⟨g, 0, none⟩ : Addr) = a := by injection e
  have b1 : (l.length : Int) + 1 ≤ (cap : Int) := by omega
  have b2 : (l.length : Int) < (l.length : Int) + 1 := by omega
  have b3 : (l.length : Int) ≤ 4398046511104 := by omega
  rw [add_plain] at hp1 hp2
  simp only [List.getElem_append_right (Nat.le_refl _), Nat.sub_self, List.getElem_cons_zero] at hp1 hp2
  clear hA hc hs h3 h4 hl e
  go_enter Try.func18, Try.ntmps18
  go_wp2_with fail
  go_at_call 17
  refine (shutterref11_SamePairs.calls _ _ _ _ _ _ _ _ _ H0.out H1.out HA.out HC.out HS.out).mono ?_
  rintro e w1 ⟨rfl, hd⟩
  obtain ⟨nd, rfl⟩ := hd
  go_wp2
  go_ret
  exact ⟨rfl, pw_below_drewN (Below.refl _ _) _⟩
end Go.Proofs.Ythblincfnfpgbaa.Q
namespace Go.Proofs.Ythblincfnfpgbaa.Q
open Go.RowKit Go.Proofs.YthblincfnfpgbaaW.PrintWords Go.Proofs.YthblincfnfpgbaaW.PrintLast Go.Proofs.YthblincfnfpgbaaW.PrintMore Go.Proofs.Ythblincfnfpgbaa.Open
set_option linter.unusedVariables false
def B102 : S102 → Nat := fun x => 1 + (1 + (1 + (1 + 1))) + 1
theorem opens102 : Opens Try.prog k102 102 B102 (fun _ => True) := by
  intro H enc w base held fuel cs x h
  obtain ⟨a, h1, h2, h3⟩ := opens_struct (g := fun x : S102 => (x.f0, x.f1, x.f2, x.f3, x.f4)) (fun a => ⟨a.1, a.2.1, a.2.2.1, a.2.2.2.1, a.2.2.2.2⟩) (fun _ => rfl) Try.underlying102 (by kernel_rfl) (opens_cons (opens_int Try.underlying28) rfl (by kernel_rfl) (opens_cons (opens_bool Try.underlying4) rfl (by kernel_rfl) (opens_cons (opens_bool Try.underlying4) rfl (by kernel_rfl) (opens_cons (opens_int Try.underlying28) rfl (by kernel_rfl) (opens_last (opens_int Try.underlying28) rfl (by kernel_rfl)))))) h
  exact ⟨a, h1, h2, trivial⟩
theorem sum102 (l : List S102) : l.length ≤ (l.map B102).sum := by
  induction l with
  | nil => simp
  | cons a l ih => simp [B102]; omega
def vc (c : S102) : S30 := ⟨c.f0, c.f1, c.f2, c.f3, c.f4⟩
theorem cv_vc (l : List S102) : (l.map vc).map cv = l := by
  rw [List.map_map]
  have : cv ∘ vc = id := rfl
  rw [this, List.map_id]
theorem back_n (l : List S102) (hl : l.length < 4398046511104) (d : Nat) : ∀ (k i : Nat) (acc : List S30), i + d = l.length → d < k → acc.length ≤ i → shutterlaw27_back.l0 k l acc i = some (acc ++ (l.drop i).map vc) := by
  induction d with
  | zero =>
    intro k i acc h hk ha
    obtain ⟨k, rfl⟩ : ∃ m, k = m + 1 := ⟨k - 1, by omega⟩
    simp only [shutterlaw27_back.l0]
    rw [if_neg (by omega), List.drop_of_length_le (by omega), List.map_nil, List.append_nil]
  | succ d ih =>
    intro k i acc h hk ha
    obtain ⟨k, rfl⟩ : ∃ m, k = m + 1 := ⟨k - 1, by omega⟩
    have hi : i < l.length := by omega
    have e : rd_T102 l (i : Int) = l[i] := by unfold rd_T102; simp [List.getD_eq_getElem?_getD, List.getElem?_eq_getElem hi]
    simp only [shutterlaw27_back.l0]
    rw [if_pos (by omega), if_pos (by omega), if_pos (by omega), e, w1 i (by omega), ih k (i + 1) _ (by omega) (by omega) (by simp; omega), List.drop_eq_getElem_cons hi, List.map_cons, List.append_assoc]
    rfl
theorem back_f (l : List S102) (hl : l.length < 4398046511104) : ∃ k, shutterlaw27_back.f k l = some (l.map vc) :=
  ⟨l.length + 1, by have := back_n l hl l.length (l.length + 1) 0 [] (by omega) (by omega) (by simp); simpa [shutterlaw27_back.f] using this⟩
def dump_Patch.f (a : List S82) (l : List S30) : Option (List S82 × Int) := if a.length + l.length < 4398046511104 then some (patR a l) else none
theorem dump_Patch.calls (A0 : Option Addr) (c0 : Nat) (a : List S82) (A1 : Option Addr) (c1 : Nat) (l : List S30) (r1 : List S82) (r2 : Int) (w : World) (hA : Kd.C k82 w A0 a.length a) (hc0 : a.length ≤ c0) (hB : Kd.C k30 w A1 l.length l) (hc1 : l.length ≤ c1) (h : dump_Patch.f a l = some (r1, r2)) :
    Calls Try.prog 15 #[.slice A0 a.length c0, .slice A1 l.length c1] w fun e w' => ∃ v0_ : Value, e = .returned (.tuple #[v0_, .int .i64 r2]) ∧ Kd.R k82 82 w' w.heap.size (fun _ => True) v0_ r1 ∧ Below w.heap.size w w' := by
  unfold dump_Patch.f at h
  split at h
  case isFalse => exact absurd h (by simp)
  rename_i hl
  have := Option.some.inj h
  have e := patch_c A0 c0 a A1 c1 l w hA hc0 hB hc1 hl
  rw [this] at e
  exact e
theorem patR_length (a : List S82) (l : List S30) : (patR a l).1.length ≤ a.length + l.length := by
  have := patO_length a l
  unfold patR
  repeat' split
  all_goals simp
  omega
set_option maxHeartbeats 8000000 in
set_option maxRecDepth 100000 in
theorem patches_c (A : Option Addr) (c : Nat) (a : List S82) (B : Option Addr) (d : Nat) (l : List S102) (w : World) (hA : Kd.C k82 w A a.length a) (hc : a.length ≤ c) (hB : Kd.C k102 w B l.length l) (hd : l.length ≤ d) (hl : a.length + l.length < 1048577) :
    Calls Try.prog 4 #[.slice A a.length c, .slice B l.length d] w fun e w' => e = .returned (.bool true) ∧ Below w.heap.size w w' := by
  have hlm : (l.map vc).length = l.length := List.length_map ..
  obtain ⟨r, er, hr⟩ : ∃ r er, patR a (l.map vc) = (r, er) := ⟨_, _, rfl⟩
  have f1 : dump_Patch.f a (l.map vc) = some (r, er) := by unfold dump_Patch.f; rw [if_pos (by omega), hr]
  obtain ⟨k0, f2⟩ : ∃ k, shutterref27_Patch.f k a l = some (r, er) := ⟨8 * (a.length + (l.map vc).length) + 20, by have := refPatch_f a (l.map vc) (by omega); rw [cv_vc] at this; rw [this, hr]⟩
  obtain ⟨k1, hk1⟩ := back_f l (by omega)
  have hrl : r.length ≤ a.length + l.length := by have := patR_length a (l.map vc); rw [hr] at this; simp only at this; omega
  obtain ⟨k2, hk2⟩ := samePairs_f r (by omega)
  obtain ⟨k3, hk3⟩ := turn_f (l.map vc) (by omega)
  rw [cv_vc] at hk3
  obtain ⟨k4, hk4⟩ := same_f l (by omega)
  generalize l.map vc = m at *
  have HA := Lib.hid hA
  have HC := Lib.hid hc
  have HB := Lib.hid hB
  have HD := Lib.hid hd
  have HL := Lib.hid hl
  have F1 := Lib.hid f1
  have F2 := Lib.hid f2
  have K1 := Lib.hid hk1
  have K2 := Lib.hid hk2
  have K3 := Lib.hid hk3
  have K4 := Lib.hid hk4
  clear hA hc hB hd hl f1 f2 hk1 hk2 hk3 hk4 hr hrl hlm
  go_enter Try.func4, Try.ntmps4
  go_wp2_with fail
  go_at_call 13
  refine (lent_c _ _ _ _ HA.out (by have := HL.out; omega)).mono ?_
  rintro en w1 ⟨x, rfl, h1, h2⟩
  have KX := Lib.hid h1
  have BB := Lib.hid h2
  replace HA := Lib.hid (Kd.C_below HA.out h2)
  replace HB := Lib.hid (Kd.C_below HB.out h2)
  clear h1 h2
  go_wp2_with fail
  go_at_call 14
  refine (shutterlaw27_back.calls _ _ _ _ _ _ HB.out HD.out K1.out).mono ?_
  rintro en w2 ⟨vc, rfl, h1, h2⟩
  obtain ⟨Ac, cc, rfl, h3, h4⟩ := Kd.R_reads h1
  have Pc := Lib.hid h3
  have Qc := Lib.hid h4
  replace HA := Lib.hid (Kd.C_below HA.out h2)
  replace HB := Lib.hid (Kd.C_below HB.out h2)
  replace KX := Lib.hid (lent_below KX.out h2)
  replace BB := Lib.hid (BB.out.trans (h2.mono BB.out.size))
  clear h1 h2 h3 h4
  obtain ⟨AX, cx, rfl, hx1, hx2⟩ := lent_reads KX.out
  have RX1 := Lib.hid hx1
  have RX2 := Lib.hid hx2
  clear hx1 hx2
  go_wp2_with fail
  go_at_call 15
  refine (dump_Patch.calls _ _ _ _ _ _ _ _ _ RX2.out RX1.out Qc.out Pc.out F1.out).mono ?_
  rintro en w3 ⟨vp, rfl, h1, h2⟩
  obtain ⟨Ap, cp, rfl, h3, h4⟩ := Kd.R_reads h1
  have Pp := Lib.hid h3
  have Qp := Lib.hid h4
  replace HA := Lib.hid (Kd.C_below HA.out h2)
  replace HB := Lib.hid (Kd.C_below HB.out h2)
  replace KX := Lib.hid (lent_below KX.out h2)
  replace BB := Lib.hid (BB.out.trans (h2.mono BB.out.size))
  replace Qc := Lib.hid (Kd.C_below Qc.out h2)
  replace RX2 := Lib.hid (Kd.C_below RX2.out h2)
  clear h1 h2 h3 h4
  go_wp2_with fail
  go_at_call 16
  refine (shutterref27_Patch.calls _ _ _ _ _ _ _ _ _ _ HA.out HC.out HB.out HD.out F2.out).mono ?_
  rintro en w4 ⟨vq, rfl, h1, h2⟩
  obtain ⟨Aq, cq, rfl, h3, h4⟩ := Kd.R_reads h1
  have Pq := Lib.hid h3
  have Qq := Lib.hid h4
  replace HA := Lib.hid (Kd.C_below HA.out h2)
  replace HB := Lib.hid (Kd.C_below HB.out h2)
  replace KX := Lib.hid (lent_below KX.out h2)
  replace BB := Lib.hid (BB.out.trans (h2.mono BB.out.size))
  replace Qc := Lib.hid (Kd.C_below Qc.out h2)
  replace RX2 := Lib.hid (Kd.C_below RX2.out h2)
  replace Qp := Lib.hid (Kd.C_below Qp.out h2)
  clear h1 h2 h3 h4
  go_wp2_with fail
  go_at_call 12
  refine (shutterlaw27_live.calls true _ live_f).mono ?_
  rintro en w5 ⟨rfl, h2⟩
  replace HA := Lib.hid (Kd.C_below HA.out h2)
  replace HB := Lib.hid (Kd.C_below HB.out h2)
  replace KX := Lib.hid (lent_below KX.out h2)
  replace BB := Lib.hid (BB.out.trans (h2.mono BB.out.size))
  replace Qc := Lib.hid (Kd.C_below Qc.out h2)
  replace RX2 := Lib.hid (Kd.C_below RX2.out h2)
  replace Qp := Lib.hid (Kd.C_below Qp.out h2)
  replace Qq := Lib.hid (Kd.C_below Qq.out h2)
  clear h2
  go_wp2_with fail
  go_at_call 17
  refine (shutterref11_SamePairs.calls _ _ _ _ _ _ _ _ _ Qp.out Pp.out Qq.out Pq.out K2.out).mono ?_
  rintro en wz ⟨rfl, ⟨nd, rfl⟩⟩
  have h2 := pw_below_drewN (Below.refl (w5).heap.size (w5)) nd
  replace HA := Lib.hid (Kd.C_below HA.out h2)
  replace HB := Lib.hid (Kd.C_below HB.out h2)
  replace KX := Lib.hid (lent_below KX.out h2)
  replace BB := Lib.hid (BB.out.trans (h2.mono BB.out.size))
  replace Qc := Lib.hid (Kd.C_below Qc.out h2)
  replace RX2 := Lib.hid (Kd.C_below RX2.out h2)
  replace Qp := Lib.hid (Kd.C_below Qp.out h2)
  replace Qq := Lib.hid (Kd.C_below Qq.out h2)
  clear h2
  go_wp2_with fail
  go_at_call 18
  refine (kept_c _ _ _ _ _ KX.out HA.out HC.out (by have := HL.out; omega) (samePairs_f a (by have := HL.out; omega))).mono ?_
  rintro en w7 ⟨rfl, h2⟩
  replace HA := Lib.hid (Kd.C_below HA.out h2)
  replace HB := Lib.hid (Kd.C_below HB.out h2)
  replace KX := Lib.hid (lent_below KX.out h2)
  replace BB := Lib.hid (BB.out.trans (h2.mono BB.out.size))
  replace Qc := Lib.hid (Kd.C_below Qc.out h2)
  replace RX2 := Lib.hid (Kd.C_below RX2.out h2)
  replace Qp := Lib.hid (Kd.C_below Qp.out h2)
  replace Qq := Lib.hid (Kd.C_below Qq.out h2)
  clear h2
  go_wp2_with fail
  go_at_call 20
  refine (shutterlaw27_turn.calls _ _ _ _ _ _ Qc.out Pc.out K3.out).mono ?_
  rintro en w8 ⟨vt, rfl, h1, h2⟩
  obtain ⟨At, ct, rfl, h3, h4⟩ := Kd.R_reads h1
  have Pt := Lib.hid h3
  have Qt := Lib.hid h4
  replace HA := Lib.hid (Kd.C_below HA.out h2)
  replace HB := Lib.hid (Kd.C_below HB.out h2)
  replace KX := Lib.hid (lent_below KX.out h2)
  replace BB := Lib.hid (BB.out.trans (h2.mono BB.out.size))
  replace Qc := Lib.hid (Kd.C_below Qc.out h2)
  replace RX2 := Lib.hid (Kd.C_below RX2.out h2)
  replace Qp := Lib.hid (Kd.C_below Qp.out h2)
  replace Qq := Lib.hid (Kd.C_below Qq.out h2)
  clear h1 h2 h3 h4
  go_wp2_with fail
  go_at_call 19
  refine (shutterlaw27_same.calls _ _ _ _ _ _ _ _ _ Qt.out Pt.out HB.out HD.out K4.out).mono ?_
  rintro en wz ⟨rfl, ⟨nd, rfl⟩⟩
  have h2 := pw_below_drewN (Below.refl (w8).heap.size (w8)) nd
  replace HA := Lib.hid (Kd.C_below HA.out h2)
  replace HB := Lib.hid (Kd.C_below HB.out h2)
  replace KX := Lib.hid (lent_below KX.out h2)
  replace BB := Lib.hid (BB.out.trans (h2.mono BB.out.size))
  replace Qc := Lib.hid (Kd.C_below Qc.out h2)
  replace RX2 := Lib.hid (Kd.C_below RX2.out h2)
  replace Qp := Lib.hid (Kd.C_below Qp.out h2)
  replace Qq := Lib.hid (Kd.C_below Qq.out h2)
  replace Qt := Lib.hid (Kd.C_below Qt.out h2)
  clear h2
  go_wp2_with fail
  go_ret
  exact ⟨rfl, BB.out⟩
theorem patches_walk (W : World) (a0 : Option Addr) (c0 : Nat) (x0 : List S82) (h0 : Kd.C k82 W a0 x0.length x0) (l0 : x0.length ≤ c0) {H : Type} {d0 d1 : DataW H} (b0 : (x0.map B82).sum + 1 ≤ Rows.uptoBulk d0) (w0 : ∀ x ∈ x0, wfP x)
    (a1 : Option Addr) (c1 : Nat) (x1 : List S102) (h1 : Kd.C k102 W a1 x1.length x1) (l1 : x1.length ≤ c1) (b1 : (x1.map B102).sum + 1 ≤ Rows.uptoBulk d1) (w1 : ∀ x ∈ x1, True) (hb : Rows.uptoBulk d0 + (Rows.uptoBulk d1 + 0) ≤ 1048576) :
    Calls Try.prog 4 #[.slice a0 x0.length c0, .slice a1 x1.length c1] W fun e W' => e = .returned (.bool true) ∧ Below W.heap.size W W' := by
  have s0 := sum82 x0
  have s1 := sum102 x1
  exact patches_c a0 c0 x0 a1 c1 x1 W h0 l0 h1 l1 (by omega)
end Go.Proofs.Ythblincfnfpgbaa.Q
