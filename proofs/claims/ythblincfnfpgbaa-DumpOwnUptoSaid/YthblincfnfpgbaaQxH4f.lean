import Derived.Test.YthblincfnfpgbaaQxH4e
namespace Go.Proofs.Ythblincfnfpgbaa.Q
open Go.RowKit Go.Proofs.YthblincfnfpgbaaW.PrintWords Go.Proofs.YthblincfnfpgbaaW.PrintLast Go.Proofs.YthblincfnfpgbaaW.PrintMore
set_option linter.unusedVariables false
/-- Pairs with changes, side by side: what is put out. -/
def patO : List S82 → List S30 → List S82
  | [], [] => []
  | x :: a, [] => x :: patO a []
  | [], c :: l => (if c.f2 = true then [⟨c.f0, c.f4⟩] else []) ++ patO [] l
  | x :: a, c :: l => if x.f0 < c.f0 then x :: patO a (c :: l) else if c.f0 < x.f0 then (if c.f2 = true then [⟨c.f0, c.f4⟩] else []) ++ patO (x :: a) l else (if c.f2 = true then [⟨c.f0, c.f4⟩] else []) ++ patO a l
termination_by a b => a.length + b.length
/-- Do all changes fit? -/
def patF : List S82 → List S30 → Bool
  | [], [] => true
  | x :: a, [] => patF a []
  | [], c :: l => !c.f1 && patF [] l
  | x :: a, c :: l => if x.f0 < c.f0 then patF a (c :: l) else if c.f0 < x.f0 then !c.f1 && patF (x :: a) l else (c.f1 && (c.f3 == x.f1)) && patF a l
termination_by a b => a.length + b.length
theorem patO_length (a : List S82) (b : List S30) : (patO a b).length ≤ a.length + b.length := by
  fun_induction patO a b
  all_goals (repeat' split)
  all_goals (try simp only [List.length_nil, List.length_cons, List.length_append] at *)
  all_goals omega
def Rest30 (w0 : World) (v : Value) (l : List S30) : Prop := ∃ A c, v = .slice A l.length c ∧ l.length ≤ c ∧ Kd.C k30 w0 A l.length l
theorem rest30_head {w0 : World} {A : Option Addr} {x : S30} {l : List S30} (h : Kd.C k30 w0 A (x :: l).length (x :: l)) : ∃ a : Addr, A = some a ∧ w0.cell? a = some (.int .u64 x.f0) ∧ w0.cell? ⟨a.block, a.off + 1, none⟩ = some (.bool x.f1) ∧ w0.cell? ⟨a.block, a.off + 2, none⟩ = some (.bool x.f2) ∧ w0.cell? ⟨a.block, a.off + 3, none⟩ = some (.int .u64 x.f3) ∧ w0.cell? ⟨a.block, a.off + 4, none⟩ = some (.int .u64 x.f4) := by
  obtain ⟨ad, e, h1, h2, h3, h4, h5⟩ := at_T30 h 0 (by omega) (by simp)
  refine ⟨ad, e, ?_, ?_, ?_, ?_, ?_⟩
  · simpa [Addr.add, rd_T30] using h1
  · simpa [Addr.add, rd_T30] using h2
  · simpa [Addr.add, rd_T30] using h3
  · simpa [Addr.add, rd_T30] using h4
  · simpa [Addr.add, rd_T30] using h5
theorem rest30_tail2 {w0 : World} {p : Addr} {x : S30} {l : List S30} (h : Kd.C k30 w0 (some p) (x :: l).length (x :: l)) : Kd.C k30 w0 (some ⟨p.block, p.off + 5, none⟩) l.length l := by
  have := Kd.C_drop (m := 1) (c := (x :: l).length + 1) h (by simp) (by omega)
  rw [if_neg (by simp)] at this
  simpa [k30, Kd.iso, Kd.pair, Kd.int, Kd.bool, Kd.scalar, Addr.add] using this
theorem rest30_tail1 {w0 : World} {p : Addr} {x : S30} {l : List S30} (h : Kd.C k30 w0 (some p) (x :: l).length (x :: l)) (hc : (x :: l).length ≤ 1) : Kd.C k30 w0 (some p) l.length l := by
  obtain rfl : l = [] := by cases l <;> simp_all
  exact ⟨rfl, by simp, fun h => absurd h (by simp)⟩
theorem visP_drew {w0 w1 : World} {g h : Nat} {ft : Bool} {xs : List S82} (hv : VisP w0 g h ft xs w1) : VisP w0 g h ft xs w1.drew := visP_below hv (below_drew (Below.refl _ _))
theorem keepP {w0 w1 w2 : World} {g h : Nat} {ft : Bool} {xs : List S82} {p1 p2 q1 q2 q3 q4 q5 : Addr} {v1 v2 u1 u2 u3 u4 u5 : Value} (hh : VisP w0 g h ft xs w1 ∧ w1.cell? p1 = some v1 ∧ w1.cell? p2 = some v2 ∧ w1.cell? q1 = some u1 ∧ w1.cell? q2 = some u2 ∧ w1.cell? q3 = some u3 ∧ w1.cell? q4 = some u4 ∧ w1.cell? q5 = some u5) (hb : Below w1.heap.size w1 w2) :
    VisP w0 g h ft xs w2 ∧ w2.cell? p1 = some v1 ∧ w2.cell? p2 = some v2 ∧ w2.cell? q1 = some u1 ∧ w2.cell? q2 = some u2 ∧ w2.cell? q3 = some u3 ∧ w2.cell? q4 = some u4 ∧ w2.cell? q5 = some u5 :=
  ⟨visP_below hh.1 hb, pw_cell_below hb hh.2.1, pw_cell_below hb hh.2.2.1, pw_cell_below hb hh.2.2.2.1, pw_cell_below hb hh.2.2.2.2.1, pw_cell_below hb hh.2.2.2.2.2.1, pw_cell_below hb hh.2.2.2.2.2.2.1, pw_cell_below hb hh.2.2.2.2.2.2.2⟩
/-- What the change's visit puts out. -/
def putC (c : S30) : List S82 := if c.f2 = true then [⟨c.f0, c.f4⟩] else []
theorem pvisB_v {w0 w : World} {g h : Nat} {ft : Bool} {xs : List S82} {q : Addr} (c : S30) (hV : VisP w0 g h ft xs w) (hg : w0.heap.size ≤ g) (hh : w0.heap.size ≤ h) (hl : xs.length < 4398046511104) (hq : q.block < w0.heap.size)
    (q1 : w.cell? q = some (.int .u64 c.f0)) (q2 : w.cell? ⟨q.block, q.off + 1, none⟩ = some (.bool c.f1)) (q3 : w.cell? ⟨q.block, q.off + 2, none⟩ = some (.bool c.f2)) (q4 : w.cell? ⟨q.block, q.off + 3, none⟩ = some (.int .u64 c.f3)) (q5 : w.cell? ⟨q.block, q.off + 4, none⟩ = some (.int .u64 c.f4)) :
    Calls Try.prog 49 #[.pointer none, .pointer (some q), .pointer (some ⟨g, 0, none⟩), .pointer (some ⟨h, 0, none⟩)] w fun e w' => e = .returned (.tuple #[]) ∧ VisP w0 g h (ft && !c.f1) (xs ++ putC c) w' := by
  obtain ⟨c0, c1, c2, c3, c4⟩ := c
  cases c2
  · have := pvisB0_c w0 w g h ft xs q c0 c1 c3 c4 hV hg hh hl (by omega) (by omega) q1 q2 q3 q4 q5
    simpa [putC] using this
  · exact pvisB1_c w0 w g h ft xs q c0 c1 c3 c4 hV hg hh hl (by omega) (by omega) q1 q2 q3 q4 q5
theorem pvisAB_v {w0 w : World} {g h : Nat} {ft : Bool} {xs : List S82} {p q : Addr} {k u : Int} (c : S30) (hV : VisP w0 g h ft xs w) (hg : w0.heap.size ≤ g) (hh : w0.heap.size ≤ h) (hl : xs.length < 4398046511104) (hq : q.block < w0.heap.size)
    (h1 : w.cell? p = some (.int .u64 k)) (h2 : w.cell? ⟨p.block, p.off + 1, none⟩ = some (.int .u64 u)) (q1 : w.cell? q = some (.int .u64 c.f0)) (q2 : w.cell? ⟨q.block, q.off + 1, none⟩ = some (.bool c.f1)) (q3 : w.cell? ⟨q.block, q.off + 2, none⟩ = some (.bool c.f2)) (q4 : w.cell? ⟨q.block, q.off + 3, none⟩ = some (.int .u64 c.f3)) (q5 : w.cell? ⟨q.block, q.off + 4, none⟩ = some (.int .u64 c.f4)) :
    Calls Try.prog 49 #[.pointer (some p), .pointer (some q), .pointer (some ⟨g, 0, none⟩), .pointer (some ⟨h, 0, none⟩)] w fun e w' => e = .returned (.tuple #[]) ∧ VisP w0 g h (ft && c.f1 && (c.f3 == u)) (xs ++ putC c) w' := by
  obtain ⟨c0, c1, c2, c3, c4⟩ := c
  cases c2
  · have := pvisAB0_c w0 w g h ft xs p k u q c0 c1 c3 c4 hV hg hh hl (by omega) (by omega) h1 h2 q1 q2 q3 q4 q5
    simpa [putC] using this
  · exact pvisAB1_c w0 w g h ft xs p k u q c0 c1 c3 c4 hV hg hh hl (by omega) (by omega) h1 h2 q1 q2 q3 q4 q5
end Go.Proofs.Ythblincfnfpgbaa.Q
