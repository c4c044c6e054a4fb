import Derived.Test.YthblincfnfpgbaaQxH1
import Derived.Test.YthblincfnfpgbaaQx5
namespace Go.Proofs.Ythblincfnfpgbaa.Q
open Go.RowKit Go.Proofs.YthblincfnfpgbaaW.PrintWords Go.Proofs.YthblincfnfpgbaaW.PrintLast Go.Proofs.YthblincfnfpgbaaW.PrintMore
set_option linter.unusedVariables false
def isRightB (c : S30) : Bool := if c.f1 = true then (if c.f2 = true then !(c.f3 == c.f4) else decide (c.f4 = 0)) else (if c.f2 = true then decide (c.f3 = 0) else false)
theorem isRight_f (a : Int) (b c : Bool) (d e : Int) : dump_Change_isRight.f a b c d e = some (isRightB ⟨a, b, c, d, e⟩) := by
  unfold dump_Change_isRight.f isRightB
  repeat' split
  all_goals simp_all
theorem isRight_c (a : Int) (b c : Bool) (d e : Int) (w : World) :
    Calls Try.prog 43 #[.agg #[.int .u64 a, .bool b, .bool c, .int .u64 d, .int .u64 e]] w fun en w' => en = .returned (.bool (isRightB ⟨a, b, c, d, e⟩)) ∧ Below w.heap.size w w' :=
  dump_Change_isRight.calls a b c d e _ w (isRight_f a b c d e)

def one (c : S30) : List S30 := if isRightB c = true then [c] else []
def chgA (x : S82) : S30 := ⟨x.f0, true, false, x.f1, 0⟩
def chgB (y : S82) : S30 := ⟨y.f0, false, true, 0, y.f1⟩
def chgAB (x y : S82) : S30 := ⟨y.f0, true, true, x.f1, y.f1⟩

/-- What a call of the visitor leaves: its list, one longer or not; all else as it was. -/
def Vis (w0 : World) (g : Nat) (xs : List S30) (w' : World) : Prop :=
  Below w0.heap.size w0 w' ∧ ∃ v', w'.heap[g]? = some (.cells #[v'] 23 (0, 0)) ∧ Kd.R k30 30 w' w0.heap.size (fun k => k ≠ g) v' xs

theorem bcell {W w1 : World} (hb : Below W.heap.size W w1) : (∀ b o, b < W.heap.size → w1.cell? ⟨b, o, none⟩ = W.cell? ⟨b, o, none⟩) ∧ (∀ b o, b < W.heap.size → w1.frozen? ⟨b, o, none⟩ = W.frozen? ⟨b, o, none⟩) :=
  ⟨fun b o h => hb.cell (p := ⟨b, o, none⟩) h, fun b o h => hb.frozen (p := ⟨b, o, none⟩) h⟩
theorem isRightA_c (a d : Int) (w : World) :
    Calls Try.prog 43 #[.agg #[.int .u64 a, .bool true, .bool false, .int .u64 d, .int .u64 0]] w fun en w' => en = .returned (.bool true) ∧ Below w.heap.size w w' := isRight_c a true false d 0 w

theorem isRightB_c (a d : Int) (w : World) :
    Calls Try.prog 43 #[.agg #[.int .u64 a, .bool false, .bool true, .int .u64 0, .int .u64 d]] w fun en w' => en = .returned (.bool true) ∧ Below w.heap.size w w' := isRight_c a false true 0 d w
theorem isRightAB_c (a d e : Int) (w : World) (b : Bool) (h : (!(d == e)) = b) :
    Calls Try.prog 43 #[.agg #[.int .u64 a, .bool true, .bool true, .int .u64 d, .int .u64 e]] w fun en w' => en = .returned (.bool b) ∧ Below w.heap.size w w' := by
  subst h
  exact isRight_c a true true d e w
theorem vis_done {w0 w1 : World} {g n : Nat} {A1 : Option Addr} {c1 : Nat} {v : Value} {xs : List S30} (hB : Below w0.heap.size w0 w1) (hG : w0.heap.size ≤ g) (hX : w1.heap[g]? = some (.cells #[v] 23 (0, 0)))
    (hR : Kd.R k30 30 w1 w0.heap.size (fun k => k ≠ g) (.slice A1 xs.length c1) xs) (hn : n = xs.length) : Vis w0 g xs (w1.setCell ⟨g, 0, none⟩ (.slice A1 n c1)) := by
  subst hn
  exact ⟨hB.setCell hG _, _, (blk_set hX 0 _).trans rfl, Kd.R_far (p := ⟨g, 0, none⟩) hR (fun _ h => h) _⟩
set_option maxHeartbeats 4000000 in
set_option maxRecDepth 100000 in
theorem visA_c (w0 w : World) (g : Nat) (v : Value) (xs : List S30) (p : Addr) (k u : Int) (hB : Below w0.heap.size w0 w) (hg : w0.heap.size ≤ g) (hbox : w.heap[g]? = some (.cells #[v] 23 (0, 0))) (hR : Kd.R k30 30 w w0.heap.size (fun k => k ≠ g) v xs)
    (hl : xs.length < 4398046511104) (h1 : w.cell? p = some (.int .u64 k)) (h2 : w.cell? ⟨p.block, p.off + 1, none⟩ = some (.int .u64 u)) :
    Calls Try.prog 42 #[.pointer (some p), .pointer none, .pointer (some ⟨g, 0, none⟩)] w fun e w' => e = .returned (.tuple #[]) ∧ Vis w0 g (xs ++ [chgA ⟨k, u⟩]) w' := by
  have hu82 := Try.underlying82
  have hu30 := Try.underlying30
  have hgl := blk_lt hbox
  have hgl1 : g < w.heap.size + 1 := by omega
  have hgc : w.cell? ⟨g, 0, none⟩ = some v := by rw [blk_cell hbox]; rfl
  have HB := Lib.hid hB
  have HG := Lib.hid hg
  have HX := Lib.hid hbox
  have HR := Lib.hid hR
  have HL := Lib.hid hl
  clear hB hg hbox hR hl
  go_enter Try.func42, Try.ntmps42
  go_wp2
  go_region_held3 (fun w' => w'.cell? p = some (.int .u64 k) ∧ w'.cell? ⟨p.block, p.off + 1, none⟩ = some (.int .u64 u)) (go_keep) (fail)
  all_goals rename_i hS
  all_goals clear hS h1 h2
  all_goals go_wp2_with (first | (go_at_call 43; refine (isRightA_c _ _ _).mono ?_; rintro e w' ⟨rfl, hb⟩; have HBW := Lib.hid (show Below w.heap.size w w' from (((Below.refl _ _).drew.alloc (Nat.le_refl _) _)).trans (hb.mono (by simp))); obtain ⟨hc, hf⟩ := bcell hb; clear hb) | (at_builtin; refine Kd.R_append k30 (w0 := w0) w0.heap.size (by rfl) (.tmp 34) (.tmp 36) 23 30 (.agg #[.int .u64 0, .bool false, .bool false, .int .u64 0, .int .u64 0]) 32 rfl Try.underlying23 info30 rfl (by decide) (by omega) v xs (chgA ⟨k, u⟩) [.int .u64 k, .bool true, .bool false, .int .u64 u, .int .u64 0] (fun k => k ≠ g) (fun _ => False) rfl rfl ?aP (fun _ hk => hk.elim) ?aF ?aO ?aB ?aS ?aL ?_))
  case aP => exact k30_mkM _ _ _ (chgA ⟨k, u⟩)
  case aF => intro j hj; have := HBW.out.size; omega
  case aO => exact Kd.R_below HR.out HBW.out
  case aB => exact HB.out.trans (HBW.out.mono HB.out.size)
  case aS => have := HBW.out.size; have := HB.out.size; omega
  case aL => have := HL.out; omega
  intro v1 w1 hR1 hB1 hG1 hat
  obtain ⟨A1, c1, rfl⟩ := Kd.R_slice hR1
  have hX1 : w1.heap[g]? = some (.cells #[v] 23 (0, 0)) := blk_grown ((HBW.out.block g hgl).trans HX.out) hG1 (fun e => HR.out.1 g e.symm rfl)
  have hgc1 : w1.cell? ⟨g, 0, none⟩ = some v := by rw [blk_cell hX1]; rfl
  have hgf1 : w1.frozen? ⟨g, 0, none⟩ = false := blk_frozen hX1 0
  have HX1 := Lib.hid hX1
  have HR1 := Lib.hid hR1
  have HB1 := Lib.hid hB1
  clear hX1 hR1 hB1 hG1 hat hc hf hgc
  go_wp2
  go_end0
  exact ⟨rfl, vis_done HB1.out HG.out HX1.out HR1.out (by simp)⟩
set_option maxHeartbeats 4000000 in
set_option maxRecDepth 100000 in
theorem visB_c (w0 w : World) (g : Nat) (v : Value) (xs : List S30) (p : Addr) (k u : Int) (hB : Below w0.heap.size w0 w) (hg : w0.heap.size ≤ g) (hbox : w.heap[g]? = some (.cells #[v] 23 (0, 0))) (hR : Kd.R k30 30 w w0.heap.size (fun k => k ≠ g) v xs)
    (hl : xs.length < 4398046511104) (h1 : w.cell? p = some (.int .u64 k)) (h2 : w.cell? ⟨p.block, p.off + 1, none⟩ = some (.int .u64 u)) :
    Calls Try.prog 42 #[.pointer none, .pointer (some p), .pointer (some ⟨g, 0, none⟩)] w fun e w' => e = .returned (.tuple #[]) ∧ Vis w0 g (xs ++ [chgB ⟨k, u⟩]) w' := by
  have hu82 := Try.underlying82
  have hu30 := Try.underlying30
  have hgl := blk_lt hbox
  have hgl1 : g < w.heap.size + 1 := by omega
  have hgc : w.cell? ⟨g, 0, none⟩ = some v := by rw [blk_cell hbox]; rfl
  have HB := Lib.hid hB
  have HG := Lib.hid hg
  have HX := Lib.hid hbox
  have HR := Lib.hid hR
  have HL := Lib.hid hl
  clear hB hg hbox hR hl
  go_enter Try.func42, Try.ntmps42
  go_wp2
  go_region_held3 (fun w' => w'.cell? p = some (.int .u64 k) ∧ w'.cell? ⟨p.block, p.off + 1, none⟩ = some (.int .u64 u)) (go_keep) (fail)
  all_goals rename_i hS
  all_goals clear hS h1 h2
  all_goals go_wp2_with (first | (go_at_call 43; refine (isRightB_c _ _ _).mono ?_; rintro e w' ⟨rfl, hb⟩; have HBW := Lib.hid (show Below w.heap.size w w' from (((Below.refl _ _).drew.alloc (Nat.le_refl _) _)).trans (hb.mono (by simp))); obtain ⟨hc, hf⟩ := bcell hb; clear hb) | (at_builtin; refine Kd.R_append k30 (w0 := w0) w0.heap.size (by rfl) (.tmp 34) (.tmp 36) 23 30 (.agg #[.int .u64 0, .bool false, .bool false, .int .u64 0, .int .u64 0]) 32 rfl Try.underlying23 info30 rfl (by decide) (by omega) v xs (chgB ⟨k, u⟩) [.int .u64 k, .bool false, .bool true, .int .u64 0, .int .u64 u] (fun k => k ≠ g) (fun _ => False) rfl rfl ?aP (fun _ hk => hk.elim) ?aF ?aO ?aB ?aS ?aL ?_))
  case aP => exact k30_mkM _ _ _ (chgB ⟨k, u⟩)
  case aF => intro j hj; have := HBW.out.size; omega
  case aO => exact Kd.R_below HR.out HBW.out
  case aB => exact HB.out.trans (HBW.out.mono HB.out.size)
  case aS => have := HBW.out.size; have := HB.out.size; omega
  case aL => have := HL.out; omega
  intro v1 w1 hR1 hB1 hG1 hat
  obtain ⟨A1, c1, rfl⟩ := Kd.R_slice hR1
  have hX1 : w1.heap[g]? = some (.cells #[v] 23 (0, 0)) := blk_grown ((HBW.out.block g hgl).trans HX.out) hG1 (fun e => HR.out.1 g e.symm rfl)
  have hgc1 : w1.cell? ⟨g, 0, none⟩ = some v := by rw [blk_cell hX1]; rfl
  have hgf1 : w1.frozen? ⟨g, 0, none⟩ = false := blk_frozen hX1 0
  have HX1 := Lib.hid hX1
  have HR1 := Lib.hid hR1
  have HB1 := Lib.hid hB1
  clear hX1 hR1 hB1 hG1 hat hc hf hgc
  go_wp2
  go_end0
  exact ⟨rfl, vis_done HB1.out HG.out HX1.out HR1.out (by simp)⟩
set_option maxHeartbeats 8000000 in
set_option maxRecDepth 100000 in
theorem visAB_c (w0 w : World) (g : Nat) (v : Value) (xs : List S30) (p q : Addr) (k u k2 u2 : Int) (hB : Below w0.heap.size w0 w) (hg : w0.heap.size ≤ g) (hbox : w.heap[g]? = some (.cells #[v] 23 (0, 0))) (hR : Kd.R k30 30 w w0.heap.size (fun k => k ≠ g) v xs)
    (hl : xs.length < 4398046511104) (h1 : w.cell? p = some (.int .u64 k)) (h2 : w.cell? ⟨p.block, p.off + 1, none⟩ = some (.int .u64 u)) (h3 : w.cell? q = some (.int .u64 k2)) (h4 : w.cell? ⟨q.block, q.off + 1, none⟩ = some (.int .u64 u2)) (hbb : (!(u == u2)) = true) :
    Calls Try.prog 42 #[.pointer (some p), .pointer (some q), .pointer (some ⟨g, 0, none⟩)] w fun e w' => e = .returned (.tuple #[]) ∧ Vis w0 g (xs ++ [chgAB ⟨k, u⟩ ⟨k2, u2⟩]) w' := by
  have hu82 := Try.underlying82
  have hu30 := Try.underlying30
  have hgl := blk_lt hbox
  have hgl1 : g < w.heap.size + 1 := by omega
  have hgc : w.cell? ⟨g, 0, none⟩ = some v := by rw [blk_cell hbox]; rfl
  have HB := Lib.hid hB
  have HG := Lib.hid hg
  have HX := Lib.hid hbox
  have HR := Lib.hid hR
  have HL := Lib.hid hl
  clear hB hg hbox hR hl
  go_enter Try.func42, Try.ntmps42
  have HBB := Lib.hid hbb
  clear hbb
  go_wp2
  go_region_held3 (fun w' => w'.cell? p = some (.int .u64 k) ∧ w'.cell? ⟨p.block, p.off + 1, none⟩ = some (.int .u64 u) ∧ w'.cell? q = some (.int .u64 k2) ∧ w'.cell? ⟨q.block, q.off + 1, none⟩ = some (.int .u64 u2)) (go_keep) (fail)
  rename_i hS
  go_wp2
  go_region_held3 (fun w' => w'.cell? p = some (.int .u64 k) ∧ w'.cell? ⟨p.block, p.off + 1, none⟩ = some (.int .u64 u) ∧ w'.cell? q = some (.int .u64 k2) ∧ w'.cell? ⟨q.block, q.off + 1, none⟩ = some (.int .u64 u2)) (go_keep) (fail)
  rename_i hS2
  clear hS2 hS h1 h2 h3 h4
  go_wp2_with (first | (go_at_call 43; refine (isRightAB_c _ _ _ _ true HBB.out).mono ?_; rintro e w' ⟨rfl, hb⟩; have HBW := Lib.hid (show Below w.heap.size w w' from (((Below.refl _ _).drew.drew.alloc (Nat.le_refl _) _)).trans (hb.mono (by simp))); obtain ⟨hc, hf⟩ := bcell hb; clear hb) | (at_builtin; refine Kd.R_append k30 (w0 := w0) w0.heap.size (by rfl) (.tmp 34) (.tmp 36) 23 30 (.agg #[.int .u64 0, .bool false, .bool false, .int .u64 0, .int .u64 0]) 32 rfl Try.underlying23 info30 rfl (by decide) (by omega) v xs (chgAB ⟨k, u⟩ ⟨k2, u2⟩) [.int .u64 k2, .bool true, .bool true, .int .u64 u, .int .u64 u2] (fun k => k ≠ g) (fun _ => False) rfl rfl ?aP (fun _ hk => hk.elim) ?aF ?aO ?aB ?aS ?aL ?_))
  case aP => exact k30_mkM _ _ _ (chgAB ⟨k, u⟩ ⟨k2, u2⟩)
  case aF => intro j hj; have := HBW.out.size; omega
  case aO => exact Kd.R_below HR.out HBW.out
  case aB => exact HB.out.trans (HBW.out.mono HB.out.size)
  case aS => have := HBW.out.size; have := HB.out.size; omega
  case aL => have := HL.out; omega
  intro v1 w1 hR1 hB1 hG1 hat
  obtain ⟨A1, c1, rfl⟩ := Kd.R_slice hR1
  have hX1 : w1.heap[g]? = some (.cells #[v] 23 (0, 0)) := blk_grown ((HBW.out.block g hgl).trans HX.out) hG1 (fun e => HR.out.1 g e.symm rfl)
  have hgc1 : w1.cell? ⟨g, 0, none⟩ = some v := by rw [blk_cell hX1]; rfl
  have hgf1 : w1.frozen? ⟨g, 0, none⟩ = false := blk_frozen hX1 0
  have HX1 := Lib.hid hX1
  have HR1 := Lib.hid hR1
  have HB1 := Lib.hid hB1
  clear hX1 hR1 hB1 hG1 hat hc hf hgc
  go_wp2
  go_end0
  exact ⟨rfl, vis_done HB1.out HG.out HX1.out HR1.out (by simp)⟩
set_option maxHeartbeats 8000000 in
set_option maxRecDepth 100000 in
theorem visAA_c (w0 w : World) (g : Nat) (v : Value) (xs : List S30) (p q : Addr) (k u k2 u2 : Int) (hB : Below w0.heap.size w0 w) (hg : w0.heap.size ≤ g) (hbox : w.heap[g]? = some (.cells #[v] 23 (0, 0))) (hR : Kd.R k30 30 w w0.heap.size (fun k => k ≠ g) v xs)
    (hl : xs.length < 4398046511104) (h1 : w.cell? p = some (.int .u64 k)) (h2 : w.cell? ⟨p.block, p.off + 1, none⟩ = some (.int .u64 u)) (h3 : w.cell? q = some (.int .u64 k2)) (h4 : w.cell? ⟨q.block, q.off + 1, none⟩ = some (.int .u64 u2)) (hbb : (!(u == u2)) = false) :
    Calls Try.prog 42 #[.pointer (some p), .pointer (some q), .pointer (some ⟨g, 0, none⟩)] w fun e w' => e = .returned (.tuple #[]) ∧ Vis w0 g (xs) w' := by
  have hu82 := Try.underlying82
  have hu30 := Try.underlying30
  have hgl := blk_lt hbox
  have hgl1 : g < w.heap.size + 1 := by omega
  have hgc : w.cell? ⟨g, 0, none⟩ = some v := by rw [blk_cell hbox]; rfl
  have HB := Lib.hid hB
  have HG := Lib.hid hg
  have HX := Lib.hid hbox
  have HR := Lib.hid hR
  have HL := Lib.hid hl
  clear hB hg hbox hR hl
  go_enter Try.func42, Try.ntmps42
  have HBB := Lib.hid hbb
  clear hbb
  go_wp2
  go_region_held3 (fun w' => w'.cell? p = some (.int .u64 k) ∧ w'.cell? ⟨p.block, p.off + 1, none⟩ = some (.int .u64 u) ∧ w'.cell? q = some (.int .u64 k2) ∧ w'.cell? ⟨q.block, q.off + 1, none⟩ = some (.int .u64 u2)) (go_keep) (fail)
  rename_i hS
  go_wp2
  go_region_held3 (fun w' => w'.cell? p = some (.int .u64 k) ∧ w'.cell? ⟨p.block, p.off + 1, none⟩ = some (.int .u64 u) ∧ w'.cell? q = some (.int .u64 k2) ∧ w'.cell? ⟨q.block, q.off + 1, none⟩ = some (.int .u64 u2)) (go_keep) (fail)
  rename_i hS2
  clear hS2 hS h1 h2 h3 h4
  go_wp2_with (go_at_call 43; refine (isRightAB_c _ _ _ _ false HBB.out).mono ?_; rintro e w' ⟨rfl, hb⟩; have HBW := Lib.hid (show Below w.heap.size w w' from (((Below.refl _ _).drew.drew.alloc (Nat.le_refl _) _)).trans (hb.mono (by simp))); clear hb)
  go_end0
  exact ⟨rfl, HB.out.trans (HBW.out.mono HB.out.size), v, (HBW.out.block g hgl).trans HX.out, Kd.R_below HR.out HBW.out⟩
end Go.Proofs.Ythblincfnfpgbaa.Q
