import Derived.Test.YtbpkepcbmenbcaaAr2
import Derived.Laws.CopyOwn
namespace Go.Proofs.Ytbpkepcbmenbcaa.Ar
open Go.RowKit Go.Proofs.YtbpkepcbmenbcaaW.PrintWords Go.Proofs.YtbpkepcbmenbcaaW.PrintLast Go.Proofs.YtbpkepcbmenbcaaW.PrintMore
set_option linter.unusedVariables false
set_option linter.unusedSimpArgs false
/-- copy at a step of a region that draws its order: only its own row is written. -/
theorem step_copy_kept {P : Program} {ops : Array Oper} {o : Oper} {a : Act} {w : World} {K : Act → World → Prop} {Q : Exit → Act → World → Prop} {E : Prop} (hgd : o.guard = none) (d s : Operand) (dT sT : TypeId)
    (ho : o.op = .call { callee := .builtin .copy, args := #[d, s], argTypes := #[dT, sT] }) (elem : TypeId) (hu : P.underlying dT = some (.slice elem)) (hsz : (P.info? elem).map (·.size) = some 1)
    (dLen dCap : Nat) (ad : Addr) (sLen sCap : Nat) (g off : Nat) (hd : a.eval d = .slice (some ⟨g, off, none⟩) dLen dCap) (hs : a.eval s = .slice (some ad) sLen sCap)
    (cur : List Value) (t : TypeId) (hg : w.heap[g]? = some (.cells cur.toArray t (0, 0))) (cs : List Value) (hn : cs.length = Nat.min sLen dLen)
    (hsrc : ∀ j v, cs[j]? = some v → w.cell? (ad.add j) = some v) (hfit : off + cs.length ≤ cur.length) (h1 : ∀ v ∈ cs, v.oneCell' = true) (B : Nat) (w0 : World) (hb : RowKit.Below B w0 w) (hBg : B ≤ g)
    (h : ∀ w', RowKit.Hid (w'.heap[g]? = some (.cells (splice cur off cs).toArray t (0, 0))) → RowKit.Hid (Kept w w' (fun k => k = g)) → RowKit.Hid (RowKit.Below B w0 w') → K (a.put o.dst (goInt cs.length)) w') :
    if Region.wanted o (yielded ops a.tmps) = true then Oper.wp P o a w K Q else E := by
  have hw : Region.wanted o (yielded ops a.tmps) = true := by simp [Region.wanted, hgd]
  rw [if_pos hw]
  have hrun := run_copy_row (P := P) w dT sT o.type elem g off dLen dCap ad sLen sCap cur.toArray t cs hu hsz hg hn hsrc (by simpa using hfit) h1
  unfold Oper.wp
  simp [execOp, ho, resolve, invoke, builtin, hd, hs, hrun, Result.andThen]
  exact h _ (show _ = _ by simpa [splice] using setRow_heap w g _ _ t _ hg) (Lib.hid ⟨by simp [World.setRow], fun k _ hk => setRow_other w g k _ hk⟩) (Lib.hid (below_setRow hb hBg _))
theorem splice_nums (k : IntKind) (cells vals : List Int) (off : Nat) : splice (nums k cells) off (nums k vals) = nums k (splice cells off vals) := by
  simp [splice, nums, List.map_append, List.map_take, List.map_drop]
set_option maxRecDepth 100000 in
set_option maxHeartbeats 2000000 in
theorem palloc_no (base gp gl free : Nat) (cells : List Int) (A : Option Addr) (n c : Nat) (w : World) (h : PlainAt w gp gl cells free) (hn : (cells.length : Int) - free < n) (hn2 : n ≤ 1099511627775) :
    Calls Try.prog 90 #[.pointer (some ⟨gp, 0, none⟩), .slice A n c] w fun e w' => e = .returned (.int .u64 0) ∧ ∃ m, w' = w.drewN m := by
  have h0 := h.c0
  have h1 := h.c1
  have hl : (cells.length : Int) ≤ 4194304 := by have := h.len; omega
  have hf : (free : Int) ≤ 4194304 := by have := h.len; have := h.fr; omega
  have hf0 : (free : Int) ≤ cells.length := by have := h.fr; omega
  have hn3 : (n : Int) ≤ 1099511627775 := by omega
  clear h hn2
  go_enter Try.func90, Try.ntmps90
  go_wp2_with fail
  go_quiet (fail)
  go_wp2_with fail
  go_ret
  exact ⟨rfl, _, rfl⟩
theorem palloc_done {w W w' : World} {base gp gl free : Nat} {cells vals : List Int} (hP : PlainAt W gp gl cells free) (hg : w'.heap[gl]? = some (.cells (splice (nums .u64 cells) free (nums .u64 vals)).toArray 33 (0, 0))) (hk : Kept W.drew w' (fun k => k = gl)) (hb : Below base w w')
    (hk0 : Kept w W (fun k => k = gp ∨ k = gl)) (hbp : base ≤ gp) (hbl : base ≤ gl) (hpl : gp ≠ gl) (hx : free + vals.length ≤ cells.length) :
    PlainAt (w'.setCell ⟨gp, 1, none⟩ (.int .i64 ((free : Int) + (vals.length : Int)))) gp gl (splice cells free vals) (free + vals.length) ∧ Kept w (w'.setCell ⟨gp, 1, none⟩ (.int .i64 ((free : Int) + (vals.length : Int)))) (fun k => k = gp ∨ k = gl) ∧ Below base w (w'.setCell ⟨gp, 1, none⟩ (.int .i64 ((free : Int) + (vals.length : Int)))) := by
  have hl : (splice cells free vals).length = cells.length := length_splice _ _ _ hx
  have hb1 : w'.heap[gp]? = _ := blk_kept (W := W.drew) hP.blk hk hpl
  refine ⟨⟨?_, ?_, by rw [hl]; exact hP.len, by rw [hl]; exact hx⟩, ?_, hb.setCell hbp _⟩
  · rw [hl]
    refine (blk_set hb1 1 _).trans ?_
    rw [show ((free : Int) + (vals.length : Int)) = ((free + vals.length : Nat) : Int) by omega]
    rfl
  · rw [splice_nums] at hg
    exact blk_far hg (fun e => hpl e.symm) _
  · exact (hk0.drew.then_ hk (fun k e => .inl (.inr e))).setCell (.inl (.inl rfl)) _
set_option maxRecDepth 100000 in
set_option maxHeartbeats 4000000 in
theorem palloc_c (base gp gl free : Nat) (cells : List Int) (A : Option Addr) (vals : List Int) (c : Nat) (w : World) (h : PlainAt w gp gl cells free) (hbp : base ≤ gp) (hbl : base ≤ gl) (hv : (Kd.int .u64).C w A vals.length vals) (hn : (vals.length : Int) ≤ (cells.length : Int) - free) (hn0 : 0 < vals.length) :
    Calls Try.prog 90 #[.pointer (some ⟨gp, 0, none⟩), .slice A vals.length c] w fun e w' => e = .returned (.int .u64 free) ∧ PlainAt w' gp gl (splice cells free vals) (free + vals.length) ∧ Kept w w' (fun k => k = gp ∨ k = gl) ∧ Below base w w' := by
  have h0 := h.c0
  have h1 := h.c1
  have hfr : w.frozen? ⟨gp, 1, none⟩ = false := blk_frozen h.blk 1
  have hl : (cells.length : Int) ≤ 4194304 := by have := h.len; omega
  have hf : (free : Int) ≤ 4194304 := by have := h.len; have := h.fr; omega
  have hf0 : (free : Int) < cells.length := by omega
  have hn3 : (vals.length : Int) ≤ 4194304 := by omega
  have H := Lib.hid h
  have HV := Lib.hid hv
  have HBP := Lib.hid hbp
  have HBL := Lib.hid hbl
  have HN0 := Lib.hid hn0
  clear h hv hbp hbl
  go_enter Try.func90, Try.ntmps90
  go_wp2_with fail
  go_quiet (fail)
  go_wp2_with fail
  obtain ⟨W, hW⟩ : ∃ W, W = w.drewN nq := ⟨_, rfl⟩
  rw [← hW]
  have hP : PlainAt W gp gl cells free := by rw [hW]; exact H.out.drewN nq
  have hk0 : Kept w W (fun k => k = gp ∨ k = gl) := by rw [hW]; exact (Kept.refl _ _).drewN nq
  have hb0 : Below base w W := by rw [hW]; exact pw_below_drewN (Below.refl _ _) nq
  have hV : (Kd.int .u64).C W A vals.length vals := by rw [hW]; exact HV.out
  have c0 := hP.c0
  have c1 := hP.c1
  obtain ⟨ad, rfl, hsrc⟩ : ∃ ad, A = some ad ∧ ∀ j v, (nums .u64 vals)[j]? = some v → W.cell? (ad.add j) = some v := by
    obtain ⟨q1, q2, q3⟩ := hV
    obtain ⟨ad, e, hc⟩ := q3 HN0.out
    refine ⟨ad, e, fun j v hj => ?_⟩
    obtain ⟨p, hp, hpv⟩ : ∃ p, vals[j]? = some p ∧ v = .int .u64 p := by
      rw [nums, List.getElem?_map] at hj
      cases hj2 : vals[j]? with
      | none => rw [hj2] at hj; cases hj
      | some p => rw [hj2] at hj; exact ⟨p, rfl, by injection hj with hj; exact hj.symm⟩
    obtain ⟨cs, s1, s2, s3⟩ := hc j p hp
    have hcs : cs = [.int .u64 p] := s2
    subst hcs
    have := s3 0 _ rfl
    rw [hpv]
    simpa [Kd.int, Kd.scalar] using this
  have hpl : gp ≠ gl := blk_ne hP.blk hP.row (by decide)
  have HP := Lib.hid hP
  have HK0 := Lib.hid hk0
  have HB0 := Lib.hid hb0
  have HS := Lib.hid hsrc
  have hone : ∀ v ∈ nums .u64 vals, v.oneCell' = true := by
    intro v hv
    obtain ⟨x, -, rfl⟩ := List.mem_map.1 hv
    rfl
  have HO := Lib.hid hone
  clear hW hP hk0 hb0 hV h0 h1 hfr hsrc hone
  have EW : Hid (wrap64 ((free : Int) + (vals.length : Int)) = (free : Int) + (vals.length : Int)) := Lib.hid (by unfold wrap64; omega)
  have hx : free + vals.length ≤ cells.length := by omega
  have hx1 : free ≤ cells.length := by omega
  have hx2 : ¬ cells.length = free := by omega
  go_region_law (refine step_copy_kept (B := base) (w0 := w) (by rfl) (.tmp 32) (.tmp 33) 30 30 rfl 33 Try.underlying30 (by kernel_rfl) (cells.length - free) (cells.length - free) ad vals.length c gl free rfl rfl (nums .u64 cells) 33 HP.out.row (nums .u64 vals) (by rw [nums_length]; exact (Nat.min_eq_left (by omega)).symm) HS.out (by rw [nums_length, nums_length]; omega) HO.out (below_drew HB0.out) HBL.out ?_; intro w' hg' hk' hb'; have d1 : w'.cell? ⟨gp, 1, none⟩ = some (.int .i64 free) := cell_kept c1 hk'.out hpl; have d0 : w'.cell? ⟨gp, 0, none⟩ = some (.slice (some ⟨gl, 0, none⟩) cells.length cells.length) := cell_kept c0 hk'.out hpl; have d2 : w'.frozen? ⟨gp, 1, none⟩ = false := blk_frozen (blk_kept HP.out.blk hk'.out hpl) 1)
  all_goals go_wp2_with fail
  all_goals go_ret
  all_goals (simp only [nums_length]; rw [EW.out])
  all_goals exact ⟨rfl, palloc_done HP.out hg'.out hk'.out hb'.out HK0.out HBP.out HBL.out hpl hx⟩
end Go.Proofs.Ytbpkepcbmenbcaa.Ar
