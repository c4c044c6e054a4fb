import Derived.Test.YtngocadnbpdnoaaSMo3
namespace Go.Proofs.Ytngocadnbpdnoaa.Mo
open Go Go.Maps Go.RowKit Go.Proofs.Ytngocadnbpdnoaa.Srt Go.Proofs.Ytngocadnbpdnoaa.Q Go.Proofs.YtngocadnbpdnoaaW.PrintWords Go.Proofs.YtngocadnbpdnoaaW.PrintLast Go.Proofs.YtngocadnbpdnoaaW.PrintMore
set_option linter.unusedVariables false
set_option linter.unusedSimpArgs false
def ansV (e : Int) (fo : Bool) (v : Int) (dn : Bool) (h : Int) (ps : Value) (c : Int) : Value := .agg #[.int .i64 e, .bool fo, .int .u64 v, .bool dn, .int .u64 h, ps, .int .u64 c]
/-- An error alone. -/
def ansE (e : Int) : Value := ansV e false 0 false 0 (.slice none 0 0) 0
def ansC (e : Int) (fo : Bool) (v : Int) (dn : Bool) (h : Int) (ps : Value) (c : Int) : Array Value := #[.int .i64 e, .bool fo, .int .u64 v, .bool dn, .int .u64 h, ps, .int .u64 c]
theorem ansC_one (e : Int) (fo : Bool) (v : Int) (dn : Bool) (h : Int) (A : Option Addr) (n cp : Nat) (c : Int) : (ansC e fo v dn h (.slice A n cp) c).all (·.oneCell') = true := by simp [ansC, Value.oneCell']
theorem res_ans {fn : Func} {p : Tmp} (h : fn.results = #[.cell p 26]) (tmps : Array Value) {g : Nat} (hg : tmps.getD p undef = .pointer (some ⟨g, 0, none⟩)) {w : World} {e : Int} {fo : Bool} {v : Int} {dn : Bool} {hd : Int} {A : Option Addr} {n cp : Nat} {c : Int}
    (hb : w.heap[g]? = some (.cells (ansC e fo v dn hd (.slice A n cp) c) 26 (0, 0))) : (results fn tmps).run Try.prog w = .ok (ansV e fo v dn hd (.slice A n cp) c) w := by
  have h0 : w.cell? ⟨g, 0, none⟩ = some (.int .i64 e) := by rw [blk_cell hb]; rfl
  have h1 : w.cell? ⟨g, 1, none⟩ = some (.bool fo) := by rw [blk_cell hb]; rfl
  have h2 : w.cell? ⟨g, 2, none⟩ = some (.int .u64 v) := by rw [blk_cell hb]; rfl
  have h3 : w.cell? ⟨g, 3, none⟩ = some (.bool dn) := by rw [blk_cell hb]; rfl
  have h4 : w.cell? ⟨g, 4, none⟩ = some (.int .u64 hd) := by rw [blk_cell hb]; rfl
  have h5 : w.cell? ⟨g, 5, none⟩ = some (.slice A n cp) := by rw [blk_cell hb]; rfl
  have h6 : w.cell? ⟨g, 6, none⟩ = some (.int .u64 c) := by rw [blk_cell hb]; rfl
  have hg' : tmps[p]?.getD undef = .pointer (some ⟨g, 0, none⟩) := by simpa using hg
  simp only [results, h]
  simp [go_sem, hg', h0, h1, h2, h3, h4, h5, h6, ansV]
theorem Kept_row (w : World) (g : Nat) (cs : Array Value) : Kept w (w.setRow g cs) (fun k => k = g) := ⟨by simp, fun i _ hi => setRow_other w g i cs hi⟩
/-- Kept, and nothing told outside. -/
structure KO (w w' : World) (K : Nat → Prop) : Prop where
  kept : Kept w w' K
  os : w'.os = w.os
  tape : w'.tape = w.tape
  output : w'.output = w.output
theorem KO.refl (w : World) (K : Nat → Prop) : KO w w K := ⟨Kept.refl _ _, rfl, rfl, rfl⟩
theorem KO.of_below {w W : World} (h : Below w.heap.size w W) (K : Nat → Prop) : KO w W K := ⟨Kept.of_below h K, h.os, h.tape, h.output⟩
theorem KO.mono {w W : World} {K K' : Nat → Prop} (h : KO w W K) (hs : ∀ k, K k → K' k) : KO w W K' := ⟨h.kept.mono hs, h.os, h.tape, h.output⟩
theorem KO.then_ {w W W2 : World} {K K2 : Nat → Prop} (h : KO w W K) (k : KO W W2 K2) (hs : ∀ k, K2 k → K k ∨ w.heap.size ≤ k) : KO w W2 K := ⟨h.kept.then_ k.kept hs, k.os.trans h.os, k.tape.trans h.tape, k.output.trans h.output⟩
theorem KO.of_grown {w W W2 : World} {K : Nat → Prop} {row : Option Nat} (hg : W.grownBy W2 row) (h : KO w W K) (hr : ∀ k, row = some k → K k ∨ w.heap.size ≤ k) : KO w W2 K := ⟨Kept.of_grown hg h.kept hr, hg.os.trans h.os, hg.tape.trans h.tape, hg.output.trans h.output⟩
theorem KO.below {w W W2 : World} {K : Nat → Prop} (h : KO w W K) (hb : Below W.heap.size W W2) : KO w W2 K := h.then_ (KO.of_below hb (fun _ => False)) (fun _ e => e.elim)
theorem KO.row (w : World) (g : Nat) (cs : Array Value) : KO w (w.setRow g cs) (fun k => k = g) := ⟨Kept_row w g cs, rfl, rfl, rfl⟩
theorem KO.below_of {w W : World} {K : Nat → Prop} (h : KO w W K) (hs : ∀ k, K k → w.heap.size ≤ k) : Below w.heap.size w W := ⟨h.os, h.tape, h.output, h.kept.1, fun i hi => h.kept.2 i hi (fun e => by have := hs i e; omega)⟩
/-- What a step of the model leaves: n: how many more. -/
def Left (w w' : World) (f : Nat → Option PL) (N gp bn bh : Nat) (multi : Int) (now : PL) (held : List (Int × PL)) (K : Nat → Prop) : Prop :=
  ∃ f', Ext w.heap.size f f' ∧ PM w' f' N gp bn bh multi now held ∧ Fro w' f' N ∧ KO w w' K
theorem left_same {w w' : World} {f : Nat → Option PL} {N N' gp bn bh : Nat} {multi : Int} {now : PL} {held : List (Int × PL)} {K : Nat → Prop} (hM : PM w f N gp bn bh multi now held) (hF : Fro w f N) (hb : Below w.heap.size w w') (hn : N ≤ N') : Left w w' f N' gp bn bh multi now held K :=
  ⟨f, Ext.refl _ _, (hM.kept (Kept.of_below hb (fun _ => False)) (fun e => e) (fun e => e) (fun e => e)).mono hn, (hF.kept (Kept.of_below hb (fun _ => False)) (fun _ _ _ e => e)).mono hn, KO.of_below hb _⟩
def snapHeld (h : Int) (now : PL) (held : List (Int × PL)) : List (Int × PL) := if (fnd held h).isSome then held else if h = 0 then held else put held h now
def snapAns (h : Int) (held : List (Int × PL)) : Value := if (fnd held h).isSome then ansE 32 else ansV 0 false 0 false h (.slice none 0 0) 0
set_option maxRecDepth 100000 in
set_option maxHeartbeats 4000000 in
theorem snapshot_c (f : Nat → Option PL) (N gp bn bh : Nat) (multi : Int) (now : PL) (held : List (Int × PL)) (hdl : Int) (w : World) (hM : PM w f N gp bn bh multi now held) (hF : Fro w f N) (hh : u64wf hdl) (hN : N ≤ 1099511627776) :
    Calls Try.prog 36 #[.pointer (some ⟨gp, 0, none⟩), .int .u64 hdl] w fun e w' => e = .returned (snapAns hdl held) ∧ Left w w' f (N + 1) gp bn bh multi now (snapHeld hdl now held) (fun k => k = bh) := by
  have hgl := hM.gl
  have hnl := hM.now.lt
  have hhl := hM.held.1.lt
  have c2 := hM.c2
  have c1 := hM.c1
  have HMM := Lib.hid hM
  have HFF := Lib.hid hF
  have HU := Lib.hid hh
  obtain ⟨w1, hw1⟩ : ∃ w1, w1 = w.alloc (.cells #[.int .i64 0, .bool false, .int .u64 0, .bool false, .int .u64 0, .slice none 0 0, .int .u64 0] 26) := ⟨_, rfl⟩
  have hb1 : Below w.heap.size w w1 := by rw [hw1]; exact below_alloc (Below.refl _ w) _
  obtain ⟨v, hv, hrun⟩ := held_look (hM.held.kept (Kept.of_below hb1 (fun _ => False)) (fun e => e)) hh
  rw [hw1] at hrun
  have HV := Lib.hid hv
  have HW1 := Lib.hid hw1
  clear hM hF hh hv hw1 hb1
  by_cases hs : (fnd held hdl).isSome = true
  · rw [hs] at hrun
    go_enter Try.func36, Try.ntmps36
    go_wp2
    exact bodyPost_ret (v := ansE 32) (by simp [results, Try.results36, go_sem, ansE, ansV]) rfl ⟨by unfold snapAns; rw [if_pos hs], by unfold snapHeld; rw [if_pos hs]; exact left_same HMM.out HFF.out (below_alloc (Below.refl _ w) _) (Nat.le_succ N)⟩
  · have hs' : (fnd held hdl).isSome = false := by simpa using hs
    rw [hs'] at hrun
    by_cases h0 : hdl = 0
    · subst h0
      go_enter Try.func36, Try.ntmps36
      go_wp2
      exact bodyPost_ret (v := ansV 0 false 0 false 0 (.slice none 0 0) 0) (by simp [results, Try.results36, go_sem, ansE, ansV]) rfl ⟨by unfold snapAns; rw [hs']; rfl, by unfold snapHeld; rw [if_neg hs, if_pos rfl]; exact left_same HMM.out HFF.out (below_alloc (Below.refl _ w) _) (Nat.le_succ N)⟩
    · have hne : (hdl != 0) = true := by simp [h0]
      go_enter Try.func36, Try.ntmps36
      go_wp2_with fail
      have hBw : Below w.heap.size w (w.alloc (Obj.cells #[.int .i64 0, .bool false, .int .u64 0, .bool false, .int .u64 0, .slice none 0 0, .int .u64 0] 26)).drew := below_drew (below_alloc (Below.refl _ w) _)
      have hHn := Lib.hid (HMM.out.now.below hBw)
      have HB0 := Lib.hid hBw
      clear hBw hrun
      have hHh := Lib.hid (HMM.out.held.kept (Kept.of_below HB0.out (fun _ => False)) (fun e => e))
      have hblk : (w.alloc (Obj.cells #[.int .i64 0, .bool false, .int .u64 0, .bool false, .int .u64 0, .slice none 0 0, .int .u64 0] 26)).drew.heap[w.heap.size]? = some (.cells (ansC 0 false 0 false 0 (.slice none 0 0) 0) 26 (0, 0)) := heap_alloc_new w _
      have HBLK := Lib.hid hblk
      clear hblk
      go_region_held3 (fun w' => w'.cell? ⟨gp, 1, none⟩ = some (.map (some bn)) ∧ w'.cell? ⟨gp, 2, none⟩ = some (.map (some bh)))
        (first
          | go_keep
          | (go_split_ands
             refine ⟨?_, ?_⟩ <;> assumption))
        ((go_at_call 79; refine (clone_c bn N now _ hHn.out).mono ?_; rintro e w2 ⟨rfl, hm2, hb2, hs2⟩
          have he2 := ext_updF (f := f) (B := w.heap.size) (b := w.heap.size + 1) (l := now) (by omega) (HFF.out.lt (by omega))
          have hk02 : KO w w2 (fun _ => False) := (KO.of_below HB0.out (fun _ => False)).below hb2
          obtain ⟨w3, hrun3, ho3, hg3⟩ := held_put (f := updF f (w.heap.size + 1) now) ((hHh.out.kept (Kept.of_below hb2 (fun _ => False)) (fun e => e)).ext he2) HU.out (bl := w.heap.size + 1) (l := now) (by simp [updF]) (by unfold maxLen; omega)
          have hk3 : KO w w3 (fun k => k = bh) := KO.of_grown hg3 (hk02.mono (fun _ e => e.elim)) (fun k e => .inl (by cases e; rfl))
          have hne3 : gp ≠ bh := fun e => by
            have h1 := HMM.out.blk
            rw [e] at h1
            obtain ⟨⟨es, cl, h2, _⟩, _⟩ := HMM.out.held
            rw [h1] at h2; cases h2
          have hPM : PM w3 (updF f (w.heap.size + 1) now) (N + 1) gp bn bh multi now (put held hdl now) :=
            ⟨(hk3.kept.2 gp hgl hne3).trans HMM.out.blk, ((HMM.out.now.kept hk3.kept HMM.out.ne).mono (Nat.le_succ N)), ho3, (HMM.out.ext he2 hnl hhl).fn, (HMM.out.ext he2 hnl hhl).fh, HMM.out.ne⟩
          have hm2' : MapN w2 (w.heap.size + 1) N now := by simpa using hm2
          have hmN : MapN w3 (w.heap.size + 1) N now := hm2'.kept (Kept.of_grown hg3 (Kept.refl _ (fun k => k = bh)) (fun k e => .inl (by cases e; rfl))) (by omega)
          have hFr : Fro w3 (updF f (w.heap.size + 1) now) (N + 1) := ((HFF.out.kept hk3.kept (fun b l hb e => by subst e; rw [HMM.out.fh] at hb; cases hb)).upd hmN).mono (Nat.le_succ N)
          have hc21 := hPM.c1
          have hc22 := hPM.c2
          have hc11 := (HMM.out.kept hk02.kept (fun e => e) (fun e => e) (fun e => e)).c1
          have hc12 := (HMM.out.kept hk02.kept (fun e => e) (fun e => e) (fun e => e)).c2
          have hb3 : w3.heap[w.heap.size]? = some (.cells (ansC 0 false 0 false 0 (.slice none 0 0) 0) 26 (0, 0)) :=
            (hg3.block w.heap.size (Nat.lt_of_lt_of_le (by simp) hb2.size) (by simp; omega)).trans ((hb2.block w.heap.size (by simp)).trans HBLK.out)
          have HE2 := Lib.hid he2
          have HK3 := Lib.hid hk3
          have HPM := Lib.hid hPM
          have HFr := Lib.hid hFr
          have HB3 := Lib.hid hb3
          clear he2 hk02 hk3 hPM hmN hFr hb3 hm2 hm2' hb2 hs2 ho3 hg3 hne3))
      go_wp2_with (first | ((with_reducible refine gate_store (t := 26) (p := 4) rfl ?_); (refine wpList_store_row rfl 26 (.tmp 4) (.tmp 31) rfl w.heap.size (ansC 0 false 0 false hdl (.slice none 0 0) 0) rfl rfl 26 _ HB3.out (by kernel_rfl) rfl (ansC_one _ _ _ _ _ _ _ _ _) ?_)))
      refine bodyPost_ret (res_ans rfl _ rfl (setRow_heap _ _ _ _ _ _ HB3.out)) rfl ⟨by unfold snapAns; rw [hs']; rfl, by unfold snapHeld; rw [if_neg hs, if_neg h0]; exact ⟨_, HE2.out, HPM.out.kept (Kept_row _ _ _) (by omega) (by omega) (by omega), HFr.out.kept (Kept_row _ _ _) (fun b l hb e => by subst e; unfold updF at hb; rw [if_neg (by omega), HFF.out.lt (Nat.le_refl _)] at hb; cases hb), HK3.out.then_ (KO.row _ _ _) (fun k e => .inr (by omega))⟩⟩
end Go.Proofs.Ytngocadnbpdnoaa.Mo
