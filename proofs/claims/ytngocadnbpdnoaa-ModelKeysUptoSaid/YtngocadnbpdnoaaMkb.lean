import Derived.Test.YtngocadnbpdnoaaMka
import Derived.Test.YtngocadnbpdnoaaQx7
import Derived.Test.YtngocadnbpdnoaaOpen
namespace Go.Proofs.Ytngocadnbpdnoaa.Mo
open Go Go.Maps Go.RowKit Go.Proofs.Ytngocadnbpdnoaa.Srt Go.Proofs.Ytngocadnbpdnoaa.Q Go.Proofs.YtngocadnbpdnoaaW.PrintWords Go.Proofs.YtngocadnbpdnoaaW.PrintLast Go.Proofs.YtngocadnbpdnoaaW.PrintMore
set_option linter.unusedVariables false
set_option linter.unusedSimpArgs false
/-! The plain law of ModelKeys. -/
def dk (now : PL) (o : OpS) : PL := if o.f0 = 2 then put now o.f1 o.f2 else if o.f0 = 3 then del now o.f1 else if fnd now o.f1 = some o.f3 then put now o.f1 o.f2 else now
def isK (o : OpS) : Prop := 2 ≤ o.f0 ∧ o.f0 ≤ 4
instance (o : OpS) : Decidable (isK o) := by unfold isK; infer_instance
def selK (d : Int) (o : OpS) : Prop := isK o ∧ o.f1.tmod 2 = d
instance (d : Int) (o : OpS) : Decidable (selK d o) := by unfold selK; infer_instance
def runA (s : PL) (l : List OpS) : PL := l.foldl (fun s o => if isK o then dk s o else s) s
def runB (d : Int) (s : PL) (l : List OpS) : PL := l.foldl (fun s o => if selK d o then dk s o else s) s
def eff (v : Option Int) (o : OpS) : Option Int := if o.f0 = 2 then some o.f2 else if o.f0 = 3 then none else if v = some o.f3 then some o.f2 else v
def effs (k : Int) (v : Option Int) (l : List OpS) : Option Int := l.foldl (fun v o => if isK o ∧ o.f1 = k then eff v o else v) v
theorem fnd_dk (s : PL) (o : OpS) (k : Int) : fnd (dk s o) k = if o.f1 = k then eff (fnd s k) o else fnd s k := by
  unfold dk eff
  by_cases hk : o.f1 = k
  · subst hk
    rw [if_pos rfl]
    split
    · rw [fnd_put_same]
    · split
      · rw [fnd_del_same]
      · split
        · rw [fnd_put_same]
        · rfl
  · rw [if_neg hk]
    split
    · rw [fnd_put_other _ _ _ (Ne.symm hk)]
    · split
      · rw [fnd_del_other _ _ (Ne.symm hk)]
      · split
        · rw [fnd_put_other _ _ _ (Ne.symm hk)]
        · rfl
theorem asc_dk {s : PL} (h : Asc s) (o : OpS) : Asc (dk s o) := by
  unfold dk
  split
  · exact asc_put h _ _
  · split
    · exact asc_del h _
    · split
      · exact asc_put h _ _
      · exact h
theorem fnd_runA (k : Int) : ∀ (l : List OpS) (s : PL), fnd (runA s l) k = effs k (fnd s k) l
  | [], s => rfl
  | o :: l, s => by
    show fnd (runA (if isK o then dk s o else s) l) k = effs k (if isK o ∧ o.f1 = k then eff (fnd s k) o else fnd s k) l
    rw [fnd_runA k l]
    congr 1
    by_cases h1 : isK o
    · rw [if_pos h1, fnd_dk]
      by_cases h2 : o.f1 = k <;> simp [h1, h2]
    · simp [h1]
theorem fnd_runB (d k : Int) : ∀ (l : List OpS) (s : PL), fnd (runB d s l) k = if k.tmod 2 = d then effs k (fnd s k) l else fnd s k
  | [], s => by simp [runB, effs]
  | o :: l, s => by
    show fnd (runB d (if selK d o then dk s o else s) l) k = if k.tmod 2 = d then effs k (if isK o ∧ o.f1 = k then eff (fnd s k) o else fnd s k) l else fnd s k
    rw [fnd_runB d k l]
    by_cases h1 : isK o
    · by_cases h2 : o.f1 = k
      · subst h2
        by_cases h3 : o.f1.tmod 2 = d
        · rw [if_pos h3, if_pos h3, if_pos ⟨h1, h3⟩, if_pos ⟨h1, rfl⟩, fnd_dk, if_pos rfl]
        · rw [if_neg h3, if_neg h3, if_neg (fun e => h3 e.2)]
      · have e : fnd (if selK d o then dk s o else s) k = fnd s k := by
          split
          · rw [fnd_dk, if_neg h2]
          · rfl
        rw [e, show (if isK o ∧ o.f1 = k then eff (fnd s k) o else fnd s k) = fnd s k from if_neg (fun e => h2 e.2)]
    · rw [if_neg (fun e : selK d o => h1 e.1), show (if isK o ∧ o.f1 = k then eff (fnd s k) o else fnd s k) = fnd s k from if_neg (fun e => h1 e.1)]
theorem effs_none {k : Int} : ∀ (l : List OpS) (v : Option Int), (∀ o ∈ l, o.f1 ≠ k) → effs k v l = v
  | [], v, _ => rfl
  | o :: l, v, h => by
    show effs k (if isK o ∧ o.f1 = k then eff v o else v) l = v
    rw [if_neg (fun e => h o (by simp) e.2)]
    exact effs_none l v (fun o ho => h o (by simp [ho]))
theorem asc_run (g : OpS → Prop) [DecidablePred g] : ∀ (l : List OpS) (s : PL), Asc s → Asc (l.foldl (fun s o => if g o then dk s o else s) s)
  | [], s, h => h
  | o :: l, s, h => by
    refine asc_run g l _ ?_
    show Asc (if g o then dk s o else s)
    split
    · exact asc_dk h _
    · exact h
theorem keys_law (l : List OpS) (hl : ∀ o ∈ l, 0 ≤ o.f1) : runA [] l = runB 1 (runB 0 [] l) l := by
  have a1 : Asc (runA [] l) := asc_run _ l [] List.Pairwise.nil
  have a2 : Asc (runB 0 [] l) := asc_run _ l [] List.Pairwise.nil
  have a3 : Asc (runB 1 (runB 0 [] l) l) := asc_run _ l _ a2
  refine asc_ext a1 a3 (fun k => ?_)
  rw [fnd_runA, fnd_runB, fnd_runB]
  by_cases hk : 0 ≤ k
  · rcases (show k.tmod 2 = 0 ∨ k.tmod 2 = 1 by rw [Int.tmod_eq_emod_of_nonneg hk]; omega) with h | h
    · rw [if_neg (by rw [h]; decide), if_pos h]
    · rw [if_pos h, if_neg (by rw [h]; decide)]
  · have z : effs k none l = none := effs_none l none (fun o ho e => by have := hl o ho; omega)
    simp only [fnd_nil, z]
    split <;> split <;> first | rfl | exact z.symm
theorem runA_succ (l : List OpS) (i : Nat) (h : i < l.length) : runA [] (l.take (i + 1)) = if isK l[i] then dk (runA [] (l.take i)) l[i] else runA [] (l.take i) := by
  rw [runA, runA, List.take_succ_eq_append_getElem h, List.foldl_append]; rfl
theorem runB_succ (d : Int) (s : PL) (l : List OpS) (i : Nat) (h : i < l.length) : runB d s (l.take (i + 1)) = if selK d l[i] then dk (runB d s (l.take i)) l[i] else runB d s (l.take i) := by
  rw [runB, runB, List.take_succ_eq_append_getElem h, List.foldl_append]; rfl
/-- Do of these kinds. -/
theorem do_kv (f : Nat → Option PL) (N gp bn bh : Nat) (multi : Int) (now : PL) (held : List (Int × PL)) (o : OpS) (A : Option Addr) (c : Nat) (w : World) (hM : PM w f N gp bn bh multi now held) (hF : Fro w f N) (hO : OpWf o) (hN : N ≤ 1099511627776) (hk : isK o) :
    Calls Try.prog 15 #[.pointer (some ⟨gp, 0, none⟩), .agg (opC o A c), .int .u64 0] w fun e w' => ∃ v, e = .returned v ∧ Left w w' f (N + 1) gp bn bh multi (dk now o) held (fun k => k = bn ∨ k = bh) := by
  have h0 : u64wf 0 := by unfold u64wf; decide
  have h3 : o.f0 = 2 ∨ o.f0 = 3 ∨ o.f0 = 4 := by unfold isK at hk; omega
  rcases h3 with h | h | h
  · refine (do_put f N gp bn bh multi now held o A c 0 w hM hF hO h0 hN h).mono fun e w' ⟨ps, he, hR, hL⟩ => ⟨_, he, ?_⟩
    have : dk now o = put now o.f1 o.f2 := by unfold dk; rw [if_pos h]
    rw [this]; exact hL
  · refine (do_del f N gp bn bh multi now held o A c 0 w hM hF hO h0 hN h).mono fun e w' ⟨ps, he, hR, hL⟩ => ⟨_, he, ?_⟩
    have : dk now o = del now o.f1 := by unfold dk; rw [if_neg (by omega), if_pos h]
    rw [this]; exact hL
  · by_cases hx : fnd now o.f1 = some o.f3
    · refine (do_swapY f N gp bn bh multi now held o A c 0 w hM hF hO h0 hN h hx).mono fun e w' ⟨ps, he, hR, hL⟩ => ⟨_, he, ?_⟩
      have : dk now o = put now o.f1 o.f2 := by unfold dk; rw [if_neg (by omega), if_neg (by omega), if_pos hx]
      rw [this]; exact hL
    · refine (do_swapN f N gp bn bh multi now held o A c 0 w hM hF hO h0 hN h hx).mono fun e w' ⟨ps, he, hR, hL⟩ => ⟨_, he, ?_⟩
      have : dk now o = now := by unfold dk; rw [if_neg (by omega), if_neg (by omega), if_neg hx]
      rw [this]; exact hL
theorem samM_l0 (x0 x1 : List SP) (hl : x0.length = x1.length) (hm : x0.length ≤ 4398046511104) : ∀ m i : Nat, i + m = x0.length → shuttermem_SamePairs.l0 (m + 1) x0 x1 (i : Int) = some (decide (x0.drop i = x1.drop i))
  | 0, i, e => by
    unfold shuttermem_SamePairs.l0
    rw [if_neg (by omega)]
    rw [List.drop_eq_nil_of_le (by omega), List.drop_eq_nil_of_le (by omega)]; simp
  | m + 1, i, e => by
    unfold shuttermem_SamePairs.l0
    have h0 : i < x0.length := by omega
    have h1 : i < x1.length := by omega
    rw [if_pos (by omega), if_pos (by omega), if_pos (by omega), rd_get h0, rd_get h1]
    by_cases hd : x0[i] = x1[i]
    · rw [if_neg (by rw [pair_ne]; simpa using hd), show wrap64 ((i : Int) + 1) = ((i + 1 : Nat) : Int) by unfold wrap64; omega, samM_l0 x0 x1 hl hm m (i + 1) (by omega)]
      simp [drop_iff h0 h1, hd]
    · rw [if_pos (pair_ne.2 hd)]
      simp [drop_iff h0 h1, hd]
theorem samM_f (x0 x1 : List SP) (hm : x0.length ≤ 4398046511104) : ∃ k, shuttermem_SamePairs.f k x0 x1 = some (decide (x0 = x1)) := by
  unfold shuttermem_SamePairs.f
  by_cases hl : x0.length = x1.length
  · exact ⟨x0.length + 1, by rw [if_pos (by omega)]; simpa using samM_l0 x0 x1 hl hm x0.length 0 (by omega)⟩
  · exact ⟨0, by rw [if_neg (by omega)]; simp; intro e; exact hl (by rw [e])⟩
theorem samM_c (x y : List SP) (A B : Option Addr) (c d : Nat) (w : World) (hA : Kd.C k90 w A x.length x) (hc : x.length ≤ c) (hB : Kd.C k90 w B y.length y) (hd : y.length ≤ d) (hm : x.length ≤ 4398046511104) :
    Calls Try.prog 18 #[.slice A x.length c, .slice B y.length d] w fun e w' => e = .returned (.bool (decide (x = y))) ∧ Below w.heap.size w w' := by
  obtain ⟨k, hk⟩ := samM_f x y hm
  exact (shuttermem_SamePairs.calls k A c x B d y _ w hA hc hB hd hk).mono fun e w' ⟨he, hb⟩ => ⟨he, hb.below⟩
theorem heapOp : Kd.Heap k39 := Kd.heap_iso _ (Kd.heap_pair (Kd.heap_int _) (Kd.heap_pair (Kd.heap_int _) (Kd.heap_pair (Kd.heap_int _) (Kd.heap_pair (Kd.heap_int _) (Kd.heap_pair (Kd.heap_int _) (Kd.heap_pair (Kd.heap_iso _ (Kd.heap_pair Kd.heap_bool (Kd.heap_pair (Kd.heap_int _) (Kd.heap_int _)))) (Kd.heap_pair (Kd.heap_slice _ (Kd.heap_int _)) (Kd.heap_pair (Kd.heap_int _) (Kd.heap_int _)))))))))
theorem rdO_get {xs : List OpS} {i : Nat} (h : i < xs.length) : rd_T39 xs (i : Int) = xs[i] := by
  unfold rd_T39
  simp [List.getD_eq_getElem?_getD, h]
/-- Two models in one world. -/
structure Two (w wr : World) (f : Nat → Option PL) (N ga na ha gb nb hb : Nat) (m : Int) (now now2 : PL) : Prop where
  a : PM wr f N ga na ha m now []
  b : PM wr f N gb nb hb m now2 []
  fro : Fro wr f N
  ko : KO w wr (fun _ => False)
theorem Two.stepA {w wr w1 : World} {f : Nat → Option PL} {N ga na ha gb nb hb : Nat} {m : Int} {now now' now2 : PL} (h : Two w wr f N ga na ha gb nb hb m now now2) (hL : Left wr w1 f (N + 1) ga na ha m now' [] (fun k => k = na ∨ k = ha)) (h1 : w.heap.size ≤ na) (h2 : w.heap.size ≤ ha) (h3 : gb ≠ na ∧ gb ≠ ha ∧ nb ≠ na ∧ nb ≠ ha ∧ hb ≠ na ∧ hb ≠ ha) : ∃ f', Two w w1 f' (N + 1) ga na ha gb nb hb m now' now2 := by
  obtain ⟨f', hE, hP, hF, hK⟩ := hL
  exact ⟨f', hP, ((h.b.kept hK.kept (by omega) (by omega) (by omega)).ext hE h.b.now.lt h.b.held.1.lt).mono (Nat.le_succ N), hF, h.ko.then_ hK (fun k e => .inr (by omega))⟩
theorem Two.stepB {w wr w1 : World} {f : Nat → Option PL} {N ga na ha gb nb hb : Nat} {m : Int} {now now' now2 : PL} (h : Two w wr f N ga na ha gb nb hb m now now2) (hL : Left wr w1 f (N + 1) gb nb hb m now' [] (fun k => k = nb ∨ k = hb)) (h1 : w.heap.size ≤ nb) (h2 : w.heap.size ≤ hb) (h3 : ga ≠ nb ∧ ga ≠ hb ∧ na ≠ nb ∧ na ≠ hb ∧ ha ≠ nb ∧ ha ≠ hb) : ∃ f', Two w w1 f' (N + 1) ga na ha gb nb hb m now now' := by
  obtain ⟨f', hE, hP, hF, hK⟩ := hL
  exact ⟨f', ((h.a.kept hK.kept (by omega) (by omega) (by omega)).ext hE h.a.now.lt h.a.held.1.lt).mono (Nat.le_succ N), hP, hF, h.ko.then_ hK (fun k e => .inr (by omega))⟩
theorem Two.mono {w wr : World} {f : Nat → Option PL} {N N' ga na ha gb nb hb : Nat} {m : Int} {now now2 : PL} (h : Two w wr f N ga na ha gb nb hb m now now2) (hn : N ≤ N') : Two w wr f N' ga na ha gb nb hb m now now2 := ⟨h.a.mono hn, h.b.mono hn, h.fro.mono hn, h.ko⟩
theorem Two.below {w wr W : World} {f : Nat → Option PL} {N ga na ha gb nb hb : Nat} {m : Int} {now now2 : PL} (h : Two w wr f N ga na ha gb nb hb m now now2) (hB : Below wr.heap.size wr W) : Two w W f N ga na ha gb nb hb m now now2 :=
  ⟨h.a.kept (Kept.of_below hB (fun _ => False)) (fun e => e) (fun e => e) (fun e => e), h.b.kept (Kept.of_below hB (fun _ => False)) (fun e => e) (fun e => e) (fun e => e), h.fro.kept (Kept.of_below hB (fun _ => False)) (fun _ _ _ e => e), h.ko.below hB⟩
theorem heapP : Kd.Heap k90 := Kd.heap_iso _ (Kd.heap_pair (Kd.heap_int _) (Kd.heap_int _))
theorem toS_asc {s : PL} (h : Asc s) (m : Nat) (hm : m + 1 < (toS s).length) : (rd_T90 (toS s) (m : Int)).f0 < (rd_T90 (toS s) ((m + 1 : Nat) : Int)).f0 := by
  rw [rd_get (by omega), rd_get hm]
  have h1 : m + 1 < s.length := by rw [toS_length] at hm; exact hm
  have := List.pairwise_iff_getElem.1 h m (m + 1) (by omega) h1 (by omega)
  simpa [toS] using this
set_option maxRecDepth 100000 in
set_option maxHeartbeats 16000000 in
theorem keys_c (w : World) (A : Option Addr) (c : Nat) (l : List OpS) (hC0 : Kd.C k39 w A l.length l) (hc : l.length ≤ c) (hwf : ∀ o ∈ l, OpWf o) (hn : l.length ≤ 1048576) :
    Calls Try.prog 8 #[.slice A l.length c] w fun e w' => e = .returned (.bool true) ∧ Below w.heap.size w w' := by
  have cL := live_c w
  have HC0 := Lib.hid hC0
  have HWF := Lib.hid hwf
  clear hC0 hwf
  go_enter Try.func8, Try.ntmps8
  go_upto_region 3 with (go_at_call 11; refine cL.mono ?_; rintro e w0 ⟨rfl, hB0⟩)
  clear cL
  have HB0 := Lib.hid hB0
  clear hB0
  go_upto_region 4 with (go_at_call 14; refine (new_c 1 (fun _ => none) w0 (fro_none w0 0) (by omega) (by omega)).mono ?_; rintro e w1 ⟨ga, na, ha, rfl, hP1, hB1, hga, hna, hha⟩; have HP1 := Lib.hid hP1; have HB1 := Lib.hid hB1; clear hP1 hB1)
  go_upto_region 5 with (go_at_call 14; refine (new_c 1 (fun _ => none) w1 (fro_none w1 0) (by omega) (by omega)).mono ?_; rintro e w2 ⟨gb, nb, hb, rfl, hP2, hB2, hgb, hnb, hhb⟩; have HP2 := Lib.hid hP2; have HB2 := Lib.hid hB2; clear hP2 hB2)
  have hs0 := HB0.out.size
  have hs1 := HP1.out.gl
  have hs2 := HP1.out.now.lt
  have hs3 := HP1.out.held.1.lt
  have HT0 : Hid (Two w w2 (fun _ => none) 0 ga na ha gb nb hb 1 [] []) := Lib.hid ⟨HP1.out.kept (Kept.of_below HB2.out (fun _ => False)) (fun e => e) (fun e => e) (fun e => e), HP2.out, fro_none w2 0, ((KO.of_below HB0.out _).below HB1.out).below HB2.out⟩
  have hne1 : gb ≠ na ∧ gb ≠ ha ∧ nb ≠ na ∧ nb ≠ ha ∧ hb ≠ na ∧ hb ≠ ha := by omega
  have hne2 : ga ≠ nb ∧ ga ≠ hb ∧ na ≠ nb ∧ na ≠ hb ∧ ha ≠ nb ∧ ha ≠ hb := by omega
  have hle1 : w.heap.size ≤ na ∧ w.heap.size ≤ ha ∧ w.heap.size ≤ nb ∧ w.heap.size ≤ hb := by omega
  clear HB0 HP1 HB1 HP2 HB2
  go_wp2_with fail
  go_loopw [7] (fun v7 wr => ∃ (i : Nat) (f : Nat → Option PL), v7 = .int .i64 i ∧ i ≤ l.length ∧ Hid (Two w wr f i ga na ha gb nb hb 1 (runA [] (l.take i)) []))
    (fun v7 _ => l.length - (intOf v7).toNat)
  case atStart => exact ⟨0, _, rfl, Nat.zero_le _, HT0⟩
  case round =>
    obtain ⟨i, f, rfl, hi, HT⟩ := hrel
    by_cases hlt : i < l.length
    · obtain ⟨o, ho⟩ : ∃ o, o = l[i] := ⟨_, rfl⟩
      have HO : Hid (OpWf o) := Lib.hid (HWF.out o (by rw [ho]; exact List.getElem_mem hlt))
      obtain ⟨ad, A8, c8, rfl, x0, x1, x2, x3, x4, x5, x6, x7, x8, x9, x10, -⟩ := at_T39 (Kd.Heap.C heapOp (fun k hk => HT.out.ko.kept.2 k hk (fun e => e)) HC0.out) (i : Int) (by omega) (by omega)
      simp only [Int.toNat_natCast] at x0 x1 x2 x3 x4 x5 x6 x7 x8 x9 x10
      rw [rdO_get hlt, ← ho] at x0 x1 x2 x3 x4 x5 x6 x7 x8 x9 x10
      have HSU := Lib.hid (runA_succ l i hlt)
      rw [← ho] at HSU
      by_cases hk : isK o
      · have k1 : decide (2 ≤ o.f0) = true := decide_eq_true hk.1
        have k2 : decide (o.f0 ≤ 4) = true := decide_eq_true hk.2
        rw [if_pos hk] at HSU
        have HK := Lib.hid hk
        clear hk ho
        go_wp2_with (go_at_call 15; refine (do_kv f i ga na ha 1 (runA [] (l.take i)) [] o A8 c8 wr HT.out.a HT.out.fro HO.out (by omega) HK.out).mono ?_; rintro e w3 ⟨v, rfl, hL⟩; obtain ⟨f', hT'⟩ := HT.out.stepA hL hle1.1 hle1.2.1 hne1; have HT' := Lib.hid hT'; clear hT' hL)
        go_roundw
        case rel => exact ⟨i + 1, f', by go_num, by omega, Lib.hid (by rw [HSU.out]; exact HT'.out)⟩
        case measure => simp [intOf]; omega
      · rw [if_neg hk] at HSU
        have HT2 : Hid (Two w wr f (i + 1) ga na ha gb nb hb 1 (runA [] (l.take (i + 1))) []) := Lib.hid (by rw [HSU.out]; exact HT.out.mono (Nat.le_succ i))
        have hcase : (decide (2 ≤ o.f0) = false) ∨ (decide (2 ≤ o.f0) = true ∧ decide (o.f0 ≤ 4) = false) := by
          unfold isK at hk
          simp only [decide_eq_false_iff_not, decide_eq_true_eq]
          omega
        clear hk ho HSU HT
        rcases hcase with k1 | ⟨k1, k2⟩
        · go_wp2_with fail
          go_roundw
          case rel => exact ⟨i + 1, f, by go_num, by omega, HT2⟩
          case measure => simp [intOf]; omega
        · go_wp2_with fail
          go_roundw
          case rel => exact ⟨i + 1, f, by go_num, by omega, HT2⟩
          case measure => simp [intOf]; omega
    · obtain rfl : i = l.length := by omega
      have hT1 := HT.out
      rw [List.take_length] at hT1
      have HT1 := Lib.hid hT1
      clear HT HT0 hT1
      go_wp2_with fail
      go_loopw [8] (fun v8 wr => ∃ (d : Nat) (f : Nat → Option PL), v8 = .int .u64 d ∧ d ≤ 2 ∧ Hid (Two w wr f (l.length + d * l.length) ga na ha gb nb hb 1 (runA [] l) (if d = 0 then [] else if d = 1 then runB 0 [] l else runB 1 (runB 0 [] l) l)))
        (fun v8 _ => 2 - (intOf v8).toNat)
      case atStart => exact ⟨0, _, rfl, by omega, Lib.hid (by simpa using HT1.out)⟩
      case round =>
        obtain ⟨d, f2, rfl, hd, HT2⟩ := hrel
        by_cases hd2 : d < 2
        · obtain ⟨s, hs⟩ : ∃ s, s = (if d = 0 then [] else if d = 1 then runB 0 [] l else runB 1 (runB 0 [] l) l) := ⟨_, rfl⟩
          rw [← hs] at HT2
          have HS := Lib.hid hs
          clear hs
          have hdec : decide ((d : Int) < 2) = true := decide_eq_true (by omega)
          go_wp2_with fail
          go_loopw [9] (fun v9 wr => ∃ (i : Nat) (f : Nat → Option PL), v9 = .int .i64 i ∧ i ≤ l.length ∧ Hid (Two w wr f (l.length + d * l.length + i) ga na ha gb nb hb 1 (runA [] l) (runB d s (l.take i))))
            (fun v9 _ => l.length - (intOf v9).toNat)
          case atStart => exact ⟨0, _, rfl, Nat.zero_le _, HT2⟩
          case round =>
            obtain ⟨i, f, rfl, hi, HT⟩ := hrel
            by_cases hlt : i < l.length
            · obtain ⟨o, ho⟩ : ∃ o, o = l[i] := ⟨_, rfl⟩
              have HO : Hid (OpWf o) := Lib.hid (HWF.out o (by rw [ho]; exact List.getElem_mem hlt))
              obtain ⟨ad, A8, c8, rfl, x0, x1, x2, x3, x4, x5, x6, x7, x8, x9, x10, -⟩ := at_T39 (Kd.Heap.C heapOp (fun k hk => HT.out.ko.kept.2 k hk (fun e => e)) HC0.out) (i : Int) (by omega) (by omega)
              simp only [Int.toNat_natCast] at x0 x1 x2 x3 x4 x5 x6 x7 x8 x9 x10
              rw [rdO_get hlt, ← ho] at x0 x1 x2 x3 x4 x5 x6 x7 x8 x9 x10
              have HSU := Lib.hid (runB_succ d s l i hlt)
              rw [← ho] at HSU
              have hdl : l.length + d * l.length + i ≤ 1099511627776 := by have : d * l.length ≤ 1 * l.length := Nat.mul_le_mul_right _ (by omega); omega
              by_cases hk : isK o
              · have k1 : decide (2 ≤ o.f0) = true := decide_eq_true hk.1
                have k2 : decide (o.f0 ≤ 4) = true := decide_eq_true hk.2
                by_cases hq : o.f1.tmod 2 = (d : Int)
                · have k3 : (o.f1.tmod 2 == (d : Int)) = true := beq_iff_eq.2 hq
                  rw [if_pos ⟨hk, hq⟩] at HSU
                  have HK := Lib.hid hk
                  clear hk ho hq
                  go_wp2_with (go_at_call 15; refine (do_kv f (l.length + d * l.length + i) gb nb hb 1 (runB d s (l.take i)) [] o A8 c8 wr HT.out.b HT.out.fro HO.out hdl HK.out).mono ?_; rintro e w3 ⟨v, rfl, hL⟩; obtain ⟨f', hT'⟩ := HT.out.stepB hL hle1.2.2.1 hle1.2.2.2 hne2; have HT' := Lib.hid hT'; clear hT' hL)
                  go_roundw
                  case rel => exact ⟨i + 1, f', by go_num, by omega, Lib.hid (by rw [HSU.out]; exact HT'.out)⟩
                  case measure => simp [intOf]; omega
                · have k3 : (o.f1.tmod 2 == (d : Int)) = false := beq_eq_false_iff_ne.2 hq
                  rw [if_neg (fun e => hq e.2)] at HSU
                  have HT3 : Hid (Two w wr f (l.length + d * l.length + (i + 1)) ga na ha gb nb hb 1 (runA [] l) (runB d s (l.take (i + 1)))) := Lib.hid (by rw [HSU.out]; exact HT.out.mono (Nat.le_succ _))
                  clear hk ho HSU HT hq
                  go_wp2_with fail
                  go_roundw
                  case rel => exact ⟨i + 1, f, by go_num, by omega, HT3⟩
                  case measure => simp [intOf]; omega
              · rw [if_neg (fun e : selK d o => hk e.1)] at HSU
                have HT3 : Hid (Two w wr f (l.length + d * l.length + (i + 1)) ga na ha gb nb hb 1 (runA [] l) (runB d s (l.take (i + 1)))) := Lib.hid (by rw [HSU.out]; exact HT.out.mono (Nat.le_succ _))
                have hcase : (decide (2 ≤ o.f0) = false) ∨ (decide (2 ≤ o.f0) = true ∧ decide (o.f0 ≤ 4) = false) := by
                  unfold isK at hk
                  simp only [decide_eq_false_iff_not, decide_eq_true_eq]
                  omega
                clear hk ho HSU HT
                rcases hcase with k1 | ⟨k1, k2⟩
                · go_wp2_with fail
                  go_roundw
                  case rel => exact ⟨i + 1, f, by go_num, by omega, HT3⟩
                  case measure => simp [intOf]; omega
                · go_wp2_with fail
                  go_roundw
                  case rel => exact ⟨i + 1, f, by go_num, by omega, HT3⟩
                  case measure => simp [intOf]; omega
            · obtain rfl : i = l.length := by omega
              have hT1 := HT.out
              rw [List.take_length] at hT1
              have HT4 : Hid (Two w wr f (l.length + (d + 1) * l.length) ga na ha gb nb hb 1 (runA [] l) (if d + 1 = 0 then [] else if d + 1 = 1 then runB 0 [] l else runB 1 (runB 0 [] l) l)) := Lib.hid (by
                have e1 : l.length + (d + 1) * l.length = l.length + d * l.length + l.length := by rw [Nat.succ_mul]; omega
                rw [e1]
                have e2 : (if d + 1 = 0 then [] else if d + 1 = 1 then runB 0 [] l else runB 1 (runB 0 [] l) l) = runB d s l := by
                  rw [HS.out]
                  rcases (show d = 0 ∨ d = 1 by omega) with rfl | rfl <;> rfl
                rw [e2]
                exact hT1)
              clear HT hT1
              go_wp2_with fail
              go_roundw
              case rel => exact ⟨d + 1, f, by go_num, by omega, HT4⟩
              case measure => simp [intOf]; omega
        · obtain rfl : d = 2 := by omega
          have HT5 : Hid (Two w wr f2 (l.length + 2 * l.length) ga na ha gb nb hb 1 (runA [] l) (runA [] l)) := Lib.hid (by
            have := HT2.out
            rw [keys_law l (fun o ho => by have := (HWF.out o ho).key; unfold u64wf at this; simp [Lit.wf, IntKind.min, IntKind.signed] at this; omega)]
            rw [keys_law l (fun o ho => by have := (HWF.out o ho).key; unfold u64wf at this; simp [Lit.wf, IntKind.min, IntKind.signed] at this; omega)] at this
            exact this)
          clear HT2
          go_wp2_with (go_at_call 17; refine (content_c f2 (l.length + 2 * l.length) ga na ha 1 (runA [] l) [] wr HT5.out.a (by omega)).mono ?_; rintro e w4 ⟨v, rfl, hR, hB⟩; obtain ⟨A4, c4, rfl⟩ := Kd.R_slice hR; have HR4 := Lib.hid hR; have HB4 := Lib.hid hB; clear hR hB)
          have hAsc : Hid (Asc (runA [] l)) := Lib.hid (asc_run isK l [] List.Pairwise.nil)
          obtain ⟨p, hp⟩ : ∃ p, p = toS (runA [] l) := ⟨_, rfl⟩
          rw [← hp] at HR4 ⊢
          have HP := Lib.hid hp
          clear hp
          have hc4 := (Kd.R_reads' HR4.out).2.1
          have HC4 : Hid (Kd.C k90 w4 A4 p.length p) := Lib.hid (Kd.R_reads' HR4.out).2.2
          have HT6 := Lib.hid (HT5.out.below HB4.out)
          have hpl : p.length ≤ 4398046511104 := by
            rw [HP.out, toS_length]
            have := HT5.out.a.now.len
            omega
          clear HT5 HB4 HR4
          go_wp2_with fail
          go_loopw [11] (fun v11 wr => ∃ m : Nat, v11 = .int .i64 ((m : Int) + 1) ∧ m ≤ p.length ∧ Hid (Two w wr f2 (l.length + 2 * l.length) ga na ha gb nb hb 1 (runA [] l) (runA [] l)) ∧ Hid (Kd.C k90 wr A4 p.length p))
            (fun v11 _ => p.length + 1 - (intOf v11).toNat)
          case atStart => exact ⟨0, rfl, Nat.zero_le _, HT6, HC4⟩
          case round =>
            obtain ⟨m, rfl, hm, HT, HC⟩ := hrel
            by_cases hlt : m + 1 < p.length
            · have hdec2 : decide ((m : Int) + 1 < (p.length : Int)) = true := decide_eq_true (by omega)
              obtain ⟨ad, rfl, y0, -⟩ := at_T90 HC.out (m : Int) (by omega) (by omega)
              obtain ⟨ad', e', z0, -⟩ := at_T90 HC.out ((m + 1 : Nat) : Int) (by omega) (by omega)
              cases e'
              simp only [Int.toNat_natCast] at y0 z0
              have hlt3 : decide ((rd_T90 p ((m + 1 : Nat) : Int)).f0 ≤ (rd_T90 p (m : Int)).f0) = false := by
                have := toS_asc (s := runA [] l) hAsc.out m (by rw [← HP.out]; exact hlt)
                rw [← HP.out] at this
                exact decide_eq_false (by omega)
              obtain ⟨q0, hq0⟩ : ∃ q0, q0 = (rd_T90 p (m : Int)).f0 := ⟨_, rfl⟩
              obtain ⟨q1, hq1⟩ : ∃ q1, q1 = (rd_T90 p ((m + 1 : Nat) : Int)).f0 := ⟨_, rfl⟩
              rw [← hq0] at y0 hlt3
              rw [← hq1] at z0 hlt3
              clear hq0 hq1
              go_wp2_with fail
              go_quiet (fail)
              have HT7 := Lib.hid (HT.out.below (pw_below_drewN (Below.refl _ _) nq))
              have HC7 : Hid (Kd.C k90 (wr.drewN nq) (some ad) p.length p) := Lib.hid (Kd.Heap.C heapP (fun _ _ => rfl) HC.out)
              clear HT HC HT6 HC4
              go_wp2_with fail
              go_roundw
              case rel => exact ⟨m + 1, by go_num, by omega, HT7, HC7⟩
              case measure => simp [intOf]; omega
            · have hdec2 : decide ((m : Int) + 1 < (p.length : Int)) = false := decide_eq_false (by omega)
              go_wp2_with (first
                | (go_at_call 31; refine (same_c f2 (l.length + 2 * l.length) ga na ha gb nb hb 1 1 (runA [] l) (runA [] l) [] [] wr HT.out.a HT.out.b HT.out.fro).mono ?_; rintro e w5 ⟨rfl, hB5⟩; have HT8 := Lib.hid (HT.out.below hB5); have HC8 : Hid (Kd.C k90 w5 A4 p.length p) := Lib.hid (Kd.Heap.C heapP (fun k hk => hB5.block k hk) HC.out); clear hB5; rw [show samB 1 1 (runA [] l) (runA [] l) [] [] = true by simp [samB]])
                | (go_at_call 17; refine (content_c f2 (l.length + 2 * l.length) gb nb hb 1 (runA [] l) [] w5 HT8.out.b (by omega)).mono ?_; rintro e w6 ⟨v6, rfl, hR6, hB6⟩; rw [← HP.out] at hR6; obtain ⟨A6, c6, rfl⟩ := Kd.R_slice hR6; have HR6 := Lib.hid hR6; have HT9 := Lib.hid (HT8.out.below hB6); have HC9 : Hid (Kd.C k90 w6 A4 p.length p) := Lib.hid (Kd.Heap.C heapP (fun k hk => hB6.block k hk) HC8.out); clear hR6 hB6)
                | (go_at_call 18; refine (samM_c p p A4 A6 c4 c6 w6 HC9.out hc4 (Kd.R_reads' HR6.out).2.2 (Kd.R_reads' HR6.out).2.1 hpl).mono ?_; rintro e w7 ⟨rfl, hB7⟩; have HT10 := Lib.hid (HT9.out.below hB7); clear hB7; rw [show decide (p = p) = true by simp]))
              go_ret
              exact ⟨rfl, HT10.out.ko.below_of (fun _ e => e.elim)⟩
end Go.Proofs.Ytngocadnbpdnoaa.Mo
namespace Go.Proofs.Ytngocadnbpdnoaa.Mo
open Go Go.RowKit Go.Proofs.Ytngocadnbpdnoaa.Q Go.Proofs.YtngocadnbpdnoaaW.PrintWords Go.Proofs.YtngocadnbpdnoaaW.PrintLast Go.Proofs.YtngocadnbpdnoaaW.PrintMore Go.Proofs.Ytngocadnbpdnoaa.Open
set_option linter.unusedVariables false
def wfP (p : SP) : Prop := (Lit.int .u64 p.f0).wf = true ∧ (Lit.int .u64 p.f1).wf = true
def BP : SP → Nat := fun x => 1 + 1 + 1
theorem opensP : Opens Try.prog k90 90 BP wfP := by
  intro H enc w base held fuel cs x h
  obtain ⟨a, h1, h2, h3⟩ := opens_struct (g := fun x : SP => (x.f0, x.f1)) (fun a => ⟨a.1, a.2⟩) (fun _ => rfl) Try.underlying90 (by kernel_rfl) (opens_cons (opens_int Try.underlying23) rfl (by kernel_rfl) (opens_last (opens_int Try.underlying23) rfl (by kernel_rfl))) h
  exact ⟨a, h1, h2, h3⟩
def wfA (a : AnS) : Prop := ((Lit.int .i64 a.f0).wf = true ∧ True ∧ (Lit.int .u64 a.f2).wf = true ∧ True ∧ (Lit.int .u64 a.f4).wf = true ∧ (∀ x ∈ a.f5, wfP x) ∧ (Lit.int .u64 a.f6).wf = true)
def BA : AnS → Nat := fun a => 1 + (1 + (1 + (1 + (1 + (((a.f5.map BP).sum + 1) + 1))))) + 1
theorem opensA : Opens Try.prog k26 26 BA wfA := by
  intro H enc w base held fuel cs x h
  obtain ⟨a, h1, h2, h3⟩ := opens_struct (g := fun x : AnS => (x.f0, x.f1, x.f2, x.f3, x.f4, x.f5, x.f6)) (fun a => ⟨a.1, a.2.1, a.2.2.1, a.2.2.2.1, a.2.2.2.2.1, a.2.2.2.2.2.1, a.2.2.2.2.2.2⟩) (fun _ => rfl) Try.underlying26 (by kernel_rfl)
    (opens_cons (opens_int Try.underlying22) rfl (by kernel_rfl) (opens_cons (opens_bool Try.underlying4) rfl (by kernel_rfl) (opens_cons (opens_int Try.underlying23) rfl (by kernel_rfl) (opens_cons (opens_bool Try.underlying4) rfl (by kernel_rfl) (opens_cons (opens_int Try.underlying23) rfl (by kernel_rfl) (opens_cons (opens_slice Try.underlying24 (by kernel_rfl) opensP) rfl (by kernel_rfl) (opens_last (opens_int Try.underlying23) rfl (by kernel_rfl)))))))) h
  exact ⟨a, h1, h2, h3⟩
theorem BP_sum (l : List SP) : (l.map BP).sum = 3 * l.length := by
  induction l with
  | nil => rfl
  | cons a l ih => simp only [List.map_cons, List.sum_cons, ih, List.length_cons, BP]; omega
theorem BA_len (a : AnS) : a.f5.length ≤ BA a := by
  unfold BA
  rw [BP_sum]
  omega
end Go.Proofs.Ytngocadnbpdnoaa.Mo
namespace Go.Proofs.Ytngocadnbpdnoaa.Mo
open Go Go.RowKit Go.Proofs.Ytngocadnbpdnoaa.Q Go.Proofs.YtngocadnbpdnoaaW.PrintWords Go.Proofs.YtngocadnbpdnoaaW.PrintLast Go.Proofs.YtngocadnbpdnoaaW.PrintMore Go.Proofs.Ytngocadnbpdnoaa.Open
set_option linter.unusedVariables false
set_option linter.unusedSimpArgs false
theorem opensFence : Opens Try.prog k36 36 (fun _ => 1 + (1 + 1) + 1) (fun _ => True) := by
  intro H enc w base held fuel cs x h
  obtain ⟨a, h1, h2, h3⟩ := opens_struct (g := fun x : S36 => (x.f0, x.f1, x.f2)) (fun a => ⟨a.1, a.2.1, a.2.2⟩) (fun _ => rfl) Try.underlying36 (by kernel_rfl) (opens_cons (opens_bool Try.underlying4) rfl (by kernel_rfl) (opens_cons (opens_int Try.underlying3) rfl (by kernel_rfl) (opens_last (opens_int Try.underlying3) rfl (by kernel_rfl)))) h
  exact ⟨a, h1, h2, trivial⟩
def wfO (x : OpS) : Prop := (Lit.int .u8 x.f0).wf = true ∧ (Lit.int .u64 x.f1).wf = true ∧ (Lit.int .u64 x.f2).wf = true ∧ (Lit.int .u64 x.f3).wf = true ∧ (Lit.int .u64 x.f4).wf = true ∧ True ∧ (∀ y ∈ x.f6, (Lit.int .u64 y).wf = true) ∧ (Lit.int .u64 x.f7).wf = true ∧ (Lit.int .u64 x.f8).wf = true
def BO (x : OpS) : Nat := 1 + (1 + (1 + (1 + (1 + ((1 + (1 + 1) + 1) + (((x.f6.map (fun _ => 1)).sum + 1) + (1 + 1))))))) + 1
theorem opensO : Opens Try.prog k39 39 BO wfO := by
  intro H enc w base held fuel cs x h
  obtain ⟨a, h1, h2, h3⟩ := opens_struct (g := fun x : OpS => (x.f0, x.f1, x.f2, x.f3, x.f4, x.f5, x.f6, x.f7, x.f8)) (fun a => ⟨a.1, a.2.1, a.2.2.1, a.2.2.2.1, a.2.2.2.2.1, a.2.2.2.2.2.1, a.2.2.2.2.2.2.1, a.2.2.2.2.2.2.2.1, a.2.2.2.2.2.2.2.2⟩) (fun _ => rfl) Try.underlying39 (by kernel_rfl)
    (opens_cons (opens_int Try.underlying34) rfl (by kernel_rfl) (opens_cons (opens_int Try.underlying23) rfl (by kernel_rfl) (opens_cons (opens_int Try.underlying23) rfl (by kernel_rfl) (opens_cons (opens_int Try.underlying23) rfl (by kernel_rfl) (opens_cons (opens_int Try.underlying23) rfl (by kernel_rfl) (opens_cons opensFence rfl (by kernel_rfl) (opens_cons (opens_slice Try.underlying37 (by kernel_rfl) (opens_int Try.underlying23)) rfl (by kernel_rfl) (opens_cons (opens_int Try.underlying23) rfl (by kernel_rfl) (opens_last (opens_int Try.underlying23) rfl (by kernel_rfl)))))))))) h
  exact ⟨a, h1, h2, h3⟩
theorem len_le_sum (l : List OpS) : l.length ≤ (l.map BO).sum := by
  induction l with
  | nil => simp
  | cons a l ih => simp only [List.map_cons, List.sum_cons, List.length_cons]; unfold BO; unfold BO at ih; omega
theorem keys_walk (W : World) (a0 : Option Addr) (c0 : Nat) (x0 : List OpS) (h0 : Kd.C k39 W a0 x0.length x0) (l0 : x0.length ≤ c0) {H : Type} {d0 : DataW H} (b0 : (x0.map BO).sum + 1 ≤ Rows.uptoBulk d0) (w0 : ∀ x ∈ x0, wfO x) (hb : Rows.uptoBulk d0 + 0 ≤ 1048576) :
    Calls Try.prog 8 #[.slice a0 x0.length c0] W fun e W' => e = .returned (.bool true) ∧ Below W.heap.size W W' :=
  keys_c W a0 c0 x0 h0 l0 (fun o ho => ⟨(w0 o ho).2.1, (w0 o ho).2.2.1, (w0 o ho).2.2.2.2.1⟩) (by have := len_le_sum x0; omega)
end Go.Proofs.Ytngocadnbpdnoaa.Mo
