import Derived.Test.YtngocadnbpdnoaaSMo5
import Derived.Deep.DeepCutAuto
namespace Go.Proofs.Ytngocadnbpdnoaa.Mo
open Go Go.Maps Go.RowKit Go.Proofs.Ytngocadnbpdnoaa.Srt Go.Proofs.Ytngocadnbpdnoaa.Q Go.Proofs.YtngocadnbpdnoaaW.PrintWords Go.Proofs.YtngocadnbpdnoaaW.PrintLast Go.Proofs.YtngocadnbpdnoaaW.PrintMore
set_option linter.unusedVariables false
set_option linter.unusedSimpArgs false
/-- A model but for what is held. -/
structure PB (w : World) (f : Nat → Option PL) (N gp bn bh : Nat) (multi : Int) (now : PL) : Prop where
  blk : w.heap[gp]? = some (.cells #[.int .i64 multi, .map (some bn), .map (some bh)] 100 (0, 0))
  now : MapN w bn N now
  fn : f bn = none
  fh : f bh = none
  ne : bn ≠ bh
theorem PB.kept {w W : World} {S : Nat → Prop} {f : Nat → Option PL} {N gp bn bh : Nat} {multi : Int} {now : PL} (h : PB w f N gp bn bh multi now) (hk : Kept w W S) (h1 : ¬ S gp) (h2 : ¬ S bn) : PB W f N gp bn bh multi now :=
  ⟨(hk.2 gp (Array.getElem?_eq_some_iff.1 h.blk).1 h1).trans h.blk, h.now.kept hk h2, h.fn, h.fh, h.ne⟩
theorem PB.ext {w : World} {B : Nat} {f f' : Nat → Option PL} {N gp bn bh : Nat} {multi : Int} {now : PL} (h : PB w f N gp bn bh multi now) (he : Ext B f f') (h2 : bn < B) (h3 : bh < B) : PB w f' N gp bn bh multi now :=
  ⟨h.blk, h.now, by
    cases hf : f' bn with
    | none => rfl
    | some l => rcases he.2 bn l hf with e | e; rw [h.fn] at e; cases e; omega, by
    cases hf : f' bh with
    | none => rfl
    | some l => rcases he.2 bh l hf with e | e; rw [h.fh] at e; cases e; omega, h.ne⟩
theorem PB.c2 {w : World} {f : Nat → Option PL} {N gp bn bh : Nat} {multi : Int} {now : PL} (h : PB w f N gp bn bh multi now) : w.cell? ⟨gp, 2, none⟩ = some (.map (some bh)) := by rw [blk_cell h.blk]; rfl
theorem PB.ng {w : World} {f : Nat → Option PL} {N gp bn bh n : Nat} {multi : Int} {now : PL} {hs : List (Int × PL)} (h : PB w f N gp bn bh multi now) (hh : HeldN w f bh n hs) : gp ≠ bh := fun e => by
  have h1 := h.blk
  rw [e] at h1
  obtain ⟨⟨es, cl, h2, _⟩, _⟩ := hh
  rw [h1] at h2; cases h2
theorem held_val {f : Nat → Option PL} {held : List (Int × PL)} {k : Int} {c : Value} {y : DataW Unit × List MemPlace} (hv : RH f c = some y) (hat : ∀ zd, (mp dmap held).atKey (.int .u64 k) zd = y.1) :
    ∃ b l, fnd held k = some l ∧ c = .map (some b) ∧ f b = some l := by
  have h0 := hat .nil
  have hv' : RH f c = some ((mp dmap held).atKey (.int .u64 k) .nil, y.2) := by rw [h0]; exact hv
  rcases held_at hv' with ⟨hn, rfl⟩ | ⟨b, l, h1, h2, h3⟩
  · exfalso
    have h1 := hat (.lit (.int .u64 5))
    rw [atKey_mp, hn] at h0 h1
    rw [← h0] at h1
    cases h1
  · exact ⟨b, l, h1, h2, h3⟩
theorem grown_of_below {w W : World} (row : Option Nat) (h : Below w.heap.size w W) : w.grownBy W row := ⟨h.os, h.tape, h.output, h.size, fun i hi _ => h.block i hi⟩
theorem made_held (w : World) (f : Nat → Option PL) : HeldN (w.alloc (Obj.map #[] 0)) f w.heap.size 0 [] := ⟨World.ownsMap_made _ _ _ _, List.Pairwise.nil⟩
theorem fork_way1 {w w2 : World} {f : Nat → Option PL} {N : Nat} {multi : Int} {now : PL} (hF : Fro w f N) (hB : Below w.heap.size w w2) (hm : MapN w2 w.heap.size N now) (hs : w.heap.size < w2.heap.size) :
    PB ((w2.alloc (Obj.map #[] 0)).alloc (Obj.cells #[.int .i64 multi, .map (some w.heap.size), .map (some w2.heap.size)] 100)) f N (w2.heap.size + 1) w.heap.size w2.heap.size multi now ∧
    HeldN ((w2.alloc (Obj.map #[] 0)).alloc (Obj.cells #[.int .i64 multi, .map (some w.heap.size), .map (some w2.heap.size)] 100)) f w2.heap.size 0 [] ∧
    Below w.heap.size w ((w2.alloc (Obj.map #[] 0)).alloc (Obj.cells #[.int .i64 multi, .map (some w.heap.size), .map (some w2.heap.size)] 100)) := by
  have b2 : Below w2.heap.size w2 ((w2.alloc (Obj.map #[] 0)).alloc (Obj.cells #[.int .i64 multi, .map (some w.heap.size), .map (some w2.heap.size)] 100)) := below_alloc (below_alloc (Below.refl _ _) _) _
  have b3 : Below (w2.alloc (Obj.map #[] 0)).heap.size (w2.alloc (Obj.map #[] 0)) ((w2.alloc (Obj.map #[] 0)).alloc (Obj.cells #[.int .i64 multi, .map (some w.heap.size), .map (some w2.heap.size)] 100)) := below_alloc (Below.refl _ _) _
  refine ⟨⟨?_, hm.kept (Kept.of_below b2 (fun _ => False)) (fun e => e), hF.lt (Nat.le_refl _), hF.lt (by omega), by omega⟩, (made_held w2 f).kept (Kept.of_below b3 (fun _ => False)) (fun e => e), hB.trans (b2.mono hB.size)⟩
  have := heap_alloc_new (w2.alloc (Obj.map #[] 0)) (Obj.cells #[.int .i64 multi, .map (some w.heap.size), .map (some w2.heap.size)] 100)
  simpa using this
theorem fork_way2 {w w2 : World} {f : Nat → Option PL} {N : Nat} {multi : Int} {now : PL} (hF : Fro w f N) (hB : Below w.heap.size w w2) (hB2 : Below (w.alloc (Obj.map #[] 0)).drew.heap.size (w.alloc (Obj.map #[] 0)).drew w2) (hm : MapN w2 (w.alloc (Obj.map #[] 0)).drew.heap.size N now) (hs : (w.alloc (Obj.map #[] 0)).drew.heap.size < w2.heap.size) :
    PB (w2.alloc (Obj.cells #[.int .i64 multi, .map (some (w.heap.size + 1)), .map (some w.heap.size)] 100)) f N w2.heap.size (w.heap.size + 1) w.heap.size multi now ∧
    HeldN (w2.alloc (Obj.cells #[.int .i64 multi, .map (some (w.heap.size + 1)), .map (some w.heap.size)] 100)) f w.heap.size 0 [] ∧
    Below w.heap.size w (w2.alloc (Obj.cells #[.int .i64 multi, .map (some (w.heap.size + 1)), .map (some w.heap.size)] 100)) := by
  have e1 : (w.alloc (Obj.map #[] 0)).drew.heap.size = w.heap.size + 1 := by simp
  rw [e1] at hm hs
  have b2 : Below w2.heap.size w2 (w2.alloc (Obj.cells #[.int .i64 multi, .map (some (w.heap.size + 1)), .map (some w.heap.size)] 100)) := below_alloc (Below.refl _ _) _
  refine ⟨⟨heap_alloc_new w2 _, hm.kept (Kept.of_below b2 (fun _ => False)) (fun e => e), hF.lt (by omega), hF.lt (Nat.le_refl _), by omega⟩, ((made_held w f).kept (W := w2) (Kept.of_below (w := (w.alloc (Obj.map #[] 0)).drew) hB2 (fun _ => False)) (fun e => e)).kept (Kept.of_below b2 (fun _ => False)) (fun e => e), hB.trans (b2.mono hB.size)⟩
set_option maxRecDepth 100000 in
set_option maxHeartbeats 8000000 in
theorem fork_c (f : Nat → Option PL) (N gp bn bh : Nat) (multi : Int) (now : PL) (held : List (Int × PL)) (w : World) (hM : PM w f N gp bn bh multi now held) (hF : Fro w f N) (hN : N ≤ 1099511627776) :
    Calls Try.prog 30 #[.pointer (some ⟨gp, 0, none⟩)] w fun e w' => ∃ gq bm bi, e = .returned (.pointer (some ⟨gq, 0, none⟩)) ∧
      ∃ f', Ext w.heap.size f f' ∧ PM w' f' N gq bm bi multi now held ∧ Fro w' f' N ∧ Below w.heap.size w w' ∧ w.heap.size ≤ gq ∧ w.heap.size ≤ bm ∧ w.heap.size ≤ bi := by
  have hmm := @run_makeMap Try.prog
  have hgl := hM.gl
  have hnl := hM.now.lt
  have hhl := hM.held.1.lt
  have c0 := hM.c0
  have c1 := hM.c1
  have c2 := hM.c2
  have HMM := Lib.hid hM
  have HFF := Lib.hid hF
  clear hM hF
  go_enter Try.func30, Try.ntmps30
  go_upto_region 3 with fail
  go_cut [3] (fun v3 w1 => ∃ gq bm bi, v3 = .pointer (some ⟨gq, 0, none⟩) ∧ Hid (PB w1 f N gq bm bi multi now ∧ HeldN w1 f bi 0 [] ∧ Below w.heap.size w w1) ∧ w.heap.size ≤ gq ∧ w.heap.size ≤ bm ∧ w.heap.size ≤ bi)
  case first =>
    go_region_held3 (fun w' => w'.cell? ⟨gp, 0, none⟩ = some (.int .i64 multi) ∧ w'.cell? ⟨gp, 1, none⟩ = some (.map (some bn)))
      (first
        | go_keep
        | (go_split_ands
           refine ⟨?_, ?_⟩ <;> assumption))
      ((go_at_call 79; refine (clone_c bn N now _ (MapN.below HMM.out.now (by first | exact below_drew (Below.refl _ _) | exact below_alloc (below_drew (Below.refl _ _)) _))).mono ?_; rintro e w2 ⟨rfl, hm2, hb2, hs2⟩
        have hB : Below w.heap.size w w2 := Below.trans (by first | exact below_drew (Below.refl _ _) | exact below_alloc (below_drew (Below.refl _ _)) _) (hb2.mono (by simp))
        have hc0 := (hB.cell (p := ⟨gp, 0, none⟩) hgl).trans c0
        have hc1 := (hB.cell (p := ⟨gp, 1, none⟩) hgl).trans c1
        have HB := Lib.hid hB
        have HB2 := Lib.hid hb2
        have HM2 := Lib.hid hm2
        have HS2 := Lib.hid hs2
        clear hB hb2 hm2 hs2))
    all_goals (go_wp2_with fail)
    all_goals go_meet
    case rel => exact ⟨_, _, _, rfl, Lib.hid (fork_way1 HFF.out HB.out HM2.out HS2.out), by have := HB.out.size; omega, Nat.le_refl _, HB.out.size⟩
    case rel => exact ⟨_, _, _, rfl, Lib.hid (fork_way2 HFF.out HB.out HB2.out HM2.out HS2.out), HB.out.size, Nat.le_succ _, Nat.le_refl _⟩
  case rest =>
    obtain ⟨gq, bm, bi, rfl, HP, hq1, hq2, hq3⟩ := hcut
    have cc2 := (HP.out.2.2.cell (p := ⟨gp, 2, none⟩) hgl).trans c2
    have hown := Lib.hid (HMM.out.held.kept (Kept.of_below HP.out.2.2 (fun _ => False)) (fun e => e))
    go_wp2_with (first
      | (at_range; refine wpList_range_own _ rfl _ 98 rfl 23 97 lawU Try.underlying98 (RH f) bh N (mp dmap held) rfl hown.out.1 ?_; intro w0 hrg0 hg0 hs0)
      | fail)
    go_frame
    have hk0 : Kept wc w0 (fun _ => False) := Kept.of_grown hg0 (Kept.refl _ _) (fun k e => by cases e)
    have R0 := Lib.hid (And.intro (HP.out.1.kept hk0 (fun e => e) (fun e => e)) (And.intro (HP.out.2.1.kept hk0 (fun e => e)) (And.intro (HFF.out.kept ((Kept.of_below HP.out.2.2 (fun _ => False)).then_ hk0 (fun _ e => e.elim)) (fun _ _ _ e => e)) (HP.out.2.2.grown hg0 HP.out.2.2.size (fun j hj => by cases hj)))))
    have HS0 := Lib.hid hs0
    have HN1 := Lib.hid HP.out.2.2.size
    clear hs0 hk0 hg0 cc2 HP hown
    go_loopw [5] (fun _ wr => ∃ (left : Lit → Bool) (cnt : Nat) (hs : List (Int × PL)) (f' : Nat → Option PL), wr.ranges Try.prog 23 (RH f) bh wc.heap.size N (mp dmap held) left cnt ∧ cnt ≤ held.length ∧ Hid (Agree (mp dmap hs) (mp dmap held) left ∧ PB wr f' N gq bm bi multi now ∧ HeldN wr f' bi (held.length - cnt) hs ∧ Fro wr f' N ∧ Ext w.heap.size f f' ∧ Below w.heap.size w wr ∧ wc.heap.size < wr.heap.size))
      (fun _ wr => wr.rangeLeft bh wc.heap.size)
    case atStart =>
      exact ⟨_, _, [], f, hrg0, Nat.le_of_eq (size_mp _), Lib.hid ⟨agree_start _, R0.out.1, R0.out.2.1.mono (Nat.zero_le _), R0.out.2.2.1, Ext.refl _ _, R0.out.2.2.2, by have := HS0.out; omega⟩⟩
    case round =>
      obtain ⟨left, cnt, hs, f', hrg, hcnt, HI⟩ := hrel
      go_wp2_with (first
        | (at_next; refine wpList_next_ranges _ rfl _ rfl 23 lawU (RH f) (Value.int .u64) id (fun key kl hk => by obtain ⟨x, hx, _⟩ := Maps.keyOf_int_inv Try.underlying23 hk; exact ⟨x, hx⟩) (fun v _ _ => ⟨v, rfl⟩) bh wc.heap.size N _ _ _ rfl hrg ?_ ?_)
        | fail)
      · intro hc0 hl0
        go_wp2
        go_ret
        subst hc0
        obtain ⟨hA, hP, hH, hFr, hE, hB, _⟩ := HI.out
        have e := mp_inj dmap_inj (agree_end hA hl0 (hH.1.canon lawU) (HMM.out.held.1.canon lawU))
        subst e
        exact ⟨gq, bm, bi, rfl, f', hE, ⟨hP.blk, hP.now, hH.mono (by have := HMM.out.held.len; omega), hP.fn, hP.fh, hP.ne⟩, hFr, hB, hq1, hq2, hq3⟩
      · intro x c kl yd yp w1 cnt1 hkey hlk hv hat hrg1 hlt hg1 hs1 hen
        obtain ⟨x', ex, rfl, hwx⟩ := Maps.keyOf_int_inv Try.underlying23 hkey
        cases ex
        obtain ⟨b, l, hfd, rfl, hfb⟩ := held_val (y := (yd, yp)) hv hat
        have hat' : ∀ zd, (mp dmap held).atKey (.int .u64 x) zd = dmap l := fun zd => by rw [atKey_mp, hfd]
        have hk1 : Kept wr w1 (fun k => k = wc.heap.size) := Kept.of_grown hg1 (Kept.refl _ _) (fun k e => .inl (by cases e; rfl))
        obtain ⟨hA, hP, hH, hFr, hE, hB, hws⟩ := HI.out
        have hkf : ∀ b' l', f' b' = some l' → ¬ b' = wc.heap.size := fun b' l' hb e => by
          subst e
          have h1 := (hFr _ _ hb).1
          obtain ⟨es, cl, h2, _⟩ := h1
          obtain ⟨es', cl', since, seen, c0', _, _, _, _, h3, _⟩ := hrg
          rw [h2] at h3; cases h3
        have hgq : gq ≠ wc.heap.size := fun e => by
          have h2 := hP.blk
          obtain ⟨es', cl', since, seen, c0', _, _, _, _, h3, _⟩ := hrg
          rw [← e, h2] at h3; cases h3
        have hbm : bm ≠ wc.heap.size := fun e => by
          obtain ⟨es, cl, h2, _⟩ := hP.now.1
          obtain ⟨es', cl', since, seen, c0', _, _, _, _, h3, _⟩ := hrg
          rw [← e, h2] at h3; cases h3
        have hbi : bi ≠ wc.heap.size := fun e => by
          obtain ⟨es, cl, h2, _⟩ := hH.1
          obtain ⟨es', cl', since, seen, c0', _, _, _, _, h3, _⟩ := hrg
          rw [← e, h2] at h3; cases h3
        have hgi := hP.ng hH
        have hP1 := hP.kept hk1 hgq hbm
        have hH1 := hH.kept hk1 hbi
        have hF1 := hFr.kept hk1 hkf
        have hB1 : Below w.heap.size w w1 := hB.grown hg1 hB.size (fun j hj => by cases hj; exact HN1.out)
        have hcq := hP1.c2
        have hml := Lib.hid (hF1 b l (hE.1 b l hfb))
        have hgl1 : gq < w1.heap.size := (Array.getElem?_eq_some_iff.1 hP1.blk).1
        have hml1 : bm < w1.heap.size := hP1.now.lt
        have hil1 : bi < w1.heap.size := hH1.1.lt
        have hbl1 : bh < w1.heap.size := hrg1.owns.lt
        have hrl1 : wc.heap.size < w1.heap.size := hrg1.lt
        have hbhi : bh ≠ bi := by omega
        have hwl1 := hB1.size
        have HP1 := Lib.hid hP1
        have HH1 := Lib.hid hH1
        have HF1 := Lib.hid hF1
        have HB1 := Lib.hid hB1
        have HA := Lib.hid hA
        have HE := Lib.hid hE
        have HR1 := Lib.hid hrg1
        have HG1 := Lib.hid hg1
        have HAT := Lib.hid hat'
        have HWX := Lib.hid hwx
        have HL := Lib.hid hlt
        have HRG := Lib.hid hrg
        clear hA hP hH hFr hE hB hws hkf hgq hbm hP1 hH1 hF1 hB1 hrg1 hg1 hat hat' hv hlk hk1 hwx hkey hfb hfd hrg hlt hs1
        go_wp2_with fail
        go_region_held3 (fun w' => w'.cell? ⟨gq, 2, none⟩ = some (.map (some bi)))
          (first
            | go_keep
            | assumption)
          ((go_at_call 79; refine (clone_c b N l w1.drew (hml.out.below (below_drew (Below.refl w1.heap.size w1)))).mono ?_; rintro e w2 ⟨rfl, hm2, hb2, hs2⟩
            have hbw : Below w1.heap.size w1 w2 := (below_drew (Below.refl w1.heap.size w1)).trans hb2
            have hm2' : MapN w2 w1.heap.size N l := hm2
            have hs2' : w1.heap.size < w2.heap.size := hs2
            have he2 := ext_updF (f := f') (B := w1.heap.size) (b := w1.heap.size) (l := l) (Nat.le_refl _) (HF1.out.lt (Nat.le_refl _))
            have hk02 : Kept w1 w2 (fun _ => False) := Kept.of_below hbw (fun _ => False)
            obtain ⟨w3, hrun3, ho3, hg3⟩ := held_put (f := updF f' w1.heap.size l) ((HH1.out.kept hk02 (fun e => e)).ext he2) HWX.out (bl := w1.heap.size) (l := l) (by simp [updF]) (by have := HMM.out.held.len; unfold maxLen; omega)
            have hk3 : Kept w1 w3 (fun k => k = bi) := Kept.of_grown hg3 (hk02.mono (fun _ e => e.elim)) (fun k e => .inl (by cases e; rfl))
            have hP3 : PB w3 (updF f' w1.heap.size l) N gq bm bi multi now := (HP1.out.kept hk3 hgi HP1.out.ne).ext he2 hml1 hil1
            have hmN : MapN w3 w1.heap.size N l := hm2'.kept (Kept.of_grown hg3 (Kept.refl _ (fun k => k = bi)) (fun k e => .inl (by cases e; rfl))) (by omega)
            have hF3 : Fro w3 (updF f' w1.heap.size l) N := (HF1.out.kept hk3 (fun b l hb e => by subst e; rw [HP1.out.fh] at hb; cases hb)).upd hmN
            have hB3 : Below w.heap.size w w3 := (HB1.out.trans (hbw.mono hwl1)).grown hg3 (Nat.le_trans hwl1 (Nat.le_of_lt hs2')) (fun j hj => by cases hj; exact hq3)
            have hR3 := HR1.out.kept ((grown_of_below (some bi) hbw).trans hg3) (fun e => hbhi (Option.some.inj e)) (fun e => hbi (Option.some.inj e).symm)
            have hcq2 := (HP1.out.kept hk02 (fun e => e) (fun e => e)).c2
            have hcq3 := hP3.c2
            have HP3 := Lib.hid hP3
            have HF3 := Lib.hid hF3
            have HB3 := Lib.hid hB3
            have HR3 := Lib.hid hR3
            have HO3 := Lib.hid ho3
            have HE3 := Lib.hid he2
            have HS3 := Lib.hid (Nat.lt_of_lt_of_le hs2' hg3.size)
            clear hbw hm2 hm2' hs2 hs2' he2 hk02 hk3 hP3 hmN hF3 hB3 hR3 ho3 hg3 hb2))
        go_wp2_with fail
        go_roundw
        case rel =>
          exact ⟨_, cnt1, put hs x l, updF f' w1.heap.size l, HR3.out, by have := HL.out; omega, Lib.hid ⟨by have := agree_step (kl := .int .u64 x) HA.out ⟨_, rfl⟩ trivial HAT.out; rw [put_mp _ _ _ HH1.out.2] at this; exact this, HP3.out, HO3.out.mono (by have := HL.out; omega), HF3.out, HE.out.trans HE3.out hwl1, HB3.out, by have := HS3.out; omega⟩⟩
        case measure => rw [HR3.out.left_eq, HRG.out.left_eq]; exact HL.out
end Go.Proofs.Ytngocadnbpdnoaa.Mo
