import Derived.Test.YtngocadnbpdnoaaSma
import Derived.Test.YtngocadnbpdnoaaSmb
import Derived.Test.YtngocadnbpdnoaaSmc
namespace Go.Proofs.Ytngocadnbpdnoaa.Mo
open Go Go.Maps Go.RowKit Go.Proofs.Ytngocadnbpdnoaa.Srt Go.Proofs.Ytngocadnbpdnoaa.Q Go.Proofs.YtngocadnbpdnoaaW.PrintWords Go.Proofs.YtngocadnbpdnoaaW.PrintLast Go.Proofs.YtngocadnbpdnoaaW.PrintMore Go.Proofs.Ytngocadnbpdnoaa.Open
set_option linter.unusedVariables false
set_option linter.unusedSimpArgs false
theorem J.nil (w wr : World) (hk : KO w wr (fun _ => False)) : J w wr (fun _ => none) 0 (fun _ => False) [] [] :=
  ⟨⟨fun m hm => (by cases hm), List.Pairwise.nil, fun b l e => (by cases e), hk⟩, fun d hd => (by cases hd), fun k e => e.elim, fun m hm => (by cases hm), List.Pairwise.nil⟩
theorem J.addM {w wr w1 : World} {f f' : Nat → Option PL} {N : Nat} {R : Nat → Prop} {gq bm bi : Nat} {s : MS} {ms : List Mod} {ds : List (Nat × MS)} (h : J w wr f N R ms ds) (hE : Ext wr.heap.size f f') (hP : PM w1 f' N gq bm bi s.multi s.now s.held) (hF : Fro w1 f' N) (hB : Below wr.heap.size wr w1) (h1 : wr.heap.size ≤ gq) (h2 : wr.heap.size ≤ bm) (h3 : wr.heap.size ≤ bi) : J w w1 f' N R (⟨gq, bm, bi, s⟩ :: ms) ds := by
  have hb := h.below hB
  refine ⟨h.al.fork hE hP hF hB h1 h2 h3, hb.doc, hb.rlt, fun m hm => ?_, h.dis⟩
  rcases List.mem_cons.1 hm with rfl | hm
  · exact ⟨fun e => by have := h.rlt _ e; show False; simp only at this; omega, fun e => by have := h.rlt _ e; show False; simp only at this; omega⟩
  · exact h.own m hm
theorem J.addR {w wr w1 : World} {f : Nat → Option PL} {N : Nat} {R : Nat → Prop} {rq : Nat} {s : MS} {ms : List Mod} {ds : List (Nat × MS)} (h : J w wr f N R ms ds) (hD : ∃ A c B d hs, RMd w1 (fun k => (¬ R k ∧ k < wr.heap.size) ∨ k = rq) rq N s A c B d hs) (hB : Below wr.heap.size wr w1) (hrq : wr.heap.size ≤ rq) : ∃ R', J w w1 f N R' ms ((rq, s) :: ds) ∧ ∀ k, R' k → R k ∨ wr.heap.size ≤ k := by
  have hb := h.below hB
  have hz := hB.size
  have hz0 := h.al.ko.kept.1
  have hw0 : ∀ m ∈ ms, m.bn < wr.heap.size ∧ m.bh < wr.heap.size := fun m hm => ⟨(h.al.pm m hm).1.now.lt, (h.al.pm m hm).1.held.1.lt⟩
  refine ⟨fun k => R k ∨ ((wr.heap.size ≤ k ∧ k < w1.heap.size) ∧ k ≠ rq), ⟨hb.al, fun d hd => ?_, fun k e => ?_, fun m hm => ?_, ?_⟩, fun k e => e.imp id (fun e => e.1.1)⟩
  · rcases List.mem_cons.1 hd with rfl | hd
    · refine ⟨RM.more (S' := fun k => ¬ (R k ∨ ((wr.heap.size ≤ k ∧ k < w1.heap.size) ∧ k ≠ rq))) hD (fun k e => ?_) (fun e => ?_), Nat.le_trans hz0 hrq⟩
      · by_cases h1 : k = rq
        · exact .inl (.inr h1)
        · by_cases h2 : k < wr.heap.size
          · exact .inl (.inl ⟨fun e2 => e (.inl e2), h2⟩)
          · by_cases h3 : k < w1.heap.size
            · exact absurd (.inr ⟨⟨by omega, h3⟩, h1⟩) e
            · exact .inr (by omega)
      · rcases e with e | e
        · have := h.rlt _ e; omega
        · exact e.2 rfl
    · obtain ⟨cs, hcs⟩ := (h.doc d hd).1.blk
      have hlt : d.1 < wr.heap.size := blk_lt hcs
      exact ⟨((hb.doc d hd).1.more (S' := fun k => ¬ (R k ∨ ((wr.heap.size ≤ k ∧ k < w1.heap.size) ∧ k ≠ rq))) (fun k e => .inl (fun e2 => e (.inl e2))) (fun e => by
        rcases e with e | e
        · exact (h.doc d hd).1.rp e
        · have := e.1.1; omega)), (h.doc d hd).2⟩
  · rcases e with e | e
    · exact Nat.lt_of_lt_of_le (h.rlt k e) hz
    · exact e.1.2
  · have hm2 := h.own m hm
    have l := hw0 m hm
    exact ⟨fun e => by rcases e with e | e; exact hm2.1 e; have := e.1.1; omega, fun e => by rcases e with e | e; exact hm2.2 e; have := e.1.1; omega⟩
  · refine List.pairwise_cons.2 ⟨fun d hd => ?_, h.dis⟩
    obtain ⟨cs, hcs⟩ := (h.doc d hd).1.blk
    have hlt : d.1 < wr.heap.size := blk_lt hcs
    show rq ≠ d.1
    omega
theorem RMd.empty {w : World} {S S' : Nat → Prop} {rp N N' : Nat} {m : Int} (h : RMd w S rp N ⟨m, [], []⟩ none 0 none 0 []) (hr : S' rp) : RMd w S' rp N' ⟨m, [], []⟩ none 0 none 0 [] :=
  ⟨h.blk, hr, h.nc, h.hc, h.hd, fun W' _ => Kd.C_nil _ _, fun W' _ => Kd.C_nil _ _, (fun x hx => by cases hx), Nat.zero_le _, Nat.zero_le _, List.Pairwise.nil, List.Pairwise.nil, rfl⟩
theorem newMJ {w wr : World} (hk : KO w wr (fun _ => False)) (multi : Int) (h1 : 1 ≤ multi) (h2 : multi ≤ 1024) :
    Calls Try.prog 14 #[.int .i64 multi] wr fun e w1 => ∃ gp bn bh, e = .returned (.tuple #[.pointer (some ⟨gp, 0, none⟩), .int .i64 0]) ∧ J w w1 (fun _ => none) 0 (fun _ => False) [⟨gp, bn, bh, ⟨multi, [], []⟩⟩] [] ∧ Below wr.heap.size wr w1 := by
  have h0 := J.nil w wr hk
  refine (new_c multi (fun _ => none) wr h0.al.fro h1 h2).mono ?_
  rintro e w1 ⟨gp, bn, bh, rfl, hP, hB, g1, g2, g3⟩
  exact ⟨gp, bn, bh, rfl, h0.addM (Ext.refl _ _) hP (fun b l e => by cases e) hB g1 g2 g3, hB⟩
theorem newRJ {w wr : World} {f : Nat → Option PL} {R : Nat → Prop} {ms : List Mod} {ds : List (Nat × MS)} (h : J w wr f 0 R ms ds) (multi : Int) (h1 : 1 ≤ multi) (h2 : multi ≤ 1024) :
    Calls Try.prog 39 #[.int .i64 multi] wr fun e w1 => ∃ rp R', e = .returned (.tuple #[.pointer (some ⟨rp, 0, none⟩), .int .i64 0]) ∧ J w w1 f 0 R' ms ((rp, ⟨multi, [], []⟩) :: ds) ∧ Below wr.heap.size wr w1 := by
  refine (newR_c multi wr h1 h2).mono ?_
  rintro e w1 ⟨rp, rfl, hM, hB, hrp⟩
  obtain ⟨R', hJ, _⟩ := h.addR ⟨_, _, _, _, _, hM.empty (S' := fun k => (¬ R k ∧ k < wr.heap.size) ∨ k = rp) (.inr rfl)⟩ hB hrp
  exact ⟨rp, R', rfl, hJ, hB⟩
set_option maxHeartbeats 4000000 in
theorem newM_bad (multi : Int) (w : World) (hm : multi < 1 ∨ 1024 < multi) :
    Calls Try.prog 14 #[.int .i64 multi] w fun e w' => e = .returned (.tuple #[.pointer none, .int .i64 2]) ∧ Below w.heap.size w w' := by
  rcases hm with hm | hm
  · have d1 : decide (multi < 1) = true := decide_eq_true hm
    go_enter Try.func14, Try.ntmps14
    go_wp2
    go_ret2
    exact ⟨rfl, Below.refl _ _⟩
  · have d1 : decide (multi < 1) = false := decide_eq_false (by omega)
    have d2 : decide (1024 < multi) = true := decide_eq_true hm
    go_enter Try.func14, Try.ntmps14
    go_wp2
    go_ret2
    exact ⟨rfl, Below.refl _ _⟩
set_option maxHeartbeats 4000000 in
theorem newR_bad (multi : Int) (w : World) (hm : multi < 1 ∨ 1024 < multi) :
    Calls Try.prog 39 #[.int .i64 multi] w fun e w' => e = .returned (.tuple #[.pointer none, .int .i64 2]) ∧ Below w.heap.size w w' := by
  rcases hm with hm | hm
  · have d1 : decide (multi < 1) = true := decide_eq_true hm
    go_enter Try.func39, Try.ntmps39
    go_wp2
    go_ret2
    exact ⟨rfl, Below.refl _ _⟩
  · have d1 : decide (multi < 1) = false := decide_eq_false (by omega)
    have d2 : decide (1024 < multi) = true := decide_eq_true hm
    go_enter Try.func39, Try.ntmps39
    go_wp2
    go_ret2
    exact ⟨rfl, Below.refl _ _⟩
set_option maxHeartbeats 4000000 in
theorem begun_bad (multi : Int) (w : World) (hm : multi < 1 ∨ 1024 < multi) :
    Calls Try.prog 19 #[.int .i64 multi] w fun e w' => e = .returned (.tuple #[.pointer none, .bool true]) ∧ Below w.heap.size w w' := by
  have hB := newM_bad multi w hm
  have hC := fun w => newR_bad multi w hm
  go_enter Try.func19, Try.ntmps19
  go_wp2_with (first | (go_at_call 14; refine hB.mono ?_; rintro e w1 ⟨rfl, hB1⟩) | (go_at_call 39; refine (hC w1).mono ?_; rintro e w2 ⟨rfl, hB2⟩))
  go_ret2
  exact ⟨rfl, hB1.trans (hB2.mono hB1.size)⟩
set_option maxHeartbeats 4000000 in
theorem begun_ok {w wr : World} (hk : KO w wr (fun _ => False)) (multi : Int) (h1 : 1 ≤ multi) (h2 : multi ≤ 1024) :
    Calls Try.prog 19 #[.int .i64 multi] wr fun e w1 => ∃ pb gp bn bh rp R, e = .returned (.tuple #[.pointer (some ⟨pb, 0, none⟩), .bool true]) ∧ J w w1 (fun _ => none) 0 R [⟨gp, bn, bh, ⟨multi, [], []⟩⟩] [(rp, ⟨multi, [], []⟩)] ∧ w1.heap[pb]? = some (.cells (bothC gp rp) 77 (0, 0)) ∧ Below wr.heap.size wr w1 ∧ wr.heap.size ≤ pb := by
  have hM := newMJ hk multi h1 h2
  go_enter Try.func19, Try.ntmps19
  go_wp2_with (first | (go_at_call 14; refine hM.mono ?_; rintro e w1 ⟨gp, bn, bh, rfl, hJ1, hB1⟩; have HJ1 := Lib.hid hJ1; have HB1 := Lib.hid hB1; clear hJ1 hB1) | (go_at_call 39; refine (newRJ HJ1.out multi h1 h2).mono ?_; rintro e w2 ⟨rp, R, rfl, hJ2, hB2⟩; have HJ2 := Lib.hid hJ2; have HB2 := Lib.hid hB2; clear hJ2 hB2))
  go_ret2
  have hbl := below_alloc (Below.refl _ w2) (.cells (bothC gp rp) 77)
  have hz := HB1.out.size
  have hz2 := HB2.out.size
  exact ⟨w2.heap.size, gp, bn, bh, rp, R, rfl, HJ2.out.below hbl, heap_alloc_new w2 _, HB1.out.trans ((HB2.out.trans (hbl.mono hz2)).mono hz), by omega⟩
end Go.Proofs.Ytngocadnbpdnoaa.Mo
namespace Go.Proofs.Ytngocadnbpdnoaa.Mo
open Go Go.Maps Go.RowKit Go.Proofs.Ytngocadnbpdnoaa.Srt Go.Proofs.Ytngocadnbpdnoaa.Q Go.Proofs.YtngocadnbpdnoaaW.PrintWords Go.Proofs.YtngocadnbpdnoaaW.PrintLast Go.Proofs.YtngocadnbpdnoaaW.PrintMore Go.Proofs.Ytngocadnbpdnoaa.Open
set_option linter.unusedVariables false
set_option linter.unusedSimpArgs false
theorem call_c {w wr : World} {f : Nat → Option PL} {N : Nat} {R : Nat → Prop} {gp bn bh rp : Nat} {s : MS} {r : List Mod} {q : List (Nat × MS)} (h : J w wr f N R (⟨gp, bn, bh, s⟩ :: r) ((rp, s) :: q)) (pb : Nat) (hbox : wr.heap[pb]? = some (.cells (bothC gp rp) 77 (0, 0))) (x : CallS) (A : Option Addr) (c : Nat) (B : Option Addr) (d : Nat) (hN : N + 3 ≤ 1099511627776)
    (hA : ∀ W', Kept wr W' (fun k => k = bn ∨ k = bh ∨ k = rp) → Kd.C (Kd.int .u64) W' A x.op.f6.length x.op.f6) (hAc : x.op.f6.length ≤ c) (hAn : x.op.f6.length ≤ 1099511627776) (hB : ∀ W', Kept wr W' (fun k => k = bn ∨ k = bh ∨ k = rp) → Kd.C kSP W' B x.an.f5.length x.an.f5) (hBd : x.an.f5.length ≤ d) (hBn : x.an.f5.length ≤ 1099511627776) (hwf : wfC x) :
    Calls Try.prog 20 #[.pointer (some ⟨pb, 0, none⟩), .agg #[.bool x.tk, .int .u8 x.op.f0, .int .u64 x.op.f1, .int .u64 x.op.f2, .int .u64 x.op.f3, .int .u64 x.op.f4, .bool x.op.f5.f0, .int .i64 x.op.f5.f1, .int .i64 x.op.f5.f2, .slice A x.op.f6.length c, .int .u64 x.op.f7, .int .u64 x.op.f8, .int .i64 x.an.f0, .bool x.an.f1, .int .u64 x.an.f2, .bool x.an.f3, .int .u64 x.an.f4, .slice B x.an.f5.length d, .int .u64 x.an.f6, .int .u64 x.hd]] wr (fun e w1 => ∃ f' R', e = .returned (.bool true) ∧ J w w1 f' (N + 3) R' (⟨gp, bn, bh, runC s x⟩ :: r) ((rp, runC s x) :: q) ∧ KO wr w1 (fun k => k = bn ∨ k = bh ∨ k = rp) ∧ ∀ k, R' k → R k ∨ wr.heap.size ≤ k) := by
  show Calls _ _ #[_, .agg (callC x A c B d)] wr _
  have hO : OpWf x.op := ⟨hwf.2.1.2.1, hwf.2.1.2.2.1, hwf.2.1.2.2.2.2.1⟩
  cases ht : x.tk with
  | true => exact call_take h pb hbox x A c B d hN hA hAc hAn hB hBd hBn hO hwf.2.1.2.2.2.2.2.2.1 hwf.2.2.1.2.2.2.2.1 hwf.2.2.2 ht
  | false => exact call_do h pb hbox x A c B d hN hA hAc hAn hB hBd hBn hO hwf.2.1.2.2.2.2.2.2.1 hwf.2.2.1.2.2.2.2.1 hwf.2.2.2 ht
theorem at_call2 {w : World} {A : Option Addr} {n : Nat} {xs : List CallS} (h : Kd.C kCall w A n xs) (i : Nat) (hi : i < n) (hx : i < xs.length) : ∃ ad A1 c1 B1 d1, A = some ad ∧
    (∀ j u, [Value.bool xs[i].tk, .int .u8 xs[i].op.f0, .int .u64 xs[i].op.f1, .int .u64 xs[i].op.f2, .int .u64 xs[i].op.f3, .int .u64 xs[i].op.f4, .bool xs[i].op.f5.f0, .int .i64 xs[i].op.f5.f1, .int .i64 xs[i].op.f5.f2, .slice A1 xs[i].op.f6.length c1, .int .u64 xs[i].op.f7, .int .u64 xs[i].op.f8, .int .i64 xs[i].an.f0, .bool xs[i].an.f1, .int .u64 xs[i].an.f2, .bool xs[i].an.f3, .int .u64 xs[i].an.f4, .slice B1 xs[i].an.f5.length d1, .int .u64 xs[i].an.f6, .int .u64 xs[i].hd][j]? = some u → w.cell? (ad.add (i * 20 + j)) = some u) ∧
    (Kd.int .u64).C w A1 xs[i].op.f6.length xs[i].op.f6 ∧ xs[i].an.f5.length ≤ d1 ∧ k90.C w B1 xs[i].an.f5.length xs[i].an.f5 ∧ xs[i].op.f6.length ≤ c1 := by
  obtain ⟨ad, c, e, _, hK, hc0⟩ := Kd.C_get h zCall (i : Int) (by omega) (by omega)
  have hc : ∀ j u, c[j]? = some u → w.cell? (ad.add (i * 20 + j)) = some u := by
    intro j u hj
    have := hc0 j u hj
    rw [Int.toNat_natCast] at this
    exact this
  have hx2 : xs.getD (i : Int).toNat zCall = xs[i] := by rw [Int.toNat_natCast]; simp [List.getD_eq_getElem?_getD, hx]
  rw [hx2] at hK
  obtain ⟨A1, c1, B1, d1, rfl, l1, g1, l2, g2⟩ := kCall_open hK
  exact ⟨ad, A1, c1, B1, d1, e, hc, g1, l2, g2, l1⟩
theorem add_add (ad : Addr) (m j : Nat) : (ad.add m).add j = ad.add (m + j) := by
  unfold Addr.add
  by_cases hm : m = 0
  · subst hm; simp
  · by_cases hj : j = 0
    · subst hj; simp
    · simp [hm, hj, Nat.add_assoc]
/-- A whole struct is loaded, wherever it lies. -/
theorem wpList_load_any {P : Program} {ops : Array Oper} {rest : List Oper} {op : Oper} {a : Act} {w : World} {Q : Exit → Act → World → Prop} (hgd : op.guard = none) (ty : TypeId) (x : Operand) (ho : op.op = .load ty x)
    (ad : Addr) (hx : a.eval x = .pointer (some ad)) (cs : List Value) (d : TypeDesc) (hc : ∀ j v, cs[j]? = some v → w.cell? (ad.add j) = some v)
    (hu : P.underlying ty = some d) (hd : (match d with | .struct _ | .array _ _ => true | _ => false) = true) (hi : (P.info? ty).map (·.size) = some cs.length)
    (h : wpList P ops Q rest (a.put op.dst (.agg cs.toArray)) w) : wpList P ops Q (op :: rest) a w := by
  have hv : (loadVar ty ad).run P w = .ok (.agg cs.toArray) w := by
    have hl : (loadCells ad cs.length).run P w = .ok cs.toArray w := run_loadCells_list (P := P) w ad cs hc
    cases hq : P.info? ty with
    | none => simp [hq] at hi
    | some i =>
      have hs : i.size = cs.length := by simpa [hq] using hi
      have hagg : (isAgg ty).run P w = .ok true w := by
        unfold isAgg
        rw [Sem.run_bind, run_underlying hu w]
        cases d <;> simp_all
      simp [loadVar, Sem.run_bind, hagg, sizeOf, typeInfo, hq, hs, hl]
  refine wpList_plain hgd fun K hK => ?_
  unfold Oper.wp execOp
  simp only [ho, hx, Instr.loadAt, Instr.sureAddr, Sem.run_bind, Sem.run_pure, Result.andThen_ok, hv]
  exact hK _ _ h
theorem J.came {α : Type} {d : Kd α} {w wr : World} {f : Nat → Option PL} {N : Nat} {R : Nat → Prop} {gp bn bh rp : Nat} {s s' : MS} {r : List Mod} {q : List (Nat × MS)} (h : J w wr f N R (⟨gp, bn, bh, s⟩ :: r) ((rp, s') :: q)) (hd : Kd.Heap d) {A : Option Addr} {n : Nat} {xs : List α} (hC : d.C w A n xs) : ∀ W', Kept wr W' (fun k => k = bn ∨ k = bh ∨ k = rp) → d.C W' A n xs := fun W' hk => by
  have hp := h.al.pm ⟨gp, bn, bh, s⟩ (by simp)
  have hr := (h.doc (rp, s') (by simp)).2
  have hz := h.al.ko.kept
  exact Kd.Heap.C hd (fun k hlt => (hk.2 k (Nat.lt_of_lt_of_le hlt hz.1) (fun e => by rcases e with e | e | e <;> (simp only at hp hr; omega))).trans (hz.2 k hlt (fun e => e))) hC
theorem J.boxK {w wr w1 : World} {f : Nat → Option PL} {N : Nat} {R : Nat → Prop} {gp bn bh rp : Nat} {s s' : MS} {r : List Mod} {q : List (Nat × MS)} (h : J w wr f N R (⟨gp, bn, bh, s⟩ :: r) ((rp, s') :: q)) {pb a b : Nat} (hb : wr.heap[pb]? = some (.cells (bothC a b) 77 (0, 0))) (hk : KO wr w1 (fun k => k = bn ∨ k = bh ∨ k = rp)) : w1.heap[pb]? = some (.cells (bothC a b) 77 (0, 0)) :=
  blk_kept hb hk.kept (fun e => by
    rcases e with e | e | e
    · exact h.apart (m := ⟨gp, bn, bh, s⟩) (by simp) hb (.inl e)
    · exact h.apart (m := ⟨gp, bn, bh, s⟩) (by simp) hb (.inr e)
    · exact h.apartR (d := (rp, s')) (by simp) hb (by decide) e)
def runs (s : MS) (l : List CallS) : MS := l.foldl runC s
theorem runs_succ (s : MS) (l : List CallS) (i : Nat) (h : i < l.length) : runs s (l.take (i + 1)) = runC (runs s (l.take i)) l[i] := by
  unfold runs
  rw [List.take_succ_eq_append_getElem h, List.foldl_append]; rfl
theorem BC_mem {l : List CallS} {x : CallS} (h : x ∈ l) : x.op.f6.length ≤ (l.map BC).sum := by
  induction l with
  | nil => cases h
  | cons a l ih =>
    have hs : x.op.f6.length ≤ (x.op.f6.map (fun _ => 1)).sum := by
      rw [List.map_const', List.sum_replicate_nat]; omega
    rw [List.map_cons, List.sum_cons]
    rcases List.mem_cons.1 h with rfl | h
    · unfold BC BO; omega
    · have := ih h; omega
theorem BC_memA {l : List CallS} {x : CallS} (h : x ∈ l) : x.an.f5.length ≤ (l.map BC).sum := by
  induction l with
  | nil => cases h
  | cons a l ih =>
    rw [List.map_cons, List.sum_cons]
    rcases List.mem_cons.1 h with rfl | h
    · have hs : x.an.f5.length ≤ BA x.an := BA_len x.an
      unfold BC; omega
    · have := ih h; omega
set_option maxRecDepth 100000 in
set_option maxHeartbeats 16000000 in
theorem plays_law (multi : Int) (w : World) (A : Option Addr) (c : Nat) (l : List CallS) (hC0 : Kd.C kCall w A l.length l) (hc : l.length ≤ c) (hwf : ∀ x ∈ l, wfC x) (hn : l.length ≤ 1048576) (hkl : ∀ x ∈ l, x.op.f6.length ≤ 1048576 ∧ x.an.f5.length ≤ 1048576) :
    Calls Try.prog 5 #[.int .i64 multi, .slice A l.length c] w fun e w' => e = .returned (.bool true) ∧ Below w.heap.size w w' := by
  have cL := live_c w
  have HC0 := Lib.hid hC0
  have HWF := Lib.hid hwf
  have HKL := Lib.hid hkl
  clear hC0 hwf hkl
  go_enter Try.func5, Try.ntmps5
  go_upto_region 3 with (go_at_call 11; refine cL.mono ?_; rintro e w0 ⟨rfl, hB0⟩; have HB0 := Lib.hid hB0; clear hB0)
  clear cL
  by_cases hm : multi < 1 ∨ 1024 < multi
  · have hb := begun_bad multi w0 hm
    clear hm
    go_wp2_with (go_at_call 19; refine hb.mono ?_; rintro e w1 ⟨rfl, hB1⟩)
    go_ret
    exact ⟨rfl, HB0.out.trans (hB1.mono HB0.out.size)⟩
  have hb := begun_ok (KO.of_below HB0.out (fun _ => False)) multi (by omega) (by omega)
  clear hm
  go_upto_region 4 with (go_at_call 19; refine hb.mono ?_; rintro e w1 ⟨pb, gp, bn, bh, rp, R, rfl, hJ1, hX1, hB1, hpb⟩; have HJ1 := Lib.hid hJ1; have HX1 := Lib.hid hX1; clear hJ1 hX1 hB1 hpb)
  clear hb HB0
  go_wp2_with fail
  go_loopw [7] (fun v7 wr => ∃ (i : Nat) (f : Nat → Option PL) (R : Nat → Prop), v7 = .int .i64 i ∧ i ≤ l.length ∧ Hid (J w wr f (3 * i) R [⟨gp, bn, bh, runs ⟨multi, [], []⟩ (l.take i)⟩] [(rp, runs ⟨multi, [], []⟩ (l.take i))]) ∧ Hid (wr.heap[pb]? = some (.cells (bothC gp rp) 77 (0, 0)))) (fun v7 _ => l.length - (intOf v7).toNat)
  case atStart => exact ⟨0, _, R, rfl, Nat.zero_le _, HJ1, HX1⟩
  case round =>
    clear HJ1 HX1
    obtain ⟨i, f, R, rfl, hi, HJ, HX⟩ := hrel
    by_cases hlt : i < l.length
    · obtain ⟨ad, A1, c1, B1, d1, rfl, hcell0, g1, hd1, g2, hc1⟩ := at_call2 HC0.out i hlt hlt
      obtain ⟨s, hs⟩ : ∃ s, s = runs ⟨multi, [], []⟩ (l.take i) := ⟨_, rfl⟩
      rw [← hs] at HJ
      have hrun := runs_succ ⟨multi, [], []⟩ l i hlt
      rw [← hs] at hrun
      obtain ⟨x, hx⟩ : ∃ x, x = l[i] := ⟨_, rfl⟩
      rw [← hx] at hcell0 g1 hd1 g2 hc1 hrun
      have HRUN := Lib.hid hrun
      have HWX : Hid (wfC x) := Lib.hid (by rw [hx]; exact HWF.out _ (List.getElem_mem hlt))
      have HKN : Hid (x.op.f6.length ≤ 1048576 ∧ x.an.f5.length ≤ 1048576) := Lib.hid (HKL.out x (by rw [hx]; exact List.getElem_mem hlt))
      have HG1 := Lib.hid g1
      have HG2 := Lib.hid g2
      have HCELL0 := Lib.hid hcell0
      have HKE := Lib.hid HJ.out.al.ko.kept
      have HD1 := Lib.hid hd1
      have HCC1 := Lib.hid hc1
      clear hs hrun hx hcell0 g1 g2 hd1 hc1
      go_wp2_with (first | ((with_reducible refine gate_ (.load 41 (.tmp 31)) rfl ?_); refine wpList_load_any rfl 41 (.tmp 31) rfl (ad.add (i * 20)) rfl [.bool x.tk, .int .u8 x.op.f0, .int .u64 x.op.f1, .int .u64 x.op.f2, .int .u64 x.op.f3, .int .u64 x.op.f4, .bool x.op.f5.f0, .int .i64 x.op.f5.f1, .int .i64 x.op.f5.f2, .slice A1 x.op.f6.length c1, .int .u64 x.op.f7, .int .u64 x.op.f8, .int .i64 x.an.f0, .bool x.an.f1, .int .u64 x.an.f2, .bool x.an.f3, .int .u64 x.an.f4, .slice B1 x.an.f5.length d1, .int .u64 x.an.f6, .int .u64 x.hd] _ (fun j u hj => by rw [add_add]; exact cell_kept (HCELL0.out j u hj) HKE.out (fun e => e)) Try.underlying41 rfl (by kernel_rfl) ?_))
      go_at_call 20
      refine (call_c HJ.out pb HX.out x A1 c1 B1 d1 (by omega) (HJ.out.came (Kd.heap_int _) HG1.out) HCC1.out (by have := HKN.out; omega) (HJ.out.came heapP HG2.out) HD1.out (by have := HKN.out; omega) HWX.out).mono ?_
      rintro e w3 ⟨f3, R3, rfl, hJ3, hK3, -⟩
      have HX3 := Lib.hid (HJ.out.boxK HX.out hK3)
      have HJ3 := Lib.hid hJ3
      clear hJ3 hK3
      go_wp2_with (go_at_call 21; refine (alike_c HJ3.out pb HX3.out (by omega)).mono ?_; rintro e w4 ⟨rfl, hB4⟩; have HJ4 := Lib.hid (HJ3.out.below hB4); have HX4 := Lib.hid (blk_below HX3.out hB4); clear hB4)
      go_roundw
      case rel => exact ⟨i + 1, f3, R3, by go_num, by omega, Lib.hid (by rw [HRUN.out, show 3 * (i + 1) = 3 * i + 3 by omega]; exact HJ4.out), HX4⟩
      case measure => simp [intOf]; omega
    · obtain rfl : i = l.length := by omega
      go_wp2_with (go_at_call 21; refine (alike_c HJ.out pb HX.out (by omega)).mono ?_; rintro e w4 ⟨rfl, hB4⟩; have HJ4 := Lib.hid (HJ.out.below hB4); clear hB4)
      go_ret
      exact ⟨rfl, HJ4.out.al.ko.below_of (fun _ e => e.elim)⟩
theorem plays_walk (W : World) (multi : Int) (wm : (Lit.int .i64 multi).wf = true) (a0 : Option Addr) (c0 : Nat) (x0 : List CallS) (h0 : Kd.C kCall W a0 x0.length x0) (l0 : x0.length ≤ c0) {H : Type} {d1 d0 : DataW H} (b0 : (x0.map BC).sum + 1 ≤ Rows.uptoBulk d0) (w0 : ∀ x ∈ x0, wfC x) (hb : Rows.uptoBulk d1 + (Rows.uptoBulk d0 + 0) ≤ 1048576) :
    Calls Try.prog 5 #[.int .i64 multi, .slice a0 x0.length c0] W fun e W' => e = .returned (.bool true) ∧ Below W.heap.size W W' :=
  plays_law multi W a0 c0 x0 h0 l0 w0 (by have := BC_len x0; omega) (fun x hx => ⟨by have := BC_mem hx; omega, by have := BC_memA hx; omega⟩)
end Go.Proofs.Ytngocadnbpdnoaa.Mo
