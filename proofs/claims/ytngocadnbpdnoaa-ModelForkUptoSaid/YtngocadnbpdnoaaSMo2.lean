import Derived.Test.YtngocadnbpdnoaaSMo1
namespace Go.Proofs.Ytngocadnbpdnoaa.Mo
open Go Go.Maps Go.RowKit Go.Proofs.Ytngocadnbpdnoaa.Srt Go.Proofs.Ytngocadnbpdnoaa.Q Go.Proofs.YtngocadnbpdnoaaW.PrintWords Go.Proofs.YtngocadnbpdnoaaW.PrintLast Go.Proofs.YtngocadnbpdnoaaW.PrintMore
set_option linter.unusedVariables false
set_option linter.unusedSimpArgs false
abbrev SP := S90
abbrev kSP : Kd SP := k90
def toS (l : PL) : List SP := l.map fun p => ⟨p.1, p.2⟩
theorem toS_length (l : PL) : (toS l).length = l.length := by simp [toS]
theorem toS_take_succ (l : PL) (k : Nat) (p : Int × Int) (h : l[k]? = some p) : toS (l.take (k + 1)) = toS (l.take k) ++ [⟨p.1, p.2⟩] := by
  obtain ⟨hk, rfl⟩ := List.getElem?_eq_some_iff.1 h
  rw [List.take_succ_eq_append_getElem hk]
  unfold toS
  rw [List.map_append]
  rfl
theorem MapN.below {w W : World} {b n : Nat} {l : PL} (h : MapN w b n l) (hb : Below w.heap.size w W) : MapN W b n l := ⟨own_alloc_u h.1 hb, h.2⟩
theorem MapN.lt {w : World} {b n : Nat} {l : PL} (h : MapN w b n l) : b < w.heap.size := h.1.lt
theorem wf_keys {β : Type} {d : β → DataW Unit} {w : World} {b n : Nat} {R : Value → Option (DataW Unit × List MemPlace)} {l : List (Int × β)} (h : w.ownsMap Try.prog 23 R b n (mp d l)) {q : Int × β} (hq : q ∈ l) : (Lit.int .u64 q.1).wf = true :=
  Go.Proofs.Ytngocadnbpdnoaa.Srt.intKeys_wf h Try.underlying23 _ (by rw [intKeys_mp]; exact List.mem_map.2 ⟨q, hq, rfl⟩)
theorem at_l64 {l : PL} {k v c : Int} (hf : fnd l k = some v) {z : DataW Unit} (h : (dmap l).atKey (.int .u64 k) z = .lit (.int .u64 c)) : v = c := by
  unfold dmap at h
  rw [atKey_mp, hf] at h
  simpa [lit64] using h
set_option maxRecDepth 100000 in
set_option maxHeartbeats 4000000 in
theorem sorted_c (b n : Nat) (l : PL) (w : World) (h : MapN w b n l) (hn : l.length ≤ 1099511627776) :
    Calls Try.prog 38 #[.map (some b)] w fun e w' => ∃ v : Value, e = .returned v ∧ kSP.R 90 w' w.heap.size (fun _ => True) v (toS l) ∧ Below w.heap.size w w' := by
  have hlt := h.lt
  have h0 := h.below (below_alloc (Below.refl _ w) (.cells #[.map (some b)] 97))
  have HM := Lib.hid h
  have cS := sortedA_c w.heap.size b n l (plainElem (H := Unit) Try.prog 23) (w.alloc (.cells #[.map (some b)] 97)) (by simp) (by simp) h0.1 h0.2 hn
  clear h h0
  go_enter Try.func38, Try.ntmps38
  go_wp2_with (first
    | (go_at_call 85; refine (keysA_c _ _).mono ?_; rintro e w' ⟨rfl, rfl⟩)
    | (go_at_call 57; refine cS.mono ?_; rintro e w1 ⟨v, rfl, hR, hb1⟩; obtain ⟨A, c, rfl⟩ := Kd.R_slice hR))
  have hsz1 : w.heap.size + 1 ≤ w1.heap.size := by have := hb1.size; simp at this; omega
  obtain ⟨-, -, hC⟩ := Kd.R_reads' hR
  have hlen : (l.map (·.1)).length = l.length := by simp
  obtain ⟨ks, hks⟩ : ∃ ks : List Int, ks = l.map (·.1) := ⟨_, rfl⟩
  rw [← hks] at hC hlen
  have hB1 : Below w.heap.size w w1 := (below_alloc (Below.refl _ w) (.cells #[.map (some b)] 97)).trans (hb1.mono (by simp))
  have HC := Lib.hid hC
  have HK := Lib.hid hks
  have HB1 := Lib.hid hB1
  clear hC hks hR hb1 cS hB1
  have HL := Lib.hid hlen
  clear hlen
  go_loopw [3, 10] (fun v3 v10 wr => ∃ i : Nat, v10 = .int .i64 i ∧ i ≤ l.length ∧ Hid (kSP.R 90 wr w1.heap.size (fun _ => True) v3 (toS (l.take i))) ∧ Hid (Below w1.heap.size w1 wr))
    (fun _ v10 _ => l.length - (intOf v10).toNat)
  case atStart => exact ⟨0, rfl, Nat.zero_le _, Lib.hid (Kd.R_nil _ _ _ _ _), Lib.hid (Below.refl _ _)⟩
  case round =>
    obtain ⟨i, rfl, hi, HR, HBW⟩ := hrel
    have HB := Lib.hid (HB1.out.trans (HBW.out.mono HB1.out.size))
    by_cases hlt2 : i < l.length
    · obtain ⟨p, hp⟩ : ∃ p, l[i]? = some p := ⟨l[i], List.getElem?_eq_getElem hlt2⟩
      obtain ⟨ad, rfl, hx⟩ := Kd.at_int HC.out (i : Int) (by omega) (by have := HL.out; omega)
      have hk1 : rd ks (i : Int) = p.1 := by
        rw [HK.out]
        unfold rd
        simp [List.getD, hp]
      rw [hk1, Int.toNat_natCast] at hx
      have hx1 := (HBW.out.cell (World.block_lt_of_cell? w1 _ hx)).trans hx
      have hfd : fnd l p.1 = some p.2 := fnd_of_mem HM.out.2 (List.mem_of_getElem? hp)
      have hown := (HM.out.below HB.out).1
      have HWF := Lib.hid (wf_keys HM.out.1 (List.mem_of_getElem? hp))
      have HF := Lib.hid hfd
      have HP := Lib.hid hp
      clear hfd hp hx hk1
      have hbnd : Hid (((toS (l.take i)).length + 1) * 16 ≤ 140737488355328) := Lib.hid (by rw [toS_length, List.length_take]; omega)
      have hbb : b < wr.heap.size := Nat.lt_of_lt_of_le hlt HB.out.size
      go_wp2_with (first
        | (at_lookup; refine wpList_lookup_own_int _ rfl _ _ 97 rfl 23 23 .u64 lawU Try.underlying97 Try.underlying23 (zeroU _) b n _ rfl hown _ _ rfl (keyOf_int_mk Try.underlying23 HWF.out) ?_; intro c hat hwc; obtain rfl := at_l64 HF.out hat; clear hat hwc hown)
        | (at_builtin; (refine Kd.R_append kSP (w0 := w1) w1.heap.size rfl (.tmp 14) (.tmp 20) 24 90 (.agg #[(.int .u64 0), (.int .u64 0)]) 16 rfl Try.underlying24 info90 rfl (by decide) (by omega) u3 (toS (l.take i)) (⟨p.1, p.2⟩ : SP) [.int .u64 p.1, .int .u64 p.2] (fun _ => True) (fun _ => False) rfl rfl ?aP (fun _ hk => hk.elim) (fun _ _ => trivial) ?aO ?aB ?aS ?aL ?_)
           (case aP => exact k90_mkM _ _ _ (⟨p.1, p.2⟩ : SP))
           (case aO => exact HR.out)
           (case aB => exact HBW.out)
           (case aS => exact below_size HBW.out)
           (case aL => exact hbnd.out)
           intro v1 w2 ho hb hg hat
           have HO2 := Lib.hid ho
           have HB2 := Lib.hid hb
           have HG2 := Lib.hid hg
           have HA2 := Lib.hid hat
           clear ho hb hg hat))
      go_roundw
      case rel => exact ⟨i + 1, by go_num, by omega, Lib.hid (by rw [toS_take_succ l i p HP.out]; exact HO2.out), HB2⟩
      case measure => simp [intOf]; omega
    · obtain rfl : i = l.length := by omega
      go_wp2
      go_ret
      refine ⟨_, rfl, ?_, HB.out⟩
      have := HR.out
      rw [List.take_length] at this
      exact Kd.R_lower this HB1.out.size
theorem sortedA_nil_c (Bm : Nat) (w : World) (hBm : Bm < w.heap.size) (hm : w.cell? ⟨Bm, 0, none⟩ = some (.map none)) :
    Calls Try.prog 57 #[.func (.func 100) #[] #[.pointer (some ⟨Bm, 0, none⟩)]] w fun e w' => e = .returned (.slice none 0 0) ∧ Below w.heap.size w w' := by
  have hseq : SeqGives Fence.wide 2 Try.prog 100 #[.pointer (some ⟨Bm, 0, none⟩)] encV (fun ss => ss = []) 0 w :=
    AnyZU.keys_gives_nil (ρ := KeysA_ren) { KeysA with } Fence.wide _ trivial rfl Bm w hBm hm
  have cS := AnyZU.sorted_in SortedA Fence.wide 5 trivial trivial trivial trivial rfl (by omega) (sortsA _) (enters_of Try.func95 (by kernel_rfl) rfl) 100 #[.pointer (some ⟨Bm, 0, none⟩)] trivial (enters_of Try.func100 (by kernel_rfl) rfl) _ _ (by unfold maxLen; omega) (by omega) _ hseq
  change CallsIn _ _ Try.prog 57 _ _ _ at cS
  refine ((callsIn_wide).1 cS).mono ?_
  rintro e w' ⟨v, ss, rfl, hS, hrow, hnil, hb⟩
  exact ⟨by rw [hnil.2 hS], hb⟩
set_option maxRecDepth 100000 in
set_option maxHeartbeats 4000000 in
theorem sorted_nil_c (w : World) :
    Calls Try.prog 38 #[.map none] w fun e w' => e = .returned (.slice none 0 0) ∧ Below w.heap.size w w' := by
  have cS := sortedA_nil_c w.heap.size (w.alloc (.cells #[.map none] 97)) (by simp) (by simp)
  go_enter Try.func38, Try.ntmps38
  go_wp2_with (first
    | (go_at_call 85; refine (keysA_c _ _).mono ?_; rintro e w' ⟨rfl, rfl⟩)
    | (go_at_call 57; refine cS.mono ?_; rintro e w1 ⟨rfl, hb1⟩))
  have HB1 := Lib.hid ((below_alloc (Below.refl _ w) (.cells #[.map none] 97)).trans (hb1.mono (by simp)))
  clear hb1 cS
  go_loopw [3, 10] (fun v3 v10 wr => v10 = .int .i64 0 ∧ v3 = .slice none 0 0 ∧ wr = w1) (fun _ _ _ => 0)
  case atStart => exact ⟨rfl, rfl, rfl⟩
  case round =>
    obtain ⟨rfl, rfl, rfl⟩ := hrel
    go_wp2
    go_ret
    exact ⟨rfl, HB1.out⟩
end Go.Proofs.Ytngocadnbpdnoaa.Mo
