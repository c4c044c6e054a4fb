import Derived.Test.YtngocadnbpdnoaaMo0
import Derived.Test.YtngocadnbpdnoaaMoL
import Derived.Test.YtngocadnbpdnoaaXi4
import Derived.Test.YtngocadnbpdnoaaXi3
import Derived.Test.YtngocadnbpdnoaaXuN
import Derived.Test.YtngocadnbpdnoaaQx0
import Derived.Sort.EveryDepth
import Derived.Lib.Hide
import Derived.Maps.OwnOps
import Derived.Maps.OwnSet
import Derived.Maps.RangeWalk
import Derived.Shelf.SlIter.Sorted
import Derived.Shelf.SlMaps.Clone
import Derived.Shelf.SlMaps.Equal
import Derived.Test.YtngocadnbpdnoaaWKept
import Derived.Deep.RegionHeld3
import Derived.Laws.Pointers
import Derived.Deep.DeepCutAuto
import Derived.Shelf.SlicesE.Equal
import Derived.BigRegion
import Derived.OrdersHeld
namespace Go.Proofs.Ytngocadnbpdnoaa.Mo
open Go Go.Maps Go.RowKit Go.Sort Go.Shelf Go.Proofs.Ytngocadnbpdnoaa.Srt Go.Proofs.Ytngocadnbpdnoaa.Q Go.Proofs.YtngocadnbpdnoaaW.PrintWords Go.Proofs.YtngocadnbpdnoaaW.PrintLast Go.Proofs.YtngocadnbpdnoaaW.PrintMore
set_option linter.unusedVariables false
set_option linter.unusedSimpArgs false
/-- A map of at most n entries that reads as l. -/
def MapN (w : World) (b n : Nat) (l : PL) : Prop := w.ownsMap Try.prog 23 (plainElem (H := Unit) Try.prog 23) b n (dmap l) ∧ Asc l
/-- How the held maps read: by a ghost table of blocks. -/
def RH (f : Nat → Option PL) : Value → Option (DataW Unit × List MemPlace)
  | .map none => some (.nil, [])
  | .map (some b) => (f b).map fun l => (dmap l, [])
  | _ => none
def HeldN (w : World) (f : Nat → Option PL) (b n : Nat) (hs : List (Int × PL)) : Prop := w.ownsMap Try.prog 23 (RH f) b n (mp dmap hs) ∧ Asc hs
theorem lawU : Keyed Try.prog 23 := int_keyed Try.underlying23
theorem zeroU (w : World) : (zeroValue 23).run Try.prog w = .ok (.int .u64 0) w := by kernel_rfl
theorem sortsA (m : Nat) : AnyZU.SortsIn Try.prog SortedA_ren Fence.wide m :=
  ⟨fun blk off cap ss W hH hblk hsz => callsIn_wide.2 (calls_of_every_depth fun D => AnyU.slices_Sort_int_in SortA D blk off cap ss W hH hblk hsz),
   fun p cap W => callsIn_wide.2 (calls_of_every_depth fun D => AnyU.slices_Sort_int_none_in SortA D p cap W)⟩
theorem keysA_c (mb : Option Nat) (w : World) :
    Calls Try.prog 85 #[.map mb] w fun e w' => e = .returned (.func (.func 100) #[] #[.pointer (some ⟨w.heap.size, 0, none⟩)]) ∧ w' = w.alloc (.cells #[.map mb] 97) :=
  (callsIn_wide (n := 5)).1 (AnyZU.keys_in KeysA Fence.wide 5 trivial rfl mb w)
theorem keysB_c (mb : Option Nat) (w : World) :
    Calls Try.prog 58 #[.map mb] w fun e w' => e = .returned (.func (.func 96) #[] #[.pointer (some ⟨w.heap.size, 0, none⟩)]) ∧ w' = w.alloc (.cells #[.map mb] 98) :=
  (callsIn_wide (n := 5)).1 (AnyZU.keys_in KeysB Fence.wide 5 trivial rfl mb w)
theorem own_alloc_u {w : World} {R : Value → Option (DataW Unit × List MemPlace)} {b n : Nat} {D : DataW Unit} (h : w.ownsMap Try.prog 23 R b n D) {W : World} (hb : Below w.heap.size w W) : W.ownsMap Try.prog 23 R b n D := by
  have hl := h.lt
  obtain ⟨es, clock, hb', F, hs, hD⟩ := h
  exact ⟨es, clock, (hb.block b hl).trans hb', F, hs, hD⟩
/-- slices.Sorted of a map's keys. -/
theorem sortedA_c {β : Type} {d : β → DataW Unit} (Bm b n : Nat) (l : List (Int × β)) (R : Value → Option (DataW Unit × List MemPlace)) (w : World) (hBm : Bm < w.heap.size) (hm : w.cell? ⟨Bm, 0, none⟩ = some (.map (some b))) (hown : w.ownsMap Try.prog 23 R b n (mp d l)) (ha : Asc l) (hn : l.length ≤ 1099511627776) :
    Calls Try.prog 57 #[.func (.func 100) #[] #[.pointer (some ⟨Bm, 0, none⟩)]] w fun e w' => ∃ v : Value, e = .returned v ∧
      (Kd.int .u64).R 23 w' w.heap.size (fun _ => True) v (l.map (·.1)) ∧ Below w.heap.size w w' := by
  have hsz : Maps.size (mp d l) = l.length := size_mp l
  have hseq : SeqGives Fence.wide 2 Try.prog 100 #[.pointer (some ⟨Bm, 0, none⟩)] encV (fun ss => ss.Perm (Go.intKeys (mp d l))) (Maps.size (mp d l)) w :=
    AnyZU.keys_gives (ρ := KeysA_ren) { KeysA with } Fence.wide _ trivial rfl (by omega) Bm b n (mp d l) w hBm hm hown
  have cS := AnyZU.sorted_in SortedA Fence.wide 5 trivial trivial trivial trivial rfl (by omega) (sortsA _) (enters_of Try.func95 (by kernel_rfl) rfl) 100 #[.pointer (some ⟨Bm, 0, none⟩)] trivial (enters_of Try.func100 (by kernel_rfl) rfl) _ _ (by rw [hsz]; unfold maxLen; omega) (by rw [hsz]; omega) _ hseq
  change CallsIn _ _ Try.prog 57 _ _ _ at cS
  refine ((callsIn_wide).1 cS).mono ?_
  rintro e w' ⟨v, ss, rfl, hS, hrow, hnil, hb⟩
  rw [intKeys_mp] at hS
  rw [sort_keys ha hS] at hrow
  have hlen : ss.length = (l.map (·.1)).length := hS.length_eq
  rw [hlen] at hrow
  exact ⟨v, rfl, Kd.R_of_own hrow (fun _ _ => trivial), hb⟩
theorem sortedB_c {β : Type} {d : β → DataW Unit} (Bm b n : Nat) (l : List (Int × β)) (R : Value → Option (DataW Unit × List MemPlace)) (w : World) (hBm : Bm < w.heap.size) (hm : w.cell? ⟨Bm, 0, none⟩ = some (.map (some b))) (hown : w.ownsMap Try.prog 23 R b n (mp d l)) (ha : Asc l) (hn : l.length ≤ 1099511627776) :
    Calls Try.prog 57 #[.func (.func 96) #[] #[.pointer (some ⟨Bm, 0, none⟩)]] w fun e w' => ∃ v : Value, e = .returned v ∧
      (Kd.int .u64).R 23 w' w.heap.size (fun _ => True) v (l.map (·.1)) ∧ Below w.heap.size w w' := by
  have hsz : Maps.size (mp d l) = l.length := size_mp l
  have hseq : SeqGives Fence.wide 2 Try.prog 96 #[.pointer (some ⟨Bm, 0, none⟩)] encV (fun ss => ss.Perm (Go.intKeys (mp d l))) (Maps.size (mp d l)) w :=
    AnyZU.keys_gives (ρ := KeysB_ren) { KeysB with } Fence.wide _ trivial rfl (by omega) Bm b n (mp d l) w hBm hm hown
  have cS := AnyZU.sorted_in SortedA Fence.wide 5 trivial trivial trivial trivial rfl (by omega) (sortsA _) (enters_of Try.func95 (by kernel_rfl) rfl) 96 #[.pointer (some ⟨Bm, 0, none⟩)] trivial (enters_of Try.func96 (by kernel_rfl) rfl) _ _ (by rw [hsz]; unfold maxLen; omega) (by rw [hsz]; omega) _ hseq
  change CallsIn _ _ Try.prog 57 _ _ _ at cS
  refine ((callsIn_wide).1 cS).mono ?_
  rintro e w' ⟨v, ss, rfl, hS, hrow, hnil, hb⟩
  rw [intKeys_mp] at hS
  rw [sort_keys ha hS] at hrow
  have hlen : ss.length = (l.map (·.1)).length := hS.length_eq
  rw [hlen] at hrow
  exact ⟨v, rfl, Kd.R_of_own hrow (fun _ _ => trivial), hb⟩
end Go.Proofs.Ytngocadnbpdnoaa.Mo
namespace Go.Proofs.Ytngocadnbpdnoaa.Mo
open Go Go.Maps Go.RowKit Go.Proofs.Ytngocadnbpdnoaa.Srt Go.Proofs.Ytngocadnbpdnoaa.Q Go.Proofs.YtngocadnbpdnoaaW.PrintWords Go.Proofs.YtngocadnbpdnoaaW.PrintLast Go.Proofs.YtngocadnbpdnoaaW.PrintMore
set_option linter.unusedVariables false
set_option linter.unusedSimpArgs false
abbrev SP := S90
abbrev kSP : Kd SP := k90
def toS (l : PL) : List SP := l.map fun p => ⟨p.1, p.2⟩
theorem toS_length (l : PL) : (toS l).length = l.length := by simp [toS]
theorem toS_take_succ (l : PL) (k : Nat) (p : Int × Int) (h : l[k]? = some p) : toS (l.take (k + 1)) = toS (l.take k) ++ [⟨p.1, p.2⟩] := by
  obtain ⟨hk, rfl⟩ := List.getElem?_eq_some_iff.1 h
  rw [List.take_succ_eq_append_getElem hk]
  unfold toS
  rw [List.map_append]
  rfl
theorem MapN.below {w W : World} {b n : Nat} {l : PL} (h : MapN w b n l) (hb : Below w.heap.size w W) : MapN W b n l := ⟨own_alloc_u h.1 hb, h.2⟩
theorem MapN.lt {w : World} {b n : Nat} {l : PL} (h : MapN w b n l) : b < w.heap.size := h.1.lt
theorem wf_keys {β : Type} {d : β → DataW Unit} {w : World} {b n : Nat} {R : Value → Option (DataW Unit × List MemPlace)} {l : List (Int × β)} (h : w.ownsMap Try.prog 23 R b n (mp d l)) {q : Int × β} (hq : q ∈ l) : (Lit.int .u64 q.1).wf = true :=
  Go.Proofs.Ytngocadnbpdnoaa.Srt.intKeys_wf h Try.underlying23 _ (by rw [intKeys_mp]; exact List.mem_map.2 ⟨q, hq, rfl⟩)
theorem at_l64 {l : PL} {k v c : Int} (hf : fnd l k = some v) {z : DataW Unit} (h : (dmap l).atKey (.int .u64 k) z = .lit (.int .u64 c)) : v = c := by
  unfold dmap at h
  rw [atKey_mp, hf] at h
  simpa [lit64] using h
set_option maxRecDepth 100000 in
set_option maxHeartbeats 4000000 in
theorem sorted_c (b n : Nat) (l : PL) (w : World) (h : MapN w b n l) (hn : l.length ≤ 1099511627776) :
    Calls Try.prog 38 #[.map (some b)] w fun e w' => ∃ v : Value, e = .returned v ∧ kSP.R 90 w' w.heap.size (fun _ => True) v (toS l) ∧ Below w.heap.size w w' := by
  have hlt := h.lt
  have h0 := h.below (below_alloc (Below.refl _ w) (.cells #[.map (some b)] 97))
  have HM := Lib.hid h
  have cS := sortedA_c w.heap.size b n l (plainElem (H := Unit) Try.prog 23) (w.alloc (.cells #[.map (some b)] 97)) (by simp) (by simp) h0.1 h0.2 hn
  clear h h0
  go_enter Try.func38, Try.ntmps38
  go_wp2_with (first
    | (go_at_call 85; refine (keysA_c _ _).mono ?_; rintro e w' ⟨rfl, rfl⟩)
    | (go_at_call 57; refine cS.mono ?_; rintro e w1 ⟨v, rfl, hR, hb1⟩; obtain ⟨A, c, rfl⟩ := Kd.R_slice hR))
  have hsz1 : w.heap.size + 1 ≤ w1.heap.size := by have := hb1.size; simp at this; omega
  obtain ⟨-, -, hC⟩ := Kd.R_reads' hR
  have hlen : (l.map (·.1)).length = l.length := by simp
  obtain ⟨ks, hks⟩ : ∃ ks : List Int, ks = l.map (·.1) := ⟨_, rfl⟩
  rw [← hks] at hC hlen
  have hB1 : Below w.heap.size w w1 := (below_alloc (Below.refl _ w) (.cells #[.map (some b)] 97)).trans (hb1.mono (by simp))
  have HC := Lib.hid hC
  have HK := Lib.hid hks
  have HB1 := Lib.hid hB1
  clear hC hks hR hb1 cS hB1
  have HL := Lib.hid hlen
  clear hlen
  go_loopw [3, 10] (fun v3 v10 wr => ∃ i : Nat, v10 = .int .i64 i ∧ i ≤ l.length ∧ Hid (kSP.R 90 wr w1.heap.size (fun _ => True) v3 (toS (l.take i))) ∧ Hid (Below w1.heap.size w1 wr))
    (fun _ v10 _ => l.length - (intOf v10).toNat)
  case atStart => exact ⟨0, rfl, Nat.zero_le _, Lib.hid (Kd.R_nil _ _ _ _ _), Lib.hid (Below.refl _ _)⟩
  case round =>
    obtain ⟨i, rfl, hi, HR, HBW⟩ := hrel
    have HB := Lib.hid (HB1.out.trans (HBW.out.mono HB1.out.size))
    by_cases hlt2 : i < l.length
    · obtain ⟨p, hp⟩ : ∃ p, l[i]? = some p := ⟨l[i], List.getElem?_eq_getElem hlt2⟩
      obtain ⟨ad, rfl, hx⟩ := Kd.at_int HC.out (i : Int) (by omega) (by have := HL.out; omega)
      have hk1 : rd ks (i : Int) = p.1 := by
        rw [HK.out]
        unfold rd
        simp [List.getD, hp]
      rw [hk1, Int.toNat_natCast] at hx
      have hx1 := (HBW.out.cell (World.block_lt_of_cell? w1 _ hx)).trans hx
      have hfd : fnd l p.1 = some p.2 := fnd_of_mem HM.out.2 (List.mem_of_getElem? hp)
      have hown := (HM.out.below HB.out).1
      have HWF := Lib.hid (wf_keys HM.out.1 (List.mem_of_getElem? hp))
      have HF := Lib.hid hfd
      have HP := Lib.hid hp
      clear hfd hp hx hk1
      have hbnd : Hid (((toS (l.take i)).length + 1) * 16 ≤ 140737488355328) := Lib.hid (by rw [toS_length, List.length_take]; omega)
      have hbb : b < wr.heap.size := Nat.lt_of_lt_of_le hlt HB.out.size
      go_wp2_with (first
        | (at_lookup; refine wpList_lookup_own_int _ rfl _ _ 97 rfl 23 23 .u64 lawU Try.underlying97 Try.underlying23 (zeroU _) b n _ rfl hown _ _ rfl (keyOf_int_mk Try.underlying23 HWF.out) ?_; intro c hat hwc; obtain rfl := at_l64 HF.out hat; clear hat hwc hown)
        | (at_builtin; (refine Kd.R_append kSP (w0 := w1) w1.heap.size rfl (.tmp 14) (.tmp 20) 24 90 (.agg #[(.int .u64 0), (.int .u64 0)]) 16 rfl Try.underlying24 info90 rfl (by decide) (by omega) u3 (toS (l.take i)) (⟨p.1, p.2⟩ : SP) [.int .u64 p.1, .int .u64 p.2] (fun _ => True) (fun _ => False) rfl rfl ?aP (fun _ hk => hk.elim) (fun _ _ => trivial) ?aO ?aB ?aS ?aL ?_)
           (case aP => exact k90_mkM _ _ _ (⟨p.1, p.2⟩ : SP))
           (case aO => exact HR.out)
           (case aB => exact HBW.out)
           (case aS => exact below_size HBW.out)
           (case aL => exact hbnd.out)
           intro v1 w2 ho hb hg hat
           have HO2 := Lib.hid ho
           have HB2 := Lib.hid hb
           have HG2 := Lib.hid hg
           have HA2 := Lib.hid hat
           clear ho hb hg hat))
      go_roundw
      case rel => exact ⟨i + 1, by go_num, by omega, Lib.hid (by rw [toS_take_succ l i p HP.out]; exact HO2.out), HB2⟩
      case measure => simp [intOf]; omega
    · obtain rfl : i = l.length := by omega
      go_wp2
      go_ret
      refine ⟨_, rfl, ?_, HB.out⟩
      have := HR.out
      rw [List.take_length] at this
      exact Kd.R_lower this HB1.out.size
theorem sortedA_nil_c (Bm : Nat) (w : World) (hBm : Bm < w.heap.size) (hm : w.cell? ⟨Bm, 0, none⟩ = some (.map none)) :
    Calls Try.prog 57 #[.func (.func 100) #[] #[.pointer (some ⟨Bm, 0, none⟩)]] w fun e w' => e = .returned (.slice none 0 0) ∧ Below w.heap.size w w' := by
  have hseq : SeqGives Fence.wide 2 Try.prog 100 #[.pointer (some ⟨Bm, 0, none⟩)] encV (fun ss => ss = []) 0 w :=
    AnyZU.keys_gives_nil (ρ := KeysA_ren) { KeysA with } Fence.wide _ trivial rfl Bm w hBm hm
  have cS := AnyZU.sorted_in SortedA Fence.wide 5 trivial trivial trivial trivial rfl (by omega) (sortsA _) (enters_of Try.func95 (by kernel_rfl) rfl) 100 #[.pointer (some ⟨Bm, 0, none⟩)] trivial (enters_of Try.func100 (by kernel_rfl) rfl) _ _ (by unfold maxLen; omega) (by omega) _ hseq
  change CallsIn _ _ Try.prog 57 _ _ _ at cS
  refine ((callsIn_wide).1 cS).mono ?_
  rintro e w' ⟨v, ss, rfl, hS, hrow, hnil, hb⟩
  exact ⟨by rw [hnil.2 hS], hb⟩
set_option maxRecDepth 100000 in
set_option maxHeartbeats 4000000 in
theorem sorted_nil_c (w : World) :
    Calls Try.prog 38 #[.map none] w fun e w' => e = .returned (.slice none 0 0) ∧ Below w.heap.size w w' := by
  have cS := sortedA_nil_c w.heap.size (w.alloc (.cells #[.map none] 97)) (by simp) (by simp)
  go_enter Try.func38, Try.ntmps38
  go_wp2_with (first
    | (go_at_call 85; refine (keysA_c _ _).mono ?_; rintro e w' ⟨rfl, rfl⟩)
    | (go_at_call 57; refine cS.mono ?_; rintro e w1 ⟨rfl, hb1⟩))
  have HB1 := Lib.hid ((below_alloc (Below.refl _ w) (.cells #[.map none] 97)).trans (hb1.mono (by simp)))
  clear hb1 cS
  go_loopw [3, 10] (fun v3 v10 wr => v10 = .int .i64 0 ∧ v3 = .slice none 0 0 ∧ wr = w1) (fun _ _ _ => 0)
  case atStart => exact ⟨rfl, rfl, rfl⟩
  case round =>
    obtain ⟨rfl, rfl, rfl⟩ := hrel
    go_wp2
    go_ret
    exact ⟨rfl, HB1.out⟩
end Go.Proofs.Ytngocadnbpdnoaa.Mo
namespace Go.Proofs.Ytngocadnbpdnoaa.Mo
open Go Go.Maps Go.RowKit Go.Proofs.Ytngocadnbpdnoaa.Srt Go.Proofs.Ytngocadnbpdnoaa.Q Go.Proofs.YtngocadnbpdnoaaW.PrintWords Go.Proofs.YtngocadnbpdnoaaW.PrintLast Go.Proofs.YtngocadnbpdnoaaW.PrintMore
set_option linter.unusedVariables false
set_option linter.unusedSimpArgs false
/-! ### the library's contracts -/
theorem clone_c (b n : Nat) (l : PL) (w : World) (h : MapN w b n l) :
    Calls Try.prog 79 #[.map (some b)] w fun e w' => e = .returned (.map (some w.heap.size)) ∧ MapN w' w.heap.size n l ∧ Below w.heap.size w w' ∧ w.heap.size < w'.heap.size := by
  refine (AnyW.maps_Clone_owns CloneA 23 _ b n (dmap l) w h.1).mono ?_
  rintro e w' ⟨he, h1, -, hb⟩
  exact ⟨he, ⟨h1, h.2⟩, hb, h1.lt⟩
/-- m[k] = v at a step of a region. -/
theorem step_mapUpdate {P : Program} {ops : Array Oper} {o : Oper} {a : Act} {K : Act → World → Prop} {Q : Exit → Act → World → Prop} {E : Prop} {w : World} (hgd : o.guard = none) (m x v : Operand) (t : TypeId) (hop : o.op = Op.mapUpdate t m x v)
    (k e : TypeId) (KK : Keyed P k) (ht : P.underlying t = some (.map k e)) (R : Value → Option (DataW Unit × List MemPlace)) (b n : Nat) (D : DataW Unit)
    (hm : a.eval m = .map (some b)) (hown : w.ownsMap P k R b n D) (hn : n < maxLen) (key val : Value) (kl : Lit) (hx : a.eval x = key) (hv : a.eval v = val) (hkey : keyOf P k key = some kl)
    (d : DataW Unit) (ps : List MemPlace) (hval : R val = some (d, ps))
    (hK : ∀ w', w'.ownsMap P k R b (n + 1) (D.put kl d) → w.grownBy w' (some b) → K (a.put o.dst undef) w') :
    if Region.wanted o (yielded ops a.tmps) = true then Oper.wp P o a w K Q else E := by
  have hw : Region.wanted o (yielded ops a.tmps) = true := by simp [Region.wanted, hgd]
  rw [if_pos hw]
  obtain ⟨w', hrun, r1, r2⟩ := hown.update KK ht hn hkey hval
  unfold Oper.wp
  simp [execOp, hop, hm, hx, hv, hrun, Result.andThen]
  exact hK w' r1 r2
/-! ### the program's model in memory -/
structure PM (w : World) (f : Nat → Option PL) (N gp bn bh : Nat) (multi : Int) (now : PL) (held : List (Int × PL)) : Prop where
  blk : w.heap[gp]? = some (.cells #[.int .i64 multi, .map (some bn), .map (some bh)] 100 (0, 0))
  now : MapN w bn N now
  held : HeldN w f bh N held
  fn : f bn = none
  fh : f bh = none
  ne : bn ≠ bh
def Fro (w : World) (f : Nat → Option PL) (N : Nat) : Prop := ∀ b l, f b = some l → MapN w b N l
def Ext (B : Nat) (f f' : Nat → Option PL) : Prop := (∀ b l, f b = some l → f' b = some l) ∧ ∀ b l, f' b = some l → f b = some l ∨ B ≤ b
theorem Ext.refl (B : Nat) (f : Nat → Option PL) : Ext B f f := ⟨fun _ _ h => h, fun _ _ h => .inl h⟩
theorem Ext.trans {B B' : Nat} {f f' f'' : Nat → Option PL} (h : Ext B f f') (h' : Ext B' f' f'') (hB : B ≤ B') : Ext B f f'' :=
  ⟨fun b l e => h'.1 b l (h.1 b l e), fun b l e => (h'.2 b l e).elim (h.2 b l) (fun e => .inr (Nat.le_trans hB e))⟩
def updF (f : Nat → Option PL) (b : Nat) (l : PL) : Nat → Option PL := fun k => if k = b then some l else f k
theorem ext_updF {B b : Nat} {f : Nat → Option PL} {l : PL} (hb : B ≤ b) (hf : f b = none) : Ext B f (updF f b l) := by
  constructor
  · intro k v h
    unfold updF
    split
    · rename_i e; subst e; rw [hf] at h; cases h
    · exact h
  · intro k v h
    unfold updF at h
    split at h
    · rename_i e; subst e; exact .inr hb
    · exact .inl h
theorem MapN.kept {w W : World} {S : Nat → Prop} {b n : Nat} {l : PL} (h : MapN w b n l) (hk : Kept w W S) (hS : ¬ S b) : MapN W b n l := by
  have hl := h.lt
  obtain ⟨⟨es, clock, hb', F, hs, hD⟩, ha⟩ := h
  exact ⟨⟨es, clock, (hk.2 b hl hS).trans hb', F, hs, hD⟩, ha⟩
theorem MapN.mono {w : World} {b n n' : Nat} {l : PL} (h : MapN w b n l) (hn : n ≤ n') : MapN w b n' l := ⟨h.1.mono hn, h.2⟩
theorem HeldN.kept {w W : World} {S : Nat → Prop} {f : Nat → Option PL} {b n : Nat} {l : List (Int × PL)} (h : HeldN w f b n l) (hk : Kept w W S) (hS : ¬ S b) : HeldN W f b n l := by
  have hl := h.1.lt
  obtain ⟨⟨es, clock, hb', F, hs, hD⟩, ha⟩ := h
  exact ⟨⟨es, clock, (hk.2 b hl hS).trans hb', F, hs, hD⟩, ha⟩
theorem HeldN.mono {w : World} {f : Nat → Option PL} {b n n' : Nat} {l : List (Int × PL)} (h : HeldN w f b n l) (hn : n ≤ n') : HeldN w f b n' l := ⟨h.1.mono hn, h.2⟩
theorem RH_ext {B : Nat} {f f' : Nat → Option PL} (h : Ext B f f') (v : Value) (z : DataW Unit × List MemPlace) (hz : RH f v = some z) : RH f' v = some z := by
  unfold RH at hz ⊢
  split at hz
  · exact hz
  · rename_i b
    cases hf : f b with
    | none => rw [hf] at hz; cases hz
    | some l => rw [h.1 b l hf]; rw [hf] at hz; exact hz
  · cases hz
theorem HeldN.ext {w : World} {B : Nat} {f f' : Nat → Option PL} {b n : Nat} {l : List (Int × PL)} (h : HeldN w f b n l) (he : Ext B f f') : HeldN w f' b n l := by
  obtain ⟨⟨es, clock, hb', F, hs, hD⟩, ha⟩ := h
  obtain ⟨F1, hmap, _⟩ := F.stay (fun x _ z hz => RH_ext he x.val z hz)
  exact ⟨⟨es, clock, hb', F1, hs, by rw [hD, ← hmap]⟩, ha⟩
theorem PM.gl {w : World} {f : Nat → Option PL} {N gp bn bh : Nat} {multi : Int} {now : PL} {held : List (Int × PL)} (h : PM w f N gp bn bh multi now held) : gp < w.heap.size := (Array.getElem?_eq_some_iff.1 h.blk).1
theorem PM.kept {w W : World} {S : Nat → Prop} {f : Nat → Option PL} {N gp bn bh : Nat} {multi : Int} {now : PL} {held : List (Int × PL)} (h : PM w f N gp bn bh multi now held) (hk : Kept w W S) (h1 : ¬ S gp) (h2 : ¬ S bn) (h3 : ¬ S bh) : PM W f N gp bn bh multi now held :=
  ⟨(hk.2 gp h.gl h1).trans h.blk, h.now.kept hk h2, h.held.kept hk h3, h.fn, h.fh, h.ne⟩
theorem PM.ext {w : World} {B : Nat} {f f' : Nat → Option PL} {N gp bn bh : Nat} {multi : Int} {now : PL} {held : List (Int × PL)} (h : PM w f N gp bn bh multi now held) (he : Ext B f f') (h2 : bn < B) (h3 : bh < B) : PM w f' N gp bn bh multi now held :=
  ⟨h.blk, h.now, h.held.ext he, by
    cases hf : f' bn with
    | none => rfl
    | some l => rcases he.2 bn l hf with e | e; rw [h.fn] at e; cases e; omega, by
    cases hf : f' bh with
    | none => rfl
    | some l => rcases he.2 bh l hf with e | e; rw [h.fh] at e; cases e; omega, h.ne⟩
theorem PM.mono {w : World} {f : Nat → Option PL} {N N' gp bn bh : Nat} {multi : Int} {now : PL} {held : List (Int × PL)} (h : PM w f N gp bn bh multi now held) (hn : N ≤ N') : PM w f N' gp bn bh multi now held :=
  ⟨h.blk, h.now.mono hn, h.held.mono hn, h.fn, h.fh, h.ne⟩
theorem Fro.kept {w W : World} {S : Nat → Prop} {f : Nat → Option PL} {N : Nat} (h : Fro w f N) (hk : Kept w W S) (hS : ∀ b l, f b = some l → ¬ S b) : Fro W f N := fun b l hb => (h b l hb).kept hk (hS b l hb)
theorem Fro.mono {w : World} {f : Nat → Option PL} {N N' : Nat} (h : Fro w f N) (hn : N ≤ N') : Fro w f N' := fun b l hb => (h b l hb).mono hn
theorem Fro.lt {w : World} {f : Nat → Option PL} {N : Nat} (h : Fro w f N) {b : Nat} (hb : w.heap.size ≤ b) : f b = none := by
  cases hf : f b with
  | none => rfl
  | some l => have := (h b l hf).lt; omega
theorem Fro.upd {w : World} {f : Nat → Option PL} {N b : Nat} {l : PL} (h : Fro w f N) (hb : MapN w b N l) : Fro w (updF f b l) N := by
  intro k v hk
  unfold updF at hk
  split at hk
  · rename_i e; subst e; cases hk; exact hb
  · exact h k v hk
theorem PM.c0 {w : World} {f : Nat → Option PL} {N gp bn bh : Nat} {multi : Int} {now : PL} {held : List (Int × PL)} (h : PM w f N gp bn bh multi now held) : w.cell? ⟨gp, 0, none⟩ = some (.int .i64 multi) := by rw [blk_cell h.blk]; rfl
theorem PM.c1 {w : World} {f : Nat → Option PL} {N gp bn bh : Nat} {multi : Int} {now : PL} {held : List (Int × PL)} (h : PM w f N gp bn bh multi now held) : w.cell? ⟨gp, 1, none⟩ = some (.map (some bn)) := by rw [blk_cell h.blk]; rfl
theorem PM.c2 {w : World} {f : Nat → Option PL} {N gp bn bh : Nat} {multi : Int} {now : PL} {held : List (Int × PL)} (h : PM w f N gp bn bh multi now held) : w.cell? ⟨gp, 2, none⟩ = some (.map (some bh)) := by rw [blk_cell h.blk]; rfl
def u64wf (k : Int) : Prop := (Lit.int .u64 k).wf = true
theorem dmap_ne_nil (l : PL) : dmap l ≠ .nil := by simp [dmap, mp]
/-- What a look-up in held gives. -/
theorem held_at {f : Nat → Option PL} {hs : List (Int × PL)} {k : Int} {v : Value} {ps : List MemPlace} (h : RH f v = some ((mp dmap hs).atKey (.int .u64 k) .nil, ps)) :
    (fnd hs k = none ∧ v = .map none) ∨ ∃ b l, fnd hs k = some l ∧ v = .map (some b) ∧ f b = some l := by
  rw [atKey_mp] at h
  cases hf : fnd hs k with
  | none =>
    left
    rw [hf] at h
    unfold RH at h
    split at h
    · exact ⟨rfl, rfl⟩
    · rename_i b
      cases hb : f b with
      | none => rw [hb] at h; cases h
      | some l =>
        rw [hb] at h
        simp only [Option.map_some, Option.some.injEq, Prod.mk.injEq] at h
        exact absurd h.1 (dmap_ne_nil l)
    · cases h
  | some l =>
    right
    rw [hf] at h
    unfold RH at h
    split at h
    · simp only [Option.some.injEq, Prod.mk.injEq] at h
      exact absurd h.1.symm (dmap_ne_nil l)
    · rename_i b
      cases hb : f b with
      | none => rw [hb] at h; cases h
      | some l' =>
        rw [hb] at h
        simp only [Option.map_some, Option.some.injEq, Prod.mk.injEq] at h
        obtain rfl := dmap_inj _ _ h.1
        exact ⟨b, l', rfl, rfl, hb⟩
    · cases h
theorem zeroM (w : World) : (zeroValue 97).run Try.prog w = .ok (.map none) w := by kernel_rfl
/-- v, ok := m.held[k] : the run. -/
theorem held_look {w : World} {f : Nat → Option PL} {b n : Nat} {hs : List (Int × PL)} (h : HeldN w f b n hs) {k : Int} (hk : u64wf k) :
    (∃ v : Value, ((fnd hs k = none ∧ v = .map none) ∨ ∃ b l, fnd hs k = some l ∧ v = .map (some b) ∧ f b = some l) ∧ (Instr.lookup 98 (.map (some b)) (.int .u64 k) true).run Try.prog w = .ok (.tuple #[v, .bool (fnd hs k).isSome]) w) := by
  obtain ⟨v, ps, hrun, hR⟩ := h.1.look_ok lawU Try.underlying98 (zeroM w) (zd := .nil) (zp := []) rfl (keyOf_int_mk Try.underlying23 hk)
  rw [has_mp] at hrun
  exact ⟨v, held_at hR, hrun⟩
/-- v, ok := m.now[k] : the run. -/
theorem now_look {w : World} {b n : Nat} {l : PL} (h : MapN w b n l) {k : Int} (hk : u64wf k) :
    (Instr.lookup 97 (.map (some b)) (.int .u64 k) true).run Try.prog w = .ok (.tuple #[.int .u64 ((fnd l k).getD 0), .bool (fnd l k).isSome]) w := by
  obtain ⟨v, ps, hrun, hR⟩ := h.1.look_ok lawU Try.underlying97 (zeroU w) (zd := .lit (.int .u64 0)) (zp := []) (plainElem_int Try.underlying23 (by decide)) (keyOf_int_mk Try.underlying23 hk)
  unfold dmap at hrun hR
  rw [has_mp] at hrun
  rw [atKey_mp] at hR
  obtain ⟨a, rfl, hz, -⟩ := plainElem_int_inv Try.underlying23 hR
  rw [hrun]
  cases hf : fnd l k with
  | none => rw [hf] at hz; simp at hz; rw [← hz.1]; rfl
  | some c => rw [hf] at hz; simp [lit64] at hz; rw [← hz.1]; rfl
/-- m.held[k] = a held map : the run. -/
theorem held_put {w : World} {f : Nat → Option PL} {b n : Nat} {hs : List (Int × PL)} (h : HeldN w f b n hs) {k : Int} (hk : u64wf k) {bl : Nat} {l : PL} (hf : f bl = some l) (hn : n < maxLen) :
    ∃ w', (Instr.mapUpdate 98 (.map (some b)) (.int .u64 k) (.map (some bl))).run Try.prog w = .ok () w' ∧ HeldN w' f b (n + 1) (put hs k l) ∧ w.grownBy w' (some b) := by
  obtain ⟨w', hrun, ho, hg⟩ := h.1.update lawU Try.underlying98 hn (key := .int .u64 k) (val := .map (some bl)) (kl := .int .u64 k) (d := dmap l) (ps := []) (keyOf_int_mk Try.underlying23 hk) (by simp [RH, hf])
  rw [put_mp _ _ _ h.2] at ho
  exact ⟨w', hrun, ⟨ho, asc_put h.2 _ _⟩, hg⟩
theorem now_put {w : World} {b n : Nat} {l : PL} (h : MapN w b n l) {k v : Int} (hk : u64wf k) (hv : u64wf v) (hn : n < maxLen) :
    ∃ w', (Instr.mapUpdate 97 (.map (some b)) (.int .u64 k) (.int .u64 v)).run Try.prog w = .ok () w' ∧ MapN w' b (n + 1) (put l k v) ∧ w.grownBy w' (some b) := by
  obtain ⟨w', hrun, ho, hg⟩ := h.1.update lawU Try.underlying97 hn (key := .int .u64 k) (val := .int .u64 v) (kl := .int .u64 k) (d := lit64 v) (ps := []) (keyOf_int_mk Try.underlying23 hk) (plainElem_int Try.underlying23 hv)
  unfold dmap at ho
  rw [put_mp _ _ _ h.2] at ho
  exact ⟨w', hrun, ⟨ho, asc_put h.2 _ _⟩, hg⟩
theorem now_del {w : World} {b n : Nat} {l : PL} (h : MapN w b n l) {k : Int} (hk : u64wf k) (ty : TypeId) :
    ∃ w', (Builtin.delete_ #[97, 23] ty #[.map (some b), .int .u64 k]).run Try.prog w = .ok (.tuple #[]) w' ∧ MapN w' b n (del l k) ∧ w.grownBy w' (some b) := by
  obtain ⟨w', hrun, ho, hg⟩ := h.1.drop lawU Try.underlying97 (key := .int .u64 k) (kl := .int .u64 k) (keyOf_int_mk Try.underlying23 hk) ty
  unfold dmap at ho
  rw [del_mp] at ho
  exact ⟨w', hrun, ⟨ho, asc_del h.2 _⟩, hg.grown⟩
theorem held_del {w : World} {f : Nat → Option PL} {b n : Nat} {hs : List (Int × PL)} (h : HeldN w f b n hs) {k : Int} (hk : u64wf k) (ty : TypeId) :
    ∃ w', (Builtin.delete_ #[98, 23] ty #[.map (some b), .int .u64 k]).run Try.prog w = .ok (.tuple #[]) w' ∧ HeldN w' f b n (del hs k) ∧ w.grownBy w' (some b) := by
  obtain ⟨w', hrun, ho, hg⟩ := h.1.drop lawU Try.underlying98 (key := .int .u64 k) (kl := .int .u64 k) (keyOf_int_mk Try.underlying23 hk) ty
  rw [del_mp] at ho
  exact ⟨w', hrun, ⟨ho, asc_del h.2 _⟩, hg.grown⟩
end Go.Proofs.Ytngocadnbpdnoaa.Mo
namespace Go.Proofs.Ytngocadnbpdnoaa.Mo
open Go Go.Maps Go.RowKit Go.Proofs.Ytngocadnbpdnoaa.Srt Go.Proofs.Ytngocadnbpdnoaa.Q Go.Proofs.YtngocadnbpdnoaaW.PrintWords Go.Proofs.YtngocadnbpdnoaaW.PrintLast Go.Proofs.YtngocadnbpdnoaaW.PrintMore
set_option linter.unusedVariables false
set_option linter.unusedSimpArgs false
def ansV (e : Int) (fo : Bool) (v : Int) (dn : Bool) (h : Int) (ps : Value) (c : Int) : Value := .agg #[.int .i64 e, .bool fo, .int .u64 v, .bool dn, .int .u64 h, ps, .int .u64 c]
/-- An error alone. -/
def ansE (e : Int) : Value := ansV e false 0 false 0 (.slice none 0 0) 0
def ansC (e : Int) (fo : Bool) (v : Int) (dn : Bool) (h : Int) (ps : Value) (c : Int) : Array Value := #[.int .i64 e, .bool fo, .int .u64 v, .bool dn, .int .u64 h, ps, .int .u64 c]
theorem ansC_one (e : Int) (fo : Bool) (v : Int) (dn : Bool) (h : Int) (A : Option Addr) (n cp : Nat) (c : Int) : (ansC e fo v dn h (.slice A n cp) c).all (·.oneCell') = true := by simp [ansC, Value.oneCell']
theorem res_ans {fn : Func} {p : Tmp} (h : fn.results = #[.cell p 26]) (tmps : Array Value) {g : Nat} (hg : tmps.getD p undef = .pointer (some ⟨g, 0, none⟩)) {w : World} {e : Int} {fo : Bool} {v : Int} {dn : Bool} {hd : Int} {A : Option Addr} {n cp : Nat} {c : Int}
    (hb : w.heap[g]? = some (.cells (ansC e fo v dn hd (.slice A n cp) c) 26 (0, 0))) : (results fn tmps).run Try.prog w = .ok (ansV e fo v dn hd (.slice A n cp) c) w := by
  have h0 : w.cell? ⟨g, 0, none⟩ = some (.int .i64 e) := by rw [blk_cell hb]; rfl
  have h1 : w.cell? ⟨g, 1, none⟩ = some (.bool fo) := by rw [blk_cell hb]; rfl
  have h2 : w.cell? ⟨g, 2, none⟩ = some (.int .u64 v) := by rw [blk_cell hb]; rfl
  have h3 : w.cell? ⟨g, 3, none⟩ = some (.bool dn) := by rw [blk_cell hb]; rfl
  have h4 : w.cell? ⟨g, 4, none⟩ = some (.int .u64 hd) := by rw [blk_cell hb]; rfl
  have h5 : w.cell? ⟨g, 5, none⟩ = some (.slice A n cp) := by rw [blk_cell hb]; rfl
  have h6 : w.cell? ⟨g, 6, none⟩ = some (.int .u64 c) := by rw [blk_cell hb]; rfl
  have hg' : tmps[p]?.getD undef = .pointer (some ⟨g, 0, none⟩) := by simpa using hg
  simp only [results, h]
  simp [go_sem, hg', h0, h1, h2, h3, h4, h5, h6, ansV]
theorem Kept_row (w : World) (g : Nat) (cs : Array Value) : Kept w (w.setRow g cs) (fun k => k = g) := ⟨by simp, fun i _ hi => setRow_other w g i cs hi⟩
/-- Kept, and nothing told outside. -/
structure KO (w w' : World) (K : Nat → Prop) : Prop where
  kept : Kept w w' K
  os : w'.os = w.os
  tape : w'.tape = w.tape
  output : w'.output = w.output
theorem KO.refl (w : World) (K : Nat → Prop) : KO w w K := ⟨Kept.refl _ _, rfl, rfl, rfl⟩
theorem KO.of_below {w W : World} (h : Below w.heap.size w W) (K : Nat → Prop) : KO w W K := ⟨Kept.of_below h K, h.os, h.tape, h.output⟩
theorem KO.mono {w W : World} {K K' : Nat → Prop} (h : KO w W K) (hs : ∀ k, K k → K' k) : KO w W K' := ⟨h.kept.mono hs, h.os, h.tape, h.output⟩
theorem KO.then_ {w W W2 : World} {K K2 : Nat → Prop} (h : KO w W K) (k : KO W W2 K2) (hs : ∀ k, K2 k → K k ∨ w.heap.size ≤ k) : KO w W2 K := ⟨h.kept.then_ k.kept hs, k.os.trans h.os, k.tape.trans h.tape, k.output.trans h.output⟩
theorem KO.of_grown {w W W2 : World} {K : Nat → Prop} {row : Option Nat} (hg : W.grownBy W2 row) (h : KO w W K) (hr : ∀ k, row = some k → K k ∨ w.heap.size ≤ k) : KO w W2 K := ⟨Kept.of_grown hg h.kept hr, hg.os.trans h.os, hg.tape.trans h.tape, hg.output.trans h.output⟩
theorem KO.below {w W W2 : World} {K : Nat → Prop} (h : KO w W K) (hb : Below W.heap.size W W2) : KO w W2 K := h.then_ (KO.of_below hb (fun _ => False)) (fun _ e => e.elim)
theorem KO.row (w : World) (g : Nat) (cs : Array Value) : KO w (w.setRow g cs) (fun k => k = g) := ⟨Kept_row w g cs, rfl, rfl, rfl⟩
theorem KO.below_of {w W : World} {K : Nat → Prop} (h : KO w W K) (hs : ∀ k, K k → w.heap.size ≤ k) : Below w.heap.size w W := ⟨h.os, h.tape, h.output, h.kept.1, fun i hi => h.kept.2 i hi (fun e => by have := hs i e; omega)⟩
/-- What a step of the model leaves: n: how many more. -/
def Left (w w' : World) (f : Nat → Option PL) (N gp bn bh : Nat) (multi : Int) (now : PL) (held : List (Int × PL)) (K : Nat → Prop) : Prop :=
  ∃ f', Ext w.heap.size f f' ∧ PM w' f' N gp bn bh multi now held ∧ Fro w' f' N ∧ KO w w' K
theorem left_same {w w' : World} {f : Nat → Option PL} {N N' gp bn bh : Nat} {multi : Int} {now : PL} {held : List (Int × PL)} {K : Nat → Prop} (hM : PM w f N gp bn bh multi now held) (hF : Fro w f N) (hb : Below w.heap.size w w') (hn : N ≤ N') : Left w w' f N' gp bn bh multi now held K :=
  ⟨f, Ext.refl _ _, (hM.kept (Kept.of_below hb (fun _ => False)) (fun e => e) (fun e => e) (fun e => e)).mono hn, (hF.kept (Kept.of_below hb (fun _ => False)) (fun _ _ _ e => e)).mono hn, KO.of_below hb _⟩
def snapHeld (h : Int) (now : PL) (held : List (Int × PL)) : List (Int × PL) := if (fnd held h).isSome then held else if h = 0 then held else put held h now
def snapAns (h : Int) (held : List (Int × PL)) : Value := if (fnd held h).isSome then ansE 32 else ansV 0 false 0 false h (.slice none 0 0) 0
set_option maxRecDepth 100000 in
set_option maxHeartbeats 4000000 in
theorem snapshot_c (f : Nat → Option PL) (N gp bn bh : Nat) (multi : Int) (now : PL) (held : List (Int × PL)) (hdl : Int) (w : World) (hM : PM w f N gp bn bh multi now held) (hF : Fro w f N) (hh : u64wf hdl) (hN : N ≤ 1099511627776) :
    Calls Try.prog 36 #[.pointer (some ⟨gp, 0, none⟩), .int .u64 hdl] w fun e w' => e = .returned (snapAns hdl held) ∧ Left w w' f (N + 1) gp bn bh multi now (snapHeld hdl now held) (fun k => k = bh) := by
  have hgl := hM.gl
  have hnl := hM.now.lt
  have hhl := hM.held.1.lt
  have c2 := hM.c2
  have c1 := hM.c1
  have HMM := Lib.hid hM
  have HFF := Lib.hid hF
  have HU := Lib.hid hh
  obtain ⟨w1, hw1⟩ : ∃ w1, w1 = w.alloc (.cells #[.int .i64 0, .bool false, .int .u64 0, .bool false, .int .u64 0, .slice none 0 0, .int .u64 0] 26) := ⟨_, rfl⟩
  have hb1 : Below w.heap.size w w1 := by rw [hw1]; exact below_alloc (Below.refl _ w) _
  obtain ⟨v, hv, hrun⟩ := held_look (hM.held.kept (Kept.of_below hb1 (fun _ => False)) (fun e => e)) hh
  rw [hw1] at hrun
  have HV := Lib.hid hv
  have HW1 := Lib.hid hw1
  clear hM hF hh hv hw1 hb1
  by_cases hs : (fnd held hdl).isSome = true
  · rw [hs] at hrun
    go_enter Try.func36, Try.ntmps36
    go_wp2
    exact bodyPost_ret (v := ansE 32) (by simp [results, Try.results36, go_sem, ansE, ansV]) rfl ⟨by unfold snapAns; rw [if_pos hs], by unfold snapHeld; rw [if_pos hs]; exact left_same HMM.out HFF.out (below_alloc (Below.refl _ w) _) (Nat.le_succ N)⟩
  · have hs' : (fnd held hdl).isSome = false := by simpa using hs
    rw [hs'] at hrun
    by_cases h0 : hdl = 0
    · subst h0
      go_enter Try.func36, Try.ntmps36
      go_wp2
      exact bodyPost_ret (v := ansV 0 false 0 false 0 (.slice none 0 0) 0) (by simp [results, Try.results36, go_sem, ansE, ansV]) rfl ⟨by unfold snapAns; rw [hs']; rfl, by unfold snapHeld; rw [if_neg hs, if_pos rfl]; exact left_same HMM.out HFF.out (below_alloc (Below.refl _ w) _) (Nat.le_succ N)⟩
    · have hne : (hdl != 0) = true := by simp [h0]
      go_enter Try.func36, Try.ntmps36
      go_wp2_with fail
      have hBw : Below w.heap.size w (w.alloc (Obj.cells #[.int .i64 0, .bool false, .int .u64 0, .bool false, .int .u64 0, .slice none 0 0, .int .u64 0] 26)).drew := below_drew (below_alloc (Below.refl _ w) _)
      have hHn := Lib.hid (HMM.out.now.below hBw)
      have HB0 := Lib.hid hBw
      clear hBw hrun
      have hHh := Lib.hid (HMM.out.held.kept (Kept.of_below HB0.out (fun _ => False)) (fun e => e))
      have hblk : (w.alloc (Obj.cells #[.int .i64 0, .bool false, .int .u64 0, .bool false, .int .u64 0, .slice none 0 0, .int .u64 0] 26)).drew.heap[w.heap.size]? = some (.cells (ansC 0 false 0 false 0 (.slice none 0 0) 0) 26 (0, 0)) := heap_alloc_new w _
      have HBLK := Lib.hid hblk
      clear hblk
      go_region_held3 (fun w' => w'.cell? ⟨gp, 1, none⟩ = some (.map (some bn)) ∧ w'.cell? ⟨gp, 2, none⟩ = some (.map (some bh)))
        (first
          | go_keep
          | (go_split_ands
             refine ⟨?_, ?_⟩ <;> assumption))
        ((go_at_call 79; refine (clone_c bn N now _ hHn.out).mono ?_; rintro e w2 ⟨rfl, hm2, hb2, hs2⟩
          have he2 := ext_updF (f := f) (B := w.heap.size) (b := w.heap.size + 1) (l := now) (by omega) (HFF.out.lt (by omega))
          have hk02 : KO w w2 (fun _ => False) := (KO.of_below HB0.out (fun _ => False)).below hb2
          obtain ⟨w3, hrun3, ho3, hg3⟩ := held_put (f := updF f (w.heap.size + 1) now) ((hHh.out.kept (Kept.of_below hb2 (fun _ => False)) (fun e => e)).ext he2) HU.out (bl := w.heap.size + 1) (l := now) (by simp [updF]) (by unfold maxLen; omega)
          have hk3 : KO w w3 (fun k => k = bh) := KO.of_grown hg3 (hk02.mono (fun _ e => e.elim)) (fun k e => .inl (by cases e; rfl))
          have hne3 : gp ≠ bh := fun e => by
            have h1 := HMM.out.blk
            rw [e] at h1
            obtain ⟨⟨es, cl, h2, _⟩, _⟩ := HMM.out.held
            rw [h1] at h2; cases h2
          have hPM : PM w3 (updF f (w.heap.size + 1) now) (N + 1) gp bn bh multi now (put held hdl now) :=
            ⟨(hk3.kept.2 gp hgl hne3).trans HMM.out.blk, ((HMM.out.now.kept hk3.kept HMM.out.ne).mono (Nat.le_succ N)), ho3, (HMM.out.ext he2 hnl hhl).fn, (HMM.out.ext he2 hnl hhl).fh, HMM.out.ne⟩
          have hm2' : MapN w2 (w.heap.size + 1) N now := by simpa using hm2
          have hmN : MapN w3 (w.heap.size + 1) N now := hm2'.kept (Kept.of_grown hg3 (Kept.refl _ (fun k => k = bh)) (fun k e => .inl (by cases e; rfl))) (by omega)
          have hFr : Fro w3 (updF f (w.heap.size + 1) now) (N + 1) := ((HFF.out.kept hk3.kept (fun b l hb e => by subst e; rw [HMM.out.fh] at hb; cases hb)).upd hmN).mono (Nat.le_succ N)
          have hc21 := hPM.c1
          have hc22 := hPM.c2
          have hc11 := (HMM.out.kept hk02.kept (fun e => e) (fun e => e) (fun e => e)).c1
          have hc12 := (HMM.out.kept hk02.kept (fun e => e) (fun e => e) (fun e => e)).c2
          have hb3 : w3.heap[w.heap.size]? = some (.cells (ansC 0 false 0 false 0 (.slice none 0 0) 0) 26 (0, 0)) :=
            (hg3.block w.heap.size (Nat.lt_of_lt_of_le (by simp) hb2.size) (by simp; omega)).trans ((hb2.block w.heap.size (by simp)).trans HBLK.out)
          have HE2 := Lib.hid he2
          have HK3 := Lib.hid hk3
          have HPM := Lib.hid hPM
          have HFr := Lib.hid hFr
          have HB3 := Lib.hid hb3
          clear he2 hk02 hk3 hPM hmN hFr hb3 hm2 hm2' hb2 hs2 ho3 hg3 hne3))
      go_wp2_with (first | ((with_reducible refine gate_store (t := 26) (p := 4) rfl ?_); (refine wpList_store_row rfl 26 (.tmp 4) (.tmp 31) rfl w.heap.size (ansC 0 false 0 false hdl (.slice none 0 0) 0) rfl rfl 26 _ HB3.out (by kernel_rfl) rfl (ansC_one _ _ _ _ _ _ _ _ _) ?_)))
      refine bodyPost_ret (res_ans rfl _ rfl (setRow_heap _ _ _ _ _ _ HB3.out)) rfl ⟨by unfold snapAns; rw [hs']; rfl, by unfold snapHeld; rw [if_neg hs, if_neg h0]; exact ⟨_, HE2.out, HPM.out.kept (Kept_row _ _ _) (by omega) (by omega) (by omega), HFr.out.kept (Kept_row _ _ _) (fun b l hb e => by subst e; unfold updF at hb; rw [if_neg (by omega), HFF.out.lt (Nat.le_refl _)] at hb; cases hb), HK3.out.then_ (KO.row _ _ _) (fun k e => .inr (by omega))⟩⟩
end Go.Proofs.Ytngocadnbpdnoaa.Mo
namespace Go.Proofs.Ytngocadnbpdnoaa.Mo
open Go Go.Maps Go.RowKit Go.Proofs.Ytngocadnbpdnoaa.Srt Go.Proofs.Ytngocadnbpdnoaa.Q Go.Proofs.YtngocadnbpdnoaaW.PrintWords Go.Proofs.YtngocadnbpdnoaaW.PrintLast Go.Proofs.YtngocadnbpdnoaaW.PrintMore
set_option linter.unusedVariables false
set_option linter.unusedSimpArgs false
theorem MapN.len {w : World} {b n : Nat} {l : PL} (h : MapN w b n l) : l.length ≤ n := by have := h.1.size_le; unfold dmap at this; rwa [size_mp] at this
theorem HeldN.len {w : World} {f : Nat → Option PL} {b n : Nat} {l : List (Int × PL)} (h : HeldN w f b n l) : l.length ≤ n := by have := h.1.size_le; rwa [size_mp] at this
set_option maxHeartbeats 4000000 in
theorem content_c (f : Nat → Option PL) (N gp bn bh : Nat) (multi : Int) (now : PL) (held : List (Int × PL)) (w : World) (hM : PM w f N gp bn bh multi now held) (hN : N ≤ 1099511627776) :
    Calls Try.prog 17 #[.pointer (some ⟨gp, 0, none⟩)] w fun e w' => ∃ v : Value, e = .returned v ∧ kSP.R 90 w' w.heap.size (fun _ => True) v (toS now) ∧ Below w.heap.size w w' := by
  have c1 := hM.c1
  have cS := sorted_c bn N now w hM.now (by have := hM.now.len; omega)
  have HM := Lib.hid hM
  clear hM
  go_enter Try.func17, Try.ntmps17
  go_wp2_with (go_at_call 38; refine cS.mono ?_; rintro e w1 ⟨v, rfl, hR, hb⟩; obtain ⟨A, c, rfl⟩ := Kd.R_slice hR)
  go_ret
  exact ⟨_, rfl, hR, hb⟩
set_option maxHeartbeats 4000000 in
theorem handles_c (f : Nat → Option PL) (N gp bn bh : Nat) (multi : Int) (now : PL) (held : List (Int × PL)) (w : World) (hM : PM w f N gp bn bh multi now held) (hN : N ≤ 1099511627776) :
    Calls Try.prog 27 #[.pointer (some ⟨gp, 0, none⟩)] w fun e w' => ∃ v : Value, e = .returned v ∧ (Kd.int .u64).R 23 w' w.heap.size (fun _ => True) v (held.map (·.1)) ∧ Below w.heap.size w w' := by
  have c2 := hM.c2
  have h0 := hM.held.kept (Kept.of_below (below_alloc (Below.refl _ w) (.cells #[.map (some bh)] 98)) (fun _ => False)) (fun e => e)
  have cS := sortedB_c w.heap.size bh N held (RH f) (w.alloc (.cells #[.map (some bh)] 98)) (by simp) (by simp) h0.1 h0.2 (by have := hM.held.len; omega)
  have HM := Lib.hid hM
  clear hM h0
  go_enter Try.func27, Try.ntmps27
  go_wp2_with (first
    | (go_at_call 58; refine (keysB_c _ _).mono ?_; rintro e w' ⟨rfl, rfl⟩)
    | (go_at_call 57; refine cS.mono ?_; rintro e w1 ⟨v, rfl, hR, hb⟩; obtain ⟨A, c, rfl⟩ := Kd.R_slice hR))
  go_ret
  exact ⟨_, rfl, by simpa using Kd.R_lower (base' := w.heap.size) hR (by simp), (below_alloc (Below.refl _ w) _).trans (hb.mono (by simp))⟩
set_option maxHeartbeats 4000000 in
theorem held_c (f : Nat → Option PL) (N gp bn bh : Nat) (multi : Int) (now : PL) (held : List (Int × PL)) (k : Int) (w : World) (hM : PM w f N gp bn bh multi now held) (hF : Fro w f N) (hk : u64wf k) (hN : N ≤ 1099511627776) :
    Calls Try.prog 16 #[.pointer (some ⟨gp, 0, none⟩), .int .u64 k] w fun e w' => ∃ v : Value, e = .returned (.tuple #[v, .bool (fnd held k).isSome]) ∧ kSP.R 90 w' w.heap.size (fun _ => True) v (toS ((fnd held k).getD [])) ∧ Below w.heap.size w w' := by
  have c2 := hM.c2
  obtain ⟨v, hv, hrun⟩ := held_look hM.held hk
  rcases hv with ⟨hn, rfl⟩ | ⟨b, l, hn, rfl, hfb⟩
  · have cS := sorted_nil_c w
    rw [hn] at hrun ⊢
    have HM := Lib.hid hM
    clear hM hF hk hn
    go_enter Try.func16, Try.ntmps16
    go_wp2_with (go_at_call 38; refine cS.mono ?_; rintro e w1 ⟨rfl, hb⟩)
    go_ret2
    exact ⟨_, rfl, Kd.R_nil _ _ _ _ _, hb⟩
  · have hl := hF b l hfb
    have cS := sorted_c b N l w hl (by have := hl.len; omega)
    rw [hn] at hrun ⊢
    have HM := Lib.hid hM
    clear hM hF hk hn hl hfb
    go_enter Try.func16, Try.ntmps16
    go_wp2_with (go_at_call 38; refine cS.mono ?_; rintro e w1 ⟨v, rfl, hR, hb⟩; obtain ⟨A, c, rfl⟩ := Kd.R_slice hR)
    go_ret2
    exact ⟨_, rfl, hR, hb⟩
set_option maxHeartbeats 4000000 in
theorem new_c (multi : Int) (f : Nat → Option PL) (w : World) (hF : Fro w f 0) (hm : 1 ≤ multi) (hm2 : multi ≤ 1024) :
    Calls Try.prog 14 #[.int .i64 multi] w fun e w' => ∃ gp bn bh, e = .returned (.tuple #[.pointer (some ⟨gp, 0, none⟩), .int .i64 0]) ∧ PM w' f 0 gp bn bh multi [] [] ∧ Below w.heap.size w w' ∧ w.heap.size ≤ gp ∧ w.heap.size ≤ bn ∧ w.heap.size ≤ bh := by
  have hmm := @run_makeMap Try.prog
  have h1 : ¬ multi < 1 := by omega
  have h2 : ¬ 1024 < multi := by omega
  have d1 : decide (multi < 1) = false := decide_eq_false h1
  have d2 : decide (1024 < multi) = false := decide_eq_false h2
  have HF := Lib.hid hF
  clear hF h1 h2
  go_enter Try.func14, Try.ntmps14
  go_wp2
  go_ret2
  have b1 : Below (w.alloc (Obj.map #[] 0)).heap.size (w.alloc (Obj.map #[] 0)) (((w.alloc (Obj.map #[] 0)).alloc (Obj.map #[] 0)).alloc (Obj.cells #[Value.int IntKind.i64 multi, Value.map (some w.heap.size), Value.map (some (w.heap.size + 1))] 100)) := below_alloc (below_alloc (Below.refl _ _) _) _
  have b2 : Below ((w.alloc (Obj.map #[] 0)).alloc (Obj.map #[] 0)).heap.size ((w.alloc (Obj.map #[] 0)).alloc (Obj.map #[] 0)) (((w.alloc (Obj.map #[] 0)).alloc (Obj.map #[] 0)).alloc (Obj.cells #[Value.int IntKind.i64 multi, Value.map (some w.heap.size), Value.map (some (w.heap.size + 1))] 100)) := below_alloc (Below.refl _ _) _
  have o1 : MapN (w.alloc (Obj.map #[] 0)) w.heap.size 0 [] := ⟨World.ownsMap_made _ _ _ _, List.Pairwise.nil⟩
  have o2 : HeldN ((w.alloc (Obj.map #[] 0)).alloc (Obj.map #[] 0)) f (w.heap.size + 1) 0 [] := ⟨by have := World.ownsMap_made (w.alloc (Obj.map #[] 0)) Try.prog 23 (RH f); simpa [mp] using this, List.Pairwise.nil⟩
  refine ⟨w.heap.size + 1 + 1, w.heap.size, w.heap.size + 1, rfl, ⟨?_, o1.kept (Kept.of_below b1 (fun _ => False)) (fun e => e), o2.kept (Kept.of_below b2 (fun _ => False)) (fun e => e), HF.out.lt (Nat.le_refl _), HF.out.lt (by omega), by omega⟩, below_alloc (below_alloc (below_alloc (Below.refl _ _) _) _) _, by omega, by omega, by omega⟩
  have := heap_alloc_new ((w.alloc (Obj.map #[] 0)).alloc (Obj.map #[] 0)) (Obj.cells #[Value.int IntKind.i64 multi, Value.map (some w.heap.size), Value.map (some (w.heap.size + 1))] 100)
  simpa using this
end Go.Proofs.Ytngocadnbpdnoaa.Mo
namespace Go.Proofs.Ytngocadnbpdnoaa.Mo
open Go Go.Maps Go.RowKit Go.Proofs.Ytngocadnbpdnoaa.Srt Go.Proofs.Ytngocadnbpdnoaa.Q Go.Proofs.YtngocadnbpdnoaaW.PrintWords Go.Proofs.YtngocadnbpdnoaaW.PrintLast Go.Proofs.YtngocadnbpdnoaaW.PrintMore
set_option linter.unusedVariables false
set_option linter.unusedSimpArgs false
/-- A model but for what is held. -/
structure PB (w : World) (f : Nat → Option PL) (N gp bn bh : Nat) (multi : Int) (now : PL) : Prop where
  blk : w.heap[gp]? = some (.cells #[.int .i64 multi, .map (some bn), .map (some bh)] 100 (0, 0))
  now : MapN w bn N now
  fn : f bn = none
  fh : f bh = none
  ne : bn ≠ bh
theorem PB.kept {w W : World} {S : Nat → Prop} {f : Nat → Option PL} {N gp bn bh : Nat} {multi : Int} {now : PL} (h : PB w f N gp bn bh multi now) (hk : Kept w W S) (h1 : ¬ S gp) (h2 : ¬ S bn) : PB W f N gp bn bh multi now :=
  ⟨(hk.2 gp (Array.getElem?_eq_some_iff.1 h.blk).1 h1).trans h.blk, h.now.kept hk h2, h.fn, h.fh, h.ne⟩
theorem PB.ext {w : World} {B : Nat} {f f' : Nat → Option PL} {N gp bn bh : Nat} {multi : Int} {now : PL} (h : PB w f N gp bn bh multi now) (he : Ext B f f') (h2 : bn < B) (h3 : bh < B) : PB w f' N gp bn bh multi now :=
  ⟨h.blk, h.now, by
    cases hf : f' bn with
    | none => rfl
    | some l => rcases he.2 bn l hf with e | e; rw [h.fn] at e; cases e; omega, by
    cases hf : f' bh with
    | none => rfl
    | some l => rcases he.2 bh l hf with e | e; rw [h.fh] at e; cases e; omega, h.ne⟩
theorem PB.c2 {w : World} {f : Nat → Option PL} {N gp bn bh : Nat} {multi : Int} {now : PL} (h : PB w f N gp bn bh multi now) : w.cell? ⟨gp, 2, none⟩ = some (.map (some bh)) := by rw [blk_cell h.blk]; rfl
theorem PB.ng {w : World} {f : Nat → Option PL} {N gp bn bh n : Nat} {multi : Int} {now : PL} {hs : List (Int × PL)} (h : PB w f N gp bn bh multi now) (hh : HeldN w f bh n hs) : gp ≠ bh := fun e => by
  have h1 := h.blk
  rw [e] at h1
  obtain ⟨⟨es, cl, h2, _⟩, _⟩ := hh
  rw [h1] at h2; cases h2
theorem held_val {f : Nat → Option PL} {held : List (Int × PL)} {k : Int} {c : Value} {y : DataW Unit × List MemPlace} (hv : RH f c = some y) (hat : ∀ zd, (mp dmap held).atKey (.int .u64 k) zd = y.1) :
    ∃ b l, fnd held k = some l ∧ c = .map (some b) ∧ f b = some l := by
  have h0 := hat .nil
  have hv' : RH f c = some ((mp dmap held).atKey (.int .u64 k) .nil, y.2) := by rw [h0]; exact hv
  rcases held_at hv' with ⟨hn, rfl⟩ | ⟨b, l, h1, h2, h3⟩
  · exfalso
    have h1 := hat (.lit (.int .u64 5))
    rw [atKey_mp, hn] at h0 h1
    rw [← h0] at h1
    cases h1
  · exact ⟨b, l, h1, h2, h3⟩
theorem grown_of_below {w W : World} (row : Option Nat) (h : Below w.heap.size w W) : w.grownBy W row := ⟨h.os, h.tape, h.output, h.size, fun i hi _ => h.block i hi⟩
theorem made_held (w : World) (f : Nat → Option PL) : HeldN (w.alloc (Obj.map #[] 0)) f w.heap.size 0 [] := ⟨World.ownsMap_made _ _ _ _, List.Pairwise.nil⟩
theorem fork_way1 {w w2 : World} {f : Nat → Option PL} {N : Nat} {multi : Int} {now : PL} (hF : Fro w f N) (hB : Below w.heap.size w w2) (hm : MapN w2 w.heap.size N now) (hs : w.heap.size < w2.heap.size) :
    PB ((w2.alloc (Obj.map #[] 0)).alloc (Obj.cells #[.int .i64 multi, .map (some w.heap.size), .map (some w2.heap.size)] 100)) f N (w2.heap.size + 1) w.heap.size w2.heap.size multi now ∧
    HeldN ((w2.alloc (Obj.map #[] 0)).alloc (Obj.cells #[.int .i64 multi, .map (some w.heap.size), .map (some w2.heap.size)] 100)) f w2.heap.size 0 [] ∧
    Below w.heap.size w ((w2.alloc (Obj.map #[] 0)).alloc (Obj.cells #[.int .i64 multi, .map (some w.heap.size), .map (some w2.heap.size)] 100)) := by
  have b2 : Below w2.heap.size w2 ((w2.alloc (Obj.map #[] 0)).alloc (Obj.cells #[.int .i64 multi, .map (some w.heap.size), .map (some w2.heap.size)] 100)) := below_alloc (below_alloc (Below.refl _ _) _) _
  have b3 : Below (w2.alloc (Obj.map #[] 0)).heap.size (w2.alloc (Obj.map #[] 0)) ((w2.alloc (Obj.map #[] 0)).alloc (Obj.cells #[.int .i64 multi, .map (some w.heap.size), .map (some w2.heap.size)] 100)) := below_alloc (Below.refl _ _) _
  refine ⟨⟨?_, hm.kept (Kept.of_below b2 (fun _ => False)) (fun e => e), hF.lt (Nat.le_refl _), hF.lt (by omega), by omega⟩, (made_held w2 f).kept (Kept.of_below b3 (fun _ => False)) (fun e => e), hB.trans (b2.mono hB.size)⟩
  have := heap_alloc_new (w2.alloc (Obj.map #[] 0)) (Obj.cells #[.int .i64 multi, .map (some w.heap.size), .map (some w2.heap.size)] 100)
  simpa using this
theorem fork_way2 {w w2 : World} {f : Nat → Option PL} {N : Nat} {multi : Int} {now : PL} (hF : Fro w f N) (hB : Below w.heap.size w w2) (hB2 : Below (w.alloc (Obj.map #[] 0)).drew.heap.size (w.alloc (Obj.map #[] 0)).drew w2) (hm : MapN w2 (w.alloc (Obj.map #[] 0)).drew.heap.size N now) (hs : (w.alloc (Obj.map #[] 0)).drew.heap.size < w2.heap.size) :
    PB (w2.alloc (Obj.cells #[.int .i64 multi, .map (some (w.heap.size + 1)), .map (some w.heap.size)] 100)) f N w2.heap.size (w.heap.size + 1) w.heap.size multi now ∧
    HeldN (w2.alloc (Obj.cells #[.int .i64 multi, .map (some (w.heap.size + 1)), .map (some w.heap.size)] 100)) f w.heap.size 0 [] ∧
    Below w.heap.size w (w2.alloc (Obj.cells #[.int .i64 multi, .map (some (w.heap.size + 1)), .map (some w.heap.size)] 100)) := by
  have e1 : (w.alloc (Obj.map #[] 0)).drew.heap.size = w.heap.size + 1 := by simp
  rw [e1] at hm hs
  have b2 : Below w2.heap.size w2 (w2.alloc (Obj.cells #[.int .i64 multi, .map (some (w.heap.size + 1)), .map (some w.heap.size)] 100)) := below_alloc (Below.refl _ _) _
  refine ⟨⟨heap_alloc_new w2 _, hm.kept (Kept.of_below b2 (fun _ => False)) (fun e => e), hF.lt (by omega), hF.lt (Nat.le_refl _), by omega⟩, ((made_held w f).kept (W := w2) (Kept.of_below (w := (w.alloc (Obj.map #[] 0)).drew) hB2 (fun _ => False)) (fun e => e)).kept (Kept.of_below b2 (fun _ => False)) (fun e => e), hB.trans (b2.mono hB.size)⟩
set_option maxRecDepth 100000 in
set_option maxHeartbeats 8000000 in
theorem fork_c (f : Nat → Option PL) (N gp bn bh : Nat) (multi : Int) (now : PL) (held : List (Int × PL)) (w : World) (hM : PM w f N gp bn bh multi now held) (hF : Fro w f N) (hN : N ≤ 1099511627776) :
    Calls Try.prog 30 #[.pointer (some ⟨gp, 0, none⟩)] w fun e w' => ∃ gq bm bi, e = .returned (.pointer (some ⟨gq, 0, none⟩)) ∧
      ∃ f', Ext w.heap.size f f' ∧ PM w' f' N gq bm bi multi now held ∧ Fro w' f' N ∧ Below w.heap.size w w' ∧ w.heap.size ≤ gq ∧ w.heap.size ≤ bm ∧ w.heap.size ≤ bi := by
  have hmm := @run_makeMap Try.prog
  have hgl := hM.gl
  have hnl := hM.now.lt
  have hhl := hM.held.1.lt
  have c0 := hM.c0
  have c1 := hM.c1
  have c2 := hM.c2
  have HMM := Lib.hid hM
  have HFF := Lib.hid hF
  clear hM hF
  go_enter Try.func30, Try.ntmps30
  go_upto_region 3 with fail
  go_cut [3] (fun v3 w1 => ∃ gq bm bi, v3 = .pointer (some ⟨gq, 0, none⟩) ∧ Hid (PB w1 f N gq bm bi multi now ∧ HeldN w1 f bi 0 [] ∧ Below w.heap.size w w1) ∧ w.heap.size ≤ gq ∧ w.heap.size ≤ bm ∧ w.heap.size ≤ bi)
  case first =>
    go_region_held3 (fun w' => w'.cell? ⟨gp, 0, none⟩ = some (.int .i64 multi) ∧ w'.cell? ⟨gp, 1, none⟩ = some (.map (some bn)))
      (first
        | go_keep
        | (go_split_ands
           refine ⟨?_, ?_⟩ <;> assumption))
      ((go_at_call 79; refine (clone_c bn N now _ (MapN.below HMM.out.now (by first | exact below_drew (Below.refl _ _) | exact below_alloc (below_drew (Below.refl _ _)) _))).mono ?_; rintro e w2 ⟨rfl, hm2, hb2, hs2⟩
        have hB : Below w.heap.size w w2 := Below.trans (by first | exact below_drew (Below.refl _ _) | exact below_alloc (below_drew (Below.refl _ _)) _) (hb2.mono (by simp))
        have hc0 := (hB.cell (p := ⟨gp, 0, none⟩) hgl).trans c0
        have hc1 := (hB.cell (p := ⟨gp, 1, none⟩) hgl).trans c1
        have HB := Lib.hid hB
        have HB2 := Lib.hid hb2
        have HM2 := Lib.hid hm2
        have HS2 := Lib.hid hs2
        clear hB hb2 hm2 hs2))
    all_goals (go_wp2_with fail)
    all_goals go_meet
    case rel => exact ⟨_, _, _, rfl, Lib.hid (fork_way1 HFF.out HB.out HM2.out HS2.out), by have := HB.out.size; omega, Nat.le_refl _, HB.out.size⟩
    case rel => exact ⟨_, _, _, rfl, Lib.hid (fork_way2 HFF.out HB.out HB2.out HM2.out HS2.out), HB.out.size, Nat.le_succ _, Nat.le_refl _⟩
  case rest =>
    obtain ⟨gq, bm, bi, rfl, HP, hq1, hq2, hq3⟩ := hcut
    have cc2 := (HP.out.2.2.cell (p := ⟨gp, 2, none⟩) hgl).trans c2
    have hown := Lib.hid (HMM.out.held.kept (Kept.of_below HP.out.2.2 (fun _ => False)) (fun e => e))
    go_wp2_with (first
      | (at_range; refine wpList_range_own _ rfl _ 98 rfl 23 97 lawU Try.underlying98 (RH f) bh N (mp dmap held) rfl hown.out.1 ?_; intro w0 hrg0 hg0 hs0)
      | fail)
    go_frame
    have hk0 : Kept wc w0 (fun _ => False) := Kept.of_grown hg0 (Kept.refl _ _) (fun k e => by cases e)
    have R0 := Lib.hid (And.intro (HP.out.1.kept hk0 (fun e => e) (fun e => e)) (And.intro (HP.out.2.1.kept hk0 (fun e => e)) (And.intro (HFF.out.kept ((Kept.of_below HP.out.2.2 (fun _ => False)).then_ hk0 (fun _ e => e.elim)) (fun _ _ _ e => e)) (HP.out.2.2.grown hg0 HP.out.2.2.size (fun j hj => by cases hj)))))
    have HS0 := Lib.hid hs0
    have HN1 := Lib.hid HP.out.2.2.size
    clear hs0 hk0 hg0 cc2 HP hown
    go_loopw [5] (fun _ wr => ∃ (left : Lit → Bool) (cnt : Nat) (hs : List (Int × PL)) (f' : Nat → Option PL), wr.ranges Try.prog 23 (RH f) bh wc.heap.size N (mp dmap held) left cnt ∧ cnt ≤ held.length ∧ Hid (Agree (mp dmap hs) (mp dmap held) left ∧ PB wr f' N gq bm bi multi now ∧ HeldN wr f' bi (held.length - cnt) hs ∧ Fro wr f' N ∧ Ext w.heap.size f f' ∧ Below w.heap.size w wr ∧ wc.heap.size < wr.heap.size))
      (fun _ wr => wr.rangeLeft bh wc.heap.size)
    case atStart =>
      exact ⟨_, _, [], f, hrg0, Nat.le_of_eq (size_mp _), Lib.hid ⟨agree_start _, R0.out.1, R0.out.2.1.mono (Nat.zero_le _), R0.out.2.2.1, Ext.refl _ _, R0.out.2.2.2, by have := HS0.out; omega⟩⟩
    case round =>
      obtain ⟨left, cnt, hs, f', hrg, hcnt, HI⟩ := hrel
      go_wp2_with (first
        | (at_next; refine wpList_next_ranges _ rfl _ rfl 23 lawU (RH f) (Value.int .u64) id (fun key kl hk => by obtain ⟨x, hx, _⟩ := Maps.keyOf_int_inv Try.underlying23 hk; exact ⟨x, hx⟩) (fun v _ _ => ⟨v, rfl⟩) bh wc.heap.size N _ _ _ rfl hrg ?_ ?_)
        | fail)
      · intro hc0 hl0
        go_wp2
        go_ret
        subst hc0
        obtain ⟨hA, hP, hH, hFr, hE, hB, _⟩ := HI.out
        have e := mp_inj dmap_inj (agree_end hA hl0 (hH.1.canon lawU) (HMM.out.held.1.canon lawU))
        subst e
        exact ⟨gq, bm, bi, rfl, f', hE, ⟨hP.blk, hP.now, hH.mono (by have := HMM.out.held.len; omega), hP.fn, hP.fh, hP.ne⟩, hFr, hB, hq1, hq2, hq3⟩
      · intro x c kl yd yp w1 cnt1 hkey hlk hv hat hrg1 hlt hg1 hs1 hen
        obtain ⟨x', ex, rfl, hwx⟩ := Maps.keyOf_int_inv Try.underlying23 hkey
        cases ex
        obtain ⟨b, l, hfd, rfl, hfb⟩ := held_val (y := (yd, yp)) hv hat
        have hat' : ∀ zd, (mp dmap held).atKey (.int .u64 x) zd = dmap l := fun zd => by rw [atKey_mp, hfd]
        have hk1 : Kept wr w1 (fun k => k = wc.heap.size) := Kept.of_grown hg1 (Kept.refl _ _) (fun k e => .inl (by cases e; rfl))
        obtain ⟨hA, hP, hH, hFr, hE, hB, hws⟩ := HI.out
        have hkf : ∀ b' l', f' b' = some l' → ¬ b' = wc.heap.size := fun b' l' hb e => by
          subst e
          have h1 := (hFr _ _ hb).1
          obtain ⟨es, cl, h2, _⟩ := h1
          obtain ⟨es', cl', since, seen, c0', _, _, _, _, h3, _⟩ := hrg
          rw [h2] at h3; cases h3
        have hgq : gq ≠ wc.heap.size := fun e => by
          have h2 := hP.blk
          obtain ⟨es', cl', since, seen, c0', _, _, _, _, h3, _⟩ := hrg
          rw [← e, h2] at h3; cases h3
        have hbm : bm ≠ wc.heap.size := fun e => by
          obtain ⟨es, cl, h2, _⟩ := hP.now.1
          obtain ⟨es', cl', since, seen, c0', _, _, _, _, h3, _⟩ := hrg
          rw [← e, h2] at h3; cases h3
        have hbi : bi ≠ wc.heap.size := fun e => by
          obtain ⟨es, cl, h2, _⟩ := hH.1
          obtain ⟨es', cl', since, seen, c0', _, _, _, _, h3, _⟩ := hrg
          rw [← e, h2] at h3; cases h3
        have hgi := hP.ng hH
        have hP1 := hP.kept hk1 hgq hbm
        have hH1 := hH.kept hk1 hbi
        have hF1 := hFr.kept hk1 hkf
        have hB1 : Below w.heap.size w w1 := hB.grown hg1 hB.size (fun j hj => by cases hj; exact HN1.out)
        have hcq := hP1.c2
        have hml := Lib.hid (hF1 b l (hE.1 b l hfb))
        have hgl1 : gq < w1.heap.size := (Array.getElem?_eq_some_iff.1 hP1.blk).1
        have hml1 : bm < w1.heap.size := hP1.now.lt
        have hil1 : bi < w1.heap.size := hH1.1.lt
        have hbl1 : bh < w1.heap.size := hrg1.owns.lt
        have hrl1 : wc.heap.size < w1.heap.size := hrg1.lt
        have hbhi : bh ≠ bi := by omega
        have hwl1 := hB1.size
        have HP1 := Lib.hid hP1
        have HH1 := Lib.hid hH1
        have HF1 := Lib.hid hF1
        have HB1 := Lib.hid hB1
        have HA := Lib.hid hA
        have HE := Lib.hid hE
        have HR1 := Lib.hid hrg1
        have HG1 := Lib.hid hg1
        have HAT := Lib.hid hat'
        have HWX := Lib.hid hwx
        have HL := Lib.hid hlt
        have HRG := Lib.hid hrg
        clear hA hP hH hFr hE hB hws hkf hgq hbm hP1 hH1 hF1 hB1 hrg1 hg1 hat hat' hv hlk hk1 hwx hkey hfb hfd hrg hlt hs1
        go_wp2_with fail
        go_region_held3 (fun w' => w'.cell? ⟨gq, 2, none⟩ = some (.map (some bi)))
          (first
            | go_keep
            | assumption)
          ((go_at_call 79; refine (clone_c b N l w1.drew (hml.out.below (below_drew (Below.refl w1.heap.size w1)))).mono ?_; rintro e w2 ⟨rfl, hm2, hb2, hs2⟩
            have hbw : Below w1.heap.size w1 w2 := (below_drew (Below.refl w1.heap.size w1)).trans hb2
            have hm2' : MapN w2 w1.heap.size N l := hm2
            have hs2' : w1.heap.size < w2.heap.size := hs2
            have he2 := ext_updF (f := f') (B := w1.heap.size) (b := w1.heap.size) (l := l) (Nat.le_refl _) (HF1.out.lt (Nat.le_refl _))
            have hk02 : Kept w1 w2 (fun _ => False) := Kept.of_below hbw (fun _ => False)
            obtain ⟨w3, hrun3, ho3, hg3⟩ := held_put (f := updF f' w1.heap.size l) ((HH1.out.kept hk02 (fun e => e)).ext he2) HWX.out (bl := w1.heap.size) (l := l) (by simp [updF]) (by have := HMM.out.held.len; unfold maxLen; omega)
            have hk3 : Kept w1 w3 (fun k => k = bi) := Kept.of_grown hg3 (hk02.mono (fun _ e => e.elim)) (fun k e => .inl (by cases e; rfl))
            have hP3 : PB w3 (updF f' w1.heap.size l) N gq bm bi multi now := (HP1.out.kept hk3 hgi HP1.out.ne).ext he2 hml1 hil1
            have hmN : MapN w3 w1.heap.size N l := hm2'.kept (Kept.of_grown hg3 (Kept.refl _ (fun k => k = bi)) (fun k e => .inl (by cases e; rfl))) (by omega)
            have hF3 : Fro w3 (updF f' w1.heap.size l) N := (HF1.out.kept hk3 (fun b l hb e => by subst e; rw [HP1.out.fh] at hb; cases hb)).upd hmN
            have hB3 : Below w.heap.size w w3 := (HB1.out.trans (hbw.mono hwl1)).grown hg3 (Nat.le_trans hwl1 (Nat.le_of_lt hs2')) (fun j hj => by cases hj; exact hq3)
            have hR3 := HR1.out.kept ((grown_of_below (some bi) hbw).trans hg3) (fun e => hbhi (Option.some.inj e)) (fun e => hbi (Option.some.inj e).symm)
            have hcq2 := (HP1.out.kept hk02 (fun e => e) (fun e => e)).c2
            have hcq3 := hP3.c2
            have HP3 := Lib.hid hP3
            have HF3 := Lib.hid hF3
            have HB3 := Lib.hid hB3
            have HR3 := Lib.hid hR3
            have HO3 := Lib.hid ho3
            have HE3 := Lib.hid he2
            have HS3 := Lib.hid (Nat.lt_of_lt_of_le hs2' hg3.size)
            clear hbw hm2 hm2' hs2 hs2' he2 hk02 hk3 hP3 hmN hF3 hB3 hR3 ho3 hg3 hb2))
        go_wp2_with fail
        go_roundw
        case rel =>
          exact ⟨_, cnt1, put hs x l, updF f' w1.heap.size l, HR3.out, by have := HL.out; omega, Lib.hid ⟨by have := agree_step (kl := .int .u64 x) HA.out ⟨_, rfl⟩ trivial HAT.out; rw [put_mp _ _ _ HH1.out.2] at this; exact this, HP3.out, HO3.out.mono (by have := HL.out; omega), HF3.out, HE.out.trans HE3.out hwl1, HB3.out, by have := HS3.out; omega⟩⟩
        case measure => rw [HR3.out.left_eq, HRG.out.left_eq]; exact HL.out
end Go.Proofs.Ytngocadnbpdnoaa.Mo
namespace Go.Proofs.Ytngocadnbpdnoaa.Mo
open Go Go.Maps Go.RowKit Go.Proofs.Ytngocadnbpdnoaa.Srt Go.Proofs.Ytngocadnbpdnoaa.Q Go.Proofs.YtngocadnbpdnoaaW.PrintWords Go.Proofs.YtngocadnbpdnoaaW.PrintLast Go.Proofs.YtngocadnbpdnoaaW.PrintMore
set_option linter.unusedVariables false
set_option linter.unusedSimpArgs false
def eq64 : DataW Unit → DataW Unit → Bool
  | .lit (.int _ a), .lit (.int _ b) => a == b
  | _, _ => false
theorem eq64_lit (x y : Int) : eq64 (lit64 x) (lit64 y) = decide (x = y) := by
  simp only [eq64, lit64]
  by_cases h : x = y <;> simp [h]
theorem eqd_dmap {l l' : PL} (ha : Asc l) (hb : Asc l') : Lib.equalFuncD eq64 (dmap l) (dmap l') = decide (l = l') := equal_mp eq64_lit ha hb
abbrev RU : Value → Option (DataW Unit × List MemPlace) → Prop := fun v o => plainElem (H := Unit) Try.prog 23 v = o
theorem equal_c (p1 p2 : Option Nat) (D1 D2 : DataW Unit) (w : World) (h1 : SrcOf Try.prog 23 (plainElem (H := Unit) Try.prog 23) w p1 D1) (h2 : SrcOf Try.prog 23 (plainElem (H := Unit) Try.prog 23) w p2 D2) :
    Calls Try.prog 80 #[.map p1, .map p2] w fun e w' => e = .returned (.bool (Lib.equalFuncD eq64 D1 D2)) ∧ w.grownBy w' none :=
  AnyEq.maps_Equal_opt EqualA lawU _ _ eq64 p1 p2 D1 D2 w h1 h2 (.int .u64 0) zeroU (.lit (.int .u64 0)) [] (plainElem_int Try.underlying23 (by decide)) (fun W x y xd yd xp yp hx hy => by
    obtain ⟨a, rfl, hz, -⟩ := plainElem_int_inv Try.underlying23 hx
    obtain ⟨b, rfl, hz2, -⟩ := plainElem_int_inv Try.underlying23 hy
    obtain ⟨rfl, rfl⟩ := Prod.mk.inj hz
    obtain ⟨rfl, rfl⟩ := Prod.mk.inj hz2
    have h := NeqAt.int Try.prog 23 .u64
    exact ⟨h.1 a b W, fun o o' => h.2 .neq o o' a b W⟩)
theorem same1_c (p1 p2 : Option Nat) (D1 D2 : DataW Unit) (w : World) (h1 : SrcOf Try.prog 23 (plainElem (H := Unit) Try.prog 23) w p1 D1) (h2 : SrcOf Try.prog 23 (plainElem (H := Unit) Try.prog 23) w p2 D2) :
    Calls Try.prog 82 #[.map p1, .map p2] w fun e w' => e = .returned (.bool (Lib.equalFuncD eq64 D1 D2)) ∧ w.grownBy w' none := by
  have c := equal_c p1 p2 D1 D2 w h1 h2
  clear h1 h2
  obtain ⟨r, hr⟩ : ∃ r, r = Lib.equalFuncD eq64 D1 D2 := ⟨_, rfl⟩
  rw [← hr] at c ⊢
  clear hr
  go_enter Try.func82, Try.ntmps82
  go_wp2_with (go_at_call 80; refine c.mono ?_; rintro e w1 ⟨rfl, hg⟩)
  go_ret
  exact ⟨rfl, hg⟩
theorem RH_inv {f : Nat → Option PL} {v : Value} {z : DataW Unit × List MemPlace} (h : RH f v = some z) : (v = .map none ∧ z = (.nil, [])) ∨ ∃ b l, v = .map (some b) ∧ f b = some l ∧ z = (dmap l, []) := by
  unfold RH at h
  split at h
  · left; exact ⟨rfl, (Option.some.inj h).symm⟩
  · rename_i b
    cases hb : f b with
    | none => rw [hb] at h; cases h
    | some l => rw [hb] at h; exact .inr ⟨b, l, rfl, hb, (Option.some.inj h).symm⟩
  · cases h
theorem src_of {w W : World} {f : Nat → Option PL} {N : Nat} (hF : Fro w f N) (hg : w.grownBy W none) {v : Value} {z : DataW Unit × List MemPlace} (h : RH f v = some z) : ∃ p, v = .map p ∧ SrcOf Try.prog 23 (plainElem (H := Unit) Try.prog 23) W p z.1 := by
  rcases RH_inv h with ⟨rfl, rfl⟩ | ⟨b, l, rfl, hb, rfl⟩
  · exact ⟨none, rfl, .inl ⟨rfl, rfl⟩⟩
  · exact ⟨some b, rfl, .inr ⟨b, N, rfl, (hF b l hb).1.kept hg (by simp)⟩⟩
theorem HeldN.blk {w : World} {f : Nat → Option PL} {b n : Nat} {hs : List (Int × PL)} (h : HeldN w f b n hs) {q : Int × PL} (hq : q ∈ hs) : ∃ b, f b = some q.2 := by
  obtain ⟨v, hv, -⟩ := held_look h (k := q.1) (wf_keys h.1 hq)
  have hf := fnd_of_mem h.2 hq
  rcases hv with ⟨hn, -⟩ | ⟨b', l, hl, -, hfb⟩
  · rw [hf] at hn; cases hn
  · rw [hf] at hl; obtain rfl := Option.some.inj hl; exact ⟨b', hfb⟩
theorem equalF_c (f : Nat → Option PL) (N : Nat) (b1 b2 n1 n2 : Nat) (hs1 hs2 : List (Int × PL)) (w : World) (hF : Fro w f N) (h1 : HeldN w f b1 n1 hs1) (h2 : HeldN w f b2 n2 hs2) :
    Calls Try.prog 81 #[.map (some b1), .map (some b2), .func (.func 82) #[] #[]] w fun e w' => e = .returned (.bool (decide (hs1 = hs2))) ∧ w.grownBy w' none := by
  have c := AnyEq.maps_EqualFunc_opt EqualFA lawU (RH f) (RH f) (Lib.equalFuncD eq64) 82 #[] (some b1) (some b2) (mp dmap hs1) (mp dmap hs2) w (enters_of Try.func82 (by kernel_rfl) rfl) (.inr ⟨b1, n1, rfl, h1.1⟩) (.inr ⟨b2, n2, rfl, h2.1⟩) (.map none) zeroM .nil [] rfl (fun W x y xd yd xp yp hg hx hy => by
    obtain ⟨p1, rfl, s1⟩ := src_of hF hg hx
    obtain ⟨p2, rfl, s2⟩ := src_of hF hg hy
    exact same1_c p1 p2 xd yd W s1 s2)
  refine Calls.mono c ?_
  rintro e w' ⟨rfl, hg⟩
  refine ⟨?_, hg⟩
  have key : Lib.equalFuncD (Lib.equalFuncD eq64) (mp dmap hs1) (mp dmap hs2) = decide (hs1 = hs2) := by
    refine equal_mpP (fun x y hx hy => ?_) h1.2 h2.2
    obtain ⟨k, hx⟩ := hx
    obtain ⟨k', hy⟩ := hy
    obtain ⟨b, hb⟩ := h1.blk hx
    obtain ⟨b', hb'⟩ := h2.blk hy
    exact eqd_dmap (hF b _ hb).2 (hF b' _ hb').2
  rw [key]
end Go.Proofs.Ytngocadnbpdnoaa.Mo
namespace Go.Proofs.Ytngocadnbpdnoaa.Mo
open Go Go.Maps Go.RowKit Go.Proofs.Ytngocadnbpdnoaa.Srt Go.Proofs.Ytngocadnbpdnoaa.Q Go.Proofs.YtngocadnbpdnoaaW.PrintWords Go.Proofs.YtngocadnbpdnoaaW.PrintLast Go.Proofs.YtngocadnbpdnoaaW.PrintMore
set_option linter.unusedVariables false
set_option linter.unusedSimpArgs false
def samB (m m2 : Int) (now now2 : PL) (held held2 : List (Int × PL)) : Bool := decide (m = m2) && decide (now = now2) && decide (held = held2)
theorem grown_cell {w W : World} (h : w.grownBy W none) {a : Addr} {v : Value} (hc : w.cell? a = some v) : W.cell? a = some v := cell_grown h hc (by simp)
theorem below_of_grown {w W : World} (h : w.grownBy W none) : Below w.heap.size w W := (Below.refl _ w).grown h (Nat.le_refl _) (fun j hj => by cases hj)
set_option maxRecDepth 100000 in
set_option maxHeartbeats 8000000 in
theorem same_c (f : Nat → Option PL) (N gp bn bh gp2 bn2 bh2 : Nat) (m m2 : Int) (now now2 : PL) (held held2 : List (Int × PL)) (w : World) (hM : PM w f N gp bn bh m now held) (hM2 : PM w f N gp2 bn2 bh2 m2 now2 held2) (hF : Fro w f N) :
    Calls Try.prog 31 #[.pointer (some ⟨gp, 0, none⟩), .pointer (some ⟨gp2, 0, none⟩)] w fun e w' => e = .returned (.bool (samB m m2 now now2 held held2)) ∧ Below w.heap.size w w' := by
  have hgl := hM.gl
  have hgl2 := hM2.gl
  have c0 := hM.c0
  have c1 := hM.c1
  have c2 := hM.c2
  have k0 := hM2.c0
  have k1 := hM2.c1
  have k2 := hM2.c2
  have HM := Lib.hid hM
  have HM2 := Lib.hid hM2
  have HF := Lib.hid hF
  clear hM hM2 hF
  by_cases e0 : m = m2
  · subst e0
    have c80 := equal_c (some bn) (some bn2) (dmap now) (dmap now2) w.drew (.inr ⟨bn, N, rfl, HM.out.now.1.drew⟩) (.inr ⟨bn2, N, rfl, HM2.out.now.1.drew⟩)
    rw [eqd_dmap HM.out.now.2 HM2.out.now.2] at c80
    have HS : (fun w' => w'.cell? ⟨gp, 0, none⟩ = some (.int .i64 m) ∧ w'.cell? ⟨gp, 1, none⟩ = some (.map (some bn)) ∧ w'.cell? ⟨gp, 2, none⟩ = some (.map (some bh)) ∧ w'.cell? ⟨gp2, 0, none⟩ = some (.int .i64 m) ∧ w'.cell? ⟨gp2, 1, none⟩ = some (.map (some bn2)) ∧ w'.cell? ⟨gp2, 2, none⟩ = some (.map (some bh2))) w.drew := ⟨c0, c1, c2, k0, k1, k2⟩
    by_cases e1 : now = now2
    · have hS : samB m m now now2 held held2 = decide (held = held2) := by unfold samB; rw [decide_eq_true rfl, decide_eq_true e1]; rfl
      rw [hS]
      rw [decide_eq_true e1] at c80
      obtain ⟨r, hr⟩ : ∃ r, r = decide (held = held2) := ⟨_, rfl⟩
      have c81 : ∀ W, w.drew.grownBy W none → Calls Try.prog 81 #[.map (some bh), .map (some bh2), .func (.func 82) #[] #[]] W fun e w' => e = .returned (.bool r) ∧ W.grownBy w' none := fun W hg => by
        rw [hr]
        exact equalF_c f N bh bh2 N N held held2 W (fun b l hb => ⟨((HF.out b l hb).1.drew).kept hg (by simp), (HF.out b l hb).2⟩) ⟨HM.out.held.1.drew.kept hg (by simp), HM.out.held.2⟩ ⟨HM2.out.held.1.drew.kept hg (by simp), HM2.out.held.2⟩
      rw [← hr]
      have C81 := Lib.hid c81
      have C80 := Lib.hid c80
      clear hS hr c81 c80 e1 c0 c1 c2 k0 k1 k2
      go_enter Try.func31, Try.ntmps31
      go_wp2_with fail
      refine wp_region_held_drew (S := fun w' => w'.cell? ⟨gp, 0, none⟩ = some (.int .i64 m) ∧ w'.cell? ⟨gp, 1, none⟩ = some (.map (some bn)) ∧ w'.cell? ⟨gp, 2, none⟩ = some (.map (some bh)) ∧ w'.cell? ⟨gp2, 0, none⟩ = some (.int .i64 m) ∧ w'.cell? ⟨gp2, 1, none⟩ = some (.map (some bn2)) ∧ w'.cell? ⟨gp2, 2, none⟩ = some (.map (some bh2))) (by kernel_rfl) HS (fun _ => ?_)
      refine wpAnyH_take (i := 0) (oi := ?oi0) (v := ?v0) ?hi0 (by kernel_rfl) (by kernel_rfl) (by kernel_rfl) ?hq0 (Or.inl ⟨?hw0, ?hy0⟩) HS ?rest0
      case hi0 =>
        simp only [List.getElem?_toArray, List.getElem?_cons_succ, List.getElem?_cons_zero]
        exact rfl
      case hq0 => exact fun _ _ _ h => h
      case hw0 => rfl
      case hy0 =>
        intro w hSw
        obtain ⟨hw0_, hw1_, hw2_, hw3_, hw4_, hw5_⟩ := hSw
        go_simp
        try with_reducible rfl
      try simp only [Act.put, List.setIfInBounds_toArray, List.set_cons_zero, List.set_cons_succ]
      refine wpAnyH_take (i := 1) (oi := ?oi1) (v := ?v1) ?hi1 (by kernel_rfl) (by kernel_rfl) (by kernel_rfl) ?hq1 (Or.inl ⟨?hw1, ?hy1⟩) HS ?rest1
      case hi1 =>
        simp only [List.getElem?_toArray, List.getElem?_cons_succ, List.getElem?_cons_zero]
        exact rfl
      case hq1 => exact fun _ _ _ h => h
      case hw1 => rfl
      case hy1 =>
        intro w hSw
        obtain ⟨hw0_, hw1_, hw2_, hw3_, hw4_, hw5_⟩ := hSw
        go_simp
        try with_reducible rfl
      try simp only [Act.put, List.setIfInBounds_toArray, List.set_cons_zero, List.set_cons_succ]
      refine wpAnyH_take (i := 2) (oi := ?oi2) (v := ?v2) ?hi2 (by kernel_rfl) (by kernel_rfl) (by kernel_rfl) ?hq2 (Or.inl ⟨?hw2, ?hy2⟩) HS ?rest2
      case hi2 =>
        simp only [List.getElem?_toArray, List.getElem?_cons_succ, List.getElem?_cons_zero]
        exact rfl
      case hq2 => exact fun _ _ _ h => h
      case hw2 => rfl
      case hy2 =>
        intro w hSw
        obtain ⟨hw0_, hw1_, hw2_, hw3_, hw4_, hw5_⟩ := hSw
        go_simp
        try with_reducible rfl
      try simp only [Act.put, List.setIfInBounds_toArray, List.set_cons_zero, List.set_cons_succ]
      refine wpAnyH_take (i := 3) (oi := ?oi3) (v := ?v3) ?hi3 (by kernel_rfl) (by kernel_rfl) (by kernel_rfl) ?hq3 (Or.inl ⟨?hw3, ?hy3⟩) HS ?rest3
      case hi3 =>
        simp only [List.getElem?_toArray, List.getElem?_cons_succ, List.getElem?_cons_zero]
        exact rfl
      case hq3 => exact fun _ _ _ h => h
      case hw3 => rfl
      case hy3 =>
        intro w hSw
        obtain ⟨hw0_, hw1_, hw2_, hw3_, hw4_, hw5_⟩ := hSw
        go_simp
        try with_reducible rfl
      try simp only [Act.put, List.setIfInBounds_toArray, List.set_cons_zero, List.set_cons_succ]
      refine wpAnyH_take (i := 4) (oi := ?oi4) (v := ?v4) ?hi4 (by kernel_rfl) (by kernel_rfl) (by kernel_rfl) ?hq4 (Or.inl ⟨?hw4, ?hy4⟩) HS ?rest4
      case hi4 =>
        simp only [List.getElem?_toArray, List.getElem?_cons_succ, List.getElem?_cons_zero]
        exact rfl
      case hq4 => exact fun _ _ _ h => h
      case hw4 => rfl
      case hy4 =>
        intro w hSw
        obtain ⟨hw0_, hw1_, hw2_, hw3_, hw4_, hw5_⟩ := hSw
        go_simp
        try with_reducible rfl
      try simp only [Act.put, List.setIfInBounds_toArray, List.set_cons_zero, List.set_cons_succ]
      refine wpAnyH_take (i := 5) (oi := ?oi5) (v := ?v5) ?hi5 (by kernel_rfl) (by kernel_rfl) (by kernel_rfl) ?hq5 (Or.inl ⟨?hw5, ?hy5⟩) HS ?rest5
      case hi5 =>
        simp only [List.getElem?_toArray, List.getElem?_cons_succ, List.getElem?_cons_zero]
        exact rfl
      case hq5 => exact fun _ _ _ h => h
      case hw5 => rfl
      case hy5 =>
        intro w hSw
        obtain ⟨hw0_, hw1_, hw2_, hw3_, hw4_, hw5_⟩ := hSw
        go_simp
        try with_reducible rfl
      try simp only [Act.put, List.setIfInBounds_toArray, List.set_cons_zero, List.set_cons_succ]
      refine wpAnyH_take (i := 6) (oi := ?oi6) (v := ?v6) ?hi6 (by kernel_rfl) (by kernel_rfl) (by kernel_rfl) ?hq6 (Or.inl ⟨?hw6, ?hy6⟩) HS ?rest6
      case hi6 =>
        simp only [List.getElem?_toArray, List.getElem?_cons_succ, List.getElem?_cons_zero]
        exact rfl
      case hq6 => exact fun _ _ _ h => h
      case hw6 => rfl
      case hy6 =>
        intro w hSw
        obtain ⟨hw0_, hw1_, hw2_, hw3_, hw4_, hw5_⟩ := hSw
        go_simp
        try with_reducible rfl
      try simp only [Act.put, List.setIfInBounds_toArray, List.set_cons_zero, List.set_cons_succ]
      refine wpAnyH_take (i := 7) (oi := ?oi7) (v := ?v7) ?hi7 (by kernel_rfl) (by kernel_rfl) (by kernel_rfl) ?hq7 (Or.inl ⟨?hw7, ?hy7⟩) HS ?rest7
      case hi7 =>
        simp only [List.getElem?_toArray, List.getElem?_cons_succ, List.getElem?_cons_zero]
        exact rfl
      case hq7 => exact fun _ _ _ h => h
      case hw7 => rfl
      case hy7 =>
        intro w hSw
        obtain ⟨hw0_, hw1_, hw2_, hw3_, hw4_, hw5_⟩ := hSw
        go_simp
        try with_reducible rfl
      try simp only [Act.put, List.setIfInBounds_toArray, List.set_cons_zero, List.set_cons_succ]
      refine wpAnyH_take (i := 8) (oi := ?oi8) (v := ?v8) ?hi8 (by kernel_rfl) (by kernel_rfl) (by kernel_rfl) ?hq8 (Or.inl ⟨?hw8, ?hy8⟩) HS ?rest8
      case hi8 =>
        simp only [List.getElem?_toArray, List.getElem?_cons_succ, List.getElem?_cons_zero]
        exact rfl
      case hq8 => exact fun _ _ _ h => h
      case hw8 => rfl
      case hy8 =>
        intro w hSw
        obtain ⟨hw0_, hw1_, hw2_, hw3_, hw4_, hw5_⟩ := hSw
        go_simp
        try with_reducible rfl
      try simp only [Act.put, List.setIfInBounds_toArray, List.set_cons_zero, List.set_cons_succ]
      refine wpAnyH_take (i := 9) (oi := ?oi9) (v := ?v9) ?hi9 (by kernel_rfl) (by kernel_rfl) (by kernel_rfl) ?hq9 (Or.inl ⟨?hw9, ?hy9⟩) HS ?rest9
      case hi9 =>
        simp only [List.getElem?_toArray, List.getElem?_cons_succ, List.getElem?_cons_zero]
        exact rfl
      case hq9 => exact fun _ _ _ h => h
      case hw9 => rfl
      case hy9 =>
        intro w hSw
        obtain ⟨hw0_, hw1_, hw2_, hw3_, hw4_, hw5_⟩ := hSw
        go_simp
        try with_reducible rfl
      try simp only [Act.put, List.setIfInBounds_toArray, List.set_cons_zero, List.set_cons_succ]
      refine wpAnyH_take (i := 10) (oi := ?oi10) (v := ?v10) ?hi10 (by kernel_rfl) (by kernel_rfl) (by kernel_rfl) ?hq10 (Or.inl ⟨?hw10, ?hy10⟩) HS ?rest10
      case hi10 =>
        simp only [List.getElem?_toArray, List.getElem?_cons_succ, List.getElem?_cons_zero]
        exact rfl
      case hq10 => exact fun _ _ _ h => h
      case hw10 => rfl
      case hy10 =>
        intro w hSw
        obtain ⟨hw0_, hw1_, hw2_, hw3_, hw4_, hw5_⟩ := hSw
        go_simp
        try with_reducible rfl
      try simp only [Act.put, List.setIfInBounds_toArray, List.set_cons_zero, List.set_cons_succ]
      refine wpAnyH_take (i := 11) (oi := ?oi11) (v := ?v11) ?hi11 (by kernel_rfl) (by kernel_rfl) (by kernel_rfl) ?hq11 (Or.inl ⟨?hw11, ?hy11⟩) HS ?rest11
      case hi11 =>
        simp only [List.getElem?_toArray, List.getElem?_cons_succ, List.getElem?_cons_zero]
        exact rfl
      case hq11 => exact fun _ _ _ h => h
      case hw11 => rfl
      case hy11 =>
        intro w hSw
        obtain ⟨hw0_, hw1_, hw2_, hw3_, hw4_, hw5_⟩ := hSw
        go_simp
        try with_reducible rfl
      try simp only [Act.put, List.setIfInBounds_toArray, List.set_cons_zero, List.set_cons_succ]
      refine wpAnyH_take (i := 12) (oi := ?oi12) (v := ?v12) ?hi12 (by kernel_rfl) (by kernel_rfl) (by kernel_rfl) ?hq12 (Or.inl ⟨?hw12, ?hy12⟩) HS ?rest12
      case hi12 =>
        simp only [List.getElem?_toArray, List.getElem?_cons_succ, List.getElem?_cons_zero]
        exact rfl
      case hq12 => exact fun _ _ _ h => h
      case hw12 => rfl
      case hy12 =>
        intro w hSw
        obtain ⟨hw0_, hw1_, hw2_, hw3_, hw4_, hw5_⟩ := hSw
        go_simp
        try with_reducible rfl
      try simp only [Act.put, List.setIfInBounds_toArray, List.set_cons_zero, List.set_cons_succ]
      refine wpAnyH_take (i := 13) (oi := ?oi13) (v := ?v13) ?hi13 (by kernel_rfl) (by kernel_rfl) (by kernel_rfl) ?hq13 (Or.inl ⟨?hw13, ?hy13⟩) HS ?rest13
      case hi13 =>
        simp only [List.getElem?_toArray, List.getElem?_cons_succ, List.getElem?_cons_zero]
        exact rfl
      case hq13 => exact fun _ _ _ h => h
      case hw13 => rfl
      case hy13 =>
        intro w hSw
        obtain ⟨hw0_, hw1_, hw2_, hw3_, hw4_, hw5_⟩ := hSw
        go_simp
        try with_reducible rfl
      try simp only [Act.put, List.setIfInBounds_toArray, List.set_cons_zero, List.set_cons_succ]
      refine wpAnyH_take (i := 14) (oi := ?oi14) (v := ?v14) ?hi14 (by kernel_rfl) (by kernel_rfl) (by kernel_rfl) ?hq14 (Or.inl ⟨?hw14, ?hy14⟩) HS ?rest14
      case hi14 =>
        simp only [List.getElem?_toArray, List.getElem?_cons_succ, List.getElem?_cons_zero]
        exact rfl
      case hq14 => exact fun _ _ _ h => h
      case hw14 => rfl
      case hy14 =>
        intro w hSw
        obtain ⟨hw0_, hw1_, hw2_, hw3_, hw4_, hw5_⟩ := hSw
        go_simp
        try with_reducible rfl
      try simp only [Act.put, List.setIfInBounds_toArray, List.set_cons_zero, List.set_cons_succ]
      refine wpAnyH_take (i := 15) (oi := ?oi15) (v := ?v15) ?hi15 (by kernel_rfl) (by kernel_rfl) (by kernel_rfl) ?hq15 (Or.inl ⟨?hw15, ?hy15⟩) HS ?rest15
      case hi15 =>
        simp only [List.getElem?_toArray, List.getElem?_cons_succ, List.getElem?_cons_zero]
        exact rfl
      case hq15 => exact fun _ _ _ h => h
      case hw15 => rfl
      case hy15 =>
        intro w hSw
        obtain ⟨hw0_, hw1_, hw2_, hw3_, hw4_, hw5_⟩ := hSw
        go_simp
        try with_reducible rfl
      try simp only [Act.put, List.setIfInBounds_toArray, List.set_cons_zero, List.set_cons_succ]
      refine wpAnyH_take (i := 16) (oi := ?oi16) (v := ?v16) ?hi16 (by kernel_rfl) (by kernel_rfl) (by kernel_rfl) ?hq16 (Or.inl ⟨?hw16, ?hy16⟩) HS ?rest16
      case hi16 =>
        simp only [List.getElem?_toArray, List.getElem?_cons_succ, List.getElem?_cons_zero]
        exact rfl
      case hq16 => exact fun _ _ _ h => h
      case hw16 => rfl
      case hy16 =>
        intro w hSw
        obtain ⟨hw0_, hw1_, hw2_, hw3_, hw4_, hw5_⟩ := hSw
        go_simp
        try with_reducible rfl
      try simp only [Act.put, List.setIfInBounds_toArray, List.set_cons_zero, List.set_cons_succ]
      refine wpAnyH_take (i := 17) (oi := ?oi17) (v := ?v17) ?hi17 (by kernel_rfl) (by kernel_rfl) (by kernel_rfl) ?hq17 (Or.inl ⟨?hw17, ?hy17⟩) HS ?rest17
      case hi17 =>
        simp only [List.getElem?_toArray, List.getElem?_cons_succ, List.getElem?_cons_zero]
        exact rfl
      case hq17 => exact fun _ _ _ h => h
      case hw17 => rfl
      case hy17 =>
        intro w hSw
        obtain ⟨hw0_, hw1_, hw2_, hw3_, hw4_, hw5_⟩ := hSw
        go_simp
        try with_reducible rfl
      try simp only [Act.put, List.setIfInBounds_toArray, List.set_cons_zero, List.set_cons_succ]
      refine wpAnyH_ready (rs := [18]) (by kernel_rfl) (by simp) ?_
      refine AllReadyH.cons (o := ?oi18) ?hi18 (fun K hK => ?rest18) AllReadyH.nil
      case hi18 =>
        simp only [List.getElem?_toArray, List.getElem?_cons_succ, List.getElem?_cons_zero]
        exact rfl
      go_simp
      go_at_call 80
      refine (C80.out).mono ?_
      rintro e w2 ⟨rfl, hg2⟩
      have HS2 : (fun w' => w'.cell? ⟨gp, 0, none⟩ = some (.int .i64 m) ∧ w'.cell? ⟨gp, 1, none⟩ = some (.map (some bn)) ∧ w'.cell? ⟨gp, 2, none⟩ = some (.map (some bh)) ∧ w'.cell? ⟨gp2, 0, none⟩ = some (.int .i64 m) ∧ w'.cell? ⟨gp2, 1, none⟩ = some (.map (some bn2)) ∧ w'.cell? ⟨gp2, 2, none⟩ = some (.map (some bh2))) w2 := ⟨grown_cell hg2 HS.1, grown_cell hg2 HS.2.1, grown_cell hg2 HS.2.2.1, grown_cell hg2 HS.2.2.2.1, grown_cell hg2 HS.2.2.2.2.1, grown_cell hg2 HS.2.2.2.2.2⟩
      clear HS
      have HS := HS2
      clear HS2
      have HG2 := Lib.hid hg2
      clear hg2
      refine hK.out _ _ HS (fun _ => ?_)
      clear hK K
      try simp only [Act.put, List.setIfInBounds_toArray, List.set_cons_zero, List.set_cons_succ]
      refine wpAnyH_take (i := 19) (oi := ?oi19) (v := ?v19) ?hi19 (by kernel_rfl) (by kernel_rfl) (by kernel_rfl) ?hq19 (Or.inl ⟨?hw19, ?hy19⟩) HS ?rest19
      case hi19 =>
        simp only [List.getElem?_toArray, List.getElem?_cons_succ, List.getElem?_cons_zero]
        exact rfl
      case hq19 => exact fun _ _ _ h => h
      case hw19 => rfl
      case hy19 =>
        intro w hSw
        obtain ⟨hw0_, hw1_, hw2_, hw3_, hw4_, hw5_⟩ := hSw
        go_simp
        try with_reducible rfl
      try simp only [Act.put, List.setIfInBounds_toArray, List.set_cons_zero, List.set_cons_succ]
      refine wpAnyH_take (i := 20) (oi := ?oi20) (v := ?v20) ?hi20 (by kernel_rfl) (by kernel_rfl) (by kernel_rfl) ?hq20 (Or.inl ⟨?hw20, ?hy20⟩) HS ?rest20
      case hi20 =>
        simp only [List.getElem?_toArray, List.getElem?_cons_succ, List.getElem?_cons_zero]
        exact rfl
      case hq20 => exact fun _ _ _ h => h
      case hw20 => rfl
      case hy20 =>
        intro w hSw
        obtain ⟨hw0_, hw1_, hw2_, hw3_, hw4_, hw5_⟩ := hSw
        go_simp
        try with_reducible rfl
      try simp only [Act.put, List.setIfInBounds_toArray, List.set_cons_zero, List.set_cons_succ]
      refine wpAnyH_take (i := 21) (oi := ?oi21) (v := ?v21) ?hi21 (by kernel_rfl) (by kernel_rfl) (by kernel_rfl) ?hq21 (Or.inl ⟨?hw21, ?hy21⟩) HS ?rest21
      case hi21 =>
        simp only [List.getElem?_toArray, List.getElem?_cons_succ, List.getElem?_cons_zero]
        exact rfl
      case hq21 => exact fun _ _ _ h => h
      case hw21 => rfl
      case hy21 =>
        intro w hSw
        obtain ⟨hw0_, hw1_, hw2_, hw3_, hw4_, hw5_⟩ := hSw
        go_simp
        try with_reducible rfl
      try simp only [Act.put, List.setIfInBounds_toArray, List.set_cons_zero, List.set_cons_succ]
      refine wpAnyH_take (i := 22) (oi := ?oi22) (v := ?v22) ?hi22 (by kernel_rfl) (by kernel_rfl) (by kernel_rfl) ?hq22 (Or.inl ⟨?hw22, ?hy22⟩) HS ?rest22
      case hi22 =>
        simp only [List.getElem?_toArray, List.getElem?_cons_succ, List.getElem?_cons_zero]
        exact rfl
      case hq22 => exact fun _ _ _ h => h
      case hw22 => rfl
      case hy22 =>
        intro w hSw
        obtain ⟨hw0_, hw1_, hw2_, hw3_, hw4_, hw5_⟩ := hSw
        go_simp
        try with_reducible rfl
      try simp only [Act.put, List.setIfInBounds_toArray, List.set_cons_zero, List.set_cons_succ]
      refine wpAnyH_take (i := 23) (oi := ?oi23) (v := ?v23) ?hi23 (by kernel_rfl) (by kernel_rfl) (by kernel_rfl) ?hq23 (Or.inl ⟨?hw23, ?hy23⟩) HS ?rest23
      case hi23 =>
        simp only [List.getElem?_toArray, List.getElem?_cons_succ, List.getElem?_cons_zero]
        exact rfl
      case hq23 => exact fun _ _ _ h => h
      case hw23 => rfl
      case hy23 =>
        intro w hSw
        obtain ⟨hw0_, hw1_, hw2_, hw3_, hw4_, hw5_⟩ := hSw
        go_simp
        try with_reducible rfl
      try simp only [Act.put, List.setIfInBounds_toArray, List.set_cons_zero, List.set_cons_succ]
      refine wpAnyH_take (i := 24) (oi := ?oi24) (v := ?v24) ?hi24 (by kernel_rfl) (by kernel_rfl) (by kernel_rfl) ?hq24 (Or.inl ⟨?hw24, ?hy24⟩) HS ?rest24
      case hi24 =>
        simp only [List.getElem?_toArray, List.getElem?_cons_succ, List.getElem?_cons_zero]
        exact rfl
      case hq24 => exact fun _ _ _ h => h
      case hw24 => rfl
      case hy24 =>
        intro w hSw
        obtain ⟨hw0_, hw1_, hw2_, hw3_, hw4_, hw5_⟩ := hSw
        go_simp
        try with_reducible rfl
      try simp only [Act.put, List.setIfInBounds_toArray, List.set_cons_zero, List.set_cons_succ]
      refine wpAnyH_take (i := 25) (oi := ?oi25) (v := ?v25) ?hi25 (by kernel_rfl) (by kernel_rfl) (by kernel_rfl) ?hq25 (Or.inl ⟨?hw25, ?hy25⟩) HS ?rest25
      case hi25 =>
        simp only [List.getElem?_toArray, List.getElem?_cons_succ, List.getElem?_cons_zero]
        exact rfl
      case hq25 => exact fun _ _ _ h => h
      case hw25 => rfl
      case hy25 =>
        intro w hSw
        obtain ⟨hw0_, hw1_, hw2_, hw3_, hw4_, hw5_⟩ := hSw
        go_simp
        try with_reducible rfl
      try simp only [Act.put, List.setIfInBounds_toArray, List.set_cons_zero, List.set_cons_succ]
      refine wpAnyH_take (i := 26) (oi := ?oi26) (v := ?v26) ?hi26 (by kernel_rfl) (by kernel_rfl) (by kernel_rfl) ?hq26 (Or.inl ⟨?hw26, ?hy26⟩) HS ?rest26
      case hi26 =>
        simp only [List.getElem?_toArray, List.getElem?_cons_succ, List.getElem?_cons_zero]
        exact rfl
      case hq26 => exact fun _ _ _ h => h
      case hw26 => rfl
      case hy26 =>
        intro w hSw
        obtain ⟨hw0_, hw1_, hw2_, hw3_, hw4_, hw5_⟩ := hSw
        go_simp
        try with_reducible rfl
      try simp only [Act.put, List.setIfInBounds_toArray, List.set_cons_zero, List.set_cons_succ]
      refine wpAnyH_take (i := 27) (oi := ?oi27) (v := ?v27) ?hi27 (by kernel_rfl) (by kernel_rfl) (by kernel_rfl) ?hq27 (Or.inl ⟨?hw27, ?hy27⟩) HS ?rest27
      case hi27 =>
        simp only [List.getElem?_toArray, List.getElem?_cons_succ, List.getElem?_cons_zero]
        exact rfl
      case hq27 => exact fun _ _ _ h => h
      case hw27 => rfl
      case hy27 =>
        intro w hSw
        obtain ⟨hw0_, hw1_, hw2_, hw3_, hw4_, hw5_⟩ := hSw
        go_simp
        try with_reducible rfl
      try simp only [Act.put, List.setIfInBounds_toArray, List.set_cons_zero, List.set_cons_succ]
      refine wpAnyH_take (i := 28) (oi := ?oi28) (v := ?v28) ?hi28 (by kernel_rfl) (by kernel_rfl) (by kernel_rfl) ?hq28 (Or.inl ⟨?hw28, ?hy28⟩) HS ?rest28
      case hi28 =>
        simp only [List.getElem?_toArray, List.getElem?_cons_succ, List.getElem?_cons_zero]
        exact rfl
      case hq28 => exact fun _ _ _ h => h
      case hw28 => rfl
      case hy28 =>
        intro w hSw
        obtain ⟨hw0_, hw1_, hw2_, hw3_, hw4_, hw5_⟩ := hSw
        go_simp
        try with_reducible rfl
      try simp only [Act.put, List.setIfInBounds_toArray, List.set_cons_zero, List.set_cons_succ]
      refine wpAnyH_ready (rs := [29]) (by kernel_rfl) (by simp) ?_
      refine AllReadyH.cons (o := ?oi29) ?hi29 (fun K hK => ?rest29) AllReadyH.nil
      case hi29 =>
        simp only [List.getElem?_toArray, List.getElem?_cons_succ, List.getElem?_cons_zero]
        exact rfl
      go_simp
      go_at_call 81
      refine (C81.out _ HG2.out).mono ?_
      rintro e w3 ⟨rfl, hg3⟩
      have HS2 : (fun w' => w'.cell? ⟨gp, 0, none⟩ = some (.int .i64 m) ∧ w'.cell? ⟨gp, 1, none⟩ = some (.map (some bn)) ∧ w'.cell? ⟨gp, 2, none⟩ = some (.map (some bh)) ∧ w'.cell? ⟨gp2, 0, none⟩ = some (.int .i64 m) ∧ w'.cell? ⟨gp2, 1, none⟩ = some (.map (some bn2)) ∧ w'.cell? ⟨gp2, 2, none⟩ = some (.map (some bh2))) w3 := ⟨grown_cell hg3 HS.1, grown_cell hg3 HS.2.1, grown_cell hg3 HS.2.2.1, grown_cell hg3 HS.2.2.2.1, grown_cell hg3 HS.2.2.2.2.1, grown_cell hg3 HS.2.2.2.2.2⟩
      clear HS
      have HS := HS2
      clear HS2
      have HG3 := Lib.hid hg3
      clear hg3
      refine hK.out _ _ HS (fun _ => ?_)
      clear hK K
      try simp only [Act.put, List.setIfInBounds_toArray, List.set_cons_zero, List.set_cons_succ]
      refine wpAnyH_take (i := 30) (oi := ?oi30) (v := ?v30) ?hi30 (by kernel_rfl) (by kernel_rfl) (by kernel_rfl) ?hq30 (Or.inl ⟨?hw30, ?hy30⟩) HS ?rest30
      case hi30 =>
        simp only [List.getElem?_toArray, List.getElem?_cons_succ, List.getElem?_cons_zero]
        exact rfl
      case hq30 => exact fun _ _ _ h => h
      case hw30 => rfl
      case hy30 =>
        intro w hSw
        obtain ⟨hw0_, hw1_, hw2_, hw3_, hw4_, hw5_⟩ := hSw
        go_simp
        try with_reducible rfl
      try simp only [Act.put, List.setIfInBounds_toArray, List.set_cons_zero, List.set_cons_succ]
      refine wpAnyH_take (i := 31) (oi := ?oi31) (v := ?v31) ?hi31 (by kernel_rfl) (by kernel_rfl) (by kernel_rfl) ?hq31 (Or.inl ⟨?hw31, ?hy31⟩) HS ?rest31
      case hi31 =>
        simp only [List.getElem?_toArray, List.getElem?_cons_succ, List.getElem?_cons_zero]
        exact rfl
      case hq31 => exact fun _ _ _ h => h
      case hw31 => rfl
      case hy31 =>
        intro w hSw
        obtain ⟨hw0_, hw1_, hw2_, hw3_, hw4_, hw5_⟩ := hSw
        go_simp
        try with_reducible rfl
      try simp only [Act.put, List.setIfInBounds_toArray, List.set_cons_zero, List.set_cons_succ]
      refine wpAnyH_done (by kernel_rfl) ?_ _
      go_wp2_with fail
      go_ret
      exact ⟨rfl, (below_drew (Below.refl w.heap.size w)).trans (below_of_grown (HG2.out.trans HG3.out))⟩
    · have hS : samB m m now now2 held held2 = false := by unfold samB; rw [decide_eq_true rfl, decide_eq_false e1]; rfl
      rw [hS]
      rw [decide_eq_false e1] at c80
      have C80 := Lib.hid c80
      clear hS c80 e1 c0 c1 c2 k0 k1 k2
      go_enter Try.func31, Try.ntmps31
      go_wp2_with fail
      refine wp_region_held_drew (S := fun w' => w'.cell? ⟨gp, 0, none⟩ = some (.int .i64 m) ∧ w'.cell? ⟨gp, 1, none⟩ = some (.map (some bn)) ∧ w'.cell? ⟨gp, 2, none⟩ = some (.map (some bh)) ∧ w'.cell? ⟨gp2, 0, none⟩ = some (.int .i64 m) ∧ w'.cell? ⟨gp2, 1, none⟩ = some (.map (some bn2)) ∧ w'.cell? ⟨gp2, 2, none⟩ = some (.map (some bh2))) (by kernel_rfl) HS (fun _ => ?_)
      refine wpAnyH_take (i := 0) (oi := ?oiz0) (v := ?vz0) ?hiz0 (by kernel_rfl) (by kernel_rfl) (by kernel_rfl) ?hqz0 (Or.inl ⟨?hwz0, ?hyz0⟩) HS ?restz0
      case hiz0 =>
        simp only [List.getElem?_toArray, List.getElem?_cons_succ, List.getElem?_cons_zero]
        exact rfl
      case hqz0 => exact fun _ _ _ h => h
      case hwz0 => rfl
      case hyz0 =>
        intro w hSw
        obtain ⟨hw0_, hw1_, hw2_, hw3_, hw4_, hw5_⟩ := hSw
        go_simp
        try with_reducible rfl
      try simp only [Act.put, List.setIfInBounds_toArray, List.set_cons_zero, List.set_cons_succ]
      refine wpAnyH_take (i := 1) (oi := ?oiz1) (v := ?vz1) ?hiz1 (by kernel_rfl) (by kernel_rfl) (by kernel_rfl) ?hqz1 (Or.inl ⟨?hwz1, ?hyz1⟩) HS ?restz1
      case hiz1 =>
        simp only [List.getElem?_toArray, List.getElem?_cons_succ, List.getElem?_cons_zero]
        exact rfl
      case hqz1 => exact fun _ _ _ h => h
      case hwz1 => rfl
      case hyz1 =>
        intro w hSw
        obtain ⟨hw0_, hw1_, hw2_, hw3_, hw4_, hw5_⟩ := hSw
        go_simp
        try with_reducible rfl
      try simp only [Act.put, List.setIfInBounds_toArray, List.set_cons_zero, List.set_cons_succ]
      refine wpAnyH_take (i := 2) (oi := ?oiz2) (v := ?vz2) ?hiz2 (by kernel_rfl) (by kernel_rfl) (by kernel_rfl) ?hqz2 (Or.inl ⟨?hwz2, ?hyz2⟩) HS ?restz2
      case hiz2 =>
        simp only [List.getElem?_toArray, List.getElem?_cons_succ, List.getElem?_cons_zero]
        exact rfl
      case hqz2 => exact fun _ _ _ h => h
      case hwz2 => rfl
      case hyz2 =>
        intro w hSw
        obtain ⟨hw0_, hw1_, hw2_, hw3_, hw4_, hw5_⟩ := hSw
        go_simp
        try with_reducible rfl
      try simp only [Act.put, List.setIfInBounds_toArray, List.set_cons_zero, List.set_cons_succ]
      refine wpAnyH_take (i := 3) (oi := ?oiz3) (v := ?vz3) ?hiz3 (by kernel_rfl) (by kernel_rfl) (by kernel_rfl) ?hqz3 (Or.inl ⟨?hwz3, ?hyz3⟩) HS ?restz3
      case hiz3 =>
        simp only [List.getElem?_toArray, List.getElem?_cons_succ, List.getElem?_cons_zero]
        exact rfl
      case hqz3 => exact fun _ _ _ h => h
      case hwz3 => rfl
      case hyz3 =>
        intro w hSw
        obtain ⟨hw0_, hw1_, hw2_, hw3_, hw4_, hw5_⟩ := hSw
        go_simp
        try with_reducible rfl
      try simp only [Act.put, List.setIfInBounds_toArray, List.set_cons_zero, List.set_cons_succ]
      refine wpAnyH_take (i := 4) (oi := ?oiz4) (v := ?vz4) ?hiz4 (by kernel_rfl) (by kernel_rfl) (by kernel_rfl) ?hqz4 (Or.inl ⟨?hwz4, ?hyz4⟩) HS ?restz4
      case hiz4 =>
        simp only [List.getElem?_toArray, List.getElem?_cons_succ, List.getElem?_cons_zero]
        exact rfl
      case hqz4 => exact fun _ _ _ h => h
      case hwz4 => rfl
      case hyz4 =>
        intro w hSw
        obtain ⟨hw0_, hw1_, hw2_, hw3_, hw4_, hw5_⟩ := hSw
        go_simp
        try with_reducible rfl
      try simp only [Act.put, List.setIfInBounds_toArray, List.set_cons_zero, List.set_cons_succ]
      refine wpAnyH_take (i := 5) (oi := ?oiz5) (v := ?vz5) ?hiz5 (by kernel_rfl) (by kernel_rfl) (by kernel_rfl) ?hqz5 (Or.inl ⟨?hwz5, ?hyz5⟩) HS ?restz5
      case hiz5 =>
        simp only [List.getElem?_toArray, List.getElem?_cons_succ, List.getElem?_cons_zero]
        exact rfl
      case hqz5 => exact fun _ _ _ h => h
      case hwz5 => rfl
      case hyz5 =>
        intro w hSw
        obtain ⟨hw0_, hw1_, hw2_, hw3_, hw4_, hw5_⟩ := hSw
        go_simp
        try with_reducible rfl
      try simp only [Act.put, List.setIfInBounds_toArray, List.set_cons_zero, List.set_cons_succ]
      refine wpAnyH_take (i := 6) (oi := ?oiz6) (v := ?vz6) ?hiz6 (by kernel_rfl) (by kernel_rfl) (by kernel_rfl) ?hqz6 (Or.inl ⟨?hwz6, ?hyz6⟩) HS ?restz6
      case hiz6 =>
        simp only [List.getElem?_toArray, List.getElem?_cons_succ, List.getElem?_cons_zero]
        exact rfl
      case hqz6 => exact fun _ _ _ h => h
      case hwz6 => rfl
      case hyz6 =>
        intro w hSw
        obtain ⟨hw0_, hw1_, hw2_, hw3_, hw4_, hw5_⟩ := hSw
        go_simp
        try with_reducible rfl
      try simp only [Act.put, List.setIfInBounds_toArray, List.set_cons_zero, List.set_cons_succ]
      refine wpAnyH_take (i := 7) (oi := ?oiz7) (v := ?vz7) ?hiz7 (by kernel_rfl) (by kernel_rfl) (by kernel_rfl) ?hqz7 (Or.inl ⟨?hwz7, ?hyz7⟩) HS ?restz7
      case hiz7 =>
        simp only [List.getElem?_toArray, List.getElem?_cons_succ, List.getElem?_cons_zero]
        exact rfl
      case hqz7 => exact fun _ _ _ h => h
      case hwz7 => rfl
      case hyz7 =>
        intro w hSw
        obtain ⟨hw0_, hw1_, hw2_, hw3_, hw4_, hw5_⟩ := hSw
        go_simp
        try with_reducible rfl
      try simp only [Act.put, List.setIfInBounds_toArray, List.set_cons_zero, List.set_cons_succ]
      refine wpAnyH_take (i := 8) (oi := ?oiz8) (v := ?vz8) ?hiz8 (by kernel_rfl) (by kernel_rfl) (by kernel_rfl) ?hqz8 (Or.inl ⟨?hwz8, ?hyz8⟩) HS ?restz8
      case hiz8 =>
        simp only [List.getElem?_toArray, List.getElem?_cons_succ, List.getElem?_cons_zero]
        exact rfl
      case hqz8 => exact fun _ _ _ h => h
      case hwz8 => rfl
      case hyz8 =>
        intro w hSw
        obtain ⟨hw0_, hw1_, hw2_, hw3_, hw4_, hw5_⟩ := hSw
        go_simp
        try with_reducible rfl
      try simp only [Act.put, List.setIfInBounds_toArray, List.set_cons_zero, List.set_cons_succ]
      refine wpAnyH_take (i := 9) (oi := ?oiz9) (v := ?vz9) ?hiz9 (by kernel_rfl) (by kernel_rfl) (by kernel_rfl) ?hqz9 (Or.inl ⟨?hwz9, ?hyz9⟩) HS ?restz9
      case hiz9 =>
        simp only [List.getElem?_toArray, List.getElem?_cons_succ, List.getElem?_cons_zero]
        exact rfl
      case hqz9 => exact fun _ _ _ h => h
      case hwz9 => rfl
      case hyz9 =>
        intro w hSw
        obtain ⟨hw0_, hw1_, hw2_, hw3_, hw4_, hw5_⟩ := hSw
        go_simp
        try with_reducible rfl
      try simp only [Act.put, List.setIfInBounds_toArray, List.set_cons_zero, List.set_cons_succ]
      refine wpAnyH_take (i := 10) (oi := ?oiz10) (v := ?vz10) ?hiz10 (by kernel_rfl) (by kernel_rfl) (by kernel_rfl) ?hqz10 (Or.inl ⟨?hwz10, ?hyz10⟩) HS ?restz10
      case hiz10 =>
        simp only [List.getElem?_toArray, List.getElem?_cons_succ, List.getElem?_cons_zero]
        exact rfl
      case hqz10 => exact fun _ _ _ h => h
      case hwz10 => rfl
      case hyz10 =>
        intro w hSw
        obtain ⟨hw0_, hw1_, hw2_, hw3_, hw4_, hw5_⟩ := hSw
        go_simp
        try with_reducible rfl
      try simp only [Act.put, List.setIfInBounds_toArray, List.set_cons_zero, List.set_cons_succ]
      refine wpAnyH_take (i := 11) (oi := ?oiz11) (v := ?vz11) ?hiz11 (by kernel_rfl) (by kernel_rfl) (by kernel_rfl) ?hqz11 (Or.inl ⟨?hwz11, ?hyz11⟩) HS ?restz11
      case hiz11 =>
        simp only [List.getElem?_toArray, List.getElem?_cons_succ, List.getElem?_cons_zero]
        exact rfl
      case hqz11 => exact fun _ _ _ h => h
      case hwz11 => rfl
      case hyz11 =>
        intro w hSw
        obtain ⟨hw0_, hw1_, hw2_, hw3_, hw4_, hw5_⟩ := hSw
        go_simp
        try with_reducible rfl
      try simp only [Act.put, List.setIfInBounds_toArray, List.set_cons_zero, List.set_cons_succ]
      refine wpAnyH_take (i := 12) (oi := ?oiz12) (v := ?vz12) ?hiz12 (by kernel_rfl) (by kernel_rfl) (by kernel_rfl) ?hqz12 (Or.inl ⟨?hwz12, ?hyz12⟩) HS ?restz12
      case hiz12 =>
        simp only [List.getElem?_toArray, List.getElem?_cons_succ, List.getElem?_cons_zero]
        exact rfl
      case hqz12 => exact fun _ _ _ h => h
      case hwz12 => rfl
      case hyz12 =>
        intro w hSw
        obtain ⟨hw0_, hw1_, hw2_, hw3_, hw4_, hw5_⟩ := hSw
        go_simp
        try with_reducible rfl
      try simp only [Act.put, List.setIfInBounds_toArray, List.set_cons_zero, List.set_cons_succ]
      refine wpAnyH_take (i := 13) (oi := ?oiz13) (v := ?vz13) ?hiz13 (by kernel_rfl) (by kernel_rfl) (by kernel_rfl) ?hqz13 (Or.inl ⟨?hwz13, ?hyz13⟩) HS ?restz13
      case hiz13 =>
        simp only [List.getElem?_toArray, List.getElem?_cons_succ, List.getElem?_cons_zero]
        exact rfl
      case hqz13 => exact fun _ _ _ h => h
      case hwz13 => rfl
      case hyz13 =>
        intro w hSw
        obtain ⟨hw0_, hw1_, hw2_, hw3_, hw4_, hw5_⟩ := hSw
        go_simp
        try with_reducible rfl
      try simp only [Act.put, List.setIfInBounds_toArray, List.set_cons_zero, List.set_cons_succ]
      refine wpAnyH_take (i := 14) (oi := ?oiz14) (v := ?vz14) ?hiz14 (by kernel_rfl) (by kernel_rfl) (by kernel_rfl) ?hqz14 (Or.inl ⟨?hwz14, ?hyz14⟩) HS ?restz14
      case hiz14 =>
        simp only [List.getElem?_toArray, List.getElem?_cons_succ, List.getElem?_cons_zero]
        exact rfl
      case hqz14 => exact fun _ _ _ h => h
      case hwz14 => rfl
      case hyz14 =>
        intro w hSw
        obtain ⟨hw0_, hw1_, hw2_, hw3_, hw4_, hw5_⟩ := hSw
        go_simp
        try with_reducible rfl
      try simp only [Act.put, List.setIfInBounds_toArray, List.set_cons_zero, List.set_cons_succ]
      refine wpAnyH_take (i := 15) (oi := ?oiz15) (v := ?vz15) ?hiz15 (by kernel_rfl) (by kernel_rfl) (by kernel_rfl) ?hqz15 (Or.inl ⟨?hwz15, ?hyz15⟩) HS ?restz15
      case hiz15 =>
        simp only [List.getElem?_toArray, List.getElem?_cons_succ, List.getElem?_cons_zero]
        exact rfl
      case hqz15 => exact fun _ _ _ h => h
      case hwz15 => rfl
      case hyz15 =>
        intro w hSw
        obtain ⟨hw0_, hw1_, hw2_, hw3_, hw4_, hw5_⟩ := hSw
        go_simp
        try with_reducible rfl
      try simp only [Act.put, List.setIfInBounds_toArray, List.set_cons_zero, List.set_cons_succ]
      refine wpAnyH_take (i := 16) (oi := ?oiz16) (v := ?vz16) ?hiz16 (by kernel_rfl) (by kernel_rfl) (by kernel_rfl) ?hqz16 (Or.inl ⟨?hwz16, ?hyz16⟩) HS ?restz16
      case hiz16 =>
        simp only [List.getElem?_toArray, List.getElem?_cons_succ, List.getElem?_cons_zero]
        exact rfl
      case hqz16 => exact fun _ _ _ h => h
      case hwz16 => rfl
      case hyz16 =>
        intro w hSw
        obtain ⟨hw0_, hw1_, hw2_, hw3_, hw4_, hw5_⟩ := hSw
        go_simp
        try with_reducible rfl
      try simp only [Act.put, List.setIfInBounds_toArray, List.set_cons_zero, List.set_cons_succ]
      refine wpAnyH_take (i := 17) (oi := ?oiz17) (v := ?vz17) ?hiz17 (by kernel_rfl) (by kernel_rfl) (by kernel_rfl) ?hqz17 (Or.inl ⟨?hwz17, ?hyz17⟩) HS ?restz17
      case hiz17 =>
        simp only [List.getElem?_toArray, List.getElem?_cons_succ, List.getElem?_cons_zero]
        exact rfl
      case hqz17 => exact fun _ _ _ h => h
      case hwz17 => rfl
      case hyz17 =>
        intro w hSw
        obtain ⟨hw0_, hw1_, hw2_, hw3_, hw4_, hw5_⟩ := hSw
        go_simp
        try with_reducible rfl
      try simp only [Act.put, List.setIfInBounds_toArray, List.set_cons_zero, List.set_cons_succ]
      refine wpAnyH_ready (rs := [18]) (by kernel_rfl) (by simp) ?_
      refine AllReadyH.cons (o := ?oiz18) ?hiz18 (fun K hK => ?restz18) AllReadyH.nil
      case hiz18 =>
        simp only [List.getElem?_toArray, List.getElem?_cons_succ, List.getElem?_cons_zero]
        exact rfl
      go_simp
      go_at_call 80
      refine (C80.out).mono ?_
      rintro e w2 ⟨rfl, hg2⟩
      have HS2 : (fun w' => w'.cell? ⟨gp, 0, none⟩ = some (.int .i64 m) ∧ w'.cell? ⟨gp, 1, none⟩ = some (.map (some bn)) ∧ w'.cell? ⟨gp, 2, none⟩ = some (.map (some bh)) ∧ w'.cell? ⟨gp2, 0, none⟩ = some (.int .i64 m) ∧ w'.cell? ⟨gp2, 1, none⟩ = some (.map (some bn2)) ∧ w'.cell? ⟨gp2, 2, none⟩ = some (.map (some bh2))) w2 := ⟨grown_cell hg2 HS.1, grown_cell hg2 HS.2.1, grown_cell hg2 HS.2.2.1, grown_cell hg2 HS.2.2.2.1, grown_cell hg2 HS.2.2.2.2.1, grown_cell hg2 HS.2.2.2.2.2⟩
      clear HS
      have HS := HS2
      clear HS2
      have HG2 := Lib.hid hg2
      clear hg2
      refine hK.out _ _ HS (fun _ => ?_)
      clear hK K
      try simp only [Act.put, List.setIfInBounds_toArray, List.set_cons_zero, List.set_cons_succ]
      refine wpAnyH_take (i := 19) (oi := ?oiz19) (v := ?vz19) ?hiz19 (by kernel_rfl) (by kernel_rfl) (by kernel_rfl) ?hqz19 (Or.inl ⟨?hwz19, ?hyz19⟩) HS ?restz19
      case hiz19 =>
        simp only [List.getElem?_toArray, List.getElem?_cons_succ, List.getElem?_cons_zero]
        exact rfl
      case hqz19 => exact fun _ _ _ h => h
      case hwz19 => rfl
      case hyz19 =>
        intro w hSw
        obtain ⟨hw0_, hw1_, hw2_, hw3_, hw4_, hw5_⟩ := hSw
        go_simp
        try with_reducible rfl
      try simp only [Act.put, List.setIfInBounds_toArray, List.set_cons_zero, List.set_cons_succ]
      refine wpAnyH_take (i := 20) (oi := ?oiz20) (v := ?vz20) ?hiz20 (by kernel_rfl) (by kernel_rfl) (by kernel_rfl) ?hqz20 (Or.inl ⟨?hwz20, ?hyz20⟩) HS ?restz20
      case hiz20 =>
        simp only [List.getElem?_toArray, List.getElem?_cons_succ, List.getElem?_cons_zero]
        exact rfl
      case hqz20 => exact fun _ _ _ h => h
      case hwz20 => rfl
      case hyz20 =>
        intro w hSw
        obtain ⟨hw0_, hw1_, hw2_, hw3_, hw4_, hw5_⟩ := hSw
        go_simp
        try with_reducible rfl
      try simp only [Act.put, List.setIfInBounds_toArray, List.set_cons_zero, List.set_cons_succ]
      refine wpAnyH_take (i := 21) (oi := ?oiz21) (v := undef) ?hiz21 (by kernel_rfl) (by kernel_rfl) (by kernel_rfl) ?hqz21 (Or.inr ⟨?hwz21, rfl⟩) HS ?restz21
      case hiz21 =>
        simp only [List.getElem?_toArray, List.getElem?_cons_succ, List.getElem?_cons_zero]
        exact rfl
      case hqz21 => exact fun _ _ _ h => h
      case hwz21 => rfl
      try simp only [Act.put, List.setIfInBounds_toArray, List.set_cons_zero, List.set_cons_succ]
      refine wpAnyH_take (i := 22) (oi := ?oiz22) (v := undef) ?hiz22 (by kernel_rfl) (by kernel_rfl) (by kernel_rfl) ?hqz22 (Or.inr ⟨?hwz22, rfl⟩) HS ?restz22
      case hiz22 =>
        simp only [List.getElem?_toArray, List.getElem?_cons_succ, List.getElem?_cons_zero]
        exact rfl
      case hqz22 => exact fun _ _ _ h => h
      case hwz22 => rfl
      try simp only [Act.put, List.setIfInBounds_toArray, List.set_cons_zero, List.set_cons_succ]
      refine wpAnyH_take (i := 23) (oi := ?oiz23) (v := undef) ?hiz23 (by kernel_rfl) (by kernel_rfl) (by kernel_rfl) ?hqz23 (Or.inr ⟨?hwz23, rfl⟩) HS ?restz23
      case hiz23 =>
        simp only [List.getElem?_toArray, List.getElem?_cons_succ, List.getElem?_cons_zero]
        exact rfl
      case hqz23 => exact fun _ _ _ h => h
      case hwz23 => rfl
      try simp only [Act.put, List.setIfInBounds_toArray, List.set_cons_zero, List.set_cons_succ]
      refine wpAnyH_take (i := 24) (oi := ?oiz24) (v := undef) ?hiz24 (by kernel_rfl) (by kernel_rfl) (by kernel_rfl) ?hqz24 (Or.inr ⟨?hwz24, rfl⟩) HS ?restz24
      case hiz24 =>
        simp only [List.getElem?_toArray, List.getElem?_cons_succ, List.getElem?_cons_zero]
        exact rfl
      case hqz24 => exact fun _ _ _ h => h
      case hwz24 => rfl
      try simp only [Act.put, List.setIfInBounds_toArray, List.set_cons_zero, List.set_cons_succ]
      refine wpAnyH_take (i := 25) (oi := ?oiz25) (v := undef) ?hiz25 (by kernel_rfl) (by kernel_rfl) (by kernel_rfl) ?hqz25 (Or.inr ⟨?hwz25, rfl⟩) HS ?restz25
      case hiz25 =>
        simp only [List.getElem?_toArray, List.getElem?_cons_succ, List.getElem?_cons_zero]
        exact rfl
      case hqz25 => exact fun _ _ _ h => h
      case hwz25 => rfl
      try simp only [Act.put, List.setIfInBounds_toArray, List.set_cons_zero, List.set_cons_succ]
      refine wpAnyH_take (i := 26) (oi := ?oiz26) (v := undef) ?hiz26 (by kernel_rfl) (by kernel_rfl) (by kernel_rfl) ?hqz26 (Or.inr ⟨?hwz26, rfl⟩) HS ?restz26
      case hiz26 =>
        simp only [List.getElem?_toArray, List.getElem?_cons_succ, List.getElem?_cons_zero]
        exact rfl
      case hqz26 => exact fun _ _ _ h => h
      case hwz26 => rfl
      try simp only [Act.put, List.setIfInBounds_toArray, List.set_cons_zero, List.set_cons_succ]
      refine wpAnyH_take (i := 27) (oi := ?oiz27) (v := undef) ?hiz27 (by kernel_rfl) (by kernel_rfl) (by kernel_rfl) ?hqz27 (Or.inr ⟨?hwz27, rfl⟩) HS ?restz27
      case hiz27 =>
        simp only [List.getElem?_toArray, List.getElem?_cons_succ, List.getElem?_cons_zero]
        exact rfl
      case hqz27 => exact fun _ _ _ h => h
      case hwz27 => rfl
      try simp only [Act.put, List.setIfInBounds_toArray, List.set_cons_zero, List.set_cons_succ]
      refine wpAnyH_take (i := 28) (oi := ?oiz28) (v := undef) ?hiz28 (by kernel_rfl) (by kernel_rfl) (by kernel_rfl) ?hqz28 (Or.inr ⟨?hwz28, rfl⟩) HS ?restz28
      case hiz28 =>
        simp only [List.getElem?_toArray, List.getElem?_cons_succ, List.getElem?_cons_zero]
        exact rfl
      case hqz28 => exact fun _ _ _ h => h
      case hwz28 => rfl
      try simp only [Act.put, List.setIfInBounds_toArray, List.set_cons_zero, List.set_cons_succ]
      refine wpAnyH_take (i := 29) (oi := ?oiz29) (v := undef) ?hiz29 (by kernel_rfl) (by kernel_rfl) (by kernel_rfl) ?hqz29 (Or.inr ⟨?hwz29, rfl⟩) HS ?restz29
      case hiz29 =>
        simp only [List.getElem?_toArray, List.getElem?_cons_succ, List.getElem?_cons_zero]
        exact rfl
      case hqz29 => exact fun _ _ _ h => h
      case hwz29 => rfl
      try simp only [Act.put, List.setIfInBounds_toArray, List.set_cons_zero, List.set_cons_succ]
      refine wpAnyH_take (i := 30) (oi := ?oiz30) (v := ?vz30) ?hiz30 (by kernel_rfl) (by kernel_rfl) (by kernel_rfl) ?hqz30 (Or.inl ⟨?hwz30, ?hyz30⟩) HS ?restz30
      case hiz30 =>
        simp only [List.getElem?_toArray, List.getElem?_cons_succ, List.getElem?_cons_zero]
        exact rfl
      case hqz30 => exact fun _ _ _ h => h
      case hwz30 => rfl
      case hyz30 =>
        intro w hSw
        obtain ⟨hw0_, hw1_, hw2_, hw3_, hw4_, hw5_⟩ := hSw
        go_simp
        try with_reducible rfl
      try simp only [Act.put, List.setIfInBounds_toArray, List.set_cons_zero, List.set_cons_succ]
      refine wpAnyH_take (i := 31) (oi := ?oiz31) (v := ?vz31) ?hiz31 (by kernel_rfl) (by kernel_rfl) (by kernel_rfl) ?hqz31 (Or.inl ⟨?hwz31, ?hyz31⟩) HS ?restz31
      case hiz31 =>
        simp only [List.getElem?_toArray, List.getElem?_cons_succ, List.getElem?_cons_zero]
        exact rfl
      case hqz31 => exact fun _ _ _ h => h
      case hwz31 => rfl
      case hyz31 =>
        intro w hSw
        obtain ⟨hw0_, hw1_, hw2_, hw3_, hw4_, hw5_⟩ := hSw
        go_simp
        try with_reducible rfl
      try simp only [Act.put, List.setIfInBounds_toArray, List.set_cons_zero, List.set_cons_succ]
      refine wpAnyH_done (by kernel_rfl) ?_ _
      go_wp2_with fail
      go_ret
      exact ⟨rfl, (below_drew (Below.refl w.heap.size w)).trans (below_of_grown HG2.out)⟩
  · have hq : (m == m2) = false := by simpa using e0
    have hS : samB m m2 now now2 held held2 = false := by unfold samB; rw [decide_eq_false e0]; rfl
    rw [hS]
    clear hS
    go_enter Try.func31, Try.ntmps31
    go_wp2_with fail
    go_quiet (fail)
    go_wp2
    go_ret
    exact ⟨rfl, pw_below_drewN (Below.refl _ _) _⟩
end Go.Proofs.Ytngocadnbpdnoaa.Mo
namespace Go.Proofs.Ytngocadnbpdnoaa.Mo
open Go Go.Maps Go.RowKit Go.Proofs.Ytngocadnbpdnoaa.Srt Go.Proofs.Ytngocadnbpdnoaa.Q Go.Proofs.YtngocadnbpdnoaaW.PrintWords Go.Proofs.YtngocadnbpdnoaaW.PrintLast Go.Proofs.YtngocadnbpdnoaaW.PrintMore
set_option linter.unusedVariables false
set_option linter.unusedSimpArgs false
abbrev OpS := S39
def opC (o : OpS) (A : Option Addr) (c : Nat) : Array Value := #[.int .u8 o.f0, .int .u64 o.f1, .int .u64 o.f2, .int .u64 o.f3, .int .u64 o.f4, .bool o.f5.f0, .int .i64 o.f5.f1, .int .i64 o.f5.f2, .slice A o.f6.length c, .int .u64 o.f7, .int .u64 o.f8]
structure OpWf (o : OpS) : Prop where
  key : u64wf o.f1
  val : u64wf o.f2
  han : u64wf o.f4
structure MS where
  multi : Int
  now : PL
  held : List (Int × PL)
structure AnsD where
  e : Int
  fo : Bool
  v : Int
  dn : Bool
  h : Int
  ps : PL
  c : Int
def errD (e : Int) : AnsD := ⟨e, false, 0, false, 0, [], 0⟩
def foundD (s : MS) (o : OpS) : AnsD := ⟨0, (fnd s.now o.f1).isSome, (fnd s.now o.f1).getD 0, false, 0, [], 0⟩
/-- What Do leaves and tells. -/
def DoPost (w : World) (f : Nat → Option PL) (N gp bn bh : Nat) (s : MS) (d : AnsD) (e : Ending) (w' : World) : Prop :=
  ∃ ps, e = .returned (ansV d.e d.fo d.v d.dn d.h ps d.c) ∧ kSP.R 90 w' w.heap.size (fun _ => True) ps (toS d.ps) ∧ Left w w' f N gp bn bh s.multi s.now s.held (fun k => k = bn ∨ k = bh)
/-- The world behind the boxes of Do. -/
def doW (w : World) (o : OpS) (A : Option Addr) (c : Nat) : World := (w.alloc (.cells (opC o A c) 39)).alloc (.cells (ansC 0 false 0 false 0 (.slice none 0 0) 0) 26)
theorem doW_below (w : World) (o : OpS) (A : Option Addr) (c : Nat) : Below w.heap.size w (doW w o A c) := below_alloc (below_alloc (Below.refl _ _) _) _
theorem doW_size (w : World) (o : OpS) (A : Option Addr) (c : Nat) : (doW w o A c).heap.size = w.heap.size + 2 := by simp [doW]
theorem doW_op (w : World) (o : OpS) (A : Option Addr) (c : Nat) : (doW w o A c).heap[w.heap.size]? = some (.cells (opC o A c) 39 (0, 0)) := by
  have h := heap_alloc_new w (.cells (opC o A c) 39)
  have hl : w.heap.size < (w.alloc (.cells (opC o A c) 39)).heap.size := by simp
  exact ((below_alloc (Below.refl _ (w.alloc (.cells (opC o A c) 39))) (.cells (ansC 0 false 0 false 0 (.slice none 0 0) 0) 26)).block _ hl).trans h
theorem doW_ans (w : World) (o : OpS) (A : Option Addr) (c : Nat) : (doW w o A c).heap[w.heap.size + 1]? = some (.cells (ansC 0 false 0 false 0 (.slice none 0 0) 0) 26 (0, 0)) := by
  have h := heap_alloc_new (w.alloc (.cells (opC o A c) 39)) (.cells (ansC 0 false 0 false 0 (.slice none 0 0) 0) 26)
  simpa [doW] using h
theorem Left.row {w w3 : World} {f : Nat → Option PL} {N gp bn bh : Nat} {multi : Int} {now : PL} {held : List (Int × PL)} {K : Nat → Prop} (h : Left w w3 f N gp bn bh multi now held K) {g : Nat} (hg : w.heap.size ≤ g) {old : Array Value} {T : TypeId} {fr : Nat × Nat} (hb : w3.heap[g]? = some (.cells old T fr)) (h1 : gp < w.heap.size) (h2 : bn < w.heap.size) (h3 : bh < w.heap.size) (cs : Array Value) : Left w (w3.setRow g cs) f N gp bn bh multi now held K := by
  obtain ⟨f', he, hP, hF, hk⟩ := h
  refine ⟨f', he, hP.kept (Kept_row _ _ _) (by omega) (by omega) (by omega), hF.kept (Kept_row _ _ _) (fun b l e1 e2 => ?_), hk.then_ (KO.row _ _ _) (fun k e => .inr (by omega))⟩
  subst e2
  obtain ⟨es, cl, h4, _⟩ := (hF _ _ e1).1
  rw [hb] at h4; cases h4
theorem PM.gn {w : World} {f : Nat → Option PL} {N gp bn bh : Nat} {multi : Int} {now : PL} {held : List (Int × PL)} (h : PM w f N gp bn bh multi now held) : gp ≠ bn := fun e => by
  have h1 := h.blk
  rw [e] at h1
  obtain ⟨⟨es, cl, h2, _⟩, _⟩ := h.now
  rw [h1] at h2; cases h2
theorem PM.gh {w : World} {f : Nat → Option PL} {N gp bn bh : Nat} {multi : Int} {now : PL} {held : List (Int × PL)} (h : PM w f N gp bn bh multi now held) : gp ≠ bh := fun e => by
  have h1 := h.blk
  rw [e] at h1
  obtain ⟨⟨es, cl, h2, _⟩, _⟩ := h.held
  rw [h1] at h2; cases h2
/-- now has been written. -/
theorem left_now {w W w3 : World} {f : Nat → Option PL} {N gp bn bh : Nat} {multi : Int} {now now' : PL} {held : List (Int × PL)} (hP : PM W f N gp bn bh multi now held) (hF : Fro W f N) (hb : Below w.heap.size w W) (hm : MapN w3 bn (N + 1) now') (hg : W.grownBy w3 (some bn)) : Left w w3 f (N + 1) gp bn bh multi now' held (fun k => k = bn ∨ k = bh) := by
  have hk : Kept W w3 (fun k => k = bn) := Kept.of_grown hg (Kept.refl _ _) (fun k e => .inl (by cases e; rfl))
  refine ⟨f, Ext.refl _ _, ⟨(hk.2 gp hP.gl hP.gn).trans hP.blk, hm, (hP.held.kept hk (Ne.symm hP.ne)).mono (Nat.le_succ N), hP.fn, hP.fh, hP.ne⟩, (hF.kept hk (fun b l hb e => by subst e; rw [hP.fn] at hb; cases hb)).mono (Nat.le_succ N), ((KO.of_below hb _).then_ (KO.of_grown hg (KO.refl _ _) (fun k e => .inl (by cases e; rfl)) : KO W w3 (fun k => k = bn)) (fun k e => .inl (.inl e)))⟩
theorem left_held {w W w3 : World} {f : Nat → Option PL} {N gp bn bh : Nat} {multi : Int} {now : PL} {held held' : List (Int × PL)} (hP : PM W f N gp bn bh multi now held) (hF : Fro W f N) (hb : Below w.heap.size w W) (hm : HeldN w3 f bh (N + 1) held') (hg : W.grownBy w3 (some bh)) : Left w w3 f (N + 1) gp bn bh multi now held' (fun k => k = bn ∨ k = bh) := by
  have hk : Kept W w3 (fun k => k = bh) := Kept.of_grown hg (Kept.refl _ _) (fun k e => .inl (by cases e; rfl))
  refine ⟨f, Ext.refl _ _, ⟨(hk.2 gp hP.gl hP.gh).trans hP.blk, (hP.now.kept hk hP.ne).mono (Nat.le_succ N), hm, hP.fn, hP.fh, hP.ne⟩, (hF.kept hk (fun b l hb e => by subst e; rw [hP.fh] at hb; cases hb)).mono (Nat.le_succ N), ((KO.of_below hb _).then_ (KO.of_grown hg (KO.refl _ _) (fun k e => .inl (by cases e; rfl)) : KO W w3 (fun k => k = bh)) (fun k e => .inl (.inr e)))⟩
theorem grown_undrew {w W : World} {r : Option Nat} (h : w.drew.grownBy W r) : w.grownBy W r := ⟨h.os, h.tape, h.output, h.size, h.block⟩
def snapD (h : Int) (held : List (Int × PL)) : AnsD := if (fnd held h).isSome then errD 32 else ⟨0, false, 0, false, h, [], 0⟩
theorem Left.base {w W w' : World} {f : Nat → Option PL} {N gp bn bh : Nat} {multi : Int} {now : PL} {held : List (Int × PL)} {K K' : Nat → Prop} (h : Left W w' f N gp bn bh multi now held K) (hb : Below w.heap.size w W) (hK : ∀ k, K k → K' k) : Left w w' f N gp bn bh multi now held K' := by
  obtain ⟨f', he, hP, hF, hk⟩ := h
  exact ⟨f', ⟨he.1, fun b l e => (he.2 b l e).imp id (fun h => Nat.le_trans hb.size h)⟩, hP, hF, (KO.of_below hb K').then_ hk (fun k e => .inl (hK k e))⟩
theorem ans_cells {w : World} {g : Nat} {e : Int} {fo : Bool} {v : Int} {dn : Bool} {hd : Int} {ps : Value} {c : Int} (hb : w.heap[g]? = some (.cells (ansC e fo v dn hd ps c) 26 (0, 0))) :
    w.cell? ⟨g, 0, none⟩ = some (.int .i64 e) ∧ w.cell? ⟨g, 1, none⟩ = some (.bool fo) ∧ w.cell? ⟨g, 2, none⟩ = some (.int .u64 v) ∧ w.cell? ⟨g, 3, none⟩ = some (.bool dn) ∧ w.cell? ⟨g, 4, none⟩ = some (.int .u64 hd) ∧ w.cell? ⟨g, 5, none⟩ = some ps ∧ w.cell? ⟨g, 6, none⟩ = some (.int .u64 c) := by
  refine ⟨?_, ?_, ?_, ?_, ?_, ?_, ?_⟩ <;> (rw [blk_cell hb]; rfl)
/-- The block of a struct that is read. -/
structure DoAt (w W : World) (o : OpS) (A : Option Addr) (c : Nat) (ra : Array Value) : Prop where
  op : W.heap[w.heap.size]? = some (.cells (opC o A c) 39 (0, 0))
  ans : W.heap[w.heap.size + 1]? = some (.cells ra 26 (0, 0))
  low : Kept w W (fun _ => False)
end Go.Proofs.Ytngocadnbpdnoaa.Mo
namespace Go.Proofs.Ytngocadnbpdnoaa.Mo
open Go Go.Maps Go.RowKit Go.Proofs.Ytngocadnbpdnoaa.Srt Go.Proofs.Ytngocadnbpdnoaa.Q Go.Proofs.YtngocadnbpdnoaaW.PrintWords Go.Proofs.YtngocadnbpdnoaaW.PrintLast Go.Proofs.YtngocadnbpdnoaaW.PrintMore
set_option linter.unusedVariables false
set_option linter.unusedSimpArgs false
set_option maxRecDepth 100000 in
set_option maxHeartbeats 8000000 in
theorem do_get (f : Nat → Option PL) (N gp bn bh : Nat) (multi : Int) (now : PL) (held : List (Int × PL)) (o : OpS) (A : Option Addr) (c : Nat) (hdl : Int) (w : World) (hM : PM w f N gp bn bh multi now held) (hF : Fro w f N) (hO : OpWf o) (hh : u64wf hdl) (hN : N ≤ 1099511627776) (hk : o.f0 = 1) :
    Calls Try.prog 15 #[.pointer (some ⟨gp, 0, none⟩), .agg (opC o A c), .int .u64 hdl] w (DoPost w f (N + 1) gp bn bh ⟨multi, now, held⟩ (foundD ⟨multi, now, held⟩ o)) := by
  have hgl := hM.gl
  have hnl := hM.now.lt
  have hhl := hM.held.1.lt
  have HM := Lib.hid hM
  have HF := Lib.hid hF
  have HO := Lib.hid hO
  have HU := Lib.hid hh
  have hb0 : Below w.heap.size w (doW w o A c).drew := below_drew (doW_below w o A c)
  have hP0 := hM.kept (Kept.of_below hb0 (fun _ => False)) (fun e => e) (fun e => e) (fun e => e)
  have HS : (fun w' : World => w'.cell? ⟨gp, 1, none⟩ = some (.map (some bn)) ∧ w'.cell? ⟨w.heap.size, 1, none⟩ = some (.int .u64 o.f1) ∧ (Instr.lookup 97 (.map (some bn)) (.int .u64 o.f1) true).run Try.prog w' = .ok (.tuple #[.int .u64 ((fnd now o.f1).getD 0), .bool (fnd now o.f1).isSome]) w') (doW w o A c).drew :=
    ⟨hP0.c1, by rw [blk_cell (w := (doW w o A c).drew) (doW_op w o A c)]; rfl, now_look hP0.now hO.key⟩
  obtain ⟨vh, hvh, hrunh⟩ := held_look (hM.held.kept (Kept.of_below (below_drew (below_alloc (below_drew (doW_below w o A c)) (.cells (ansC 0 (fnd now o.f1).isSome ((fnd now o.f1).getD 0) false 0 (.slice none 0 0) 0) 26))) (fun _ => False)) (fun e => e)) hO.han
  have hW2 : Below w.heap.size w ((doW w o A c).drew.alloc (.cells (ansC 0 (fnd now o.f1).isSome ((fnd now o.f1).getD 0) false 0 (.slice none 0 0) 0) 26)).drew := below_drew (below_alloc (below_drew (doW_below w o A c)) _)
  have hP2 := hM.kept (Kept.of_below hW2 (fun _ => False)) (fun e => e) (fun e => e) (fun e => e)
  have hs2 : (doW w o A c).drew.heap.size = w.heap.size + 2 := doW_size w o A c
  have hop2 : ((doW w o A c).drew.alloc (.cells (ansC 0 (fnd now o.f1).isSome ((fnd now o.f1).getD 0) false 0 (.slice none 0 0) 0) 26)).drew.heap[w.heap.size]? = some (.cells (opC o A c) 39 (0, 0)) := ((below_alloc (Below.refl _ (doW w o A c).drew) _).block _ (by rw [hs2]; omega)).trans (doW_op w o A c)
  have hra2 : ((doW w o A c).drew.alloc (.cells (ansC 0 (fnd now o.f1).isSome ((fnd now o.f1).getD 0) false 0 (.slice none 0 0) 0) 26)).drew.heap[w.heap.size + 1]? = some (.cells (ansC 0 false 0 false 0 (.slice none 0 0) 0) 26 (0, 0)) := ((below_alloc (Below.refl _ (doW w o A c).drew) _).block _ (by rw [hs2]; omega)).trans (doW_ans w o A c)
  have hfa2 : ((doW w o A c).drew.alloc (.cells (ansC 0 (fnd now o.f1).isSome ((fnd now o.f1).getD 0) false 0 (.slice none 0 0) 0) 26)).drew.heap[w.heap.size + 2]? = some (.cells (ansC 0 (fnd now o.f1).isSome ((fnd now o.f1).getD 0) false 0 (.slice none 0 0) 0) 26 (0, 0)) := by
    have := heap_alloc_new (doW w o A c).drew (.cells (ansC 0 (fnd now o.f1).isSome ((fnd now o.f1).getD 0) false 0 (.slice none 0 0) 0) 26)
    rw [hs2] at this
    exact this
  have HS2 : (fun w' : World => w'.cell? ⟨gp, 2, none⟩ = some (.map (some bh)) ∧ w'.cell? ⟨w.heap.size, 4, none⟩ = some (.int .u64 o.f4) ∧ (Instr.lookup 98 (.map (some bh)) (.int .u64 o.f4) true).run Try.prog w' = .ok (.tuple #[vh, .bool (fnd held o.f4).isSome]) w') ((doW w o A c).drew.alloc (.cells (ansC 0 (fnd now o.f1).isSome ((fnd now o.f1).getD 0) false 0 (.slice none 0 0) 0) 26)).drew :=
    ⟨hP2.c2, by rw [blk_cell hop2]; rfl, hrunh⟩
  have hkd : ((doW w o A c).drew.alloc (.cells (ansC 0 (fnd now o.f1).isSome ((fnd now o.f1).getD 0) false 0 (.slice none 0 0) 0) 26)).drew.cell? ⟨w.heap.size, 0, none⟩ = some (.int .u8 1) := by rw [blk_cell hop2, ← hk]; rfl
  have HVH := Lib.hid hvh
  have HW2 := Lib.hid hW2
  have HP2 := Lib.hid hP2
  have HOP2 := Lib.hid hop2
  have HRA2 := Lib.hid hra2
  have HFA2 := Lib.hid hfa2
  have hfnd0 : (fnd now o.f1).isSome = (fnd now o.f1).isSome := rfl
  obtain ⟨fo, hfo⟩ : ∃ b : Bool, b = (fnd now o.f1).isSome := ⟨_, rfl⟩
  obtain ⟨fv, hfv⟩ : ∃ v : Int, v = (fnd now o.f1).getD 0 := ⟨_, rfl⟩
  obtain ⟨hd, hhd⟩ : ∃ b : Bool, b = (fnd held o.f4).isSome := ⟨_, rfl⟩
  rw [← hfo, ← hfv] at HS HS2 HW2 HP2 HOP2 HRA2 HFA2 hkd
  rw [← hhd] at HS2
  have HFO := Lib.hid hfo
  have HFV := Lib.hid hfv
  have HHD := Lib.hid hhd
  clear hM hF hO hh hb0 hP0 hvh hrunh hW2 hP2 hs2 hop2 hra2 hfa2 hfnd0 hfo hfv hhd
  obtain ⟨W1, hW1⟩ : ∃ W1, W1 = doW w o A c := ⟨_, rfl⟩
  have HW1 := Lib.hid hW1
  rw [← hW1] at HS HS2 HW2 HP2 HOP2 HRA2 HFA2 hkd
  go_enter Try.func15, Try.ntmps15
  go_wp2_with fail
  change Code.wp _ _ _ _ (doW w o A c)
  rw [← hW1]
  clear hW1
  go_region_held3 (fun w' => w'.cell? ⟨gp, 1, none⟩ = some (.map (some bn)) ∧ w'.cell? ⟨w.heap.size, 1, none⟩ = some (.int .u64 o.f1) ∧ (Instr.lookup 97 (.map (some bn)) (.int .u64 o.f1) true).run Try.prog w' = .ok (.tuple #[.int .u64 fv, .bool fo]) w')
    (first | go_keep | exact HS)
    (first | fail | fail)
  clear HS
  have hs1 : W1.heap.size = w.heap.size + 2 := by rw [HW1.out]; exact doW_size w o A c
  go_wp2_with fail
  obtain ⟨W2, hW2⟩ : ∃ W2, W2 = W1.drew.alloc (Obj.cells (ansC 0 fo fv false 0 (Value.slice none 0 0) 0) 26) := ⟨_, rfl⟩
  change Code.wp _ _ _ _ (W1.drew.alloc (Obj.cells (ansC 0 fo fv false 0 (Value.slice none 0 0) 0) 26))
  rw [← hW2] at HS2 HW2 HP2 HOP2 HRA2 HFA2 hkd ⊢
  clear hW2
  go_region_held3 (fun w' => w'.cell? ⟨gp, 2, none⟩ = some (.map (some bh)) ∧ w'.cell? ⟨w.heap.size, 4, none⟩ = some (.int .u64 o.f4) ∧ (Instr.lookup 98 (.map (some bh)) (.int .u64 o.f4) true).run Try.prog w' = .ok (.tuple #[vh, .bool hd]) w')
    (first | go_keep | exact HS2)
    (first | fail | fail)
  clear HS2
  obtain ⟨W, hW⟩ : ∃ W, W = W2.drew := ⟨_, rfl⟩
  rw [← hW] at HW2 HP2 HOP2 HRA2 HFA2 hkd ⊢
  clear hW
  have HL3 := Lib.hid (left_same (K := fun k => k = bn ∨ k = bh) HM.out HF.out HW2.out (Nat.le_succ N))
  have HFA3 := HFA2
  have HRA3 := HRA2
  obtain ⟨l0, l1, l2, l3, l4, l5, l6⟩ := ans_cells HFA3.out
  go_wp2_with (first | ((with_reducible refine gate_store (t := 26) (p := 6) rfl ?_); refine wpList_store_row rfl 26 (.tmp 6) (.tmp 59) rfl (w.heap.size + 1) (ansC 0 fo fv false 0 (.slice none 0 0) 0) rfl rfl 26 _ HRA3.out (by kernel_rfl) rfl (ansC_one _ _ _ _ _ _ _ _ _) ?_))
  refine bodyPost_ret (res_ans rfl _ rfl (setRow_heap _ _ _ _ _ _ HRA3.out)) rfl ⟨.slice none 0 0, by rw [HFO.out, HFV.out]; rfl, Kd.R_nil _ _ _ _ _, HL3.out.row (by omega) HRA3.out hgl hnl hhl _⟩
end Go.Proofs.Ytngocadnbpdnoaa.Mo
namespace Go.Proofs.Ytngocadnbpdnoaa.Mo
open Go Go.Maps Go.RowKit Go.Proofs.Ytngocadnbpdnoaa.Srt Go.Proofs.Ytngocadnbpdnoaa.Q Go.Proofs.YtngocadnbpdnoaaW.PrintWords Go.Proofs.YtngocadnbpdnoaaW.PrintLast Go.Proofs.YtngocadnbpdnoaaW.PrintMore
set_option linter.unusedVariables false
set_option linter.unusedSimpArgs false
set_option maxRecDepth 100000 in
set_option maxHeartbeats 8000000 in
theorem do_del (f : Nat → Option PL) (N gp bn bh : Nat) (multi : Int) (now : PL) (held : List (Int × PL)) (o : OpS) (A : Option Addr) (c : Nat) (hdl : Int) (w : World) (hM : PM w f N gp bn bh multi now held) (hF : Fro w f N) (hO : OpWf o) (hh : u64wf hdl) (hN : N ≤ 1099511627776) (hk : o.f0 = 3) :
    Calls Try.prog 15 #[.pointer (some ⟨gp, 0, none⟩), .agg (opC o A c), .int .u64 hdl] w (DoPost w f (N + 1) gp bn bh ⟨multi, del now o.f1, held⟩ (foundD ⟨multi, now, held⟩ o)) := by
  have hgl := hM.gl
  have hnl := hM.now.lt
  have hhl := hM.held.1.lt
  have HM := Lib.hid hM
  have HF := Lib.hid hF
  have HO := Lib.hid hO
  have HU := Lib.hid hh
  have hb0 : Below w.heap.size w (doW w o A c).drew := below_drew (doW_below w o A c)
  have hP0 := hM.kept (Kept.of_below hb0 (fun _ => False)) (fun e => e) (fun e => e) (fun e => e)
  have HS : (fun w' : World => w'.cell? ⟨gp, 1, none⟩ = some (.map (some bn)) ∧ w'.cell? ⟨w.heap.size, 1, none⟩ = some (.int .u64 o.f1) ∧ (Instr.lookup 97 (.map (some bn)) (.int .u64 o.f1) true).run Try.prog w' = .ok (.tuple #[.int .u64 ((fnd now o.f1).getD 0), .bool (fnd now o.f1).isSome]) w') (doW w o A c).drew :=
    ⟨hP0.c1, by rw [blk_cell (w := (doW w o A c).drew) (doW_op w o A c)]; rfl, now_look hP0.now hO.key⟩
  obtain ⟨vh, hvh, hrunh⟩ := held_look (hM.held.kept (Kept.of_below (below_drew (below_alloc (below_drew (doW_below w o A c)) (.cells (ansC 0 (fnd now o.f1).isSome ((fnd now o.f1).getD 0) false 0 (.slice none 0 0) 0) 26))) (fun _ => False)) (fun e => e)) hO.han
  have hW2 : Below w.heap.size w ((doW w o A c).drew.alloc (.cells (ansC 0 (fnd now o.f1).isSome ((fnd now o.f1).getD 0) false 0 (.slice none 0 0) 0) 26)).drew := below_drew (below_alloc (below_drew (doW_below w o A c)) _)
  have hP2 := hM.kept (Kept.of_below hW2 (fun _ => False)) (fun e => e) (fun e => e) (fun e => e)
  have hs2 : (doW w o A c).drew.heap.size = w.heap.size + 2 := doW_size w o A c
  have hop2 : ((doW w o A c).drew.alloc (.cells (ansC 0 (fnd now o.f1).isSome ((fnd now o.f1).getD 0) false 0 (.slice none 0 0) 0) 26)).drew.heap[w.heap.size]? = some (.cells (opC o A c) 39 (0, 0)) := ((below_alloc (Below.refl _ (doW w o A c).drew) _).block _ (by rw [hs2]; omega)).trans (doW_op w o A c)
  have hra2 : ((doW w o A c).drew.alloc (.cells (ansC 0 (fnd now o.f1).isSome ((fnd now o.f1).getD 0) false 0 (.slice none 0 0) 0) 26)).drew.heap[w.heap.size + 1]? = some (.cells (ansC 0 false 0 false 0 (.slice none 0 0) 0) 26 (0, 0)) := ((below_alloc (Below.refl _ (doW w o A c).drew) _).block _ (by rw [hs2]; omega)).trans (doW_ans w o A c)
  have hfa2 : ((doW w o A c).drew.alloc (.cells (ansC 0 (fnd now o.f1).isSome ((fnd now o.f1).getD 0) false 0 (.slice none 0 0) 0) 26)).drew.heap[w.heap.size + 2]? = some (.cells (ansC 0 (fnd now o.f1).isSome ((fnd now o.f1).getD 0) false 0 (.slice none 0 0) 0) 26 (0, 0)) := by
    have := heap_alloc_new (doW w o A c).drew (.cells (ansC 0 (fnd now o.f1).isSome ((fnd now o.f1).getD 0) false 0 (.slice none 0 0) 0) 26)
    rw [hs2] at this
    exact this
  have HS2 : (fun w' : World => w'.cell? ⟨gp, 2, none⟩ = some (.map (some bh)) ∧ w'.cell? ⟨w.heap.size, 4, none⟩ = some (.int .u64 o.f4) ∧ (Instr.lookup 98 (.map (some bh)) (.int .u64 o.f4) true).run Try.prog w' = .ok (.tuple #[vh, .bool (fnd held o.f4).isSome]) w') ((doW w o A c).drew.alloc (.cells (ansC 0 (fnd now o.f1).isSome ((fnd now o.f1).getD 0) false 0 (.slice none 0 0) 0) 26)).drew :=
    ⟨hP2.c2, by rw [blk_cell hop2]; rfl, hrunh⟩
  have hkd : ((doW w o A c).drew.alloc (.cells (ansC 0 (fnd now o.f1).isSome ((fnd now o.f1).getD 0) false 0 (.slice none 0 0) 0) 26)).drew.cell? ⟨w.heap.size, 0, none⟩ = some (.int .u8 3) := by rw [blk_cell hop2, ← hk]; rfl
  have HVH := Lib.hid hvh
  have HW2 := Lib.hid hW2
  have HP2 := Lib.hid hP2
  have HOP2 := Lib.hid hop2
  have HRA2 := Lib.hid hra2
  have HFA2 := Lib.hid hfa2
  have hfnd0 : (fnd now o.f1).isSome = (fnd now o.f1).isSome := rfl
  obtain ⟨fo, hfo⟩ : ∃ b : Bool, b = (fnd now o.f1).isSome := ⟨_, rfl⟩
  obtain ⟨fv, hfv⟩ : ∃ v : Int, v = (fnd now o.f1).getD 0 := ⟨_, rfl⟩
  obtain ⟨hd, hhd⟩ : ∃ b : Bool, b = (fnd held o.f4).isSome := ⟨_, rfl⟩
  rw [← hfo, ← hfv] at HS HS2 HW2 HP2 HOP2 HRA2 HFA2 hkd
  rw [← hhd] at HS2
  have HFO := Lib.hid hfo
  have HFV := Lib.hid hfv
  have HHD := Lib.hid hhd
  clear hM hF hO hh hb0 hP0 hvh hrunh hW2 hP2 hs2 hop2 hra2 hfa2 hfnd0 hfo hfv hhd
  obtain ⟨W1, hW1⟩ : ∃ W1, W1 = doW w o A c := ⟨_, rfl⟩
  have HW1 := Lib.hid hW1
  rw [← hW1] at HS HS2 HW2 HP2 HOP2 HRA2 HFA2 hkd
  go_enter Try.func15, Try.ntmps15
  go_wp2_with fail
  change Code.wp _ _ _ _ (doW w o A c)
  rw [← hW1]
  clear hW1
  go_region_held3 (fun w' => w'.cell? ⟨gp, 1, none⟩ = some (.map (some bn)) ∧ w'.cell? ⟨w.heap.size, 1, none⟩ = some (.int .u64 o.f1) ∧ (Instr.lookup 97 (.map (some bn)) (.int .u64 o.f1) true).run Try.prog w' = .ok (.tuple #[.int .u64 fv, .bool fo]) w')
    (first | go_keep | exact HS)
    (first | fail | fail)
  clear HS
  have hs1 : W1.heap.size = w.heap.size + 2 := by rw [HW1.out]; exact doW_size w o A c
  go_wp2_with fail
  obtain ⟨W2, hW2⟩ : ∃ W2, W2 = W1.drew.alloc (Obj.cells (ansC 0 fo fv false 0 (Value.slice none 0 0) 0) 26) := ⟨_, rfl⟩
  change Code.wp _ _ _ _ (W1.drew.alloc (Obj.cells (ansC 0 fo fv false 0 (Value.slice none 0 0) 0) 26))
  rw [← hW2] at HS2 HW2 HP2 HOP2 HRA2 HFA2 hkd ⊢
  clear hW2
  go_region_held3 (fun w' => w'.cell? ⟨gp, 2, none⟩ = some (.map (some bh)) ∧ w'.cell? ⟨w.heap.size, 4, none⟩ = some (.int .u64 o.f4) ∧ (Instr.lookup 98 (.map (some bh)) (.int .u64 o.f4) true).run Try.prog w' = .ok (.tuple #[vh, .bool hd]) w')
    (first | go_keep | exact HS2)
    (first | fail | fail)
  clear HS2
  obtain ⟨W, hW⟩ : ∃ W, W = W2.drew := ⟨_, rfl⟩
  rw [← hW] at HW2 HP2 HOP2 HRA2 HFA2 hkd ⊢
  clear hW
  obtain ⟨w3, hrun3, ho3', hg3⟩ := now_del (w := W.drew) HP2.out.now HO.out.key 0
  have ho3 := ho3'.mono (Nat.le_succ N)
  clear ho3'
  replace hg3 := grown_undrew hg3
  have HL3 := Lib.hid (left_now HP2.out (HF.out.kept (Kept.of_below HW2.out (fun _ => False)) (fun _ _ _ e => e)) HW2.out ho3 hg3)
  have hk3 : Kept W w3 (fun k => k = bn) := Kept.of_grown hg3 (Kept.refl _ _) (fun k e => .inl (by cases e; rfl))
  have hcA := HP2.out.c1
  have hcB : W.cell? ⟨w.heap.size, 1, none⟩ = some (.int .u64 o.f1) := by rw [blk_cell HOP2.out]; rfl
  have hcC : W.cell? ⟨w.heap.size, 2, none⟩ = some (.int .u64 o.f2) := by rw [blk_cell HOP2.out]; rfl
  have hdA : w3.cell? ⟨gp, 1, none⟩ = some (.map (some bn)) := cell_kept hcA hk3 HM.out.gn
  have hdB := cell_kept hcB hk3 (show ¬ w.heap.size = bn by omega)
  have hdC := cell_kept hcC hk3 (show ¬ w.heap.size = bn by omega)
  have HFA3 := Lib.hid (blk_kept HFA2.out hk3 (show ¬ w.heap.size + 2 = bn by omega))
  have HRA3 := Lib.hid (blk_kept HRA2.out hk3 (show ¬ w.heap.size + 1 = bn by omega))
  clear hk3 ho3 hg3
  go_wp2_with fail
  go_region_held3 (fun w' => w'.cell? ⟨gp, 1, none⟩ = some (.map (some bn)) ∧ w'.cell? ⟨w.heap.size, 1, none⟩ = some (.int .u64 o.f1) ∧ w'.cell? ⟨w.heap.size, 2, none⟩ = some (.int .u64 o.f2))
    (first | go_keep | exact ⟨hcA, hcB, hcC⟩ | exact ⟨hdA, hdB, hdC⟩)
    (first | fail | fail)
  clear hcA hcB hcC hdA hdB hdC hrun3
  obtain ⟨l0, l1, l2, l3, l4, l5, l6⟩ := ans_cells HFA3.out
  go_wp2_with (first | ((with_reducible refine gate_store (t := 26) (p := 6) rfl ?_); refine wpList_store_row rfl 26 (.tmp 6) (.tmp 75) rfl (w.heap.size + 1) (ansC 0 fo fv false 0 (.slice none 0 0) 0) rfl rfl 26 _ HRA3.out (by kernel_rfl) rfl (ansC_one _ _ _ _ _ _ _ _ _) ?_))
  refine bodyPost_ret (res_ans rfl _ rfl (setRow_heap _ _ _ _ _ _ HRA3.out)) rfl ⟨.slice none 0 0, by rw [HFO.out, HFV.out]; rfl, Kd.R_nil _ _ _ _ _, HL3.out.row (by omega) HRA3.out hgl hnl hhl _⟩
end Go.Proofs.Ytngocadnbpdnoaa.Mo
namespace Go.Proofs.Ytngocadnbpdnoaa.Mo
open Go Go.Maps Go.RowKit Go.Proofs.Ytngocadnbpdnoaa.Srt Go.Proofs.Ytngocadnbpdnoaa.Q Go.Proofs.YtngocadnbpdnoaaW.PrintWords Go.Proofs.YtngocadnbpdnoaaW.PrintLast Go.Proofs.YtngocadnbpdnoaaW.PrintMore
set_option linter.unusedVariables false
set_option linter.unusedSimpArgs false
set_option maxRecDepth 100000 in
set_option maxHeartbeats 8000000 in
theorem do_coll (f : Nat → Option PL) (N gp bn bh : Nat) (multi : Int) (now : PL) (held : List (Int × PL)) (o : OpS) (A : Option Addr) (c : Nat) (hdl : Int) (w : World) (hM : PM w f N gp bn bh multi now held) (hF : Fro w f N) (hO : OpWf o) (hh : u64wf hdl) (hN : N ≤ 1099511627776) (hk : o.f0 = 10) :
    Calls Try.prog 15 #[.pointer (some ⟨gp, 0, none⟩), .agg (opC o A c), .int .u64 hdl] w (DoPost w f (N + 1) gp bn bh ⟨multi, now, held⟩ (errD 0)) := by
  have hgl := hM.gl
  have hnl := hM.now.lt
  have hhl := hM.held.1.lt
  have HM := Lib.hid hM
  have HF := Lib.hid hF
  have HO := Lib.hid hO
  have HU := Lib.hid hh
  have hb0 : Below w.heap.size w (doW w o A c).drew := below_drew (doW_below w o A c)
  have hP0 := hM.kept (Kept.of_below hb0 (fun _ => False)) (fun e => e) (fun e => e) (fun e => e)
  have HS : (fun w' : World => w'.cell? ⟨gp, 1, none⟩ = some (.map (some bn)) ∧ w'.cell? ⟨w.heap.size, 1, none⟩ = some (.int .u64 o.f1) ∧ (Instr.lookup 97 (.map (some bn)) (.int .u64 o.f1) true).run Try.prog w' = .ok (.tuple #[.int .u64 ((fnd now o.f1).getD 0), .bool (fnd now o.f1).isSome]) w') (doW w o A c).drew :=
    ⟨hP0.c1, by rw [blk_cell (w := (doW w o A c).drew) (doW_op w o A c)]; rfl, now_look hP0.now hO.key⟩
  obtain ⟨vh, hvh, hrunh⟩ := held_look (hM.held.kept (Kept.of_below (below_drew (below_alloc (below_drew (doW_below w o A c)) (.cells (ansC 0 (fnd now o.f1).isSome ((fnd now o.f1).getD 0) false 0 (.slice none 0 0) 0) 26))) (fun _ => False)) (fun e => e)) hO.han
  have hW2 : Below w.heap.size w ((doW w o A c).drew.alloc (.cells (ansC 0 (fnd now o.f1).isSome ((fnd now o.f1).getD 0) false 0 (.slice none 0 0) 0) 26)).drew := below_drew (below_alloc (below_drew (doW_below w o A c)) _)
  have hP2 := hM.kept (Kept.of_below hW2 (fun _ => False)) (fun e => e) (fun e => e) (fun e => e)
  have hs2 : (doW w o A c).drew.heap.size = w.heap.size + 2 := doW_size w o A c
  have hop2 : ((doW w o A c).drew.alloc (.cells (ansC 0 (fnd now o.f1).isSome ((fnd now o.f1).getD 0) false 0 (.slice none 0 0) 0) 26)).drew.heap[w.heap.size]? = some (.cells (opC o A c) 39 (0, 0)) := ((below_alloc (Below.refl _ (doW w o A c).drew) _).block _ (by rw [hs2]; omega)).trans (doW_op w o A c)
  have hra2 : ((doW w o A c).drew.alloc (.cells (ansC 0 (fnd now o.f1).isSome ((fnd now o.f1).getD 0) false 0 (.slice none 0 0) 0) 26)).drew.heap[w.heap.size + 1]? = some (.cells (ansC 0 false 0 false 0 (.slice none 0 0) 0) 26 (0, 0)) := ((below_alloc (Below.refl _ (doW w o A c).drew) _).block _ (by rw [hs2]; omega)).trans (doW_ans w o A c)
  have hfa2 : ((doW w o A c).drew.alloc (.cells (ansC 0 (fnd now o.f1).isSome ((fnd now o.f1).getD 0) false 0 (.slice none 0 0) 0) 26)).drew.heap[w.heap.size + 2]? = some (.cells (ansC 0 (fnd now o.f1).isSome ((fnd now o.f1).getD 0) false 0 (.slice none 0 0) 0) 26 (0, 0)) := by
    have := heap_alloc_new (doW w o A c).drew (.cells (ansC 0 (fnd now o.f1).isSome ((fnd now o.f1).getD 0) false 0 (.slice none 0 0) 0) 26)
    rw [hs2] at this
    exact this
  have HS2 : (fun w' : World => w'.cell? ⟨gp, 2, none⟩ = some (.map (some bh)) ∧ w'.cell? ⟨w.heap.size, 4, none⟩ = some (.int .u64 o.f4) ∧ (Instr.lookup 98 (.map (some bh)) (.int .u64 o.f4) true).run Try.prog w' = .ok (.tuple #[vh, .bool (fnd held o.f4).isSome]) w') ((doW w o A c).drew.alloc (.cells (ansC 0 (fnd now o.f1).isSome ((fnd now o.f1).getD 0) false 0 (.slice none 0 0) 0) 26)).drew :=
    ⟨hP2.c2, by rw [blk_cell hop2]; rfl, hrunh⟩
  have hkd : ((doW w o A c).drew.alloc (.cells (ansC 0 (fnd now o.f1).isSome ((fnd now o.f1).getD 0) false 0 (.slice none 0 0) 0) 26)).drew.cell? ⟨w.heap.size, 0, none⟩ = some (.int .u8 10) := by rw [blk_cell hop2, ← hk]; rfl
  have HVH := Lib.hid hvh
  have HW2 := Lib.hid hW2
  have HP2 := Lib.hid hP2
  have HOP2 := Lib.hid hop2
  have HRA2 := Lib.hid hra2
  have HFA2 := Lib.hid hfa2
  have hfnd0 : (fnd now o.f1).isSome = (fnd now o.f1).isSome := rfl
  obtain ⟨fo, hfo⟩ : ∃ b : Bool, b = (fnd now o.f1).isSome := ⟨_, rfl⟩
  obtain ⟨fv, hfv⟩ : ∃ v : Int, v = (fnd now o.f1).getD 0 := ⟨_, rfl⟩
  obtain ⟨hd, hhd⟩ : ∃ b : Bool, b = (fnd held o.f4).isSome := ⟨_, rfl⟩
  rw [← hfo, ← hfv] at HS HS2 HW2 HP2 HOP2 HRA2 HFA2 hkd
  rw [← hhd] at HS2
  have HFO := Lib.hid hfo
  have HFV := Lib.hid hfv
  have HHD := Lib.hid hhd
  clear hM hF hO hh hb0 hP0 hvh hrunh hW2 hP2 hs2 hop2 hra2 hfa2 hfnd0 hfo hfv hhd
  obtain ⟨W1, hW1⟩ : ∃ W1, W1 = doW w o A c := ⟨_, rfl⟩
  have HW1 := Lib.hid hW1
  rw [← hW1] at HS HS2 HW2 HP2 HOP2 HRA2 HFA2 hkd
  go_enter Try.func15, Try.ntmps15
  go_wp2_with fail
  change Code.wp _ _ _ _ (doW w o A c)
  rw [← hW1]
  clear hW1
  go_region_held3 (fun w' => w'.cell? ⟨gp, 1, none⟩ = some (.map (some bn)) ∧ w'.cell? ⟨w.heap.size, 1, none⟩ = some (.int .u64 o.f1) ∧ (Instr.lookup 97 (.map (some bn)) (.int .u64 o.f1) true).run Try.prog w' = .ok (.tuple #[.int .u64 fv, .bool fo]) w')
    (first | go_keep | exact HS)
    (first | fail | fail)
  clear HS
  have hs1 : W1.heap.size = w.heap.size + 2 := by rw [HW1.out]; exact doW_size w o A c
  go_wp2_with fail
  obtain ⟨W2, hW2⟩ : ∃ W2, W2 = W1.drew.alloc (Obj.cells (ansC 0 fo fv false 0 (Value.slice none 0 0) 0) 26) := ⟨_, rfl⟩
  change Code.wp _ _ _ _ (W1.drew.alloc (Obj.cells (ansC 0 fo fv false 0 (Value.slice none 0 0) 0) 26))
  rw [← hW2] at HS2 HW2 HP2 HOP2 HRA2 HFA2 hkd ⊢
  clear hW2
  go_region_held3 (fun w' => w'.cell? ⟨gp, 2, none⟩ = some (.map (some bh)) ∧ w'.cell? ⟨w.heap.size, 4, none⟩ = some (.int .u64 o.f4) ∧ (Instr.lookup 98 (.map (some bh)) (.int .u64 o.f4) true).run Try.prog w' = .ok (.tuple #[vh, .bool hd]) w')
    (first | go_keep | exact HS2)
    (first | fail | fail)
  clear HS2
  obtain ⟨W, hW⟩ : ∃ W, W = W2.drew := ⟨_, rfl⟩
  rw [← hW] at HW2 HP2 HOP2 HRA2 HFA2 hkd ⊢
  clear hW
  have HL3 := Lib.hid (left_same (K := fun k => k = bn ∨ k = bh) HM.out HF.out HW2.out (Nat.le_succ N))
  have HFA3 := HFA2
  have HRA3 := HRA2
  obtain ⟨l0, l1, l2, l3, l4, l5, l6⟩ := ans_cells HFA3.out
  go_wp2_with (first | ((with_reducible refine gate_store (t := 26) (p := 6) rfl ?_); refine wpList_store_row rfl 26 (.tmp 6) (.tmp 121) rfl (w.heap.size + 1) (ansC 0 false 0 false 0 (.slice none 0 0) 0) rfl rfl 26 _ HRA3.out (by kernel_rfl) rfl (ansC_one _ _ _ _ _ _ _ _ _) ?_))
  refine bodyPost_ret (res_ans rfl _ rfl (setRow_heap _ _ _ _ _ _ HRA3.out)) rfl ⟨.slice none 0 0, by rfl, Kd.R_nil _ _ _ _ _, HL3.out.row (by omega) HRA3.out hgl hnl hhl _⟩
end Go.Proofs.Ytngocadnbpdnoaa.Mo
namespace Go.Proofs.Ytngocadnbpdnoaa.Mo
open Go Go.Maps Go.RowKit Go.Proofs.Ytngocadnbpdnoaa.Srt Go.Proofs.Ytngocadnbpdnoaa.Q Go.Proofs.YtngocadnbpdnoaaW.PrintWords Go.Proofs.YtngocadnbpdnoaaW.PrintLast Go.Proofs.YtngocadnbpdnoaaW.PrintMore
set_option linter.unusedVariables false
set_option linter.unusedSimpArgs false
set_option maxRecDepth 100000 in
set_option maxHeartbeats 8000000 in
theorem do_relN (f : Nat → Option PL) (N gp bn bh : Nat) (multi : Int) (now : PL) (held : List (Int × PL)) (o : OpS) (A : Option Addr) (c : Nat) (hdl : Int) (w : World) (hM : PM w f N gp bn bh multi now held) (hF : Fro w f N) (hO : OpWf o) (hh : u64wf hdl) (hN : N ≤ 1099511627776) (hk : o.f0 = 6) (hx : fnd held o.f4 = none) :
    Calls Try.prog 15 #[.pointer (some ⟨gp, 0, none⟩), .agg (opC o A c), .int .u64 hdl] w (DoPost w f (N + 1) gp bn bh ⟨multi, now, held⟩ (errD 33)) := by
  have hgl := hM.gl
  have hnl := hM.now.lt
  have hhl := hM.held.1.lt
  have HM := Lib.hid hM
  have HF := Lib.hid hF
  have HO := Lib.hid hO
  have HU := Lib.hid hh
  have hb0 : Below w.heap.size w (doW w o A c).drew := below_drew (doW_below w o A c)
  have hP0 := hM.kept (Kept.of_below hb0 (fun _ => False)) (fun e => e) (fun e => e) (fun e => e)
  have HS : (fun w' : World => w'.cell? ⟨gp, 1, none⟩ = some (.map (some bn)) ∧ w'.cell? ⟨w.heap.size, 1, none⟩ = some (.int .u64 o.f1) ∧ (Instr.lookup 97 (.map (some bn)) (.int .u64 o.f1) true).run Try.prog w' = .ok (.tuple #[.int .u64 ((fnd now o.f1).getD 0), .bool (fnd now o.f1).isSome]) w') (doW w o A c).drew :=
    ⟨hP0.c1, by rw [blk_cell (w := (doW w o A c).drew) (doW_op w o A c)]; rfl, now_look hP0.now hO.key⟩
  obtain ⟨vh, hvh, hrunh⟩ := held_look (hM.held.kept (Kept.of_below (below_drew (below_alloc (below_drew (doW_below w o A c)) (.cells (ansC 0 (fnd now o.f1).isSome ((fnd now o.f1).getD 0) false 0 (.slice none 0 0) 0) 26))) (fun _ => False)) (fun e => e)) hO.han
  have hW2 : Below w.heap.size w ((doW w o A c).drew.alloc (.cells (ansC 0 (fnd now o.f1).isSome ((fnd now o.f1).getD 0) false 0 (.slice none 0 0) 0) 26)).drew := below_drew (below_alloc (below_drew (doW_below w o A c)) _)
  have hP2 := hM.kept (Kept.of_below hW2 (fun _ => False)) (fun e => e) (fun e => e) (fun e => e)
  have hs2 : (doW w o A c).drew.heap.size = w.heap.size + 2 := doW_size w o A c
  have hop2 : ((doW w o A c).drew.alloc (.cells (ansC 0 (fnd now o.f1).isSome ((fnd now o.f1).getD 0) false 0 (.slice none 0 0) 0) 26)).drew.heap[w.heap.size]? = some (.cells (opC o A c) 39 (0, 0)) := ((below_alloc (Below.refl _ (doW w o A c).drew) _).block _ (by rw [hs2]; omega)).trans (doW_op w o A c)
  have hra2 : ((doW w o A c).drew.alloc (.cells (ansC 0 (fnd now o.f1).isSome ((fnd now o.f1).getD 0) false 0 (.slice none 0 0) 0) 26)).drew.heap[w.heap.size + 1]? = some (.cells (ansC 0 false 0 false 0 (.slice none 0 0) 0) 26 (0, 0)) := ((below_alloc (Below.refl _ (doW w o A c).drew) _).block _ (by rw [hs2]; omega)).trans (doW_ans w o A c)
  have hfa2 : ((doW w o A c).drew.alloc (.cells (ansC 0 (fnd now o.f1).isSome ((fnd now o.f1).getD 0) false 0 (.slice none 0 0) 0) 26)).drew.heap[w.heap.size + 2]? = some (.cells (ansC 0 (fnd now o.f1).isSome ((fnd now o.f1).getD 0) false 0 (.slice none 0 0) 0) 26 (0, 0)) := by
    have := heap_alloc_new (doW w o A c).drew (.cells (ansC 0 (fnd now o.f1).isSome ((fnd now o.f1).getD 0) false 0 (.slice none 0 0) 0) 26)
    rw [hs2] at this
    exact this
  have HS2 : (fun w' : World => w'.cell? ⟨gp, 2, none⟩ = some (.map (some bh)) ∧ w'.cell? ⟨w.heap.size, 4, none⟩ = some (.int .u64 o.f4) ∧ (Instr.lookup 98 (.map (some bh)) (.int .u64 o.f4) true).run Try.prog w' = .ok (.tuple #[vh, .bool (fnd held o.f4).isSome]) w') ((doW w o A c).drew.alloc (.cells (ansC 0 (fnd now o.f1).isSome ((fnd now o.f1).getD 0) false 0 (.slice none 0 0) 0) 26)).drew :=
    ⟨hP2.c2, by rw [blk_cell hop2]; rfl, hrunh⟩
  have hkd : ((doW w o A c).drew.alloc (.cells (ansC 0 (fnd now o.f1).isSome ((fnd now o.f1).getD 0) false 0 (.slice none 0 0) 0) 26)).drew.cell? ⟨w.heap.size, 0, none⟩ = some (.int .u8 6) := by rw [blk_cell hop2, ← hk]; rfl
  have HVH := Lib.hid hvh
  have HW2 := Lib.hid hW2
  have HP2 := Lib.hid hP2
  have HOP2 := Lib.hid hop2
  have HRA2 := Lib.hid hra2
  have HFA2 := Lib.hid hfa2
  have hfnd0 : (fnd now o.f1).isSome = (fnd now o.f1).isSome := rfl
  obtain ⟨fo, hfo⟩ : ∃ b : Bool, b = (fnd now o.f1).isSome := ⟨_, rfl⟩
  obtain ⟨fv, hfv⟩ : ∃ v : Int, v = (fnd now o.f1).getD 0 := ⟨_, rfl⟩
  obtain ⟨hd, hhd⟩ : ∃ b : Bool, b = (fnd held o.f4).isSome := ⟨_, rfl⟩
  rw [← hfo, ← hfv] at HS HS2 HW2 HP2 HOP2 HRA2 HFA2 hkd
  rw [← hhd] at HS2
  have HFO := Lib.hid hfo
  have HFV := Lib.hid hfv
  have HHD := Lib.hid hhd
  clear hM hF hO hh hb0 hP0 hvh hrunh hW2 hP2 hs2 hop2 hra2 hfa2 hfnd0 hfo hfv hhd
  obtain ⟨W1, hW1⟩ : ∃ W1, W1 = doW w o A c := ⟨_, rfl⟩
  have HW1 := Lib.hid hW1
  rw [← hW1] at HS HS2 HW2 HP2 HOP2 HRA2 HFA2 hkd
  go_enter Try.func15, Try.ntmps15
  go_wp2_with fail
  change Code.wp _ _ _ _ (doW w o A c)
  rw [← hW1]
  clear hW1
  go_region_held3 (fun w' => w'.cell? ⟨gp, 1, none⟩ = some (.map (some bn)) ∧ w'.cell? ⟨w.heap.size, 1, none⟩ = some (.int .u64 o.f1) ∧ (Instr.lookup 97 (.map (some bn)) (.int .u64 o.f1) true).run Try.prog w' = .ok (.tuple #[.int .u64 fv, .bool fo]) w')
    (first | go_keep | exact HS)
    (first | fail | fail)
  clear HS
  have hs1 : W1.heap.size = w.heap.size + 2 := by rw [HW1.out]; exact doW_size w o A c
  go_wp2_with fail
  obtain ⟨W2, hW2⟩ : ∃ W2, W2 = W1.drew.alloc (Obj.cells (ansC 0 fo fv false 0 (Value.slice none 0 0) 0) 26) := ⟨_, rfl⟩
  change Code.wp _ _ _ _ (W1.drew.alloc (Obj.cells (ansC 0 fo fv false 0 (Value.slice none 0 0) 0) 26))
  rw [← hW2] at HS2 HW2 HP2 HOP2 HRA2 HFA2 hkd ⊢
  clear hW2
  go_region_held3 (fun w' => w'.cell? ⟨gp, 2, none⟩ = some (.map (some bh)) ∧ w'.cell? ⟨w.heap.size, 4, none⟩ = some (.int .u64 o.f4) ∧ (Instr.lookup 98 (.map (some bh)) (.int .u64 o.f4) true).run Try.prog w' = .ok (.tuple #[vh, .bool hd]) w')
    (first | go_keep | exact HS2)
    (first | fail | fail)
  clear HS2
  obtain ⟨W, hW⟩ : ∃ W, W = W2.drew := ⟨_, rfl⟩
  rw [← hW] at HW2 HP2 HOP2 HRA2 HFA2 hkd ⊢
  clear hW
  obtain rfl : hd = false := by rw [HHD.out, hx]; rfl
  have HL3 := Lib.hid (left_same (K := fun k => k = bn ∨ k = bh) HM.out HF.out HW2.out (Nat.le_succ N))
  have HFA3 := HFA2
  have HRA3 := HRA2
  obtain ⟨l0, l1, l2, l3, l4, l5, l6⟩ := ans_cells HFA3.out
  go_wp2_with (first | ((with_reducible refine gate_store (t := 26) (p := 6) rfl ?_); refine wpList_store_row rfl 26 (.tmp 6) (.tmp 98) rfl (w.heap.size + 1) (ansC 33 false 0 false 0 (.slice none 0 0) 0) rfl rfl 26 _ HRA3.out (by kernel_rfl) rfl (ansC_one _ _ _ _ _ _ _ _ _) ?_))
  refine bodyPost_ret (res_ans rfl _ rfl (setRow_heap _ _ _ _ _ _ HRA3.out)) rfl ⟨.slice none 0 0, by rfl, Kd.R_nil _ _ _ _ _, HL3.out.row (by omega) HRA3.out hgl hnl hhl _⟩
end Go.Proofs.Ytngocadnbpdnoaa.Mo
namespace Go.Proofs.Ytngocadnbpdnoaa.Mo
open Go Go.Maps Go.RowKit Go.Proofs.Ytngocadnbpdnoaa.Srt Go.Proofs.Ytngocadnbpdnoaa.Q Go.Proofs.YtngocadnbpdnoaaW.PrintWords Go.Proofs.YtngocadnbpdnoaaW.PrintLast Go.Proofs.YtngocadnbpdnoaaW.PrintMore
set_option linter.unusedVariables false
set_option linter.unusedSimpArgs false
set_option maxRecDepth 100000 in
set_option maxHeartbeats 8000000 in
theorem do_swapY (f : Nat → Option PL) (N gp bn bh : Nat) (multi : Int) (now : PL) (held : List (Int × PL)) (o : OpS) (A : Option Addr) (c : Nat) (hdl : Int) (w : World) (hM : PM w f N gp bn bh multi now held) (hF : Fro w f N) (hO : OpWf o) (hh : u64wf hdl) (hN : N ≤ 1099511627776) (hk : o.f0 = 4) (hx : fnd now o.f1 = some o.f3) :
    Calls Try.prog 15 #[.pointer (some ⟨gp, 0, none⟩), .agg (opC o A c), .int .u64 hdl] w (DoPost w f (N + 1) gp bn bh ⟨multi, put now o.f1 o.f2, held⟩ { foundD ⟨multi, now, held⟩ o with dn := true }) := by
  have hgl := hM.gl
  have hnl := hM.now.lt
  have hhl := hM.held.1.lt
  have HM := Lib.hid hM
  have HF := Lib.hid hF
  have HO := Lib.hid hO
  have HU := Lib.hid hh
  have hb0 : Below w.heap.size w (doW w o A c).drew := below_drew (doW_below w o A c)
  have hP0 := hM.kept (Kept.of_below hb0 (fun _ => False)) (fun e => e) (fun e => e) (fun e => e)
  have HS : (fun w' : World => w'.cell? ⟨gp, 1, none⟩ = some (.map (some bn)) ∧ w'.cell? ⟨w.heap.size, 1, none⟩ = some (.int .u64 o.f1) ∧ (Instr.lookup 97 (.map (some bn)) (.int .u64 o.f1) true).run Try.prog w' = .ok (.tuple #[.int .u64 ((fnd now o.f1).getD 0), .bool (fnd now o.f1).isSome]) w') (doW w o A c).drew :=
    ⟨hP0.c1, by rw [blk_cell (w := (doW w o A c).drew) (doW_op w o A c)]; rfl, now_look hP0.now hO.key⟩
  obtain ⟨vh, hvh, hrunh⟩ := held_look (hM.held.kept (Kept.of_below (below_drew (below_alloc (below_drew (doW_below w o A c)) (.cells (ansC 0 (fnd now o.f1).isSome ((fnd now o.f1).getD 0) false 0 (.slice none 0 0) 0) 26))) (fun _ => False)) (fun e => e)) hO.han
  have hW2 : Below w.heap.size w ((doW w o A c).drew.alloc (.cells (ansC 0 (fnd now o.f1).isSome ((fnd now o.f1).getD 0) false 0 (.slice none 0 0) 0) 26)).drew := below_drew (below_alloc (below_drew (doW_below w o A c)) _)
  have hP2 := hM.kept (Kept.of_below hW2 (fun _ => False)) (fun e => e) (fun e => e) (fun e => e)
  have hs2 : (doW w o A c).drew.heap.size = w.heap.size + 2 := doW_size w o A c
  have hop2 : ((doW w o A c).drew.alloc (.cells (ansC 0 (fnd now o.f1).isSome ((fnd now o.f1).getD 0) false 0 (.slice none 0 0) 0) 26)).drew.heap[w.heap.size]? = some (.cells (opC o A c) 39 (0, 0)) := ((below_alloc (Below.refl _ (doW w o A c).drew) _).block _ (by rw [hs2]; omega)).trans (doW_op w o A c)
  have hra2 : ((doW w o A c).drew.alloc (.cells (ansC 0 (fnd now o.f1).isSome ((fnd now o.f1).getD 0) false 0 (.slice none 0 0) 0) 26)).drew.heap[w.heap.size + 1]? = some (.cells (ansC 0 false 0 false 0 (.slice none 0 0) 0) 26 (0, 0)) := ((below_alloc (Below.refl _ (doW w o A c).drew) _).block _ (by rw [hs2]; omega)).trans (doW_ans w o A c)
  have hfa2 : ((doW w o A c).drew.alloc (.cells (ansC 0 (fnd now o.f1).isSome ((fnd now o.f1).getD 0) false 0 (.slice none 0 0) 0) 26)).drew.heap[w.heap.size + 2]? = some (.cells (ansC 0 (fnd now o.f1).isSome ((fnd now o.f1).getD 0) false 0 (.slice none 0 0) 0) 26 (0, 0)) := by
    have := heap_alloc_new (doW w o A c).drew (.cells (ansC 0 (fnd now o.f1).isSome ((fnd now o.f1).getD 0) false 0 (.slice none 0 0) 0) 26)
    rw [hs2] at this
    exact this
  have HS2 : (fun w' : World => w'.cell? ⟨gp, 2, none⟩ = some (.map (some bh)) ∧ w'.cell? ⟨w.heap.size, 4, none⟩ = some (.int .u64 o.f4) ∧ (Instr.lookup 98 (.map (some bh)) (.int .u64 o.f4) true).run Try.prog w' = .ok (.tuple #[vh, .bool (fnd held o.f4).isSome]) w') ((doW w o A c).drew.alloc (.cells (ansC 0 (fnd now o.f1).isSome ((fnd now o.f1).getD 0) false 0 (.slice none 0 0) 0) 26)).drew :=
    ⟨hP2.c2, by rw [blk_cell hop2]; rfl, hrunh⟩
  have hkd : ((doW w o A c).drew.alloc (.cells (ansC 0 (fnd now o.f1).isSome ((fnd now o.f1).getD 0) false 0 (.slice none 0 0) 0) 26)).drew.cell? ⟨w.heap.size, 0, none⟩ = some (.int .u8 4) := by rw [blk_cell hop2, ← hk]; rfl
  have HVH := Lib.hid hvh
  have HW2 := Lib.hid hW2
  have HP2 := Lib.hid hP2
  have HOP2 := Lib.hid hop2
  have HRA2 := Lib.hid hra2
  have HFA2 := Lib.hid hfa2
  have hfnd0 : (fnd now o.f1).isSome = (fnd now o.f1).isSome := rfl
  obtain ⟨fo, hfo⟩ : ∃ b : Bool, b = (fnd now o.f1).isSome := ⟨_, rfl⟩
  obtain ⟨fv, hfv⟩ : ∃ v : Int, v = (fnd now o.f1).getD 0 := ⟨_, rfl⟩
  obtain ⟨hd, hhd⟩ : ∃ b : Bool, b = (fnd held o.f4).isSome := ⟨_, rfl⟩
  rw [← hfo, ← hfv] at HS HS2 HW2 HP2 HOP2 HRA2 HFA2 hkd
  rw [← hhd] at HS2
  have HFO := Lib.hid hfo
  have HFV := Lib.hid hfv
  have HHD := Lib.hid hhd
  clear hM hF hO hh hb0 hP0 hvh hrunh hW2 hP2 hs2 hop2 hra2 hfa2 hfnd0 hfo hfv hhd
  obtain ⟨W1, hW1⟩ : ∃ W1, W1 = doW w o A c := ⟨_, rfl⟩
  have HW1 := Lib.hid hW1
  rw [← hW1] at HS HS2 HW2 HP2 HOP2 HRA2 HFA2 hkd
  go_enter Try.func15, Try.ntmps15
  go_wp2_with fail
  change Code.wp _ _ _ _ (doW w o A c)
  rw [← hW1]
  clear hW1
  go_region_held3 (fun w' => w'.cell? ⟨gp, 1, none⟩ = some (.map (some bn)) ∧ w'.cell? ⟨w.heap.size, 1, none⟩ = some (.int .u64 o.f1) ∧ (Instr.lookup 97 (.map (some bn)) (.int .u64 o.f1) true).run Try.prog w' = .ok (.tuple #[.int .u64 fv, .bool fo]) w')
    (first | go_keep | exact HS)
    (first | fail | fail)
  clear HS
  have hs1 : W1.heap.size = w.heap.size + 2 := by rw [HW1.out]; exact doW_size w o A c
  go_wp2_with fail
  obtain ⟨W2, hW2⟩ : ∃ W2, W2 = W1.drew.alloc (Obj.cells (ansC 0 fo fv false 0 (Value.slice none 0 0) 0) 26) := ⟨_, rfl⟩
  change Code.wp _ _ _ _ (W1.drew.alloc (Obj.cells (ansC 0 fo fv false 0 (Value.slice none 0 0) 0) 26))
  rw [← hW2] at HS2 HW2 HP2 HOP2 HRA2 HFA2 hkd ⊢
  clear hW2
  go_region_held3 (fun w' => w'.cell? ⟨gp, 2, none⟩ = some (.map (some bh)) ∧ w'.cell? ⟨w.heap.size, 4, none⟩ = some (.int .u64 o.f4) ∧ (Instr.lookup 98 (.map (some bh)) (.int .u64 o.f4) true).run Try.prog w' = .ok (.tuple #[vh, .bool hd]) w')
    (first | go_keep | exact HS2)
    (first | fail | fail)
  clear HS2
  obtain ⟨W, hW⟩ : ∃ W, W = W2.drew := ⟨_, rfl⟩
  rw [← hW] at HW2 HP2 HOP2 HRA2 HFA2 hkd ⊢
  clear hW
  obtain rfl : fo = true := by rw [HFO.out, hx]; rfl
  obtain rfl : fv = o.f3 := by rw [HFV.out, hx]; rfl
  have hcD : W.cell? ⟨w.heap.size, 3, none⟩ = some (.int .u64 o.f3) := by rw [blk_cell HOP2.out]; rfl
  obtain ⟨w3, hrun3, ho3, hg3⟩ := now_put (w := W.drew) HP2.out.now HO.out.key HO.out.val (by unfold maxLen; omega)
  replace hg3 := grown_undrew hg3
  have HL3 := Lib.hid (left_now HP2.out (HF.out.kept (Kept.of_below HW2.out (fun _ => False)) (fun _ _ _ e => e)) HW2.out ho3 hg3)
  have hk3 : Kept W w3 (fun k => k = bn) := Kept.of_grown hg3 (Kept.refl _ _) (fun k e => .inl (by cases e; rfl))
  have hcA := HP2.out.c1
  have hcB : W.cell? ⟨w.heap.size, 1, none⟩ = some (.int .u64 o.f1) := by rw [blk_cell HOP2.out]; rfl
  have hcC : W.cell? ⟨w.heap.size, 2, none⟩ = some (.int .u64 o.f2) := by rw [blk_cell HOP2.out]; rfl
  have hdA : w3.cell? ⟨gp, 1, none⟩ = some (.map (some bn)) := cell_kept hcA hk3 HM.out.gn
  have hdB := cell_kept hcB hk3 (show ¬ w.heap.size = bn by omega)
  have hdC := cell_kept hcC hk3 (show ¬ w.heap.size = bn by omega)
  have HFA3 := Lib.hid (blk_kept HFA2.out hk3 (show ¬ w.heap.size + 2 = bn by omega))
  have HRA3 := Lib.hid (blk_kept HRA2.out hk3 (show ¬ w.heap.size + 1 = bn by omega))
  clear hk3 ho3 hg3
  go_wp2_with fail
  go_region_held3 (fun w' => w'.cell? ⟨gp, 1, none⟩ = some (.map (some bn)) ∧ w'.cell? ⟨w.heap.size, 1, none⟩ = some (.int .u64 o.f1) ∧ w'.cell? ⟨w.heap.size, 2, none⟩ = some (.int .u64 o.f2))
    (first | go_keep | exact ⟨hcA, hcB, hcC⟩ | exact ⟨hdA, hdB, hdC⟩)
    (first | fail | fail)
  clear hcA hcB hcC hdA hdB hdC hrun3 hcD
  have hsc : w3.setCell ⟨w.heap.size + 2, 3, none⟩ (.bool true) = w3.setRow (w.heap.size + 2) (ansC 0 true o.f3 true 0 (.slice none 0 0) 0) := setCell_eq_setRow w3 (w.heap.size + 2) 3 _ _ _ (.bool true) HFA3.out
  have HFA4 := Lib.hid (setRow_heap w3 (w.heap.size + 2) _ (ansC 0 true o.f3 true 0 (.slice none 0 0) 0) _ _ HFA3.out)
  have HRA4 := Lib.hid ((setRow_other w3 (w.heap.size + 2) (w.heap.size + 1) (ansC 0 true o.f3 true 0 (.slice none 0 0) 0) (by omega)).trans HRA3.out)
  have HL4 := Lib.hid (HL3.out.row (g := w.heap.size + 2) (by omega) HFA3.out hgl hnl hhl (ansC 0 true o.f3 true 0 (.slice none 0 0) 0))
  have hd3 : w3.cell? ⟨w.heap.size + 2, 3, none⟩ = some (.bool false) := by rw [blk_cell HFA3.out]; rfl
  have hf3 : w3.frozen? ⟨w.heap.size + 2, 3, none⟩ = false := by simp [World.frozen?, HFA3.out]
  clear HFA3 HRA3 HL3
  have HFA3 := HFA4
  have HRA3 := HRA4
  have HL3 := HL4
  clear HFA4 HRA4 HL4
  obtain ⟨w4, hw4⟩ : ∃ w4, w4 = w3.setRow (w.heap.size + 2) (ansC 0 true o.f3 true 0 (.slice none 0 0) 0) := ⟨_, rfl⟩
  rw [← hw4] at hsc HFA3 HRA3 HL3
  clear hw4
  obtain ⟨l0, l1, l2, l3, l4, l5, l6⟩ := ans_cells HFA3.out
  go_wp2_with (first | ((with_reducible refine gate_store (t := 26) (p := 6) rfl ?_); refine wpList_store_row rfl 26 (.tmp 6) (.tmp 92) rfl (w.heap.size + 1) (ansC 0 true o.f3 true 0 (.slice none 0 0) 0) rfl rfl 26 _ HRA3.out (by kernel_rfl) rfl (ansC_one _ _ _ _ _ _ _ _ _) ?_))
  refine bodyPost_ret (res_ans rfl _ rfl (setRow_heap _ _ _ _ _ _ HRA3.out)) rfl ⟨.slice none 0 0, by (simp only [foundD, hx]; rfl), Kd.R_nil _ _ _ _ _, HL3.out.row (by omega) HRA3.out hgl hnl hhl _⟩
end Go.Proofs.Ytngocadnbpdnoaa.Mo
namespace Go.Proofs.Ytngocadnbpdnoaa.Mo
open Go Go.Maps Go.RowKit Go.Proofs.Ytngocadnbpdnoaa.Srt Go.Proofs.Ytngocadnbpdnoaa.Q Go.Proofs.YtngocadnbpdnoaaW.PrintWords Go.Proofs.YtngocadnbpdnoaaW.PrintLast Go.Proofs.YtngocadnbpdnoaaW.PrintMore
set_option linter.unusedVariables false
set_option linter.unusedSimpArgs false
set_option maxRecDepth 100000 in
set_option maxHeartbeats 8000000 in
theorem do_swapN (f : Nat → Option PL) (N gp bn bh : Nat) (multi : Int) (now : PL) (held : List (Int × PL)) (o : OpS) (A : Option Addr) (c : Nat) (hdl : Int) (w : World) (hM : PM w f N gp bn bh multi now held) (hF : Fro w f N) (hO : OpWf o) (hh : u64wf hdl) (hN : N ≤ 1099511627776) (hk : o.f0 = 4) (hx : ¬ fnd now o.f1 = some o.f3) :
    Calls Try.prog 15 #[.pointer (some ⟨gp, 0, none⟩), .agg (opC o A c), .int .u64 hdl] w (DoPost w f (N + 1) gp bn bh ⟨multi, now, held⟩ (foundD ⟨multi, now, held⟩ o)) := by
  have hgl := hM.gl
  have hnl := hM.now.lt
  have hhl := hM.held.1.lt
  have HM := Lib.hid hM
  have HF := Lib.hid hF
  have HO := Lib.hid hO
  have HU := Lib.hid hh
  have hb0 : Below w.heap.size w (doW w o A c).drew := below_drew (doW_below w o A c)
  have hP0 := hM.kept (Kept.of_below hb0 (fun _ => False)) (fun e => e) (fun e => e) (fun e => e)
  have HS : (fun w' : World => w'.cell? ⟨gp, 1, none⟩ = some (.map (some bn)) ∧ w'.cell? ⟨w.heap.size, 1, none⟩ = some (.int .u64 o.f1) ∧ (Instr.lookup 97 (.map (some bn)) (.int .u64 o.f1) true).run Try.prog w' = .ok (.tuple #[.int .u64 ((fnd now o.f1).getD 0), .bool (fnd now o.f1).isSome]) w') (doW w o A c).drew :=
    ⟨hP0.c1, by rw [blk_cell (w := (doW w o A c).drew) (doW_op w o A c)]; rfl, now_look hP0.now hO.key⟩
  obtain ⟨vh, hvh, hrunh⟩ := held_look (hM.held.kept (Kept.of_below (below_drew (below_alloc (below_drew (doW_below w o A c)) (.cells (ansC 0 (fnd now o.f1).isSome ((fnd now o.f1).getD 0) false 0 (.slice none 0 0) 0) 26))) (fun _ => False)) (fun e => e)) hO.han
  have hW2 : Below w.heap.size w ((doW w o A c).drew.alloc (.cells (ansC 0 (fnd now o.f1).isSome ((fnd now o.f1).getD 0) false 0 (.slice none 0 0) 0) 26)).drew := below_drew (below_alloc (below_drew (doW_below w o A c)) _)
  have hP2 := hM.kept (Kept.of_below hW2 (fun _ => False)) (fun e => e) (fun e => e) (fun e => e)
  have hs2 : (doW w o A c).drew.heap.size = w.heap.size + 2 := doW_size w o A c
  have hop2 : ((doW w o A c).drew.alloc (.cells (ansC 0 (fnd now o.f1).isSome ((fnd now o.f1).getD 0) false 0 (.slice none 0 0) 0) 26)).drew.heap[w.heap.size]? = some (.cells (opC o A c) 39 (0, 0)) := ((below_alloc (Below.refl _ (doW w o A c).drew) _).block _ (by rw [hs2]; omega)).trans (doW_op w o A c)
  have hra2 : ((doW w o A c).drew.alloc (.cells (ansC 0 (fnd now o.f1).isSome ((fnd now o.f1).getD 0) false 0 (.slice none 0 0) 0) 26)).drew.heap[w.heap.size + 1]? = some (.cells (ansC 0 false 0 false 0 (.slice none 0 0) 0) 26 (0, 0)) := ((below_alloc (Below.refl _ (doW w o A c).drew) _).block _ (by rw [hs2]; omega)).trans (doW_ans w o A c)
  have hfa2 : ((doW w o A c).drew.alloc (.cells (ansC 0 (fnd now o.f1).isSome ((fnd now o.f1).getD 0) false 0 (.slice none 0 0) 0) 26)).drew.heap[w.heap.size + 2]? = some (.cells (ansC 0 (fnd now o.f1).isSome ((fnd now o.f1).getD 0) false 0 (.slice none 0 0) 0) 26 (0, 0)) := by
    have := heap_alloc_new (doW w o A c).drew (.cells (ansC 0 (fnd now o.f1).isSome ((fnd now o.f1).getD 0) false 0 (.slice none 0 0) 0) 26)
    rw [hs2] at this
    exact this
  have HS2 : (fun w' : World => w'.cell? ⟨gp, 2, none⟩ = some (.map (some bh)) ∧ w'.cell? ⟨w.heap.size, 4, none⟩ = some (.int .u64 o.f4) ∧ (Instr.lookup 98 (.map (some bh)) (.int .u64 o.f4) true).run Try.prog w' = .ok (.tuple #[vh, .bool (fnd held o.f4).isSome]) w') ((doW w o A c).drew.alloc (.cells (ansC 0 (fnd now o.f1).isSome ((fnd now o.f1).getD 0) false 0 (.slice none 0 0) 0) 26)).drew :=
    ⟨hP2.c2, by rw [blk_cell hop2]; rfl, hrunh⟩
  have hkd : ((doW w o A c).drew.alloc (.cells (ansC 0 (fnd now o.f1).isSome ((fnd now o.f1).getD 0) false 0 (.slice none 0 0) 0) 26)).drew.cell? ⟨w.heap.size, 0, none⟩ = some (.int .u8 4) := by rw [blk_cell hop2, ← hk]; rfl
  have HVH := Lib.hid hvh
  have HW2 := Lib.hid hW2
  have HP2 := Lib.hid hP2
  have HOP2 := Lib.hid hop2
  have HRA2 := Lib.hid hra2
  have HFA2 := Lib.hid hfa2
  have hfnd0 : (fnd now o.f1).isSome = (fnd now o.f1).isSome := rfl
  obtain ⟨fo, hfo⟩ : ∃ b : Bool, b = (fnd now o.f1).isSome := ⟨_, rfl⟩
  obtain ⟨fv, hfv⟩ : ∃ v : Int, v = (fnd now o.f1).getD 0 := ⟨_, rfl⟩
  obtain ⟨hd, hhd⟩ : ∃ b : Bool, b = (fnd held o.f4).isSome := ⟨_, rfl⟩
  rw [← hfo, ← hfv] at HS HS2 HW2 HP2 HOP2 HRA2 HFA2 hkd
  rw [← hhd] at HS2
  have HFO := Lib.hid hfo
  have HFV := Lib.hid hfv
  have HHD := Lib.hid hhd
  clear hM hF hO hh hb0 hP0 hvh hrunh hW2 hP2 hs2 hop2 hra2 hfa2 hfnd0 hfo hfv hhd
  obtain ⟨W1, hW1⟩ : ∃ W1, W1 = doW w o A c := ⟨_, rfl⟩
  have HW1 := Lib.hid hW1
  rw [← hW1] at HS HS2 HW2 HP2 HOP2 HRA2 HFA2 hkd
  go_enter Try.func15, Try.ntmps15
  go_wp2_with fail
  change Code.wp _ _ _ _ (doW w o A c)
  rw [← hW1]
  clear hW1
  go_region_held3 (fun w' => w'.cell? ⟨gp, 1, none⟩ = some (.map (some bn)) ∧ w'.cell? ⟨w.heap.size, 1, none⟩ = some (.int .u64 o.f1) ∧ (Instr.lookup 97 (.map (some bn)) (.int .u64 o.f1) true).run Try.prog w' = .ok (.tuple #[.int .u64 fv, .bool fo]) w')
    (first | go_keep | exact HS)
    (first | fail | fail)
  clear HS
  have hs1 : W1.heap.size = w.heap.size + 2 := by rw [HW1.out]; exact doW_size w o A c
  go_wp2_with fail
  obtain ⟨W2, hW2⟩ : ∃ W2, W2 = W1.drew.alloc (Obj.cells (ansC 0 fo fv false 0 (Value.slice none 0 0) 0) 26) := ⟨_, rfl⟩
  change Code.wp _ _ _ _ (W1.drew.alloc (Obj.cells (ansC 0 fo fv false 0 (Value.slice none 0 0) 0) 26))
  rw [← hW2] at HS2 HW2 HP2 HOP2 HRA2 HFA2 hkd ⊢
  clear hW2
  go_region_held3 (fun w' => w'.cell? ⟨gp, 2, none⟩ = some (.map (some bh)) ∧ w'.cell? ⟨w.heap.size, 4, none⟩ = some (.int .u64 o.f4) ∧ (Instr.lookup 98 (.map (some bh)) (.int .u64 o.f4) true).run Try.prog w' = .ok (.tuple #[vh, .bool hd]) w')
    (first | go_keep | exact HS2)
    (first | fail | fail)
  clear HS2
  obtain ⟨W, hW⟩ : ∃ W, W = W2.drew := ⟨_, rfl⟩
  rw [← hW] at HW2 HP2 HOP2 HRA2 HFA2 hkd ⊢
  clear hW
  by_cases hfo : fo = true
  · subst hfo
    have hne : (fv == o.f3) = false := by
      have h1 := HFO.out
      have h2 := HFV.out
      cases hq : fnd now o.f1 with
      | none => rw [hq] at h1; cases h1
      | some v0 =>
        rw [hq] at h2
        simp only [Option.getD_some] at h2
        rw [h2]
        simp only [beq_eq_false_iff_ne, ne_eq]
        intro e
        exact hx (by rw [hq, e])
    have hcD : W.cell? ⟨w.heap.size, 3, none⟩ = some (.int .u64 o.f3) := by rw [blk_cell HOP2.out]; rfl
    have HL3 := Lib.hid (left_same (K := fun k => k = bn ∨ k = bh) HM.out HF.out HW2.out (Nat.le_succ N))
    have HFA3 := HFA2
    have HRA3 := HRA2
    obtain ⟨l0, l1, l2, l3, l4, l5, l6⟩ := ans_cells HFA3.out
    go_wp2_with (first | ((with_reducible refine gate_store (t := 26) (p := 6) rfl ?_); refine wpList_store_row rfl 26 (.tmp 6) (.tmp 92) rfl (w.heap.size + 1) (ansC 0 true fv false 0 (.slice none 0 0) 0) rfl rfl 26 _ HRA3.out (by kernel_rfl) rfl (ansC_one _ _ _ _ _ _ _ _ _) ?_))
    refine bodyPost_ret (res_ans rfl _ rfl (setRow_heap _ _ _ _ _ _ HRA3.out)) rfl ⟨.slice none 0 0, by (simp only [foundD]; rw [← HFO.out, ← HFV.out]), Kd.R_nil _ _ _ _ _, HL3.out.row (by omega) HRA3.out hgl hnl hhl _⟩
  · obtain rfl : fo = false := by simpa using hfo
    have HL3 := Lib.hid (left_same (K := fun k => k = bn ∨ k = bh) HM.out HF.out HW2.out (Nat.le_succ N))
    have HFA3 := HFA2
    have HRA3 := HRA2
    obtain ⟨l0, l1, l2, l3, l4, l5, l6⟩ := ans_cells HFA3.out
    go_wp2_with (first | ((with_reducible refine gate_store (t := 26) (p := 6) rfl ?_); refine wpList_store_row rfl 26 (.tmp 6) (.tmp 92) rfl (w.heap.size + 1) (ansC 0 false fv false 0 (.slice none 0 0) 0) rfl rfl 26 _ HRA3.out (by kernel_rfl) rfl (ansC_one _ _ _ _ _ _ _ _ _) ?_))
    refine bodyPost_ret (res_ans rfl _ rfl (setRow_heap _ _ _ _ _ _ HRA3.out)) rfl ⟨.slice none 0 0, by (simp only [foundD]; rw [← HFO.out, ← HFV.out]), Kd.R_nil _ _ _ _ _, HL3.out.row (by omega) HRA3.out hgl hnl hhl _⟩
end Go.Proofs.Ytngocadnbpdnoaa.Mo
namespace Go.Proofs.Ytngocadnbpdnoaa.Mo
open Go Go.Maps Go.RowKit Go.Proofs.Ytngocadnbpdnoaa.Srt Go.Proofs.Ytngocadnbpdnoaa.Q Go.Proofs.YtngocadnbpdnoaaW.PrintWords Go.Proofs.YtngocadnbpdnoaaW.PrintLast Go.Proofs.YtngocadnbpdnoaaW.PrintMore
set_option linter.unusedVariables false
set_option linter.unusedSimpArgs false
set_option maxRecDepth 100000 in
set_option maxHeartbeats 8000000 in
theorem do_snap (f : Nat → Option PL) (N gp bn bh : Nat) (multi : Int) (now : PL) (held : List (Int × PL)) (o : OpS) (A : Option Addr) (c : Nat) (hdl : Int) (w : World) (hM : PM w f N gp bn bh multi now held) (hF : Fro w f N) (hO : OpWf o) (hh : u64wf hdl) (hN : N ≤ 1099511627776) (hk : o.f0 = 5) :
    Calls Try.prog 15 #[.pointer (some ⟨gp, 0, none⟩), .agg (opC o A c), .int .u64 hdl] w (DoPost w f (N + 1) gp bn bh ⟨multi, now, snapHeld hdl now held⟩ (snapD hdl held)) := by
  have hgl := hM.gl
  have hnl := hM.now.lt
  have hhl := hM.held.1.lt
  have HM := Lib.hid hM
  have HF := Lib.hid hF
  have HO := Lib.hid hO
  have HU := Lib.hid hh
  have hb0 : Below w.heap.size w (doW w o A c).drew := below_drew (doW_below w o A c)
  have hP0 := hM.kept (Kept.of_below hb0 (fun _ => False)) (fun e => e) (fun e => e) (fun e => e)
  have HS : (fun w' : World => w'.cell? ⟨gp, 1, none⟩ = some (.map (some bn)) ∧ w'.cell? ⟨w.heap.size, 1, none⟩ = some (.int .u64 o.f1) ∧ (Instr.lookup 97 (.map (some bn)) (.int .u64 o.f1) true).run Try.prog w' = .ok (.tuple #[.int .u64 ((fnd now o.f1).getD 0), .bool (fnd now o.f1).isSome]) w') (doW w o A c).drew :=
    ⟨hP0.c1, by rw [blk_cell (w := (doW w o A c).drew) (doW_op w o A c)]; rfl, now_look hP0.now hO.key⟩
  obtain ⟨vh, hvh, hrunh⟩ := held_look (hM.held.kept (Kept.of_below (below_drew (below_alloc (below_drew (doW_below w o A c)) (.cells (ansC 0 (fnd now o.f1).isSome ((fnd now o.f1).getD 0) false 0 (.slice none 0 0) 0) 26))) (fun _ => False)) (fun e => e)) hO.han
  have hW2 : Below w.heap.size w ((doW w o A c).drew.alloc (.cells (ansC 0 (fnd now o.f1).isSome ((fnd now o.f1).getD 0) false 0 (.slice none 0 0) 0) 26)).drew := below_drew (below_alloc (below_drew (doW_below w o A c)) _)
  have hP2 := hM.kept (Kept.of_below hW2 (fun _ => False)) (fun e => e) (fun e => e) (fun e => e)
  have hs2 : (doW w o A c).drew.heap.size = w.heap.size + 2 := doW_size w o A c
  have hop2 : ((doW w o A c).drew.alloc (.cells (ansC 0 (fnd now o.f1).isSome ((fnd now o.f1).getD 0) false 0 (.slice none 0 0) 0) 26)).drew.heap[w.heap.size]? = some (.cells (opC o A c) 39 (0, 0)) := ((below_alloc (Below.refl _ (doW w o A c).drew) _).block _ (by rw [hs2]; omega)).trans (doW_op w o A c)
  have hra2 : ((doW w o A c).drew.alloc (.cells (ansC 0 (fnd now o.f1).isSome ((fnd now o.f1).getD 0) false 0 (.slice none 0 0) 0) 26)).drew.heap[w.heap.size + 1]? = some (.cells (ansC 0 false 0 false 0 (.slice none 0 0) 0) 26 (0, 0)) := ((below_alloc (Below.refl _ (doW w o A c).drew) _).block _ (by rw [hs2]; omega)).trans (doW_ans w o A c)
  have hfa2 : ((doW w o A c).drew.alloc (.cells (ansC 0 (fnd now o.f1).isSome ((fnd now o.f1).getD 0) false 0 (.slice none 0 0) 0) 26)).drew.heap[w.heap.size + 2]? = some (.cells (ansC 0 (fnd now o.f1).isSome ((fnd now o.f1).getD 0) false 0 (.slice none 0 0) 0) 26 (0, 0)) := by
    have := heap_alloc_new (doW w o A c).drew (.cells (ansC 0 (fnd now o.f1).isSome ((fnd now o.f1).getD 0) false 0 (.slice none 0 0) 0) 26)
    rw [hs2] at this
    exact this
  have HS2 : (fun w' : World => w'.cell? ⟨gp, 2, none⟩ = some (.map (some bh)) ∧ w'.cell? ⟨w.heap.size, 4, none⟩ = some (.int .u64 o.f4) ∧ (Instr.lookup 98 (.map (some bh)) (.int .u64 o.f4) true).run Try.prog w' = .ok (.tuple #[vh, .bool (fnd held o.f4).isSome]) w') ((doW w o A c).drew.alloc (.cells (ansC 0 (fnd now o.f1).isSome ((fnd now o.f1).getD 0) false 0 (.slice none 0 0) 0) 26)).drew :=
    ⟨hP2.c2, by rw [blk_cell hop2]; rfl, hrunh⟩
  have hkd : ((doW w o A c).drew.alloc (.cells (ansC 0 (fnd now o.f1).isSome ((fnd now o.f1).getD 0) false 0 (.slice none 0 0) 0) 26)).drew.cell? ⟨w.heap.size, 0, none⟩ = some (.int .u8 5) := by rw [blk_cell hop2, ← hk]; rfl
  have HVH := Lib.hid hvh
  have HW2 := Lib.hid hW2
  have HP2 := Lib.hid hP2
  have HOP2 := Lib.hid hop2
  have HRA2 := Lib.hid hra2
  have HFA2 := Lib.hid hfa2
  have hfnd0 : (fnd now o.f1).isSome = (fnd now o.f1).isSome := rfl
  obtain ⟨fo, hfo⟩ : ∃ b : Bool, b = (fnd now o.f1).isSome := ⟨_, rfl⟩
  obtain ⟨fv, hfv⟩ : ∃ v : Int, v = (fnd now o.f1).getD 0 := ⟨_, rfl⟩
  obtain ⟨hd, hhd⟩ : ∃ b : Bool, b = (fnd held o.f4).isSome := ⟨_, rfl⟩
  rw [← hfo, ← hfv] at HS HS2 HW2 HP2 HOP2 HRA2 HFA2 hkd
  rw [← hhd] at HS2
  have HFO := Lib.hid hfo
  have HFV := Lib.hid hfv
  have HHD := Lib.hid hhd
  clear hM hF hO hh hb0 hP0 hvh hrunh hW2 hP2 hs2 hop2 hra2 hfa2 hfnd0 hfo hfv hhd
  obtain ⟨W1, hW1⟩ : ∃ W1, W1 = doW w o A c := ⟨_, rfl⟩
  have HW1 := Lib.hid hW1
  rw [← hW1] at HS HS2 HW2 HP2 HOP2 HRA2 HFA2 hkd
  go_enter Try.func15, Try.ntmps15
  go_wp2_with fail
  change Code.wp _ _ _ _ (doW w o A c)
  rw [← hW1]
  clear hW1
  go_region_held3 (fun w' => w'.cell? ⟨gp, 1, none⟩ = some (.map (some bn)) ∧ w'.cell? ⟨w.heap.size, 1, none⟩ = some (.int .u64 o.f1) ∧ (Instr.lookup 97 (.map (some bn)) (.int .u64 o.f1) true).run Try.prog w' = .ok (.tuple #[.int .u64 fv, .bool fo]) w')
    (first | go_keep | exact HS)
    (first | fail | fail)
  clear HS
  have hs1 : W1.heap.size = w.heap.size + 2 := by rw [HW1.out]; exact doW_size w o A c
  go_wp2_with fail
  obtain ⟨W2, hW2⟩ : ∃ W2, W2 = W1.drew.alloc (Obj.cells (ansC 0 fo fv false 0 (Value.slice none 0 0) 0) 26) := ⟨_, rfl⟩
  change Code.wp _ _ _ _ (W1.drew.alloc (Obj.cells (ansC 0 fo fv false 0 (Value.slice none 0 0) 0) 26))
  rw [← hW2] at HS2 HW2 HP2 HOP2 HRA2 HFA2 hkd ⊢
  clear hW2
  go_region_held3 (fun w' => w'.cell? ⟨gp, 2, none⟩ = some (.map (some bh)) ∧ w'.cell? ⟨w.heap.size, 4, none⟩ = some (.int .u64 o.f4) ∧ (Instr.lookup 98 (.map (some bh)) (.int .u64 o.f4) true).run Try.prog w' = .ok (.tuple #[vh, .bool hd]) w')
    (first | go_keep | exact HS2)
    (first | fail | fail)
  clear HS2
  obtain ⟨W, hW⟩ : ∃ W, W = W2.drew := ⟨_, rfl⟩
  rw [← hW] at HW2 HP2 HOP2 HRA2 HFA2 hkd ⊢
  clear hW
  have cS := snapshot_c f N gp bn bh multi now held hdl W HP2.out (HF.out.kept (Kept.of_below HW2.out (fun _ => False)) (fun _ _ _ e => e)) HU.out hN
  obtain ⟨e, vs, hsn⟩ : ∃ (e h : Int), snapAns hdl held = ansV e false 0 false h (.slice none 0 0) 0 ∧ snapD hdl held = ⟨e, false, 0, false, h, [], 0⟩ := by
    unfold snapAns snapD
    split
    · exact ⟨32, 0, rfl, rfl⟩
    · exact ⟨0, hdl, rfl, rfl⟩
  rw [hsn.1] at cS
  unfold ansV at cS
  go_wp2_with (first | (go_at_call 36; (refine cS.mono ?_; rintro e' w3 ⟨rfl, HL⟩; have HRA3 := Lib.hid (blk_kept HRA2.out HL.choose_spec.2.2.2.kept (show ¬ w.heap.size + 1 = bh by omega)); have HL3 := Lib.hid (HL.base (K' := fun k => k = bn ∨ k = bh) HW2.out (fun k e => Or.inr e)); clear HL)) | ((with_reducible refine gate_store (t := 26) (p := 6) rfl ?_); refine wpList_store_row rfl 26 (.tmp 6) (.tmp 95) rfl (w.heap.size + 1) (ansC e false 0 false vs (.slice none 0 0) 0) rfl rfl 26 _ HRA3.out (by kernel_rfl) rfl (ansC_one _ _ _ _ _ _ _ _ _) ?_))
  refine bodyPost_ret (res_ans rfl _ rfl (setRow_heap _ _ _ _ _ _ HRA3.out)) rfl ⟨.slice none 0 0, by rw [hsn.2], by rw [hsn.2]; exact Kd.R_nil _ _ _ _ _, HL3.out.row (by omega) HRA3.out hgl hnl hhl _⟩
end Go.Proofs.Ytngocadnbpdnoaa.Mo
namespace Go.Proofs.Ytngocadnbpdnoaa.Mo
open Go Go.Maps Go.RowKit Go.Proofs.Ytngocadnbpdnoaa.Srt Go.Proofs.Ytngocadnbpdnoaa.Q Go.Proofs.YtngocadnbpdnoaaW.PrintWords Go.Proofs.YtngocadnbpdnoaaW.PrintLast Go.Proofs.YtngocadnbpdnoaaW.PrintMore
set_option linter.unusedVariables false
set_option linter.unusedSimpArgs false
set_option maxRecDepth 100000 in
set_option maxHeartbeats 8000000 in
theorem do_relY (f : Nat → Option PL) (N gp bn bh : Nat) (multi : Int) (now : PL) (held : List (Int × PL)) (o : OpS) (A : Option Addr) (c : Nat) (hdl : Int) (w : World) (hM : PM w f N gp bn bh multi now held) (hF : Fro w f N) (hO : OpWf o) (hh : u64wf hdl) (hN : N ≤ 1099511627776) (hk : o.f0 = 6) (hx : (fnd held o.f4).isSome = true) :
    Calls Try.prog 15 #[.pointer (some ⟨gp, 0, none⟩), .agg (opC o A c), .int .u64 hdl] w (DoPost w f (N + 1) gp bn bh ⟨multi, now, del held o.f4⟩ (errD 0)) := by
  have hgl := hM.gl
  have hnl := hM.now.lt
  have hhl := hM.held.1.lt
  have HM := Lib.hid hM
  have HF := Lib.hid hF
  have HO := Lib.hid hO
  have HU := Lib.hid hh
  have hb0 : Below w.heap.size w (doW w o A c).drew := below_drew (doW_below w o A c)
  have hP0 := hM.kept (Kept.of_below hb0 (fun _ => False)) (fun e => e) (fun e => e) (fun e => e)
  have HS : (fun w' : World => w'.cell? ⟨gp, 1, none⟩ = some (.map (some bn)) ∧ w'.cell? ⟨w.heap.size, 1, none⟩ = some (.int .u64 o.f1) ∧ (Instr.lookup 97 (.map (some bn)) (.int .u64 o.f1) true).run Try.prog w' = .ok (.tuple #[.int .u64 ((fnd now o.f1).getD 0), .bool (fnd now o.f1).isSome]) w') (doW w o A c).drew :=
    ⟨hP0.c1, by rw [blk_cell (w := (doW w o A c).drew) (doW_op w o A c)]; rfl, now_look hP0.now hO.key⟩
  obtain ⟨vh, hvh, hrunh⟩ := held_look (hM.held.kept (Kept.of_below (below_drew (below_alloc (below_drew (doW_below w o A c)) (.cells (ansC 0 (fnd now o.f1).isSome ((fnd now o.f1).getD 0) false 0 (.slice none 0 0) 0) 26))) (fun _ => False)) (fun e => e)) hO.han
  have hW2 : Below w.heap.size w ((doW w o A c).drew.alloc (.cells (ansC 0 (fnd now o.f1).isSome ((fnd now o.f1).getD 0) false 0 (.slice none 0 0) 0) 26)).drew := below_drew (below_alloc (below_drew (doW_below w o A c)) _)
  have hP2 := hM.kept (Kept.of_below hW2 (fun _ => False)) (fun e => e) (fun e => e) (fun e => e)
  have hs2 : (doW w o A c).drew.heap.size = w.heap.size + 2 := doW_size w o A c
  have hop2 : ((doW w o A c).drew.alloc (.cells (ansC 0 (fnd now o.f1).isSome ((fnd now o.f1).getD 0) false 0 (.slice none 0 0) 0) 26)).drew.heap[w.heap.size]? = some (.cells (opC o A c) 39 (0, 0)) := ((below_alloc (Below.refl _ (doW w o A c).drew) _).block _ (by rw [hs2]; omega)).trans (doW_op w o A c)
  have hra2 : ((doW w o A c).drew.alloc (.cells (ansC 0 (fnd now o.f1).isSome ((fnd now o.f1).getD 0) false 0 (.slice none 0 0) 0) 26)).drew.heap[w.heap.size + 1]? = some (.cells (ansC 0 false 0 false 0 (.slice none 0 0) 0) 26 (0, 0)) := ((below_alloc (Below.refl _ (doW w o A c).drew) _).block _ (by rw [hs2]; omega)).trans (doW_ans w o A c)
  have hfa2 : ((doW w o A c).drew.alloc (.cells (ansC 0 (fnd now o.f1).isSome ((fnd now o.f1).getD 0) false 0 (.slice none 0 0) 0) 26)).drew.heap[w.heap.size + 2]? = some (.cells (ansC 0 (fnd now o.f1).isSome ((fnd now o.f1).getD 0) false 0 (.slice none 0 0) 0) 26 (0, 0)) := by
    have := heap_alloc_new (doW w o A c).drew (.cells (ansC 0 (fnd now o.f1).isSome ((fnd now o.f1).getD 0) false 0 (.slice none 0 0) 0) 26)
    rw [hs2] at this
    exact this
  have HS2 : (fun w' : World => w'.cell? ⟨gp, 2, none⟩ = some (.map (some bh)) ∧ w'.cell? ⟨w.heap.size, 4, none⟩ = some (.int .u64 o.f4) ∧ (Instr.lookup 98 (.map (some bh)) (.int .u64 o.f4) true).run Try.prog w' = .ok (.tuple #[vh, .bool (fnd held o.f4).isSome]) w') ((doW w o A c).drew.alloc (.cells (ansC 0 (fnd now o.f1).isSome ((fnd now o.f1).getD 0) false 0 (.slice none 0 0) 0) 26)).drew :=
    ⟨hP2.c2, by rw [blk_cell hop2]; rfl, hrunh⟩
  have hkd : ((doW w o A c).drew.alloc (.cells (ansC 0 (fnd now o.f1).isSome ((fnd now o.f1).getD 0) false 0 (.slice none 0 0) 0) 26)).drew.cell? ⟨w.heap.size, 0, none⟩ = some (.int .u8 6) := by rw [blk_cell hop2, ← hk]; rfl
  have HVH := Lib.hid hvh
  have HW2 := Lib.hid hW2
  have HP2 := Lib.hid hP2
  have HOP2 := Lib.hid hop2
  have HRA2 := Lib.hid hra2
  have HFA2 := Lib.hid hfa2
  have hfnd0 : (fnd now o.f1).isSome = (fnd now o.f1).isSome := rfl
  obtain ⟨fo, hfo⟩ : ∃ b : Bool, b = (fnd now o.f1).isSome := ⟨_, rfl⟩
  obtain ⟨fv, hfv⟩ : ∃ v : Int, v = (fnd now o.f1).getD 0 := ⟨_, rfl⟩
  obtain ⟨hd, hhd⟩ : ∃ b : Bool, b = (fnd held o.f4).isSome := ⟨_, rfl⟩
  rw [← hfo, ← hfv] at HS HS2 HW2 HP2 HOP2 HRA2 HFA2 hkd
  rw [← hhd] at HS2
  have HFO := Lib.hid hfo
  have HFV := Lib.hid hfv
  have HHD := Lib.hid hhd
  clear hM hF hO hh hb0 hP0 hvh hrunh hW2 hP2 hs2 hop2 hra2 hfa2 hfnd0 hfo hfv hhd
  obtain ⟨W1, hW1⟩ : ∃ W1, W1 = doW w o A c := ⟨_, rfl⟩
  have HW1 := Lib.hid hW1
  rw [← hW1] at HS HS2 HW2 HP2 HOP2 HRA2 HFA2 hkd
  go_enter Try.func15, Try.ntmps15
  go_wp2_with fail
  change Code.wp _ _ _ _ (doW w o A c)
  rw [← hW1]
  clear hW1
  go_region_held3 (fun w' => w'.cell? ⟨gp, 1, none⟩ = some (.map (some bn)) ∧ w'.cell? ⟨w.heap.size, 1, none⟩ = some (.int .u64 o.f1) ∧ (Instr.lookup 97 (.map (some bn)) (.int .u64 o.f1) true).run Try.prog w' = .ok (.tuple #[.int .u64 fv, .bool fo]) w')
    (first | go_keep | exact HS)
    (first | fail | fail)
  clear HS
  have hs1 : W1.heap.size = w.heap.size + 2 := by rw [HW1.out]; exact doW_size w o A c
  go_wp2_with fail
  obtain ⟨W2, hW2⟩ : ∃ W2, W2 = W1.drew.alloc (Obj.cells (ansC 0 fo fv false 0 (Value.slice none 0 0) 0) 26) := ⟨_, rfl⟩
  change Code.wp _ _ _ _ (W1.drew.alloc (Obj.cells (ansC 0 fo fv false 0 (Value.slice none 0 0) 0) 26))
  rw [← hW2] at HS2 HW2 HP2 HOP2 HRA2 HFA2 hkd ⊢
  clear hW2
  go_region_held3 (fun w' => w'.cell? ⟨gp, 2, none⟩ = some (.map (some bh)) ∧ w'.cell? ⟨w.heap.size, 4, none⟩ = some (.int .u64 o.f4) ∧ (Instr.lookup 98 (.map (some bh)) (.int .u64 o.f4) true).run Try.prog w' = .ok (.tuple #[vh, .bool hd]) w')
    (first | go_keep | exact HS2)
    (first | fail | fail)
  clear HS2
  obtain ⟨W, hW⟩ : ∃ W, W = W2.drew := ⟨_, rfl⟩
  rw [← hW] at HW2 HP2 HOP2 HRA2 HFA2 hkd ⊢
  clear hW
  obtain rfl : hd = true := by rw [HHD.out, hx]
  obtain ⟨w3, hrun3, ho3', hg3⟩ := held_del (w := W.drew) HP2.out.held HO.out.han 0
  have ho3 := ho3'.mono (Nat.le_succ N)
  clear ho3'
  replace hg3 := grown_undrew hg3
  have HL3 := Lib.hid (left_held HP2.out (HF.out.kept (Kept.of_below HW2.out (fun _ => False)) (fun _ _ _ e => e)) HW2.out ho3 hg3)
  have hk3 : Kept W w3 (fun k => k = bh) := Kept.of_grown hg3 (Kept.refl _ _) (fun k e => .inl (by cases e; rfl))
  have hcA := HP2.out.c2
  have hcB : W.cell? ⟨w.heap.size, 4, none⟩ = some (.int .u64 o.f4) := by rw [blk_cell HOP2.out]; rfl
  have hcC : W.cell? ⟨w.heap.size, 2, none⟩ = some (.int .u64 o.f2) := by rw [blk_cell HOP2.out]; rfl
  have hdA : w3.cell? ⟨gp, 2, none⟩ = some (.map (some bh)) := cell_kept hcA hk3 HM.out.gh
  have hdB := cell_kept hcB hk3 (show ¬ w.heap.size = bh by omega)
  have hdC := cell_kept hcC hk3 (show ¬ w.heap.size = bh by omega)
  have HFA3 := Lib.hid (blk_kept HFA2.out hk3 (show ¬ w.heap.size + 2 = bh by omega))
  have HRA3 := Lib.hid (blk_kept HRA2.out hk3 (show ¬ w.heap.size + 1 = bh by omega))
  clear hk3 ho3 hg3
  go_wp2_with fail
  go_region_held3 (fun w' => w'.cell? ⟨gp, 2, none⟩ = some (.map (some bh)) ∧ w'.cell? ⟨w.heap.size, 4, none⟩ = some (.int .u64 o.f4) ∧ w'.cell? ⟨w.heap.size, 2, none⟩ = some (.int .u64 o.f2))
    (first | go_keep | exact ⟨hcA, hcB, hcC⟩ | exact ⟨hdA, hdB, hdC⟩)
    (first | fail | fail)
  clear hcA hcB hcC hdA hdB hdC hrun3
  obtain ⟨l0, l1, l2, l3, l4, l5, l6⟩ := ans_cells HFA3.out
  go_wp2_with (first | ((with_reducible refine gate_store (t := 26) (p := 6) rfl ?_); refine wpList_store_row rfl 26 (.tmp 6) (.tmp 105) rfl (w.heap.size + 1) (ansC 0 false 0 false 0 (.slice none 0 0) 0) rfl rfl 26 _ HRA3.out (by kernel_rfl) rfl (ansC_one _ _ _ _ _ _ _ _ _) ?_))
  refine bodyPost_ret (res_ans rfl _ rfl (setRow_heap _ _ _ _ _ _ HRA3.out)) rfl ⟨.slice none 0 0, by rfl, Kd.R_nil _ _ _ _ _, HL3.out.row (by omega) HRA3.out hgl hnl hhl _⟩
end Go.Proofs.Ytngocadnbpdnoaa.Mo
namespace Go.Proofs.Ytngocadnbpdnoaa.Mo
open Go Go.Maps Go.RowKit Go.Proofs.Ytngocadnbpdnoaa.Srt Go.Proofs.Ytngocadnbpdnoaa.Q Go.Proofs.YtngocadnbpdnoaaW.PrintWords Go.Proofs.YtngocadnbpdnoaaW.PrintLast Go.Proofs.YtngocadnbpdnoaaW.PrintMore
set_option linter.unusedVariables false
set_option linter.unusedSimpArgs false
set_option maxRecDepth 100000 in
set_option maxHeartbeats 8000000 in
theorem do_mgLong (f : Nat → Option PL) (N gp bn bh : Nat) (multi : Int) (now : PL) (held : List (Int × PL)) (o : OpS) (A : Option Addr) (c : Nat) (hdl : Int) (w : World) (hM : PM w f N gp bn bh multi now held) (hF : Fro w f N) (hO : OpWf o) (hh : u64wf hdl) (hN : N ≤ 1099511627776) (hk : o.f0 = 7) (hl : multi < (o.f6.length : Int)) :
    Calls Try.prog 15 #[.pointer (some ⟨gp, 0, none⟩), .agg (opC o A c), .int .u64 hdl] w (DoPost w f (N + 1) gp bn bh ⟨multi, now, held⟩ (errD 6)) := by
  have hgl := hM.gl
  have hnl := hM.now.lt
  have hhl := hM.held.1.lt
  have HM := Lib.hid hM
  have HF := Lib.hid hF
  have HO := Lib.hid hO
  have HU := Lib.hid hh
  have hb0 : Below w.heap.size w (doW w o A c).drew := below_drew (doW_below w o A c)
  have hP0 := hM.kept (Kept.of_below hb0 (fun _ => False)) (fun e => e) (fun e => e) (fun e => e)
  have HS : (fun w' : World => w'.cell? ⟨gp, 1, none⟩ = some (.map (some bn)) ∧ w'.cell? ⟨w.heap.size, 1, none⟩ = some (.int .u64 o.f1) ∧ (Instr.lookup 97 (.map (some bn)) (.int .u64 o.f1) true).run Try.prog w' = .ok (.tuple #[.int .u64 ((fnd now o.f1).getD 0), .bool (fnd now o.f1).isSome]) w') (doW w o A c).drew :=
    ⟨hP0.c1, by rw [blk_cell (w := (doW w o A c).drew) (doW_op w o A c)]; rfl, now_look hP0.now hO.key⟩
  obtain ⟨vh, hvh, hrunh⟩ := held_look (hM.held.kept (Kept.of_below (below_drew (below_alloc (below_drew (doW_below w o A c)) (.cells (ansC 0 (fnd now o.f1).isSome ((fnd now o.f1).getD 0) false 0 (.slice none 0 0) 0) 26))) (fun _ => False)) (fun e => e)) hO.han
  have hW2 : Below w.heap.size w ((doW w o A c).drew.alloc (.cells (ansC 0 (fnd now o.f1).isSome ((fnd now o.f1).getD 0) false 0 (.slice none 0 0) 0) 26)).drew := below_drew (below_alloc (below_drew (doW_below w o A c)) _)
  have hP2 := hM.kept (Kept.of_below hW2 (fun _ => False)) (fun e => e) (fun e => e) (fun e => e)
  have hs2 : (doW w o A c).drew.heap.size = w.heap.size + 2 := doW_size w o A c
  have hop2 : ((doW w o A c).drew.alloc (.cells (ansC 0 (fnd now o.f1).isSome ((fnd now o.f1).getD 0) false 0 (.slice none 0 0) 0) 26)).drew.heap[w.heap.size]? = some (.cells (opC o A c) 39 (0, 0)) := ((below_alloc (Below.refl _ (doW w o A c).drew) _).block _ (by rw [hs2]; omega)).trans (doW_op w o A c)
  have hra2 : ((doW w o A c).drew.alloc (.cells (ansC 0 (fnd now o.f1).isSome ((fnd now o.f1).getD 0) false 0 (.slice none 0 0) 0) 26)).drew.heap[w.heap.size + 1]? = some (.cells (ansC 0 false 0 false 0 (.slice none 0 0) 0) 26 (0, 0)) := ((below_alloc (Below.refl _ (doW w o A c).drew) _).block _ (by rw [hs2]; omega)).trans (doW_ans w o A c)
  have hfa2 : ((doW w o A c).drew.alloc (.cells (ansC 0 (fnd now o.f1).isSome ((fnd now o.f1).getD 0) false 0 (.slice none 0 0) 0) 26)).drew.heap[w.heap.size + 2]? = some (.cells (ansC 0 (fnd now o.f1).isSome ((fnd now o.f1).getD 0) false 0 (.slice none 0 0) 0) 26 (0, 0)) := by
    have := heap_alloc_new (doW w o A c).drew (.cells (ansC 0 (fnd now o.f1).isSome ((fnd now o.f1).getD 0) false 0 (.slice none 0 0) 0) 26)
    rw [hs2] at this
    exact this
  have HS2 : (fun w' : World => w'.cell? ⟨gp, 2, none⟩ = some (.map (some bh)) ∧ w'.cell? ⟨w.heap.size, 4, none⟩ = some (.int .u64 o.f4) ∧ (Instr.lookup 98 (.map (some bh)) (.int .u64 o.f4) true).run Try.prog w' = .ok (.tuple #[vh, .bool (fnd held o.f4).isSome]) w') ((doW w o A c).drew.alloc (.cells (ansC 0 (fnd now o.f1).isSome ((fnd now o.f1).getD 0) false 0 (.slice none 0 0) 0) 26)).drew :=
    ⟨hP2.c2, by rw [blk_cell hop2]; rfl, hrunh⟩
  have hkd : ((doW w o A c).drew.alloc (.cells (ansC 0 (fnd now o.f1).isSome ((fnd now o.f1).getD 0) false 0 (.slice none 0 0) 0) 26)).drew.cell? ⟨w.heap.size, 0, none⟩ = some (.int .u8 7) := by rw [blk_cell hop2, ← hk]; rfl
  have HVH := Lib.hid hvh
  have HW2 := Lib.hid hW2
  have HP2 := Lib.hid hP2
  have HOP2 := Lib.hid hop2
  have HRA2 := Lib.hid hra2
  have HFA2 := Lib.hid hfa2
  have hfnd0 : (fnd now o.f1).isSome = (fnd now o.f1).isSome := rfl
  obtain ⟨fo, hfo⟩ : ∃ b : Bool, b = (fnd now o.f1).isSome := ⟨_, rfl⟩
  obtain ⟨fv, hfv⟩ : ∃ v : Int, v = (fnd now o.f1).getD 0 := ⟨_, rfl⟩
  obtain ⟨hd, hhd⟩ : ∃ b : Bool, b = (fnd held o.f4).isSome := ⟨_, rfl⟩
  rw [← hfo, ← hfv] at HS HS2 HW2 HP2 HOP2 HRA2 HFA2 hkd
  rw [← hhd] at HS2
  have HFO := Lib.hid hfo
  have HFV := Lib.hid hfv
  have HHD := Lib.hid hhd
  clear hM hF hO hh hb0 hP0 hvh hrunh hW2 hP2 hs2 hop2 hra2 hfa2 hfnd0 hfo hfv hhd
  obtain ⟨W1, hW1⟩ : ∃ W1, W1 = doW w o A c := ⟨_, rfl⟩
  have HW1 := Lib.hid hW1
  rw [← hW1] at HS HS2 HW2 HP2 HOP2 HRA2 HFA2 hkd
  go_enter Try.func15, Try.ntmps15
  go_wp2_with fail
  change Code.wp _ _ _ _ (doW w o A c)
  rw [← hW1]
  clear hW1
  go_region_held3 (fun w' => w'.cell? ⟨gp, 1, none⟩ = some (.map (some bn)) ∧ w'.cell? ⟨w.heap.size, 1, none⟩ = some (.int .u64 o.f1) ∧ (Instr.lookup 97 (.map (some bn)) (.int .u64 o.f1) true).run Try.prog w' = .ok (.tuple #[.int .u64 fv, .bool fo]) w')
    (first | go_keep | exact HS)
    (first | fail | fail)
  clear HS
  have hs1 : W1.heap.size = w.heap.size + 2 := by rw [HW1.out]; exact doW_size w o A c
  go_wp2_with fail
  obtain ⟨W2, hW2⟩ : ∃ W2, W2 = W1.drew.alloc (Obj.cells (ansC 0 fo fv false 0 (Value.slice none 0 0) 0) 26) := ⟨_, rfl⟩
  change Code.wp _ _ _ _ (W1.drew.alloc (Obj.cells (ansC 0 fo fv false 0 (Value.slice none 0 0) 0) 26))
  rw [← hW2] at HS2 HW2 HP2 HOP2 HRA2 HFA2 hkd ⊢
  clear hW2
  go_region_held3 (fun w' => w'.cell? ⟨gp, 2, none⟩ = some (.map (some bh)) ∧ w'.cell? ⟨w.heap.size, 4, none⟩ = some (.int .u64 o.f4) ∧ (Instr.lookup 98 (.map (some bh)) (.int .u64 o.f4) true).run Try.prog w' = .ok (.tuple #[vh, .bool hd]) w')
    (first | go_keep | exact HS2)
    (first | fail | fail)
  clear HS2
  obtain ⟨W, hW⟩ : ∃ W, W = W2.drew := ⟨_, rfl⟩
  rw [← hW] at HW2 HP2 HOP2 HRA2 HFA2 hkd ⊢
  clear hW
  have kA := HP2.out.c0
  have kB : W.cell? ⟨w.heap.size, 8, none⟩ = some (.slice A o.f6.length c) := by rw [blk_cell HOP2.out]; rfl
  have hlen' : decide (multi < (o.f6.length : Int)) = true := decide_eq_true (by omega)
  go_wp2_with fail
  go_quiet (fail)
  have HL3 := Lib.hid (left_same (w' := W.drewN nq) (K := fun k => k = bn ∨ k = bh) HM.out HF.out (pw_below_drewN HW2.out nq) (Nat.le_succ N))
  have HFA3 : Hid ((W.drewN nq).heap[w.heap.size + 2]? = some (Obj.cells (ansC 0 fo fv false 0 (.slice none 0 0) 0) 26)) := HFA2
  have HRA3 : Hid ((W.drewN nq).heap[w.heap.size + 1]? = some (Obj.cells (ansC 0 false 0 false 0 (.slice none 0 0) 0) 26)) := HRA2
  obtain ⟨l0, l1, l2, l3, l4, l5, l6⟩ := ans_cells HFA3.out
  go_wp2_with (first | ((with_reducible refine gate_store (t := 26) (p := 6) rfl ?_); refine wpList_store_row rfl 26 (.tmp 6) (.tmp 114) rfl (w.heap.size + 1) (ansC 6 false 0 false 0 (.slice none 0 0) 0) rfl rfl 26 _ HRA3.out (by kernel_rfl) rfl (ansC_one _ _ _ _ _ _ _ _ _) ?_))
  refine bodyPost_ret (res_ans rfl _ rfl (setRow_heap _ _ _ _ _ _ HRA3.out)) rfl ⟨.slice none 0 0, by rfl, Kd.R_nil _ _ _ _ _, HL3.out.row (by omega) HRA3.out hgl hnl hhl _⟩
end Go.Proofs.Ytngocadnbpdnoaa.Mo
namespace Go.Proofs.Ytngocadnbpdnoaa.Mo
open Go Go.Maps Go.RowKit Go.Proofs.Ytngocadnbpdnoaa.Srt Go.Proofs.Ytngocadnbpdnoaa.Q Go.Proofs.YtngocadnbpdnoaaW.PrintWords Go.Proofs.YtngocadnbpdnoaaW.PrintLast Go.Proofs.YtngocadnbpdnoaaW.PrintMore
set_option linter.unusedVariables false
set_option linter.unusedSimpArgs false
set_option maxRecDepth 100000 in
set_option maxHeartbeats 8000000 in
theorem do_mgNo (f : Nat → Option PL) (N gp bn bh : Nat) (multi : Int) (now : PL) (held : List (Int × PL)) (o : OpS) (A : Option Addr) (c : Nat) (hdl : Int) (w : World) (hM : PM w f N gp bn bh multi now held) (hF : Fro w f N) (hO : OpWf o) (hh : u64wf hdl) (hN : N ≤ 1099511627776) (hk : o.f0 = 7) (hx : fnd held o.f4 = none) (hl : ¬ multi < (o.f6.length : Int)) :
    Calls Try.prog 15 #[.pointer (some ⟨gp, 0, none⟩), .agg (opC o A c), .int .u64 hdl] w (DoPost w f (N + 1) gp bn bh ⟨multi, now, held⟩ (errD 33)) := by
  have hgl := hM.gl
  have hnl := hM.now.lt
  have hhl := hM.held.1.lt
  have HM := Lib.hid hM
  have HF := Lib.hid hF
  have HO := Lib.hid hO
  have HU := Lib.hid hh
  have hb0 : Below w.heap.size w (doW w o A c).drew := below_drew (doW_below w o A c)
  have hP0 := hM.kept (Kept.of_below hb0 (fun _ => False)) (fun e => e) (fun e => e) (fun e => e)
  have HS : (fun w' : World => w'.cell? ⟨gp, 1, none⟩ = some (.map (some bn)) ∧ w'.cell? ⟨w.heap.size, 1, none⟩ = some (.int .u64 o.f1) ∧ (Instr.lookup 97 (.map (some bn)) (.int .u64 o.f1) true).run Try.prog w' = .ok (.tuple #[.int .u64 ((fnd now o.f1).getD 0), .bool (fnd now o.f1).isSome]) w') (doW w o A c).drew :=
    ⟨hP0.c1, by rw [blk_cell (w := (doW w o A c).drew) (doW_op w o A c)]; rfl, now_look hP0.now hO.key⟩
  obtain ⟨vh, hvh, hrunh⟩ := held_look (hM.held.kept (Kept.of_below (below_drew (below_alloc (below_drew (doW_below w o A c)) (.cells (ansC 0 (fnd now o.f1).isSome ((fnd now o.f1).getD 0) false 0 (.slice none 0 0) 0) 26))) (fun _ => False)) (fun e => e)) hO.han
  have hW2 : Below w.heap.size w ((doW w o A c).drew.alloc (.cells (ansC 0 (fnd now o.f1).isSome ((fnd now o.f1).getD 0) false 0 (.slice none 0 0) 0) 26)).drew := below_drew (below_alloc (below_drew (doW_below w o A c)) _)
  have hP2 := hM.kept (Kept.of_below hW2 (fun _ => False)) (fun e => e) (fun e => e) (fun e => e)
  have hs2 : (doW w o A c).drew.heap.size = w.heap.size + 2 := doW_size w o A c
  have hop2 : ((doW w o A c).drew.alloc (.cells (ansC 0 (fnd now o.f1).isSome ((fnd now o.f1).getD 0) false 0 (.slice none 0 0) 0) 26)).drew.heap[w.heap.size]? = some (.cells (opC o A c) 39 (0, 0)) := ((below_alloc (Below.refl _ (doW w o A c).drew) _).block _ (by rw [hs2]; omega)).trans (doW_op w o A c)
  have hra2 : ((doW w o A c).drew.alloc (.cells (ansC 0 (fnd now o.f1).isSome ((fnd now o.f1).getD 0) false 0 (.slice none 0 0) 0) 26)).drew.heap[w.heap.size + 1]? = some (.cells (ansC 0 false 0 false 0 (.slice none 0 0) 0) 26 (0, 0)) := ((below_alloc (Below.refl _ (doW w o A c).drew) _).block _ (by rw [hs2]; omega)).trans (doW_ans w o A c)
  have hfa2 : ((doW w o A c).drew.alloc (.cells (ansC 0 (fnd now o.f1).isSome ((fnd now o.f1).getD 0) false 0 (.slice none 0 0) 0) 26)).drew.heap[w.heap.size + 2]? = some (.cells (ansC 0 (fnd now o.f1).isSome ((fnd now o.f1).getD 0) false 0 (.slice none 0 0) 0) 26 (0, 0)) := by
    have := heap_alloc_new (doW w o A c).drew (.cells (ansC 0 (fnd now o.f1).isSome ((fnd now o.f1).getD 0) false 0 (.slice none 0 0) 0) 26)
    rw [hs2] at this
    exact this
  have HS2 : (fun w' : World => w'.cell? ⟨gp, 2, none⟩ = some (.map (some bh)) ∧ w'.cell? ⟨w.heap.size, 4, none⟩ = some (.int .u64 o.f4) ∧ (Instr.lookup 98 (.map (some bh)) (.int .u64 o.f4) true).run Try.prog w' = .ok (.tuple #[vh, .bool (fnd held o.f4).isSome]) w') ((doW w o A c).drew.alloc (.cells (ansC 0 (fnd now o.f1).isSome ((fnd now o.f1).getD 0) false 0 (.slice none 0 0) 0) 26)).drew :=
    ⟨hP2.c2, by rw [blk_cell hop2]; rfl, hrunh⟩
  have hkd : ((doW w o A c).drew.alloc (.cells (ansC 0 (fnd now o.f1).isSome ((fnd now o.f1).getD 0) false 0 (.slice none 0 0) 0) 26)).drew.cell? ⟨w.heap.size, 0, none⟩ = some (.int .u8 7) := by rw [blk_cell hop2, ← hk]; rfl
  have HVH := Lib.hid hvh
  have HW2 := Lib.hid hW2
  have HP2 := Lib.hid hP2
  have HOP2 := Lib.hid hop2
  have HRA2 := Lib.hid hra2
  have HFA2 := Lib.hid hfa2
  have hfnd0 : (fnd now o.f1).isSome = (fnd now o.f1).isSome := rfl
  obtain ⟨fo, hfo⟩ : ∃ b : Bool, b = (fnd now o.f1).isSome := ⟨_, rfl⟩
  obtain ⟨fv, hfv⟩ : ∃ v : Int, v = (fnd now o.f1).getD 0 := ⟨_, rfl⟩
  obtain ⟨hd, hhd⟩ : ∃ b : Bool, b = (fnd held o.f4).isSome := ⟨_, rfl⟩
  rw [← hfo, ← hfv] at HS HS2 HW2 HP2 HOP2 HRA2 HFA2 hkd
  rw [← hhd] at HS2
  have HFO := Lib.hid hfo
  have HFV := Lib.hid hfv
  have HHD := Lib.hid hhd
  clear hM hF hO hh hb0 hP0 hvh hrunh hW2 hP2 hs2 hop2 hra2 hfa2 hfnd0 hfo hfv hhd
  obtain ⟨W1, hW1⟩ : ∃ W1, W1 = doW w o A c := ⟨_, rfl⟩
  have HW1 := Lib.hid hW1
  rw [← hW1] at HS HS2 HW2 HP2 HOP2 HRA2 HFA2 hkd
  go_enter Try.func15, Try.ntmps15
  go_wp2_with fail
  change Code.wp _ _ _ _ (doW w o A c)
  rw [← hW1]
  clear hW1
  go_region_held3 (fun w' => w'.cell? ⟨gp, 1, none⟩ = some (.map (some bn)) ∧ w'.cell? ⟨w.heap.size, 1, none⟩ = some (.int .u64 o.f1) ∧ (Instr.lookup 97 (.map (some bn)) (.int .u64 o.f1) true).run Try.prog w' = .ok (.tuple #[.int .u64 fv, .bool fo]) w')
    (first | go_keep | exact HS)
    (first | fail | fail)
  clear HS
  have hs1 : W1.heap.size = w.heap.size + 2 := by rw [HW1.out]; exact doW_size w o A c
  go_wp2_with fail
  obtain ⟨W2, hW2⟩ : ∃ W2, W2 = W1.drew.alloc (Obj.cells (ansC 0 fo fv false 0 (Value.slice none 0 0) 0) 26) := ⟨_, rfl⟩
  change Code.wp _ _ _ _ (W1.drew.alloc (Obj.cells (ansC 0 fo fv false 0 (Value.slice none 0 0) 0) 26))
  rw [← hW2] at HS2 HW2 HP2 HOP2 HRA2 HFA2 hkd ⊢
  clear hW2
  go_region_held3 (fun w' => w'.cell? ⟨gp, 2, none⟩ = some (.map (some bh)) ∧ w'.cell? ⟨w.heap.size, 4, none⟩ = some (.int .u64 o.f4) ∧ (Instr.lookup 98 (.map (some bh)) (.int .u64 o.f4) true).run Try.prog w' = .ok (.tuple #[vh, .bool hd]) w')
    (first | go_keep | exact HS2)
    (first | fail | fail)
  clear HS2
  obtain ⟨W, hW⟩ : ∃ W, W = W2.drew := ⟨_, rfl⟩
  rw [← hW] at HW2 HP2 HOP2 HRA2 HFA2 hkd ⊢
  clear hW
  obtain rfl : hd = false := by rw [HHD.out, hx]; rfl
  have kA := HP2.out.c0
  have kB : W.cell? ⟨w.heap.size, 8, none⟩ = some (.slice A o.f6.length c) := by rw [blk_cell HOP2.out]; rfl
  have hlen' : decide (multi < (o.f6.length : Int)) = false := decide_eq_false (by omega)
  go_wp2_with fail
  go_quiet (fail)
  have HL3 := Lib.hid (left_same (w' := W.drewN nq) (K := fun k => k = bn ∨ k = bh) HM.out HF.out (pw_below_drewN HW2.out nq) (Nat.le_succ N))
  have HFA3 : Hid ((W.drewN nq).heap[w.heap.size + 2]? = some (Obj.cells (ansC 0 fo fv false 0 (.slice none 0 0) 0) 26)) := HFA2
  have HRA3 : Hid ((W.drewN nq).heap[w.heap.size + 1]? = some (Obj.cells (ansC 0 false 0 false 0 (.slice none 0 0) 0) 26)) := HRA2
  obtain ⟨l0, l1, l2, l3, l4, l5, l6⟩ := ans_cells HFA3.out
  go_wp2_with (first | ((with_reducible refine gate_store (t := 26) (p := 6) rfl ?_); refine wpList_store_row rfl 26 (.tmp 6) (.tmp 117) rfl (w.heap.size + 1) (ansC 33 false 0 false 0 (.slice none 0 0) 0) rfl rfl 26 _ HRA3.out (by kernel_rfl) rfl (ansC_one _ _ _ _ _ _ _ _ _) ?_))
  refine bodyPost_ret (res_ans rfl _ rfl (setRow_heap _ _ _ _ _ _ HRA3.out)) rfl ⟨.slice none 0 0, by rfl, Kd.R_nil _ _ _ _ _, HL3.out.row (by omega) HRA3.out hgl hnl hhl _⟩
end Go.Proofs.Ytngocadnbpdnoaa.Mo
namespace Go.Proofs.Ytngocadnbpdnoaa.Mo
open Go Go.Maps Go.RowKit Go.Proofs.Ytngocadnbpdnoaa.Srt Go.Proofs.Ytngocadnbpdnoaa.Q Go.Proofs.YtngocadnbpdnoaaW.PrintWords Go.Proofs.YtngocadnbpdnoaaW.PrintLast Go.Proofs.YtngocadnbpdnoaaW.PrintMore
set_option linter.unusedVariables false
set_option linter.unusedSimpArgs false
set_option maxRecDepth 100000 in
set_option maxHeartbeats 8000000 in
theorem do_rgNo (f : Nat → Option PL) (N gp bn bh : Nat) (multi : Int) (now : PL) (held : List (Int × PL)) (o : OpS) (A : Option Addr) (c : Nat) (hdl : Int) (w : World) (hM : PM w f N gp bn bh multi now held) (hF : Fro w f N) (hO : OpWf o) (hh : u64wf hdl) (hN : N ≤ 1099511627776) (hk : o.f0 = 8) (hx : fnd held o.f4 = none) :
    Calls Try.prog 15 #[.pointer (some ⟨gp, 0, none⟩), .agg (opC o A c), .int .u64 hdl] w (DoPost w f (N + 1) gp bn bh ⟨multi, now, held⟩ (errD 33)) := by
  have hgl := hM.gl
  have hnl := hM.now.lt
  have hhl := hM.held.1.lt
  have HM := Lib.hid hM
  have HF := Lib.hid hF
  have HO := Lib.hid hO
  have HU := Lib.hid hh
  have hb0 : Below w.heap.size w (doW w o A c).drew := below_drew (doW_below w o A c)
  have hP0 := hM.kept (Kept.of_below hb0 (fun _ => False)) (fun e => e) (fun e => e) (fun e => e)
  have HS : (fun w' : World => w'.cell? ⟨gp, 1, none⟩ = some (.map (some bn)) ∧ w'.cell? ⟨w.heap.size, 1, none⟩ = some (.int .u64 o.f1) ∧ (Instr.lookup 97 (.map (some bn)) (.int .u64 o.f1) true).run Try.prog w' = .ok (.tuple #[.int .u64 ((fnd now o.f1).getD 0), .bool (fnd now o.f1).isSome]) w') (doW w o A c).drew :=
    ⟨hP0.c1, by rw [blk_cell (w := (doW w o A c).drew) (doW_op w o A c)]; rfl, now_look hP0.now hO.key⟩
  obtain ⟨vh, hvh, hrunh⟩ := held_look (hM.held.kept (Kept.of_below (below_drew (below_alloc (below_drew (doW_below w o A c)) (.cells (ansC 0 (fnd now o.f1).isSome ((fnd now o.f1).getD 0) false 0 (.slice none 0 0) 0) 26))) (fun _ => False)) (fun e => e)) hO.han
  have hW2 : Below w.heap.size w ((doW w o A c).drew.alloc (.cells (ansC 0 (fnd now o.f1).isSome ((fnd now o.f1).getD 0) false 0 (.slice none 0 0) 0) 26)).drew := below_drew (below_alloc (below_drew (doW_below w o A c)) _)
  have hP2 := hM.kept (Kept.of_below hW2 (fun _ => False)) (fun e => e) (fun e => e) (fun e => e)
  have hs2 : (doW w o A c).drew.heap.size = w.heap.size + 2 := doW_size w o A c
  have hop2 : ((doW w o A c).drew.alloc (.cells (ansC 0 (fnd now o.f1).isSome ((fnd now o.f1).getD 0) false 0 (.slice none 0 0) 0) 26)).drew.heap[w.heap.size]? = some (.cells (opC o A c) 39 (0, 0)) := ((below_alloc (Below.refl _ (doW w o A c).drew) _).block _ (by rw [hs2]; omega)).trans (doW_op w o A c)
  have hra2 : ((doW w o A c).drew.alloc (.cells (ansC 0 (fnd now o.f1).isSome ((fnd now o.f1).getD 0) false 0 (.slice none 0 0) 0) 26)).drew.heap[w.heap.size + 1]? = some (.cells (ansC 0 false 0 false 0 (.slice none 0 0) 0) 26 (0, 0)) := ((below_alloc (Below.refl _ (doW w o A c).drew) _).block _ (by rw [hs2]; omega)).trans (doW_ans w o A c)
  have hfa2 : ((doW w o A c).drew.alloc (.cells (ansC 0 (fnd now o.f1).isSome ((fnd now o.f1).getD 0) false 0 (.slice none 0 0) 0) 26)).drew.heap[w.heap.size + 2]? = some (.cells (ansC 0 (fnd now o.f1).isSome ((fnd now o.f1).getD 0) false 0 (.slice none 0 0) 0) 26 (0, 0)) := by
    have := heap_alloc_new (doW w o A c).drew (.cells (ansC 0 (fnd now o.f1).isSome ((fnd now o.f1).getD 0) false 0 (.slice none 0 0) 0) 26)
    rw [hs2] at this
    exact this
  have HS2 : (fun w' : World => w'.cell? ⟨gp, 2, none⟩ = some (.map (some bh)) ∧ w'.cell? ⟨w.heap.size, 4, none⟩ = some (.int .u64 o.f4) ∧ (Instr.lookup 98 (.map (some bh)) (.int .u64 o.f4) true).run Try.prog w' = .ok (.tuple #[vh, .bool (fnd held o.f4).isSome]) w') ((doW w o A c).drew.alloc (.cells (ansC 0 (fnd now o.f1).isSome ((fnd now o.f1).getD 0) false 0 (.slice none 0 0) 0) 26)).drew :=
    ⟨hP2.c2, by rw [blk_cell hop2]; rfl, hrunh⟩
  have hkd : ((doW w o A c).drew.alloc (.cells (ansC 0 (fnd now o.f1).isSome ((fnd now o.f1).getD 0) false 0 (.slice none 0 0) 0) 26)).drew.cell? ⟨w.heap.size, 0, none⟩ = some (.int .u8 8) := by rw [blk_cell hop2, ← hk]; rfl
  have HVH := Lib.hid hvh
  have HW2 := Lib.hid hW2
  have HP2 := Lib.hid hP2
  have HOP2 := Lib.hid hop2
  have HRA2 := Lib.hid hra2
  have HFA2 := Lib.hid hfa2
  have hfnd0 : (fnd now o.f1).isSome = (fnd now o.f1).isSome := rfl
  obtain ⟨fo, hfo⟩ : ∃ b : Bool, b = (fnd now o.f1).isSome := ⟨_, rfl⟩
  obtain ⟨fv, hfv⟩ : ∃ v : Int, v = (fnd now o.f1).getD 0 := ⟨_, rfl⟩
  obtain ⟨hd, hhd⟩ : ∃ b : Bool, b = (fnd held o.f4).isSome := ⟨_, rfl⟩
  rw [← hfo, ← hfv] at HS HS2 HW2 HP2 HOP2 HRA2 HFA2 hkd
  rw [← hhd] at HS2
  have HFO := Lib.hid hfo
  have HFV := Lib.hid hfv
  have HHD := Lib.hid hhd
  clear hM hF hO hh hb0 hP0 hvh hrunh hW2 hP2 hs2 hop2 hra2 hfa2 hfnd0 hfo hfv hhd
  obtain ⟨W1, hW1⟩ : ∃ W1, W1 = doW w o A c := ⟨_, rfl⟩
  have HW1 := Lib.hid hW1
  rw [← hW1] at HS HS2 HW2 HP2 HOP2 HRA2 HFA2 hkd
  go_enter Try.func15, Try.ntmps15
  go_wp2_with fail
  change Code.wp _ _ _ _ (doW w o A c)
  rw [← hW1]
  clear hW1
  go_region_held3 (fun w' => w'.cell? ⟨gp, 1, none⟩ = some (.map (some bn)) ∧ w'.cell? ⟨w.heap.size, 1, none⟩ = some (.int .u64 o.f1) ∧ (Instr.lookup 97 (.map (some bn)) (.int .u64 o.f1) true).run Try.prog w' = .ok (.tuple #[.int .u64 fv, .bool fo]) w')
    (first | go_keep | exact HS)
    (first | fail | fail)
  clear HS
  have hs1 : W1.heap.size = w.heap.size + 2 := by rw [HW1.out]; exact doW_size w o A c
  go_wp2_with fail
  obtain ⟨W2, hW2⟩ : ∃ W2, W2 = W1.drew.alloc (Obj.cells (ansC 0 fo fv false 0 (Value.slice none 0 0) 0) 26) := ⟨_, rfl⟩
  change Code.wp _ _ _ _ (W1.drew.alloc (Obj.cells (ansC 0 fo fv false 0 (Value.slice none 0 0) 0) 26))
  rw [← hW2] at HS2 HW2 HP2 HOP2 HRA2 HFA2 hkd ⊢
  clear hW2
  go_region_held3 (fun w' => w'.cell? ⟨gp, 2, none⟩ = some (.map (some bh)) ∧ w'.cell? ⟨w.heap.size, 4, none⟩ = some (.int .u64 o.f4) ∧ (Instr.lookup 98 (.map (some bh)) (.int .u64 o.f4) true).run Try.prog w' = .ok (.tuple #[vh, .bool hd]) w')
    (first | go_keep | exact HS2)
    (first | fail | fail)
  clear HS2
  obtain ⟨W, hW⟩ : ∃ W, W = W2.drew := ⟨_, rfl⟩
  rw [← hW] at HW2 HP2 HOP2 HRA2 HFA2 hkd ⊢
  clear hW
  obtain rfl : hd = false := by rw [HHD.out, hx]; rfl
  have HL3 := Lib.hid (left_same (K := fun k => k = bn ∨ k = bh) HM.out HF.out HW2.out (Nat.le_succ N))
  have HFA3 := HFA2
  have HRA3 := HRA2
  obtain ⟨l0, l1, l2, l3, l4, l5, l6⟩ := ans_cells HFA3.out
  go_wp2_with (first | ((with_reducible refine gate_store (t := 26) (p := 6) rfl ?_); refine wpList_store_row rfl 26 (.tmp 6) (.tmp 117) rfl (w.heap.size + 1) (ansC 33 false 0 false 0 (.slice none 0 0) 0) rfl rfl 26 _ HRA3.out (by kernel_rfl) rfl (ansC_one _ _ _ _ _ _ _ _ _) ?_))
  refine bodyPost_ret (res_ans rfl _ rfl (setRow_heap _ _ _ _ _ _ HRA3.out)) rfl ⟨.slice none 0 0, by rfl, Kd.R_nil _ _ _ _ _, HL3.out.row (by omega) HRA3.out hgl hnl hhl _⟩
end Go.Proofs.Ytngocadnbpdnoaa.Mo
namespace Go.Proofs.Ytngocadnbpdnoaa.Mo
open Go Go.Maps Go.RowKit Go.Proofs.Ytngocadnbpdnoaa.Srt Go.Proofs.Ytngocadnbpdnoaa.Q Go.Proofs.YtngocadnbpdnoaaW.PrintWords Go.Proofs.YtngocadnbpdnoaaW.PrintLast Go.Proofs.YtngocadnbpdnoaaW.PrintMore
set_option linter.unusedVariables false
set_option linter.unusedSimpArgs false
set_option maxRecDepth 100000 in
set_option maxHeartbeats 8000000 in
theorem do_ctNo (f : Nat → Option PL) (N gp bn bh : Nat) (multi : Int) (now : PL) (held : List (Int × PL)) (o : OpS) (A : Option Addr) (c : Nat) (hdl : Int) (w : World) (hM : PM w f N gp bn bh multi now held) (hF : Fro w f N) (hO : OpWf o) (hh : u64wf hdl) (hN : N ≤ 1099511627776) (hk : o.f0 = 9) (hx : fnd held o.f4 = none) :
    Calls Try.prog 15 #[.pointer (some ⟨gp, 0, none⟩), .agg (opC o A c), .int .u64 hdl] w (DoPost w f (N + 1) gp bn bh ⟨multi, now, held⟩ (errD 33)) := by
  have hgl := hM.gl
  have hnl := hM.now.lt
  have hhl := hM.held.1.lt
  have HM := Lib.hid hM
  have HF := Lib.hid hF
  have HO := Lib.hid hO
  have HU := Lib.hid hh
  have hb0 : Below w.heap.size w (doW w o A c).drew := below_drew (doW_below w o A c)
  have hP0 := hM.kept (Kept.of_below hb0 (fun _ => False)) (fun e => e) (fun e => e) (fun e => e)
  have HS : (fun w' : World => w'.cell? ⟨gp, 1, none⟩ = some (.map (some bn)) ∧ w'.cell? ⟨w.heap.size, 1, none⟩ = some (.int .u64 o.f1) ∧ (Instr.lookup 97 (.map (some bn)) (.int .u64 o.f1) true).run Try.prog w' = .ok (.tuple #[.int .u64 ((fnd now o.f1).getD 0), .bool (fnd now o.f1).isSome]) w') (doW w o A c).drew :=
    ⟨hP0.c1, by rw [blk_cell (w := (doW w o A c).drew) (doW_op w o A c)]; rfl, now_look hP0.now hO.key⟩
  obtain ⟨vh, hvh, hrunh⟩ := held_look (hM.held.kept (Kept.of_below (below_drew (below_alloc (below_drew (doW_below w o A c)) (.cells (ansC 0 (fnd now o.f1).isSome ((fnd now o.f1).getD 0) false 0 (.slice none 0 0) 0) 26))) (fun _ => False)) (fun e => e)) hO.han
  have hW2 : Below w.heap.size w ((doW w o A c).drew.alloc (.cells (ansC 0 (fnd now o.f1).isSome ((fnd now o.f1).getD 0) false 0 (.slice none 0 0) 0) 26)).drew := below_drew (below_alloc (below_drew (doW_below w o A c)) _)
  have hP2 := hM.kept (Kept.of_below hW2 (fun _ => False)) (fun e => e) (fun e => e) (fun e => e)
  have hs2 : (doW w o A c).drew.heap.size = w.heap.size + 2 := doW_size w o A c
  have hop2 : ((doW w o A c).drew.alloc (.cells (ansC 0 (fnd now o.f1).isSome ((fnd now o.f1).getD 0) false 0 (.slice none 0 0) 0) 26)).drew.heap[w.heap.size]? = some (.cells (opC o A c) 39 (0, 0)) := ((below_alloc (Below.refl _ (doW w o A c).drew) _).block _ (by rw [hs2]; omega)).trans (doW_op w o A c)
  have hra2 : ((doW w o A c).drew.alloc (.cells (ansC 0 (fnd now o.f1).isSome ((fnd now o.f1).getD 0) false 0 (.slice none 0 0) 0) 26)).drew.heap[w.heap.size + 1]? = some (.cells (ansC 0 false 0 false 0 (.slice none 0 0) 0) 26 (0, 0)) := ((below_alloc (Below.refl _ (doW w o A c).drew) _).block _ (by rw [hs2]; omega)).trans (doW_ans w o A c)
  have hfa2 : ((doW w o A c).drew.alloc (.cells (ansC 0 (fnd now o.f1).isSome ((fnd now o.f1).getD 0) false 0 (.slice none 0 0) 0) 26)).drew.heap[w.heap.size + 2]? = some (.cells (ansC 0 (fnd now o.f1).isSome ((fnd now o.f1).getD 0) false 0 (.slice none 0 0) 0) 26 (0, 0)) := by
    have := heap_alloc_new (doW w o A c).drew (.cells (ansC 0 (fnd now o.f1).isSome ((fnd now o.f1).getD 0) false 0 (.slice none 0 0) 0) 26)
    rw [hs2] at this
    exact this
  have HS2 : (fun w' : World => w'.cell? ⟨gp, 2, none⟩ = some (.map (some bh)) ∧ w'.cell? ⟨w.heap.size, 4, none⟩ = some (.int .u64 o.f4) ∧ (Instr.lookup 98 (.map (some bh)) (.int .u64 o.f4) true).run Try.prog w' = .ok (.tuple #[vh, .bool (fnd held o.f4).isSome]) w') ((doW w o A c).drew.alloc (.cells (ansC 0 (fnd now o.f1).isSome ((fnd now o.f1).getD 0) false 0 (.slice none 0 0) 0) 26)).drew :=
    ⟨hP2.c2, by rw [blk_cell hop2]; rfl, hrunh⟩
  have hkd : ((doW w o A c).drew.alloc (.cells (ansC 0 (fnd now o.f1).isSome ((fnd now o.f1).getD 0) false 0 (.slice none 0 0) 0) 26)).drew.cell? ⟨w.heap.size, 0, none⟩ = some (.int .u8 9) := by rw [blk_cell hop2, ← hk]; rfl
  have HVH := Lib.hid hvh
  have HW2 := Lib.hid hW2
  have HP2 := Lib.hid hP2
  have HOP2 := Lib.hid hop2
  have HRA2 := Lib.hid hra2
  have HFA2 := Lib.hid hfa2
  have hfnd0 : (fnd now o.f1).isSome = (fnd now o.f1).isSome := rfl
  obtain ⟨fo, hfo⟩ : ∃ b : Bool, b = (fnd now o.f1).isSome := ⟨_, rfl⟩
  obtain ⟨fv, hfv⟩ : ∃ v : Int, v = (fnd now o.f1).getD 0 := ⟨_, rfl⟩
  obtain ⟨hd, hhd⟩ : ∃ b : Bool, b = (fnd held o.f4).isSome := ⟨_, rfl⟩
  rw [← hfo, ← hfv] at HS HS2 HW2 HP2 HOP2 HRA2 HFA2 hkd
  rw [← hhd] at HS2
  have HFO := Lib.hid hfo
  have HFV := Lib.hid hfv
  have HHD := Lib.hid hhd
  clear hM hF hO hh hb0 hP0 hvh hrunh hW2 hP2 hs2 hop2 hra2 hfa2 hfnd0 hfo hfv hhd
  obtain ⟨W1, hW1⟩ : ∃ W1, W1 = doW w o A c := ⟨_, rfl⟩
  have HW1 := Lib.hid hW1
  rw [← hW1] at HS HS2 HW2 HP2 HOP2 HRA2 HFA2 hkd
  go_enter Try.func15, Try.ntmps15
  go_wp2_with fail
  change Code.wp _ _ _ _ (doW w o A c)
  rw [← hW1]
  clear hW1
  go_region_held3 (fun w' => w'.cell? ⟨gp, 1, none⟩ = some (.map (some bn)) ∧ w'.cell? ⟨w.heap.size, 1, none⟩ = some (.int .u64 o.f1) ∧ (Instr.lookup 97 (.map (some bn)) (.int .u64 o.f1) true).run Try.prog w' = .ok (.tuple #[.int .u64 fv, .bool fo]) w')
    (first | go_keep | exact HS)
    (first | fail | fail)
  clear HS
  have hs1 : W1.heap.size = w.heap.size + 2 := by rw [HW1.out]; exact doW_size w o A c
  go_wp2_with fail
  obtain ⟨W2, hW2⟩ : ∃ W2, W2 = W1.drew.alloc (Obj.cells (ansC 0 fo fv false 0 (Value.slice none 0 0) 0) 26) := ⟨_, rfl⟩
  change Code.wp _ _ _ _ (W1.drew.alloc (Obj.cells (ansC 0 fo fv false 0 (Value.slice none 0 0) 0) 26))
  rw [← hW2] at HS2 HW2 HP2 HOP2 HRA2 HFA2 hkd ⊢
  clear hW2
  go_region_held3 (fun w' => w'.cell? ⟨gp, 2, none⟩ = some (.map (some bh)) ∧ w'.cell? ⟨w.heap.size, 4, none⟩ = some (.int .u64 o.f4) ∧ (Instr.lookup 98 (.map (some bh)) (.int .u64 o.f4) true).run Try.prog w' = .ok (.tuple #[vh, .bool hd]) w')
    (first | go_keep | exact HS2)
    (first | fail | fail)
  clear HS2
  obtain ⟨W, hW⟩ : ∃ W, W = W2.drew := ⟨_, rfl⟩
  rw [← hW] at HW2 HP2 HOP2 HRA2 HFA2 hkd ⊢
  clear hW
  obtain rfl : hd = false := by rw [HHD.out, hx]; rfl
  have HL3 := Lib.hid (left_same (K := fun k => k = bn ∨ k = bh) HM.out HF.out HW2.out (Nat.le_succ N))
  have HFA3 := HFA2
  have HRA3 := HRA2
  obtain ⟨l0, l1, l2, l3, l4, l5, l6⟩ := ans_cells HFA3.out
  go_wp2_with (first | ((with_reducible refine gate_store (t := 26) (p := 6) rfl ?_); refine wpList_store_row rfl 26 (.tmp 6) (.tmp 117) rfl (w.heap.size + 1) (ansC 33 false 0 false 0 (.slice none 0 0) 0) rfl rfl 26 _ HRA3.out (by kernel_rfl) rfl (ansC_one _ _ _ _ _ _ _ _ _) ?_))
  refine bodyPost_ret (res_ans rfl _ rfl (setRow_heap _ _ _ _ _ _ HRA3.out)) rfl ⟨.slice none 0 0, by rfl, Kd.R_nil _ _ _ _ _, HL3.out.row (by omega) HRA3.out hgl hnl hhl _⟩
end Go.Proofs.Ytngocadnbpdnoaa.Mo
namespace Go.Proofs.Ytngocadnbpdnoaa.Mo
open Go Go.Maps Go.RowKit Go.Proofs.Ytngocadnbpdnoaa.Srt Go.Proofs.Ytngocadnbpdnoaa.Q Go.Proofs.YtngocadnbpdnoaaW.PrintWords Go.Proofs.YtngocadnbpdnoaaW.PrintLast Go.Proofs.YtngocadnbpdnoaaW.PrintMore
set_option linter.unusedVariables false
set_option linter.unusedSimpArgs false
set_option maxRecDepth 100000 in
set_option maxHeartbeats 8000000 in
theorem do_oth (f : Nat → Option PL) (N gp bn bh : Nat) (multi : Int) (now : PL) (held : List (Int × PL)) (o : OpS) (A : Option Addr) (c : Nat) (hdl : Int) (w : World) (hM : PM w f N gp bn bh multi now held) (hF : Fro w f N) (hO : OpWf o) (hh : u64wf hdl) (hN : N ≤ 1099511627776) (hk : True) (ho : ∀ k : Int, 1 ≤ k → k ≤ 10 → (o.f0 == k) = false) :
    Calls Try.prog 15 #[.pointer (some ⟨gp, 0, none⟩), .agg (opC o A c), .int .u64 hdl] w (DoPost w f (N + 1) gp bn bh ⟨multi, now, held⟩ (errD 160)) := by
  have hgl := hM.gl
  have hnl := hM.now.lt
  have hhl := hM.held.1.lt
  have HM := Lib.hid hM
  have HF := Lib.hid hF
  have HO := Lib.hid hO
  have HU := Lib.hid hh
  have hb0 : Below w.heap.size w (doW w o A c).drew := below_drew (doW_below w o A c)
  have hP0 := hM.kept (Kept.of_below hb0 (fun _ => False)) (fun e => e) (fun e => e) (fun e => e)
  have HS : (fun w' : World => w'.cell? ⟨gp, 1, none⟩ = some (.map (some bn)) ∧ w'.cell? ⟨w.heap.size, 1, none⟩ = some (.int .u64 o.f1) ∧ (Instr.lookup 97 (.map (some bn)) (.int .u64 o.f1) true).run Try.prog w' = .ok (.tuple #[.int .u64 ((fnd now o.f1).getD 0), .bool (fnd now o.f1).isSome]) w') (doW w o A c).drew :=
    ⟨hP0.c1, by rw [blk_cell (w := (doW w o A c).drew) (doW_op w o A c)]; rfl, now_look hP0.now hO.key⟩
  obtain ⟨vh, hvh, hrunh⟩ := held_look (hM.held.kept (Kept.of_below (below_drew (below_alloc (below_drew (doW_below w o A c)) (.cells (ansC 0 (fnd now o.f1).isSome ((fnd now o.f1).getD 0) false 0 (.slice none 0 0) 0) 26))) (fun _ => False)) (fun e => e)) hO.han
  have hW2 : Below w.heap.size w ((doW w o A c).drew.alloc (.cells (ansC 0 (fnd now o.f1).isSome ((fnd now o.f1).getD 0) false 0 (.slice none 0 0) 0) 26)).drew := below_drew (below_alloc (below_drew (doW_below w o A c)) _)
  have hP2 := hM.kept (Kept.of_below hW2 (fun _ => False)) (fun e => e) (fun e => e) (fun e => e)
  have hs2 : (doW w o A c).drew.heap.size = w.heap.size + 2 := doW_size w o A c
  have hop2 : ((doW w o A c).drew.alloc (.cells (ansC 0 (fnd now o.f1).isSome ((fnd now o.f1).getD 0) false 0 (.slice none 0 0) 0) 26)).drew.heap[w.heap.size]? = some (.cells (opC o A c) 39 (0, 0)) := ((below_alloc (Below.refl _ (doW w o A c).drew) _).block _ (by rw [hs2]; omega)).trans (doW_op w o A c)
  have hra2 : ((doW w o A c).drew.alloc (.cells (ansC 0 (fnd now o.f1).isSome ((fnd now o.f1).getD 0) false 0 (.slice none 0 0) 0) 26)).drew.heap[w.heap.size + 1]? = some (.cells (ansC 0 false 0 false 0 (.slice none 0 0) 0) 26 (0, 0)) := ((below_alloc (Below.refl _ (doW w o A c).drew) _).block _ (by rw [hs2]; omega)).trans (doW_ans w o A c)
  have hfa2 : ((doW w o A c).drew.alloc (.cells (ansC 0 (fnd now o.f1).isSome ((fnd now o.f1).getD 0) false 0 (.slice none 0 0) 0) 26)).drew.heap[w.heap.size + 2]? = some (.cells (ansC 0 (fnd now o.f1).isSome ((fnd now o.f1).getD 0) false 0 (.slice none 0 0) 0) 26 (0, 0)) := by
    have := heap_alloc_new (doW w o A c).drew (.cells (ansC 0 (fnd now o.f1).isSome ((fnd now o.f1).getD 0) false 0 (.slice none 0 0) 0) 26)
    rw [hs2] at this
    exact this
  have HS2 : (fun w' : World => w'.cell? ⟨gp, 2, none⟩ = some (.map (some bh)) ∧ w'.cell? ⟨w.heap.size, 4, none⟩ = some (.int .u64 o.f4) ∧ (Instr.lookup 98 (.map (some bh)) (.int .u64 o.f4) true).run Try.prog w' = .ok (.tuple #[vh, .bool (fnd held o.f4).isSome]) w') ((doW w o A c).drew.alloc (.cells (ansC 0 (fnd now o.f1).isSome ((fnd now o.f1).getD 0) false 0 (.slice none 0 0) 0) 26)).drew :=
    ⟨hP2.c2, by rw [blk_cell hop2]; rfl, hrunh⟩
  have hkd : ((doW w o A c).drew.alloc (.cells (ansC 0 (fnd now o.f1).isSome ((fnd now o.f1).getD 0) false 0 (.slice none 0 0) 0) 26)).drew.cell? ⟨w.heap.size, 0, none⟩ = some (.int .u8 o.f0) := by rw [blk_cell hop2]; rfl
  have HVH := Lib.hid hvh
  have HW2 := Lib.hid hW2
  have HP2 := Lib.hid hP2
  have HOP2 := Lib.hid hop2
  have HRA2 := Lib.hid hra2
  have HFA2 := Lib.hid hfa2
  have hfnd0 : (fnd now o.f1).isSome = (fnd now o.f1).isSome := rfl
  obtain ⟨fo, hfo⟩ : ∃ b : Bool, b = (fnd now o.f1).isSome := ⟨_, rfl⟩
  obtain ⟨fv, hfv⟩ : ∃ v : Int, v = (fnd now o.f1).getD 0 := ⟨_, rfl⟩
  obtain ⟨hd, hhd⟩ : ∃ b : Bool, b = (fnd held o.f4).isSome := ⟨_, rfl⟩
  rw [← hfo, ← hfv] at HS HS2 HW2 HP2 HOP2 HRA2 HFA2 hkd
  rw [← hhd] at HS2
  have HFO := Lib.hid hfo
  have HFV := Lib.hid hfv
  have HHD := Lib.hid hhd
  clear hM hF hO hh hb0 hP0 hvh hrunh hW2 hP2 hs2 hop2 hra2 hfa2 hfnd0 hfo hfv hhd
  obtain ⟨W1, hW1⟩ : ∃ W1, W1 = doW w o A c := ⟨_, rfl⟩
  have HW1 := Lib.hid hW1
  rw [← hW1] at HS HS2 HW2 HP2 HOP2 HRA2 HFA2 hkd
  go_enter Try.func15, Try.ntmps15
  go_wp2_with fail
  change Code.wp _ _ _ _ (doW w o A c)
  rw [← hW1]
  clear hW1
  go_region_held3 (fun w' => w'.cell? ⟨gp, 1, none⟩ = some (.map (some bn)) ∧ w'.cell? ⟨w.heap.size, 1, none⟩ = some (.int .u64 o.f1) ∧ (Instr.lookup 97 (.map (some bn)) (.int .u64 o.f1) true).run Try.prog w' = .ok (.tuple #[.int .u64 fv, .bool fo]) w')
    (first | go_keep | exact HS)
    (first | fail | fail)
  clear HS
  have hs1 : W1.heap.size = w.heap.size + 2 := by rw [HW1.out]; exact doW_size w o A c
  go_wp2_with fail
  obtain ⟨W2, hW2⟩ : ∃ W2, W2 = W1.drew.alloc (Obj.cells (ansC 0 fo fv false 0 (Value.slice none 0 0) 0) 26) := ⟨_, rfl⟩
  change Code.wp _ _ _ _ (W1.drew.alloc (Obj.cells (ansC 0 fo fv false 0 (Value.slice none 0 0) 0) 26))
  rw [← hW2] at HS2 HW2 HP2 HOP2 HRA2 HFA2 hkd ⊢
  clear hW2
  go_region_held3 (fun w' => w'.cell? ⟨gp, 2, none⟩ = some (.map (some bh)) ∧ w'.cell? ⟨w.heap.size, 4, none⟩ = some (.int .u64 o.f4) ∧ (Instr.lookup 98 (.map (some bh)) (.int .u64 o.f4) true).run Try.prog w' = .ok (.tuple #[vh, .bool hd]) w')
    (first | go_keep | exact HS2)
    (first | fail | fail)
  clear HS2
  obtain ⟨W, hW⟩ : ∃ W, W = W2.drew := ⟨_, rfl⟩
  rw [← hW] at HW2 HP2 HOP2 HRA2 HFA2 hkd ⊢
  clear hW
  have q1 := ho 1 (by omega) (by omega)
  have q2 := ho 2 (by omega) (by omega)
  have q3 := ho 3 (by omega) (by omega)
  have q4 := ho 4 (by omega) (by omega)
  have q5 := ho 5 (by omega) (by omega)
  have q6 := ho 6 (by omega) (by omega)
  have q7 := ho 7 (by omega) (by omega)
  have q8 := ho 8 (by omega) (by omega)
  have q9 := ho 9 (by omega) (by omega)
  have q10 := ho 10 (by omega) (by omega)
  clear ho hk
  have HL3 := Lib.hid (left_same (K := fun k => k = bn ∨ k = bh) HM.out HF.out HW2.out (Nat.le_succ N))
  have HFA3 := HFA2
  have HRA3 := HRA2
  obtain ⟨l0, l1, l2, l3, l4, l5, l6⟩ := ans_cells HFA3.out
  go_wp2_with (first | ((with_reducible refine gate_store (t := 26) (p := 6) rfl ?_); refine wpList_store_row rfl 26 (.tmp 6) (.tmp 122) rfl (w.heap.size + 1) (ansC 160 false 0 false 0 (.slice none 0 0) 0) rfl rfl 26 _ HRA3.out (by kernel_rfl) rfl (ansC_one _ _ _ _ _ _ _ _ _) ?_))
  refine bodyPost_ret (res_ans rfl _ rfl (setRow_heap _ _ _ _ _ _ HRA3.out)) rfl ⟨.slice none 0 0, by rfl, Kd.R_nil _ _ _ _ _, HL3.out.row (by omega) HRA3.out hgl hnl hhl _⟩
end Go.Proofs.Ytngocadnbpdnoaa.Mo
-- Written by a program of this session over the kit's print.py, which was handed contracts that were proved by hand. Lean checks it.
namespace Go.Proofs.Ytngocadnbpdnoaa.Q
open Go.RowKit Go.Proofs.YtngocadnbpdnoaaW.PrintWords Go.Proofs.YtngocadnbpdnoaaW.PrintLast Go.Proofs.YtngocadnbpdnoaaW.PrintMore
attribute [local go_sem] max2_int min2_int max_two min_two max_three min_three max_four min_four   -- for this text's walks alone
set_option linter.unusedVariables false
set_option linter.unusedSimpArgs false

theorem eqA90 (d : Nat) (w : World) (x0 y0 : Int) (x1 y1 : Int) :
    (Op.equalIn (d + 2) 90 (.agg #[.int .u64 x0, .int .u64 x1]) (.agg #[.int .u64 y0, .int .u64 y1])).run Try.prog w = .ok (x0 == y0 && (x1 == y1)) w := by
  refine eqA_of Try.underlying90 (by kernel_rfl) ?_
  refine eqf_cons (by rfl) (by go_simp; rfl) (by go_simp; rfl) (by go_simp) ?_
  exact eqf_last (by rfl) (by go_simp; rfl) (by go_simp; rfl) (by go_simp)
end Go.Proofs.Ytngocadnbpdnoaa.Q
-- Written by a program of this session over the kit's print.py, which was handed contracts that were proved by hand. Lean checks it.
namespace Go.Proofs.Ytngocadnbpdnoaa.Q
open Go.RowKit Go.Proofs.YtngocadnbpdnoaaW.PrintWords Go.Proofs.YtngocadnbpdnoaaW.PrintLast Go.Proofs.YtngocadnbpdnoaaW.PrintMore
attribute [local go_sem] max2_int min2_int max_two min_two max_three min_three max_four min_four   -- for this text's walks alone
set_option linter.unusedVariables false
set_option linter.unusedSimpArgs false

attribute [local go_sem high] eqA90
/-! ### api_Pair: function 34 -/
def api_Pair.l0 : Nat → List (S90) → List (S90) → Int → Int → Option (Bool)
  | 0, _, _, _, _ => none
  | k + 1, x0, x1, x12, x13 => if x13 < x12 then (if 0 ≤ x13 then (if x13 < (x0.length : Int) then (if x13 < (x1.length : Int) then (if (!(((rd_T90 x0 x13).f0) == ((rd_T90 x1 x13).f0)) || (!(((rd_T90 x0 x13).f1) == ((rd_T90 x1 x13).f1)))) = true then (some false) else (api_Pair.l0 k x0 x1 x12 (wrap64 (x13 + 1)))) else (none)) else (none)) else (none)) else (some true)
def api_Pair.f (k : Nat) (l0 : List (S90)) (l1 : List (S90)) : Option (Bool) := if (l0.length : Int) = (l1.length : Int) then (api_Pair.l0 k l0 l1 (l0.length : Int) 0) else (some false)
theorem api_Pair.mono_l : ∀ k, (∀ y0 y1 y2 y3, LeO (api_Pair.l0 k y0 y1 y2 y3) (api_Pair.l0 (k + 1) y0 y1 y2 y3))
  | 0 => fun _ _ _ _ r h => by simp [api_Pair.l0] at h
  | k + 1 => by
    have ih0 := api_Pair.mono_l k
    · intro y0 y1 y2 y3
      unfold api_Pair.l0
      repeat' first
      | (with_reducible exact ih0 _ _ _ _)
      | (with_reducible exact LeO.refl _)
      | (with_reducible exact LeO.none _)
      | (with_reducible refine LeO.ite ?_ ?_)
      | (with_reducible refine LeO.bind ?_ (fun _ => ?_))
      | exact ih0 _ _ _ _
      | exact LeO.none _
      | refine LeO.ite ?_ ?_
      | refine LeO.bind ?_ (fun _ => ?_)
theorem api_Pair.mono : ∀ a0 a1 k, LeO (api_Pair.f k a0 a1) (api_Pair.f (k + 1) a0 a1) := by
  intro a0 a1 k
  have ih0 := api_Pair.mono_l k
  unfold api_Pair.f
  repeat' first
      | (with_reducible exact ih0 _ _ _ _)
      | (with_reducible exact LeO.refl _)
      | (with_reducible exact LeO.none _)
      | (with_reducible refine LeO.ite ?_ ?_)
      | (with_reducible refine LeO.bind ?_ (fun _ => ?_))
      | exact ih0 _ _ _ _
      | exact LeO.none _
      | refine LeO.ite ?_ ?_
      | refine LeO.bind ?_ (fun _ => ?_)
set_option maxHeartbeats 8000000 in
set_option maxRecDepth 100000 in
theorem api_Pair.calls (k : Nat) (A0 : Option Addr) (c0 : Nat) (l0 : List (S90)) (A1 : Option Addr) (c1 : Nat) (l1 : List (S90)) (r : Bool) (w : World) (hr0 : Kd.C k90 w A0 l0.length l0) (hc0 : l0.length ≤ c0) (hr1 : Kd.C k90 w A1 l1.length l1) (hc1 : l1.length ≤ c1) (h : api_Pair.f k l0 l1 = some r) :
    Calls Try.prog 34 #[.slice A0 l0.length c0, .slice A1 l1.length c1] w fun e w' => e = .returned (.bool r) ∧ Drawn0 w w' := by
  have hu90 := Try.underlying90
  have HR0 := Aside0.mk hr0
  have HC0 := Aside0.mk hc0
  clear hr0 hc0
  have HR1 := Aside0.mk hr1
  have HC1 := Aside0.mk hc1
  clear hr1 hc1
  have H : (if (l0.length : Int) = (l1.length : Int) then (api_Pair.l0 k l0 l1 (l0.length : Int) 0) else (some false)) = some r := h
  clear h
  by_cases c3 : (l0.length : Int) = (l1.length : Int)
  · rw [if_pos c3] at H
    have c3b0 : ((l0.length : Int) == (l1.length : Int)) = true := beq_iff_eq.mpr c3
    have c3b1 : ((l0.length : Int) != (l1.length : Int)) = false := bne_eq_false_iff_eq.mpr c3
    have c3b2 : (l0.length == l1.length) = true := by first | simpa using c3 | (simp at c3 ⊢; omega)
    clear c3
    have H' := Aside0.mk H
    clear H
    go_enter Try.func34, Try.ntmps34
    go_wp2
    repeat (go_quiet (fail); try go_wp2)
    go_loopg [13] k (fun kq v13 w' => ∃ (x13_1 : Int), v13 = .int .i64 x13_1 ∧ Aside0 (api_Pair.l0 kq l0 l1 (l0.length : Int) x13_1 = some r) ∧ Aside0 (kq ≤ k) ∧ Drawn0 w w')
    case atStart => exact ⟨(0), (by first | rfl | (simp; done) | (simp [*]; done)), H', ⟨Nat.le_refl _⟩, by repeat (first | exact Drawn0.refl _ | apply Drawn0.step)⟩
    case round =>
      clear H'
      try clear c1
      try clear p2
      try clear c3
      try clear c3b0
      try clear c3b1
      try clear c3b2
      obtain ⟨x13_1, rfl, HA, HK1, ⟨m1, rfl⟩⟩ := hrel
      cases gk with
      | zero => exact absurd HA.out (by simp [api_Pair.l0])
      | succ k1 =>
        have H := HA.out
        clear HA
        simp only [api_Pair.l0] at H
        by_cases c4 : x13_1 < (l0.length : Int)
        · rw [if_pos c4] at H
          have c4b0 : decide (x13_1 < (l0.length : Int)) = true := decide_eq_true c4
          clear c4
          by_cases c5 : 0 ≤ x13_1
          · rw [if_pos c5] at H
            have c5b0 : decide (0 ≤ x13_1) = true := decide_eq_true c5
            clear c5
            by_cases c6 : x13_1 < (l0.length : Int)
            · rw [if_pos c6] at H
              have c6b0 : decide (x13_1 < (l0.length : Int)) = true := decide_eq_true c6
              clear c6
              by_cases c7 : x13_1 < (l1.length : Int)
              · rw [if_pos c7] at H
                have c7b0 : decide (x13_1 < (l1.length : Int)) = true := decide_eq_true c7
                clear c7
                by_cases c8 : (!(((rd_T90 l0 x13_1).f0) == ((rd_T90 l1 x13_1).f0)) || (!(((rd_T90 l0 x13_1).f1) == ((rd_T90 l1 x13_1).f1)))) = true
                · rw [if_pos c8] at H
                  have c8b0 : (!(((rd_T90 l0 x13_1).f0) == ((rd_T90 l1 x13_1).f0)) || (!(((rd_T90 l0 x13_1).f1) == ((rd_T90 l1 x13_1).f1)))) = true := c8
                  clear c8
                  obtain rfl := Option.some.inj H
                  have p101 : 0 ≤ (x13_1 : Int) := of_decide_eq_true (by first | (with_reducible assumption) | assumption)
                  have q101 : x13_1 < (l0.length : Int) := of_decide_eq_true (by first | (with_reducible assumption) | assumption)
                  obtain ⟨ad101, e101, hx101_0, hx101_1⟩ := at_T90 HR0.out x13_1 p101 q101
                  cases e101
                  replace p101 := eq_true p101
                  replace q101 := eq_true q101
                  have p102 : 0 ≤ (x13_1 : Int) := of_decide_eq_true (by first | (with_reducible assumption) | assumption)
                  have q102 : x13_1 < (l1.length : Int) := of_decide_eq_true (by first | (with_reducible assumption) | assumption)
                  obtain ⟨ad102, e102, hx102_0, hx102_1⟩ := at_T90 HR1.out x13_1 p102 q102
                  cases e102
                  replace p102 := eq_true p102
                  replace q102 := eq_true q102
                  go_wp2
                  repeat (go_quiet (fail); try go_wp2)
                  go_ret
                  exact ⟨by first | rfl | (simp; done) | (simp [*]; done), by repeat (first | exact Drawn0.refl _ | apply Drawn0.step)⟩
                · rw [if_neg c8] at H
                  have c8b0 : (!(((rd_T90 l0 x13_1).f0) == ((rd_T90 l1 x13_1).f0)) || (!(((rd_T90 l0 x13_1).f1) == ((rd_T90 l1 x13_1).f1)))) = false := by simpa using c8
                  clear c8
                  have H' := Aside0.mk H
                  clear H
                  have p101 : 0 ≤ (x13_1 : Int) := of_decide_eq_true (by first | (with_reducible assumption) | assumption)
                  have q101 : x13_1 < (l0.length : Int) := of_decide_eq_true (by first | (with_reducible assumption) | assumption)
                  obtain ⟨ad101, e101, hx101_0, hx101_1⟩ := at_T90 HR0.out x13_1 p101 q101
                  cases e101
                  replace p101 := eq_true p101
                  replace q101 := eq_true q101
                  have p102 : 0 ≤ (x13_1 : Int) := of_decide_eq_true (by first | (with_reducible assumption) | assumption)
                  have q102 : x13_1 < (l1.length : Int) := of_decide_eq_true (by first | (with_reducible assumption) | assumption)
                  obtain ⟨ad102, e102, hx102_0, hx102_1⟩ := at_T90 HR1.out x13_1 p102 q102
                  cases e102
                  replace p102 := eq_true p102
                  replace q102 := eq_true q102
                  go_wp2
                  repeat (go_quiet (fail); try go_wp2)
                  go_roundg k1
                  case measure => have := HK1.out; omega
                  case rel => exact ⟨(wrap64 (x13_1 + 1)), (by first | rfl | (simp; done) | (simp [*]; done)), H', ⟨by have := HK1.out; omega⟩, by repeat (first | exact Drawn0.refl _ | apply Drawn0.step)⟩
              · rw [if_neg c7] at H
                exact absurd H (by simp)
            · rw [if_neg c6] at H
              exact absurd H (by simp)
          · rw [if_neg c5] at H
            exact absurd H (by simp)
        · rw [if_neg c4] at H
          have c4b0 : decide (x13_1 < (l0.length : Int)) = false := decide_eq_false c4
          clear c4
          obtain rfl := Option.some.inj H
          go_wp2
          repeat (go_quiet (fail); try go_wp2)
          go_ret
          exact ⟨by first | rfl | (simp; done) | (simp [*]; done), by repeat (first | exact Drawn0.refl _ | apply Drawn0.step)⟩
  · rw [if_neg c3] at H
    have c3b0 : ((l0.length : Int) == (l1.length : Int)) = false := beq_eq_false_iff_ne.mpr c3
    have c3b1 : ((l0.length : Int) != (l1.length : Int)) = true := bne_iff_ne.mpr c3
    have c3b2 : (l0.length == l1.length) = false := by first | simpa using c3 | (simp at c3 ⊢; omega)
    obtain rfl := Option.some.inj H
    go_enter Try.func34, Try.ntmps34
    go_wp2
    repeat (go_quiet (fail); try go_wp2)
    go_ret
    exact ⟨by first | rfl | (simp; done) | (simp [*]; done), by repeat (first | exact Drawn0.refl _ | apply Drawn0.step)⟩

end Go.Proofs.Ytngocadnbpdnoaa.Q
