import Derived.Test.YtbpkepcbmenbcaaAr2
import Derived.Lib.SliceRun
namespace Go.Proofs.Ytbpkepcbmenbcaa.Ar
open Go.RowKit Go.Proofs.YtbpkepcbmenbcaaW.PrintWords Go.Proofs.YtbpkepcbmenbcaaW.PrintLast Go.Proofs.YtbpkepcbmenbcaaW.PrintMore
set_option linter.unusedVariables false
set_option linter.unusedSimpArgs false
theorem R_empty (W : World) (base : Nat) (ok : Nat → Prop) (hb : base ≤ W.heap.size) (ho : ok W.heap.size) : (Kd.int .u64).R 33 (W.alloc (.cells #[] 33)) base ok (.slice (some ⟨W.heap.size, 0, none⟩) 0 0) [] := by
  refine Kd.R_of_own (xs := []) (enc := Value.int .u64) (h1 := fun _ => rfl) ⟨by simp [encs], .inr ⟨W.heap.size, 0, #[], rfl, hb, heap_alloc_new W _, Nat.le_refl _, by simp [maxLen], by simp, by simp [encs]⟩⟩ (fun k hk => ?_)
  simp only [Value.ownBlock, Option.some.injEq] at hk
  exact hk ▸ ho
set_option maxRecDepth 100000 in
set_option maxHeartbeats 2000000 in
theorem clone_c (A : Option Addr) (vals : List Int) (c : Nat) (w : World) (hv : (Kd.int .u64).C w A vals.length vals) (hc : vals.length ≤ c) (hl : vals.length ≤ 1099511627775) :
    Calls Try.prog 47 #[.slice A vals.length c] w fun e w' => ∃ v, e = .returned v ∧ (Kd.int .u64).R 33 w' w.heap.size (fun _ => True) v vals ∧ Below w.heap.size w w' := by
  have qT : ∀ (w : World) (a : Option Addr) (n c n' c' : Nat), (binOp .eql 30 (.slice a n c) (.slice none n' c')).run Try.prog w = .ok (.bool a.isNone) w := fun w a n c n' c' => Lib.run_eql_slice_nil w _ _ a n c n' c' Try.underlying30
  have HV := Lib.hid hv
  have HC := Lib.hid hc
  have HL := Lib.hid hl
  clear hv hc hl
  cases A with
  | none =>
    go_enter Try.func47, Try.ntmps47
    go_wp2_with fail
    go_ret
    have h0 : vals = [] := by
      rcases Nat.eq_zero_or_pos vals.length with h | h
      · exact List.eq_nil_of_length_eq_zero h
      · obtain ⟨ad, e, -⟩ := HV.out.2.2 h
        cases e
    subst h0
    exact ⟨_, rfl, Kd.R_nil _ _ _ _ _, Below.refl _ _⟩
  | some ad =>
    go_enter Try.func47, Try.ntmps47
    go_wp2_with (first | (at_builtin; refine Kd.R_append_rows (Kd.int .u64) (w0 := w) w.heap.size rfl (.tmp 5) (.tmp 6) 30 33 (.int .u64 0) 8 rfl Try.underlying30 infoU64 rfl (by decide) (by omega) (.slice (some ⟨w.heap.size, 0, none⟩) 0 0) ([] : List Int) vals _ _ _ (fun _ => True) (fun _ => False) rfl rfl (R_empty _ _ _ (Nat.le_refl _) trivial) (Kd.C_below HV.out (below_alloc (Below.refl _ _) _)) (fun _ _ h => h) (fun _ h => h.elim) (fun _ _ => trivial) (below_alloc (Below.refl _ _) _) (by simp) ?aL ?_))
    case aL => have := HL.out; simp only [List.length_nil]; omega
    intro v1 w1 h1 h2 h3 h4
    obtain ⟨A1, c1, rfl⟩ := Kd.R_slice h1
    have H1 := Lib.hid h1
    have H2 := Lib.hid h2
    clear h1 h2 h3 h4
    go_wp2_with fail
    go_ret
    exact ⟨_, rfl, H1.out, H2.out⟩
end Go.Proofs.Ytbpkepcbmenbcaa.Ar
