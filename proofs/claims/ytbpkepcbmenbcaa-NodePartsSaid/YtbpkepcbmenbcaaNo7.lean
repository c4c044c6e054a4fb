import Derived.Test.YtbpkepcbmenbcaaNo6
namespace Go.Proofs.Ytbpkepcbmenbcaa.Ar
open Go.RowKit Go.Proofs.YtbpkepcbmenbcaaW.PrintWords Go.Proofs.YtbpkepcbmenbcaaW.PrintLast Go.Proofs.YtbpkepcbmenbcaaW.PrintMore
set_option linter.unusedVariables false
set_option linter.unusedSimpArgs false
set_option maxRecDepth 100000 in
theorem vload_nil (a : Int) (w : World) :
    Calls Try.prog 38 #[.pointer none, .int .u64 a] w fun e w' => e = .returned (.int .u64 0) ∧ w = w' := by
  go_enter Try.func38, Try.ntmps38
  go_wp2_with fail
  go_ret
  exact ⟨rfl, rfl⟩
set_option maxRecDepth 100000 in
theorem valloc_nil (v : Value) (w : World) :
    Calls Try.prog 34 #[.pointer none, v] w fun e w' => e = .returned (.int .u64 0) ∧ w = w' := by
  go_enter Try.func34, Try.ntmps34
  go_wp2_with fail
  go_ret
  exact ⟨rfl, rfl⟩
set_option maxRecDepth 100000 in
theorem leafstep_nil (v : Value) (w : World) :
    Calls Try.prog 11 #[.pointer none, v] w fun e w' => e = .returned (.bool true) ∧ w = w' := by
  go_enter Try.func11, Try.ntmps11
  go_wp2_with fail
  go_ret
  exact ⟨rfl, rfl⟩
set_option maxRecDepth 100000 in
theorem leafword_nil (w : World) :
    Calls Try.prog 13 #[.pointer none] w fun e w' => e = .returned (.int .u64 0) ∧ w = w' := by
  go_enter Try.func13, Try.ntmps13
  go_wp2_with fail
  go_ret
  exact ⟨rfl, rfl⟩
set_option maxRecDepth 100000 in
theorem leaferr_nil (w : World) :
    Calls Try.prog 12 #[.pointer none] w fun e w' => e = .returned (.int .i64 1) ∧ w = w' := by
  go_enter Try.func12, Try.ntmps12
  go_wp2_with fail
  go_ret
  exact ⟨rfl, rfl⟩
set_option maxRecDepth 100000 in
theorem forkstep_nil (v : Value) (w : World) :
    Calls Try.prog 18 #[.pointer none, v] w fun e w' => e = .returned (.bool true) ∧ w = w' := by
  go_enter Try.func18, Try.ntmps18
  go_wp2_with fail
  go_ret
  exact ⟨rfl, rfl⟩
set_option maxRecDepth 100000 in
theorem forkword_nil (w : World) :
    Calls Try.prog 19 #[.pointer none] w fun e w' => e = .returned (.int .u64 0) ∧ w = w' := by
  go_enter Try.func19, Try.ntmps19
  go_wp2_with fail
  go_ret
  exact ⟨rfl, rfl⟩
set_option maxRecDepth 100000 in
theorem forkerr_nil (w : World) :
    Calls Try.prog 20 #[.pointer none] w fun e w' => e = .returned (.int .i64 1) ∧ w = w' := by
  go_enter Try.func20, Try.ntmps20
  go_wp2_with fail
  go_ret
  exact ⟨rfl, rfl⟩
set_option maxRecDepth 100000 in
theorem lookstep_nil (v : Value) (w : World) :
    Calls Try.prog 16 #[.pointer none, v] w fun e w' => e = .returned (.bool true) ∧ w = w' := by
  go_enter Try.func16, Try.ntmps16
  go_wp2_with fail
  go_ret
  exact ⟨rfl, rfl⟩
set_option maxRecDepth 100000 in
theorem lookpair_nil (w : World) :
    Calls Try.prog 17 #[.pointer none] w fun e w' => e = .returned (.agg #[.int .u64 0, .int .u64 0]) ∧ Below w.heap.size w w' := by
  go_enter Try.func17, Try.ntmps17
  go_wp2_with fail
  refine bodyPost_ret (v := .agg #[.int .u64 0, .int .u64 0]) (by simp [results, Try.results17, go_sem]) rfl ⟨rfl, ?_⟩
  exact below_alloc (Below.refl _ _) _
set_option maxRecDepth 100000 in
theorem accesses_c (gv gm made : Nat) (th : Int) (w : World) (hv : ViewAt w gv gm th made) :
    Calls Try.prog 21 #[.pointer (some ⟨gv, 0, none⟩)] w fun e w' => e = .returned (.int .i64 made) ∧ w = w' := by
  have c2 := hv.c2
  clear hv
  go_enter Try.func21, Try.ntmps21
  go_wp2_with fail
  go_ret
  exact ⟨rfl, rfl⟩
set_option maxRecDepth 100000 in
theorem forkerr_c (g : Nat) (f : Fk) (w : World) (h : ForkAt w g f) :
    Calls Try.prog 20 #[.pointer (some ⟨g, 0, none⟩)] w fun e w' => e = .returned (.int .i64 f.er) ∧ w = w' := by
  have H := Lib.hid (h.c 1)
  clear h
  go_enter Try.func20, Try.ntmps20
  go_wp2_with fail
  go_at_call 36
  refine (madeerr_c _ _ _ H.out).mono ?_
  rintro e w' ⟨rfl, rfl⟩
  go_wp2_with fail
  go_ret
  exact ⟨rfl, rfl⟩
/-- What a Fork tells as its word. -/
def Fk.word (f : Fk) : Int := if f.at_ = 5 then f.wd else 0
set_option maxRecDepth 100000 in
set_option maxHeartbeats 1000000 in
theorem forkword_c (g : Nat) (f : Fk) (w : World) (h : ForkAt w g f) :
    Calls Try.prog 19 #[.pointer (some ⟨g, 0, none⟩)] w fun e w' => e = .returned (.int .u64 f.word) ∧ w = w' := by
  have c8 : w.cell? ⟨g, 8, none⟩ = some (.int .i64 f.at_) := (h.c 8).trans rfl
  have H := Lib.hid (h.c 0)
  clear h
  by_cases h5 : f.at_ = 5
  · have e : f.word = f.wd := if_pos h5
    have hb : (f.at_ == 5) = true := by simp [h5]
    have hb2 : (f.at_ != 5) = false := by simp [h5]
    rw [e]
    clear e h5
    go_enter Try.func19, Try.ntmps19
    go_wp2_with fail
    go_at_call 37
    refine (madeword_c _ _ _ H.out).mono ?_
    rintro e w' ⟨rfl, rfl⟩
    go_wp2_with fail
    go_ret
    exact ⟨rfl, rfl⟩
  · have e : f.word = 0 := if_neg h5
    have hb : (f.at_ == 5) = false := by simpa using h5
    have hb2 : (f.at_ != 5) = true := by simpa using h5
    rw [e]
    clear e h5
    go_enter Try.func19, Try.ntmps19
    go_wp2_with fail
    go_ret
    exact ⟨rfl, rfl⟩
end Go.Proofs.Ytbpkepcbmenbcaa.Ar
