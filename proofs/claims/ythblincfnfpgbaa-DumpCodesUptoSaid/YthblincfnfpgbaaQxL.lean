import Derived.Test.YthblincfnfpgbaaQx30
import Derived.Test.YthblincfnfpgbaaQxPB
import Derived.Test.YthblincfnfpgbaaQxH3
namespace Go.Proofs.Ythblincfnfpgbaa.Q
open Go.RowKit Go.Proofs.YthblincfnfpgbaaW.PrintWords Go.Proofs.YthblincfnfpgbaaW.PrintLast Go.Proofs.YthblincfnfpgbaaW.PrintMore
set_option linter.unusedVariables false
/-- A copy of l in memory of its own, a marked pair behind it. -/
def Lent (w : World) (v : Value) (l : List S82) : Prop := ∃ g cap, v = .slice (some ⟨g, 0, none⟩) l.length cap ∧ l.length + 1 ≤ cap ∧ Kd.C k82 w (some ⟨g, 0, none⟩) (l ++ [(⟨77, 77⟩ : S82)]).length (l ++ [(⟨77, 77⟩ : S82)]) ∧ g < w.heap.size
theorem lent_below {w w' : World} {v : Value} {l : List S82} (h : Lent w v l) (hb : Below w.heap.size w w') : Lent w' v l := by
  obtain ⟨g, cap, h1, h2, h3, h4⟩ := h
  exact ⟨g, cap, h1, h2, Kd.C_below h3 hb, Nat.lt_of_lt_of_le h4 hb.size⟩
theorem C_take {α : Type} {d : Kd α} {w : World} {A : Option Addr} {n m : Nat} {xs ys : List α} (h : Kd.C d w A n (xs ++ ys)) (hm : m = xs.length) : Kd.C d w A m xs := by
  obtain ⟨h1, h2, h3⟩ := h
  refine ⟨hm.symm, by rw [List.length_append] at h1; omega, fun hp => ?_⟩
  obtain ⟨ad, e, hc⟩ := h3 (by rw [List.length_append] at h1; omega)
  refine ⟨ad, e, fun j p hj => hc j p ?_⟩
  rw [List.getElem?_append_left (List.getElem?_eq_some_iff.1 hj).1]
  exact hj
theorem lent_reads {w : World} {v : Value} {l : List S82} (h : Lent w v l) : ∃ A c, v = .slice A l.length c ∧ l.length ≤ c ∧ Kd.C k82 w A l.length l := by
  obtain ⟨g, cap, h1, h2, h3, h4⟩ := h
  exact ⟨_, cap, h1, by omega, C_take h3 rfl⟩
set_option maxHeartbeats 4000000 in
set_option maxRecDepth 100000 in
theorem lent_c (A : Option Addr) (c : Nat) (l : List S82) (w : World) (hA : Kd.C k82 w A l.length l) (hl : l.length < 4398046511104) :
    Calls Try.prog 13 #[.slice A l.length c] w fun e w' => ∃ v, e = .returned v ∧ Lent w' v l ∧ Below w.heap.size w w' := by
  have hu82 := Try.underlying82
  have HA := Lib.hid hA
  have HL := Lib.hid hl
  clear hA hl
  go_enter Try.func13, Try.ntmps13
  go_wp2_with (first | (at_builtin; refine Kd.R_append_rows k82 (w0 := w) w.heap.size rfl (.tmp 4) (.tmp 5) 22 82 (.agg #[(.int .u64 0), (.int .u64 0)]) 16 rfl Try.underlying22 info82 rfl (by decide) (by omega) (.slice none 0 0) ([] : List (S82)) l _ _ _ (fun _ => True) (fun _ => False) rfl rfl (Kd.R_nil _ _ _ _ _) HA.out (fun _ _ h => h) (fun _ h => h.elim) (fun _ _ => trivial) (Below.refl _ _) (Nat.le_refl _) ?aL ?_))
  case aL => have := HL.out; simp only [List.length_nil]; omega
  intro v1 w1 h1 h2 h3 h4
  obtain ⟨A1, c1, rfl⟩ := Kd.R_slice h1
  have H1 := Lib.hid h1
  have H2 := Lib.hid h2
  clear h1 h2 h3 h4
  go_wp2_with (first | (at_builtin; refine Kd.R_append k82 (w0 := w) w.heap.size (by rfl) (.tmp 7) (.tmp 9) 22 82 (.agg #[.int .u64 0, .int .u64 0]) 16 rfl Try.underlying22 info82 rfl (by decide) (by omega) _ _ (⟨77, 77⟩ : S82) [.int .u64 77, .int .u64 77] (fun _ => True) (fun _ => False) rfl rfl ?aP (fun _ hk => hk.elim) (fun _ _ => trivial) H1.out H2.out H2.out.size ?aL ?_))
  case aP => exact k82_mkM _ _ _ (⟨77, 77⟩ : S82)
  case aL => have := HL.out; simp; omega
  intro v2 w2 h1 h2 h3 h4
  obtain ⟨A2, c2, rfl, h5, h6⟩ := Kd.R_reads h1
  have hlen : (l ++ [(⟨77, 77⟩ : S82)]).length = l.length + 1 := by simp
  have HX : Hid (∃ g, A2 = some ⟨g, 0, none⟩ ∧ g < w2.heap.size) := by
    obtain ⟨inner, ho⟩ := Kd.R_own h1
    rcases ho.2 with ⟨he, _⟩ | ⟨g, cap, cur, he, _, hg, _⟩
    · injection he with _ he2
      rw [hlen] at he2
      cases he2
    · injection he with he _ _
      exact ⟨g, he, blk_lt hg⟩
  have H5 := Lib.hid h5
  have H6 := Lib.hid h6
  have H7 := Lib.hid h2
  have b1 : (l.length : Int) ≤ (c2 : Int) := by rw [hlen] at h5; omega
  have b2 : l.length ≤ c2 := by omega
  clear h1 h2 h3 h4 h5 h6 hlen
  go_wp2
  go_ret
  obtain ⟨g, rfl, hg⟩ := HX.out
  refine ⟨_, rfl, ⟨g, c2, ?_, ?_, H6.out, hg⟩, H7.out⟩
  · rfl
  · have := H5.out; simpa using this

set_option maxHeartbeats 4000000 in
set_option maxRecDepth 100000 in
theorem kept_c (v : Value) (A : Option Addr) (c : Nat) (l : List S82) (w : World) (hv : Lent w v l) (hA : Kd.C k82 w A l.length l) (hc : l.length ≤ c) (hl : l.length < 4398046511104) (hs : ∃ k, shutterref11_SamePairs.f k l l = some true) :
    Calls Try.prog 18 #[v, .slice A l.length c] w fun e w' => e = .returned (.bool true) ∧ Below w.heap.size w w' := by
  have hu82 := Try.underlying82
  obtain ⟨g, cap, rfl, h2, h3, h4⟩ := hv
  obtain ⟨k, hs⟩ := hs
  have HA := Lib.hid hA
  have HC := Lib.hid hc
  have HS := Lib.hid hs
  have H0 := Lib.hid (C_take h3 (m := l.length) rfl)
  have H1 := Lib.hid (show l.length ≤ cap by omega)
  obtain ⟨a, e, hp1, hp2⟩ := at82 h3 l.length (by simp)
  obtain rfl : (⟨g, 0, none⟩ : Addr) = a := by injection e
  have b1 : (l.length : Int) + 1 ≤ (cap : Int) := by omega
  have b2 : (l.length : Int) < (l.length : Int) + 1 := by omega
  have b3 : (l.length : Int) ≤ 4398046511104 := by omega
  rw [add_plain] at hp1 hp2
  simp only [List.getElem_append_right (Nat.le_refl _), Nat.sub_self, List.getElem_cons_zero] at hp1 hp2
  clear hA hc hs h3 h4 hl e
  go_enter Try.func18, Try.ntmps18
  go_wp2_with fail
  go_at_call 17
  refine (shutterref11_SamePairs.calls _ _ _ _ _ _ _ _ _ H0.out H1.out HA.out HC.out HS.out).mono ?_
  rintro e w1 ⟨rfl, hd⟩
  obtain ⟨nd, rfl⟩ := hd
  go_wp2
  go_ret
  exact ⟨rfl, pw_below_drewN (Below.refl _ _) _⟩
end Go.Proofs.Ythblincfnfpgbaa.Q
