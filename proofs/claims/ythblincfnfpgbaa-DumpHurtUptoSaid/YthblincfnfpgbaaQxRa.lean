import Derived.Test.YthblincfnfpgbaaQx0
import Derived.ChangeKeysEq
import Derived.Laws.StructEq
namespace Go.Proofs.Ythblincfnfpgbaa.Q
open Go.RowKit Go.Proofs.YthblincfnfpgbaaW.PrintWords
set_option linter.unusedVariables false
set_option linter.unusedSimpArgs false
theorem part5 (xs : Array Value) (i : Nat) (v : Value) (h : xs[i]? = some v) (w : World) : (part 5 xs i).run Try.prog w = .ok v w := by
  obtain ⟨hi, hv⟩ := Array.getElem?_eq_some_iff.1 h
  simp [part, isAgg, run_underlying Try.underlying5, h]
theorem items_cons (d : Nat) (xs ys : Array Value) (i : Nat) (is : List Nat) (a b : Int) (w : World) (h1 : xs[i * 1]? = some (.int .u8 a)) (h2 : ys[i * 1]? = some (.int .u8 b)) (r : Bool) (h : (Op.eqItems (d + 1) 5 1 xs ys is).run Try.prog w = .ok r w) :
    (Op.eqItems (d + 1) 5 1 xs ys (i :: is)).run Try.prog w = .ok ((a == b) && r) w := by
  rw [Op.eqItems]
  simp only [Sem.run_bind, part5 _ _ _ h1, part5 _ _ _ h2, Result.andThen_ok, run_equalIn_int w d 5 .u8 .u8 a b Try.underlying5]
  cases a == b
  · simp
  · simpa using h
theorem eq_arr4 (y0 y1 y2 y3 f0 f1 f2 f3 : Int) (w : World) : Sem.run Try.prog (Op.equalIn 10000 117 (.agg #[.int .u8 y0, .int .u8 y1, .int .u8 y2, .int .u8 y3]) (.agg #[.int .u8 f0, .int .u8 f1, .int .u8 f2, .int .u8 f3])) w = .ok ([y0, y1, y2, y3] == [f0, f1, f2, f3]) w := by
  obtain ⟨i0, hi, -, -, -⟩ := info_parts info5
  have e := run_equalIn_array (P := Try.prog) w 9999 #[.int .u8 y0, .int .u8 y1, .int .u8 y2, .int .u8 y3] #[.int .u8 f0, .int .u8 f1, .int .u8 f2, .int .u8 f3] Try.underlying117 hi
  have hc : Try.prog.cellsOf 5 = 1 := by kernel_rfl
  rw [hc] at e
  rw [show (10000 : Nat) = 9999 + 1 from rfl]
  refine e.trans ?_
  have h := items_cons 9998 #[.int .u8 y0, .int .u8 y1, .int .u8 y2, .int .u8 y3] #[.int .u8 f0, .int .u8 f1, .int .u8 f2, .int .u8 f3] 0 [1, 2, 3] y0 f0 w rfl rfl _
    (items_cons 9998 _ _ 1 [2, 3] y1 f1 w rfl rfl _ (items_cons 9998 _ _ 2 [3] y2 f2 w rfl rfl _ (items_cons 9998 _ _ 3 [] y3 f3 w rfl rfl true (by simp [Op.eqItems]))))
  rw [show List.range 4 = [0, 1, 2, 3] from rfl]
  refine h.trans ?_
  congr 1
end Go.Proofs.Ythblincfnfpgbaa.Q
