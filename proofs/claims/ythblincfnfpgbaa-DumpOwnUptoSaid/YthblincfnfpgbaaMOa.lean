import Derived.Test.YthblincfnfpgbaaQx0
import Derived.Test.YthblincfnfpgbaaQxTk
import Derived.Test.YthblincfnfpgbaaQxV
import Derived.Test.YthblincfnfpgbaaQxH3
import Derived.Test.YthblincfnfpgbaaQxH1
import Derived.Outline
import Derived.IntWalk
import Derived.BigQuiet
import Derived.Deep.QuietTactic
import Derived.Deep.DeepCutAuto
import Derived.Lib.VarintBits
import Derived.Deep.RegionHeld3
import Derived.ChangeKeysEq
import Derived.Laws.StructEq
import Derived.WalkLawsBesides
import Derived.Laws.Cover3
import Derived.Test.YthblincfnfpgbaaQxH4g
import Derived.Test.YthblincfnfpgbaaQxNum
import Derived.Lib.EndianBits
import Derived.Test.YthblincfnfpgbaaQx33
import Derived.Test.YthblincfnfpgbaaQxLive
import Derived.Test.YthblincfnfpgbaaQxO82
import Derived.Test.YthblincfnfpgbaaQxScr
namespace Go.Proofs.Ythblincfnfpgbaa.Q
open Go.RowKit Go.Proofs.YthblincfnfpgbaaW.PrintWords Go.Proofs.YthblincfnfpgbaaW.PrintLast Go.Proofs.YthblincfnfpgbaaW.PrintMore
set_option linter.unusedVariables false
set_option linter.unusedSimpArgs false
set_option maxHeartbeats 4000000 in
set_option maxRecDepth 100000 in
theorem alone65 (g : Nat) (cs : Array Value) (w : World) (hg : w.heap[g]? = some (.cells cs 79 (0, 0))) (hf : cs[0]? = some (.slice none 0 0)) :
    Calls Try.prog 65 #[.pointer (some ⟨g, 0, none⟩)] w fun e w' => e = .returned (.bool true) ∧ w' = w := by
  have hc : w.cell? ⟨g, 0, none⟩ = some (.slice none 0 0) := by rw [cell_of_row w g 0 cs 79 (0, 0) hg]; exact hf
  go_enter Try.func65, Try.ntmps65
  go_wp2_with fail
  go_loopg [3] 0 (fun kq v w' => v = .int .i64 0 ∧ w' = w)
  case atStart => exact ⟨rfl, rfl⟩
  case round =>
    obtain ⟨rfl, rfl⟩ := hrel
    go_wp2_with fail
    go_loopg [5, 6] 0 (fun kq v u w' => v = .slice none 0 0 ∧ u = .int .i64 0 ∧ w' = wr)
    case atStart => exact ⟨rfl, rfl, rfl⟩
    case round =>
      obtain ⟨rfl, rfl, rfl⟩ := hrel
      go_wp2_with fail
      go_loopg [9] 0 (fun kq u w' => u = .int .i64 0 ∧ w' = wr)
      case atStart => exact ⟨rfl, rfl⟩
      case round =>
        obtain ⟨rfl, rfl⟩ := hrel
        go_wp2_with fail
        go_ret
        exact ⟨rfl, rfl⟩
set_option maxHeartbeats 4000000 in
set_option maxRecDepth 100000 in
theorem alone66 (g : Nat) (cs : Array Value) (w : World) (hg : w.heap[g]? = some (.cells cs 79 (0, 0))) (hf : cs[1]? = some (.slice none 0 0)) :
    Calls Try.prog 66 #[.pointer (some ⟨g, 0, none⟩)] w fun e w' => e = .returned (.bool true) ∧ w' = w := by
  have hc : w.cell? ⟨g, 1, none⟩ = some (.slice none 0 0) := by rw [cell_of_row w g 1 cs 79 (0, 0) hg]; exact hf
  go_enter Try.func66, Try.ntmps66
  go_wp2_with fail
  go_loopg [3] 0 (fun kq v w' => v = .int .i64 0 ∧ w' = w)
  case atStart => exact ⟨rfl, rfl⟩
  case round =>
    obtain ⟨rfl, rfl⟩ := hrel
    go_wp2_with fail
    go_loopg [5, 6] 0 (fun kq v u w' => v = .slice none 0 0 ∧ u = .int .i64 0 ∧ w' = wr)
    case atStart => exact ⟨rfl, rfl, rfl⟩
    case round =>
      obtain ⟨rfl, rfl, rfl⟩ := hrel
      go_wp2_with fail
      go_loopg [9] 0 (fun kq u w' => u = .int .i64 0 ∧ w' = wr)
      case atStart => exact ⟨rfl, rfl⟩
      case round =>
        obtain ⟨rfl, rfl⟩ := hrel
        go_wp2_with fail
        go_ret
        exact ⟨rfl, rfl⟩
set_option maxHeartbeats 4000000 in
set_option maxRecDepth 100000 in
theorem alone67 (g : Nat) (cs : Array Value) (w : World) (hg : w.heap[g]? = some (.cells cs 79 (0, 0))) (hf : cs[2]? = some (.slice none 0 0)) :
    Calls Try.prog 67 #[.pointer (some ⟨g, 0, none⟩)] w fun e w' => e = .returned (.bool true) ∧ w' = w := by
  have hc : w.cell? ⟨g, 2, none⟩ = some (.slice none 0 0) := by rw [cell_of_row w g 2 cs 79 (0, 0) hg]; exact hf
  go_enter Try.func67, Try.ntmps67
  go_wp2_with fail
  go_loopg [3] 0 (fun kq v w' => v = .int .i64 0 ∧ w' = w)
  case atStart => exact ⟨rfl, rfl⟩
  case round =>
    obtain ⟨rfl, rfl⟩ := hrel
    go_wp2_with fail
    go_loopg [5, 6] 0 (fun kq v u w' => v = .slice none 0 0 ∧ u = .int .i64 0 ∧ w' = wr)
    case atStart => exact ⟨rfl, rfl, rfl⟩
    case round =>
      obtain ⟨rfl, rfl, rfl⟩ := hrel
      go_wp2_with fail
      go_loopg [9] 0 (fun kq u w' => u = .int .i64 0 ∧ w' = wr)
      case atStart => exact ⟨rfl, rfl⟩
      case round =>
        obtain ⟨rfl, rfl⟩ := hrel
        go_wp2_with fail
        go_ret
        exact ⟨rfl, rfl⟩
set_option maxHeartbeats 4000000 in
set_option maxRecDepth 100000 in
theorem alone68 (g : Nat) (cs : Array Value) (w : World) (hg : w.heap[g]? = some (.cells cs 79 (0, 0))) (hf : cs[3]? = some (.slice none 0 0)) :
    Calls Try.prog 68 #[.pointer (some ⟨g, 0, none⟩)] w fun e w' => e = .returned (.bool true) ∧ w' = w := by
  have hc : w.cell? ⟨g, 3, none⟩ = some (.slice none 0 0) := by rw [cell_of_row w g 3 cs 79 (0, 0) hg]; exact hf
  go_enter Try.func68, Try.ntmps68
  go_wp2_with fail
  go_loopg [3] 0 (fun kq v w' => v = .int .i64 0 ∧ w' = w)
  case atStart => exact ⟨rfl, rfl⟩
  case round =>
    obtain ⟨rfl, rfl⟩ := hrel
    go_wp2_with fail
    go_loopg [5, 6] 0 (fun kq v u w' => v = .slice none 0 0 ∧ u = .int .i64 0 ∧ w' = wr)
    case atStart => exact ⟨rfl, rfl, rfl⟩
    case round =>
      obtain ⟨rfl, rfl, rfl⟩ := hrel
      go_wp2_with fail
      go_loopg [9] 0 (fun kq u w' => u = .int .i64 0 ∧ w' = wr)
      case atStart => exact ⟨rfl, rfl⟩
      case round =>
        obtain ⟨rfl, rfl⟩ := hrel
        go_wp2_with fail
        go_ret
        exact ⟨rfl, rfl⟩
set_option maxHeartbeats 4000000 in
set_option maxRecDepth 100000 in
theorem alone69 (g : Nat) (cs : Array Value) (w : World) (hg : w.heap[g]? = some (.cells cs 79 (0, 0))) (hf : cs[4]? = some (.slice none 0 0)) :
    Calls Try.prog 69 #[.pointer (some ⟨g, 0, none⟩)] w fun e w' => e = .returned (.bool true) ∧ w' = w := by
  have hc : w.cell? ⟨g, 4, none⟩ = some (.slice none 0 0) := by rw [cell_of_row w g 4 cs 79 (0, 0) hg]; exact hf
  go_enter Try.func69, Try.ntmps69
  go_wp2_with fail
  go_loopg [3] 0 (fun kq v w' => v = .int .i64 0 ∧ w' = w)
  case atStart => exact ⟨rfl, rfl⟩
  case round =>
    obtain ⟨rfl, rfl⟩ := hrel
    go_wp2_with fail
    go_loopg [5, 6] 0 (fun kq v u w' => v = .slice none 0 0 ∧ u = .int .i64 0 ∧ w' = wr)
    case atStart => exact ⟨rfl, rfl, rfl⟩
    case round =>
      obtain ⟨rfl, rfl, rfl⟩ := hrel
      go_wp2_with fail
      go_loopg [9] 0 (fun kq u w' => u = .int .i64 0 ∧ w' = wr)
      case atStart => exact ⟨rfl, rfl⟩
      case round =>
        obtain ⟨rfl, rfl⟩ := hrel
        go_wp2_with fail
        go_ret
        exact ⟨rfl, rfl⟩
set_option maxHeartbeats 4000000 in
set_option maxRecDepth 100000 in
theorem alone70 (g : Nat) (cs : Array Value) (w : World) (hg : w.heap[g]? = some (.cells cs 79 (0, 0))) (hf : cs[5]? = some (.slice none 0 0)) :
    Calls Try.prog 70 #[.pointer (some ⟨g, 0, none⟩)] w fun e w' => e = .returned (.bool true) ∧ w' = w := by
  have hc : w.cell? ⟨g, 5, none⟩ = some (.slice none 0 0) := by rw [cell_of_row w g 5 cs 79 (0, 0) hg]; exact hf
  go_enter Try.func70, Try.ntmps70
  go_wp2_with fail
  go_loopg [3] 0 (fun kq v w' => v = .int .i64 0 ∧ w' = w)
  case atStart => exact ⟨rfl, rfl⟩
  case round =>
    obtain ⟨rfl, rfl⟩ := hrel
    go_wp2_with fail
    go_loopg [5, 6] 0 (fun kq v u w' => v = .slice none 0 0 ∧ u = .int .i64 0 ∧ w' = wr)
    case atStart => exact ⟨rfl, rfl, rfl⟩
    case round =>
      obtain ⟨rfl, rfl, rfl⟩ := hrel
      go_wp2_with fail
      go_loopg [9] 0 (fun kq u w' => u = .int .i64 0 ∧ w' = wr)
      case atStart => exact ⟨rfl, rfl⟩
      case round =>
        obtain ⟨rfl, rfl⟩ := hrel
        go_wp2_with fail
        go_ret
        exact ⟨rfl, rfl⟩
set_option maxHeartbeats 4000000 in
set_option maxRecDepth 100000 in
theorem alone71 (g : Nat) (cs : Array Value) (w : World) (hg : w.heap[g]? = some (.cells cs 79 (0, 0))) (hf : cs[6]? = some (.slice none 0 0)) :
    Calls Try.prog 71 #[.pointer (some ⟨g, 0, none⟩)] w fun e w' => e = .returned (.bool true) ∧ w' = w := by
  have hc : w.cell? ⟨g, 6, none⟩ = some (.slice none 0 0) := by rw [cell_of_row w g 6 cs 79 (0, 0) hg]; exact hf
  go_enter Try.func71, Try.ntmps71
  go_wp2_with fail
  go_loopg [3] 0 (fun kq v w' => v = .int .i64 0 ∧ w' = w)
  case atStart => exact ⟨rfl, rfl⟩
  case round =>
    obtain ⟨rfl, rfl⟩ := hrel
    go_wp2_with fail
    go_loopg [5, 6] 0 (fun kq v u w' => v = .slice none 0 0 ∧ u = .int .i64 0 ∧ w' = wr)
    case atStart => exact ⟨rfl, rfl, rfl⟩
    case round =>
      obtain ⟨rfl, rfl, rfl⟩ := hrel
      go_wp2_with fail
      go_loopg [9] 0 (fun kq u w' => u = .int .i64 0 ∧ w' = wr)
      case atStart => exact ⟨rfl, rfl⟩
      case round =>
        obtain ⟨rfl, rfl⟩ := hrel
        go_wp2_with fail
        go_ret
        exact ⟨rfl, rfl⟩
set_option maxHeartbeats 4000000 in
set_option maxRecDepth 100000 in
theorem alone72 (g : Nat) (cs : Array Value) (w : World) (hg : w.heap[g]? = some (.cells cs 79 (0, 0))) (hf : cs[7]? = some (.slice none 0 0)) :
    Calls Try.prog 72 #[.pointer (some ⟨g, 0, none⟩)] w fun e w' => e = .returned (.bool true) ∧ w' = w := by
  have hc : w.cell? ⟨g, 7, none⟩ = some (.slice none 0 0) := by rw [cell_of_row w g 7 cs 79 (0, 0) hg]; exact hf
  go_enter Try.func72, Try.ntmps72
  go_wp2_with fail
  go_loopg [3] 0 (fun kq v w' => v = .int .i64 0 ∧ w' = w)
  case atStart => exact ⟨rfl, rfl⟩
  case round =>
    obtain ⟨rfl, rfl⟩ := hrel
    go_wp2_with fail
    go_loopg [5, 6] 0 (fun kq v u w' => v = .slice none 0 0 ∧ u = .int .i64 0 ∧ w' = wr)
    case atStart => exact ⟨rfl, rfl, rfl⟩
    case round =>
      obtain ⟨rfl, rfl, rfl⟩ := hrel
      go_wp2_with fail
      go_loopg [9] 0 (fun kq u w' => u = .int .i64 0 ∧ w' = wr)
      case atStart => exact ⟨rfl, rfl⟩
      case round =>
        obtain ⟨rfl, rfl⟩ := hrel
        go_wp2_with fail
        go_ret
        exact ⟨rfl, rfl⟩
set_option maxHeartbeats 4000000 in
set_option maxRecDepth 100000 in
theorem alone73 (g : Nat) (cs : Array Value) (w : World) (hg : w.heap[g]? = some (.cells cs 79 (0, 0))) (hf : cs[8]? = some (.slice none 0 0)) :
    Calls Try.prog 73 #[.pointer (some ⟨g, 0, none⟩)] w fun e w' => e = .returned (.bool true) ∧ w' = w := by
  have hc : w.cell? ⟨g, 8, none⟩ = some (.slice none 0 0) := by rw [cell_of_row w g 8 cs 79 (0, 0) hg]; exact hf
  go_enter Try.func73, Try.ntmps73
  go_wp2_with fail
  go_loopg [3] 0 (fun kq v w' => v = .int .i64 0 ∧ w' = w)
  case atStart => exact ⟨rfl, rfl⟩
  case round =>
    obtain ⟨rfl, rfl⟩ := hrel
    go_wp2_with fail
    go_loopg [5, 6] 0 (fun kq v u w' => v = .slice none 0 0 ∧ u = .int .i64 0 ∧ w' = wr)
    case atStart => exact ⟨rfl, rfl, rfl⟩
    case round =>
      obtain ⟨rfl, rfl, rfl⟩ := hrel
      go_wp2_with fail
      go_loopg [9] 0 (fun kq u w' => u = .int .i64 0 ∧ w' = wr)
      case atStart => exact ⟨rfl, rfl⟩
      case round =>
        obtain ⟨rfl, rfl⟩ := hrel
        go_wp2_with fail
        go_ret
        exact ⟨rfl, rfl⟩
set_option maxHeartbeats 4000000 in
set_option maxRecDepth 100000 in
theorem alone74 (g : Nat) (cs : Array Value) (w : World) (hg : w.heap[g]? = some (.cells cs 79 (0, 0))) (hf : cs[9]? = some (.slice none 0 0)) :
    Calls Try.prog 74 #[.pointer (some ⟨g, 0, none⟩)] w fun e w' => e = .returned (.bool true) ∧ w' = w := by
  have hc : w.cell? ⟨g, 9, none⟩ = some (.slice none 0 0) := by rw [cell_of_row w g 9 cs 79 (0, 0) hg]; exact hf
  go_enter Try.func74, Try.ntmps74
  go_wp2_with fail
  go_loopg [3] 0 (fun kq v w' => v = .int .i64 0 ∧ w' = w)
  case atStart => exact ⟨rfl, rfl⟩
  case round =>
    obtain ⟨rfl, rfl⟩ := hrel
    go_wp2_with fail
    go_loopg [5, 6] 0 (fun kq v u w' => v = .slice none 0 0 ∧ u = .int .i64 0 ∧ w' = wr)
    case atStart => exact ⟨rfl, rfl, rfl⟩
    case round =>
      obtain ⟨rfl, rfl, rfl⟩ := hrel
      go_wp2_with fail
      go_loopg [9] 0 (fun kq u w' => u = .int .i64 0 ∧ w' = wr)
      case atStart => exact ⟨rfl, rfl⟩
      case round =>
        obtain ⟨rfl, rfl⟩ := hrel
        go_wp2_with fail
        go_ret
        exact ⟨rfl, rfl⟩
set_option maxHeartbeats 4000000 in
set_option maxRecDepth 100000 in
theorem alone75 (g : Nat) (cs : Array Value) (w : World) (hg : w.heap[g]? = some (.cells cs 79 (0, 0))) (hf : cs[10]? = some (.slice none 0 0)) :
    Calls Try.prog 75 #[.pointer (some ⟨g, 0, none⟩)] w fun e w' => e = .returned (.bool true) ∧ w' = w := by
  have hc : w.cell? ⟨g, 10, none⟩ = some (.slice none 0 0) := by rw [cell_of_row w g 10 cs 79 (0, 0) hg]; exact hf
  go_enter Try.func75, Try.ntmps75
  go_wp2_with fail
  go_loopg [3] 0 (fun kq v w' => v = .int .i64 0 ∧ w' = w)
  case atStart => exact ⟨rfl, rfl⟩
  case round =>
    obtain ⟨rfl, rfl⟩ := hrel
    go_wp2_with fail
    go_loopg [5, 6] 0 (fun kq v u w' => v = .slice none 0 0 ∧ u = .int .i64 0 ∧ w' = wr)
    case atStart => exact ⟨rfl, rfl, rfl⟩
    case round =>
      obtain ⟨rfl, rfl, rfl⟩ := hrel
      go_wp2_with fail
      go_loopg [9] 0 (fun kq u w' => u = .int .i64 0 ∧ w' = wr)
      case atStart => exact ⟨rfl, rfl⟩
      case round =>
        obtain ⟨rfl, rfl⟩ := hrel
        go_wp2_with fail
        go_ret
        exact ⟨rfl, rfl⟩
set_option maxHeartbeats 4000000 in
set_option maxRecDepth 100000 in
theorem alone76 (g : Nat) (cs : Array Value) (w : World) (hg : w.heap[g]? = some (.cells cs 79 (0, 0))) (hf : cs[11]? = some (.slice none 0 0)) :
    Calls Try.prog 76 #[.pointer (some ⟨g, 0, none⟩)] w fun e w' => e = .returned (.bool true) ∧ w' = w := by
  have hc : w.cell? ⟨g, 11, none⟩ = some (.slice none 0 0) := by rw [cell_of_row w g 11 cs 79 (0, 0) hg]; exact hf
  go_enter Try.func76, Try.ntmps76
  go_wp2_with fail
  go_loopg [3] 0 (fun kq v w' => v = .int .i64 0 ∧ w' = w)
  case atStart => exact ⟨rfl, rfl⟩
  case round =>
    obtain ⟨rfl, rfl⟩ := hrel
    go_wp2_with fail
    go_loopg [5, 6] 0 (fun kq v u w' => v = .slice none 0 0 ∧ u = .int .i64 0 ∧ w' = wr)
    case atStart => exact ⟨rfl, rfl, rfl⟩
    case round =>
      obtain ⟨rfl, rfl, rfl⟩ := hrel
      go_wp2_with fail
      go_loopg [9] 0 (fun kq u w' => u = .int .i64 0 ∧ w' = wr)
      case atStart => exact ⟨rfl, rfl⟩
      case round =>
        obtain ⟨rfl, rfl⟩ := hrel
        go_wp2_with fail
        go_ret
        exact ⟨rfl, rfl⟩
set_option maxHeartbeats 4000000 in
set_option maxRecDepth 100000 in
theorem alone77 (g : Nat) (cs : Array Value) (w : World) (hg : w.heap[g]? = some (.cells cs 79 (0, 0))) (hf : cs[12]? = some (.slice none 0 0)) :
    Calls Try.prog 77 #[.pointer (some ⟨g, 0, none⟩)] w fun e w' => e = .returned (.bool true) ∧ w' = w := by
  have hc : w.cell? ⟨g, 12, none⟩ = some (.slice none 0 0) := by rw [cell_of_row w g 12 cs 79 (0, 0) hg]; exact hf
  go_enter Try.func77, Try.ntmps77
  go_wp2_with fail
  go_loopg [3] 0 (fun kq v w' => v = .int .i64 0 ∧ w' = w)
  case atStart => exact ⟨rfl, rfl⟩
  case round =>
    obtain ⟨rfl, rfl⟩ := hrel
    go_wp2_with fail
    go_loopg [5, 6] 0 (fun kq v u w' => v = .slice none 0 0 ∧ u = .int .i64 0 ∧ w' = wr)
    case atStart => exact ⟨rfl, rfl, rfl⟩
    case round =>
      obtain ⟨rfl, rfl, rfl⟩ := hrel
      go_wp2_with fail
      go_loopg [9] 0 (fun kq u w' => u = .int .i64 0 ∧ w' = wr)
      case atStart => exact ⟨rfl, rfl⟩
      case round =>
        obtain ⟨rfl, rfl⟩ := hrel
        go_wp2_with fail
        go_ret
        exact ⟨rfl, rfl⟩
set_option maxHeartbeats 4000000 in
set_option maxRecDepth 100000 in
theorem alone78 (g : Nat) (cs : Array Value) (w : World) (hg : w.heap[g]? = some (.cells cs 79 (0, 0))) (hf : cs[13]? = some (.slice none 0 0)) :
    Calls Try.prog 78 #[.pointer (some ⟨g, 0, none⟩)] w fun e w' => e = .returned (.bool true) ∧ w' = w := by
  have hc : w.cell? ⟨g, 13, none⟩ = some (.slice none 0 0) := by rw [cell_of_row w g 13 cs 79 (0, 0) hg]; exact hf
  go_enter Try.func78, Try.ntmps78
  go_wp2_with fail
  go_loopg [3] 0 (fun kq v w' => v = .int .i64 0 ∧ w' = w)
  case atStart => exact ⟨rfl, rfl⟩
  case round =>
    obtain ⟨rfl, rfl⟩ := hrel
    go_wp2_with fail
    go_loopg [5, 6] 0 (fun kq v u w' => v = .slice none 0 0 ∧ u = .int .i64 0 ∧ w' = wr)
    case atStart => exact ⟨rfl, rfl, rfl⟩
    case round =>
      obtain ⟨rfl, rfl, rfl⟩ := hrel
      go_wp2_with fail
      go_loopg [9] 0 (fun kq u w' => u = .int .i64 0 ∧ w' = wr)
      case atStart => exact ⟨rfl, rfl⟩
      case round =>
        obtain ⟨rfl, rfl⟩ := hrel
        go_wp2_with fail
        go_ret
        exact ⟨rfl, rfl⟩
set_option maxHeartbeats 4000000 in
set_option maxRecDepth 100000 in
theorem alone79 (g : Nat) (cs : Array Value) (w : World) (hg : w.heap[g]? = some (.cells cs 79 (0, 0))) (hf : cs[14]? = some (.slice none 0 0)) :
    Calls Try.prog 79 #[.pointer (some ⟨g, 0, none⟩)] w fun e w' => e = .returned (.bool true) ∧ w' = w := by
  have hc : w.cell? ⟨g, 14, none⟩ = some (.slice none 0 0) := by rw [cell_of_row w g 14 cs 79 (0, 0) hg]; exact hf
  go_enter Try.func79, Try.ntmps79
  go_wp2_with fail
  go_loopg [3] 0 (fun kq v w' => v = .int .i64 0 ∧ w' = w)
  case atStart => exact ⟨rfl, rfl⟩
  case round =>
    obtain ⟨rfl, rfl⟩ := hrel
    go_wp2_with fail
    go_loopg [5, 6] 0 (fun kq v u w' => v = .slice none 0 0 ∧ u = .int .i64 0 ∧ w' = wr)
    case atStart => exact ⟨rfl, rfl, rfl⟩
    case round =>
      obtain ⟨rfl, rfl, rfl⟩ := hrel
      go_wp2_with fail
      go_loopg [9] 0 (fun kq u w' => u = .int .i64 0 ∧ w' = wr)
      case atStart => exact ⟨rfl, rfl⟩
      case round =>
        obtain ⟨rfl, rfl⟩ := hrel
        go_wp2_with fail
        go_ret
        exact ⟨rfl, rfl⟩
set_option maxHeartbeats 4000000 in
set_option maxRecDepth 100000 in
theorem alone80 (g : Nat) (cs : Array Value) (w : World) (hg : w.heap[g]? = some (.cells cs 79 (0, 0))) (hf : cs[15]? = some (.slice none 0 0)) :
    Calls Try.prog 80 #[.pointer (some ⟨g, 0, none⟩)] w fun e w' => e = .returned (.bool true) ∧ w' = w := by
  have hc : w.cell? ⟨g, 15, none⟩ = some (.slice none 0 0) := by rw [cell_of_row w g 15 cs 79 (0, 0) hg]; exact hf
  go_enter Try.func80, Try.ntmps80
  go_wp2_with fail
  go_loopg [3] 0 (fun kq v w' => v = .int .i64 0 ∧ w' = w)
  case atStart => exact ⟨rfl, rfl⟩
  case round =>
    obtain ⟨rfl, rfl⟩ := hrel
    go_wp2_with fail
    go_loopg [5, 6] 0 (fun kq v u w' => v = .slice none 0 0 ∧ u = .int .i64 0 ∧ w' = wr)
    case atStart => exact ⟨rfl, rfl, rfl⟩
    case round =>
      obtain ⟨rfl, rfl, rfl⟩ := hrel
      go_wp2_with fail
      go_loopg [9] 0 (fun kq u w' => u = .int .i64 0 ∧ w' = wr)
      case atStart => exact ⟨rfl, rfl⟩
      case round =>
        obtain ⟨rfl, rfl⟩ := hrel
        go_wp2_with fail
        go_ret
        exact ⟨rfl, rfl⟩
set_option maxHeartbeats 4000000 in
set_option maxRecDepth 100000 in
theorem alone81 (g : Nat) (cs : Array Value) (w : World) (hg : w.heap[g]? = some (.cells cs 79 (0, 0))) (hf : cs[16]? = some (.slice none 0 0)) :
    Calls Try.prog 81 #[.pointer (some ⟨g, 0, none⟩)] w fun e w' => e = .returned (.bool true) ∧ w' = w := by
  have hc : w.cell? ⟨g, 16, none⟩ = some (.slice none 0 0) := by rw [cell_of_row w g 16 cs 79 (0, 0) hg]; exact hf
  go_enter Try.func81, Try.ntmps81
  go_wp2_with fail
  go_loopg [3] 0 (fun kq v w' => v = .int .i64 0 ∧ w' = w)
  case atStart => exact ⟨rfl, rfl⟩
  case round =>
    obtain ⟨rfl, rfl⟩ := hrel
    go_wp2_with fail
    go_loopg [5, 6] 0 (fun kq v u w' => v = .slice none 0 0 ∧ u = .int .i64 0 ∧ w' = wr)
    case atStart => exact ⟨rfl, rfl, rfl⟩
    case round =>
      obtain ⟨rfl, rfl, rfl⟩ := hrel
      go_wp2_with fail
      go_loopg [9] 0 (fun kq u w' => u = .int .i64 0 ∧ w' = wr)
      case atStart => exact ⟨rfl, rfl⟩
      case round =>
        obtain ⟨rfl, rfl⟩ := hrel
        go_wp2_with fail
        go_ret
        exact ⟨rfl, rfl⟩
set_option maxHeartbeats 4000000 in
set_option maxRecDepth 100000 in
theorem alone82 (g : Nat) (cs : Array Value) (w : World) (hg : w.heap[g]? = some (.cells cs 79 (0, 0))) (hf : cs[17]? = some (.slice none 0 0)) :
    Calls Try.prog 82 #[.pointer (some ⟨g, 0, none⟩)] w fun e w' => e = .returned (.bool true) ∧ w' = w := by
  have hc : w.cell? ⟨g, 17, none⟩ = some (.slice none 0 0) := by rw [cell_of_row w g 17 cs 79 (0, 0) hg]; exact hf
  go_enter Try.func82, Try.ntmps82
  go_wp2_with fail
  go_loopg [3] 0 (fun kq v w' => v = .int .i64 0 ∧ w' = w)
  case atStart => exact ⟨rfl, rfl⟩
  case round =>
    obtain ⟨rfl, rfl⟩ := hrel
    go_wp2_with fail
    go_loopg [5, 6] 0 (fun kq v u w' => v = .slice none 0 0 ∧ u = .int .i64 0 ∧ w' = wr)
    case atStart => exact ⟨rfl, rfl, rfl⟩
    case round =>
      obtain ⟨rfl, rfl, rfl⟩ := hrel
      go_wp2_with fail
      go_loopg [9] 0 (fun kq u w' => u = .int .i64 0 ∧ w' = wr)
      case atStart => exact ⟨rfl, rfl⟩
      case round =>
        obtain ⟨rfl, rfl⟩ := hrel
        go_wp2_with fail
        go_ret
        exact ⟨rfl, rfl⟩
set_option maxHeartbeats 4000000 in
set_option maxRecDepth 100000 in
theorem alone83 (g : Nat) (cs : Array Value) (w : World) (hg : w.heap[g]? = some (.cells cs 79 (0, 0))) (hf : cs[18]? = some (.slice none 0 0)) :
    Calls Try.prog 83 #[.pointer (some ⟨g, 0, none⟩)] w fun e w' => e = .returned (.bool true) ∧ w' = w := by
  have hc : w.cell? ⟨g, 18, none⟩ = some (.slice none 0 0) := by rw [cell_of_row w g 18 cs 79 (0, 0) hg]; exact hf
  go_enter Try.func83, Try.ntmps83
  go_wp2_with fail
  go_loopg [3] 0 (fun kq v w' => v = .int .i64 0 ∧ w' = w)
  case atStart => exact ⟨rfl, rfl⟩
  case round =>
    obtain ⟨rfl, rfl⟩ := hrel
    go_wp2_with fail
    go_loopg [5, 6] 0 (fun kq v u w' => v = .slice none 0 0 ∧ u = .int .i64 0 ∧ w' = wr)
    case atStart => exact ⟨rfl, rfl, rfl⟩
    case round =>
      obtain ⟨rfl, rfl, rfl⟩ := hrel
      go_wp2_with fail
      go_loopg [9] 0 (fun kq u w' => u = .int .i64 0 ∧ w' = wr)
      case atStart => exact ⟨rfl, rfl⟩
      case round =>
        obtain ⟨rfl, rfl⟩ := hrel
        go_wp2_with fail
        go_ret
        exact ⟨rfl, rfl⟩
set_option maxHeartbeats 4000000 in
set_option maxRecDepth 100000 in
theorem alone84 (g : Nat) (cs : Array Value) (w : World) (hg : w.heap[g]? = some (.cells cs 79 (0, 0))) (hf : cs[19]? = some (.slice none 0 0)) :
    Calls Try.prog 84 #[.pointer (some ⟨g, 0, none⟩)] w fun e w' => e = .returned (.bool true) ∧ w' = w := by
  have hc : w.cell? ⟨g, 19, none⟩ = some (.slice none 0 0) := by rw [cell_of_row w g 19 cs 79 (0, 0) hg]; exact hf
  go_enter Try.func84, Try.ntmps84
  go_wp2_with fail
  go_loopg [3] 0 (fun kq v w' => v = .int .i64 0 ∧ w' = w)
  case atStart => exact ⟨rfl, rfl⟩
  case round =>
    obtain ⟨rfl, rfl⟩ := hrel
    go_wp2_with fail
    go_loopg [5, 6] 0 (fun kq v u w' => v = .slice none 0 0 ∧ u = .int .i64 0 ∧ w' = wr)
    case atStart => exact ⟨rfl, rfl, rfl⟩
    case round =>
      obtain ⟨rfl, rfl, rfl⟩ := hrel
      go_wp2_with fail
      go_loopg [9] 0 (fun kq u w' => u = .int .i64 0 ∧ w' = wr)
      case atStart => exact ⟨rfl, rfl⟩
      case round =>
        obtain ⟨rfl, rfl⟩ := hrel
        go_wp2_with fail
        go_ret
        exact ⟨rfl, rfl⟩
end Go.Proofs.Ythblincfnfpgbaa.Q
namespace Go.Proofs.Ythblincfnfpgbaa.Q
open Go.RowKit Go.Proofs.YthblincfnfpgbaaW.PrintWords Go.Proofs.YthblincfnfpgbaaW.PrintLast Go.Proofs.YthblincfnfpgbaaW.PrintMore
set_option linter.unusedVariables false
set_option linter.unusedSimpArgs false
set_option maxHeartbeats 16000000 in
set_option maxRecDepth 100000 in
theorem alone_c (g : Nat) (cs : Array Value) (A0 : Option Addr) (c0 : Nat) (hs : List Hdr) (X : Nat → List Int) (base : Nat) (w : World) (hB : BookF w base g 0 48 cs (.slice A0 hs.length c0) hs) (hN : ∀ j, 0 < j → j < 20 → cs[j]? = some (.slice none 0 0)) (hcs : cs.size = 20) (hF : Fam (Kd.int .u8) 5 w base hs X) (hsl : hs.length < 1099511627776) (hX : ∀ i, (X i).length < 1099511627776) (hbase : base ≤ w.heap.size) (hbg : base ≤ g) (hng : ¬ Blk hs g) (hno : ∀ k, (Value.slice A0 hs.length c0).ownBlock = some k → ¬ Blk hs k) :
    Calls Try.prog 35 #[.pointer (some ⟨g, 0, none⟩)] w fun e w' => e = .returned (.bool true) ∧ Kept w w' (fun k => k = g ∨ Blk hs k) ∧ Below base w w' := by
  have HA := Lib.hid (aloneB g cs A0 c0 hs X base w hB hF hsl hX hbase hng hno)
  have HBL := Lib.hid hB.blk
  have HN := Lib.hid hN
  have HNG := Lib.hid hng
  have HCS := Lib.hid hcs
  clear hcs
  have HBG := Lib.hid hbg
  clear hB hN hF hsl hX hbase hng hno hbg
  go_enter Try.func35, Try.ntmps35
  go_wp2_with fail
  go_at_call 65
  refine HA.out.mono ?_
  rintro en w1 ⟨rfl, hk, hb⟩
  have HK := Lib.hid hk
  have HBE := Lib.hid hb
  have HB1 := Lib.hid (blk_kept HBL.out hk HNG.out)
  clear hk hb HA HBL
  go_wp2_with fail
  go_at_call 66
  refine (alone66 g cs w1 HB1.out (HN.out 1 (by decide) (by decide))).mono ?_
  rintro en w2 ⟨rfl, hw⟩
  have hw := hw.symm
  subst hw
  go_wp2_with fail
  go_at_call 67
  refine (alone67 g cs w1 HB1.out (HN.out 2 (by decide) (by decide))).mono ?_
  rintro en w2 ⟨rfl, hw⟩
  have hw := hw.symm
  subst hw
  go_wp2_with fail
  go_at_call 68
  refine (alone68 g cs w1 HB1.out (HN.out 3 (by decide) (by decide))).mono ?_
  rintro en w2 ⟨rfl, hw⟩
  have hw := hw.symm
  subst hw
  go_wp2_with fail
  go_at_call 69
  refine (alone69 g cs w1 HB1.out (HN.out 4 (by decide) (by decide))).mono ?_
  rintro en w2 ⟨rfl, hw⟩
  have hw := hw.symm
  subst hw
  go_wp2_with fail
  go_at_call 70
  refine (alone70 g cs w1 HB1.out (HN.out 5 (by decide) (by decide))).mono ?_
  rintro en w2 ⟨rfl, hw⟩
  have hw := hw.symm
  subst hw
  go_wp2_with fail
  go_at_call 71
  refine (alone71 g cs w1 HB1.out (HN.out 6 (by decide) (by decide))).mono ?_
  rintro en w2 ⟨rfl, hw⟩
  have hw := hw.symm
  subst hw
  go_wp2_with fail
  go_at_call 72
  refine (alone72 g cs w1 HB1.out (HN.out 7 (by decide) (by decide))).mono ?_
  rintro en w2 ⟨rfl, hw⟩
  have hw := hw.symm
  subst hw
  go_wp2_with fail
  go_at_call 73
  refine (alone73 g cs w1 HB1.out (HN.out 8 (by decide) (by decide))).mono ?_
  rintro en w2 ⟨rfl, hw⟩
  have hw := hw.symm
  subst hw
  go_wp2_with fail
  go_at_call 74
  refine (alone74 g cs w1 HB1.out (HN.out 9 (by decide) (by decide))).mono ?_
  rintro en w2 ⟨rfl, hw⟩
  have hw := hw.symm
  subst hw
  go_wp2_with fail
  go_at_call 75
  refine (alone75 g cs w1 HB1.out (HN.out 10 (by decide) (by decide))).mono ?_
  rintro en w2 ⟨rfl, hw⟩
  have hw := hw.symm
  subst hw
  go_wp2_with fail
  go_at_call 76
  refine (alone76 g cs w1 HB1.out (HN.out 11 (by decide) (by decide))).mono ?_
  rintro en w2 ⟨rfl, hw⟩
  have hw := hw.symm
  subst hw
  go_wp2_with fail
  go_at_call 77
  refine (alone77 g cs w1 HB1.out (HN.out 12 (by decide) (by decide))).mono ?_
  rintro en w2 ⟨rfl, hw⟩
  have hw := hw.symm
  subst hw
  go_wp2_with fail
  go_at_call 78
  refine (alone78 g cs w1 HB1.out (HN.out 13 (by decide) (by decide))).mono ?_
  rintro en w2 ⟨rfl, hw⟩
  have hw := hw.symm
  subst hw
  go_wp2_with fail
  go_at_call 79
  refine (alone79 g cs w1 HB1.out (HN.out 14 (by decide) (by decide))).mono ?_
  rintro en w2 ⟨rfl, hw⟩
  have hw := hw.symm
  subst hw
  go_wp2_with fail
  go_at_call 80
  refine (alone80 g cs w1 HB1.out (HN.out 15 (by decide) (by decide))).mono ?_
  rintro en w2 ⟨rfl, hw⟩
  have hw := hw.symm
  subst hw
  go_wp2_with fail
  go_at_call 81
  refine (alone81 g cs w1 HB1.out (HN.out 16 (by decide) (by decide))).mono ?_
  rintro en w2 ⟨rfl, hw⟩
  have hw := hw.symm
  subst hw
  go_wp2_with fail
  go_at_call 82
  refine (alone82 g cs w1 HB1.out (HN.out 17 (by decide) (by decide))).mono ?_
  rintro en w2 ⟨rfl, hw⟩
  have hw := hw.symm
  subst hw
  go_wp2_with fail
  go_at_call 83
  refine (alone83 g cs w1 HB1.out (HN.out 18 (by decide) (by decide))).mono ?_
  rintro en w2 ⟨rfl, hw⟩
  have hw := hw.symm
  subst hw
  go_wp2_with fail
  go_at_call 84
  refine (alone84 g cs w1 HB1.out (HN.out 19 (by decide) (by decide))).mono ?_
  rintro en w2 ⟨rfl, hw⟩
  have hw := hw.symm
  subst hw
  go_wp2_with (first | ((with_reducible refine gate_store (t := 79) (p := 84) rfl ?_); refine wpList_store_row rfl 79 (.tmp 84) (.tmp 83) rfl g (Array.replicate 20 (.slice none 0 0)) ?hx ?hy 79 cs HB1.out ?hi ?hold ?h1 ?_; (case hx => rfl); (case hy => rfl); (case hi => kernel_rfl); (case hold => exact HCS.out); (case h1 => kernel_rfl)))
  go_ret
  have e1 : ∀ (cl : Array Value) (k : Nat), k ≠ g → (w1.setRow g cl).heap[k]? = w1.heap[k]? := fun cl k hk => setRow_other w1 g k cl hk
  refine ⟨rfl, ?_, ?_⟩
  · exact Kept.then_ (S2 := fun k => k = g) (HK.out.mono (fun k hk => .inr hk)) ⟨by simp, fun i _ hn => e1 _ i hn⟩ (fun k hk => .inl (.inl hk))
  · exact HBE.out.trans ⟨rfl, rfl, rfl, by simp, fun k hk => e1 _ k (by have := HBG.out; omega)⟩
end Go.Proofs.Ythblincfnfpgbaa.Q
-- Written by a program of this session over the kit's print.py, which was handed contracts that were proved by hand. Lean checks it.
namespace Go.Proofs.Ythblincfnfpgbaa.Q
open Go.RowKit Go.Proofs.YthblincfnfpgbaaW.PrintWords Go.Proofs.YthblincfnfpgbaaW.PrintLast Go.Proofs.YthblincfnfpgbaaW.PrintMore
attribute [local go_sem] max2_int min2_int max_two min_two max_three min_three max_four min_four   -- for this text's walks alone
set_option linter.unusedVariables false
set_option linter.unusedSimpArgs false

theorem eqA82 (d : Nat) (w : World) (x0 y0 : Int) (x1 y1 : Int) :
    (Op.equalIn (d + 2) 82 (.agg #[.int .u64 x0, .int .u64 x1]) (.agg #[.int .u64 y0, .int .u64 y1])).run Try.prog w = .ok (x0 == y0 && (x1 == y1)) w := by
  refine eqA_of Try.underlying82 (by kernel_rfl) ?_
  refine eqf_cons (by rfl) (by go_simp; rfl) (by go_simp; rfl) (by go_simp) ?_
  exact eqf_last (by rfl) (by go_simp; rfl) (by go_simp; rfl) (by go_simp)
end Go.Proofs.Ythblincfnfpgbaa.Q
-- Written by a program of this session over the kit's print.py, which was handed contracts that were proved by hand. Lean checks it.
namespace Go.Proofs.Ythblincfnfpgbaa.Q
open Go.RowKit Go.Proofs.YthblincfnfpgbaaW.PrintWords Go.Proofs.YthblincfnfpgbaaW.PrintLast Go.Proofs.YthblincfnfpgbaaW.PrintMore
attribute [local go_sem] max2_int min2_int max_two min_two max_three min_three max_four min_four   -- for this text's walks alone
set_option linter.unusedVariables false
set_option linter.unusedSimpArgs false

attribute [local go_sem high] eqA82
/-! ### shutterref11_SamePairs: function 17 -/
def shutterref11_SamePairs.l0 : Nat → List (S82) → List (S82) → Int → Option (Bool)
  | 0, _, _, _ => none
  | k + 1, x0, x1, x5 => if x5 < (x0.length : Int) then (if 0 ≤ x5 then (if x5 < (x1.length : Int) then (if (!(((rd_T82 x0 x5).f0) == ((rd_T82 x1 x5).f0)) || (!(((rd_T82 x0 x5).f1) == ((rd_T82 x1 x5).f1)))) = true then (some false) else (shutterref11_SamePairs.l0 k x0 x1 (wrap64 (x5 + 1)))) else (none)) else (none)) else (some true)
def shutterref11_SamePairs.f (k : Nat) (l0 : List (S82)) (l1 : List (S82)) : Option (Bool) := if (l0.length : Int) = (l1.length : Int) then (shutterref11_SamePairs.l0 k l0 l1 0) else (some false)
theorem shutterref11_SamePairs.mono_l : ∀ k, (∀ y0 y1 y2, LeO (shutterref11_SamePairs.l0 k y0 y1 y2) (shutterref11_SamePairs.l0 (k + 1) y0 y1 y2))
  | 0 => fun _ _ _ r h => by simp [shutterref11_SamePairs.l0] at h
  | k + 1 => by
    have ih0 := shutterref11_SamePairs.mono_l k
    · intro y0 y1 y2
      unfold shutterref11_SamePairs.l0
      repeat' first
      | (with_reducible exact ih0 _ _ _)
      | (with_reducible exact LeO.refl _)
      | (with_reducible exact LeO.none _)
      | (with_reducible refine LeO.ite ?_ ?_)
      | (with_reducible refine LeO.bind ?_ (fun _ => ?_))
      | exact ih0 _ _ _
      | exact LeO.none _
      | refine LeO.ite ?_ ?_
      | refine LeO.bind ?_ (fun _ => ?_)
theorem shutterref11_SamePairs.mono : ∀ a0 a1 k, LeO (shutterref11_SamePairs.f k a0 a1) (shutterref11_SamePairs.f (k + 1) a0 a1) := by
  intro a0 a1 k
  have ih0 := shutterref11_SamePairs.mono_l k
  unfold shutterref11_SamePairs.f
  repeat' first
      | (with_reducible exact ih0 _ _ _)
      | (with_reducible exact LeO.refl _)
      | (with_reducible exact LeO.none _)
      | (with_reducible refine LeO.ite ?_ ?_)
      | (with_reducible refine LeO.bind ?_ (fun _ => ?_))
      | exact ih0 _ _ _
      | exact LeO.none _
      | refine LeO.ite ?_ ?_
      | refine LeO.bind ?_ (fun _ => ?_)
set_option maxHeartbeats 8000000 in
set_option maxRecDepth 100000 in
theorem shutterref11_SamePairs.calls (k : Nat) (A0 : Option Addr) (c0 : Nat) (l0 : List (S82)) (A1 : Option Addr) (c1 : Nat) (l1 : List (S82)) (r : Bool) (w : World) (hr0 : Kd.C k82 w A0 l0.length l0) (hc0 : l0.length ≤ c0) (hr1 : Kd.C k82 w A1 l1.length l1) (hc1 : l1.length ≤ c1) (h : shutterref11_SamePairs.f k l0 l1 = some r) :
    Calls Try.prog 17 #[.slice A0 l0.length c0, .slice A1 l1.length c1] w fun e w' => e = .returned (.bool r) ∧ Drawn0 w w' := by
  have hu82 := Try.underlying82
  have HR0 := Aside0.mk hr0
  have HC0 := Aside0.mk hc0
  clear hr0 hc0
  have HR1 := Aside0.mk hr1
  have HC1 := Aside0.mk hc1
  clear hr1 hc1
  have H : (if (l0.length : Int) = (l1.length : Int) then (shutterref11_SamePairs.l0 k l0 l1 0) else (some false)) = some r := h
  clear h
  by_cases c3 : (l0.length : Int) = (l1.length : Int)
  · rw [if_pos c3] at H
    have c3b0 : ((l0.length : Int) == (l1.length : Int)) = true := beq_iff_eq.mpr c3
    have c3b1 : ((l0.length : Int) != (l1.length : Int)) = false := bne_eq_false_iff_eq.mpr c3
    have c3b2 : (l0.length == l1.length) = true := by first | simpa using c3 | (simp at c3 ⊢; omega)
    clear c3
    have H' := Aside0.mk H
    clear H
    go_enter Try.func17, Try.ntmps17
    go_wp2
    repeat (go_quiet (fail); try go_wp2)
    go_loopg [5] k (fun kq v5 w' => ∃ (x5_1 : Int), v5 = .int .i64 x5_1 ∧ Aside0 (shutterref11_SamePairs.l0 kq l0 l1 x5_1 = some r) ∧ Aside0 (kq ≤ k) ∧ Drawn0 w w')
    case atStart => exact ⟨(0), (by first | rfl | (simp; done) | (simp [*]; done)), H', ⟨Nat.le_refl _⟩, by repeat (first | exact Drawn0.refl _ | apply Drawn0.step)⟩
    case round =>
      clear H'
      try clear c1
      try clear p2
      try clear c3
      try clear c3b0
      try clear c3b1
      try clear c3b2
      obtain ⟨x5_1, rfl, HA, HK1, ⟨m1, rfl⟩⟩ := hrel
      cases gk with
      | zero => exact absurd HA.out (by simp [shutterref11_SamePairs.l0])
      | succ k1 =>
        have H := HA.out
        clear HA
        simp only [shutterref11_SamePairs.l0] at H
        by_cases c4 : x5_1 < (l0.length : Int)
        · rw [if_pos c4] at H
          have c4b0 : decide (x5_1 < (l0.length : Int)) = true := decide_eq_true c4
          clear c4
          by_cases c5 : 0 ≤ x5_1
          · rw [if_pos c5] at H
            have c5b0 : decide (0 ≤ x5_1) = true := decide_eq_true c5
            clear c5
            by_cases c6 : x5_1 < (l1.length : Int)
            · rw [if_pos c6] at H
              have c6b0 : decide (x5_1 < (l1.length : Int)) = true := decide_eq_true c6
              clear c6
              by_cases c7 : (!(((rd_T82 l0 x5_1).f0) == ((rd_T82 l1 x5_1).f0)) || (!(((rd_T82 l0 x5_1).f1) == ((rd_T82 l1 x5_1).f1)))) = true
              · rw [if_pos c7] at H
                have c7b0 : (!(((rd_T82 l0 x5_1).f0) == ((rd_T82 l1 x5_1).f0)) || (!(((rd_T82 l0 x5_1).f1) == ((rd_T82 l1 x5_1).f1)))) = true := c7
                clear c7
                obtain rfl := Option.some.inj H
                have p196 : 0 ≤ (x5_1 : Int) := of_decide_eq_true (by first | (with_reducible assumption) | assumption)
                have q196 : x5_1 < (l0.length : Int) := of_decide_eq_true (by first | (with_reducible assumption) | assumption)
                obtain ⟨ad196, e196, hx196_0, hx196_1⟩ := at_T82 HR0.out x5_1 p196 q196
                cases e196
                replace p196 := eq_true p196
                replace q196 := eq_true q196
                have p197 : 0 ≤ (x5_1 : Int) := of_decide_eq_true (by first | (with_reducible assumption) | assumption)
                have q197 : x5_1 < (l1.length : Int) := of_decide_eq_true (by first | (with_reducible assumption) | assumption)
                obtain ⟨ad197, e197, hx197_0, hx197_1⟩ := at_T82 HR1.out x5_1 p197 q197
                cases e197
                replace p197 := eq_true p197
                replace q197 := eq_true q197
                go_wp2
                repeat (go_quiet (fail); try go_wp2)
                go_ret
                exact ⟨by first | rfl | (simp; done) | (simp [*]; done), by repeat (first | exact Drawn0.refl _ | apply Drawn0.step)⟩
              · rw [if_neg c7] at H
                have c7b0 : (!(((rd_T82 l0 x5_1).f0) == ((rd_T82 l1 x5_1).f0)) || (!(((rd_T82 l0 x5_1).f1) == ((rd_T82 l1 x5_1).f1)))) = false := by simpa using c7
                clear c7
                have H' := Aside0.mk H
                clear H
                have p196 : 0 ≤ (x5_1 : Int) := of_decide_eq_true (by first | (with_reducible assumption) | assumption)
                have q196 : x5_1 < (l0.length : Int) := of_decide_eq_true (by first | (with_reducible assumption) | assumption)
                obtain ⟨ad196, e196, hx196_0, hx196_1⟩ := at_T82 HR0.out x5_1 p196 q196
                cases e196
                replace p196 := eq_true p196
                replace q196 := eq_true q196
                have p197 : 0 ≤ (x5_1 : Int) := of_decide_eq_true (by first | (with_reducible assumption) | assumption)
                have q197 : x5_1 < (l1.length : Int) := of_decide_eq_true (by first | (with_reducible assumption) | assumption)
                obtain ⟨ad197, e197, hx197_0, hx197_1⟩ := at_T82 HR1.out x5_1 p197 q197
                cases e197
                replace p197 := eq_true p197
                replace q197 := eq_true q197
                go_wp2
                repeat (go_quiet (fail); try go_wp2)
                go_roundg k1
                case measure => have := HK1.out; omega
                case rel => exact ⟨(wrap64 (x5_1 + 1)), (by first | rfl | (simp; done) | (simp [*]; done)), H', ⟨by have := HK1.out; omega⟩, by repeat (first | exact Drawn0.refl _ | apply Drawn0.step)⟩
            · rw [if_neg c6] at H
              exact absurd H (by simp)
          · rw [if_neg c5] at H
            exact absurd H (by simp)
        · rw [if_neg c4] at H
          have c4b0 : decide (x5_1 < (l0.length : Int)) = false := decide_eq_false c4
          clear c4
          obtain rfl := Option.some.inj H
          go_wp2
          repeat (go_quiet (fail); try go_wp2)
          go_ret
          exact ⟨by first | rfl | (simp; done) | (simp [*]; done), by repeat (first | exact Drawn0.refl _ | apply Drawn0.step)⟩
  · rw [if_neg c3] at H
    have c3b0 : ((l0.length : Int) == (l1.length : Int)) = false := beq_eq_false_iff_ne.mpr c3
    have c3b1 : ((l0.length : Int) != (l1.length : Int)) = true := bne_iff_ne.mpr c3
    have c3b2 : (l0.length == l1.length) = false := by first | simpa using c3 | (simp at c3 ⊢; omega)
    obtain rfl := Option.some.inj H
    go_enter Try.func17, Try.ntmps17
    go_wp2
    repeat (go_quiet (fail); try go_wp2)
    go_ret
    exact ⟨by first | rfl | (simp; done) | (simp [*]; done), by repeat (first | exact Drawn0.refl _ | apply Drawn0.step)⟩

end Go.Proofs.Ythblincfnfpgbaa.Q
-- Written by a program of this session over the kit's print.py, which was handed contracts that were proved by hand. Lean checks it.
namespace Go.Proofs.Ythblincfnfpgbaa.Q
open Go.RowKit Go.Proofs.YthblincfnfpgbaaW.PrintWords Go.Proofs.YthblincfnfpgbaaW.PrintLast Go.Proofs.YthblincfnfpgbaaW.PrintMore
attribute [local go_sem] max2_int min2_int max_two min_two max_three min_three max_four min_four   -- for this text's walks alone
set_option linter.unusedVariables false
set_option linter.unusedSimpArgs false

/-! ### shutterref27_right: function 50 -/
def shutterref27_right.l0 : Nat → List (S82) → Int → Option (Bool)
  | 0, _, _ => none
  | k + 1, x0, x3 => if x3 < (x0.length : Int) then (if 0 ≤ x3 then (if 0 ≤ (wrap64 (x3 - 1)) then (if (wrap64 (x3 - 1)) < (x0.length : Int) then (if ((rd_T82 x0 x3).f0) ≤ ((rd_T82 x0 (wrap64 (x3 - 1))).f0) then (some false) else (shutterref27_right.l0 k x0 (wrap64 (x3 + 1)))) else (none)) else (none)) else (none)) else (some true)
def shutterref27_right.f (k : Nat) (l0 : List (S82)) : Option (Bool) := shutterref27_right.l0 k l0 1
theorem shutterref27_right.mono_l : ∀ k, (∀ y0 y1, LeO (shutterref27_right.l0 k y0 y1) (shutterref27_right.l0 (k + 1) y0 y1))
  | 0 => fun _ _ r h => by simp [shutterref27_right.l0] at h
  | k + 1 => by
    have ih0 := shutterref27_right.mono_l k
    · intro y0 y1
      unfold shutterref27_right.l0
      repeat' first
      | (with_reducible exact ih0 _ _)
      | (with_reducible exact LeO.refl _)
      | (with_reducible exact LeO.none _)
      | (with_reducible refine LeO.ite ?_ ?_)
      | (with_reducible refine LeO.bind ?_ (fun _ => ?_))
      | exact ih0 _ _
      | exact LeO.none _
      | refine LeO.ite ?_ ?_
      | refine LeO.bind ?_ (fun _ => ?_)
theorem shutterref27_right.mono : ∀ a0 k, LeO (shutterref27_right.f k a0) (shutterref27_right.f (k + 1) a0) := by
  intro a0 k
  have ih0 := shutterref27_right.mono_l k
  unfold shutterref27_right.f
  repeat' first
      | (with_reducible exact ih0 _ _)
      | (with_reducible exact LeO.refl _)
      | (with_reducible exact LeO.none _)
      | (with_reducible refine LeO.ite ?_ ?_)
      | (with_reducible refine LeO.bind ?_ (fun _ => ?_))
      | exact ih0 _ _
      | exact LeO.none _
      | refine LeO.ite ?_ ?_
      | refine LeO.bind ?_ (fun _ => ?_)
set_option maxHeartbeats 8000000 in
set_option maxRecDepth 100000 in
theorem shutterref27_right.calls (k : Nat) (A0 : Option Addr) (c0 : Nat) (l0 : List (S82)) (r : Bool) (w : World) (hr0 : Kd.C k82 w A0 l0.length l0) (hc0 : l0.length ≤ c0) (h : shutterref27_right.f k l0 = some r) :
    Calls Try.prog 50 #[.slice A0 l0.length c0] w fun e w' => e = .returned (.bool r) ∧ Drawn0 w w' := by
  have HR0 := Aside0.mk hr0
  have HC0 := Aside0.mk hc0
  clear hr0 hc0
  have H : (shutterref27_right.l0 k l0 1) = some r := h
  clear h
  have H' := Aside0.mk H
  clear H
  go_enter Try.func50, Try.ntmps50
  go_wp2
  repeat (go_quiet (fail); try go_wp2)
  go_loopg [3] k (fun kq v3 w' => ∃ (x3_1 : Int), v3 = .int .i64 x3_1 ∧ Aside0 (shutterref27_right.l0 kq l0 x3_1 = some r) ∧ Aside0 (kq ≤ k) ∧ Drawn0 w w')
  case atStart => exact ⟨(1), (by first | rfl | (simp; done) | (simp [*]; done)), H', ⟨Nat.le_refl _⟩, by repeat (first | exact Drawn0.refl _ | apply Drawn0.step)⟩
  case round =>
    clear H'
    obtain ⟨x3_1, rfl, HA, HK1, ⟨m1, rfl⟩⟩ := hrel
    cases gk with
    | zero => exact absurd HA.out (by simp [shutterref27_right.l0])
    | succ k1 =>
      have H := HA.out
      clear HA
      simp only [shutterref27_right.l0] at H
      by_cases c2 : x3_1 < (l0.length : Int)
      · rw [if_pos c2] at H
        have c2b0 : decide (x3_1 < (l0.length : Int)) = true := decide_eq_true c2
        clear c2
        by_cases c3 : 0 ≤ x3_1
        · rw [if_pos c3] at H
          have c3b0 : decide (0 ≤ x3_1) = true := decide_eq_true c3
          clear c3
          obtain ⟨ji4, hji4⟩ : ∃ j_ : Int, (wrap64 (x3_1 - 1)) = j_ := ⟨_, rfl⟩
          replace H : (if 0 ≤ (ji4) then (if (ji4) < (l0.length : Int) then (if ((rd_T82 l0 x3_1).f0) ≤ ((rd_T82 l0 (ji4)).f0) then (some false) else (shutterref27_right.l0 k1 l0 (wrap64 (x3_1 + 1)))) else (none)) else (none)) = some r := by first | (rw [hji4] at H; exact H) | (simp only [hji4] at H ⊢; exact H)
          have hji4w : (IntKind.i64.wrap (x3_1 - 1)) = ji4 := (i64_w _).trans hji4
          by_cases c5 : 0 ≤ (ji4)
          · rw [if_pos c5] at H
            have c5b0 : decide (0 ≤ (ji4)) = true := decide_eq_true c5
            clear c5
            by_cases c6 : (ji4) < (l0.length : Int)
            · rw [if_pos c6] at H
              have c6b0 : decide ((ji4) < (l0.length : Int)) = true := decide_eq_true c6
              clear c6
              by_cases c7 : ((rd_T82 l0 x3_1).f0) ≤ ((rd_T82 l0 (ji4)).f0)
              · rw [if_pos c7] at H
                have c7b0 : decide (((rd_T82 l0 x3_1).f0) ≤ ((rd_T82 l0 (ji4)).f0)) = true := decide_eq_true c7
                clear c7
                obtain rfl := Option.some.inj H
                have p162 : 0 ≤ (x3_1 : Int) := of_decide_eq_true (by first | (with_reducible assumption) | assumption)
                have q162 : x3_1 < (l0.length : Int) := of_decide_eq_true (by first | (with_reducible assumption) | assumption)
                obtain ⟨ad162, e162, hx162_0, hx162_1⟩ := at_T82 HR0.out x3_1 p162 q162
                cases e162
                replace p162 := eq_true p162
                replace q162 := eq_true q162
                have p163 : 0 ≤ ((ji4) : Int) := of_decide_eq_true (by first | (with_reducible assumption) | assumption)
                have q163 : (ji4) < (l0.length : Int) := of_decide_eq_true (by first | (with_reducible assumption) | assumption)
                obtain ⟨ad163, e163, hx163_0, hx163_1⟩ := at_T82 HR0.out (ji4) p163 q163
                obtain rfl : ad162 = ad163 := (by injection e163)
                replace p163 := eq_true p163
                replace q163 := eq_true q163
                go_wp2
                repeat (go_quiet (fail); try go_wp2)
                go_ret
                exact ⟨by first | rfl | (simp; done) | (simp only [← hji4] <;> (first | rfl | simp)) | (simp [*]; done), by repeat (first | exact Drawn0.refl _ | apply Drawn0.step)⟩
              · rw [if_neg c7] at H
                have c7b0 : decide (((rd_T82 l0 x3_1).f0) ≤ ((rd_T82 l0 (ji4)).f0)) = false := decide_eq_false c7
                clear c7
                have H' := Aside0.mk H
                clear H
                have p162 : 0 ≤ (x3_1 : Int) := of_decide_eq_true (by first | (with_reducible assumption) | assumption)
                have q162 : x3_1 < (l0.length : Int) := of_decide_eq_true (by first | (with_reducible assumption) | assumption)
                obtain ⟨ad162, e162, hx162_0, hx162_1⟩ := at_T82 HR0.out x3_1 p162 q162
                cases e162
                replace p162 := eq_true p162
                replace q162 := eq_true q162
                have p163 : 0 ≤ ((ji4) : Int) := of_decide_eq_true (by first | (with_reducible assumption) | assumption)
                have q163 : (ji4) < (l0.length : Int) := of_decide_eq_true (by first | (with_reducible assumption) | assumption)
                obtain ⟨ad163, e163, hx163_0, hx163_1⟩ := at_T82 HR0.out (ji4) p163 q163
                obtain rfl : ad162 = ad163 := (by injection e163)
                replace p163 := eq_true p163
                replace q163 := eq_true q163
                go_wp2
                repeat (go_quiet (fail); try go_wp2)
                go_roundg k1
                case measure => have := HK1.out; omega
                case rel => exact ⟨(wrap64 (x3_1 + 1)), (by first | rfl | (simp; done) | (simp [*]; done)), H', ⟨by have := HK1.out; omega⟩, by repeat (first | exact Drawn0.refl _ | apply Drawn0.step)⟩
            · rw [if_neg c6] at H
              exact absurd H (by simp)
          · rw [if_neg c5] at H
            exact absurd H (by simp)
        · rw [if_neg c3] at H
          exact absurd H (by simp)
      · rw [if_neg c2] at H
        have c2b0 : decide (x3_1 < (l0.length : Int)) = false := decide_eq_false c2
        clear c2
        obtain rfl := Option.some.inj H
        go_wp2
        repeat (go_quiet (fail); try go_wp2)
        go_ret
        exact ⟨by first | rfl | (simp; done) | (simp [*]; done), by repeat (first | exact Drawn0.refl _ | apply Drawn0.step)⟩

end Go.Proofs.Ythblincfnfpgbaa.Q
namespace Go.Proofs.Ythblincfnfpgbaa.Q
open Go.RowKit Go.Proofs.YthblincfnfpgbaaW.PrintWords Go.Proofs.YthblincfnfpgbaaW.PrintLast Go.Proofs.YthblincfnfpgbaaW.PrintMore
set_option linter.unusedVariables false
theorem w1 (i : Nat) (h : i < 4398046511104) : wrap64 ((i : Int) + 1) = ((i + 1 : Nat) : Int) := by unfold wrap64; omega
theorem refRight_n (l : List S82) (hl : l.length < 4398046511104) (d : Nat) : ∀ (k i : Nat), i + d = l.length → d < k → 0 < i → shutterref27_right.l0 k l i = some (risingS (l.drop (i - 1))) := by
  induction d with
  | zero =>
    intro k i h hk hi
    obtain ⟨k, rfl⟩ : ∃ m, k = m + 1 := ⟨k - 1, by omega⟩
    simp only [shutterref27_right.l0]
    rw [if_neg (by omega), risingS_end l (i - 1) (by omega)]
  | succ d ih =>
    intro k i h hk hi
    obtain ⟨k, rfl⟩ : ∃ m, k = m + 1 := ⟨k - 1, by omega⟩
    obtain ⟨j, rfl⟩ : ∃ j, i = j + 1 := ⟨i - 1, by omega⟩
    have e : wrap64 (((j + 1 : Nat) : Int) - 1) = (j : Int) := by unfold wrap64; omega
    simp only [shutterref27_right.l0, e]
    rw [if_pos (by omega), if_pos (by omega), if_pos (by omega), if_pos (by omega), rd82 l _ (j + 1) rfl (by omega), rd82 l _ j rfl (by omega), Nat.add_sub_cancel, risingS_drop l j (by omega)]
    by_cases c : l[j + 1].f0 ≤ l[j].f0
    · rw [if_pos c, decide_eq_false (by omega)]
      rfl
    · rw [if_neg c, decide_eq_true (by omega), w1 _ (by omega), ih k (j + 1 + 1) (by omega) (by omega) (by omega)]
      rfl
theorem refRight_f (l : List S82) (hl : l.length < 4398046511104) (k : Nat) (hk : l.length + 1 < k) : shutterref27_right.f k l = some (risingS l) := by
  unfold shutterref27_right.f
  rcases Nat.eq_zero_or_pos l.length with h | h
  · obtain ⟨k, rfl⟩ : ∃ m, k = m + 1 := ⟨k - 1, by omega⟩
    obtain rfl : l = [] := List.eq_nil_of_length_eq_zero h
    rfl
  · have := refRight_n l hl (l.length - 1) k 1 (by omega) (by omega) (by omega)
    exact this
def cv (c : S30) : S102 := ⟨c.f0, c.f1, c.f2, c.f3, c.f4⟩
end Go.Proofs.Ythblincfnfpgbaa.Q
namespace Go.Proofs.Ythblincfnfpgbaa.Q
open Go.RowKit Go.Proofs.YthblincfnfpgbaaW.PrintWords Go.Proofs.YthblincfnfpgbaaW.PrintLast Go.Proofs.YthblincfnfpgbaaW.PrintMore
set_option linter.unusedVariables false
/-- A copy of l in memory of its own, a marked pair behind it. -/
def Lent (w : World) (v : Value) (l : List S82) : Prop := ∃ g cap, v = .slice (some ⟨g, 0, none⟩) l.length cap ∧ l.length + 1 ≤ cap ∧ Kd.C k82 w (some ⟨g, 0, none⟩) (l ++ [(⟨77, 77⟩ : S82)]).length (l ++ [(⟨77, 77⟩ : S82)]) ∧ g < w.heap.size
theorem lent_below {w w' : World} {v : Value} {l : List S82} (h : Lent w v l) (hb : Below w.heap.size w w') : Lent w' v l := by
  obtain ⟨g, cap, h1, h2, h3, h4⟩ := h
  exact ⟨g, cap, h1, h2, Kd.C_below h3 hb, Nat.lt_of_lt_of_le h4 hb.size⟩
theorem C_take {α : Type} {d : Kd α} {w : World} {A : Option Addr} {n m : Nat} {xs ys : List α} (h : Kd.C d w A n (xs ++ ys)) (hm : m = xs.length) : Kd.C d w A m xs := by
  obtain ⟨h1, h2, h3⟩ := h
  refine ⟨hm.symm, by rw [List.length_append] at h1; omega, fun hp => ?_⟩
  obtain ⟨ad, e, hc⟩ := h3 (by rw [List.length_append] at h1; omega)
  refine ⟨ad, e, fun j p hj => hc j p ?_⟩
  rw [List.getElem?_append_left (List.getElem?_eq_some_iff.1 hj).1]
  exact hj
theorem lent_reads {w : World} {v : Value} {l : List S82} (h : Lent w v l) : ∃ A c, v = .slice A l.length c ∧ l.length ≤ c ∧ Kd.C k82 w A l.length l := by
  obtain ⟨g, cap, h1, h2, h3, h4⟩ := h
  exact ⟨_, cap, h1, by omega, C_take h3 rfl⟩
set_option maxHeartbeats 4000000 in
set_option maxRecDepth 100000 in
theorem lent_c (A : Option Addr) (c : Nat) (l : List S82) (w : World) (hA : Kd.C k82 w A l.length l) (hl : l.length < 4398046511104) :
    Calls Try.prog 13 #[.slice A l.length c] w fun e w' => ∃ v, e = .returned v ∧ Lent w' v l ∧ Below w.heap.size w w' := by
  have hu82 := Try.underlying82
  have HA := Lib.hid hA
  have HL := Lib.hid hl
  clear hA hl
  go_enter Try.func13, Try.ntmps13
  go_wp2_with (first | (at_builtin; refine Kd.R_append_rows k82 (w0 := w) w.heap.size rfl (.tmp 4) (.tmp 5) 22 82 (.agg #[(.int .u64 0), (.int .u64 0)]) 16 rfl Try.underlying22 info82 rfl (by decide) (by omega) (.slice none 0 0) ([] : List (S82)) l _ _ _ (fun _ => True) (fun _ => False) rfl rfl (Kd.R_nil _ _ _ _ _) HA.out (fun _ _ h => h) (fun _ h => h.elim) (fun _ _ => trivial) (Below.refl _ _) (Nat.le_refl _) ?aL ?_))
  case aL => have := HL.out; simp only [List.length_nil]; omega
  intro v1 w1 h1 h2 h3 h4
  obtain ⟨A1, c1, rfl⟩ := Kd.R_slice h1
  have H1 := Lib.hid h1
  have H2 := Lib.hid h2
  clear h1 h2 h3 h4
  go_wp2_with (first | (at_builtin; refine Kd.R_append k82 (w0 := w) w.heap.size (by rfl) (.tmp 7) (.tmp 9) 22 82 (.agg #[.int .u64 0, .int .u64 0]) 16 rfl Try.underlying22 info82 rfl (by decide) (by omega) _ _ (⟨77, 77⟩ : S82) [.int .u64 77, .int .u64 77] (fun _ => True) (fun _ => False) rfl rfl ?aP (fun _ hk => hk.elim) (fun _ _ => trivial) H1.out H2.out H2.out.size ?aL ?_))
  case aP => exact k82_mkM _ _ _ (⟨77, 77⟩ : S82)
  case aL => have := HL.out; simp; omega
  intro v2 w2 h1 h2 h3 h4
  obtain ⟨A2, c2, rfl, h5, h6⟩ := Kd.R_reads h1
  have hlen : (l ++ [(⟨77, 77⟩ : S82)]).length = l.length + 1 := by simp
  have HX : Hid (∃ g, A2 = some ⟨g, 0, none⟩ ∧ g < w2.heap.size) := by
    obtain ⟨inner, ho⟩ := Kd.R_own h1
    rcases ho.2 with ⟨he, _⟩ | ⟨g, cap, cur, he, _, hg, _⟩
    · injection he with _ he2
      rw [hlen] at he2
      cases he2
    · injection he with he _ _
      exact ⟨g, he, blk_lt hg⟩
  have H5 := Lib.hid h5
  have H6 := Lib.hid h6
  have H7 := Lib.hid h2
  have b1 : (l.length : Int) ≤ (c2 : Int) := by rw [hlen] at h5; omega
  have b2 : l.length ≤ c2 := by omega
  clear h1 h2 h3 h4 h5 h6 hlen
  go_wp2
  go_ret
  obtain ⟨g, rfl, hg⟩ := HX.out
  refine ⟨_, rfl, ⟨g, c2, ?_, ?_, H6.out, hg⟩, H7.out⟩
  · rfl
  · have := H5.out; simpa using this

set_option maxHeartbeats 4000000 in
set_option maxRecDepth 100000 in
theorem kept_c (v : Value) (A : Option Addr) (c : Nat) (l : List S82) (w : World) (hv : Lent w v l) (hA : Kd.C k82 w A l.length l) (hc : l.length ≤ c) (hl : l.length < 4398046511104) (hs : ∃ k, shutterref11_SamePairs.f k l l = some true) :
    Calls Try.prog 18 #[v, .slice A l.length c] w fun e w' => e = .returned (.bool true) ∧ Below w.heap.size w w' := by
  have hu82 := Try.underlying82
  obtain ⟨g, cap, rfl, h2, h3, h4⟩ := hv
  obtain ⟨k, hs⟩ := hs
  have HA := Lib.hid hA
  have HC := Lib.hid hc
  have HS := Lib.hid hs
  have H0 := Lib.hid (C_take h3 (m := l.length) rfl)
  have H1 := Lib.hid (show l.length ≤ cap by omega)
  obtain ⟨a, e, hp1, hp2⟩ := at82 h3 l.length (by simp)
  obtain rfl : (⟨g, 0, none⟩ : Addr) = a := by injection e
  have b1 : (l.length : Int) + 1 ≤ (cap : Int) := by omega
  have b2 : (l.length : Int) < (l.length : Int) + 1 := by omega
  have b3 : (l.length : Int) ≤ 4398046511104 := by omega
  rw [add_plain] at hp1 hp2
  simp only [List.getElem_append_right (Nat.le_refl _), Nat.sub_self, List.getElem_cons_zero] at hp1 hp2
  clear hA hc hs h3 h4 hl e
  go_enter Try.func18, Try.ntmps18
  go_wp2_with fail
  go_at_call 17
  refine (shutterref11_SamePairs.calls _ _ _ _ _ _ _ _ _ H0.out H1.out HA.out HC.out HS.out).mono ?_
  rintro e w1 ⟨rfl, hd⟩
  obtain ⟨nd, rfl⟩ := hd
  go_wp2
  go_ret
  exact ⟨rfl, pw_below_drewN (Below.refl _ _) _⟩
end Go.Proofs.Ythblincfnfpgbaa.Q
-- Written by a program of this session over the kit's print.py, which was handed contracts that were proved by hand. Lean checks it.
namespace Go.Proofs.Ythblincfnfpgbaa.Q
open Go.RowKit Go.Proofs.YthblincfnfpgbaaW.PrintWords Go.Proofs.YthblincfnfpgbaaW.PrintLast Go.Proofs.YthblincfnfpgbaaW.PrintMore
attribute [local go_sem] max2_int min2_int max_two min_two max_three min_three max_four min_four   -- for this text's walks alone
set_option linter.unusedVariables false
set_option linter.unusedSimpArgs false

/-- A state of type 123 at block g of W; what its slices lead to came in by w0. -/
def IsS123 (w0 W : World) (g : Nat) (f0 : List Int) (f1 : Int) (f2 : Int) : Prop := ∃ A0 c0, W.heap[g]? = some (.cells #[.slice A0 f0.length c0, .int .i64 f1, .int .i64 f2] 123 (0, 0)) ∧ w0.heap.size ≤ g ∧ Kd.C (Kd.int .u8) w0 A0 f0.length f0
theorem IsS123.grown {w0 W : World} {g : Nat} {f0 : List Int} {f1 : Int} {f2 : Int} {W1 : World} {row : Option Nat} (h : IsS123 w0 W g f0 f1 f2) (hw : W.grownBy W1 row) (hne : some g ≠ row) : IsS123 w0 W1 g f0 f1 f2 := by
  obtain ⟨A0, c0, hb, hg, hr0⟩ := h
  exact ⟨A0, c0, blk_grown hb hw hne, hg, hr0⟩
theorem IsS123.own_neN {w0 W : World} {g : Nat} {f0 : List Int} {f1 : Int} {f2 : Int} {α : Type} {d : Kd α} {e : Nat} {base : Nat} {ok : Nat → Prop} {v : Value} {xs : List α} (h : IsS123 w0 W g f0 f1 f2) (ho : Kd.N d e W base ok v xs) (ht : e ≠ 123) : some g ≠ v.ownBlock := by
  obtain ⟨A0, c0, hb, hg, hr0⟩ := h
  exact Kd.N_ne ho hb ht
theorem IsS123.fresh {w0 W : World} {g : Nat} {f0 : List Int} {f1 : Int} {f2 : Int} (h : IsS123 w0 W g f0 f1 f2) : ∀ k, W.heap.size ≤ k → k ≠ g := by
  obtain ⟨A0, c0, hb, hg, hr0⟩ := h
  exact Kd.freshB hb
theorem IsS123.kept {w0 W : World} {g : Nat} {f0 : List Int} {f1 : Int} {f2 : Int} {W1 : World} {S : Nat → Prop} (h : IsS123 w0 W g f0 f1 f2) (hk : Kept W W1 S) (hne : ¬ S g) : IsS123 w0 W1 g f0 f1 f2 := by
  obtain ⟨A0, c0, hb, hg, hr0⟩ := h
  exact ⟨A0, c0, blk_kept hb hk hne, hg, hr0⟩
theorem IsS123.below {w0 W : World} {g : Nat} {f0 : List Int} {f1 : Int} {f2 : Int} {W1 : World} (h : IsS123 w0 W g f0 f1 f2) (hw : Below W.heap.size W W1) : IsS123 w0 W1 g f0 f1 f2 := h.grown (grown_of_below hw none) (by simp)
theorem IsS123.alloc {w0 W : World} {g : Nat} {f0 : List Int} {f1 : Int} {f2 : Int} (h : IsS123 w0 W g f0 f1 f2) (o : Obj) : IsS123 w0 (W.alloc o) g f0 f1 f2 := h.below (below_alloc (Below.refl _ _) o)
theorem IsS123.drewN {w0 W : World} {g : Nat} {f0 : List Int} {f1 : Int} {f2 : Int} (h : IsS123 w0 W g f0 f1 f2) (m : Nat) : IsS123 w0 (W.drewN m) g f0 f1 f2 := h
theorem IsS123.drew {w0 W : World} {g : Nat} {f0 : List Int} {f1 : Int} {f2 : Int} (h : IsS123 w0 W g f0 f1 f2) : IsS123 w0 W.drew g f0 f1 f2 := h
theorem IsS123.at_ {w0 W : World} {g : Nat} {f0 : List Int} {f1 : Int} {f2 : Int} {w' : World} {m : Nat} (hq : W.drewN m = w') (h : IsS123 w0 W g f0 f1 f2) : IsS123 w0 w' g f0 f1 f2 := by subst hq; exact IsS123.drewN h m
theorem IsS123.apart {w0 W : World} {g : Nat} {f0 : List Int} {f1 : Int} {f2 : Int} {α : Type} {d : Kd α} {e : Nat} {base : Nat} {ok : Nat → Prop} {v : Value} {xs : List α} (h : IsS123 w0 W g f0 f1 f2) (ho : d.R e W base ok v xs) (ht : ∀ q, q ∈ e :: d.E → q ≠ 123) : d.R e W base (fun k => ok k ∧ k ≠ g) v xs := by
  obtain ⟨A0, c0, hb, hg, hr0⟩ := h
  exact Kd.R_types ho hb ht
theorem IsS123.own_ne {w0 W : World} {g : Nat} {f0 : List Int} {f1 : Int} {f2 : Int} {α : Type} {d : Kd α} {e : Nat} {base : Nat} {ok : Nat → Prop} {v : Value} {xs : List α} (h : IsS123 w0 W g f0 f1 f2) (ho : d.R e W base ok v xs) (ht : e ≠ 123) : some g ≠ v.ownBlock := by
  obtain ⟨A0, c0, hb, hg, hr0⟩ := h
  exact Kd.R_ne ho hb ht
theorem IsS123.apartQ {w0 W : World} {g : Nat} {f0 : List Int} {f1 : Int} {f2 : Int} {α : Type} {d : Kd α} {e : Nat} {base : Nat} {ok : Nat → Prop} {v : Value} {xs : List α} (h : IsS123 w0 W g f0 f1 f2) (ho : d.Q e W base ok v xs) (ht : ∀ q, q ∈ e :: d.E → q ≠ 123) : d.Q e W base (fun k => ok k ∧ k ≠ g) v xs := by
  obtain ⟨A0, c0, hb, hg, hr0⟩ := h
  exact Kd.Q_types ho hb ht
theorem IsS123.own_neQ {w0 W : World} {g : Nat} {f0 : List Int} {f1 : Int} {f2 : Int} {α : Type} {d : Kd α} {e : Nat} {base : Nat} {ok : Nat → Prop} {v : Value} {xs : List α} (h : IsS123 w0 W g f0 f1 f2) (ho : d.Q e W base ok v xs) (ht : e ≠ 123) : some g ≠ v.ownBlock := by
  obtain ⟨A0, c0, hb, hg, hr0⟩ := h
  exact Kd.Q_ne ho hb ht
theorem IsS123.apartS {w0 W : World} {g : Nat} {f0 : List Int} {f1 : Int} {f2 : Int} {α : Type} {d : Kd α} {e : Nat} {base : Nat} {ok : Nat → Prop} {v : Value} {xs : List α} (h : IsS123 w0 W g f0 f1 f2) (ho : d.S e W base ok v xs) (ht : ∀ q, q ∈ e :: d.E → q ≠ 123) : d.S e W base (fun k => ok k ∧ k ≠ g) v xs := by
  obtain ⟨A0, c0, hb, hg, hr0⟩ := h
  exact Kd.S_types ho hb ht
theorem IsS123.own_neS {w0 W : World} {g : Nat} {f0 : List Int} {f1 : Int} {f2 : Int} {α : Type} {d : Kd α} {e : Nat} {base : Nat} {ok : Nat → Prop} {v : Value} {xs : List α} (h : IsS123 w0 W g f0 f1 f2) (ho : d.S e W base ok v xs) (ht : e ≠ 123) : some g ≠ v.ownBlock := by
  obtain ⟨A0, c0, hb, hg, hr0⟩ := h
  exact Kd.S_ne ho hb ht
theorem IsS123.lt {w0 W : World} {g : Nat} {f0 : List Int} {f1 : Int} {f2 : Int} (h : IsS123 w0 W g f0 f1 f2) : g < W.heap.size := by
  obtain ⟨A0, c0, hb, hg, hr0⟩ := h
  exact blk_lt hb
theorem IsS123.ge {w0 W : World} {g : Nat} {f0 : List Int} {f1 : Int} {f2 : Int} (h : IsS123 w0 W g f0 f1 f2) : w0.heap.size ≤ g := by
  obtain ⟨A0, c0, hb, hg, hr0⟩ := h
  exact hg
theorem IsS123.ne_blk {w0 W : World} {g : Nat} {f0 : List Int} {f1 : Int} {f2 : Int} {a : Nat} {cs : Array Value} {t : TypeId} {fr : Nat × Nat} (h : IsS123 w0 W g f0 f1 f2) (hb2 : W.heap[a]? = some (.cells cs t fr)) (ht : t ≠ 123) : g ≠ a := by
  obtain ⟨A0, c0, hb, hg, hr0⟩ := h
  rintro rfl
  rw [hb] at hb2
  injection hb2 with hb2
  injection hb2 with _ ht2
  exact ht ht2.symm
theorem IsS123.far {w0 W : World} {g : Nat} {f0 : List Int} {f1 : Int} {f2 : Int} {p : Addr} (h : IsS123 w0 W g f0 f1 f2) (hne : g ≠ p.block) (u : Value) : IsS123 w0 (W.setCell p u) g f0 f1 f2 := by
  obtain ⟨A0, c0, hb, hg, hr0⟩ := h
  exact ⟨A0, c0, blk_far hb hne u, hg, hr0⟩
theorem cellS123_0 {W : World} {g : Nat} {A0 : Option Addr} {c0 : Nat} {f0 : List Int} {f1 : Int} {f2 : Int} (h : W.heap[g]? = some (.cells #[.slice A0 f0.length c0, .int .i64 f1, .int .i64 f2] 123 (0, 0))) : W.cell? ⟨g, 0, none⟩ = some (.slice A0 f0.length c0) := (blk_cell h 0).trans rfl
theorem cellS123_1 {W : World} {g : Nat} {A0 : Option Addr} {c0 : Nat} {f0 : List Int} {f1 : Int} {f2 : Int} (h : W.heap[g]? = some (.cells #[.slice A0 f0.length c0, .int .i64 f1, .int .i64 f2] 123 (0, 0))) : W.cell? ⟨g, 1, none⟩ = some (.int .i64 f1) := (blk_cell h 1).trans rfl
theorem IsS123.set_1 {w0 W : World} {g : Nat} {f0 : List Int} {f1 : Int} {f2 : Int} (h : IsS123 w0 W g f0 f1 f2) (x : Int) : IsS123 w0 (W.setCell ⟨g, 1, none⟩ (.int .i64 x)) g f0 x f2 := by
  obtain ⟨A0, c0, hb, hg, hr0⟩ := h
  exact ⟨A0, c0, by simpa using blk_set hb 1 (.int .i64 x), hg, hr0⟩
theorem cellS123_2 {W : World} {g : Nat} {A0 : Option Addr} {c0 : Nat} {f0 : List Int} {f1 : Int} {f2 : Int} (h : W.heap[g]? = some (.cells #[.slice A0 f0.length c0, .int .i64 f1, .int .i64 f2] 123 (0, 0))) : W.cell? ⟨g, 2, none⟩ = some (.int .i64 f2) := (blk_cell h 2).trans rfl
theorem IsS123.set_2 {w0 W : World} {g : Nat} {f0 : List Int} {f1 : Int} {f2 : Int} (h : IsS123 w0 W g f0 f1 f2) (x : Int) : IsS123 w0 (W.setCell ⟨g, 2, none⟩ (.int .i64 x)) g f0 f1 x := by
  obtain ⟨A0, c0, hb, hg, hr0⟩ := h
  exact ⟨A0, c0, by simpa using blk_set hb 2 (.int .i64 x), hg, hr0⟩
theorem IsS123.new (w0 W : World) (A0 : Option Addr) (c0 : Nat) (f0 : List Int) (f1 : Int) (f2 : Int) (hB : Below w0.heap.size w0 W) (hr0 : Kd.C (Kd.int .u8) w0 A0 f0.length f0) : IsS123 w0 (W.alloc (.cells #[.slice A0 f0.length c0, .int .i64 f1, .int .i64 f2] 123)) W.heap.size f0 f1 f2 := ⟨A0, c0, by simpa using heap_alloc_new W _, hB.size, hr0⟩

/-! ### dump_reader_fail: function 63 -/
def dump_reader_fail.f (s0_0 : List Int) (s0_1 : Int) (s0_2 : Int) (a1 : Int) (a2 : Int) : Option (Int × Int) := if s0_2 = 0 then (some (a2, a1)) else (some (s0_1, s0_2))
set_option maxHeartbeats 8000000 in
set_option maxRecDepth 100000 in
theorem dump_reader_fail.calls (g : Nat) (s0_0 : List Int) (s0_1 : Int) (s0_2 : Int) (a1 : Int) (a2 : Int) (r1 : Int) (r2 : Int) (w0 w : World) (hI : IsS123 w0 w g s0_0 s0_1 s0_2) (hB : Below w0.heap.size w0 w) (h : dump_reader_fail.f s0_0 s0_1 s0_2 a1 a2 = some (r1, r2)) :
    Calls Try.prog 63 #[.pointer (some ⟨g, 0, none⟩), .int .i64 a1, .int .i64 a2] w fun e w' => e = .returned (.tuple #[]) ∧ IsS123 w0 w' g s0_0 r1 r2 ∧ Below w0.heap.size w0 w' ∧ KeepBut w w' g none := by
  have HI0 := Aside0.mk hI
  have HK := Aside0.mk (KeepBut.refl w g none)
  have HL := Aside0.mk hB.size
  clear hI
  have HW0 := Aside0.mk hB.size
  have HB := Aside0.mk hB
  clear hB
  have H : (if s0_2 = 0 then (some (a2, a1)) else (some (s0_1, s0_2))) = some (r1, r2) := h
  clear h
  by_cases c4 : s0_2 = 0
  · rw [if_pos c4] at H
    have c4b0 : (s0_2 == 0) = true := beq_iff_eq.mpr c4
    have c4b1 : (s0_2 != 0) = false := bne_eq_false_iff_eq.mpr c4
    clear c4
    simp only [Option.some.injEq, Prod.mk.injEq] at H
    obtain ⟨rfl, rfl⟩ := H
    obtain ⟨ASz5_0, cSz5_0, HGz5, hgz5, HSz5_0⟩ := HI0.out
    have hcz5_0 := cellS123_0 HGz5
    have hcz5_1 := cellS123_1 HGz5
    have hcz5_2 := cellS123_2 HGz5
    have hfz5_1 := blk_frozen HGz5 1
    have hfz5_2 := blk_frozen HGz5 2
    clear HGz5 hgz5
    go_enter Try.func63, Try.ntmps63
    go_wp2
    first | go_end0 | ((try simp only [Exit.inBlock, Exit.then]); refine bodyPost_ret (results_none rfl _ _ _) rfl ?_)
    exact ⟨by first | rfl | (simp [errW_none, errW_some] <;> rfl) | (simp [*, errW_none, errW_some] <;> rfl), by repeat (first | (with_reducible first | exact HI0.out | apply IsS123.alloc | apply IsS123.drewN | apply IsS123.drew | apply IsS123.set_1 | apply IsS123.set_2) | exact HI0.out), by repeat (first | (with_reducible first | exact HB.out | apply below_alloc | apply pw_below_drewN | apply below_drew1 | refine below_set ?_ (IsS123.ge HI0.out)) | exact HB.out), by repeat (first | (with_reducible first | exact HK.out | apply KeepBut.set_ | apply keep_drewN | apply keep_drew | apply keep_alloc) | exact HK.out)⟩
  · rw [if_neg c4] at H
    have c4b0 : (s0_2 == 0) = false := beq_eq_false_iff_ne.mpr c4
    have c4b1 : (s0_2 != 0) = true := bne_iff_ne.mpr c4
    simp only [Option.some.injEq, Prod.mk.injEq] at H
    obtain ⟨rfl, rfl⟩ := H
    obtain ⟨ASz6_0, cSz6_0, HGz6, hgz6, HSz6_0⟩ := HI0.out
    have hcz6_0 := cellS123_0 HGz6
    have hcz6_1 := cellS123_1 HGz6
    have hcz6_2 := cellS123_2 HGz6
    have hfz6_1 := blk_frozen HGz6 1
    have hfz6_2 := blk_frozen HGz6 2
    clear HGz6 hgz6
    go_enter Try.func63, Try.ntmps63
    go_wp2
    first | go_end0 | ((try simp only [Exit.inBlock, Exit.then]); refine bodyPost_ret (results_none rfl _ _ _) rfl ?_)
    exact ⟨by first | rfl | (simp [errW_none, errW_some] <;> rfl) | (simp [*, errW_none, errW_some] <;> rfl), by repeat (first | (with_reducible first | exact HI0.out | apply IsS123.alloc | apply IsS123.drewN | apply IsS123.drew | apply IsS123.set_1 | apply IsS123.set_2) | exact HI0.out), by repeat (first | (with_reducible first | exact HB.out | apply below_alloc | apply pw_below_drewN | apply below_drew1 | refine below_set ?_ (IsS123.ge HI0.out)) | exact HB.out), by repeat (first | (with_reducible first | exact HK.out | apply KeepBut.set_ | apply keep_drewN | apply keep_drew | apply keep_alloc) | exact HK.out)⟩

end Go.Proofs.Ythblincfnfpgbaa.Q
namespace Go.Proofs.Ythblincfnfpgbaa.Q
open Go.RowKit Go.Proofs.YthblincfnfpgbaaW.PrintWords Go.Proofs.YthblincfnfpgbaaW.PrintLast Go.Proofs.YthblincfnfpgbaaW.PrintMore
set_option linter.unusedVariables false
set_option linter.unusedSimpArgs false
/-- A number at a place: it (what of it was read), the place behind it or of the error, the error. -/
def numR : Nat → Int → Int → List Int → Int × Int × Int
  | _, at', v, [] => (v, at', 270)
  | i, at', v, c :: l => if (0 < i ∧ c = 0) ∨ (i = 9 ∧ 1 < c) then (v, at', 271) else if c < 128 then (v + (c % 128) * 2 ^ (7 * i), at' + 1, 0) else numR (i + 1) (at' + 1) (v + (c % 128) * 2 ^ (7 * i)) l
theorem pow_split (i : Nat) : (2 : Int) ^ (7 * (i + 1)) = 2 ^ (7 * i) * 128 := by
  rw [show 7 * (i + 1) = 7 * i + 7 by omega, Int.pow_add]; rfl
/-- The next seven bits. -/
theorem acc7 (i : Nat) (v y : Int) (hv0 : 0 ≤ v) (hv : v < 2 ^ (7 * i)) (hy0 : 0 ≤ y) (hy : y < 256) (hi : i < 9 ∨ (i = 9 ∧ y ≤ 1)) :
    bits .or .u64 v (IntKind.u64.wrap (IntKind.u64.wrap (bits .and .u8 y 127) * 2 ^ (7 * i))) = v + (y % 128) * 2 ^ (7 * i) := by
  rw [u8_and127 y hy0 hy, u64_wrap_id (y % 128) (by omega) (by omega)]
  have hP : (0 : Int) < 2 ^ (7 * i) := Int.pow_pos (by decide)
  have hb : y % 128 * 2 ^ (7 * i) < 18446744073709551616 ∧ v < 18446744073709551616 := by
    rcases hi with hi | ⟨rfl, hy1⟩
    · have h1 : (2 : Int) ^ (7 * i) ≤ 2 ^ 56 := by exact_mod_cast Nat.pow_le_pow_right (n := 2) (by decide) (show 7 * i ≤ 56 by omega)
      have h2 : y % 128 * 2 ^ (7 * i) ≤ 127 * 2 ^ 56 := Int.mul_le_mul (by omega) h1 (by omega) (by omega)
      have h3 : (2 : Int) ^ 56 = 72057594037927936 := by decide
      omega
    · have h3 : (2 : Int) ^ (7 * 9) = 9223372036854775808 := by decide
      rw [h3] at hv ⊢
      omega
  have h0 : 0 ≤ y % 128 * 2 ^ (7 * i) := Int.mul_nonneg (by omega) (by omega)
  rw [u64_wrap_id _ h0 hb.1]
  exact bits_join_low .u64 64 (by decide) wraps_u64 (7 * i) v _ hv0 hv (by have := hb.2; omega) h0 (Int.mul_emod_left ..) (by have := hb.1; omega)
theorem acc7_lt (i : Nat) (v y : Int) (hv0 : 0 ≤ v) (hv : v < 2 ^ (7 * i)) : 0 ≤ v + (y % 128) * 2 ^ (7 * i) ∧ v + (y % 128) * 2 ^ (7 * i) < 2 ^ (7 * (i + 1)) := by
  rw [pow_split]
  generalize (2 : Int) ^ (7 * i) = P at *
  have h1 : 0 ≤ y % 128 * P := Int.mul_nonneg (by omega) (by omega)
  have h2 : y % 128 * P ≤ 127 * P := Int.mul_le_mul_of_nonneg_right (by omega) (by omega)
  omega
/-- What the loop of number knows at a round's head: it goes on, or it has failed. -/
def RdSt (w0 w : World) (g : Nat) (bs : List Int) (R : Int × Int × Int) (kq i a : Nat) (v iv : Int) (w' : World) : Prop :=
  (iv = i ∧ kq + i = 10 ∧ 0 < kq ∧ a ≤ bs.length ∧ (0 ≤ v ∧ v < 2 ^ (7 * i)) ∧ R = numR i a v (bs.drop a) ∧ w' = w) ∨
  (R.1 = v ∧ R.2.2 ≠ 0 ∧ IsS123 w0 w' g bs R.2.1 R.2.2 ∧ Below w0.heap.size w0 w' ∧ KeepBut w w' g none)
theorem ret_u64 {a b : Int} (h : a = b) : Ending.returned (.int .u64 a) = .returned (.int .u64 b) := by rw [h]
set_option maxHeartbeats 8000000 in
set_option maxRecDepth 100000 in
theorem rdnum_c (g : Nat) (bs : List Int) (at' : Nat) (w0 w : World) (hI : IsS123 w0 w g bs at' 0) (hB : Below w0.heap.size w0 w) (ha : at' ≤ bs.length) (hbs : ∀ c ∈ bs, 0 ≤ c ∧ c < 256) :
    Calls Try.prog 61 #[.pointer (some ⟨g, 0, none⟩)] w fun e w' => e = .returned (.int .u64 (numR 0 at' 0 (bs.drop at')).1) ∧ IsS123 w0 w' g bs (numR 0 at' 0 (bs.drop at')).2.1 (numR 0 at' 0 (bs.drop at')).2.2 ∧ Below w0.heap.size w0 w' ∧ KeepBut w w' g none := by
  have hu := Try.underlying123
  obtain ⟨A, c, hb, hg, hC⟩ := hI
  have c0 := cellS123_0 hb
  have c1 := cellS123_1 hb
  have c2 := cellS123_2 hb
  have HH := Lib.hid hb
  have HG := Lib.hid hg
  have HC := Lib.hid hC
  have HB := Lib.hid hB
  clear hb hg hC hB
  obtain ⟨R, hR⟩ : ∃ R, R = numR 0 at' 0 (bs.drop at') := ⟨_, rfl⟩
  rw [← hR]
  have HE := Lib.hid hR
  clear hR
  go_enter Try.func61, Try.ntmps61
  go_wp2
  go_step3
  go_wp2
  go_step3
  go_wp2
  go_loopg [3, 4, 5] 10 (fun kq u y x w' => ∃ (i a : Nat) (v iv : Int), u = .int .u64 v ∧ y = .int .i64 a ∧ x = .int .i64 iv ∧ RdSt w0 w g bs R kq i a v iv w')
  case atStart => exact ⟨0, at', 0, _, rfl, rfl, rfl, .inl ⟨rfl, rfl, by omega, ha, ⟨by omega, by decide⟩, HE.out, rfl⟩⟩
  case round =>
    obtain ⟨i, a, v, iv, rfl, rfl, rfl, hst⟩ := hrel
    rcases hst with ⟨hiv, hk, hk0, hA, hv, hR, rfl⟩ | ⟨h1, h2, h3, h4, h5⟩
    rotate_left
    · have H1 := Lib.hid h1
      have H3 := Lib.hid h3
      have H4 := Lib.hid h4
      have H5 := Lib.hid h5
      obtain ⟨A', c', hb', -, -⟩ := h3
      have d2 := cellS123_2 hb'
      have e2 : (R.2.2 == 0) = false := by rw [beq_eq_false_iff_ne]; exact h2
      clear h1 h2 h4 h5 hb' c0 c1 c2
      go_wp2
      rw [Exit.noGoto_ret]
      go_ret
      exact ⟨ret_u64 H1.out.symm, H3.out, H4.out, H5.out⟩
    have HK := Lib.hid hk
    have HK0 := Lib.hid hk0
    have HA := Lib.hid hA
    have HV := Lib.hid hv
    have HR := Lib.hid hR
    have HIV := Lib.hid hiv
    have b4 : 0 ≤ iv := by omega
    have b5 : iv ≤ 9 := by omega
    clear hk hk0 hA hv hR hiv
    by_cases hlt : a < bs.length
    · have hne : ((a : Int) == (bs.length : Int)) = false := by rw [beq_eq_false_iff_ne]; omega
      obtain ⟨ad, rfl, hx⟩ := Kd.at_int (Kd.C_below HC.out HB.out) (a : Int) (by omega) (by omega)
      have b1 : (0 : Int) ≤ (a : Int) := by omega
      have b2 : (a : Int) < (bs.length : Int) := by omega
      rw [Int.toNat_natCast] at hx
      have hy := hbs (rd bs a) (by unfold rd; rw [Int.toNat_natCast, List.getD_eq_getElem?_getD, List.getElem?_eq_getElem hlt]; exact List.getElem_mem hlt)
      have HY : Hid (bs.drop a = rd bs a :: bs.drop (a + 1)) := Lib.hid (by rw [List.drop_eq_getElem_cons hlt]; unfold rd; rw [Int.toNat_natCast, List.getD_eq_getElem?_getD, List.getElem?_eq_getElem hlt]; rfl)
      generalize rd bs a = y at *
      have c3 : wr.frozen? ⟨g, 1, none⟩ = false := blk_frozen HH.out 1
      have b3 : (a : Int) ≤ 9223372036854775806 := by have := HC.out.2.1; omega
      obtain ⟨hy0, hy1⟩ := hy
      clear hlt
      by_cases hbad : (0 < i ∧ y = 0) ∨ (i = 9 ∧ 1 < y)
      · have HR' : Hid (R = (v, (a : Int), 271)) := Lib.hid (by rw [HR.out, HY.out, numR, if_pos hbad])
        have hc : (decide (0 < iv) = true ∧ (y == 0) = true) ∨ (decide (0 < iv) = true ∧ (y == 0) = false ∧ (iv == 9) = true ∧ decide (1 < y) = true) := by
          rcases hbad with ⟨h1, h2⟩ | ⟨h1, h2⟩
          · exact .inl ⟨decide_eq_true (by have := HIV.out; omega), by rw [beq_iff_eq]; exact h2⟩
          · exact .inr ⟨decide_eq_true (by have := HIV.out; omega), by rw [beq_eq_false_iff_ne]; omega, by rw [beq_iff_eq]; have := HIV.out; omega, decide_eq_true h2⟩
        clear hbad
        rcases hc with ⟨e1, e2⟩ | ⟨e1, e2, e3, e4⟩
        · obtain rfl : y = 0 := by simpa using e2
          go_wp2_with fail
          go_at_call 63
          refine (dump_reader_fail.calls g bs _ 0 _ _ (a : Int) 271 w0 _ ⟨_, _, HH.out, HG.out, HC.out⟩ HB.out rfl).mono ?_
          rintro e w1 ⟨rfl, h1, h2, h3⟩
          have H1 := Lib.hid h1
          have H2 := Lib.hid h2
          have H3 := Lib.hid h3
          clear h1 h2 h3
          go_wp2
          go_roundg (gk - 1)
          case measure => have := HK0.out; omega
          case rel => exact ⟨i, a, v, _, rfl, rfl, rfl, .inr ⟨by rw [HR'.out], by rw [HR'.out]; show (271 : Int) ≠ 0; decide, by rw [HR'.out]; exact H1.out, H2.out, H3.out⟩⟩
        · obtain rfl : iv = 9 := beq_iff_eq.1 e3
          go_wp2_with fail
          go_at_call 63
          refine (dump_reader_fail.calls g bs _ 0 _ _ (a : Int) 271 w0 _ ⟨_, _, HH.out, HG.out, HC.out⟩ HB.out rfl).mono ?_
          rintro e w1 ⟨rfl, h1, h2, h3⟩
          have H1 := Lib.hid h1
          have H2 := Lib.hid h2
          have H3 := Lib.hid h3
          clear h1 h2 h3
          go_wp2
          go_roundg (gk - 1)
          case measure => have := HK0.out; omega
          case rel => exact ⟨i, a, v, _, rfl, rfl, rfl, .inr ⟨by rw [HR'.out], by rw [HR'.out]; show (271 : Int) ≠ 0; decide, by rw [HR'.out]; exact H1.out, H2.out, H3.out⟩⟩
      · have hc : (decide (0 < iv) = false ∧ (iv == 9) = false) ∨ (decide (0 < iv) = true ∧ (y == 0) = false ∧ (iv == 9) = false) ∨ (decide (0 < iv) = true ∧ (y == 0) = false ∧ (iv == 9) = true ∧ decide (1 < y) = false) := by
          by_cases h1 : 0 < i
          · have h2 : y ≠ 0 := fun h => hbad (.inl ⟨h1, h⟩)
            by_cases h3 : i = 9
            · exact .inr (.inr ⟨decide_eq_true (by have := HIV.out; omega), by rw [beq_eq_false_iff_ne]; exact h2, by rw [beq_iff_eq]; have := HIV.out; omega, decide_eq_false (fun h => hbad (.inr ⟨h3, h⟩))⟩)
            · exact .inr (.inl ⟨decide_eq_true (by have := HIV.out; omega), by rw [beq_eq_false_iff_ne]; exact h2, by rw [beq_eq_false_iff_ne]; have := HIV.out; omega⟩)
          · exact .inl ⟨decide_eq_false (by have := HIV.out; omega), by rw [beq_eq_false_iff_ne]; have := HIV.out; omega⟩
        have hi9 : i ≤ 9 := by have := HK.out; have := HK0.out; omega
        have hin : i < 9 ∨ (i = 9 ∧ y ≤ 1) := by
          by_cases h3 : i = 9
          · exact .inr ⟨h3, by by_cases h : 1 < y; exact absurd (.inr ⟨h3, h⟩) hbad; omega⟩
          · exact .inl (by omega)
        have HAC := Lib.hid (show bits .or .u64 v (IntKind.u64.wrap (IntKind.u64.wrap (bits .and .u8 y 127) * 2 ^ (7 * iv).toNat)) = v + (y % 128) * 2 ^ (7 * i) by rw [show (7 * iv).toNat = 7 * i by have := HIV.out; omega]; exact acc7 i v y HV.out.1 HV.out.2 hy0 hy1 hin)
        have HAL := Lib.hid (acc7_lt i v y HV.out.1 HV.out.2)
        have HIN := Lib.hid hin
        have HBAD := Lib.hid hbad
        clear hbad hin
        rcases hc with ⟨e1, e3⟩ | ⟨e1, e2, e3⟩ | ⟨e1, e2, e3, e4⟩
        all_goals
          by_cases hl : y < 128
          · have HR' : Hid (R = (v + (y % 128) * 2 ^ (7 * i), (a : Int) + 1, 0)) := Lib.hid (by rw [HR.out, HY.out, numR, if_neg HBAD.out, if_pos hl])
            go_wp2
            rw [Exit.noGoto_ret]
            go_ret
            have HS : IsS123 w0 wr g bs at' 0 := ⟨_, _, HH.out, HG.out, HC.out⟩
            refine ⟨ret_u64 (by rw [HR'.out]; exact HAC.out), ?_, HB.out.setCell HG.out _, (KeepBut.refl wr g none).set_ _ _⟩
            rw [HR'.out]
            exact HS.set_1 _
          · have HR' : Hid (R = numR (i + 1) (((a + 1 : Nat) : Int)) (v + (y % 128) * 2 ^ (7 * i)) (bs.drop (a + 1))) := Lib.hid (by rw [HR.out, HY.out, numR, if_neg HBAD.out, if_neg hl]; rfl)
            have hl' : 128 ≤ y := by omega
            clear hl
            go_wp2
            go_roundg (gk - 1)
            case measure => have := HK0.out; omega
            case rel =>
              refine ⟨i + 1, a + 1, v + (y % 128) * 2 ^ (7 * i), ((i + 1 : Nat) : Int), ?_, ?_, ?_, .inl ⟨rfl, by have := HK.out; have := HK0.out; omega, ?_, by omega, HAL.out, HR'.out, rfl⟩⟩
              · rw [HAC.out]
              · first | rfl | go_num
              · rw [show ((i + 1 : Nat) : Int) = iv + 1 by have := HIV.out; omega]
              · have h1 := HIN.out; have := HK.out; omega
    · obtain rfl : a = bs.length := by have := HA.out; omega
      have HR' : Hid (R = (v, (bs.length : Int), 270)) := Lib.hid (by rw [HR.out, List.drop_of_length_le (Nat.le_refl _), numR])
      have hne : ((bs.length : Int) == (bs.length : Int)) = true := by rw [beq_iff_eq]
      go_wp2_with fail
      go_at_call 63
      refine (dump_reader_fail.calls g bs _ 0 _ _ (bs.length : Int) 270 w0 _ ⟨_, _, HH.out, HG.out, HC.out⟩ HB.out rfl).mono ?_
      rintro e w1 ⟨rfl, h1, h2, h3⟩
      have H1 := Lib.hid h1
      have H2 := Lib.hid h2
      have H3 := Lib.hid h3
      clear h1 h2 h3
      go_wp2
      rw [Exit.noGoto_ret]
      go_ret
      refine ⟨ret_u64 (by rw [HR'.out]), ?_, H2.out, H3.out⟩
      rw [HR'.out]
      exact H1.out
end Go.Proofs.Ythblincfnfpgbaa.Q
namespace Go.Proofs.Ythblincfnfpgbaa.Q
open Go.RowKit Go.Proofs.YthblincfnfpgbaaW.PrintWords Go.Proofs.YthblincfnfpgbaaW.PrintLast Go.Proofs.YthblincfnfpgbaaW.PrintMore
set_option linter.unusedVariables false
set_option linter.unusedSimpArgs false
/-- What all bytes begin with, from a place on: the place and the error then. -/
def startL : List Int → Int → List Int → Int × Int
  | [], _, _ => (4, 0)
  | _ :: _, i, [] => (i, 270)
  | m :: ms, i, c :: l => if c = m then startL ms (i + 1) l else (i, 271)
def startX (bs : List Int) : Int × Int := startL [83, 72, 85, 49] 0 bs
theorem drop_at (bs : List Int) (j : Nat) (h : j < bs.length) : bs.drop j = rd bs j :: bs.drop (j + 1) := by
  rw [List.drop_eq_getElem_cons h]; unfold rd; rw [Int.toNat_natCast, List.getD_eq_getElem?_getD, List.getElem?_eq_getElem h]; rfl
set_option maxHeartbeats 8000000 in
set_option maxRecDepth 100000 in
theorem start_c (g : Nat) (bs : List Int) (w0 w : World) (hI : IsS123 w0 w g bs 0 0) (hB : Below w0.heap.size w0 w) :
    Calls Try.prog 60 #[.pointer (some ⟨g, 0, none⟩)] w fun e w' => e = .returned (.tuple #[]) ∧ IsS123 w0 w' g bs (startX bs).1 (startX bs).2 ∧ Below w0.heap.size w0 w' ∧ KeepBut w w' g none := by
  have hu := Try.underlying123
  obtain ⟨R, hR⟩ : ∃ R, R = startX bs := ⟨_, rfl⟩
  rw [← hR]
  have HI := Lib.hid hI
  have HB := Lib.hid hB
  have HE := Lib.hid (show R = startL ([83, 72, 85, 49].drop 0) ((0 : Nat) : Int) (bs.drop 0) from hR)
  clear hI hB hR
  go_enter Try.func60, Try.ntmps60
  go_wp2
  go_loopg [3] 5 (fun kq x w' => ∃ j : Nat, x = .int .i64 j ∧ Hid (kq + j = 5) ∧ Hid (0 < kq) ∧ Hid (j ≤ bs.length) ∧ Hid (R = startL ([83, 72, 85, 49].drop j) j (bs.drop j)) ∧ Hid (IsS123 w0 w' g bs 0 0) ∧ Hid (Below w0.heap.size w0 w') ∧ Hid (KeepBut w w' g none))
  case atStart => exact ⟨0, rfl, Lib.hid rfl, Lib.hid (by omega), Lib.hid (by omega), HE, HI, HB, Lib.hid (KeepBut.refl _ _ _)⟩
  case round =>
    obtain ⟨j, rfl, HK, HK0, HJ, HR, HIr, HBr, HKr⟩ := hrel
    clear HI HB HE
    obtain ⟨A, c, hb, hg, hC⟩ := HIr.out
    have c0 := cellS123_0 hb
    have c1 := cellS123_1 hb
    have c2 := cellS123_2 hb
    have c3 : wr.frozen? ⟨g, 1, none⟩ = false := blk_frozen hb 1
    have HC := Lib.hid (Kd.C_below hC HBr.out)
    have hj : j = 0 ∨ j = 1 ∨ j = 2 ∨ j = 3 ∨ j = 4 := by have := HK.out; have := HK0.out; omega
    clear hb hg hC
    rcases hj with rfl | rfl | rfl | rfl | rfl
    · by_cases hl : 0 < bs.length
      · obtain ⟨ad, rfl, hx⟩ := Kd.at_int HC.out (0 : Int) (by omega) (by omega)
        have hn : ((0 : Int) == (bs.length : Int)) = false := by rw [beq_eq_false_iff_ne]; omega
        have b1 : (0 : Int) < (bs.length : Int) := by omega
        have hd := drop_at bs 0 hl
        have HRY : Hid (R = startL ([83, 72, 85, 49].drop 0) ((0 : Nat) : Int) (rd bs (0 : Int) :: bs.drop (0 + 1))) := Lib.hid (by rw [HR.out, hd]; rfl)
        have HJ1 := Lib.hid (show 0 + 1 ≤ bs.length by omega)
        clear hd HR
        have hx' : wr.cell? ad = some (.int .u8 (rd bs (0 : Int))) := by simpa [Addr.add] using hx
        clear hx
        have hm : ∀ h, (((⟨#[83, 72, 85, 49]⟩ : ByteArray)[0]'h).toNat : Int) = 83 := fun _ => rfl
        generalize rd bs (0 : Int) = y at *
        by_cases hy : y = 83
        · have HRR : Hid (R = startL ([83, 72, 85, 49].drop 1) ((1 : Nat) : Int) (bs.drop 1)) := Lib.hid (by rw [HRY.out, hy]; rfl)
          have y1 : (y == 83) = true := by rw [beq_iff_eq]; exact hy
          have y2 : (y != 83) = false := by rw [bne_eq_false_iff_eq]; exact hy
          obtain rfl := hy
          go_wp2
          go_quiet (fail)
          go_wp2
          go_roundg (gk - 1)
          case measure => have := HK0.out; omega
          case rel => exact ⟨1, rfl, Lib.hid (by have := HK.out; omega), Lib.hid (by have := HK.out; omega), HJ1, HRR, Lib.hid (HIr.out.drewN _), Lib.hid (pw_below_drewN HBr.out _), Lib.hid (keep_drewN HKr.out _)⟩
        · have HRR : Hid (R = (0, 271)) := Lib.hid (by rw [HRY.out]; show startL (83 :: _) _ _ = _; rw [startL, if_neg hy]; rfl)
          have y1 : (y == 83) = false := by rw [beq_eq_false_iff_ne]; exact hy
          have y2 : (y != 83) = true := by rw [bne_iff_ne]; exact hy
          clear hy
          go_wp2
          go_quiet (fail)
          go_wp2_with fail
          go_at_call 63
          refine (dump_reader_fail.calls g bs 0 0 271 0 0 271 w0 _ (by first | exact HIr.out | exact HIr.out.drewN _) (by first | exact HBr.out | exact pw_below_drewN HBr.out _) rfl).mono ?_
          rintro e w1 ⟨rfl, h1, h2, h3⟩
          have H1 := Lib.hid h1
          have H2 := Lib.hid h2
          have H3 := Lib.hid (show KeepBut w w1 g none from (by first | exact HKr.out.trans h3 (.inl rfl) | exact (keep_drewN HKr.out _).trans h3 (.inl rfl)))
          obtain ⟨A', c', hb', -, -⟩ := h1
          have d2 := cellS123_2 hb'
          clear h2 h3 hb'
          go_wp2
          refine bodyPost_ret (results_none rfl _ _ _) rfl ?_
          rw [HRR.out]
          exact ⟨rfl, H1.out, H2.out, H3.out⟩
      · have e0 : bs.drop 0 = [] := List.drop_of_length_le (by omega)
        have HRR : Hid (R = (0, 270)) := Lib.hid (by rw [HR.out, e0]; rfl)
        clear e0
        have HL : Hid (bs.length = 0) := Lib.hid (by have h := HJ.out; omega)
        have hn : ((0 : Int) == (bs.length : Int)) = true := by rw [beq_iff_eq]; have := HL.out; omega
        clear hl
        go_wp2_with fail
        go_at_call 63
        refine (dump_reader_fail.calls g bs 0 0 270 0 0 270 w0 _ (by first | exact HIr.out | exact HIr.out.drewN _) (by first | exact HBr.out | exact pw_below_drewN HBr.out _) rfl).mono ?_
        rintro e w1 ⟨rfl, h1, h2, h3⟩
        have H1 := Lib.hid h1
        have H2 := Lib.hid h2
        have H3 := Lib.hid (show KeepBut w w1 g none from (by first | exact HKr.out.trans h3 (.inl rfl) | exact (keep_drewN HKr.out _).trans h3 (.inl rfl)))
        obtain ⟨A', c', hb', -, -⟩ := h1
        have d2 := cellS123_2 hb'
        clear h2 h3 hb'
        go_wp2
        refine bodyPost_ret (results_none rfl _ _ _) rfl ?_
        rw [HRR.out]
        exact ⟨rfl, H1.out, H2.out, H3.out⟩
    · by_cases hl : 1 < bs.length
      · obtain ⟨ad, rfl, hx⟩ := Kd.at_int HC.out (1 : Int) (by omega) (by omega)
        have hn : ((1 : Int) == (bs.length : Int)) = false := by rw [beq_eq_false_iff_ne]; omega
        have b1 : (1 : Int) < (bs.length : Int) := by omega
        have hd := drop_at bs 1 hl
        have HRY : Hid (R = startL ([83, 72, 85, 49].drop 1) ((1 : Nat) : Int) (rd bs (1 : Int) :: bs.drop (1 + 1))) := Lib.hid (by rw [HR.out, hd]; rfl)
        have HJ1 := Lib.hid (show 1 + 1 ≤ bs.length by omega)
        clear hd HR
        have hx' : wr.cell? ⟨ad.block, ad.off + 1, none⟩ = some (.int .u8 (rd bs (1 : Int))) := by simpa [Addr.add] using hx
        clear hx
        have hm : ∀ h, (((⟨#[83, 72, 85, 49]⟩ : ByteArray)[1]'h).toNat : Int) = 72 := fun _ => rfl
        generalize rd bs (1 : Int) = y at *
        by_cases hy : y = 72
        · have HRR : Hid (R = startL ([83, 72, 85, 49].drop 2) ((2 : Nat) : Int) (bs.drop 2)) := Lib.hid (by rw [HRY.out, hy]; rfl)
          have y1 : (y == 72) = true := by rw [beq_iff_eq]; exact hy
          have y2 : (y != 72) = false := by rw [bne_eq_false_iff_eq]; exact hy
          obtain rfl := hy
          go_wp2
          go_quiet (fail)
          go_wp2
          go_roundg (gk - 1)
          case measure => have := HK0.out; omega
          case rel => exact ⟨2, rfl, Lib.hid (by have := HK.out; omega), Lib.hid (by have := HK.out; omega), HJ1, HRR, Lib.hid (HIr.out.drewN _), Lib.hid (pw_below_drewN HBr.out _), Lib.hid (keep_drewN HKr.out _)⟩
        · have HRR : Hid (R = (1, 271)) := Lib.hid (by rw [HRY.out]; show startL (72 :: _) _ _ = _; rw [startL, if_neg hy]; rfl)
          have y1 : (y == 72) = false := by rw [beq_eq_false_iff_ne]; exact hy
          have y2 : (y != 72) = true := by rw [bne_iff_ne]; exact hy
          clear hy
          go_wp2
          go_quiet (fail)
          go_wp2_with fail
          go_at_call 63
          refine (dump_reader_fail.calls g bs 0 0 271 1 1 271 w0 _ (by first | exact HIr.out | exact HIr.out.drewN _) (by first | exact HBr.out | exact pw_below_drewN HBr.out _) rfl).mono ?_
          rintro e w1 ⟨rfl, h1, h2, h3⟩
          have H1 := Lib.hid h1
          have H2 := Lib.hid h2
          have H3 := Lib.hid (show KeepBut w w1 g none from (by first | exact HKr.out.trans h3 (.inl rfl) | exact (keep_drewN HKr.out _).trans h3 (.inl rfl)))
          obtain ⟨A', c', hb', -, -⟩ := h1
          have d2 := cellS123_2 hb'
          clear h2 h3 hb'
          go_wp2
          refine bodyPost_ret (results_none rfl _ _ _) rfl ?_
          rw [HRR.out]
          exact ⟨rfl, H1.out, H2.out, H3.out⟩
      · have e0 : bs.drop 1 = [] := List.drop_of_length_le (by omega)
        have HRR : Hid (R = (1, 270)) := Lib.hid (by rw [HR.out, e0]; rfl)
        clear e0
        have HL : Hid (bs.length = 1) := Lib.hid (by have h := HJ.out; omega)
        have hn : ((1 : Int) == (bs.length : Int)) = true := by rw [beq_iff_eq]; have := HL.out; omega
        clear hl
        go_wp2_with fail
        go_at_call 63
        refine (dump_reader_fail.calls g bs 0 0 270 1 1 270 w0 _ (by first | exact HIr.out | exact HIr.out.drewN _) (by first | exact HBr.out | exact pw_below_drewN HBr.out _) rfl).mono ?_
        rintro e w1 ⟨rfl, h1, h2, h3⟩
        have H1 := Lib.hid h1
        have H2 := Lib.hid h2
        have H3 := Lib.hid (show KeepBut w w1 g none from (by first | exact HKr.out.trans h3 (.inl rfl) | exact (keep_drewN HKr.out _).trans h3 (.inl rfl)))
        obtain ⟨A', c', hb', -, -⟩ := h1
        have d2 := cellS123_2 hb'
        clear h2 h3 hb'
        go_wp2
        refine bodyPost_ret (results_none rfl _ _ _) rfl ?_
        rw [HRR.out]
        exact ⟨rfl, H1.out, H2.out, H3.out⟩
    · by_cases hl : 2 < bs.length
      · obtain ⟨ad, rfl, hx⟩ := Kd.at_int HC.out (2 : Int) (by omega) (by omega)
        have hn : ((2 : Int) == (bs.length : Int)) = false := by rw [beq_eq_false_iff_ne]; omega
        have b1 : (2 : Int) < (bs.length : Int) := by omega
        have hd := drop_at bs 2 hl
        have HRY : Hid (R = startL ([83, 72, 85, 49].drop 2) ((2 : Nat) : Int) (rd bs (2 : Int) :: bs.drop (2 + 1))) := Lib.hid (by rw [HR.out, hd]; rfl)
        have HJ1 := Lib.hid (show 2 + 1 ≤ bs.length by omega)
        clear hd HR
        have hx' : wr.cell? ⟨ad.block, ad.off + 2, none⟩ = some (.int .u8 (rd bs (2 : Int))) := by simpa [Addr.add] using hx
        clear hx
        have hm : ∀ h, (((⟨#[83, 72, 85, 49]⟩ : ByteArray)[2]'h).toNat : Int) = 85 := fun _ => rfl
        generalize rd bs (2 : Int) = y at *
        by_cases hy : y = 85
        · have HRR : Hid (R = startL ([83, 72, 85, 49].drop 3) ((3 : Nat) : Int) (bs.drop 3)) := Lib.hid (by rw [HRY.out, hy]; rfl)
          have y1 : (y == 85) = true := by rw [beq_iff_eq]; exact hy
          have y2 : (y != 85) = false := by rw [bne_eq_false_iff_eq]; exact hy
          obtain rfl := hy
          go_wp2
          go_quiet (fail)
          go_wp2
          go_roundg (gk - 1)
          case measure => have := HK0.out; omega
          case rel => exact ⟨3, rfl, Lib.hid (by have := HK.out; omega), Lib.hid (by have := HK.out; omega), HJ1, HRR, Lib.hid (HIr.out.drewN _), Lib.hid (pw_below_drewN HBr.out _), Lib.hid (keep_drewN HKr.out _)⟩
        · have HRR : Hid (R = (2, 271)) := Lib.hid (by rw [HRY.out]; show startL (85 :: _) _ _ = _; rw [startL, if_neg hy]; rfl)
          have y1 : (y == 85) = false := by rw [beq_eq_false_iff_ne]; exact hy
          have y2 : (y != 85) = true := by rw [bne_iff_ne]; exact hy
          clear hy
          go_wp2
          go_quiet (fail)
          go_wp2_with fail
          go_at_call 63
          refine (dump_reader_fail.calls g bs 0 0 271 2 2 271 w0 _ (by first | exact HIr.out | exact HIr.out.drewN _) (by first | exact HBr.out | exact pw_below_drewN HBr.out _) rfl).mono ?_
          rintro e w1 ⟨rfl, h1, h2, h3⟩
          have H1 := Lib.hid h1
          have H2 := Lib.hid h2
          have H3 := Lib.hid (show KeepBut w w1 g none from (by first | exact HKr.out.trans h3 (.inl rfl) | exact (keep_drewN HKr.out _).trans h3 (.inl rfl)))
          obtain ⟨A', c', hb', -, -⟩ := h1
          have d2 := cellS123_2 hb'
          clear h2 h3 hb'
          go_wp2
          refine bodyPost_ret (results_none rfl _ _ _) rfl ?_
          rw [HRR.out]
          exact ⟨rfl, H1.out, H2.out, H3.out⟩
      · have e0 : bs.drop 2 = [] := List.drop_of_length_le (by omega)
        have HRR : Hid (R = (2, 270)) := Lib.hid (by rw [HR.out, e0]; rfl)
        clear e0
        have HL : Hid (bs.length = 2) := Lib.hid (by have h := HJ.out; omega)
        have hn : ((2 : Int) == (bs.length : Int)) = true := by rw [beq_iff_eq]; have := HL.out; omega
        clear hl
        go_wp2_with fail
        go_at_call 63
        refine (dump_reader_fail.calls g bs 0 0 270 2 2 270 w0 _ (by first | exact HIr.out | exact HIr.out.drewN _) (by first | exact HBr.out | exact pw_below_drewN HBr.out _) rfl).mono ?_
        rintro e w1 ⟨rfl, h1, h2, h3⟩
        have H1 := Lib.hid h1
        have H2 := Lib.hid h2
        have H3 := Lib.hid (show KeepBut w w1 g none from (by first | exact HKr.out.trans h3 (.inl rfl) | exact (keep_drewN HKr.out _).trans h3 (.inl rfl)))
        obtain ⟨A', c', hb', -, -⟩ := h1
        have d2 := cellS123_2 hb'
        clear h2 h3 hb'
        go_wp2
        refine bodyPost_ret (results_none rfl _ _ _) rfl ?_
        rw [HRR.out]
        exact ⟨rfl, H1.out, H2.out, H3.out⟩
    · by_cases hl : 3 < bs.length
      · obtain ⟨ad, rfl, hx⟩ := Kd.at_int HC.out (3 : Int) (by omega) (by omega)
        have hn : ((3 : Int) == (bs.length : Int)) = false := by rw [beq_eq_false_iff_ne]; omega
        have b1 : (3 : Int) < (bs.length : Int) := by omega
        have hd := drop_at bs 3 hl
        have HRY : Hid (R = startL ([83, 72, 85, 49].drop 3) ((3 : Nat) : Int) (rd bs (3 : Int) :: bs.drop (3 + 1))) := Lib.hid (by rw [HR.out, hd]; rfl)
        have HJ1 := Lib.hid (show 3 + 1 ≤ bs.length by omega)
        clear hd HR
        have hx' : wr.cell? ⟨ad.block, ad.off + 3, none⟩ = some (.int .u8 (rd bs (3 : Int))) := by simpa [Addr.add] using hx
        clear hx
        have hm : ∀ h, (((⟨#[83, 72, 85, 49]⟩ : ByteArray)[3]'h).toNat : Int) = 49 := fun _ => rfl
        generalize rd bs (3 : Int) = y at *
        by_cases hy : y = 49
        · have HRR : Hid (R = startL ([83, 72, 85, 49].drop 4) ((4 : Nat) : Int) (bs.drop 4)) := Lib.hid (by rw [HRY.out, hy]; rfl)
          have y1 : (y == 49) = true := by rw [beq_iff_eq]; exact hy
          have y2 : (y != 49) = false := by rw [bne_eq_false_iff_eq]; exact hy
          obtain rfl := hy
          go_wp2
          go_quiet (fail)
          go_wp2
          go_roundg (gk - 1)
          case measure => have := HK0.out; omega
          case rel => exact ⟨4, rfl, Lib.hid (by have := HK.out; omega), Lib.hid (by have := HK.out; omega), HJ1, HRR, Lib.hid (HIr.out.drewN _), Lib.hid (pw_below_drewN HBr.out _), Lib.hid (keep_drewN HKr.out _)⟩
        · have HRR : Hid (R = (3, 271)) := Lib.hid (by rw [HRY.out]; show startL (49 :: _) _ _ = _; rw [startL, if_neg hy]; rfl)
          have y1 : (y == 49) = false := by rw [beq_eq_false_iff_ne]; exact hy
          have y2 : (y != 49) = true := by rw [bne_iff_ne]; exact hy
          clear hy
          go_wp2
          go_quiet (fail)
          go_wp2_with fail
          go_at_call 63
          refine (dump_reader_fail.calls g bs 0 0 271 3 3 271 w0 _ (by first | exact HIr.out | exact HIr.out.drewN _) (by first | exact HBr.out | exact pw_below_drewN HBr.out _) rfl).mono ?_
          rintro e w1 ⟨rfl, h1, h2, h3⟩
          have H1 := Lib.hid h1
          have H2 := Lib.hid h2
          have H3 := Lib.hid (show KeepBut w w1 g none from (by first | exact HKr.out.trans h3 (.inl rfl) | exact (keep_drewN HKr.out _).trans h3 (.inl rfl)))
          obtain ⟨A', c', hb', -, -⟩ := h1
          have d2 := cellS123_2 hb'
          clear h2 h3 hb'
          go_wp2
          refine bodyPost_ret (results_none rfl _ _ _) rfl ?_
          rw [HRR.out]
          exact ⟨rfl, H1.out, H2.out, H3.out⟩
      · have e0 : bs.drop 3 = [] := List.drop_of_length_le (by omega)
        have HRR : Hid (R = (3, 270)) := Lib.hid (by rw [HR.out, e0]; rfl)
        clear e0
        have HL : Hid (bs.length = 3) := Lib.hid (by have h := HJ.out; omega)
        have hn : ((3 : Int) == (bs.length : Int)) = true := by rw [beq_iff_eq]; have := HL.out; omega
        clear hl
        go_wp2_with fail
        go_at_call 63
        refine (dump_reader_fail.calls g bs 0 0 270 3 3 270 w0 _ (by first | exact HIr.out | exact HIr.out.drewN _) (by first | exact HBr.out | exact pw_below_drewN HBr.out _) rfl).mono ?_
        rintro e w1 ⟨rfl, h1, h2, h3⟩
        have H1 := Lib.hid h1
        have H2 := Lib.hid h2
        have H3 := Lib.hid (show KeepBut w w1 g none from (by first | exact HKr.out.trans h3 (.inl rfl) | exact (keep_drewN HKr.out _).trans h3 (.inl rfl)))
        obtain ⟨A', c', hb', -, -⟩ := h1
        have d2 := cellS123_2 hb'
        clear h2 h3 hb'
        go_wp2
        refine bodyPost_ret (results_none rfl _ _ _) rfl ?_
        rw [HRR.out]
        exact ⟨rfl, H1.out, H2.out, H3.out⟩
    · go_wp2
      go_end0
      rw [HR.out]
      exact ⟨rfl, HIr.out.set_1 4, HBr.out.setCell HIr.out.ge _, HKr.out.set_ _ _⟩
end Go.Proofs.Ythblincfnfpgbaa.Q
namespace Go.Proofs.Ythblincfnfpgbaa.Q
open Go.RowKit Go.Proofs.YthblincfnfpgbaaW.PrintWords Go.Proofs.YthblincfnfpgbaaW.PrintLast Go.Proofs.YthblincfnfpgbaaW.PrintMore
set_option linter.unusedVariables false
set_option linter.unusedSimpArgs false
/-- A number at a state of the reader. -/
def numX (bs : List Int) (at' e : Int) : Int × Int × Int := if e = 0 then numR 0 at' 0 (bs.drop at'.toNat) else (0, at', e)
theorem numR_err (l : List Int) : ∀ (i : Nat) (a v : Int), 0 ≤ (numR i a v l).2.2 := by
  induction l with
  | nil => intro i a v; rw [numR]; show (0 : Int) ≤ 270; decide
  | cons c l ih =>
    intro i a v
    rw [numR]
    split
    · show (0 : Int) ≤ 271; decide
    · split
      · exact Int.le_refl _
      · exact ih _ _ _
theorem numR_place (l : List Int) : ∀ (i : Nat) (a v : Int), a ≤ (numR i a v l).2.1 ∧ (numR i a v l).2.1 ≤ a + l.length ∧ ((numR i a v l).2.2 = 0 → a < (numR i a v l).2.1) := by
  induction l with
  | nil => intro i a v; rw [numR]; simp
  | cons c l ih =>
    intro i a v
    rw [numR]
    split
    · simp
      omega
    · split
      · simp
        omega
      · have := ih (i + 1) (a + 1) (v + c % 128 * 2 ^ (7 * i))
        simp only [List.length_cons]
        omega
theorem numR_val (l : List Int) (hl : ∀ c ∈ l, 0 ≤ c ∧ c < 256) : ∀ (i : Nat) (a v : Int), i ≤ 9 → 0 ≤ v → v < 2 ^ (7 * i) → 0 ≤ (numR i a v l).1 ∧ (numR i a v l).1 < 18446744073709551616 := by
  have big : ∀ (i : Nat) (v : Int), i ≤ 9 → v < 2 ^ (7 * i) → v < 18446744073709551616 := by
    intro i v hi hv
    have h1 : (2 : Int) ^ (7 * i) ≤ 2 ^ 63 := by exact_mod_cast Nat.pow_le_pow_right (n := 2) (by decide) (show 7 * i ≤ 63 by omega)
    have h3 : (2 : Int) ^ 63 = 9223372036854775808 := by decide
    omega
  induction l with
  | nil => intro i a v hi h0 h1; rw [numR]; exact ⟨h0, big i v hi h1⟩
  | cons c l ih =>
    intro i a v hi h0 h1
    have hc := hl c (by simp)
    have hn := acc7_lt i v c h0 h1
    rw [numR]
    split
    · exact ⟨h0, big i v hi h1⟩
    · rename_i hb
      split
      · refine ⟨hn.1, ?_⟩
        by_cases h9 : i = 9
        · subst h9
          have : c ≤ 1 := by by_cases h : 1 < c; exact absurd (.inr ⟨rfl, h⟩) hb; omega
          have h3 : (2 : Int) ^ (7 * 9) = 9223372036854775808 := by decide
          rw [h3] at h1 ⊢
          show v + c % 128 * 9223372036854775808 < 18446744073709551616
          omega
        · exact big (i + 1) _ (by omega) hn.2
      · rename_i h128
        have h9 : i ≠ 9 := fun h => hb (.inr ⟨h, by omega⟩)
        exact ih (fun d hd => hl d (by simp [hd])) (i + 1) (a + 1) _ (by omega) hn.1 hn.2
set_option maxHeartbeats 4000000 in
set_option maxRecDepth 100000 in
theorem rdnumX_c (g : Nat) (bs : List Int) (at' e : Int) (w0 w : World) (hI : IsS123 w0 w g bs at' e) (hB : Below w0.heap.size w0 w) (ha : e = 0 → 0 ≤ at' ∧ at' ≤ bs.length) (hbs : ∀ c ∈ bs, 0 ≤ c ∧ c < 256) :
    Calls Try.prog 61 #[.pointer (some ⟨g, 0, none⟩)] w fun en w' => en = .returned (.int .u64 (numX bs at' e).1) ∧ IsS123 w0 w' g bs (numX bs at' e).2.1 (numX bs at' e).2.2 ∧ Below w0.heap.size w0 w' ∧ KeepBut w w' g none := by
  by_cases he : e = 0
  · subst he
    obtain ⟨n, rfl⟩ := Int.eq_ofNat_of_zero_le (ha rfl).1
    have := rdnum_c g bs n w0 w hI hB (by have := (ha rfl).2; omega) hbs
    simpa [numX] using this
  · have e1 : numX bs at' e = (0, at', e) := by unfold numX; rw [if_neg he]
    rw [e1]
    have hI' := Lib.hid hI
    obtain ⟨A, c, hb, hg, hC⟩ := hI
    have c1 := cellS123_1 hb
    have c2 := cellS123_2 hb
    have HB := Lib.hid hB
    have e2 : (e == 0) = false := by rw [beq_eq_false_iff_ne]; exact he
    clear hb hg hC hB e1 ha he
    go_enter Try.func61, Try.ntmps61
    go_wp2
    go_step3
    go_wp2
    go_step3
    go_wp2
    refine wp_loop_rounds 1 ?_
    rw [rounds_succ]
    go_wp2
    rw [Exit.noGoto_ret]
    go_ret
    exact ⟨rfl, hI'.out, HB.out, KeepBut.refl _ _ _⟩
/-- A pair behind another one, at a state of the reader: its key and value, the state then. -/
def pairX (bs : List Int) (at' e : Int) (last : Int) (first : Bool) : (Int × Int) × Int × Int :=
  let d := numX bs at' e
  let s : Int × Int := if first = false ∧ d.2.2 = 0 ∧ (d.1 = 0 ∨ IntKind.u64.wrap (last + d.1) < last) then (at', 271) else (d.2.1, d.2.2)
  let v := numX bs s.1 s.2
  ((IntKind.u64.wrap (last + d.1), v.1), v.2.1, v.2.2)
theorem numX_ok {bs : List Int} {at' e : Int} (ha : e = 0 → 0 ≤ at' ∧ at' ≤ bs.length) : (numX bs at' e).2.2 = 0 → 0 ≤ (numX bs at' e).2.1 ∧ (numX bs at' e).2.1 ≤ bs.length := by
  unfold numX
  split
  · rename_i he
    intro _
    have h1 := numR_place (bs.drop at'.toNat) 0 at' 0
    have h2 := ha he
    rw [List.length_drop] at h1
    omega
  · rename_i he
    intro h
    exact absurd h he
theorem numX_val {bs : List Int} {at' e : Int} (hbs : ∀ c ∈ bs, 0 ≤ c ∧ c < 256) : 0 ≤ (numX bs at' e).1 ∧ (numX bs at' e).1 < 18446744073709551616 := by
  unfold numX
  split
  · exact numR_val _ (fun c hc => hbs c (List.mem_of_mem_drop hc)) 0 at' 0 (by omega) (by omega) (by decide)
  · simp
theorem numX_stay {bs : List Int} {at' e : Int} (he : e ≠ 0) : numX bs at' e = (0, at', e) := by unfold numX; rw [if_neg he]
set_option maxHeartbeats 4000000 in
set_option maxRecDepth 100000 in
theorem pair_c (g : Nat) (bs : List Int) (at' e k v : Int) (first : Bool) (w0 w : World) (hI : IsS123 w0 w g bs at' e) (hB : Below w0.heap.size w0 w) (ha : e = 0 → 0 ≤ at' ∧ at' ≤ bs.length) (hbs : ∀ c ∈ bs, 0 ≤ c ∧ c < 256) (hk0 : 0 ≤ k) (hk1 : k < 18446744073709551616) :
    Calls Try.prog 62 #[.pointer (some ⟨g, 0, none⟩), .agg #[.int .u64 k, .int .u64 v], .bool first] w fun en w' => en = .returned (.agg #[.int .u64 (pairX bs at' e k first).1.1, .int .u64 (pairX bs at' e k first).1.2]) ∧ IsS123 w0 w' g bs (pairX bs at' e k first).2.1 (pairX bs at' e k first).2.2 ∧ Below w0.heap.size w0 w' ∧ KeepBut w w' g none := by
  have hu82 := Try.underlying82
  have hu123 := Try.underlying123
  have HI := Lib.hid hI
  have hgl := hI.lt
  obtain ⟨A, c, hb, hg, hC⟩ := hI
  have c1 := cellS123_1 hb
  have HB := Lib.hid hB
  have HBS := Lib.hid hbs
  have HA := Lib.hid ha
  clear hb hg hC hB hbs ha
  obtain ⟨R, hR⟩ : ∃ R, R = pairX bs at' e k first := ⟨_, rfl⟩
  rw [← hR]
  have HR0 := Lib.hid hR
  clear hR
  go_enter Try.func62, Try.ntmps62
  go_wp2_with fail
  go_at_call 61
  refine (rdnumX_c g bs at' e w0 _ ((HI.out.alloc _).alloc _) ((HB.out.alloc HB.out.size _).alloc (by have := HB.out.size; simp; omega) _) HA.out HBS.out).mono ?_
  rintro en w2 ⟨rfl, h1, h2, h3⟩
  have x4 : w2.heap[w.heap.size]? = some (.cells #[.int .u64 k, .int .u64 v] 82 (0, 0)) := h3.blk (blk_alloc (heap_alloc_new w _) _) (by omega) (by simp)
  have x6 : w2.heap[w.heap.size + 1]? = some (.cells #[.int .u64 0, .int .u64 0] 82 (0, 0)) := h3.blk (by have := heap_alloc_new (w.alloc (.cells #[.int .u64 k, .int .u64 v] 82)) (.cells #[.int .u64 0, .int .u64 0] 82); simpa using this) (by omega) (by simp)
  have H1 := Lib.hid h1
  have H2 := Lib.hid h2
  have H3 := Lib.hid (show KeepBut w w2 g none from (keep_alloc (keep_alloc (KeepBut.refl w g none) _) _).trans h3 (.inl rfl))
  have X4 := Lib.hid x4
  have X6 := Lib.hid x6
  obtain ⟨A', c', hb', -, -⟩ := h1
  have d2 := cellS123_2 hb'
  have hk : w2.cell? ⟨w.heap.size, 0, none⟩ = some (.int .u64 k) := (blk_cell x4 0).trans rfl
  have hv := numX_val (at' := at') (e := e) HBS.out
  have HO := Lib.hid (numX_ok (bs := bs) (e := e) HA.out)
  clear h2 h3 x4 x6 hb'
  have hR := HR0.out
  unfold pairX at hR
  dsimp only at hR
  clear HR0
  generalize numX bs at' e = N at *
  obtain ⟨d, a1, e1⟩ := N
  dsimp only at *
  obtain ⟨hd0, hd1⟩ := hv
  obtain ⟨s, hs⟩ : ∃ s : Int × Int, s = if first = false ∧ e1 = 0 ∧ (d = 0 ∨ IntKind.u64.wrap (k + d) < k) then (at', 271) else (a1, e1) := ⟨_, rfl⟩
  rw [← hs] at hR
  have HR := Lib.hid hR
  have HS := Lib.hid hs
  clear hR hs
  have hc : (first = true ∧ s = (a1, e1)) ∨ (first = false ∧ (e1 == 0) = false ∧ s = (a1, e1)) ∨ (first = false ∧ e1 = 0 ∧ (d == 0) = true ∧ s = (at', 271)) ∨ (first = false ∧ e1 = 0 ∧ (d == 0) = false ∧ IntKind.u64.wrap (k + d) < k ∧ s = (at', 271)) ∨ (first = false ∧ e1 = 0 ∧ (d == 0) = false ∧ ¬ IntKind.u64.wrap (k + d) < k ∧ s = (a1, 0)) := by
    have h := HS.out
    by_cases h1 : first = false
    · by_cases h2 : e1 = 0
      · by_cases h3 : d = 0
        · exact .inr (.inr (.inl ⟨h1, h2, by rw [beq_iff_eq]; exact h3, by rw [h, if_pos ⟨h1, h2, .inl h3⟩]⟩))
        · by_cases h4 : IntKind.u64.wrap (k + d) < k
          · exact .inr (.inr (.inr (.inl ⟨h1, h2, by rw [beq_eq_false_iff_ne]; exact h3, h4, by rw [h, if_pos ⟨h1, h2, .inr h4⟩]⟩)))
          · exact .inr (.inr (.inr (.inr ⟨h1, h2, by rw [beq_eq_false_iff_ne]; exact h3, h4, by rw [h, if_neg (fun hh => hh.2.2.elim h3 h4), h2]⟩)))
      · exact .inr (.inl ⟨h1, by rw [beq_eq_false_iff_ne]; exact h2, by rw [h, if_neg (fun hh => h2 hh.2.1)]⟩)
    · exact .inl ⟨by simpa using h1, by rw [h, if_neg (fun hh => h1 hh.1)]⟩
  rcases hc with ⟨rfl, rfl⟩ | ⟨rfl, q2, rfl⟩ | ⟨rfl, rfl, q3, rfl⟩ | ⟨rfl, rfl, q3, q4, rfl⟩ | ⟨rfl, rfl, q3, q4, rfl⟩
  · go_wp2_with fail
    have k60 : w2.cell? ⟨w.heap.size + 1, 0, none⟩ = some (.int .u64 0) := (blk_cell X6.out 0).trans rfl
    have k61 : w2.cell? ⟨w.heap.size + 1, 1, none⟩ = some (.int .u64 0) := (blk_cell X6.out 1).trans rfl
    have f60 : w2.frozen? ⟨w.heap.size + 1, 0, none⟩ = false := blk_frozen X6.out 0
    have f61 : w2.frozen? ⟨w.heap.size + 1, 1, none⟩ = false := blk_frozen X6.out 1
    go_region_with ((go_at_call 61; refine (rdnumX_c g bs a1 e1 w0 _ (by first | exact H1.out | exact H1.out.drew) (by exact H2.out.drew) (by first | exact HO.out | exact fun _ => HO.out trivial) HBS.out).mono ?_; rintro en w5 ⟨rfl, h1, h2, h3⟩; have x6' := h3.blk X6.out (by omega) (by simp); have hk5 := keep_cell h3 hk (by simp; omega); have k65 : w5.cell? ⟨w.heap.size + 1, 0, none⟩ = some (.int .u64 0) := (blk_cell x6' 0).trans rfl; have k65' : w5.cell? ⟨w.heap.size + 1, 1, none⟩ = some (.int .u64 0) := (blk_cell x6' 1).trans rfl; have f65 := blk_frozen x6' 0; have f65' := blk_frozen x6' 1; have J1 := Lib.hid h1; have J2 := Lib.hid h2; have J3 := Lib.hid h3; have J6 := Lib.hid x6'; clear h1 h2 h3 x6'))
    all_goals go_wp2_with fail
    all_goals
      refine bodyPost_ret (v := .agg #[.int .u64 (IntKind.u64.wrap (k + d)), .int .u64 (numX bs (a1) (e1)).1]) (by simp [results, Try.results62, go_sem, k65, k65', f65, f65', J6.out]) rfl ?_
      have hRR := HR.out
      rw [hRR]
      have hng : g ≠ w.heap.size + 1 := by omega
      exact ⟨rfl, (J1.out.far (p := ⟨w.heap.size + 1, 0, none⟩) hng _).far (p := ⟨w.heap.size + 1, 1, none⟩) hng _, (J2.out.setCell (by have := HB.out.size; simp; omega) _).setCell (by have := HB.out.size; simp; omega) _, keep_far (keep_far (H3.out.trans J3.out (.inl rfl)) (p := ⟨w.heap.size + 1, 0, none⟩) (by simp) _) (p := ⟨w.heap.size + 1, 1, none⟩) (by simp) _⟩
  · go_wp2_with fail
    have k60 : w2.cell? ⟨w.heap.size + 1, 0, none⟩ = some (.int .u64 0) := (blk_cell X6.out 0).trans rfl
    have k61 : w2.cell? ⟨w.heap.size + 1, 1, none⟩ = some (.int .u64 0) := (blk_cell X6.out 1).trans rfl
    have f60 : w2.frozen? ⟨w.heap.size + 1, 0, none⟩ = false := blk_frozen X6.out 0
    have f61 : w2.frozen? ⟨w.heap.size + 1, 1, none⟩ = false := blk_frozen X6.out 1
    go_region_with ((go_at_call 61; refine (rdnumX_c g bs a1 e1 w0 _ (by first | exact H1.out | exact H1.out.drew) (by exact H2.out.drew) (by first | exact HO.out | exact fun _ => HO.out trivial) HBS.out).mono ?_; rintro en w5 ⟨rfl, h1, h2, h3⟩; have x6' := h3.blk X6.out (by omega) (by simp); have hk5 := keep_cell h3 hk (by simp; omega); have k65 : w5.cell? ⟨w.heap.size + 1, 0, none⟩ = some (.int .u64 0) := (blk_cell x6' 0).trans rfl; have k65' : w5.cell? ⟨w.heap.size + 1, 1, none⟩ = some (.int .u64 0) := (blk_cell x6' 1).trans rfl; have f65 := blk_frozen x6' 0; have f65' := blk_frozen x6' 1; have J1 := Lib.hid h1; have J2 := Lib.hid h2; have J3 := Lib.hid h3; have J6 := Lib.hid x6'; clear h1 h2 h3 x6'))
    all_goals go_wp2_with fail
    all_goals
      refine bodyPost_ret (v := .agg #[.int .u64 (IntKind.u64.wrap (k + d)), .int .u64 (numX bs (a1) (e1)).1]) (by simp [results, Try.results62, go_sem, k65, k65', f65, f65', J6.out]) rfl ?_
      have hRR := HR.out
      rw [hRR]
      have hng : g ≠ w.heap.size + 1 := by omega
      exact ⟨rfl, (J1.out.far (p := ⟨w.heap.size + 1, 0, none⟩) hng _).far (p := ⟨w.heap.size + 1, 1, none⟩) hng _, (J2.out.setCell (by have := HB.out.size; simp; omega) _).setCell (by have := HB.out.size; simp; omega) _, keep_far (keep_far (H3.out.trans J3.out (.inl rfl)) (p := ⟨w.heap.size + 1, 0, none⟩) (by simp) _) (p := ⟨w.heap.size + 1, 1, none⟩) (by simp) _⟩
  · go_wp2_with fail
    go_at_call 63
    refine (dump_reader_fail.calls g bs _ 0 271 at' at' 271 w0 _ H1.out H2.out rfl).mono ?_
    rintro en w3 ⟨rfl, h1, h2, h3⟩
    have x6 := h3.blk X6.out (by omega) (by simp)
    have hk3 := keep_cell h3 hk (by simp; omega)
    replace X6 := Lib.hid x6
    replace H1 := Lib.hid h1
    replace H2 := Lib.hid h2
    replace H3 := Lib.hid (H3.out.trans h3 (.inl rfl))
    have HO := Lib.hid (show (271 : Int) = 0 → 0 ≤ at' ∧ at' ≤ bs.length from fun h => absurd h (by decide))
    clear h1 h2 h3 x6 hk d2
    have hk := hk3
    clear hk3
    go_wp2_with fail
    have k60 : w3.cell? ⟨w.heap.size + 1, 0, none⟩ = some (.int .u64 0) := (blk_cell X6.out 0).trans rfl
    have k61 : w3.cell? ⟨w.heap.size + 1, 1, none⟩ = some (.int .u64 0) := (blk_cell X6.out 1).trans rfl
    have f60 : w3.frozen? ⟨w.heap.size + 1, 0, none⟩ = false := blk_frozen X6.out 0
    have f61 : w3.frozen? ⟨w.heap.size + 1, 1, none⟩ = false := blk_frozen X6.out 1
    go_region_with ((go_at_call 61; refine (rdnumX_c g bs at' 271 w0 _ (by first | exact H1.out | exact H1.out.drew) (by exact H2.out.drew) (by first | exact HO.out | exact fun _ => HO.out trivial) HBS.out).mono ?_; rintro en w5 ⟨rfl, h1, h2, h3⟩; have x6' := h3.blk X6.out (by omega) (by simp); have hk5 := keep_cell h3 hk (by simp; omega); have k65 : w5.cell? ⟨w.heap.size + 1, 0, none⟩ = some (.int .u64 0) := (blk_cell x6' 0).trans rfl; have k65' : w5.cell? ⟨w.heap.size + 1, 1, none⟩ = some (.int .u64 0) := (blk_cell x6' 1).trans rfl; have f65 := blk_frozen x6' 0; have f65' := blk_frozen x6' 1; have J1 := Lib.hid h1; have J2 := Lib.hid h2; have J3 := Lib.hid h3; have J6 := Lib.hid x6'; clear h1 h2 h3 x6'))
    all_goals go_wp2_with fail
    all_goals
      refine bodyPost_ret (v := .agg #[.int .u64 (IntKind.u64.wrap (k + d)), .int .u64 (numX bs (at') (271)).1]) (by simp [results, Try.results62, go_sem, k65, k65', f65, f65', J6.out]) rfl ?_
      have hRR := HR.out
      rw [hRR]
      have hng : g ≠ w.heap.size + 1 := by omega
      exact ⟨rfl, (J1.out.far (p := ⟨w.heap.size + 1, 0, none⟩) hng _).far (p := ⟨w.heap.size + 1, 1, none⟩) hng _, (J2.out.setCell (by have := HB.out.size; simp; omega) _).setCell (by have := HB.out.size; simp; omega) _, keep_far (keep_far (H3.out.trans J3.out (.inl rfl)) (p := ⟨w.heap.size + 1, 0, none⟩) (by simp) _) (p := ⟨w.heap.size + 1, 1, none⟩) (by simp) _⟩
  · go_wp2_with fail
    go_at_call 63
    refine (dump_reader_fail.calls g bs _ 0 271 at' at' 271 w0 _ H1.out H2.out rfl).mono ?_
    rintro en w3 ⟨rfl, h1, h2, h3⟩
    have x6 := h3.blk X6.out (by omega) (by simp)
    have hk3 := keep_cell h3 hk (by simp; omega)
    replace X6 := Lib.hid x6
    replace H1 := Lib.hid h1
    replace H2 := Lib.hid h2
    replace H3 := Lib.hid (H3.out.trans h3 (.inl rfl))
    have HO := Lib.hid (show (271 : Int) = 0 → 0 ≤ at' ∧ at' ≤ bs.length from fun h => absurd h (by decide))
    clear h1 h2 h3 x6 hk d2
    have hk := hk3
    clear hk3
    go_wp2_with fail
    have k60 : w3.cell? ⟨w.heap.size + 1, 0, none⟩ = some (.int .u64 0) := (blk_cell X6.out 0).trans rfl
    have k61 : w3.cell? ⟨w.heap.size + 1, 1, none⟩ = some (.int .u64 0) := (blk_cell X6.out 1).trans rfl
    have f60 : w3.frozen? ⟨w.heap.size + 1, 0, none⟩ = false := blk_frozen X6.out 0
    have f61 : w3.frozen? ⟨w.heap.size + 1, 1, none⟩ = false := blk_frozen X6.out 1
    go_region_with ((go_at_call 61; refine (rdnumX_c g bs at' 271 w0 _ (by first | exact H1.out | exact H1.out.drew) (by exact H2.out.drew) (by first | exact HO.out | exact fun _ => HO.out trivial) HBS.out).mono ?_; rintro en w5 ⟨rfl, h1, h2, h3⟩; have x6' := h3.blk X6.out (by omega) (by simp); have hk5 := keep_cell h3 hk (by simp; omega); have k65 : w5.cell? ⟨w.heap.size + 1, 0, none⟩ = some (.int .u64 0) := (blk_cell x6' 0).trans rfl; have k65' : w5.cell? ⟨w.heap.size + 1, 1, none⟩ = some (.int .u64 0) := (blk_cell x6' 1).trans rfl; have f65 := blk_frozen x6' 0; have f65' := blk_frozen x6' 1; have J1 := Lib.hid h1; have J2 := Lib.hid h2; have J3 := Lib.hid h3; have J6 := Lib.hid x6'; clear h1 h2 h3 x6'))
    all_goals go_wp2_with fail
    all_goals
      refine bodyPost_ret (v := .agg #[.int .u64 (IntKind.u64.wrap (k + d)), .int .u64 (numX bs (at') (271)).1]) (by simp [results, Try.results62, go_sem, k65, k65', f65, f65', J6.out]) rfl ?_
      have hRR := HR.out
      rw [hRR]
      have hng : g ≠ w.heap.size + 1 := by omega
      exact ⟨rfl, (J1.out.far (p := ⟨w.heap.size + 1, 0, none⟩) hng _).far (p := ⟨w.heap.size + 1, 1, none⟩) hng _, (J2.out.setCell (by have := HB.out.size; simp; omega) _).setCell (by have := HB.out.size; simp; omega) _, keep_far (keep_far (H3.out.trans J3.out (.inl rfl)) (p := ⟨w.heap.size + 1, 0, none⟩) (by simp) _) (p := ⟨w.heap.size + 1, 1, none⟩) (by simp) _⟩
  · go_wp2_with fail
    have k60 : w2.cell? ⟨w.heap.size + 1, 0, none⟩ = some (.int .u64 0) := (blk_cell X6.out 0).trans rfl
    have k61 : w2.cell? ⟨w.heap.size + 1, 1, none⟩ = some (.int .u64 0) := (blk_cell X6.out 1).trans rfl
    have f60 : w2.frozen? ⟨w.heap.size + 1, 0, none⟩ = false := blk_frozen X6.out 0
    have f61 : w2.frozen? ⟨w.heap.size + 1, 1, none⟩ = false := blk_frozen X6.out 1
    go_region_with ((go_at_call 61; refine (rdnumX_c g bs a1 0 w0 _ (by first | exact H1.out | exact H1.out.drew) (by exact H2.out.drew) (by first | exact HO.out | exact fun _ => HO.out trivial) HBS.out).mono ?_; rintro en w5 ⟨rfl, h1, h2, h3⟩; have x6' := h3.blk X6.out (by omega) (by simp); have hk5 := keep_cell h3 hk (by simp; omega); have k65 : w5.cell? ⟨w.heap.size + 1, 0, none⟩ = some (.int .u64 0) := (blk_cell x6' 0).trans rfl; have k65' : w5.cell? ⟨w.heap.size + 1, 1, none⟩ = some (.int .u64 0) := (blk_cell x6' 1).trans rfl; have f65 := blk_frozen x6' 0; have f65' := blk_frozen x6' 1; have J1 := Lib.hid h1; have J2 := Lib.hid h2; have J3 := Lib.hid h3; have J6 := Lib.hid x6'; clear h1 h2 h3 x6'))
    all_goals go_wp2_with fail
    all_goals
      refine bodyPost_ret (v := .agg #[.int .u64 (IntKind.u64.wrap (k + d)), .int .u64 (numX bs (a1) (0)).1]) (by simp [results, Try.results62, go_sem, k65, k65', f65, f65', J6.out]) rfl ?_
      have hRR := HR.out
      rw [hRR]
      have hng : g ≠ w.heap.size + 1 := by omega
      exact ⟨rfl, (J1.out.far (p := ⟨w.heap.size + 1, 0, none⟩) hng _).far (p := ⟨w.heap.size + 1, 1, none⟩) hng _, (J2.out.setCell (by have := HB.out.size; simp; omega) _).setCell (by have := HB.out.size; simp; omega) _, keep_far (keep_far (H3.out.trans J3.out (.inl rfl)) (p := ⟨w.heap.size + 1, 0, none⟩) (by simp) _) (p := ⟨w.heap.size + 1, 1, none⟩) (by simp) _⟩
end Go.Proofs.Ythblincfnfpgbaa.Q
namespace Go.Proofs.Ythblincfnfpgbaa.Q
open Go.RowKit Go.Proofs.YthblincfnfpgbaaW.PrintWords
set_option linter.unusedVariables false
set_option linter.unusedSimpArgs false
theorem part5 (xs : Array Value) (i : Nat) (v : Value) (h : xs[i]? = some v) (w : World) : (part 5 xs i).run Try.prog w = .ok v w := by
  obtain ⟨hi, hv⟩ := Array.getElem?_eq_some_iff.1 h
  simp [part, isAgg, run_underlying Try.underlying5, h]
theorem items_cons (d : Nat) (xs ys : Array Value) (i : Nat) (is : List Nat) (a b : Int) (w : World) (h1 : xs[i * 1]? = some (.int .u8 a)) (h2 : ys[i * 1]? = some (.int .u8 b)) (r : Bool) (h : (Op.eqItems (d + 1) 5 1 xs ys is).run Try.prog w = .ok r w) :
    (Op.eqItems (d + 1) 5 1 xs ys (i :: is)).run Try.prog w = .ok ((a == b) && r) w := by
  rw [Op.eqItems]
  simp only [Sem.run_bind, part5 _ _ _ h1, part5 _ _ _ h2, Result.andThen_ok, run_equalIn_int w d 5 .u8 .u8 a b Try.underlying5]
  cases a == b
  · simp
  · simpa using h
theorem eq_arr4 (y0 y1 y2 y3 f0 f1 f2 f3 : Int) (w : World) : Sem.run Try.prog (Op.equalIn 10000 117 (.agg #[.int .u8 y0, .int .u8 y1, .int .u8 y2, .int .u8 y3]) (.agg #[.int .u8 f0, .int .u8 f1, .int .u8 f2, .int .u8 f3])) w = .ok ([y0, y1, y2, y3] == [f0, f1, f2, f3]) w := by
  obtain ⟨i0, hi, -, -, -⟩ := info_parts info5
  have e := run_equalIn_array (P := Try.prog) w 9999 #[.int .u8 y0, .int .u8 y1, .int .u8 y2, .int .u8 y3] #[.int .u8 f0, .int .u8 f1, .int .u8 f2, .int .u8 f3] Try.underlying117 hi
  have hc : Try.prog.cellsOf 5 = 1 := by kernel_rfl
  rw [hc] at e
  rw [show (10000 : Nat) = 9999 + 1 from rfl]
  refine e.trans ?_
  have h := items_cons 9998 #[.int .u8 y0, .int .u8 y1, .int .u8 y2, .int .u8 y3] #[.int .u8 f0, .int .u8 f1, .int .u8 f2, .int .u8 f3] 0 [1, 2, 3] y0 f0 w rfl rfl _
    (items_cons 9998 _ _ 1 [2, 3] y1 f1 w rfl rfl _ (items_cons 9998 _ _ 2 [3] y2 f2 w rfl rfl _ (items_cons 9998 _ _ 3 [] y3 f3 w rfl rfl true (by simp [Op.eqItems]))))
  rw [show List.range 4 = [0, 1, 2, 3] from rfl]
  refine h.trans ?_
  congr 1
end Go.Proofs.Ythblincfnfpgbaa.Q
namespace Go.Proofs.Ythblincfnfpgbaa.Q
open Go.RowKit Go.Proofs.YthblincfnfpgbaaW.PrintWords Go.Proofs.YthblincfnfpgbaaW.PrintLast Go.Proofs.YthblincfnfpgbaaW.PrintMore
set_option linter.unusedVariables false
set_option linter.unusedSimpArgs false
/-- The pairs, so many at most, at a state of the reader; the state then. -/
def decL (bs : List Int) : Nat → Int → Int → Int → Int → List S82 → List S82 × Int × Int
  | 0, _, at', e, _, acc => (acc, at', e)
  | k + 1, n, at', e, last, acc => if 0 < n ∧ e = 0 then decL bs k (IntKind.u64.wrap (n - 1)) (pairX bs at' e last ((acc.length : Int) == 0)).2.1 (pairX bs at' e last ((acc.length : Int) == 0)).2.2 (pairX bs at' e last ((acc.length : Int) == 0)).1.1 (acc ++ [⟨(pairX bs at' e last ((acc.length : Int) == 0)).1.1, (pairX bs at' e last ((acc.length : Int) == 0)).1.2⟩]) else (acc, at', e)
theorem decL_end (bs : List Int) (k : Nat) (n at' e last : Int) (acc : List S82) (h : ¬ (0 < n ∧ e = 0)) : decL bs k n at' e last acc = (acc, at', e) := by
  cases k with
  | zero => rfl
  | succ k => rw [decL, if_neg h]
/-- What is looked at behind the pairs. -/
def finX (bs : List Int) (at' e : Int) : Int × Int :=
  if e = 0 then (if (bs.length : Int) - at' < 4 then ((bs.length : Int), 270) else if ((bs.drop at'.toNat).take 4 == fixedS (sumS 2166136261 (bs.take at'.toNat))) = false then (at', 271) else if (bs.length : Int) - at' > 4 then (at' + 4, 272) else (at', 0)) else (at', e)
def decX (bs : List Int) : List S82 × Int × Int :=
  let s := startX bs
  let n := numX bs s.1 s.2
  let L := decL bs (bs.length + 1) n.1 n.2.1 n.2.2 0 []
  let f := finX bs L.2.1 L.2.2
  if f.2 = 0 then (L.1, 0, 0) else ([], f.2, f.1)
theorem startX_ok (bs : List Int) : (startX bs).2 = 0 → 0 ≤ (startX bs).1 ∧ (startX bs).1 ≤ bs.length := by
  unfold startX
  match bs with
  | [] => intro h; exact absurd h (by decide)
  | [a] => intro h; simp only [startL] at h; split at h <;> exact absurd h (by decide)
  | [a, b] => intro h; simp only [startL] at h; (repeat' split at h) <;> exact absurd h (by decide)
  | [a, b, c] => intro h; simp only [startL] at h; (repeat' split at h) <;> exact absurd h (by decide)
  | a :: b :: c :: d :: l =>
    intro h
    simp only [startL] at h ⊢
    repeat' split at h
    all_goals first | exact absurd h (by decide) | skip
    simp_all
    omega
theorem pairX_ok {bs : List Int} {at' e last : Int} {first : Bool} (ha : e = 0 → 0 ≤ at' ∧ at' ≤ bs.length) : (pairX bs at' e last first).2.2 = 0 → at' < (pairX bs at' e last first).2.1 ∧ (pairX bs at' e last first).2.1 ≤ bs.length ∧ e = 0 := by
  unfold pairX
  dsimp only
  intro h
  have h0 := numX_ok ha
  by_cases hc : first = false ∧ (numX bs at' e).2.2 = 0 ∧ ((numX bs at' e).1 = 0 ∨ IntKind.u64.wrap (last + (numX bs at' e).1) < last)
  · rw [if_pos hc] at h
    rw [numX_stay (show (271 : Int) ≠ 0 by decide)] at h
    exact absurd h (show ¬ (271 : Int) = 0 by decide)
  · rw [if_neg hc] at h ⊢
    dsimp only at h ⊢
    have h1 : (numX bs at' e).2.2 = 0 := by
      by_cases hz : (numX bs at' e).2.2 = 0
      · exact hz
      · rw [numX_stay hz] at h
        exact absurd h hz
    have h2 := h0 h1
    have h3 := numX_ok (bs := bs) (at' := (numX bs at' e).2.1) (e := (numX bs at' e).2.2) (fun _ => h2) h
    have h4 : e = 0 := by
      by_cases hz : e = 0
      · exact hz
      · rw [numX_stay hz] at h1
        exact absurd h1 hz
    subst h4
    have h5 : at' < (numX bs at' 0).2.1 := by
      have := (numR_place (bs.drop at'.toNat) 0 at' 0).2.2
      unfold numX at h1 ⊢
      rw [if_pos rfl] at h1 ⊢
      exact this h1
    have h6 : (numX bs at' 0).2.1 ≤ (numX bs (numX bs at' 0).2.1 (numX bs at' 0).2.2).2.1 := by
      have := (numR_place (bs.drop (numX bs at' 0).2.1.toNat) 0 (numX bs at' 0).2.1 0).1
      rw [h1]
      generalize (numX bs at' 0).2.1 = z at *
      unfold numX
      rw [if_pos rfl]
      exact this
    exact ⟨by omega, h3.2, rfl⟩
theorem pairX_key {bs : List Int} {at' e last : Int} {first : Bool} : 0 ≤ (pairX bs at' e last first).1.1 ∧ (pairX bs at' e last first).1.1 < 18446744073709551616 := by
  unfold pairX; exact u64_range _
theorem pairX_val {bs : List Int} {at' e last : Int} {first : Bool} (hbs : ∀ c ∈ bs, 0 ≤ c ∧ c < 256) : 0 ≤ (pairX bs at' e last first).1.2 ∧ (pairX bs at' e last first).1.2 < 18446744073709551616 := by
  unfold pairX; exact numX_val hbs
theorem fixed_v (s f0 f1 f2 f3 : Int) (w : World) (h0 : 0 ≤ s) (h1 : s < 4294967296) (h : fixedS s = [f0, f1, f2, f3]) :
    Calls Try.prog 56 #[.int .u32 s] w fun e w' => e = .returned (.agg #[.int .u8 f0, .int .u8 f1, .int .u8 f2, .int .u8 f3]) ∧ Below w.heap.size w w' := by
  simp only [fixedS, List.cons.injEq, and_true] at h
  obtain ⟨rfl, rfl, rfl, rfl⟩ := h
  exact fixed_c s w h0 h1
theorem take4 (bs : List Int) (z : Nat) (h : z + 4 ≤ bs.length) : (bs.drop z).take 4 = [rd bs z, rd bs (z + 1 : Nat), rd bs (z + 2 : Nat), rd bs (z + 3 : Nat)] := by
  rw [drop_at bs z (by omega), drop_at bs (z + 1) (by omega), drop_at bs (z + 2) (by omega), drop_at bs (z + 3) (by omega)]
  rfl
theorem sum_v (A : Option Addr) (c z : Nat) (T : List Int) (s : Int) (w : World) (hC : Kd.C (Kd.int .u8) w A T.length T) (hc : T.length ≤ c) (hz : T.length = z) (hl : T.length < 4398046511104) (hs : sumS 2166136261 T = s) :
    Calls Try.prog 57 #[.slice A z c] w fun e w' => e = .returned (.int .u32 s) ∧ Below w.heap.size w w' := by
  subst hs hz
  refine (dump_sum.calls _ _ _ _ _ _ hC hc (sum_f T (by omega))).mono ?_
  rintro e w' ⟨rfl, ⟨n, rfl⟩⟩
  exact ⟨rfl, pw_below_drewN (Below.refl _ _) n⟩
set_option maxHeartbeats 16000000 in
set_option maxRecDepth 100000 in
theorem decode_c (A : Option Addr) (c : Nat) (bs : List Int) (w : World) (hA : Kd.C (Kd.int .u8) w A bs.length bs) (hc : bs.length ≤ c) (hl : bs.length < 4398046511104) (hbs : ∀ c ∈ bs, 0 ≤ c ∧ c < 256) :
    Calls Try.prog 30 #[.slice A bs.length c] w fun e w' => ∃ v, e = .returned (.tuple #[v, .int .i64 (decX bs).2.1, .int .i64 (decX bs).2.2]) ∧ Kd.R k82 82 w' w.heap.size (fun _ => True) v (decX bs).1 ∧ Below w.heap.size w w' := by
  have hu82 := Try.underlying82
  have hu123 := Try.underlying123
  have hu117 := Try.underlying117
  have HA := Lib.hid hA
  have HC := Lib.hid hc
  have HL := Lib.hid hl
  have HBS := Lib.hid hbs
  obtain ⟨R, hR⟩ : ∃ R, R = decX bs := ⟨_, rfl⟩
  rw [← hR]
  have HR := Lib.hid hR
  clear hA hc hl hbs hR
  go_enter Try.func30, Try.ntmps30
  go_wp2_with fail
  go_at_call 60
  refine (start_c w.heap.size bs w _ (IsS123.new w w A c bs 0 0 (Below.refl _ _) HA.out) ((Below.refl _ _).alloc (Nat.le_refl _) _)).mono ?_
  rintro en w1 ⟨rfl, h1, h2, h3⟩
  have S1 := Lib.hid h1
  have B1 := Lib.hid h2
  clear h1 h2 h3
  go_wp2_with fail
  go_at_call 61
  refine (rdnumX_c w.heap.size bs _ _ w _ (S1.out.alloc _) (B1.out.alloc B1.out.size _) (startX_ok bs) HBS.out).mono ?_
  rintro en w2 ⟨rfl, h1, h2, h3⟩
  have hx := h3.blk (heap_alloc_new w1 _) (by have := S1.out.lt; omega) (by simp)
  have HG : Hid (w.heap.size < w1.heap.size) := Lib.hid S1.out.lt
  have S2 := Lib.hid h1
  have B2 := Lib.hid h2
  have X2 := Lib.hid hx
  have HO := Lib.hid (numX_ok (startX_ok bs))
  have hv := numX_val (bs := bs) (at' := (startX bs).1) (e := (startX bs).2) HBS.out
  have HN : Hid (R = (let f := finX bs (decL bs (bs.length + 1) (numX bs (startX bs).1 (startX bs).2).1 (numX bs (startX bs).1 (startX bs).2).2.1 (numX bs (startX bs).1 (startX bs).2).2.2 0 []).2.1 (decL bs (bs.length + 1) (numX bs (startX bs).1 (startX bs).2).1 (numX bs (startX bs).1 (startX bs).2).2.1 (numX bs (startX bs).1 (startX bs).2).2.2 0 []).2.2; if f.2 = 0 then ((decL bs (bs.length + 1) (numX bs (startX bs).1 (startX bs).2).1 (numX bs (startX bs).1 (startX bs).2).2.1 (numX bs (startX bs).1 (startX bs).2).2.2 0 []).1, 0, 0) else ([], f.2, f.1))) := Lib.hid HR.out
  clear h1 h2 h3 hx S1 B1 HR
  generalize numX bs (startX bs).1 (startX bs).2 = N at *
  obtain ⟨n, a0, e0⟩ := N
  dsimp only at *
  obtain ⟨hn0, hn1⟩ := hv
  generalize hD : decL bs (bs.length + 1) n a0 e0 0 [] = D at HN
  have HD := Lib.hid hD
  clear hD
  generalize hj : w1.heap.size = j at *
  have HNN := Lib.hid (show 0 ≤ n ∧ n < 18446744073709551616 from ⟨hn0, hn1⟩)
  clear hn1
  go_wp2
  go_loopg [6, 8] (bs.length + 1) (fun kq x y w' => ∃ (acc : List S82) (m at' e last lv : Int), y = .int .u64 m ∧ 0 ≤ m ∧ Hid (D = decL bs kq m at' e last acc) ∧ Hid (acc.length + kq = bs.length + 1) ∧ Hid (e = 0 → 0 ≤ at' ∧ at' ≤ bs.length ∧ (bs.length : Int) - at' < kq) ∧ Hid (0 ≤ last ∧ last < 18446744073709551616) ∧ Hid (Kd.R k82 82 w' w.heap.size (fun k => k ≠ w.heap.size ∧ k ≠ j) x acc) ∧ Hid (IsS123 w w' w.heap.size bs at' e) ∧ Hid (Below w.heap.size w w') ∧ Hid (w'.heap[j]? = some (.cells #[.int .u64 last, .int .u64 lv] 82 (0, 0))))
  case atStart =>
    refine ⟨[], n, a0, e0, 0, 0, rfl, hn0, Lib.hid HD.out.symm, Lib.hid (by simp), Lib.hid (fun h => ?_), Lib.hid (by decide), Lib.hid (Kd.R_nil k82 82 _ _ _), S2, B2, X2⟩
    have := HO.out h
    omega
  case round =>
    obtain ⟨acc, m, at', e, last, lv, rfl, hm, HDR, HLN, HAT, HLA, HRR, HSR, HBR, HXR⟩ := hrel
    rename_i x _
    clear S2 B2 X2 HD
    obtain ⟨A3, c3, rfl⟩ := Kd.R_slice HRR.out
    obtain ⟨A', c', hb', -, -⟩ := HSR.out
    have d2 := cellS123_2 hb'
    have hb0 := hb'
    have k0 : wr.cell? ⟨j, 0, none⟩ = some (.int .u64 last) := (blk_cell HXR.out 0).trans rfl
    have k1 : wr.cell? ⟨j, 1, none⟩ = some (.int .u64 lv) := (blk_cell HXR.out 1).trans rfl
    clear hb'
    by_cases hgo : 0 < m ∧ e = 0
    · obtain ⟨hm0, he0⟩ := hgo
      have HA2 := Lib.hid (HAT.out he0)
      obtain rfl := he0
      have hme : decide (0 < m) = true := decide_eq_true hm0
      have HM0 := Lib.hid hm0
      have HK0 : Hid (0 < gk) := Lib.hid (by have := HA2.out; omega)
      have HJ : Hid (w.heap.size < wr.heap.size ∧ j < wr.heap.size) := Lib.hid ⟨HSR.out.lt, blk_lt HXR.out⟩
      have HPO := Lib.hid (pairX_ok (bs := bs) (at' := at') (e := 0) (last := last) (first := ((acc.length : Int) == 0)) (fun _ => ⟨(HA2.out).1, (HA2.out).2.1⟩))
      have HPK := Lib.hid (pairX_key (bs := bs) (at' := at') (e := 0) (last := last) (first := ((acc.length : Int) == 0)))
      have HDN : Hid (D = decL bs (gk - 1) (IntKind.u64.wrap (m - 1)) (pairX bs at' 0 last ((acc.length : Int) == 0)).2.1 (pairX bs at' 0 last ((acc.length : Int) == 0)).2.2 (pairX bs at' 0 last ((acc.length : Int) == 0)).1.1 (acc ++ [⟨(pairX bs at' 0 last ((acc.length : Int) == 0)).1.1, (pairX bs at' 0 last ((acc.length : Int) == 0)).1.2⟩])) := Lib.hid (by
        obtain ⟨q, rfl⟩ : ∃ q, gk = q + 1 := ⟨gk - 1, by have := HK0.out; omega⟩
        rw [HDR.out, decL, if_pos ⟨HM0.out, rfl⟩]
        rfl)
      clear hb0 hm0
      go_wp2_with fail
      go_at_call 62
      refine (pair_c _ bs at' 0 last lv _ w _ HSR.out HBR.out (fun _ => ⟨(HA2.out).1, (HA2.out).2.1⟩) HBS.out HLA.out.1 HLA.out.2).mono ?_
      rintro en w3 ⟨rfl, h1, h2, h3⟩
      have hx3 := h3.blk HXR.out (by have := HG.out; omega) (by simp)
      have m0 : w3.cell? ⟨j, 0, none⟩ = some (.int .u64 last) := (blk_cell hx3 0).trans rfl
      have m1 : w3.cell? ⟨j, 1, none⟩ = some (.int .u64 lv) := (blk_cell hx3 1).trans rfl
      have n0 := blk_frozen hx3 0
      have n1 := blk_frozen hx3 1
      have S3 := Lib.hid h1
      have B3 := Lib.hid h2
      have X3 := Lib.hid hx3
      have Z3 := Lib.hid h3.1
      have R3 := Lib.hid (Kd.R_keep HRR.out h3 (fun _ h => h.1))
      clear h1 h2 h3 hx3 k0 k1 d2
      generalize pairX bs at' 0 last ((acc.length : Int) == 0) = P at *
      obtain ⟨⟨pk, pv⟩, a2, e2⟩ := P
      dsimp only at *
      go_wp2_with (first | (at_builtin; refine Kd.R_append k82 (w0 := w) w.heap.size (by rfl) (.tmp 34) (.tmp 36) 22 82 (.agg #[.int .u64 0, .int .u64 0]) 16 rfl Try.underlying22 info82 rfl (by decide) (by omega) _ acc (⟨pk, pv⟩ : S82) [.int .u64 pk, .int .u64 pv] (fun k => k ≠ w.heap.size ∧ k ≠ j) (fun _ => False) rfl ?aX ?aP (fun _ hk => hk.elim) ?aF ?aO ?aB ?aS ?aL ?_))
      case aX => simp [Act.eval]
      case aP => exact k82_mkM _ _ _ (⟨pk, pv⟩ : S82)
      case aF =>
        intro k hk
        have h1 := HJ.out
        have h2 := Z3.out
        simp at hk
        omega
      case aO => exact Kd.R_far (p := ⟨j, 1, none⟩) (Kd.R_far (p := ⟨j, 0, none⟩) R3.out (fun _ h => h.2) _) (fun _ h => h.2) _
      case aB => exact (B3.out.setCell (by have := HG.out; simp; omega) _).setCell (by have := HG.out; simp; omega) _
      case aS => have h1 := HJ.out; have h2 := Z3.out; simp; omega
      case aL => have h1 := HLN.out; have h2 := HL.out; omega
      intro v5 w5 hR5 hB5 hG5 hat
      have X5 := Lib.hid (blk_grown ((blk_set ((blk_set X3.out 0 _).trans rfl) 1 _).trans rfl) hG5 (fun h => (R3.out.1 j h.symm).2 rfl))
      have S5 := Lib.hid (((S3.out.far (p := ⟨j, 0, none⟩) (by have := HG.out; simp; omega) (.int .u64 pk)).far (p := ⟨j, 1, none⟩) (by have := HG.out; simp; omega) (.int .u64 pv)).grown hG5 (fun h => (R3.out.1 w.heap.size h.symm).1 rfl))
      have R5 := Lib.hid hR5
      have B5 := Lib.hid hB5
      clear hR5 hB5 hG5 hat m0 m1 n0 n1
      go_wp2
      go_roundg (gk - 1)
      case measure => have := HK0.out; omega
      case rel =>
        refine ⟨acc ++ [⟨pk, pv⟩], _, a2, e2, pk, pv, rfl, (u64_range _).1, HDN, Lib.hid (by have := HLN.out; have := HK0.out; simp; omega), Lib.hid (fun h => ?_), HPK, R5, S5, B5, X5⟩
        have h1 := HPO.out h
        have h2 := HA2.out
        have h3 := HK0.out
        omega
    · have HDE := Lib.hid (HDR.out.trans (decL_end bs gk m at' e last acc hgo))
      have c1 := cellS123_1 hb0
      by_cases he : e = 0
      · obtain rfl := he
        have hme : decide (0 < m) = false := decide_eq_false (fun h => hgo ⟨h, rfl⟩)
        obtain ⟨z, rfl⟩ := Int.eq_ofNat_of_zero_le (HAT.out rfl).1
        have hz : z ≤ bs.length := by have := (HAT.out rfl).2.1; omega
        have hz2 : bs.length < 4398046511104 := HL.out
        clear hgo
        by_cases h4 : (bs.length : Int) - (z : Int) < 4
        · have HRE : Hid (R = ([], 270, (bs.length : Int))) := Lib.hid (by rw [HN.out, HDE.out]; simp only [finX, if_pos h4, if_true]; rfl)
          have h4' := eq_true h4
          clear h4
          go_wp2_with fail
          go_at_call 63
          refine (dump_reader_fail.calls _ bs _ 0 270 ((bs.length : Int)) ((bs.length : Int)) 270 w _ (by first | exact HSR.out | exact HSR.out) (by first | exact HBR.out | exact HBR.out) rfl).mono ?_
          rintro en w9 ⟨rfl, h1, h2, h3⟩
          have B9 := Lib.hid h2
          obtain ⟨A'', c'', hb9, -, -⟩ := h1
          have e1 := cellS123_1 hb9
          have e2 := cellS123_2 hb9
          clear h2 h3 hb9
          go_wp2
          go_quiet (fail)
          go_wp2
          go_ret3
          rw [HRE.out]
          exact ⟨_, rfl, Kd.R_nil _ _ _ _ _, pw_below_drewN B9.out _⟩
        · have hz4 : z + 4 ≤ bs.length := by omega
          have h4' := eq_false h4
          have HT4 := take4 bs z hz4
          obtain ⟨s, hs⟩ : ∃ s, sumS 2166136261 (bs.take z) = s := ⟨_, rfl⟩
          have hsr := sumS_range (bs.take z) 2166136261 (by omega) (by omega)
          rw [hs] at hsr
          have hlt : (bs.take z).length = z := by rw [List.length_take]; omega
          have HCT := Lib.hid (Kd.C_take HA.out (m := z) (by omega))
          obtain ⟨f0, f1, f2, f3, hf⟩ : ∃ f0 f1 f2 f3, fixedS s = [f0, f1, f2, f3] := ⟨_, _, _, _, rfl⟩
          obtain ⟨ad, rfl, x0⟩ := Kd.at_int (Kd.C_below HA.out HBR.out) (z : Int) (by omega) (by omega)
          obtain ⟨ad1, e1, x1⟩ := Kd.at_int (Kd.C_below HA.out HBR.out) ((z + 1 : Nat) : Int) (by omega) (by omega)
          obtain ⟨ad2, e2, x2⟩ := Kd.at_int (Kd.C_below HA.out HBR.out) ((z + 2 : Nat) : Int) (by omega) (by omega)
          obtain ⟨ad3, e3, x3⟩ := Kd.at_int (Kd.C_below HA.out HBR.out) ((z + 3 : Nat) : Int) (by omega) (by omega)
          obtain rfl : ad = ad1 := by injection e1
          obtain rfl : ad = ad2 := by injection e2
          obtain rfl : ad = ad3 := by injection e3
          clear e1 e2 e3
          have HFIN : Hid (finX bs (z : Int) 0 = if ([rd bs z, rd bs (z + 1 : Nat), rd bs (z + 2 : Nat), rd bs (z + 3 : Nat)] == [f0, f1, f2, f3]) = false then ((z : Int), 271) else if (bs.length : Int) - (z : Int) > 4 then ((z : Int) + 4, 272) else ((z : Int), 0)) := Lib.hid (by unfold finX; rw [if_pos rfl, if_neg h4, Int.toNat_natCast, HT4, hs, hf])
          generalize bs.take z = T at *
          rw [Int.toNat_natCast] at x0 x1 x2 x3
          rw [add_field ad z 1 (by omega)] at x1
          rw [add_field ad z 2 (by omega)] at x2
          rw [add_field ad z 3 (by omega)] at x3
          have harr := fun wx => run_arrayAt (P := Try.prog) (w := wx) 117 5 4 (some (ad.add z)) (bs.length - z) (c - z) hu117 (by omega)
          generalize rd bs (z : Int) = y0 at *
          generalize rd bs ((z + 1 : Nat) : Int) = y1 at *
          generalize rd bs ((z + 2 : Nat) : Int) = y2 at *
          generalize rd bs ((z + 3 : Nat) : Int) = y3 at *
          have HS := Lib.hid hs
          have HF := Lib.hid hf
          have HLT := Lib.hid hlt
          have HCC := Lib.hid (show z ≤ c by have := HC.out; omega)
          have b1 : (0 : Int) ≤ (z : Int) := by omega
          have b2 : (z : Int) ≤ (c : Int) := by have := HC.out; omega
          have b3 : (z : Int) ≤ (bs.length : Int) := by omega
          have b4 : ¬ c = z := by have := HC.out; omega
          have b5 : (bs.length : Int) ≤ (c : Int) := by have := HC.out; omega
          obtain ⟨b, hb, heq⟩ : ∃ b : Bool, b = ([y0, y1, y2, y3] == [f0, f1, f2, f3]) ∧ ∀ w, Sem.run Try.prog (Op.equalIn 10000 117 (.agg #[.int .u8 y0, .int .u8 y1, .int .u8 y2, .int .u8 y3]) (.agg #[.int .u8 f0, .int .u8 f1, .int .u8 f2, .int .u8 f3])) w = .ok b w := ⟨_, rfl, eq_arr4 _ _ _ _ _ _ _ _⟩
          have HFB := Lib.hid hb
          have HZ4 := Lib.hid hz4
          clear h4 HT4 hs hf hlt hb hz4
          go_wp2_with fail
          go_region_held3 (fun w' => Below wr.heap.size wr w' ∧ w'.cell? (ad.add z) = some (.int .u8 y0) ∧ w'.cell? ⟨(ad.add z).block, (ad.add z).off + 1, none⟩ = some (.int .u8 y1) ∧ w'.cell? ⟨(ad.add z).block, (ad.add z).off + 2, none⟩ = some (.int .u8 y2) ∧ w'.cell? ⟨(ad.add z).block, (ad.add z).off + 3, none⟩ = some (.int .u8 y3)) (first | exact ⟨(Below.refl _ _).drew, x0, x1, x2, x3⟩ | exact keep4 (keep4 (w1 := wr.drew) ⟨(Below.refl _ _).drew, x0, x1, x2, x3⟩ hb5) hb6 | exact keep4 (w1 := wr.drew) ⟨(Below.refl _ _).drew, x0, x1, x2, x3⟩ hb5) (first | (go_at_call 57; refine (sum_v _ _ _ T s _ (by exact Kd.C_below HCT.out HBR.out.drew) (by have := HLT.out; have := HCC.out; omega) HLT.out (by have := HLT.out; omega) HS.out).mono ?_; rintro en w5 ⟨rfl, hb5⟩) | (go_at_call 56; refine (fixed_v s f0 f1 f2 f3 _ hsr.1 hsr.2 HF.out).mono ?_; rintro en w6 ⟨rfl, hb6⟩))
          all_goals
            rename_i hS
            have HSS := Lib.hid hS.1
            clear hS x0 x1 x2 x3 hb5 hb6 harr heq
            obtain ⟨A5, c5, hb5, -, -⟩ := HSR.out.below HSS.out
            have g2 := cellS123_2 hb5
            clear hb5
            have HFF : Hid (finX bs (z : Int) 0 = if b = false then ((z : Int), 271) else if (bs.length : Int) - (z : Int) > 4 then ((z : Int) + 4, 272) else ((z : Int), 0)) := Lib.hid (by rw [HFIN.out, HFB.out])
            clear hb0 c1 d2 HFB HFIN
            cases b
            · have HRE : Hid (R = ([], 271, (z : Int))) := Lib.hid (by rw [HN.out, HDE.out]; simp only [HFF.out]; rfl)
              go_wp2_with fail
              go_at_call 63
              refine (dump_reader_fail.calls _ bs _ 0 271 ((z : Int)) ((z : Int)) 271 w _ (by first | exact HSR.out | exact (HSR.out.below HSS.out)) (by first | exact HBR.out | exact HBR.out.trans (HSS.out.mono HBR.out.size)) rfl).mono ?_
              rintro en w9 ⟨rfl, h1, h2, h3⟩
              have B9 := Lib.hid h2
              obtain ⟨A'', c'', hb9, -, -⟩ := h1
              have e1 := cellS123_1 hb9
              have e2 := cellS123_2 hb9
              clear h2 h3 hb9
              go_wp2
              go_quiet (fail)
              go_wp2
              go_ret3
              rw [HRE.out]
              exact ⟨_, rfl, Kd.R_nil _ _ _ _ _, pw_below_drewN B9.out _⟩
            · by_cases hm4 : (bs.length : Int) - (z : Int) > 4
              · have HRE : Hid (R = ([], 272, (z : Int) + 4)) := Lib.hid (by rw [HN.out, HDE.out]; simp only [HFF.out, if_pos hm4]; rfl)
                have hm5 : (4 : Int) < (bs.length : Int) - (z : Int) := hm4
                clear hm4
                go_wp2_with fail
                go_at_call 63
                refine (dump_reader_fail.calls _ bs _ 0 272 ((z : Int) + 4) ((z : Int) + 4) 272 w _ (by first | exact HSR.out | exact (HSR.out.below HSS.out)) (by first | exact HBR.out | exact HBR.out.trans (HSS.out.mono HBR.out.size)) rfl).mono ?_
                rintro en w9 ⟨rfl, h1, h2, h3⟩
                have B9 := Lib.hid h2
                obtain ⟨A'', c'', hb9, -, -⟩ := h1
                have e1 := cellS123_1 hb9
                have e2 := cellS123_2 hb9
                clear h2 h3 hb9
                go_wp2
                go_quiet (fail)
                go_wp2
                go_ret3
                rw [HRE.out]
                exact ⟨_, rfl, Kd.R_nil _ _ _ _ _, pw_below_drewN B9.out _⟩
              · have HRE : Hid (R = (acc, 0, 0)) := Lib.hid (by rw [HN.out, HDE.out]; simp only [HFF.out, if_neg hm4]; rfl)
                have hm5 : ¬ (4 : Int) < (bs.length : Int) - (z : Int) := hm4
                clear hm4
                go_wp2
                go_ret3
                rw [HRE.out]
                exact ⟨_, rfl, Kd.R_mono (Kd.R_below HRR.out HSS.out) (fun _ _ => trivial), HBR.out.trans (HSS.out.mono HBR.out.size)⟩
      · have he1 : (e == 0) = false := by rw [beq_eq_false_iff_ne]; exact he
        have he2 : (e != 0) = true := by rw [bne_iff_ne]; exact he
        have HRE : Hid (R = ([], e, at')) := Lib.hid (by rw [HN.out, HDE.out]; simp only [finX, if_neg he])
        clear he hgo
        have hcs : decide (0 < m) = true ∨ decide (0 < m) = false := by cases decide (0 < m) <;> simp
        rcases hcs with hme | hme
        all_goals
          go_wp2
          go_quiet (fail)
          go_wp2
          go_ret3
          rw [HRE.out]
          exact ⟨_, rfl, Kd.R_nil _ _ _ _ _, pw_below_drewN HBR.out _⟩
end Go.Proofs.Ythblincfnfpgbaa.Q
namespace Go.Proofs.Ythblincfnfpgbaa.Q
open Go.RowKit Go.Proofs.YthblincfnfpgbaaW.PrintWords Go.Proofs.YthblincfnfpgbaaW.PrintLast Go.Proofs.YthblincfnfpgbaaW.PrintMore
set_option linter.unusedVariables false
/-- Decode of so many bytes as fit. -/
def dump_Decode.f (l : List Int) : Option (List S82 × Int × Int) := if l.length < 4398046511104 ∧ ∀ c ∈ l, 0 ≤ c ∧ c < 256 then some (decX l) else none
theorem dump_Decode.calls (A0 : Option Addr) (c0 : Nat) (l0 : List Int) (r1 : List S82) (r2 r3 : Int) (w : World) (hr0 : Kd.C (Kd.int .u8) w A0 l0.length l0) (hc0 : l0.length ≤ c0) (h : dump_Decode.f l0 = some (r1, r2, r3)) :
    Calls Try.prog 30 #[.slice A0 l0.length c0] w fun e w' => ∃ v0_ : Value, e = .returned (.tuple #[v0_, .int .i64 r2, .int .i64 r3]) ∧ Kd.R k82 82 w' w.heap.size (fun _ => True) v0_ r1 ∧ Below w.heap.size w w' := by
  unfold dump_Decode.f at h
  split at h
  case isFalse => exact absurd h (by simp)
  rename_i hl
  have h := Option.some.inj h
  have e := decode_c A0 c0 l0 w hr0 hc0 hl.1 hl.2
  rw [h] at e
  exact e
end Go.Proofs.Ythblincfnfpgbaa.Q
namespace Go.Proofs.Ythblincfnfpgbaa.Q
open Go.RowKit Go.Proofs.YthblincfnfpgbaaW.PrintWords Go.Proofs.YthblincfnfpgbaaW.PrintLast Go.Proofs.YthblincfnfpgbaaW.PrintMore
set_option linter.unusedVariables false
/-- Patch refuses: something is not right. -/
def patBad (a : List S82) (l : List S30) : Bool := !risingS a || !risingC l || l.any (fun x => !isRightB x)
def patR (a : List S82) (l : List S30) : List S82 × Int := if patBad a l = true then ([], 52) else if patF a l = true then (patO a l, 0) else ([], 4)
theorem visP_start {w0 w : World} (hb : Below w0.heap.size w0 w) : VisP w0 w.heap.size (w.heap.size + 1) true [] ((w.alloc (.cells #[.slice none 0 0] 22)).alloc (.cells #[.bool true] 4)) := by
  have h1 := hb.alloc hb.size (.cells #[.slice none 0 0] 22)
  have hs : (w.alloc (.cells #[.slice none 0 0] 22)).heap.size = w.heap.size + 1 := by simp
  have hsz := hb.size
  refine ⟨h1.alloc (by omega) _, ?_, .slice none 0 0, blk_alloc (blk_new w _) _, Kd.R_nil k82 82 _ _ _⟩
  have := blk_new (w.alloc (.cells #[.slice none 0 0] 22)) (.cells #[.bool true] 4)
  rwa [hs] at this
theorem contains_v (A : Option Addr) (c : Nat) (l : List S30) (b : Bool) (w : World) (hA : Kd.C k30 w A l.length l) (hl : l.length < 4398046511104) (h : l.any (fun x => !isRightB x) = b) :
    Calls Try.prog 47 #[.slice A l.length c, .func (.func 44) #[] #[]] w fun e w' => e = .returned (.bool b) ∧ Below w.heap.size w w' := by
  subst h; exact contains_c A c l w hA hl
theorem risingC_v (A : Option Addr) (c : Nat) (l : List S30) (b : Bool) (w : World) (hA : Kd.C k30 w A l.length l) (hl : l.length < 4398046511104) (h : risingC l = b) :
    Calls Try.prog 45 #[.slice A l.length c, .func (.func 46) #[] #[]] w fun e w' => e = .returned (.bool b) ∧ Below w.heap.size w w' := by
  subst h; exact risingC_c A c l w hA hl
set_option maxHeartbeats 4000000 in
set_option maxRecDepth 100000 in
theorem patch_c (A0 : Option Addr) (c0 : Nat) (a : List S82) (A1 : Option Addr) (c1 : Nat) (l : List S30) (w : World) (hA : Kd.C k82 w A0 a.length a) (hc0 : a.length ≤ c0) (hB : Kd.C k30 w A1 l.length l) (hc1 : l.length ≤ c1) (hl : a.length + l.length < 4398046511104) :
    Calls Try.prog 15 #[.slice A0 a.length c0, .slice A1 l.length c1] w fun e w' => ∃ v0_ : Value, e = .returned (.tuple #[v0_, .int .i64 (patR a l).2]) ∧ Kd.R k82 82 w' w.heap.size (fun _ => True) v0_ (patR a l).1 ∧ Below w.heap.size w w' := by
  have hu22 := Try.underlying22
  have HA := Lib.hid hA
  have HA' := Lib.hid hc0
  have HB := Lib.hid hB
  have HB' := Lib.hid hc1
  have HL := Lib.hid hl
  clear hA hc0 hB hc1 hl
  have HLB := Lib.hid (show l.length < 4398046511104 by have := HL.out; omega)
  obtain ⟨b1, h1⟩ : ∃ b, risingS a = b := ⟨_, rfl⟩
  obtain ⟨b2, h2⟩ : ∃ b, risingC l = b := ⟨_, rfl⟩
  obtain ⟨b3, h3⟩ : ∃ b, l.any (fun x => !isRightB x) = b := ⟨_, rfl⟩
  have H1 := Lib.hid h1
  have H2 := Lib.hid h2
  have H3 := Lib.hid h3
  have HR : Hid (patBad a l = (!b1 || !b2 || b3)) := Lib.hid (by unfold patBad; rw [h1, h2, h3])
  clear h1 h2 h3
  cases b1
  · obtain ⟨r, hr⟩ : ∃ r, patR a l = r := ⟨_, rfl⟩
    have hr0 : r = ([], 52) := by rw [← hr]; unfold patR; rw [HR.out]; rfl
    subst hr0
    rw [hr]
    clear hr
    go_enter Try.func15, Try.ntmps15
    go_wp2_with fail
    go_at_call 39
    refine (right_c _ _ _ _ _ HA.out HA'.out H1.out).mono ?_
    rintro e w1 ⟨rfl, hb⟩
    have HW1 := Lib.hid hb
    clear hb
    go_wp2_with fail
    go_ret2
    exact ⟨_, rfl, Kd.R_nil k82 82 _ _ _, HW1.out⟩
  · cases b2
    · obtain ⟨r, hr⟩ : ∃ r, patR a l = r := ⟨_, rfl⟩
      have hr0 : r = ([], 52) := by rw [← hr]; unfold patR; rw [HR.out]; rfl
      subst hr0
      rw [hr]
      clear hr
      go_enter Try.func15, Try.ntmps15
      go_wp2_with fail
      go_at_call 39
      refine (right_c _ _ _ _ _ HA.out HA'.out H1.out).mono ?_
      rintro e w1 ⟨rfl, hb⟩
      have HW1 := Lib.hid hb
      clear hb
      go_wp2_with fail
      go_at_call 45
      refine (risingC_v _ _ _ _ _ (Kd.C_below HB.out HW1.out) HLB.out H2.out).mono ?_
      rintro e w2 ⟨rfl, hb⟩
      have HW2 := Lib.hid (HW1.out.trans (hb.mono HW1.out.size))
      clear hb
      go_wp2_with fail
      go_ret2
      exact ⟨_, rfl, Kd.R_nil k82 82 _ _ _, HW2.out⟩
    · cases b3
      · obtain ⟨f, hf⟩ : ∃ f, patF a l = f := ⟨_, rfl⟩
        have HF := Lib.hid hf
        clear hf
        obtain ⟨r, hr⟩ : ∃ r, patR a l = r := ⟨_, rfl⟩
        have hr0 : r = (if f = true then (patO a l, 0) else ([], 4)) := by rw [← hr]; unfold patR; rw [HR.out, HF.out]; rfl
        rw [hr]
        clear hr
        have HR0 := Lib.hid hr0
        clear hr0
        go_enter Try.func15, Try.ntmps15
        go_wp2_with fail
        go_at_call 39
        refine (right_c _ _ _ _ _ HA.out HA'.out H1.out).mono ?_
        rintro e w1 ⟨rfl, hb⟩
        have HW1 := Lib.hid hb
        clear hb
        go_wp2_with fail
        go_at_call 45
        refine (risingC_v _ _ _ _ _ (Kd.C_below HB.out HW1.out) HLB.out H2.out).mono ?_
        rintro e w2 ⟨rfl, hb⟩
        have HW2 := Lib.hid (HW1.out.trans (hb.mono HW1.out.size))
        clear hb
        go_wp2_with fail
        go_at_call 47
        refine (contains_v _ _ _ _ _ (Kd.C_below HB.out HW2.out) HLB.out H3.out).mono ?_
        rintro e w3 ⟨rfl, hb⟩
        have HW3 := Lib.hid (HW2.out.trans (hb.mono HW2.out.size))
        clear hb
        go_wp2_with fail
        go_at_call 48
        refine (beside30_c w _ w3.heap.size (w3.heap.size + 1) _ _ a l ((HW3.out.alloc HW3.out.size _).alloc (by have := HW3.out.size; simp; omega) _) HW3.out.size (by have := HW3.out.size; omega) (visP_start HW3.out) ⟨_, _, rfl, HA'.out, HA.out⟩ ⟨_, _, rfl, HB'.out, HB.out⟩ HL.out).mono ?_
        rintro e w4 ⟨rfl, hv⟩
        obtain ⟨hb4, hh4, v, hx, hR⟩ := hv
        obtain ⟨A3, c3, rfl⟩ := Kd.R_slice hR
        have hc3 : w4.cell? ⟨w3.heap.size, 0, none⟩ = some (.slice A3 (patO a l).length c3) := (blk_cell hx 0).trans rfl
        have hc4 : w4.cell? ⟨w3.heap.size + 1, 0, none⟩ = some (.bool f) := by rw [← HF.out]; exact (blk_cell hh4 0).trans rfl
        have HB4 := Lib.hid hb4
        have HR4 := Lib.hid hR
        clear hb4 hx hR hh4
        cases f
        · obtain rfl : r = ([], 4) := HR0.out
          go_wp2
          go_ret2
          exact ⟨_, rfl, Kd.R_nil k82 82 _ _ _, HB4.out⟩
        · obtain rfl : r = (patO a l, 0) := HR0.out
          go_wp2
          go_ret2
          exact ⟨_, rfl, Kd.R_mono HR4.out (fun _ _ => trivial), HB4.out⟩
      · obtain ⟨r, hr⟩ : ∃ r, patR a l = r := ⟨_, rfl⟩
        have hr0 : r = ([], 52) := by rw [← hr]; unfold patR; rw [HR.out]; rfl
        subst hr0
        rw [hr]
        clear hr
        go_enter Try.func15, Try.ntmps15
        go_wp2_with fail
        go_at_call 39
        refine (right_c _ _ _ _ _ HA.out HA'.out H1.out).mono ?_
        rintro e w1 ⟨rfl, hb⟩
        have HW1 := Lib.hid hb
        clear hb
        go_wp2_with fail
        go_at_call 45
        refine (risingC_v _ _ _ _ _ (Kd.C_below HB.out HW1.out) HLB.out H2.out).mono ?_
        rintro e w2 ⟨rfl, hb⟩
        have HW2 := Lib.hid (HW1.out.trans (hb.mono HW1.out.size))
        clear hb
        go_wp2_with fail
        go_at_call 47
        refine (contains_v _ _ _ _ _ (Kd.C_below HB.out HW2.out) HLB.out H3.out).mono ?_
        rintro e w3 ⟨rfl, hb⟩
        have HW3 := Lib.hid (HW2.out.trans (hb.mono HW2.out.size))
        clear hb
        go_wp2_with fail
        go_ret2
        exact ⟨_, rfl, Kd.R_nil k82 82 _ _ _, HW3.out⟩
end Go.Proofs.Ythblincfnfpgbaa.Q
namespace Go.Proofs.Ythblincfnfpgbaa.Q
open Go.RowKit Go.Proofs.YthblincfnfpgbaaW.PrintWords Go.Proofs.YthblincfnfpgbaaW.PrintLast Go.Proofs.YthblincfnfpgbaaW.PrintMore
set_option linter.unusedVariables false
def dump_Patch.f (a : List S82) (l : List S30) : Option (List S82 × Int) := if a.length + l.length < 4398046511104 then some (patR a l) else none
theorem dump_Patch.calls (A0 : Option Addr) (c0 : Nat) (a : List S82) (A1 : Option Addr) (c1 : Nat) (l : List S30) (r1 : List S82) (r2 : Int) (w : World) (hA : Kd.C k82 w A0 a.length a) (hc0 : a.length ≤ c0) (hB : Kd.C k30 w A1 l.length l) (hc1 : l.length ≤ c1) (h : dump_Patch.f a l = some (r1, r2)) :
    Calls Try.prog 15 #[.slice A0 a.length c0, .slice A1 l.length c1] w fun e w' => ∃ v0_ : Value, e = .returned (.tuple #[v0_, .int .i64 r2]) ∧ Kd.R k82 82 w' w.heap.size (fun _ => True) v0_ r1 ∧ Below w.heap.size w w' := by
  unfold dump_Patch.f at h
  split at h
  case isFalse => exact absurd h (by simp)
  rename_i hl
  have := Option.some.inj h
  have e := patch_c A0 c0 a A1 c1 l w hA hc0 hB hc1 hl
  rw [this] at e
  exact e
end Go.Proofs.Ythblincfnfpgbaa.Q
namespace Go.Proofs.Ythblincfnfpgbaa.Q
open Go.RowKit Go.Proofs.YthblincfnfpgbaaW.PrintWords Go.Proofs.YthblincfnfpgbaaW.PrintLast Go.Proofs.YthblincfnfpgbaaW.PrintMore
set_option linter.unusedVariables false
set_option linter.unusedSimpArgs false
theorem or128 (z : Int) (h : 0 ≤ z) : bits .or .u8 (z % 256) 128 = z % 128 + 128 := by
  have h1 : ∀ n : Fin 256, bits .or .u8 (n.val : Int) 128 = (n.val : Int) % 128 + 128 := by decide +kernel
  have h2 := h1 ⟨(z % 256).toNat, by omega⟩
  have h3 : (((z % 256).toNat : Nat) : Int) = z % 256 := by omega
  simp only [h3] at h2
  omega
set_option maxHeartbeats 4000000 in
set_option maxRecDepth 100000 in
theorem put_c (w0 w : World) (S : Nat → Prop) (hS : ∀ k, S k → k < w.heap.size) (v : Value) (l : List Int) (x : Int) (hB : Below w0.heap.size w0 w) (ho : Arr w0 w S v l) (hx : x < 18446744073709551616) (hx0 : 0 ≤ x) (hl : l.length + 10 < 140737488355328) :
    Calls Try.prog 58 #[v, .int .u64 x] w fun e w' => ∃ v', e = .returned v' ∧ Own w0 w' S v' (l ++ numS x) ∧ Below w0.heap.size w0 w' ∧ Same S w w' := by
  have hu48 := Try.underlying48
  have HS := Lib.hid hS
  have HB := Lib.hid hB
  have HO := Lib.hid ho
  have HX := Lib.hid hx
  have HL := Lib.hid hl
  clear hS hB ho hl hx
  go_enter Try.func58, Try.ntmps58
  go_wp2
  go_loopg [0, 1] 10 (fun kq u y w' => ∃ (ls : List Int) (z : Int), y = .int .u64 z ∧ 0 ≤ z ∧ Hid (kq + ls.length ≤ l.length + 10) ∧ Hid (0 < kq) ∧ Hid (z < 128 ^ kq) ∧ Hid (ls ++ numN (kq - 1) z = l ++ numS x) ∧ Hid (Arr w0 w' S u ls) ∧ Hid (Below w0.heap.size w0 w') ∧ Hid (Same S w w') ∧ Hid (w.heap.size ≤ w'.heap.size) ∧ Hid (z < 18446744073709551616))
  case atStart => exact ⟨l, x, rfl, hx0, Lib.hid (by omega), Lib.hid (by omega), Lib.hid (by have := HX.out; have : (128 : Int) ^ 10 = 1180591620717411303424 := by decide
                                                                                             omega), Lib.hid rfl, HO, HB, Lib.hid (fun _ _ => rfl), Lib.hid (Nat.le_refl _), HX⟩
  case round =>
    obtain ⟨ls, z, rfl, hz, HN, HK, HZ, HE, HA, HBW, HSM, HSZ, HXZ⟩ := hrel
    clear HB HO HX hx0
    have HSW := Lib.hid (show ∀ k, S k → k < wr.heap.size from fun k hk => Nat.lt_of_lt_of_le (HS.out k hk) HSZ.out)
    by_cases h : 128 ≤ z
    · have hd : decide (128 ≤ z) = true := decide_eq_true h
      go_wp2_with (first | (at_builtin; refine arr_append (w0 := w0) (S := S) (by rfl) (.tmp 7) (.tmp 12) rfl _ ls _ rfl rfl HA.out HSW.out HBW.out (by have := HN.out; have := HK.out; have := HL.out; omega) ?_))
      intro v1 w1 h1 h2 h3 h4
      first | rw [← or128 z hz] at h1 | skip
      have H1 := Lib.hid h1
      have H2 := Lib.hid h2
      have H3 := Lib.hid (show Same S w w1 from fun k hk => (h3 k hk).trans (HSM.out k hk))
      have H4 := Lib.hid (Nat.le_trans HSZ.out h4)
      clear h1 h2 h3 h4 hd
      go_wp2
      go_roundg (gk - 1)
      case measure => have := HK.out; omega
      case rel =>
        have hk := HK.out
        have hn := HN.out
        have hzz := HZ.out
        have he := HE.out
        obtain ⟨m, rfl⟩ : ∃ m, gk = m + 2 := ⟨gk - 2, by
          rcases Nat.lt_or_ge gk 2 with h' | h'
          · obtain rfl : gk = 1 := by omega
            omega
          · omega⟩
        have hm : numN (m + 2 - 1) z = bits .or .u8 (z % 256) 128 :: numN m (z / 128) := by
          show numN (m + 1) z = _
          rw [numN, if_pos h]
        rw [hm] at he
        refine ⟨ls ++ [bits .or .u8 (z % 256) 128], z / 128, by rw [Int.tdiv_eq_ediv_of_nonneg hz, show IntKind.u64.wrap (z / 128) = z / 128 from u64_wrap_id _ (by omega) (by have := HXZ.out; omega)], by omega, Lib.hid (by simp; omega), Lib.hid (by omega), Lib.hid ?_, Lib.hid ?_, Lib.hid (own_arr H1.out), H2, H3, H4, Lib.hid (by have := HXZ.out; omega)⟩
        · rw [show m + 2 - 1 = m + 1 by omega]
          rw [Int.pow_succ] at hzz
          generalize (128 : Int) ^ (m + 1) = q at *
          omega
        · rw [← he]
          simp
    · have hd : decide (128 ≤ z) = false := decide_eq_false h
      go_wp2_with (first | (at_builtin; refine arr_append (w0 := w0) (S := S) (by rfl) (.tmp 16) (.tmp 19) rfl _ ls _ rfl rfl HA.out HSW.out HBW.out (by have := HN.out; have := HK.out; have := HL.out; omega) ?_))
      intro v1 w1 h1 h2 h3 h4
      first | rw [← or128 z hz] at h1 | skip
      have H1 := Lib.hid h1
      have H2 := Lib.hid h2
      have H3 := Lib.hid (show Same S w w1 from fun k hk => (h3 k hk).trans (HSM.out k hk))
      clear h1 h2 h3 h4 hd
      go_wp2
      go_ret
      refine ⟨v1, rfl, ?_, H2.out, H3.out⟩
      have he := HE.out
      have hm : numN (gk - 1) z = [z] := by
        have e : z % 256 = z := by omega
        cases gk - 1 <;> rw [numN]
        · rw [e]
        · rw [if_neg (by omega), e]
      rw [hm] at he
      rw [← he]
      exact H1.out
end Go.Proofs.Ythblincfnfpgbaa.Q
namespace Go.Proofs.Ythblincfnfpgbaa.Q
open Go.RowKit Go.Proofs.YthblincfnfpgbaaW.PrintWords Go.Proofs.YthblincfnfpgbaaW.PrintLast Go.Proofs.YthblincfnfpgbaaW.PrintMore
set_option linter.unusedVariables false
set_option linter.unusedSimpArgs false
theorem numN_small (m : Nat) (v : Int) (h0 : 0 ≤ v) (h : v < 128) : numN m v = [v] := by
  cases m with
  | zero => rw [numN, Int.emod_eq_of_lt h0 (by omega)]
  | succ m => rw [numN, if_neg (by omega), Int.emod_eq_of_lt h0 (by omega)]
theorem numN_big (m : Nat) (v : Int) (h : 128 ≤ v) : numN (m + 1) v = (v % 128 + 128) :: numN m (v / 128) := by
  rw [numN, if_pos h, or128 v (by omega)]
theorem pow_pos7 (i : Nat) : (0 : Int) < 2 ^ (7 * i) := Int.pow_pos (by decide)
theorem pow63 : (2 : Int) ^ (7 * 9) = 9223372036854775808 := by decide
/-- A number that was put is read. -/
theorem num_round (m : Nat) : ∀ (i : Nat) (a x v : Int) (rest : List Int), m + i = 9 → 0 ≤ v → v * 2 ^ (7 * i) < 18446744073709551616 → (0 < i → 0 < v) → numR i a x (numN m v ++ rest) = (x + v * 2 ^ (7 * i), a + (numN m v).length, 0) := by
  induction m with
  | zero =>
    intro i a x v rest hm h0 hv hp
    obtain rfl : i = 9 := by omega
    have h2 : v < 2 := by rw [pow63] at hv; omega
    have h3 := hp (by omega)
    rw [numN_small 0 v h0 (by omega), List.singleton_append, numR, if_neg (by omega), if_pos (by omega), Int.emod_eq_of_lt h0 (by omega)]
    rfl
  | succ m ih =>
    intro i a x v rest hm h0 hv hp
    by_cases h : 128 ≤ v
    · have e : (v % 128 + 128) % 128 = v % 128 := by omega
      have e2 : v * 2 ^ (7 * i) = (v % 128) * 2 ^ (7 * i) + (v / 128) * 2 ^ (7 * (i + 1)) := by
        rw [pow_split]
        generalize (2 : Int) ^ (7 * i) = P
        have : v = v % 128 + v / 128 * 128 := by omega
        conv => lhs; rw [this, Int.add_mul]
        rw [Int.mul_assoc (v / 128) 128 P, Int.mul_comm 128 P]
      have h1 : 0 ≤ v % 128 * 2 ^ (7 * i) := Int.mul_nonneg (by omega) (Int.le_of_lt (pow_pos7 i))
      rw [numN_big m v h, List.cons_append, numR, if_neg (by omega), if_neg (by omega), e, ih (i + 1) (a + 1) _ (v / 128) rest (by omega) (by omega) (by omega) (fun _ => by omega), e2]
      simp only [List.length_cons, Prod.mk.injEq, and_true]
      omega
    · have hi9 : i ≠ 9 := by omega
      have hz : ¬ ((0 < i ∧ v = 0) ∨ (i = 9 ∧ 1 < v)) := by
        rintro (⟨h1, h2⟩ | ⟨h1, h2⟩)
        · have := hp h1; omega
        · omega
      rw [numN_small (m + 1) v h0 (by omega), List.singleton_append, numR, if_neg hz, if_pos (by omega), Int.emod_eq_of_lt h0 (by omega)]
      rfl
/-- What is read as a number was put so. -/
theorem num_canon (l : List Int) (hl : ∀ c ∈ l, 0 ≤ c ∧ c < 256) : ∀ (i : Nat) (a x y a' : Int), i ≤ 9 → numR i a x l = (y, a', 0) →
    ∃ v rest, l = numN (9 - i) v ++ rest ∧ a' = a + (numN (9 - i) v).length ∧ y = x + v * 2 ^ (7 * i) ∧ 0 ≤ v ∧ (0 < i → 0 < v) ∧ v * 2 ^ (7 * i) < 18446744073709551616 := by
  induction l with
  | nil => intro i a x y a' hi h; rw [numR] at h; simp at h
  | cons c l ih =>
    intro i a x y a' hi h
    have hc := hl c (by simp)
    rw [numR] at h
    split at h
    · simp at h
    · rename_i hb
      split at h
      · rename_i h128
        simp only [Prod.mk.injEq, and_true] at h
        refine ⟨c, l, ?_, ?_, ?_, hc.1, fun hp => ?_, ?_⟩
        · rw [numN_small _ c hc.1 h128]; rfl
        · rw [numN_small _ c hc.1 h128, ← h.2]; rfl
        · rw [← h.1, Int.emod_eq_of_lt hc.1 h128]
        · rcases Int.lt_or_eq_of_le hc.1 with h | h
          · exact h
          · exact absurd (.inl ⟨hp, h.symm⟩) hb
        · by_cases h9 : i = 9
          · subst h9
            rw [pow63]
            have : c ≤ 1 := by by_cases h : 1 < c; exact absurd (.inr ⟨rfl, h⟩) hb; omega
            omega
          · have h1 : (2 : Int) ^ (7 * i) ≤ 2 ^ 56 := by exact_mod_cast Nat.pow_le_pow_right (n := 2) (by decide) (show 7 * i ≤ 56 by omega)
            have h3 : (2 : Int) ^ 56 = 72057594037927936 := by decide
            have h4 : c * 2 ^ (7 * i) ≤ 127 * 2 ^ (7 * i) := Int.mul_le_mul_of_nonneg_right (by omega) (Int.le_of_lt (pow_pos7 i))
            omega
      · rename_i h128
        have h9 : i ≠ 9 := fun h => hb (.inr ⟨h, by omega⟩)
        obtain ⟨v, rest, e1, e2, e3, e4, e5, e6⟩ := ih (fun d hd => hl d (by simp [hd])) (i + 1) (a + 1) _ y a' (by omega) h
        have hv := e5 (by omega)
        have ec : c % 128 = c - 128 := by omega
        have ev : (c - 128 + 128 * v) % 128 = c - 128 := by omega
        have ed : (c - 128 + 128 * v) / 128 = v := by omega
        have hN : numN (9 - i) (c - 128 + 128 * v) = c :: numN (9 - (i + 1)) v := by
          rw [show 9 - i = (9 - (i + 1)) + 1 by omega, numN_big _ _ (by omega), ev, ed]
          congr 1
          omega
        have hpw : (c - 128 + 128 * v) * 2 ^ (7 * i) = (c - 128) * 2 ^ (7 * i) + v * 2 ^ (7 * (i + 1)) := by
          rw [pow_split, Int.add_mul, Int.mul_comm 128 v, Int.mul_assoc, Int.mul_comm 128]
        have hb1 := e6
        refine ⟨c - 128 + 128 * v, rest, ?_, ?_, ?_, by omega, fun _ => by omega, ?_⟩
        · rw [hN, e1]; rfl
        · rw [hN, e2, List.length_cons]; omega
        · rw [e3, hpw, ec]; omega
        · rw [hpw]
          -- below 2^64, for the lower digits lie below 2^(7 (i + 1))
          rw [pow_split] at hb1 ⊢
          have hP := pow_pos7 i
          have hdiv : ∃ q : Int, 18446744073709551616 = q * (2 ^ (7 * i) * 128) ∨ i = 8 := by
            by_cases h8 : i = 8
            · exact ⟨0, .inr h8⟩
            · exact ⟨2 ^ (64 - 7 * (i + 1)), .inl (by
                rw [← pow_split, ← Int.pow_add, show 64 - 7 * (i + 1) + 7 * (i + 1) = 64 by omega]; rfl)⟩
          obtain ⟨q, hq | rfl⟩ := hdiv
          · rw [hq] at hb1 ⊢
            generalize (2 : Int) ^ (7 * i) = P at *
            have hvq : v < q := by
              by_cases h : v < q
              · exact h
              · have := Int.mul_le_mul_of_nonneg_right (show q ≤ v by omega) (show 0 ≤ P * 128 by omega)
                omega
            have h1 : (v + 1) * (P * 128) ≤ q * (P * 128) := Int.mul_le_mul_of_nonneg_right (by omega) (by omega)
            have h2 : (c - 128) * P ≤ 127 * P := Int.mul_le_mul_of_nonneg_right (by omega) (by omega)
            rw [Int.add_mul, Int.one_mul] at h1
            omega
          · have p56 : (2 : Int) ^ (7 * 8) = 72057594037927936 := by decide
            rw [p56] at hb1 ⊢
            omega
theorem numS_round (a v : Int) (rest : List Int) (h0 : 0 ≤ v) (hv : v < 18446744073709551616) : numR 0 a 0 (numS v ++ rest) = (v, a + (numS v).length, 0) := by
  have := num_round 9 0 a 0 v rest rfl h0 (by simpa using hv) (fun h => absurd h (by omega))
  simpa [numS] using this
theorem numS_canon (l : List Int) (hl : ∀ c ∈ l, 0 ≤ c ∧ c < 256) (a y a' : Int) (h : numR 0 a 0 l = (y, a', 0)) : ∃ rest, l = numS y ++ rest ∧ a' = a + (numS y).length ∧ 0 ≤ y ∧ y < 18446744073709551616 := by
  obtain ⟨v, rest, e1, e2, e3, e4, e5, e6⟩ := num_canon l hl 0 a 0 y a' (by omega) h
  obtain rfl : y = v := by simpa using e3
  exact ⟨rest, e1, e2, e4, by simpa using e6⟩
/-- Keys rise above last (the first one need not). -/
def chain (first : Bool) (last : Int) : List S82 → Prop
  | [] => True
  | p :: l => wfP p ∧ (first = false → last < p.f0) ∧ chain false p.f0 l
theorem chain_of (l : List S82) (hw : ∀ p ∈ l, wfP p) : ∀ (first : Bool) (last : Int), risingS l = true → (∀ p ∈ l.head?, first = false → last < p.f0) → chain first last l := by
  induction l with
  | nil => intro _ _ _ _; trivial
  | cons p l ih =>
    intro first last hr hh
    refine ⟨hw p (by simp), hh p (by simp), ih (fun q hq => hw q (by simp [hq])) false p.f0 ?_ ?_⟩
    · cases l with
      | nil => rfl
      | cons q l =>
        have : (decide (p.f0 < q.f0) && risingS (q :: l)) = true := hr
        rw [Bool.and_eq_true] at this
        exact this.2
    · intro q hq _
      cases l with
      | nil => simp at hq
      | cons r l =>
        have : (decide (p.f0 < r.f0) && risingS (r :: l)) = true := hr
        rw [Bool.and_eq_true, decide_eq_true_eq] at this
        obtain rfl : r = q := by simpa using hq
        exact this.1
theorem chain_rising (l : List S82) : ∀ (first : Bool) (last : Int), chain first last l → risingS l = true ∧ ∀ p ∈ l, wfP p := by
  induction l with
  | nil => intro _ _ _; exact ⟨rfl, by simp⟩
  | cons p l ih =>
    intro first last h
    obtain ⟨h1, h2, h3⟩ := h
    obtain ⟨h4, h5⟩ := ih false p.f0 h3
    refine ⟨?_, fun q hq => ?_⟩
    · cases l with
      | nil => rfl
      | cons q l =>
        show (decide (p.f0 < q.f0) && risingS (q :: l)) = true
        rw [h4, decide_eq_true (h3.2.1 rfl)]
        rfl
    · rcases List.mem_cons.1 hq with rfl | hq
      · exact h1
      · exact h5 q hq
theorem drop_add (bs A B : List Int) (n : Nat) (h : bs.drop n = A ++ B) : bs.drop (n + A.length) = B := by
  rw [← List.drop_drop, h, List.drop_left]
theorem drop_len {bs A B : List Int} {n : Nat} (h : bs.drop n = A ++ B) (hA : 0 < A.length) : n + A.length ≤ bs.length := by
  have := congrArg List.length h
  rw [List.length_drop, List.length_append] at this
  omega
theorem numX_round (bs rest : List Int) (at' : Nat) (v : Int) (h0 : 0 ≤ v) (hv : v < 18446744073709551616) (h : bs.drop at' = numS v ++ rest) : numX bs at' 0 = (v, ((at' + (numS v).length : Nat) : Int), 0) := by
  unfold numX
  rw [if_pos rfl, Int.toNat_natCast, h, numS_round at' v rest h0 hv]
  simp
/-- Pairs that were put are read. -/
theorem decL_round (l : List S82) : ∀ (bs rest : List Int) (k at' : Nat) (last : Int) (acc : List S82), (acc = [] → last = 0) → 0 ≤ last → last < 18446744073709551616 → chain ((acc.length : Int) == 0) last l → bs.drop at' = pairsS last l ++ rest → l.length ≤ k → (l.length : Int) < 18446744073709551616 →
    decL bs k l.length at' 0 last acc = (acc ++ l, ((at' + (pairsS last l).length : Nat) : Int), 0) := by
  induction l with
  | nil =>
    intro bs rest k at' last acc _ _ _ _ _ _ _
    rw [decL_end _ _ _ _ _ _ _ (fun h => absurd h.1 (by simp)), List.append_nil]
    rfl
  | cons p l ih =>
    intro bs rest k at' last acc hl0 h0 h1 hc hd hk hb
    obtain ⟨k, rfl⟩ : ∃ m, k = m + 1 := ⟨k - 1, by simp at hk; omega⟩
    obtain ⟨hw, hlt, hc'⟩ := hc
    unfold wfP at hw
    have hle : last ≤ p.f0 := by
      by_cases ha : acc = []
      · have := hl0 ha; omega
      · have : ((acc.length : Int) == 0) = false := by rw [beq_eq_false_iff_ne]; intro h; exact ha (List.eq_nil_of_length_eq_zero (by omega))
        exact Int.le_of_lt (hlt this)
    have hdd : IntKind.u64.wrap (p.f0 - last) = p.f0 - last := u64_wrap_id _ (by omega) (by omega)
    have hpk : pairsS last (p :: l) = numS (p.f0 - last) ++ (numS p.f1 ++ pairsS p.f0 l) := by rw [pairsS, hdd, List.append_assoc]
    rw [hpk, List.append_assoc, List.append_assoc] at hd
    have n1 := numX_round bs _ at' (p.f0 - last) (by omega) (by omega) hd
    have hd2 := drop_add bs _ _ at' hd
    have n2 := numX_round bs _ (at' + (numS (p.f0 - last)).length) p.f1 hw.2.2.1 hw.2.2.2 hd2
    have hd3 := drop_add bs _ _ _ hd2
    have hkey : IntKind.u64.wrap (last + (p.f0 - last)) = p.f0 := by rw [show last + (p.f0 - last) = p.f0 by omega]; exact u64_wrap_id _ hw.1 hw.2.1
    have hP : pairX bs (at' : Int) 0 last ((acc.length : Int) == 0) = ((p.f0, p.f1), ((at' + (numS (p.f0 - last)).length + (numS p.f1).length : Nat) : Int), 0) := by
      unfold pairX
      dsimp only
      rw [n1]
      dsimp only
      rw [hkey, if_neg, n2]
      rintro ⟨h2, -, h3⟩
      have := hlt h2
      omega
    rw [decL, if_pos ⟨by simp, rfl⟩, hP]
    dsimp only
    rw [show IntKind.u64.wrap (((p :: l).length : Int) - 1) = (l.length : Int) by rw [show (((p :: l).length : Nat) : Int) - 1 = (l.length : Int) by simp]; exact u64_wrap_id _ (by omega) (by simp at hb; omega),
      ih bs rest k _ p.f0 (acc ++ [p]) (fun h => absurd h (by simp)) hw.1 hw.2.1 ?_ hd3 (by simp at hk; omega) (by simp at hb; omega)]
    · simp only [Prod.mk.injEq, and_true]
      refine ⟨by simp, ?_⟩
      rw [hpk, List.length_append, List.length_append]
      omega
    · have : (((acc ++ [p]).length : Int) == 0) = false := by rw [beq_eq_false_iff_ne]; simp; omega
      rw [this]
      exact hc'
/-- What is read as pairs was put so. -/
theorem decL_canon (bs : List Int) (hbs : ∀ c ∈ bs, 0 ≤ c ∧ c < 256) (k : Nat) : ∀ (n : Int) (at' : Nat) (last : Int) (acc L : List S82) (a' : Int), 0 ≤ n → n < 18446744073709551616 → at' ≤ bs.length → bs.length - at' < k → (acc = [] → last = 0) → 0 ≤ last → last < 18446744073709551616 →
    decL bs k n at' 0 last acc = (L, a', 0) → ∃ l rest, L = acc ++ l ∧ (l.length : Int) = n ∧ bs.drop at' = pairsS last l ++ rest ∧ a' = ((at' + (pairsS last l).length : Nat) : Int) ∧ chain ((acc.length : Int) == 0) last l := by
  induction k with
  | zero => intro n at' last acc L a' _ _ h1 h2; omega
  | succ k ih =>
    intro n at' last acc L a' hn0 hn1 ha hk hl0 h0 h1 h
    by_cases hn : 0 < n
    · rw [decL, if_pos ⟨hn, rfl⟩] at h
      have hpo := pairX_ok (bs := bs) (at' := at') (e := 0) (last := last) (first := ((acc.length : Int) == 0)) (fun _ => ⟨by omega, by omega⟩)
      -- the pair went well
      have he : (pairX bs (at' : Int) 0 last ((acc.length : Int) == 0)).2.2 = 0 := by
        by_cases hz : (pairX bs (at' : Int) 0 last ((acc.length : Int) == 0)).2.2 = 0
        · exact hz
        · rw [decL_end _ _ _ _ _ _ _ (fun hh => hz hh.2)] at h
          simp only [Prod.mk.injEq] at h
          exact absurd h.2.2 hz
      have hpo' := hpo he
      have hsh : ∃ d v : Int, ∃ r2 : List Int, pairX bs (at' : Int) 0 last ((acc.length : Int) == 0) = ((last + d, v), ((at' + (numS d).length + (numS v).length : Nat) : Int), 0) ∧ bs.drop at' = numS d ++ (numS v ++ r2) ∧ 0 ≤ d ∧ last + d < 18446744073709551616 ∧ 0 ≤ v ∧ v < 18446744073709551616 ∧ (((acc.length : Int) == 0) = false → 0 < d) := by
        clear h ih hpo hpo'
        unfold pairX at he ⊢
        dsimp only at he ⊢
        generalize hN : numX bs (at' : Int) 0 = N at *
        obtain ⟨d, a1, e1⟩ := N
        dsimp only at he ⊢
        by_cases hc : ((acc.length : Int) == 0) = false ∧ e1 = 0 ∧ (d = 0 ∨ IntKind.u64.wrap (last + d) < last)
        · rw [if_pos hc, numX_stay (show (271 : Int) ≠ 0 by decide)] at he
          exact absurd he (show ¬ (271 : Int) = 0 by decide)
        · rw [if_neg hc] at he ⊢
          dsimp only at he ⊢
          have he1 : e1 = 0 := by
            by_cases hz : e1 = 0
            · exact hz
            · rw [numX_stay hz] at he
              exact absurd he hz
          subst he1
          have hN' : numR 0 (at' : Int) 0 (bs.drop at') = (d, a1, 0) := by unfold numX at hN; rw [if_pos rfl, Int.toNat_natCast] at hN; exact hN
          obtain ⟨r1, e2, e3, e4, e5⟩ := numS_canon _ (fun c hc => hbs c (List.mem_of_mem_drop hc)) _ _ _ hN'
          obtain rfl : a1 = ((at' + (numS d).length : Nat) : Int) := by omega
          have hd1 := drop_add bs _ _ at' e2
          generalize hM : numX bs ((at' + (numS d).length : Nat) : Int) 0 = M at *
          obtain ⟨v, a2, e6⟩ := M
          dsimp only at he ⊢
          subst he
          have hM' : numR 0 ((at' + (numS d).length : Nat) : Int) 0 (bs.drop (at' + (numS d).length)) = (v, a2, 0) := by unfold numX at hM; rw [if_pos rfl, Int.toNat_natCast] at hM; exact hM
          obtain ⟨r2, f2, f3, f4, f5⟩ := numS_canon _ (fun c hc => hbs c (List.mem_of_mem_drop hc)) _ _ _ hM'
          rw [hd1] at f2
          have hsum : last + d < 18446744073709551616 := by
            by_cases hf : ((acc.length : Int) == 0) = false
            · have h2 : ¬ IntKind.u64.wrap (last + d) < last := fun hh => hc ⟨hf, rfl, .inr hh⟩
              rw [IntKind.wrap_u64] at h2
              omega
            · have : acc = [] := by
                have : ((acc.length : Int) == 0) = true := by simpa using hf
                rw [beq_iff_eq] at this
                exact List.eq_nil_of_length_eq_zero (by omega)
              have := hl0 this
              omega
          refine ⟨d, v, r2, ?_, ?_, e4, hsum, f4, f5, fun hf => ?_⟩
          · rw [u64_wrap_id _ (by omega) hsum, show a2 = ((at' + (numS d).length + (numS v).length : Nat) : Int) by omega]
          · rw [e2, f2]
          · have h2 : ¬ d = 0 := fun hh => hc ⟨hf, rfl, .inl hh⟩
            omega
      obtain ⟨d, v, r2, hP, hd, g1, g2, g3, g4, g5⟩ := hsh
      rw [hP] at h hpo'
      dsimp only at h hpo'
      rw [u64_wrap_id (n - 1) (by omega) (by omega)] at h
      obtain ⟨l, rest, e1, e2, e3, e4, e5⟩ := ih (n - 1) _ (last + d) _ L a' (by omega) (by omega) (by have := hpo'.2.1; omega) (by have := hpo'.1; omega) (fun hh => absurd hh (by simp)) (by omega) g2 h
      have hd3 : bs.drop (at' + (numS d).length + (numS v).length) = r2 := by
        have := drop_add bs _ _ at' hd
        exact drop_add bs _ _ _ this
      rw [hd3] at e3
      have hpk : pairsS last ((⟨last + d, v⟩ : S82) :: l) = numS d ++ (numS v ++ pairsS (last + d) l) := by
        rw [pairsS, show last + d - last = d by omega, u64_wrap_id d g1 (by omega), List.append_assoc]
      refine ⟨⟨last + d, v⟩ :: l, rest, ?_, ?_, ?_, ?_, ⟨⟨by show 0 ≤ last + d; omega, g2, g3, g4⟩, fun hf => ?_, ?_⟩⟩
      · rw [e1, List.append_assoc]; rfl
      · rw [List.length_cons]; omega
      · rw [hd, hpk, e3]; simp
      · rw [e4, hpk, List.length_append, List.length_append]; omega
      · have := g5 hf
        show last < last + d
        omega
      · have : (((acc ++ [(⟨last + d, v⟩ : S82)]).length : Int) == 0) = false := by rw [beq_eq_false_iff_ne]; simp; omega
        rw [this] at e5
        exact e5
    · rw [decL_end _ _ _ _ _ _ _ (fun hh => hn hh.1)] at h
      simp only [Prod.mk.injEq, and_true] at h
      refine ⟨[], bs.drop at', by rw [List.append_nil]; exact h.1.symm, by simp; omega, rfl, by rw [← h.2]; rfl, trivial⟩
theorem startL_round (rest : List Int) : startX ([83, 72, 85, 49] ++ rest) = (4, 0) := by
  unfold startX
  simp [startL]
theorem startX_canon (bs : List Int) (h : (startX bs).2 = 0) : ∃ rest, bs = [83, 72, 85, 49] ++ rest := by
  unfold startX at h
  match bs with
  | [] => exact absurd h (by decide)
  | [a] => simp only [startL] at h; split at h <;> exact absurd h (by decide)
  | [a, b] => simp only [startL] at h; (repeat' split at h) <;> exact absurd h (by decide)
  | [a, b, c] => simp only [startL] at h; (repeat' split at h) <;> exact absurd h (by decide)
  | a :: b :: c :: d :: l =>
    simp only [startL] at h
    repeat' split at h
    all_goals first | exact absurd h (by decide) | skip
    rename_i h1 h2 h3 h4
    exact ⟨l, by subst h1 h2 h3 h4; rfl⟩
theorem pairs_ge (l : List S82) : ∀ last, l.length ≤ (pairsS last l).length := by
  induction l with
  | nil => intro _; simp
  | cons p l ih =>
    intro last
    have h1 := numN_pos 9 (IntKind.u64.wrap (p.f0 - last))
    have h2 := ih p.f0
    simp only [pairsS, List.length_append, List.length_cons, numS]
    omega
/-- Decode of Encode, with bytes behind it or none. -/
theorem decX_round (l : List S82) (ext : List Int) (hw : ∀ p ∈ l, wfP p) (hr : risingS l = true) (hl : l.length < 4398046511104) : decX (encS l ++ ext) = if ext = [] then (l, 0, 0) else ([], 272, ((encS l).length : Int)) := by
  have hb : encS l ++ ext = [83, 72, 85, 49] ++ (numS l.length ++ (pairsS 0 l ++ (fixedS (sumS 2166136261 (bodyS l)) ++ ext))) := by simp [encS, bodyS]
  have hB : bodyS l = [83, 72, 85, 49] ++ (numS l.length ++ pairsS 0 l) := by simp [bodyS]
  unfold decX
  dsimp only
  have hs : startX (encS l ++ ext) = (4, 0) := by rw [hb]; exact startL_round _
  rw [hs]
  dsimp only
  have hd4 : (encS l ++ ext).drop 4 = numS l.length ++ (pairsS 0 l ++ (fixedS (sumS 2166136261 (bodyS l)) ++ ext)) := by rw [hb]; rfl
  have hn := numX_round (encS l ++ ext) _ 4 (l.length : Int) (by omega) (by omega) hd4
  rw [show ((4 : Nat) : Int) = 4 from rfl] at hn
  rw [hn]
  dsimp only
  have hd5 := drop_add _ _ _ 4 hd4
  have hlen : l.length ≤ (encS l ++ ext).length := by
    have : l.length ≤ (pairsS 0 l).length := pairs_ge l 0
    rw [hb]
    simp only [List.length_append]
    omega
  have hD := decL_round l (encS l ++ ext) _ ((encS l ++ ext).length + 1) (4 + (numS (l.length : Int)).length) 0 [] (fun _ => rfl) (by omega) (by decide) (chain_of l hw true 0 hr (fun p hp h => by cases h)) hd5 (by omega) (by omega)
  rw [hD]
  dsimp only
  have hat : 4 + (numS (l.length : Int)).length + (pairsS 0 l).length = (bodyS l).length := by rw [hB]; simp [List.length_append]; omega
  rw [hat]
  have htake : (encS l ++ ext).take (bodyS l).length = bodyS l := by rw [encS, List.append_assoc, List.take_left]
  have hdrop : (encS l ++ ext).drop (bodyS l).length = fixedS (sumS 2166136261 (bodyS l)) ++ ext := by rw [encS, List.append_assoc, List.drop_left]
  have hfl : ∀ s, (fixedS s).length = 4 := fun _ => rfl
  have htot : (encS l ++ ext).length = (bodyS l).length + (4 + ext.length) := by rw [encS, List.append_assoc, List.length_append, List.length_append, hfl]
  have h4 : ((fixedS (sumS 2166136261 (bodyS l)) ++ ext).take 4 == fixedS (sumS 2166136261 (bodyS l))) = true := by
    rw [beq_iff_eq, ← hfl (sumS 2166136261 (bodyS l)), List.take_left]
  unfold finX
  rw [if_pos rfl, Int.toNat_natCast, htake, hdrop, h4, htot, if_neg (show ¬ ((((bodyS l).length + (4 + ext.length) : Nat) : Int) - ((bodyS l).length : Int) < 4) by omega), if_neg (show ¬ (true = false) by decide)]
  by_cases he : ext = []
  · subst he
    rw [if_neg (show ¬ ((((bodyS l).length + (4 + ([] : List Int).length) : Nat) : Int) - ((bodyS l).length : Int) > 4) by simp only [List.length_nil]; omega), if_pos rfl, if_pos rfl]
    rfl
  · have : 0 < ext.length := List.length_pos_iff.2 he
    rw [if_pos (show ((((bodyS l).length + (4 + ext.length) : Nat) : Int) - ((bodyS l).length : Int) > 4) by omega), if_neg he, if_neg (show ¬ ((272 : Int) = 0) by decide)]
    rw [encS, List.length_append, hfl]
    simp
/-- What Decode takes Encode writes. -/
theorem decX_canon (bs : List Int) (p : List S82) (n : Int) (hbs : ∀ c ∈ bs, 0 ≤ c ∧ c < 256) (hl : bs.length < 4398046511104) (h : decX bs = (p, 0, n)) : risingS p = true ∧ (∀ x ∈ p, wfP x) ∧ encS p = bs ∧ n = 0 := by
  unfold decX at h
  dsimp only at h
  have hok := startX_ok bs
  have hsc := startX_canon bs
  generalize hs : startX bs = s at *
  obtain ⟨a, e⟩ := s
  dsimp only at *
  by_cases he : e = 0
  · subst he
    obtain ⟨rest, rfl⟩ := hsc rfl
    have ha : a = 4 := by rw [startL_round] at hs; injection hs with h1; exact h1.symm
    subst ha
    have hn1 : numX ([83, 72, 85, 49] ++ rest) 4 0 = numR 0 4 0 rest := rfl
    rw [hn1] at h
    generalize hN : numR 0 4 0 rest = N at *
    obtain ⟨m, a1, e1⟩ := N
    dsimp only at *
    by_cases he1 : e1 = 0
    · subst he1
      obtain ⟨r1, e2, e3, e4, e5⟩ := numS_canon _ (fun c hc => hbs c (by simp [hc])) _ _ _ hN
      obtain rfl : a1 = ((4 + (numS m).length : Nat) : Int) := by omega
      have hd1 : ([83, 72, 85, 49] ++ rest).drop (4 + (numS m).length) = r1 := drop_add _ (numS m) r1 4 (by rw [e2]; rfl)
      have hle : 4 + (numS m).length ≤ ([83, 72, 85, 49] ++ rest).length := by rw [e2]; simp; omega
      generalize hD : decL ([83, 72, 85, 49] ++ rest) (([83, 72, 85, 49] ++ rest).length + 1) m ((4 + (numS m).length : Nat) : Int) 0 0 [] = D at *
      obtain ⟨L, a2, e6⟩ := D
      dsimp only at *
      by_cases he6 : e6 = 0
      · subst he6
        obtain ⟨l, r2, f1, f2, f3, f4, f5⟩ := decL_canon _ hbs _ m _ 0 [] L a2 e4 e5 hle (by omega) (fun _ => rfl) (by omega) (by decide) hD
        rw [List.nil_append] at f1
        subst f1
        obtain ⟨g1, g2⟩ := chain_rising L _ _ f5
        rw [hd1] at f3
        have hB : [83, 72, 85, 49] ++ rest = bodyS L ++ r2 := by rw [e2, f3, ← f2]; simp [bodyS]
        have hat : a2 = ((bodyS L).length : Int) := by rw [f4, ← f2]; simp [bodyS, List.length_append]; omega
        subst hat
        have htake : ([83, 72, 85, 49] ++ rest).take (bodyS L).length = bodyS L := by rw [hB, List.take_left]
        have hdrop : ([83, 72, 85, 49] ++ rest).drop (bodyS L).length = r2 := by rw [hB, List.drop_left]
        have htot : ([83, 72, 85, 49] ++ rest).length = (bodyS L).length + r2.length := by rw [hB, List.length_append]
        unfold finX at h
        rw [if_pos rfl, Int.toNat_natCast, htake, hdrop, htot] at h
        by_cases c1 : (((bodyS L).length + r2.length : Nat) : Int) - ((bodyS L).length : Int) < 4
        · rw [if_pos c1] at h
          exact absurd h (by simp)
        · rw [if_neg c1] at h
          by_cases c2 : (r2.take 4 == fixedS (sumS 2166136261 (bodyS L))) = false
          · rw [if_pos c2] at h
            exact absurd h (by simp)
          · rw [if_neg c2] at h
            by_cases c3 : (((bodyS L).length + r2.length : Nat) : Int) - ((bodyS L).length : Int) > 4
            · rw [if_pos c3] at h
              exact absurd h (by simp)
            · rw [if_neg c3, if_pos rfl] at h
              simp only [Prod.mk.injEq, true_and] at h
              obtain ⟨rfl, rfl⟩ := h
              refine ⟨g1, g2, ?_, rfl⟩
              have c4 : r2.take 4 = fixedS (sumS 2166136261 (bodyS L)) := by
                have : (r2.take 4 == fixedS (sumS 2166136261 (bodyS L))) = true := by simpa using c2
                rwa [beq_iff_eq] at this
              rw [List.take_of_length_le (by omega)] at c4
              rw [hB, encS, c4]
      · exfalso
        unfold finX at h
        rw [if_neg he6, if_neg he6] at h
        simp only [Prod.mk.injEq] at h
        exact he6 h.2.1
    · exfalso
      rw [decL_end _ _ _ _ _ _ _ (fun hh => he1 hh.2)] at h
      unfold finX at h
      dsimp only at h
      rw [if_neg he1, if_neg he1] at h
      simp only [Prod.mk.injEq] at h
      exact he1 h.2.1
  · exfalso
    rw [numX_stay he, decL_end _ _ _ _ _ _ _ (fun hh => he hh.2)] at h
    unfold finX at h
    dsimp only at h
    rw [if_neg he, if_neg he] at h
    simp only [Prod.mk.injEq] at h
    exact he h.2.1
end Go.Proofs.Ythblincfnfpgbaa.Q
-- Written by a program of this session over the kit's print.py, which was handed contracts that were proved by hand. Lean checks it.
namespace Go.Proofs.Ythblincfnfpgbaa.Q
open Go.RowKit Go.Proofs.YthblincfnfpgbaaW.PrintWords Go.Proofs.YthblincfnfpgbaaW.PrintLast Go.Proofs.YthblincfnfpgbaaW.PrintMore
attribute [local go_sem] max2_int min2_int max_two min_two max_three min_three max_four min_four   -- for this text's walks alone
set_option linter.unusedVariables false
set_option linter.unusedSimpArgs false

theorem eqA102 (d : Nat) (w : World) (x0 y0 : Int) (x1 y1 : Bool) (x2 y2 : Bool) (x3 y3 : Int) (x4 y4 : Int) :
    (Op.equalIn (d + 2) 102 (.agg #[.int .u64 x0, .bool x1, .bool x2, .int .u64 x3, .int .u64 x4]) (.agg #[.int .u64 y0, .bool y1, .bool y2, .int .u64 y3, .int .u64 y4])).run Try.prog w = .ok (x0 == y0 && (x1 == y1 && (x2 == y2 && (x3 == y3 && (x4 == y4))))) w := by
  refine eqA_of Try.underlying102 (by kernel_rfl) ?_
  refine eqf_cons (by rfl) (by go_simp; rfl) (by go_simp; rfl) (by go_simp) ?_
  refine eqf_cons (by rfl) (by go_simp; rfl) (by go_simp; rfl) (by go_simp) ?_
  refine eqf_cons (by rfl) (by go_simp; rfl) (by go_simp; rfl) (by go_simp) ?_
  refine eqf_cons (by rfl) (by go_simp; rfl) (by go_simp; rfl) (by go_simp) ?_
  exact eqf_last (by rfl) (by go_simp; rfl) (by go_simp; rfl) (by go_simp)
end Go.Proofs.Ythblincfnfpgbaa.Q
-- Written by a program of this session over the kit's print.py, which was handed contracts that were proved by hand. Lean checks it.
namespace Go.Proofs.Ythblincfnfpgbaa.Q
open Go.RowKit Go.Proofs.YthblincfnfpgbaaW.PrintWords Go.Proofs.YthblincfnfpgbaaW.PrintLast Go.Proofs.YthblincfnfpgbaaW.PrintMore
attribute [local go_sem] max2_int min2_int max_two min_two max_three min_three max_four min_four   -- for this text's walks alone
set_option linter.unusedVariables false
set_option linter.unusedSimpArgs false

attribute [local go_sem high] eqA102
/-! ### shutterlaw27_same: function 19 -/
def shutterlaw27_same.l0 : Nat → List (S102) → List (S102) → Int → Option (Bool)
  | 0, _, _, _ => none
  | k + 1, x0, x1, x5 => if x5 < (x0.length : Int) then (if 0 ≤ x5 then (if x5 < (x1.length : Int) then (if (!(((rd_T102 x0 x5).f0) == ((rd_T102 x1 x5).f0)) || (!(((rd_T102 x0 x5).f1) == ((rd_T102 x1 x5).f1)) || (!(((rd_T102 x0 x5).f2) == ((rd_T102 x1 x5).f2)) || (!(((rd_T102 x0 x5).f3) == ((rd_T102 x1 x5).f3)) || (!(((rd_T102 x0 x5).f4) == ((rd_T102 x1 x5).f4))))))) = true then (some false) else (shutterlaw27_same.l0 k x0 x1 (wrap64 (x5 + 1)))) else (none)) else (none)) else (some true)
def shutterlaw27_same.f (k : Nat) (l0 : List (S102)) (l1 : List (S102)) : Option (Bool) := if (l0.length : Int) = (l1.length : Int) then (shutterlaw27_same.l0 k l0 l1 0) else (some false)
theorem shutterlaw27_same.mono_l : ∀ k, (∀ y0 y1 y2, LeO (shutterlaw27_same.l0 k y0 y1 y2) (shutterlaw27_same.l0 (k + 1) y0 y1 y2))
  | 0 => fun _ _ _ r h => by simp [shutterlaw27_same.l0] at h
  | k + 1 => by
    have ih0 := shutterlaw27_same.mono_l k
    · intro y0 y1 y2
      unfold shutterlaw27_same.l0
      repeat' first
      | (with_reducible exact ih0 _ _ _)
      | (with_reducible exact LeO.refl _)
      | (with_reducible exact LeO.none _)
      | (with_reducible refine LeO.ite ?_ ?_)
      | (with_reducible refine LeO.bind ?_ (fun _ => ?_))
      | exact ih0 _ _ _
      | exact LeO.none _
      | refine LeO.ite ?_ ?_
      | refine LeO.bind ?_ (fun _ => ?_)
theorem shutterlaw27_same.mono : ∀ a0 a1 k, LeO (shutterlaw27_same.f k a0 a1) (shutterlaw27_same.f (k + 1) a0 a1) := by
  intro a0 a1 k
  have ih0 := shutterlaw27_same.mono_l k
  unfold shutterlaw27_same.f
  repeat' first
      | (with_reducible exact ih0 _ _ _)
      | (with_reducible exact LeO.refl _)
      | (with_reducible exact LeO.none _)
      | (with_reducible refine LeO.ite ?_ ?_)
      | (with_reducible refine LeO.bind ?_ (fun _ => ?_))
      | exact ih0 _ _ _
      | exact LeO.none _
      | refine LeO.ite ?_ ?_
      | refine LeO.bind ?_ (fun _ => ?_)
set_option maxHeartbeats 8000000 in
set_option maxRecDepth 100000 in
theorem shutterlaw27_same.calls (k : Nat) (A0 : Option Addr) (c0 : Nat) (l0 : List (S102)) (A1 : Option Addr) (c1 : Nat) (l1 : List (S102)) (r : Bool) (w : World) (hr0 : Kd.C k102 w A0 l0.length l0) (hc0 : l0.length ≤ c0) (hr1 : Kd.C k102 w A1 l1.length l1) (hc1 : l1.length ≤ c1) (h : shutterlaw27_same.f k l0 l1 = some r) :
    Calls Try.prog 19 #[.slice A0 l0.length c0, .slice A1 l1.length c1] w fun e w' => e = .returned (.bool r) ∧ Drawn0 w w' := by
  have hu102 := Try.underlying102
  have HR0 := Aside0.mk hr0
  have HC0 := Aside0.mk hc0
  clear hr0 hc0
  have HR1 := Aside0.mk hr1
  have HC1 := Aside0.mk hc1
  clear hr1 hc1
  have H : (if (l0.length : Int) = (l1.length : Int) then (shutterlaw27_same.l0 k l0 l1 0) else (some false)) = some r := h
  clear h
  by_cases c3 : (l0.length : Int) = (l1.length : Int)
  · rw [if_pos c3] at H
    have c3b0 : ((l0.length : Int) == (l1.length : Int)) = true := beq_iff_eq.mpr c3
    have c3b1 : ((l0.length : Int) != (l1.length : Int)) = false := bne_eq_false_iff_eq.mpr c3
    have c3b2 : (l0.length == l1.length) = true := by first | simpa using c3 | (simp at c3 ⊢; omega)
    clear c3
    have H' := Aside0.mk H
    clear H
    go_enter Try.func19, Try.ntmps19
    go_wp2
    repeat (go_quiet (fail); try go_wp2)
    go_loopg [5] k (fun kq v5 w' => ∃ (x5_1 : Int), v5 = .int .i64 x5_1 ∧ Aside0 (shutterlaw27_same.l0 kq l0 l1 x5_1 = some r) ∧ Aside0 (kq ≤ k) ∧ Drawn0 w w')
    case atStart => exact ⟨(0), (by first | rfl | (simp; done) | (simp [*]; done)), H', ⟨Nat.le_refl _⟩, by repeat (first | exact Drawn0.refl _ | apply Drawn0.step)⟩
    case round =>
      clear H'
      try clear c1
      try clear p2
      try clear c3
      try clear c3b0
      try clear c3b1
      try clear c3b2
      obtain ⟨x5_1, rfl, HA, HK1, ⟨m1, rfl⟩⟩ := hrel
      cases gk with
      | zero => exact absurd HA.out (by simp [shutterlaw27_same.l0])
      | succ k1 =>
        have H := HA.out
        clear HA
        simp only [shutterlaw27_same.l0] at H
        by_cases c4 : x5_1 < (l0.length : Int)
        · rw [if_pos c4] at H
          have c4b0 : decide (x5_1 < (l0.length : Int)) = true := decide_eq_true c4
          clear c4
          by_cases c5 : 0 ≤ x5_1
          · rw [if_pos c5] at H
            have c5b0 : decide (0 ≤ x5_1) = true := decide_eq_true c5
            clear c5
            by_cases c6 : x5_1 < (l1.length : Int)
            · rw [if_pos c6] at H
              have c6b0 : decide (x5_1 < (l1.length : Int)) = true := decide_eq_true c6
              clear c6
              by_cases c7 : (!(((rd_T102 l0 x5_1).f0) == ((rd_T102 l1 x5_1).f0)) || (!(((rd_T102 l0 x5_1).f1) == ((rd_T102 l1 x5_1).f1)) || (!(((rd_T102 l0 x5_1).f2) == ((rd_T102 l1 x5_1).f2)) || (!(((rd_T102 l0 x5_1).f3) == ((rd_T102 l1 x5_1).f3)) || (!(((rd_T102 l0 x5_1).f4) == ((rd_T102 l1 x5_1).f4))))))) = true
              · rw [if_pos c7] at H
                have c7b0 : (!(((rd_T102 l0 x5_1).f0) == ((rd_T102 l1 x5_1).f0)) || (!(((rd_T102 l0 x5_1).f1) == ((rd_T102 l1 x5_1).f1)) || (!(((rd_T102 l0 x5_1).f2) == ((rd_T102 l1 x5_1).f2)) || (!(((rd_T102 l0 x5_1).f3) == ((rd_T102 l1 x5_1).f3)) || (!(((rd_T102 l0 x5_1).f4) == ((rd_T102 l1 x5_1).f4))))))) = true := c7
                clear c7
                obtain rfl := Option.some.inj H
                have p204 : 0 ≤ (x5_1 : Int) := of_decide_eq_true (by first | (with_reducible assumption) | assumption)
                have q204 : x5_1 < (l0.length : Int) := of_decide_eq_true (by first | (with_reducible assumption) | assumption)
                obtain ⟨ad204, e204, hx204_0, hx204_1, hx204_2, hx204_3, hx204_4⟩ := at_T102 HR0.out x5_1 p204 q204
                cases e204
                replace p204 := eq_true p204
                replace q204 := eq_true q204
                have p205 : 0 ≤ (x5_1 : Int) := of_decide_eq_true (by first | (with_reducible assumption) | assumption)
                have q205 : x5_1 < (l1.length : Int) := of_decide_eq_true (by first | (with_reducible assumption) | assumption)
                obtain ⟨ad205, e205, hx205_0, hx205_1, hx205_2, hx205_3, hx205_4⟩ := at_T102 HR1.out x5_1 p205 q205
                cases e205
                replace p205 := eq_true p205
                replace q205 := eq_true q205
                go_wp2
                repeat (go_quiet (fail); try go_wp2)
                go_ret
                exact ⟨by first | rfl | (simp; done) | (simp [*]; done), by repeat (first | exact Drawn0.refl _ | apply Drawn0.step)⟩
              · rw [if_neg c7] at H
                have c7b0 : (!(((rd_T102 l0 x5_1).f0) == ((rd_T102 l1 x5_1).f0)) || (!(((rd_T102 l0 x5_1).f1) == ((rd_T102 l1 x5_1).f1)) || (!(((rd_T102 l0 x5_1).f2) == ((rd_T102 l1 x5_1).f2)) || (!(((rd_T102 l0 x5_1).f3) == ((rd_T102 l1 x5_1).f3)) || (!(((rd_T102 l0 x5_1).f4) == ((rd_T102 l1 x5_1).f4))))))) = false := by simpa using c7
                clear c7
                have H' := Aside0.mk H
                clear H
                have p204 : 0 ≤ (x5_1 : Int) := of_decide_eq_true (by first | (with_reducible assumption) | assumption)
                have q204 : x5_1 < (l0.length : Int) := of_decide_eq_true (by first | (with_reducible assumption) | assumption)
                obtain ⟨ad204, e204, hx204_0, hx204_1, hx204_2, hx204_3, hx204_4⟩ := at_T102 HR0.out x5_1 p204 q204
                cases e204
                replace p204 := eq_true p204
                replace q204 := eq_true q204
                have p205 : 0 ≤ (x5_1 : Int) := of_decide_eq_true (by first | (with_reducible assumption) | assumption)
                have q205 : x5_1 < (l1.length : Int) := of_decide_eq_true (by first | (with_reducible assumption) | assumption)
                obtain ⟨ad205, e205, hx205_0, hx205_1, hx205_2, hx205_3, hx205_4⟩ := at_T102 HR1.out x5_1 p205 q205
                cases e205
                replace p205 := eq_true p205
                replace q205 := eq_true q205
                go_wp2
                repeat (go_quiet (fail); try go_wp2)
                go_roundg k1
                case measure => have := HK1.out; omega
                case rel => exact ⟨(wrap64 (x5_1 + 1)), (by first | rfl | (simp; done) | (simp [*]; done)), H', ⟨by have := HK1.out; omega⟩, by repeat (first | exact Drawn0.refl _ | apply Drawn0.step)⟩
            · rw [if_neg c6] at H
              exact absurd H (by simp)
          · rw [if_neg c5] at H
            exact absurd H (by simp)
        · rw [if_neg c4] at H
          have c4b0 : decide (x5_1 < (l0.length : Int)) = false := decide_eq_false c4
          clear c4
          obtain rfl := Option.some.inj H
          go_wp2
          repeat (go_quiet (fail); try go_wp2)
          go_ret
          exact ⟨by first | rfl | (simp; done) | (simp [*]; done), by repeat (first | exact Drawn0.refl _ | apply Drawn0.step)⟩
  · rw [if_neg c3] at H
    have c3b0 : ((l0.length : Int) == (l1.length : Int)) = false := beq_eq_false_iff_ne.mpr c3
    have c3b1 : ((l0.length : Int) != (l1.length : Int)) = true := bne_iff_ne.mpr c3
    have c3b2 : (l0.length == l1.length) = false := by first | simpa using c3 | (simp at c3 ⊢; omega)
    obtain rfl := Option.some.inj H
    go_enter Try.func19, Try.ntmps19
    go_wp2
    repeat (go_quiet (fail); try go_wp2)
    go_ret
    exact ⟨by first | rfl | (simp; done) | (simp [*]; done), by repeat (first | exact Drawn0.refl _ | apply Drawn0.step)⟩

end Go.Proofs.Ythblincfnfpgbaa.Q
namespace Go.Proofs.Ythblincfnfpgbaa.Q
open Go.RowKit Go.Proofs.YthblincfnfpgbaaW.PrintWords Go.Proofs.YthblincfnfpgbaaW.PrintLast Go.Proofs.YthblincfnfpgbaaW.PrintMore
set_option linter.unusedVariables false
theorem rd30p (l : List S30) (i : Int) (k : Nat) (hk : i = k) (h : k < l.length) : rd_T30 l i = l[k] := by
  subst hk; unfold rd_T30; simp [List.getD_eq_getElem?_getD, List.getElem?_eq_getElem h]
theorem rd102 (l : List S102) (i : Int) (k : Nat) (hk : i = k) (h : k < l.length) : rd_T102 l i = l[k] := by
  subst hk; unfold rd_T102; simp [List.getD_eq_getElem?_getD, List.getElem?_eq_getElem h]
theorem samePairs_n (l : List S82) (hl : l.length < 4398046511104) (d : Nat) : ∀ (k i : Nat), i + d = l.length → d < k → shutterref11_SamePairs.l0 k l l i = some true := by
  induction d with
  | zero =>
    intro k i h hk
    obtain ⟨k, rfl⟩ : ∃ m, k = m + 1 := ⟨k - 1, by omega⟩
    simp only [shutterref11_SamePairs.l0]
    rw [if_neg (by omega)]
  | succ d ih =>
    intro k i h hk
    obtain ⟨k, rfl⟩ : ∃ m, k = m + 1 := ⟨k - 1, by omega⟩
    simp only [shutterref11_SamePairs.l0]
    rw [if_pos (by omega), if_pos (by omega), if_pos (by omega), if_neg (by simp), w1 i (by omega)]
    exact ih k (i + 1) (by omega) (by omega)
theorem samePairs_f (l : List S82) (hl : l.length < 4398046511104) : ∃ k, shutterref11_SamePairs.f k l l = some true :=
  ⟨l.length + 1, by unfold shutterref11_SamePairs.f; rw [if_pos rfl]; exact samePairs_n l hl l.length _ 0 (by omega) (by omega)⟩
theorem same_n (l : List S102) (hl : l.length < 4398046511104) (d : Nat) : ∀ (k i : Nat), i + d = l.length → d < k → shutterlaw27_same.l0 k l l i = some true := by
  induction d with
  | zero =>
    intro k i h hk
    obtain ⟨k, rfl⟩ : ∃ m, k = m + 1 := ⟨k - 1, by omega⟩
    simp only [shutterlaw27_same.l0]
    rw [if_neg (by omega)]
  | succ d ih =>
    intro k i h hk
    obtain ⟨k, rfl⟩ : ∃ m, k = m + 1 := ⟨k - 1, by omega⟩
    simp only [shutterlaw27_same.l0]
    rw [if_pos (by omega), if_pos (by omega), if_pos (by omega), if_neg (by simp), w1 i (by omega)]
    exact ih k (i + 1) (by omega) (by omega)
theorem same_f (l : List S102) (hl : l.length < 4398046511104) : ∃ k, shutterlaw27_same.f k l l = some true :=
  ⟨l.length + 1, by unfold shutterlaw27_same.f; rw [if_pos rfl]; exact same_n l hl l.length _ 0 (by omega) (by omega)⟩
theorem turn_n (l : List S30) (hl : l.length < 4398046511104) (d : Nat) : ∀ (k i : Nat) (acc : List S102), i + d = l.length → d < k → acc.length ≤ i → shutterlaw27_turn.l0 k l acc i = some (acc ++ (l.drop i).map cv) := by
  induction d with
  | zero =>
    intro k i acc h hk ha
    obtain ⟨k, rfl⟩ : ∃ m, k = m + 1 := ⟨k - 1, by omega⟩
    simp only [shutterlaw27_turn.l0]
    rw [if_neg (by omega), List.drop_of_length_le (by omega)]
    simp
  | succ d ih =>
    intro k i acc h hk ha
    obtain ⟨k, rfl⟩ : ∃ m, k = m + 1 := ⟨k - 1, by omega⟩
    simp only [shutterlaw27_turn.l0]
    rw [if_pos (by omega), if_pos (by omega), if_pos (by omega), w1 i (by omega), ih k (i + 1) _ (by omega) (by omega) (by simp; omega), rd30p l _ i rfl (by omega), List.drop_eq_getElem_cons (show i < l.length by omega), List.map_cons, List.append_assoc]
    rfl
theorem turn_f (l : List S30) (hl : l.length < 4398046511104) : ∃ k, shutterlaw27_turn.f k l = some (l.map cv) :=
  ⟨l.length + 1, by have := turn_n l hl l.length (l.length + 1) 0 [] (by omega) (by omega) (by simp); simpa [shutterlaw27_turn.f] using this⟩
end Go.Proofs.Ythblincfnfpgbaa.Q
namespace Go.Proofs.Ythblincfnfpgbaa.Q
open Go.RowKit Go.Proofs.YthblincfnfpgbaaW.PrintWords Go.Proofs.YthblincfnfpgbaaW.PrintLast Go.Proofs.YthblincfnfpgbaaW.PrintMore
set_option linter.unusedVariables false
set_option linter.unusedSimpArgs false
theorem numN_byte (m : Nat) : ∀ v : Int, 0 ≤ v → ∀ c ∈ numN m v, 0 ≤ c ∧ c < 256 := by
  induction m with
  | zero => intro v h c hc; rw [numN, List.mem_singleton] at hc; omega
  | succ m ih =>
    intro v h c hc
    by_cases h128 : 128 ≤ v
    · rw [numN_big m v h128] at hc
      rcases List.mem_cons.1 hc with rfl | hc
      · omega
      · exact ih _ (by omega) c hc
    · rw [numN_small _ v h (by omega), List.mem_singleton] at hc
      omega
theorem pairs_byte (l : List S82) (hw : ∀ p ∈ l, wfP p) : ∀ last, ∀ c ∈ pairsS last l, 0 ≤ c ∧ c < 256 := by
  induction l with
  | nil => intro last c hc; simp [pairsS] at hc
  | cons p l ih =>
    intro last c hc
    have hp := hw p (by simp)
    rw [pairsS, List.mem_append, List.mem_append] at hc
    rcases hc with (hc | hc) | hc
    · exact numN_byte 9 _ (u64_range _).1 c hc
    · exact numN_byte 9 _ hp.2.2.1 c hc
    · exact ih (fun q hq => hw q (by simp [hq])) _ c hc
theorem fixed_byte (s : Int) (h0 : 0 ≤ s) (h1 : s < 4294967296) : ∀ c ∈ fixedS s, 0 ≤ c ∧ c < 256 := by
  intro c hc
  simp only [fixedS, List.mem_cons, List.mem_nil_iff, or_false] at hc
  omega
theorem encS_byte (l : List S82) (hw : ∀ p ∈ l, wfP p) : ∀ c ∈ encS l, 0 ≤ c ∧ c < 256 := by
  intro c hc
  have hs := sumS_range (bodyS l) 2166136261 (by omega) (by omega)
  rw [encS, List.mem_append] at hc
  rcases hc with hc | hc
  · rw [bodyS, List.mem_append, List.mem_append] at hc
    rcases hc with (hc | hc) | hc
    · simp at hc; omega
    · exact numN_byte 9 _ (by omega) c hc
    · exact pairs_byte l hw 0 c hc
  · exact fixed_byte _ hs.1 hs.2 c hc
theorem encS_len (l : List S82) : 9 ≤ (encS l).length ∧ (encS l).length ≤ 18 + 20 * l.length ∧ l.length ≤ (encS l).length := by
  have h1 := numN_pos 9 (l.length : Int)
  have h2 := numN_length 9 (l.length : Int)
  have h3 := pairsS_length l 0
  have h4 := pairs_ge l 0
  simp only [encS, bodyS, List.length_append, fixedS, List.length_cons, List.length_nil, numS]
  omega
theorem decX_bad (bs : List Int) {p : List S82} {e n : Int} (h : decX bs = (p, e, n)) (he : e ≠ 0) : p = [] := by
  unfold decX at h
  dsimp only at h
  split at h
  · simp only [Prod.mk.injEq] at h; exact absurd h.2.1.symm he
  · simp only [Prod.mk.injEq] at h; exact h.1.symm
/-- What is read through is what was written. -/
theorem dec_enc (bs : List Int) (p : List S82) (n : Int) (hbs : ∀ c ∈ bs, 0 ≤ c ∧ c < 256) (hl : bs.length < 4398046511104) (h : decX bs = (p, 0, n)) : risingS p = true ∧ (∀ x ∈ p, wfP x) ∧ encS p = bs ∧ n = 0 ∧ p.length < 4398046511104 := by
  obtain ⟨h1, h2, h3, h4⟩ := decX_canon _ p n hbs hl h
  refine ⟨h1, h2, h3, h4, ?_⟩
  have := (encS_len p).2.2
  rw [h3] at this
  omega
/-- The end lost: it is not taken. -/
theorem hurt_end (l : List S82) (hw : ∀ p ∈ l, wfP p) (hr : risingS l = true) (hl : l.length < 1048577) (k : Nat) (hk : k < (encS l).length) : ∃ e n, decX ((encS l).take k) = ([], e, n) ∧ e ≠ 0 := by
  obtain ⟨p, e, n, h⟩ : ∃ p e n, decX ((encS l).take k) = (p, e, n) := ⟨_, _, _, rfl⟩
  have hb : ∀ c ∈ (encS l).take k, 0 ≤ c ∧ c < 256 := fun c hc => encS_byte l hw c (List.mem_of_mem_take hc)
  have hlen : ((encS l).take k).length < 4398046511104 := by
    have := encS_len l
    rw [List.length_take]
    omega
  by_cases he : e = 0
  · exfalso
    subst he
    obtain ⟨h1, h2, h3, -, hp⟩ := dec_enc _ p n hb hlen h
    have e1 : encS l = encS p ++ (encS l).drop k := by rw [h3, List.take_append_drop]
    have r1 := decX_round l [] hw hr (by omega)
    have r2 := decX_round p ((encS l).drop k) h2 h1 hp
    rw [← e1, if_neg (by intro hh; have := congrArg List.length hh; rw [List.length_drop, List.length_nil] at this; omega)] at r2
    rw [List.append_nil, if_pos rfl, r2] at r1
    simp at r1
  · exact ⟨e, n, by rw [h, decX_bad _ h he], he⟩
theorem samePairs_g (p l : List S82) (he : p.length = l.length) (hl : p.length < 4398046511104) (d : Nat) : ∀ (k i : Nat), i + d = p.length → d < k → ∃ b, shutterref11_SamePairs.l0 k p l i = some b ∧ (b = true ↔ p.drop i = l.drop i) := by
  induction d with
  | zero =>
    intro k i h hk
    obtain ⟨k, rfl⟩ : ∃ m, k = m + 1 := ⟨k - 1, by omega⟩
    refine ⟨true, ?_, ?_⟩
    · simp only [shutterref11_SamePairs.l0]
      rw [if_neg (by omega)]
    · rw [List.drop_of_length_le (by omega), List.drop_of_length_le (by omega)]
      simp
  | succ d ih =>
    intro k i h hk
    obtain ⟨k, rfl⟩ : ∃ m, k = m + 1 := ⟨k - 1, by omega⟩
    have h1 : i < p.length := by omega
    have h2 : i < l.length := by omega
    obtain ⟨b, e1, e2⟩ := ih k (i + 1) (by omega) (by omega)
    simp only [shutterref11_SamePairs.l0]
    rw [if_pos (by omega), if_pos (by omega), if_pos (by omega), rd82 p _ i rfl h1, rd82 l _ i rfl h2, w1 i (by omega), e1, List.drop_eq_getElem_cons h1, List.drop_eq_getElem_cons h2]
    by_cases hq : p[i] = l[i]
    · refine ⟨b, by rw [hq, if_neg (by simp)], ?_⟩
      rw [e2, hq, List.cons.injEq]
      exact ⟨fun h => ⟨rfl, h⟩, fun h => h.2⟩
    · refine ⟨false, ?_, ⟨fun h => (by cases h), fun h => absurd (List.cons.inj h).1 hq⟩⟩
      rw [if_pos]
      by_cases h5 : p[i].f0 = l[i].f0
      · by_cases h6 : p[i].f1 = l[i].f1
        · exact absurd (by rcases hx : p[i] with ⟨a, b⟩; rcases hy : l[i] with ⟨c, d⟩; rw [hx, hy] at h5 h6; simp only at h5 h6; rw [h5, h6]) hq
        · simp [h6]
      · simp [h5]
/-- SamePairs tells whether they are the same. -/
theorem samePairs_is (p l : List S82) (hl : p.length < 4398046511104) (k : Nat) (hk : p.length < k) : ∃ b, shutterref11_SamePairs.f k p l = some b ∧ (b = true ↔ p = l) := by
  unfold shutterref11_SamePairs.f
  by_cases he : p.length = l.length
  · rw [if_pos (by omega)]
    have := samePairs_g p l he hl p.length k 0 (by omega) hk
    simpa using this
  · rw [if_neg (by omega)]
    exact ⟨false, rfl, by simp; intro h; exact he (by rw [h])⟩
theorem samePairs_yes (l : List S82) (hl : l.length < 4398046511104) (k : Nat) (hk : l.length < k) : shutterref11_SamePairs.f k l l = some true := by
  obtain ⟨b, h1, h2⟩ := samePairs_is l l hl k hk
  rw [h1, h2.2 rfl]
end Go.Proofs.Ythblincfnfpgbaa.Q
namespace Go.Proofs.Ythblincfnfpgbaa.Q
open Go.RowKit Go.Proofs.YthblincfnfpgbaaW.PrintWords Go.Proofs.YthblincfnfpgbaaW.PrintLast Go.Proofs.YthblincfnfpgbaaW.PrintMore
set_option linter.unusedVariables false
set_option linter.unusedSimpArgs false
/-- A row that is read stays, if its block does. -/
theorem C82_block {w w1 : World} {g n : Nat} {xs : List S82} (h : Kd.C k82 w (some ⟨g, 0, none⟩) n xs) (hb : w1.heap[g]? = w.heap[g]?) : Kd.C k82 w1 (some ⟨g, 0, none⟩) n xs := by
  obtain ⟨h1, h2, h3⟩ := h
  refine ⟨h1, h2, fun hp => ?_⟩
  obtain ⟨ad, e, hc⟩ := h3 hp
  refine ⟨ad, e, fun j p hj => ?_⟩
  obtain ⟨cs, q1, q2, q3⟩ := hc j p hj
  refine ⟨cs, q1, q2, fun i u hu => ?_⟩
  have hbl : ∀ k, (ad.add k).block = g := by
    intro k
    injection e with e
    subst e
    unfold Addr.add
    split <;> rfl
  rw [World.cell?_of_block (w := w) (w' := w1) (by rw [hbl]; exact hb)]
  exact q3 i u hu
/-- What was lent stays, if its block does. -/
theorem lent_kept {w w1 : World} {v : Value} {l : List S82} {S : Nat → Prop} (h : Lent w v l) (hk : Kept w w1 S) (hS : ∀ k, v.ownBlock = some k → ¬ S k) : Lent w1 v l := by
  obtain ⟨g, cap, rfl, h2, h3, h4⟩ := h
  exact ⟨g, cap, rfl, h2, C82_block h3 (hk.2 g h4 (hS g rfl)), Nat.lt_of_lt_of_le h4 hk.1⟩
/-- One more row, in a block of its own. -/
theorem Fam.snoc {α : Type} {d : Kd α} {e : Nat} {w : World} {base : Nat} {hs : List Hdr} {X : Nat → List α} (hF : Fam d e w base hs X) {h : Hdr} {xs : List α} (hR : d.R e w base (fun k => (hv h).ownBlock = some k) (hv h) xs) (hn : ∀ k, (hv h).ownBlock = some k → ¬ Blk hs k) :
    Fam d e w base (hs ++ [h]) (upd X hs.length xs) := by
  have key : ∀ (i : Nat) (h' : Hdr), (hs ++ [h])[i]? = some h' → (i < hs.length ∧ hs[i]? = some h') ∨ (i = hs.length ∧ h' = h) := by
    intro i h' hi
    rcases Nat.lt_or_ge i hs.length with hlt | hge
    · rw [List.getElem?_append_left hlt] at hi
      exact .inl ⟨hlt, hi⟩
    · rw [List.getElem?_append_right hge] at hi
      right
      rcases Nat.eq_zero_or_pos (i - hs.length) with h0 | h0
      · rw [h0] at hi
        exact ⟨by omega, (Option.some.inj hi).symm⟩
      · rw [List.getElem?_eq_none (by simp; omega)] at hi
        cases hi
  refine ⟨fun i h' hi => ?_, fun i j h1 h2 hi hj hij k hk hk2 => ?_⟩
  · rcases key i h' hi with ⟨p1, p2⟩ | ⟨p1, rfl⟩
    · rw [upd_other _ _ _ (by omega)]
      exact hF.row i h' p2
    · rw [p1, upd_same]
      exact hR
  · rcases key i h1 hi with ⟨p1, p2⟩ | ⟨p1, rfl⟩
    · rcases key j h2 hj with ⟨q1, q2⟩ | ⟨q1, rfl⟩
      · exact hF.apart i j h1 h2 p2 q2 hij k hk hk2
      · exact hn k hk2 ⟨h1, List.mem_of_getElem? p2, hk⟩
    · rcases key j h2 hj with ⟨q1, q2⟩ | ⟨q1, rfl⟩
      · exact hn k hk ⟨h2, List.mem_of_getElem? q2, hk2⟩
      · omega
theorem size20 {cs cs' : Array Value} (h : ∀ j, 0 < j → cs'[j]? = cs[j]?) (hc : cs.size = 20) : cs'.size = 20 := by
  have h19 := h 19 (by decide)
  have h20 := h 20 (by decide)
  rw [Array.getElem?_eq_none (by omega : cs.size ≤ 20)] at h20
  have h5 := Array.getElem?_eq_none_iff.1 h20
  rw [Array.getElem?_eq_getElem (by omega : 19 < cs.size)] at h19
  have h6 := (Array.getElem?_eq_some_iff.1 h19).1
  omega
theorem lent_not {w : World} {v : Value} {l : List S82} {g : Nat} {cs : Array Value} (h : Lent w v l) (hb : w.heap[g]? = some (.cells cs 79 (0, 0))) (h0 : cs[0]? = some (.slice none 0 0)) : ∀ k, v.ownBlock = some k → k ≠ g := by
  rintro k hk rfl
  obtain ⟨g', cap, rfl, h2, ⟨-, -, h3⟩, h4⟩ := h
  simp only [Value.ownBlock, Option.some.injEq] at hk
  subst hk
  obtain ⟨ad, e, hc⟩ := h3 (by simp)
  injection e with e
  subst e
  obtain ⟨p, hp⟩ : ∃ p, (l ++ [(⟨77, 77⟩ : S82)])[0]? = some p := ⟨_, List.getElem?_eq_getElem (by simp)⟩
  obtain ⟨c, q1, q2, q3⟩ := hc 0 p hp
  have hcc := k82_open q2
  subst hcc
  have h5 := q3 0 _ rfl
  simp only [Nat.zero_mul, Nat.add_zero] at h5
  have h6 : (⟨g', 0, none⟩ : Addr).add 0 = ⟨g', 0, none⟩ := rfl
  rw [h6, cell_of_row w g' 0 cs 79 (0, 0) hb, h0] at h5
  cases h5
theorem blk_type {α : Type} {enc : α → Value} {h1 : ∀ x, (enc x).oneCell' = true} {e : Nat} {w : World} {base : Nat} {hs : List Hdr} {X : Nat → List α} (hF : Fam (Kd.scalar enc h1) e w base hs X) {k t : Nat} {cells : Array Value} (hb : w.heap[k]? = some (.cells cells t (0, 0))) (ht : e ≠ t) : ¬ Blk hs k := by
  rintro ⟨h, hm, hk⟩
  obtain ⟨j, hj⟩ := List.mem_iff_getElem?.1 hm
  exact Kd.R_ne (hF.row j h hj) hb ht hk.symm
/-- Lent pairs lie in no block of another type. -/
theorem lent_type {w : World} {v : Value} {l : List S82} (h : Lent w v l) {k t : Nat} {cells : Array Value} (hb : w.heap[k]? = some (.cells cells t (0, 0))) (h0 : ∀ u ∈ cells[0]?, ∀ n, u ≠ .int .u64 n) : v.ownBlock ≠ some k := by
  intro hk
  obtain ⟨g', cap, rfl, h2, ⟨-, -, h3⟩, h4⟩ := h
  simp only [Value.ownBlock, Option.some.injEq] at hk
  subst hk
  obtain ⟨ad, e, hc⟩ := h3 (by simp)
  injection e with e
  subst e
  obtain ⟨p, hp⟩ : ∃ p, (l ++ [(⟨77, 77⟩ : S82)])[0]? = some p := ⟨_, List.getElem?_eq_getElem (by simp)⟩
  obtain ⟨c, q1, q2, q3⟩ := hc 0 p hp
  have hcc := k82_open q2
  subst hcc
  have h5 := q3 0 _ rfl
  simp only [Nat.zero_mul, Nat.add_zero] at h5
  have h6 : (⟨g', 0, none⟩ : Addr).add 0 = ⟨g', 0, none⟩ := rfl
  rw [h6, cell_of_row w g' 0 cells t (0, 0) hb] at h5
  exact h0 _ h5 _ rfl
/-- An empty Book. -/
def noBook : Array Value := Array.replicate 20 (.slice none 0 0)
set_option maxHeartbeats 16000000 in
set_option maxRecDepth 100000 in
theorem own_c (A : Option Addr) (c : Nat) (a : List S82) (B : Option Addr) (d : Nat) (b : List Int) (w : World) (hA : Kd.C k82 w A a.length a) (hc : a.length ≤ c) (hB : Kd.C (Kd.int .u8) w B b.length b) (hd : b.length ≤ d) (hl : a.length + b.length < 1048577) (hw : ∀ p ∈ a, wfP p) (hbs : ∀ c ∈ b, 0 ≤ c ∧ c < 256) :
    Calls Try.prog 8 #[.slice A a.length c, .slice B b.length d] w fun e w' => e = .returned (.bool true) ∧ Below w.heap.size w w' := by
  have HA := Lib.hid hA
  have HC := Lib.hid hc
  have HB := Lib.hid hB
  have HD := Lib.hid hd
  have HL := Lib.hid hl
  have HW := Lib.hid hw
  have HBS := Lib.hid hbs
  clear hA hc hB hd hl hw hbs
  go_enter Try.func8, Try.ntmps8
  have HBK : Hid (BookF (w.alloc (.cells noBook 79)) w.heap.size w.heap.size 0 48 noBook (.slice none 0 0) []) := Lib.hid ⟨heap_alloc_new w _, rfl, Kd.R_nil _ _ _ _ _⟩
  go_wp2_with fail
  go_at_call 13
  refine (lent_c _ _ _ _ (Kd.C_below HA.out (below_alloc (Below.refl _ _) _)) (by have := HL.out; omega)).mono ?_
  rintro en w1 ⟨v, rfl, h1, h2⟩
  have HLE := Lib.hid h1
  have HB1 : Hid (Below w.heap.size w w1) := Lib.hid (by
    have h5 := below_alloc (Below.refl w.heap.size w) (.cells noBook 79)
    exact below_then h5 (by simp) h2)
  replace HBK := Lib.hid (HBK.out.kept (Kept.of_below h2 (fun _ => False)) (fun h => h) (fun _ _ h => h))
  have HLO : Hid (∀ k, v.ownBlock = some k → k ≠ w.heap.size) := Lib.hid (lent_not h1 HBK.out.blk rfl)
  clear h1 h2
  have hE0 : dump_Encode.f a = if risingS a = true then some (encS a, 0) else some ([], 52) := by
    unfold dump_Encode.f
    rw [if_pos ⟨by have := HL.out; omega, HW.out⟩]
  obtain ⟨ex, ee, hE⟩ : ∃ ex ee, dump_Encode.f a = some (ex, ee) := by
    rw [hE0]; split
    · exact ⟨_, _, rfl⟩
    · exact ⟨_, _, rfl⟩
  have HE := Lib.hid hE
  have HEL : Hid (ex.length < 1099511627776) := Lib.hid (by
    have h5 := encS_len a
    have h6 := HL.out
    rw [hE0] at hE
    split at hE
    · have h7 := Option.some.inj hE
      injection h7 with e1 e2
      rw [← e1]; omega
    · have h7 := Option.some.inj hE
      injection h7 with e1 e2
      rw [← e1]; simp)
  clear hE0 hE
  obtain ⟨pd, pe, pn, hdc⟩ : ∃ pd pe pn, dump_Decode.f b = some (pd, pe, pn) := by
    unfold dump_Decode.f
    rw [if_pos ⟨by have := HL.out; omega, HBS.out⟩]
    exact ⟨_, _, _, rfl⟩
  have HDE := Lib.hid hdc
  clear hdc
  have HLB : Hid (∀ k, v.ownBlock = some k → k < w1.heap.size) := Lib.hid (by
    obtain ⟨g', cap, h2, -, -, h4⟩ := HLE.out
    rw [h2]
    intro k hk
    simp only [Value.ownBlock, Option.some.injEq] at hk
    omega)
  go_wp2_with fail
  obtain ⟨g, hg⟩ : ∃ g, g = w.heap.size := ⟨_, rfl⟩
  replace HBK : Hid (BookF w1 w.heap.size g 0 48 noBook (.slice none 0 0) []) := by rw [hg]; exact HBK
  rw [← hg] at HLO ⊢
  have HG := Lib.hid hg
  clear hg
  go_loopg [7] 2 (fun kq v7 w' => ∃ (x : Int) (i : Nat) (cs : Array Value) (vO : Value) (hs : List Hdr) (X : Nat → List Int), v7 = .int .i64 x ∧ 0 ≤ x ∧ Hid (x = i) ∧ Hid (kq + i = 2) ∧ Hid (hs.length = i) ∧ Hid (BookF w' w.heap.size g 0 48 cs vO hs) ∧ Hid (cs.size = 20 ∧ ∀ j, 0 < j → j < 20 → cs[j]? = some (.slice none 0 0)) ∧ Hid (Fam (Kd.int .u8) 5 w' w.heap.size hs X) ∧ Hid (∀ j, (X j).length < 1099511627776) ∧ Hid (Lent w' v a) ∧ Hid (Below w.heap.size w w') ∧ Hid (∀ k, vO.ownBlock = some k → w1.heap.size ≤ k) ∧ Hid (w1.heap.size ≤ w'.heap.size) ∧ Hid (∀ (j : Nat) (h : Hdr), hs[j]? = some h → ∀ k, (hv h).ownBlock = some k → w1.heap.size ≤ k))
  case atStart => exact ⟨0, 0, noBook, _, [], fun _ => [], rfl, by omega, Lib.hid rfl, Lib.hid rfl, Lib.hid rfl, HBK, Lib.hid ⟨rfl, fun j h0 h1 => by simp [noBook, h1]⟩, Lib.hid ⟨fun i h hi => by simp at hi, fun i j h h' hi => by simp at hi⟩, Lib.hid (fun _ => by simp), HLE, HB1, Lib.hid (fun k hk => by simp [Value.ownBlock] at hk), Lib.hid (Nat.le_refl _), Lib.hid (fun j h hi => by simp at hi)⟩
  case round =>
    clear HBK HLE HB1
    obtain ⟨x, i, cs, vO, hs, X, rfl, hx0, HXI, HK, HHS, HBK, HCS, HFA, HXL, HLE, HBE, HVO, HW1, HFX⟩ := hrel
    obtain ⟨G, hG⟩ : ∃ G, G = gk := ⟨_, rfl⟩
    subst hG
    by_cases hlt : x < 2
    · obtain ⟨vA, vc, rfl, hv1, hv2⟩ := lent_reads HLE.out
      go_wp2_with fail
      go_at_call 28
      refine (dump_Encode.calls _ _ _ ex ee _ hv2 hv1 HE.out).mono ?_
      rintro en wE ⟨vx, rfl, r1, r2⟩
      obtain ⟨Ax, cx, rfl⟩ := Kd.R_slice r1
      have RX := Lib.hid r1
      have HWR : Hid (w.heap.size ≤ wr.heap.size) := Lib.hid HBE.out.size
      have HBL : Hid (∀ k, Blk hs k → k < wr.heap.size) := Lib.hid (by
        rintro k ⟨h, hm, hk⟩
        obtain ⟨j, hj⟩ := List.mem_iff_getElem?.1 hm
        exact ((Kd.own_of_R (HFA.out.row j h hj)).lt k hk).2)
      have KE : Hid (Kept wr wE (fun _ => False)) := Lib.hid (Kept.of_below r2 _)
      replace HBK := Lib.hid (HBK.out.kept KE.out (fun h => h) (fun _ _ h => h))
      replace HFA := Lib.hid (HFA.out.kept KE.out (fun _ _ h => h))
      replace HLE := Lib.hid (lent_below HLE.out r2)
      replace HBE := Lib.hid (below_then HBE.out HBE.out.size r2)
      clear r1 r2 hv1 hv2
      go_wp2_with fail
      go_at_call 34
      refine (take_c g cs vO hs Ax ex.length cx w.heap.size wE HBK.out (by have := HG.out; omega) (by have h5 := HHS.out; have h6 := HXI.out; omega)).mono ?_
      rintro en wT ⟨rfl, cs', vO', t1, t2, t3, t4, t5⟩
      have HFX3 : Hid (∀ (j : Nat) (h : Hdr), (hs ++ [(Ax, ex.length, cx)])[j]? = some h → ∀ k, (hv h).ownBlock = some k → w1.heap.size ≤ k) := Lib.hid (fun j h hj k hk => by
        rcases Nat.lt_or_ge j hs.length with hlt | hge
        · rw [List.getElem?_append_left hlt] at hj
          exact HFX.out j h hj k hk
        · rw [List.getElem?_append_right hge] at hj
          have h0 : h = (Ax, ex.length, cx) := by
            rcases Nat.eq_zero_or_pos (j - hs.length) with h0 | h0
            · rw [h0] at hj
              exact (Option.some.inj hj).symm
            · rw [List.getElem?_eq_none (by simp; omega)] at hj
              cases hj
          subst h0
          have h6 := Kd.R_base RX.out k hk
          have h7 := HW1.out
          omega)
      have RX2 : (Kd.int .u8).R 5 wE w.heap.size (fun k => (hv (Ax, ex.length, cx)).ownBlock = some k) (hv (Ax, ex.length, cx)) ex := narrow (Kd.R_lower RX.out HWR.out)
      have HF2 := HFA.out.snoc RX2 (fun k hk hb => by
        have h5 := HBL.out k hb
        have h6 := Kd.R_base RX.out k hk
        omega)
      have HF3 : Hid (Fam (Kd.int .u8) 5 wT w.heap.size (hs ++ [(Ax, ex.length, cx)]) (upd X hs.length ex)) := Lib.hid (HF2.kept t3 (fun k hb hk => by
        rcases hk with rfl | hk
        · exact blk_type HF2 HBK.out.blk (by decide) hb
        · obtain ⟨cells, hc⟩ := own_typed (Kd.own_of_R HBK.out.row) k hk
          exact blk_type HF2 hc (by decide) hb))
      have HX3 : Hid (∀ j, (upd X hs.length ex j).length < 1099511627776) := Lib.hid (fun j => by
        unfold upd; split
        · exact HEL.out
        · exact HXL.out j)
      have HB3 := Lib.hid t1
      have HLE3 := Lib.hid (lent_kept HLE.out t3 (fun k hk hS => by
        rcases hS with hS | hS
        · exact HLO.out k hk hS
        · have h5 := HVO.out k hS
          have h6 := HLB.out k hk
          omega))
      have HVO3 : Hid (∀ k, vO'.ownBlock = some k → w1.heap.size ≤ k) := Lib.hid (fun k hk => by
        rcases t5 k hk with h5 | h5
        · exact HVO.out k h5
        · have h6 := HW1.out
          have h7 := KE.out.1
          omega)
      have HCS3 : Hid (cs'.size = 20 ∧ ∀ j, 0 < j → j < 20 → cs'[j]? = some (.slice none 0 0)) := Lib.hid ⟨size20 t2 HCS.out.1, fun j h0 h1 => (t2 j h0).trans (HCS.out.2 j h0 h1)⟩
      have HBT := Lib.hid (HBE.out.trans t4)
      have HW3 : Hid (w1.heap.size ≤ wT.heap.size) := Lib.hid (by have h5 := HW1.out; have h6 := KE.out.1; have h7 := t3.1; omega)
      clear t1 t2 t3 t4 t5 RX2 HF2 HBK HFA HLE HBE HVO HW1 HXL HCS RX HWR HBL KE HFX
      go_wp2_with fail
      go_at_call 30
      refine (dump_Decode.calls _ _ _ pd pe pn _ (Kd.C_below HB.out HBT.out) HD.out HDE.out).mono ?_
      rintro en wD ⟨vp, rfl, r1, r2⟩
      obtain ⟨Ap, cp, rfl⟩ := Kd.R_slice r1
      have HSC := Lib.hid (scr_of r1 r2)
      clear r1 r2
      go_wp2_with fail
      go_loopg [13] pd.length (fun kp v13 w' => ∃ y : Int, v13 = .int .i64 y ∧ 0 ≤ y ∧ Hid ((kp : Int) + y = pd.length) ∧ Hid (Scr wT w' Ap pd.length))
      case atStart => exact ⟨0, rfl, by omega, Lib.hid (by omega), HSC⟩
      case round =>
        clear HSC
        obtain ⟨y, rfl, hy0, HK2, HSC⟩ := hrel
        by_cases hy : y < (pd.length : Int)
        · obtain ⟨gp, u, rfl, hc1, hc2, hput⟩ := HSC.out.at_ y hy0 hy
          have HPUT := Lib.hid hput
          have hpl : y ≤ 9223372036854775806 := by have := HSC.out.len; omega
          clear hput
          go_wp2_with fail
          have HGK : Hid (0 < gk) := Lib.hid (by have := HK2.out; omega)
          go_roundg (gk - 1)
          case measure => have := HGK.out; omega
          case rel => exact ⟨y + 1, rfl, by omega, Lib.hid (by have := HK2.out; have := HGK.out; omega), Lib.hid (HPUT.out _)⟩
        · have HB4 := Lib.hid HSC.out.below
          clear HSC HK2
          go_wp2_with fail
          go_at_call 15
          have HLE4 := Lib.hid (lent_kept HLE3.out (Kept.of_below HB4.out (fun _ => False)) (fun _ _ h => h))
          obtain ⟨vA', vc', e1, hv1', hv2'⟩ := lent_reads HLE4.out
          injection e1 with e1 e2 e3
          subst e1
          subst e3
          obtain ⟨qd, qe, HQ⟩ : ∃ qd qe, dump_Patch.f a [] = some (qd, qe) := by
            unfold dump_Patch.f
            rw [if_pos (by have := HL.out; simp; omega)]
            exact ⟨_, _, rfl⟩
          refine (dump_Patch.calls _ _ a none 0 [] qd qe _ hv2' hv1' ⟨rfl, by simp, fun h => absurd h (by simp)⟩ (by simp) HQ).mono ?_
          rintro en wQ ⟨vq, rfl, r1, r2⟩
          obtain ⟨Aq, cq, rfl⟩ := Kd.R_slice r1
          have HSQ := Lib.hid (scr_of r1 r2)
          clear r1 r2 hv1' hv2' HQ e2
          obtain ⟨GP, hGP⟩ : ∃ G, G = gk := ⟨_, rfl⟩
          subst hGP
          obtain ⟨wp, hwp⟩ : ∃ W, W = wr := ⟨_, rfl⟩
          subst hwp
          go_wp2_with fail
          go_loopg [16] qd.length (fun kp v16 w' => ∃ y2 : Int, v16 = .int .i64 y2 ∧ 0 ≤ y2 ∧ Hid ((kp : Int) + y2 = qd.length) ∧ Hid (Scr wp w' Aq qd.length))
          case atStart => exact ⟨0, rfl, by omega, Lib.hid (by omega), HSQ⟩
          case round =>
            clear HSQ
            obtain ⟨y2, rfl, hy20, HK3, HSQ⟩ := hrel
            by_cases hy2 : y2 < (qd.length : Int)
            · obtain ⟨gp, u, rfl, hc1, hc2, hput⟩ := HSQ.out.at_ y2 hy20 hy2
              have HPUT := Lib.hid hput
              have hpl : y2 ≤ 9223372036854775806 := by have := HSQ.out.len; omega
              clear hput
              go_wp2_with fail
              have HGK : Hid (0 < gk) := Lib.hid (by have := HK3.out; omega)
              go_roundg (gk - 1)
              case measure => have := HGK.out; omega
              case rel => exact ⟨y2 + 1, rfl, by omega, Lib.hid (by have := HK3.out; have := HGK.out; omega), Lib.hid (HPUT.out _)⟩
            · have HB5 := Lib.hid (below_then HB4.out HB4.out.size HSQ.out.below)
              clear HSQ HK3
              go_wp2_with fail
              have hGP : 0 < G := by have := HK.out; have := HXI.out; omega
              have HGP := Lib.hid hGP
              clear hGP
              go_roundg (G - 1)
              case measure => have := HGP.out; omega
              case rel =>
                have hkp : Kept wT wr (fun _ => False) := Kept.of_below HB5.out _
                exact ⟨x + 1, i + 1, cs', vO', hs ++ [(Ax, ex.length, cx)], upd X hs.length ex, rfl, by omega, Lib.hid (by have := HXI.out; omega), Lib.hid (by have := HK.out; have := HGP.out; omega), Lib.hid (by rw [List.length_append, HHS.out]; rfl), Lib.hid (HB3.out.kept hkp (fun h => h) (fun _ _ h => h)), HCS3, Lib.hid (HF3.out.kept hkp (fun _ _ h => h)), HX3, Lib.hid (lent_kept HLE3.out hkp (fun _ _ h => h)), Lib.hid (below_then HBT.out HBT.out.size HB5.out), HVO3, Lib.hid (Nat.le_trans HW3.out HB5.out.size), HFX3⟩
    · go_wp2_with fail
      go_at_call 12
      refine (shutterlaw27_live.calls true _ live_f).mono ?_
      rintro en wL ⟨rfl, r1⟩
      have hkp : Kept wr wL (fun _ => False) := Kept.of_below r1 _
      obtain ⟨AO, cO, rfl⟩ := Kd.R_slice HBK.out.row
      have HBK2 := Lib.hid (HBK.out.kept hkp (fun h => h) (fun _ _ h => h))
      have HFA2 := Lib.hid (HFA.out.kept hkp (fun _ _ h => h))
      have HLE2 := Lib.hid (lent_kept HLE.out hkp (fun _ _ h => h))
      have HBE2 := Lib.hid (below_then HBE.out HBE.out.size r1)
      have HW2 := Lib.hid (Nat.le_trans HW1.out r1.size)
      clear hkp r1 HBK HFA HLE HBE HW1
      go_wp2_with fail
      go_at_call 35
      have HNG : Hid (¬ Blk hs g) := Lib.hid (blk_type HFA2.out HBK2.out.blk (by decide))
      refine (alone_c g cs AO cO hs X w.heap.size wL HBK2.out HCS.out.2 HCS.out.1 HFA2.out (by have h5 := HHS.out; have h6 := HK.out; omega) HXL.out HBE2.out.size (by have := HG.out; omega) HNG.out (fun k hk => by
        obtain ⟨cells, hc⟩ := own_typed (Kd.own_of_R HBK2.out.row) k hk
        exact blk_type HFA2.out hc (by decide))).mono ?_
      rintro en wA ⟨rfl, r1, r2⟩
      have HLE3 := Lib.hid (lent_kept HLE2.out r1 (fun k hk hS => by
        rcases hS with hS | ⟨h, hm, hS⟩
        · exact HLO.out k hk hS
        · obtain ⟨j, hj⟩ := List.mem_iff_getElem?.1 hm
          have h5 := HFX.out j h hj k hS
          have h6 := HLB.out k hk
          omega))
      have HBE3 := Lib.hid (HBE2.out.trans r2)
      clear r1 r2
      go_wp2_with fail
      go_at_call 18
      refine (kept_c _ _ _ _ _ HLE3.out (Kd.C_below HA.out HBE3.out) HC.out (by have := HL.out; omega) (samePairs_f a (by have := HL.out; omega))).mono ?_
      rintro en wK ⟨rfl, r1⟩
      have HBE4 := Lib.hid (below_then HBE3.out HBE3.out.size r1)
      clear r1
      go_wp2_with fail
      go_ret
      exact ⟨rfl, HBE4.out⟩
theorem own_walk (W : World) (a0 : Option Addr) (c0 : Nat) (x0 : List S82) (h0 : Kd.C k82 W a0 x0.length x0) (l0 : x0.length ≤ c0) {H : Type} {d0 d1 : DataW H} (b0 : (x0.map B82).sum + 1 ≤ Rows.uptoBulk d0) (w0 : ∀ x ∈ x0, wfP x)
    (a1 : Option Addr) (c1 : Nat) (x1 : List Int) (h1 : Kd.C (Kd.int .u8) W a1 x1.length x1) (l1 : x1.length ≤ c1) (b1 : (x1.map (fun _ => 1)).sum + 1 ≤ Rows.uptoBulk d1) (w1 : ∀ x ∈ x1, (Lit.int .u8 x).wf = true) (hb : Rows.uptoBulk d0 + (Rows.uptoBulk d1 + 0) ≤ 1048576) :
    Calls Try.prog 8 #[.slice a0 x0.length c0, .slice a1 x1.length c1] W fun e W' => e = .returned (.bool true) ∧ Below W.heap.size W W' := by
  have s0 := sum82 x0
  have s1 : (x1.map (fun _ => 1)).sum = x1.length := by clear h1 l1 b1 w1; induction x1 with
    | nil => rfl
    | cons a l ih => simp [ih]; omega
  refine own_c a0 c0 x0 a1 c1 x1 W h0 l0 h1 l1 (by omega) w0 (fun c hc => ?_)
  have := w1 c hc
  simp [Lit.wf, IntKind.min, IntKind.max, IntKind.signed, IntKind.bits] at this
  omega
end Go.Proofs.Ythblincfnfpgbaa.Q
