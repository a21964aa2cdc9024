/-
  WPressText: the walk through the law FnExactPressText: it returns true, and only new blocks are made.
-/
import Derived.Test.YtlpfhmcjacimlaaDoorFPressD
import Derived.Test.YtlpfhmcjacimlaaDoorTPress
namespace Go.Proofs.YtlpfhmcjacimlaaDoor.fnExactPressText
open Go.ChangeShapes Go.WideShapes Go.ChangeAt Go.RowKit
set_option linter.unusedVariables false
attribute [local go_sem ↓] Go.wp_at_zero Go.wp_at_succ

set_option maxHeartbeats 4000000 in
set_option maxRecDepth 100000 in
theorem walk (x0 : TPress) (hx0 : okPress x0) (w : World) (ht : PowTab w) :
    Calls Tryd.prog 4 #[.agg #[.int .i64 x0.1, .bool x0.2]] w fun e w' => e = .returned (.bool true) ∧ Below w.heap.size w w' := by
  go_enter Tryd.func4, Tryd.ntmps4
  go_wp2_with fail
  have hB0 : Below w.heap.size w (w.alloc (.cells #[.int .i64 x0.1, .bool x0.2] 25)) := by repeat (first | exact Below.refl _ _ | (apply bal))
  have lt0_0 : w.heap.size < (w.alloc (.cells #[.int .i64 x0.1, .bool x0.2] 25)).heap.size := by simp
  have by0_0_0 : (w.alloc (.cells #[.int .i64 x0.1, .bool x0.2] 25)).cell? ⟨w.heap.size, 0, none⟩ = some (.int .i64 x0.1) := by simp [go_sem]
  have by0_1_0 : (w.alloc (.cells #[.int .i64 x0.1, .bool x0.2] 25)).cell? ⟨w.heap.size, 1, none⟩ = some (.bool x0.2) := by simp [go_sem]
  generalize hW0 : (w.alloc (.cells #[.int .i64 x0.1, .bool x0.2] 25)) = W0 at *
  clear hW0
  go_wp2_with fail
  go_wp2_with fail
  refine (toPress_any x0 _).mono ?_; rintro e w1 ⟨rfl, hb1⟩
  have hB1 : Below W0.heap.size W0 w1 := hb1
  have by0_0_1 : w1.cell? ⟨w.heap.size, 0, none⟩ = some (.int .i64 x0.1) := (hb1.cell (p := ⟨w.heap.size, 0, none⟩) lt0_0).trans by0_0_0
  have by0_1_1 : w1.cell? ⟨w.heap.size, 1, none⟩ = some (.bool x0.2) := (hb1.cell (p := ⟨w.heap.size, 1, none⟩) lt0_0).trans by0_1_0
  have lt0_1 : w.heap.size < w1.heap.size := Nat.lt_of_lt_of_le lt0_0 hb1.size
  clear by0_0_0 by0_1_0
  go_wp2_with fail
  go_wp2_with fail
  refine (spec_PressText_any x0 hx0 _ ).mono ?_; rintro e w2 ⟨wr0, rfl, wR, hb2⟩
  have wRh := Lib.hid wR
  clear wR
  have hB2 : Below W0.heap.size W0 w2 := bnext hB1 hb2
  have by0_0_2 : w2.cell? ⟨w.heap.size, 0, none⟩ = some (.int .i64 x0.1) := (hb2.cell (p := ⟨w.heap.size, 0, none⟩) lt0_1).trans by0_0_1
  have by0_1_2 : w2.cell? ⟨w.heap.size, 1, none⟩ = some (.bool x0.2) := (hb2.cell (p := ⟨w.heap.size, 1, none⟩) lt0_1).trans by0_1_1
  have lt0_2 : w.heap.size < w2.heap.size := Nat.lt_of_lt_of_le lt0_1 hb2.size
  clear by0_0_1 by0_1_1
  go_wp2_with fail
  go_wp2_with fail
  refine (toPress_any x0 _).mono ?_; rintro e w3 ⟨rfl, hb3⟩
  have hB3 : Below W0.heap.size W0 w3 := bnext hB2 hb3
  have by0_0_3 : w3.cell? ⟨w.heap.size, 0, none⟩ = some (.int .i64 x0.1) := (hb3.cell (p := ⟨w.heap.size, 0, none⟩) lt0_2).trans by0_0_2
  have by0_1_3 : w3.cell? ⟨w.heap.size, 1, none⟩ = some (.bool x0.2) := (hb3.cell (p := ⟨w.heap.size, 1, none⟩) lt0_2).trans by0_1_2
  have lt0_3 : w.heap.size < w3.heap.size := Nat.lt_of_lt_of_le lt0_2 hb3.size
  clear by0_0_2 by0_1_2
  go_wp2_with fail
  go_wp2_with fail
  refine (impl_PressText_any x0 hx0 _ (powTab_below (powTab_below ht hB0) hB3)).mono ?_; rintro e w4 ⟨gr0, rfl, gR, hb4⟩
  have gRh := Lib.hid gR
  clear gR
  have hB4 : Below W0.heap.size W0 w4 := bnext hB3 hb4
  have by0_0_4 : w4.cell? ⟨w.heap.size, 0, none⟩ = some (.int .i64 x0.1) := (hb4.cell (p := ⟨w.heap.size, 0, none⟩) lt0_3).trans by0_0_3
  have by0_1_4 : w4.cell? ⟨w.heap.size, 1, none⟩ = some (.bool x0.2) := (hb4.cell (p := ⟨w.heap.size, 1, none⟩) lt0_3).trans by0_1_3
  have lt0_4 : w.heap.size < w4.heap.size := Nat.lt_of_lt_of_le lt0_3 hb4.size
  clear by0_0_3 by0_1_3
  have gQ := gRh.out.trans wRh.out.symm
  obtain rfl := gQ
  go_wp2_with fail
  go_ret
  exact ⟨rfl, bnext hB0 (hB4)⟩
end Go.Proofs.YtlpfhmcjacimlaaDoor.fnExactPressText
