/-
  WReadPress: the walk through the law FnExactReadPress: it returns true, and only new blocks are made.
-/
import Derived.Test.YtlpfhmcjacimlaaDoorFPressD
import Derived.Test.YtlpfhmcjacimlaaDoorTPress
namespace Go.Proofs.YtlpfhmcjacimlaaDoor.fnExactReadPress
open Go.ChangeShapes Go.WideShapes Go.ChangeAt Go.RowKit
set_option linter.unusedVariables false
attribute [local go_sem ↓] Go.wp_at_zero Go.wp_at_succ

set_option maxHeartbeats 4000000 in
set_option maxRecDepth 100000 in
theorem walk (s0 : ByteArray) (hs0 : s0.size ≤ maxLen) (w : World) (ht : PowTab w) :
    Calls Tryd.prog 6 #[.string s0] w fun e w' => e = .returned (.bool true) ∧ Below w.heap.size w w' := by
  go_enter Tryd.func6, Tryd.ntmps6
  by_cases hz0 : ¬ s0.size ≤ 1048576
  · unfold maxLen at hs0
    go_wp2_with fail
    go_ret
    exact ⟨rfl, Below.refl _ _⟩
  rw [Classical.not_not] at hz0
  go_wp2_with fail
  go_wp2_with fail
  refine (spec_ReadPress_any s0 hz0 _ ).mono ?_; rintro e w1 ⟨wr0, wr1, rfl, wR, hb1⟩
  have wRh := Lib.hid wR
  clear wR
  have hB1 : Below w.heap.size w w1 := hb1
  go_wp2_with fail
  have hb2 : Below w1.heap.size w1 (w1.alloc (.cells #[.int .i64 wr0.1, .bool wr0.2] 27)) := bal (Below.refl _ _) _
  have lt0_n : w1.heap.size < (w1.alloc (.cells #[.int .i64 wr0.1, .bool wr0.2] 27)).heap.size := by simp
  have bn0_0 : (w1.alloc (.cells #[.int .i64 wr0.1, .bool wr0.2] 27)).cell? ⟨w1.heap.size, 0, none⟩ = some (.int .i64 wr0.1) := by simp [go_sem]
  have bn0_1 : (w1.alloc (.cells #[.int .i64 wr0.1, .bool wr0.2] 27)).cell? ⟨w1.heap.size, 1, none⟩ = some (.bool wr0.2) := by simp [go_sem]
  generalize hW3 : (w1.alloc (.cells #[.int .i64 wr0.1, .bool wr0.2] 27)) = w2 at *
  clear hW3
  have hB2 : Below w.heap.size w w2 := bnext hB1 hb2
  go_wp2_with fail
  refine (impl_ReadPress_any s0 hz0 _ (powTab_below ht hB2)).mono ?_; rintro e w3 ⟨gr0, gr1, rfl, gR, hb4⟩
  have gRh := Lib.hid gR
  clear gR
  have hB3 : Below w.heap.size w w3 := bnext hB2 hb4
  have by0_0_3 : w3.cell? ⟨w1.heap.size, 0, none⟩ = some (.int .i64 wr0.1) := (hb4.cell (p := ⟨w1.heap.size, 0, none⟩) lt0_n).trans bn0_0
  have by0_1_3 : w3.cell? ⟨w1.heap.size, 1, none⟩ = some (.bool wr0.2) := (hb4.cell (p := ⟨w1.heap.size, 1, none⟩) lt0_n).trans bn0_1
  have lt0_3 : w1.heap.size < w3.heap.size := Nat.lt_of_lt_of_le lt0_n hb4.size
  clear bn0_0 bn0_1
  have gQ := wRh.out.trans gRh.out.symm
  simp only [Prod.mk.injEq] at gQ
  obtain ⟨rfl, rfl⟩ := gQ
  go_wp2_with fail
  have hb5 : Below w3.heap.size w3 (w3.alloc (.cells #[.int .i64 wr0.1, .bool wr0.2] 27)) := bal (Below.refl _ _) _
  have lt1_n : w3.heap.size < (w3.alloc (.cells #[.int .i64 wr0.1, .bool wr0.2] 27)).heap.size := by simp
  have bn1_0 : (w3.alloc (.cells #[.int .i64 wr0.1, .bool wr0.2] 27)).cell? ⟨w3.heap.size, 0, none⟩ = some (.int .i64 wr0.1) := by simp [go_sem]
  have bn1_1 : (w3.alloc (.cells #[.int .i64 wr0.1, .bool wr0.2] 27)).cell? ⟨w3.heap.size, 1, none⟩ = some (.bool wr0.2) := by simp [go_sem]
  generalize hW6 : (w3.alloc (.cells #[.int .i64 wr0.1, .bool wr0.2] 27)) = w4 at *
  clear hW6
  have hB4 : Below w.heap.size w w4 := bnext hB3 hb5
  have by0_0_4 : w4.cell? ⟨w1.heap.size, 0, none⟩ = some (.int .i64 wr0.1) := (hb5.cell (p := ⟨w1.heap.size, 0, none⟩) lt0_3).trans by0_0_3
  have by0_1_4 : w4.cell? ⟨w1.heap.size, 1, none⟩ = some (.bool wr0.2) := (hb5.cell (p := ⟨w1.heap.size, 1, none⟩) lt0_3).trans by0_1_3
  have lt0_4 : w1.heap.size < w4.heap.size := Nat.lt_of_lt_of_le lt0_3 hb5.size
  clear by0_0_3 by0_1_3
  go_wp2_with fail
  refine (eqPress_any _ _ _).mono ?_; rintro e w5 ⟨b7, rfl, hq8, hb9⟩
  obtain rfl : b7 = true := hq8.2 rfl
  have hB5 : Below w.heap.size w w5 := bnext hB4 hb9
  have by0_0_5 : w5.cell? ⟨w1.heap.size, 0, none⟩ = some (.int .i64 wr0.1) := (hb9.cell (p := ⟨w1.heap.size, 0, none⟩) lt0_4).trans by0_0_4
  have by0_1_5 : w5.cell? ⟨w1.heap.size, 1, none⟩ = some (.bool wr0.2) := (hb9.cell (p := ⟨w1.heap.size, 1, none⟩) lt0_4).trans by0_1_4
  have lt0_5 : w1.heap.size < w5.heap.size := Nat.lt_of_lt_of_le lt0_4 hb9.size
  clear by0_0_4 by0_1_4
  have by1_0_5 : w5.cell? ⟨w3.heap.size, 0, none⟩ = some (.int .i64 wr0.1) := (hb9.cell (p := ⟨w3.heap.size, 0, none⟩) lt1_n).trans bn1_0
  have by1_1_5 : w5.cell? ⟨w3.heap.size, 1, none⟩ = some (.bool wr0.2) := (hb9.cell (p := ⟨w3.heap.size, 1, none⟩) lt1_n).trans bn1_1
  have lt1_5 : w3.heap.size < w5.heap.size := Nat.lt_of_lt_of_le lt1_n hb9.size
  clear bn1_0 bn1_1
  go_wp2_with fail
  go_ret
  exact ⟨rfl, hB5⟩
end Go.Proofs.YtlpfhmcjacimlaaDoor.fnExactReadPress
