/-
  WMustWait: the walk through the law FnExactMustWait: it returns true, and only new blocks are made.
-/
import Derived.Test.YtbdafliclhenlaaFMustWait
namespace Go.Proofs.Ytbdafliclhenlaa.fnExactMustWait
open Go.ChangeShapes Go.WideShapes Go.ChangeAt Go.RowKit
set_option linter.unusedVariables false
attribute [local go_sem ↓] Go.wp_at_zero Go.wp_at_succ

set_option maxHeartbeats 2000000 in
set_option maxRecDepth 10000 in
theorem walk (x0 : TBasket) (hx0 : okBasket x0) (n1 : Int) (hn1 : I64 n1) (n2 : Int) (hn2 : I64 n2) (w : World)  :
    Calls Try.prog 11 #[.agg #[.int .i64 x0.1, .int .i64 x0.2.1, .int .i64 x0.2.2.1, .int .i64 x0.2.2.2.1, .int .i64 x0.2.2.2.2], .int .i64 n1, .int .i64 n2] w fun e w' => e = .returned (.bool true) ∧ Below w.heap.size w w' := by
  go_enter Try.func11, Try.ntmps11
  go_wp2_with fail
  have hB0 : Below w.heap.size w (w.alloc (.cells #[.int .i64 x0.1, .int .i64 x0.2.1, .int .i64 x0.2.2.1, .int .i64 x0.2.2.2.1, .int .i64 x0.2.2.2.2] 32)) := by repeat (first | exact Below.refl _ _ | (apply bal))
  have hq0 : w.heap.size < (w.alloc (.cells #[.int .i64 x0.1, .int .i64 x0.2.1, .int .i64 x0.2.2.1, .int .i64 x0.2.2.2.1, .int .i64 x0.2.2.2.2] 32)).heap.size := by simp
  have bx0_0 : (w.alloc (.cells #[.int .i64 x0.1, .int .i64 x0.2.1, .int .i64 x0.2.2.1, .int .i64 x0.2.2.2.1, .int .i64 x0.2.2.2.2] 32)).cell? ⟨w.heap.size, 0, none⟩ = some (.int .i64 x0.1) := by simp [go_sem]
  have bx0_1 : (w.alloc (.cells #[.int .i64 x0.1, .int .i64 x0.2.1, .int .i64 x0.2.2.1, .int .i64 x0.2.2.2.1, .int .i64 x0.2.2.2.2] 32)).cell? ⟨w.heap.size, 1, none⟩ = some (.int .i64 x0.2.1) := by simp [go_sem]
  have bx0_2 : (w.alloc (.cells #[.int .i64 x0.1, .int .i64 x0.2.1, .int .i64 x0.2.2.1, .int .i64 x0.2.2.2.1, .int .i64 x0.2.2.2.2] 32)).cell? ⟨w.heap.size, 2, none⟩ = some (.int .i64 x0.2.2.1) := by simp [go_sem]
  have bx0_3 : (w.alloc (.cells #[.int .i64 x0.1, .int .i64 x0.2.1, .int .i64 x0.2.2.1, .int .i64 x0.2.2.2.1, .int .i64 x0.2.2.2.2] 32)).cell? ⟨w.heap.size, 3, none⟩ = some (.int .i64 x0.2.2.2.1) := by simp [go_sem]
  have bx0_4 : (w.alloc (.cells #[.int .i64 x0.1, .int .i64 x0.2.1, .int .i64 x0.2.2.1, .int .i64 x0.2.2.2.1, .int .i64 x0.2.2.2.2] 32)).cell? ⟨w.heap.size, 4, none⟩ = some (.int .i64 x0.2.2.2.2) := by simp [go_sem]
  generalize hW0 : (w.alloc (.cells #[.int .i64 x0.1, .int .i64 x0.2.1, .int .i64 x0.2.2.1, .int .i64 x0.2.2.2.1, .int .i64 x0.2.2.2.2] 32)) = W0 at *
  go_wp2_with fail
  refine (toBasket_any x0 _).mono ?_; rintro e w1 ⟨rfl, hb1⟩
  have hB1 : Below W0.heap.size W0 w1 := hb1
  have by0_0_1 : w1.cell? ⟨w.heap.size, 0, none⟩ = some (.int .i64 x0.1) := (hB1.cell (p := ⟨w.heap.size, 0, none⟩) hq0).trans bx0_0
  have by0_1_1 : w1.cell? ⟨w.heap.size, 1, none⟩ = some (.int .i64 x0.2.1) := (hB1.cell (p := ⟨w.heap.size, 1, none⟩) hq0).trans bx0_1
  have by0_2_1 : w1.cell? ⟨w.heap.size, 2, none⟩ = some (.int .i64 x0.2.2.1) := (hB1.cell (p := ⟨w.heap.size, 2, none⟩) hq0).trans bx0_2
  have by0_3_1 : w1.cell? ⟨w.heap.size, 3, none⟩ = some (.int .i64 x0.2.2.2.1) := (hB1.cell (p := ⟨w.heap.size, 3, none⟩) hq0).trans bx0_3
  have by0_4_1 : w1.cell? ⟨w.heap.size, 4, none⟩ = some (.int .i64 x0.2.2.2.2) := (hB1.cell (p := ⟨w.heap.size, 4, none⟩) hq0).trans bx0_4
  go_wp2_with fail
  refine (spec_MustWait_any x0 hx0 n1 hn1 n2 hn2 _ ).mono ?_; rintro e w2 ⟨wr0, wr1, rfl, wR, hb2⟩
  have wRh := Lib.hid wR; clear wR
  have hB2 : Below W0.heap.size W0 w2 := bnext hB1 hb2
  have by0_0_2 : w2.cell? ⟨w.heap.size, 0, none⟩ = some (.int .i64 x0.1) := (hB2.cell (p := ⟨w.heap.size, 0, none⟩) hq0).trans bx0_0
  have by0_1_2 : w2.cell? ⟨w.heap.size, 1, none⟩ = some (.int .i64 x0.2.1) := (hB2.cell (p := ⟨w.heap.size, 1, none⟩) hq0).trans bx0_1
  have by0_2_2 : w2.cell? ⟨w.heap.size, 2, none⟩ = some (.int .i64 x0.2.2.1) := (hB2.cell (p := ⟨w.heap.size, 2, none⟩) hq0).trans bx0_2
  have by0_3_2 : w2.cell? ⟨w.heap.size, 3, none⟩ = some (.int .i64 x0.2.2.2.1) := (hB2.cell (p := ⟨w.heap.size, 3, none⟩) hq0).trans bx0_3
  have by0_4_2 : w2.cell? ⟨w.heap.size, 4, none⟩ = some (.int .i64 x0.2.2.2.2) := (hB2.cell (p := ⟨w.heap.size, 4, none⟩) hq0).trans bx0_4
  clear by0_0_1 by0_1_1 by0_2_1 by0_3_1 by0_4_1
  go_wp2_with fail
  refine (toBasket_any x0 _).mono ?_; rintro e w3 ⟨rfl, hb3⟩
  have hB3 : Below W0.heap.size W0 w3 := bnext hB2 hb3
  have by0_0_3 : w3.cell? ⟨w.heap.size, 0, none⟩ = some (.int .i64 x0.1) := (hB3.cell (p := ⟨w.heap.size, 0, none⟩) hq0).trans bx0_0
  have by0_1_3 : w3.cell? ⟨w.heap.size, 1, none⟩ = some (.int .i64 x0.2.1) := (hB3.cell (p := ⟨w.heap.size, 1, none⟩) hq0).trans bx0_1
  have by0_2_3 : w3.cell? ⟨w.heap.size, 2, none⟩ = some (.int .i64 x0.2.2.1) := (hB3.cell (p := ⟨w.heap.size, 2, none⟩) hq0).trans bx0_2
  have by0_3_3 : w3.cell? ⟨w.heap.size, 3, none⟩ = some (.int .i64 x0.2.2.2.1) := (hB3.cell (p := ⟨w.heap.size, 3, none⟩) hq0).trans bx0_3
  have by0_4_3 : w3.cell? ⟨w.heap.size, 4, none⟩ = some (.int .i64 x0.2.2.2.2) := (hB3.cell (p := ⟨w.heap.size, 4, none⟩) hq0).trans bx0_4
  clear by0_0_2 by0_1_2 by0_2_2 by0_3_2 by0_4_2
  go_wp2_with fail
  refine (impl_MustWait_any x0 hx0 n1 hn1 n2 hn2 _ ).mono ?_; rintro e w4 ⟨gr0, gr1, rfl, gR, hb4⟩
  have gRh := Lib.hid gR; clear gR
  have hB4 : Below W0.heap.size W0 w4 := bnext hB3 hb4
  have by0_0_4 : w4.cell? ⟨w.heap.size, 0, none⟩ = some (.int .i64 x0.1) := (hB4.cell (p := ⟨w.heap.size, 0, none⟩) hq0).trans bx0_0
  have by0_1_4 : w4.cell? ⟨w.heap.size, 1, none⟩ = some (.int .i64 x0.2.1) := (hB4.cell (p := ⟨w.heap.size, 1, none⟩) hq0).trans bx0_1
  have by0_2_4 : w4.cell? ⟨w.heap.size, 2, none⟩ = some (.int .i64 x0.2.2.1) := (hB4.cell (p := ⟨w.heap.size, 2, none⟩) hq0).trans bx0_2
  have by0_3_4 : w4.cell? ⟨w.heap.size, 3, none⟩ = some (.int .i64 x0.2.2.2.1) := (hB4.cell (p := ⟨w.heap.size, 3, none⟩) hq0).trans bx0_3
  have by0_4_4 : w4.cell? ⟨w.heap.size, 4, none⟩ = some (.int .i64 x0.2.2.2.2) := (hB4.cell (p := ⟨w.heap.size, 4, none⟩) hq0).trans bx0_4
  clear by0_0_3 by0_1_3 by0_2_3 by0_3_3 by0_4_3
  have gQ := gRh.out.trans wRh.out.symm
  simp only [Prod.mk.injEq] at gQ
  obtain ⟨rfl, rfl⟩ := gQ
  go_wp2_with fail
  go_ret
  exact ⟨rfl, bnext hB0 (hB4)⟩
end Go.Proofs.Ytbdafliclhenlaa.fnExactMustWait
