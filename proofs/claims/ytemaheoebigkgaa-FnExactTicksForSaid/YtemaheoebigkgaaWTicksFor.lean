/-
  WTicksFor: the walk through the law FnExactTicksFor: it returns true, and only new blocks are made.
-/
import Derived.Test.YtemaheoebigkgaaFFast
import Derived.Test.YtemaheoebigkgaaTInt64S
import Derived.Test.YtemaheoebigkgaaTBasket
namespace Go.Proofs.Ytemaheoebigkgaa.fnExactTicksFor
open Go.ChangeShapes Go.WideShapes Go.ChangeAt Go.RowKit
set_option linter.unusedVariables false
attribute [local go_sem ↓] Go.wp_at_zero Go.wp_at_succ

set_option maxHeartbeats 2000000 in
set_option maxRecDepth 10000 in
theorem walk (x0 : TBasket) (hx0 : okBasket x0) (A1 : Option Addr) (c1 : Nat) (xs1 : List Int) (hx1 : xs1.length ≤ maxLen) (hk1 : ∀ x ∈ xs1, okInt64S x) (w : World) (rx1 : Row w A1 encInt 1 xs1) :
    Calls Try.prog 5 #[.agg #[.int .i64 x0.1, .int .i64 x0.2.1, .int .i64 x0.2.2.1, .int .i64 x0.2.2.2.1, .int .i64 x0.2.2.2.2], .slice A1 xs1.length c1] w fun e w' => e = .returned (.bool true) ∧ Below w.heap.size w w' := by
  by_cases hz1 : ¬ xs1.length ≤ 1048576
  · unfold maxLen at hx1
    go_enter Try.func5, Try.ntmps5
    go_wp2_with fail
    go_ret
    exact ⟨rfl, by repeat (first | exact Below.refl _ _ | (apply bal))⟩
  rw [Classical.not_not] at hz1
  have hu1 : ∀ x ∈ xs1, KInt64S x := fun x hx => KInt64S_of (hk1 x hx)
  go_enter Try.func5, Try.ntmps5
  go_wp2_with fail
  have hB0 : Below w.heap.size w (w.alloc (.cells #[.int .i64 x0.1, .int .i64 x0.2.1, .int .i64 x0.2.2.1, .int .i64 x0.2.2.2.1, .int .i64 x0.2.2.2.2] 28)) := by repeat (first | exact Below.refl _ _ | (apply bal))
  have lt0_0 : w.heap.size < (w.alloc (.cells #[.int .i64 x0.1, .int .i64 x0.2.1, .int .i64 x0.2.2.1, .int .i64 x0.2.2.2.1, .int .i64 x0.2.2.2.2] 28)).heap.size := by simp
  have by0_0_0 : (w.alloc (.cells #[.int .i64 x0.1, .int .i64 x0.2.1, .int .i64 x0.2.2.1, .int .i64 x0.2.2.2.1, .int .i64 x0.2.2.2.2] 28)).cell? ⟨w.heap.size, 0, none⟩ = some (.int .i64 x0.1) := by simp [go_sem]
  have by0_1_0 : (w.alloc (.cells #[.int .i64 x0.1, .int .i64 x0.2.1, .int .i64 x0.2.2.1, .int .i64 x0.2.2.2.1, .int .i64 x0.2.2.2.2] 28)).cell? ⟨w.heap.size, 1, none⟩ = some (.int .i64 x0.2.1) := by simp [go_sem]
  have by0_2_0 : (w.alloc (.cells #[.int .i64 x0.1, .int .i64 x0.2.1, .int .i64 x0.2.2.1, .int .i64 x0.2.2.2.1, .int .i64 x0.2.2.2.2] 28)).cell? ⟨w.heap.size, 2, none⟩ = some (.int .i64 x0.2.2.1) := by simp [go_sem]
  have by0_3_0 : (w.alloc (.cells #[.int .i64 x0.1, .int .i64 x0.2.1, .int .i64 x0.2.2.1, .int .i64 x0.2.2.2.1, .int .i64 x0.2.2.2.2] 28)).cell? ⟨w.heap.size, 3, none⟩ = some (.int .i64 x0.2.2.2.1) := by simp [go_sem]
  have by0_4_0 : (w.alloc (.cells #[.int .i64 x0.1, .int .i64 x0.2.1, .int .i64 x0.2.2.1, .int .i64 x0.2.2.2.1, .int .i64 x0.2.2.2.2] 28)).cell? ⟨w.heap.size, 4, none⟩ = some (.int .i64 x0.2.2.2.2) := by simp [go_sem]
  generalize hW0 : (w.alloc (.cells #[.int .i64 x0.1, .int .i64 x0.2.1, .int .i64 x0.2.2.1, .int .i64 x0.2.2.2.1, .int .i64 x0.2.2.2.2] 28)) = W0 at *
  clear hW0
  replace rx1 := rx1.below hB0
  go_wp2_with fail
  go_wp2_with fail
  refine (toBasket_any x0 _).mono ?_; rintro e w1 ⟨rfl, hb1⟩
  have hB1 : Below W0.heap.size W0 w1 := hb1
  have by0_0_1 : w1.cell? ⟨w.heap.size, 0, none⟩ = some (.int .i64 x0.1) := (hb1.cell (p := ⟨w.heap.size, 0, none⟩) lt0_0).trans by0_0_0
  have by0_1_1 : w1.cell? ⟨w.heap.size, 1, none⟩ = some (.int .i64 x0.2.1) := (hb1.cell (p := ⟨w.heap.size, 1, none⟩) lt0_0).trans by0_1_0
  have by0_2_1 : w1.cell? ⟨w.heap.size, 2, none⟩ = some (.int .i64 x0.2.2.1) := (hb1.cell (p := ⟨w.heap.size, 2, none⟩) lt0_0).trans by0_2_0
  have by0_3_1 : w1.cell? ⟨w.heap.size, 3, none⟩ = some (.int .i64 x0.2.2.2.1) := (hb1.cell (p := ⟨w.heap.size, 3, none⟩) lt0_0).trans by0_3_0
  have by0_4_1 : w1.cell? ⟨w.heap.size, 4, none⟩ = some (.int .i64 x0.2.2.2.2) := (hb1.cell (p := ⟨w.heap.size, 4, none⟩) lt0_0).trans by0_4_0
  have lt0_1 : w.heap.size < w1.heap.size := Nat.lt_of_lt_of_le lt0_0 hb1.size
  clear by0_0_0 by0_1_0 by0_2_0 by0_3_0 by0_4_0
  go_wp2_with fail
  go_wp2_with fail
  refine (toInt64S_any _ _ xs1 hz1 _ (rx1.below hB1)).mono ?_; rintro e w2 ⟨v3, rfl, ho4, hb5⟩
  have hB2 : Below W0.heap.size W0 w2 := bnext hB1 hb5
  have by0_0_2 : w2.cell? ⟨w.heap.size, 0, none⟩ = some (.int .i64 x0.1) := (hb5.cell (p := ⟨w.heap.size, 0, none⟩) lt0_1).trans by0_0_1
  have by0_1_2 : w2.cell? ⟨w.heap.size, 1, none⟩ = some (.int .i64 x0.2.1) := (hb5.cell (p := ⟨w.heap.size, 1, none⟩) lt0_1).trans by0_1_1
  have by0_2_2 : w2.cell? ⟨w.heap.size, 2, none⟩ = some (.int .i64 x0.2.2.1) := (hb5.cell (p := ⟨w.heap.size, 2, none⟩) lt0_1).trans by0_2_1
  have by0_3_2 : w2.cell? ⟨w.heap.size, 3, none⟩ = some (.int .i64 x0.2.2.2.1) := (hb5.cell (p := ⟨w.heap.size, 3, none⟩) lt0_1).trans by0_3_1
  have by0_4_2 : w2.cell? ⟨w.heap.size, 4, none⟩ = some (.int .i64 x0.2.2.2.2) := (hb5.cell (p := ⟨w.heap.size, 4, none⟩) lt0_1).trans by0_4_1
  have lt0_2 : w.heap.size < w2.heap.size := Nat.lt_of_lt_of_le lt0_1 hb5.size
  clear by0_0_1 by0_1_1 by0_2_1 by0_3_1 by0_4_1
  obtain ⟨A6, c7, rfl, rr8, hl9⟩ := ho4.form
  go_wp2_with fail
  go_wp2_with fail
  refine (spec_TicksFor_any x0 hx0 _ _ xs1 hz1 hu1 _ rr8).mono ?_; rintro e w3 ⟨wr0, wr1, rfl, wR, hb10⟩
  have wRh := Lib.hid wR
  clear wR
  have hB3 : Below W0.heap.size W0 w3 := bnext hB2 hb10
  have by0_0_3 : w3.cell? ⟨w.heap.size, 0, none⟩ = some (.int .i64 x0.1) := (hb10.cell (p := ⟨w.heap.size, 0, none⟩) lt0_2).trans by0_0_2
  have by0_1_3 : w3.cell? ⟨w.heap.size, 1, none⟩ = some (.int .i64 x0.2.1) := (hb10.cell (p := ⟨w.heap.size, 1, none⟩) lt0_2).trans by0_1_2
  have by0_2_3 : w3.cell? ⟨w.heap.size, 2, none⟩ = some (.int .i64 x0.2.2.1) := (hb10.cell (p := ⟨w.heap.size, 2, none⟩) lt0_2).trans by0_2_2
  have by0_3_3 : w3.cell? ⟨w.heap.size, 3, none⟩ = some (.int .i64 x0.2.2.2.1) := (hb10.cell (p := ⟨w.heap.size, 3, none⟩) lt0_2).trans by0_3_2
  have by0_4_3 : w3.cell? ⟨w.heap.size, 4, none⟩ = some (.int .i64 x0.2.2.2.2) := (hb10.cell (p := ⟨w.heap.size, 4, none⟩) lt0_2).trans by0_4_2
  have lt0_3 : w.heap.size < w3.heap.size := Nat.lt_of_lt_of_le lt0_2 hb10.size
  clear by0_0_2 by0_1_2 by0_2_2 by0_3_2 by0_4_2
  go_wp2_with fail
  go_wp2_with fail
  refine (toInt64S_any _ _ xs1 hz1 _ (rx1.below hB3)).mono ?_; rintro e w4 ⟨v12, rfl, ho13, hb14⟩
  have hB4 : Below W0.heap.size W0 w4 := bnext hB3 hb14
  have by0_0_4 : w4.cell? ⟨w.heap.size, 0, none⟩ = some (.int .i64 x0.1) := (hb14.cell (p := ⟨w.heap.size, 0, none⟩) lt0_3).trans by0_0_3
  have by0_1_4 : w4.cell? ⟨w.heap.size, 1, none⟩ = some (.int .i64 x0.2.1) := (hb14.cell (p := ⟨w.heap.size, 1, none⟩) lt0_3).trans by0_1_3
  have by0_2_4 : w4.cell? ⟨w.heap.size, 2, none⟩ = some (.int .i64 x0.2.2.1) := (hb14.cell (p := ⟨w.heap.size, 2, none⟩) lt0_3).trans by0_2_3
  have by0_3_4 : w4.cell? ⟨w.heap.size, 3, none⟩ = some (.int .i64 x0.2.2.2.1) := (hb14.cell (p := ⟨w.heap.size, 3, none⟩) lt0_3).trans by0_3_3
  have by0_4_4 : w4.cell? ⟨w.heap.size, 4, none⟩ = some (.int .i64 x0.2.2.2.2) := (hb14.cell (p := ⟨w.heap.size, 4, none⟩) lt0_3).trans by0_4_3
  have lt0_4 : w.heap.size < w4.heap.size := Nat.lt_of_lt_of_le lt0_3 hb14.size
  clear by0_0_3 by0_1_3 by0_2_3 by0_3_3 by0_4_3
  obtain ⟨A15, c16, rfl, rr17, hl18⟩ := ho13.form
  go_wp2_with fail
  go_wp2_with fail
  refine (toBasket_any x0 _).mono ?_; rintro e w5 ⟨rfl, hb19⟩
  have hB5 : Below W0.heap.size W0 w5 := bnext hB4 hb19
  have by0_0_5 : w5.cell? ⟨w.heap.size, 0, none⟩ = some (.int .i64 x0.1) := (hb19.cell (p := ⟨w.heap.size, 0, none⟩) lt0_4).trans by0_0_4
  have by0_1_5 : w5.cell? ⟨w.heap.size, 1, none⟩ = some (.int .i64 x0.2.1) := (hb19.cell (p := ⟨w.heap.size, 1, none⟩) lt0_4).trans by0_1_4
  have by0_2_5 : w5.cell? ⟨w.heap.size, 2, none⟩ = some (.int .i64 x0.2.2.1) := (hb19.cell (p := ⟨w.heap.size, 2, none⟩) lt0_4).trans by0_2_4
  have by0_3_5 : w5.cell? ⟨w.heap.size, 3, none⟩ = some (.int .i64 x0.2.2.2.1) := (hb19.cell (p := ⟨w.heap.size, 3, none⟩) lt0_4).trans by0_3_4
  have by0_4_5 : w5.cell? ⟨w.heap.size, 4, none⟩ = some (.int .i64 x0.2.2.2.2) := (hb19.cell (p := ⟨w.heap.size, 4, none⟩) lt0_4).trans by0_4_4
  have lt0_5 : w.heap.size < w5.heap.size := Nat.lt_of_lt_of_le lt0_4 hb19.size
  clear by0_0_4 by0_1_4 by0_2_4 by0_3_4 by0_4_4
  go_wp2_with fail
  go_wp2_with fail
  refine (impl_TicksFor_any x0 hx0 _ _ xs1 hz1 hu1 _ (rr17.below hb19)).mono ?_; rintro e w6 ⟨gr0, gr1, rfl, gR, hb20⟩
  have gRh := Lib.hid gR
  clear gR
  have hB6 : Below W0.heap.size W0 w6 := bnext hB5 hb20
  have by0_0_6 : w6.cell? ⟨w.heap.size, 0, none⟩ = some (.int .i64 x0.1) := (hb20.cell (p := ⟨w.heap.size, 0, none⟩) lt0_5).trans by0_0_5
  have by0_1_6 : w6.cell? ⟨w.heap.size, 1, none⟩ = some (.int .i64 x0.2.1) := (hb20.cell (p := ⟨w.heap.size, 1, none⟩) lt0_5).trans by0_1_5
  have by0_2_6 : w6.cell? ⟨w.heap.size, 2, none⟩ = some (.int .i64 x0.2.2.1) := (hb20.cell (p := ⟨w.heap.size, 2, none⟩) lt0_5).trans by0_2_5
  have by0_3_6 : w6.cell? ⟨w.heap.size, 3, none⟩ = some (.int .i64 x0.2.2.2.1) := (hb20.cell (p := ⟨w.heap.size, 3, none⟩) lt0_5).trans by0_3_5
  have by0_4_6 : w6.cell? ⟨w.heap.size, 4, none⟩ = some (.int .i64 x0.2.2.2.2) := (hb20.cell (p := ⟨w.heap.size, 4, none⟩) lt0_5).trans by0_4_5
  have lt0_6 : w.heap.size < w6.heap.size := Nat.lt_of_lt_of_le lt0_5 hb20.size
  clear by0_0_5 by0_1_5 by0_2_5 by0_3_5 by0_4_5
  have gQ := gRh.out.trans wRh.out.symm
  simp only [Prod.mk.injEq] at gQ
  obtain ⟨rfl, rfl⟩ := gQ
  go_wp2_with fail
  go_wp2_with fail
  refine (toInt64S_any _ _ xs1 hz1 _ (rx1.below hB6)).mono ?_; rintro e w7 ⟨v22, rfl, ho23, hb24⟩
  have hB7 : Below W0.heap.size W0 w7 := bnext hB6 hb24
  have by0_0_7 : w7.cell? ⟨w.heap.size, 0, none⟩ = some (.int .i64 x0.1) := (hb24.cell (p := ⟨w.heap.size, 0, none⟩) lt0_6).trans by0_0_6
  have by0_1_7 : w7.cell? ⟨w.heap.size, 1, none⟩ = some (.int .i64 x0.2.1) := (hb24.cell (p := ⟨w.heap.size, 1, none⟩) lt0_6).trans by0_1_6
  have by0_2_7 : w7.cell? ⟨w.heap.size, 2, none⟩ = some (.int .i64 x0.2.2.1) := (hb24.cell (p := ⟨w.heap.size, 2, none⟩) lt0_6).trans by0_2_6
  have by0_3_7 : w7.cell? ⟨w.heap.size, 3, none⟩ = some (.int .i64 x0.2.2.2.1) := (hb24.cell (p := ⟨w.heap.size, 3, none⟩) lt0_6).trans by0_3_6
  have by0_4_7 : w7.cell? ⟨w.heap.size, 4, none⟩ = some (.int .i64 x0.2.2.2.2) := (hb24.cell (p := ⟨w.heap.size, 4, none⟩) lt0_6).trans by0_4_6
  have lt0_7 : w.heap.size < w7.heap.size := Nat.lt_of_lt_of_le lt0_6 hb24.size
  clear by0_0_6 by0_1_6 by0_2_6 by0_3_6 by0_4_6
  obtain ⟨A25, c26, rfl, rr27, hl28⟩ := ho23.form
  go_wp2_with fail
  go_wp2_with fail
  refine (eqInt64S_any _ _ _ _ xs1 xs1 (Nat.le_trans hz1 (by decide)) (Nat.le_trans hz1 (by decide)) _ (rr17.below (bnext hb19 (bnext hb20 hb24))) rr27).mono ?_; rintro e w8 ⟨b29, rfl, hq30, hb31⟩
  obtain rfl : b29 = true := hq30.2 rfl
  have hB8 : Below W0.heap.size W0 w8 := bnext hB7 hb31
  have by0_0_8 : w8.cell? ⟨w.heap.size, 0, none⟩ = some (.int .i64 x0.1) := (hb31.cell (p := ⟨w.heap.size, 0, none⟩) lt0_7).trans by0_0_7
  have by0_1_8 : w8.cell? ⟨w.heap.size, 1, none⟩ = some (.int .i64 x0.2.1) := (hb31.cell (p := ⟨w.heap.size, 1, none⟩) lt0_7).trans by0_1_7
  have by0_2_8 : w8.cell? ⟨w.heap.size, 2, none⟩ = some (.int .i64 x0.2.2.1) := (hb31.cell (p := ⟨w.heap.size, 2, none⟩) lt0_7).trans by0_2_7
  have by0_3_8 : w8.cell? ⟨w.heap.size, 3, none⟩ = some (.int .i64 x0.2.2.2.1) := (hb31.cell (p := ⟨w.heap.size, 3, none⟩) lt0_7).trans by0_3_7
  have by0_4_8 : w8.cell? ⟨w.heap.size, 4, none⟩ = some (.int .i64 x0.2.2.2.2) := (hb31.cell (p := ⟨w.heap.size, 4, none⟩) lt0_7).trans by0_4_7
  have lt0_8 : w.heap.size < w8.heap.size := Nat.lt_of_lt_of_le lt0_7 hb31.size
  clear by0_0_7 by0_1_7 by0_2_7 by0_3_7 by0_4_7
  go_wp2_with fail
  go_ret
  exact ⟨rfl, bnext hB0 (hB8)⟩
end Go.Proofs.Ytemaheoebigkgaa.fnExactTicksFor
