/-
  WImproveArrange: the walk through the law FnExactImproveArrange: it returns true, and only new blocks are made.
-/
import Derived.Test.YtbcomfobnhekpaaFImprove
import Derived.Test.YtbcomfobnhekpaaTInt64S
import Derived.Test.YtbcomfobnhekpaaTBasket
import Derived.Test.YtbcomfobnhekpaaTPairs
import Derived.Test.YtbcomfobnhekpaaKInt64S
import Derived.Test.YtbcomfobnhekpaaKInt64SS
namespace Go.Proofs.Ytbcomfobnhekpaa.fnExactImproveArrange
open Go.ChangeShapes Go.WideShapes Go.ChangeAt Go.RowKit
set_option linter.unusedVariables false
attribute [local go_sem ↓] Go.wp_at_zero Go.wp_at_succ

set_option maxHeartbeats 4000000 in
set_option maxRecDepth 100000 in
theorem walk (x0 : TBasket) (hx0 : okBasket x0) (A1 : Option Addr) (c1 : Nat) (xs1 : List (List Int)) (hx1 : xs1.length ≤ maxLen) (hk1 : ∀ r ∈ xs1, r.length ≤ maxLen ∧ ∀ x ∈ r, I64 x) (A2 : Option Addr) (c2 : Nat) (xs2 : List Int) (hx2 : xs2.length ≤ maxLen) (hk2 : ∀ x ∈ xs2, okInt64S x) (w : World) (rx1 : RowXX w A1 xs1) (rx2 : Row w A2 encInt 1 xs2) :
    Calls Try.prog 14 #[.agg #[.int .i64 x0.1, .int .i64 x0.2.1, .int .i64 x0.2.2.1, .int .i64 x0.2.2.2.1, .int .i64 x0.2.2.2.2], .slice A1 xs1.length c1, .slice A2 xs2.length c2] w fun e w' => e = .returned (.bool true) ∧ Below w.heap.size w w' := by
  by_cases hz2 : ¬ xs2.length ≤ 1048576
  · unfold maxLen at hx2
    go_enter Try.func14, Try.ntmps14
    go_wp2_with fail
    go_ret
    exact ⟨rfl, by repeat (first | exact Below.refl _ _ | (apply bal))⟩
  rw [Classical.not_not] at hz2
  have hu2 : ∀ x ∈ xs2, KInt64S x := fun x hx => KInt64S_of (hk2 x hx)
  go_enter Try.func14, Try.ntmps14
  go_wp2_with fail
  have hB0 : Below w.heap.size w (w.alloc (.cells #[.int .i64 x0.1, .int .i64 x0.2.1, .int .i64 x0.2.2.1, .int .i64 x0.2.2.2.1, .int .i64 x0.2.2.2.2] 28)) := by repeat (first | exact Below.refl _ _ | (apply bal))
  have lt0_0 : w.heap.size < (w.alloc (.cells #[.int .i64 x0.1, .int .i64 x0.2.1, .int .i64 x0.2.2.1, .int .i64 x0.2.2.2.1, .int .i64 x0.2.2.2.2] 28)).heap.size := by simp
  have by0_0_0 : (w.alloc (.cells #[.int .i64 x0.1, .int .i64 x0.2.1, .int .i64 x0.2.2.1, .int .i64 x0.2.2.2.1, .int .i64 x0.2.2.2.2] 28)).cell? ⟨w.heap.size, 0, none⟩ = some (.int .i64 x0.1) := by simp [go_sem]
  have by0_1_0 : (w.alloc (.cells #[.int .i64 x0.1, .int .i64 x0.2.1, .int .i64 x0.2.2.1, .int .i64 x0.2.2.2.1, .int .i64 x0.2.2.2.2] 28)).cell? ⟨w.heap.size, 1, none⟩ = some (.int .i64 x0.2.1) := by simp [go_sem]
  have by0_2_0 : (w.alloc (.cells #[.int .i64 x0.1, .int .i64 x0.2.1, .int .i64 x0.2.2.1, .int .i64 x0.2.2.2.1, .int .i64 x0.2.2.2.2] 28)).cell? ⟨w.heap.size, 2, none⟩ = some (.int .i64 x0.2.2.1) := by simp [go_sem]
  have by0_3_0 : (w.alloc (.cells #[.int .i64 x0.1, .int .i64 x0.2.1, .int .i64 x0.2.2.1, .int .i64 x0.2.2.2.1, .int .i64 x0.2.2.2.2] 28)).cell? ⟨w.heap.size, 3, none⟩ = some (.int .i64 x0.2.2.2.1) := by simp [go_sem]
  have by0_4_0 : (w.alloc (.cells #[.int .i64 x0.1, .int .i64 x0.2.1, .int .i64 x0.2.2.1, .int .i64 x0.2.2.2.1, .int .i64 x0.2.2.2.2] 28)).cell? ⟨w.heap.size, 4, none⟩ = some (.int .i64 x0.2.2.2.2) := by simp [go_sem]
  generalize hW0 : (w.alloc (.cells #[.int .i64 x0.1, .int .i64 x0.2.1, .int .i64 x0.2.2.1, .int .i64 x0.2.2.2.1, .int .i64 x0.2.2.2.2] 28)) = W0 at *
  clear hW0
  replace rx1 := rx1.below hB0
  replace rx2 := rx2.below hB0
  go_wp2_with fail
  refine (szInt64SS_any _ _ xs1 _ hx1 hk1 (by omega) (by omega) _ rx1).mono ?_; rintro e w1 ⟨l0, rfl, hl0, hb1⟩
  have hB1 : Below W0.heap.size W0 w1 := hb1
  have by0_0_1 : w1.cell? ⟨w.heap.size, 0, none⟩ = some (.int .i64 x0.1) := (hb1.cell (p := ⟨w.heap.size, 0, none⟩) lt0_0).trans by0_0_0
  have by0_1_1 : w1.cell? ⟨w.heap.size, 1, none⟩ = some (.int .i64 x0.2.1) := (hb1.cell (p := ⟨w.heap.size, 1, none⟩) lt0_0).trans by0_1_0
  have by0_2_1 : w1.cell? ⟨w.heap.size, 2, none⟩ = some (.int .i64 x0.2.2.1) := (hb1.cell (p := ⟨w.heap.size, 2, none⟩) lt0_0).trans by0_2_0
  have by0_3_1 : w1.cell? ⟨w.heap.size, 3, none⟩ = some (.int .i64 x0.2.2.2.1) := (hb1.cell (p := ⟨w.heap.size, 3, none⟩) lt0_0).trans by0_3_0
  have by0_4_1 : w1.cell? ⟨w.heap.size, 4, none⟩ = some (.int .i64 x0.2.2.2.2) := (hb1.cell (p := ⟨w.heap.size, 4, none⟩) lt0_0).trans by0_4_0
  have lt0_1 : w.heap.size < w1.heap.size := Nat.lt_of_lt_of_le lt0_0 hb1.size
  clear by0_0_0 by0_1_0 by0_2_0 by0_3_0 by0_4_0
  by_cases hnl0 : l0 < 0
  · go_wp2_with fail
    go_ret
    exact ⟨rfl, bnext hB0 (hB1)⟩
  have hl02 := hl0 (by omega)
  have hz1 : xs1.length ≤ 1048576 := by omega
  have hu1 : ∀ r ∈ xs1, r.length ≤ 1048576 ∧ ∀ x ∈ r, I64 x := fun q hq => ⟨by have := hl02.2.2 q hq; omega, (hk1 q hq).2⟩
  have l0b : l0 ≤ 1048576 := by omega
  have hl0h := Lib.hid hl02; clear hl0 hl02
  go_wp2_with fail
  go_wp2_with fail
  refine (toBasket_any x0 _).mono ?_; rintro e w2 ⟨rfl, hb2⟩
  have hB2 : Below W0.heap.size W0 w2 := bnext hB1 hb2
  have by0_0_2 : w2.cell? ⟨w.heap.size, 0, none⟩ = some (.int .i64 x0.1) := (hb2.cell (p := ⟨w.heap.size, 0, none⟩) lt0_1).trans by0_0_1
  have by0_1_2 : w2.cell? ⟨w.heap.size, 1, none⟩ = some (.int .i64 x0.2.1) := (hb2.cell (p := ⟨w.heap.size, 1, none⟩) lt0_1).trans by0_1_1
  have by0_2_2 : w2.cell? ⟨w.heap.size, 2, none⟩ = some (.int .i64 x0.2.2.1) := (hb2.cell (p := ⟨w.heap.size, 2, none⟩) lt0_1).trans by0_2_1
  have by0_3_2 : w2.cell? ⟨w.heap.size, 3, none⟩ = some (.int .i64 x0.2.2.2.1) := (hb2.cell (p := ⟨w.heap.size, 3, none⟩) lt0_1).trans by0_3_1
  have by0_4_2 : w2.cell? ⟨w.heap.size, 4, none⟩ = some (.int .i64 x0.2.2.2.2) := (hb2.cell (p := ⟨w.heap.size, 4, none⟩) lt0_1).trans by0_4_1
  have lt0_2 : w.heap.size < w2.heap.size := Nat.lt_of_lt_of_le lt0_1 hb2.size
  clear by0_0_1 by0_1_1 by0_2_1 by0_3_1 by0_4_1
  go_wp2_with fail
  go_wp2_with fail
  refine (toInt64SS_any _ _ xs1 hz1 hu1 _ (rx1.below hB2)).mono ?_; rintro e w3 ⟨v4, rfl, ho5, hb6⟩
  have hB3 : Below W0.heap.size W0 w3 := bnext hB2 hb6
  have by0_0_3 : w3.cell? ⟨w.heap.size, 0, none⟩ = some (.int .i64 x0.1) := (hb6.cell (p := ⟨w.heap.size, 0, none⟩) lt0_2).trans by0_0_2
  have by0_1_3 : w3.cell? ⟨w.heap.size, 1, none⟩ = some (.int .i64 x0.2.1) := (hb6.cell (p := ⟨w.heap.size, 1, none⟩) lt0_2).trans by0_1_2
  have by0_2_3 : w3.cell? ⟨w.heap.size, 2, none⟩ = some (.int .i64 x0.2.2.1) := (hb6.cell (p := ⟨w.heap.size, 2, none⟩) lt0_2).trans by0_2_2
  have by0_3_3 : w3.cell? ⟨w.heap.size, 3, none⟩ = some (.int .i64 x0.2.2.2.1) := (hb6.cell (p := ⟨w.heap.size, 3, none⟩) lt0_2).trans by0_3_2
  have by0_4_3 : w3.cell? ⟨w.heap.size, 4, none⟩ = some (.int .i64 x0.2.2.2.2) := (hb6.cell (p := ⟨w.heap.size, 4, none⟩) lt0_2).trans by0_4_2
  have lt0_3 : w.heap.size < w3.heap.size := Nat.lt_of_lt_of_le lt0_2 hb6.size
  clear by0_0_2 by0_1_2 by0_2_2 by0_3_2 by0_4_2
  obtain ⟨A7, c8, rfl, rr9, hl10⟩ := ho5.form
  clear hl10
  go_wp2_with fail
  go_wp2_with fail
  refine (toInt64S_any _ _ xs2 hz2 _ (rx2.below hB3)).mono ?_; rintro e w4 ⟨v12, rfl, ho13, hb14⟩
  have hB4 : Below W0.heap.size W0 w4 := bnext hB3 hb14
  have by0_0_4 : w4.cell? ⟨w.heap.size, 0, none⟩ = some (.int .i64 x0.1) := (hb14.cell (p := ⟨w.heap.size, 0, none⟩) lt0_3).trans by0_0_3
  have by0_1_4 : w4.cell? ⟨w.heap.size, 1, none⟩ = some (.int .i64 x0.2.1) := (hb14.cell (p := ⟨w.heap.size, 1, none⟩) lt0_3).trans by0_1_3
  have by0_2_4 : w4.cell? ⟨w.heap.size, 2, none⟩ = some (.int .i64 x0.2.2.1) := (hb14.cell (p := ⟨w.heap.size, 2, none⟩) lt0_3).trans by0_2_3
  have by0_3_4 : w4.cell? ⟨w.heap.size, 3, none⟩ = some (.int .i64 x0.2.2.2.1) := (hb14.cell (p := ⟨w.heap.size, 3, none⟩) lt0_3).trans by0_3_3
  have by0_4_4 : w4.cell? ⟨w.heap.size, 4, none⟩ = some (.int .i64 x0.2.2.2.2) := (hb14.cell (p := ⟨w.heap.size, 4, none⟩) lt0_3).trans by0_4_3
  have lt0_4 : w.heap.size < w4.heap.size := Nat.lt_of_lt_of_le lt0_3 hb14.size
  clear by0_0_3 by0_1_3 by0_2_3 by0_3_3 by0_4_3
  obtain ⟨A15, c16, rfl, rr17, hl18⟩ := ho13.form
  clear hl18
  go_wp2_with fail
  go_wp2_with fail
  refine (spec_ImproveArrange_any x0 hx0 _ _ xs1 hz1 hu1 _ _ xs2 hz2 hu2 (own_cap ho13) _ (rr9.below hb14) rr17).mono ?_; rintro e w5 ⟨wv0, wy0, wr1, rfl, wR, wn0, wo0, hb19⟩
  have wRh := Lib.hid wR
  clear wR
  have hB5 : Below W0.heap.size W0 w5 := bnext hB4 hb19
  have by0_0_5 : w5.cell? ⟨w.heap.size, 0, none⟩ = some (.int .i64 x0.1) := (hb19.cell (p := ⟨w.heap.size, 0, none⟩) lt0_4).trans by0_0_4
  have by0_1_5 : w5.cell? ⟨w.heap.size, 1, none⟩ = some (.int .i64 x0.2.1) := (hb19.cell (p := ⟨w.heap.size, 1, none⟩) lt0_4).trans by0_1_4
  have by0_2_5 : w5.cell? ⟨w.heap.size, 2, none⟩ = some (.int .i64 x0.2.2.1) := (hb19.cell (p := ⟨w.heap.size, 2, none⟩) lt0_4).trans by0_2_4
  have by0_3_5 : w5.cell? ⟨w.heap.size, 3, none⟩ = some (.int .i64 x0.2.2.2.1) := (hb19.cell (p := ⟨w.heap.size, 3, none⟩) lt0_4).trans by0_3_4
  have by0_4_5 : w5.cell? ⟨w.heap.size, 4, none⟩ = some (.int .i64 x0.2.2.2.2) := (hb19.cell (p := ⟨w.heap.size, 4, none⟩) lt0_4).trans by0_4_4
  have lt0_5 : w.heap.size < w5.heap.size := Nat.lt_of_lt_of_le lt0_4 hb19.size
  clear by0_0_4 by0_1_4 by0_2_4 by0_3_4 by0_4_4
  obtain ⟨A21, c22, rfl, rr23, hl24⟩ := wo0.form
  clear hl24
  go_wp2_with fail
  go_wp2_with fail
  refine (toInt64SS_any _ _ xs1 hz1 hu1 _ (rx1.below hB5)).mono ?_; rintro e w6 ⟨v26, rfl, ho27, hb28⟩
  have hB6 : Below W0.heap.size W0 w6 := bnext hB5 hb28
  have by0_0_6 : w6.cell? ⟨w.heap.size, 0, none⟩ = some (.int .i64 x0.1) := (hb28.cell (p := ⟨w.heap.size, 0, none⟩) lt0_5).trans by0_0_5
  have by0_1_6 : w6.cell? ⟨w.heap.size, 1, none⟩ = some (.int .i64 x0.2.1) := (hb28.cell (p := ⟨w.heap.size, 1, none⟩) lt0_5).trans by0_1_5
  have by0_2_6 : w6.cell? ⟨w.heap.size, 2, none⟩ = some (.int .i64 x0.2.2.1) := (hb28.cell (p := ⟨w.heap.size, 2, none⟩) lt0_5).trans by0_2_5
  have by0_3_6 : w6.cell? ⟨w.heap.size, 3, none⟩ = some (.int .i64 x0.2.2.2.1) := (hb28.cell (p := ⟨w.heap.size, 3, none⟩) lt0_5).trans by0_3_5
  have by0_4_6 : w6.cell? ⟨w.heap.size, 4, none⟩ = some (.int .i64 x0.2.2.2.2) := (hb28.cell (p := ⟨w.heap.size, 4, none⟩) lt0_5).trans by0_4_5
  have lt0_6 : w.heap.size < w6.heap.size := Nat.lt_of_lt_of_le lt0_5 hb28.size
  clear by0_0_5 by0_1_5 by0_2_5 by0_3_5 by0_4_5
  obtain ⟨A29, c30, rfl, rr31, hl32⟩ := ho27.form
  clear hl32
  go_wp2_with fail
  go_wp2_with fail
  refine (toInt64S_any _ _ xs2 hz2 _ (rx2.below hB6)).mono ?_; rintro e w7 ⟨v34, rfl, ho35, hb36⟩
  have hB7 : Below W0.heap.size W0 w7 := bnext hB6 hb36
  have by0_0_7 : w7.cell? ⟨w.heap.size, 0, none⟩ = some (.int .i64 x0.1) := (hb36.cell (p := ⟨w.heap.size, 0, none⟩) lt0_6).trans by0_0_6
  have by0_1_7 : w7.cell? ⟨w.heap.size, 1, none⟩ = some (.int .i64 x0.2.1) := (hb36.cell (p := ⟨w.heap.size, 1, none⟩) lt0_6).trans by0_1_6
  have by0_2_7 : w7.cell? ⟨w.heap.size, 2, none⟩ = some (.int .i64 x0.2.2.1) := (hb36.cell (p := ⟨w.heap.size, 2, none⟩) lt0_6).trans by0_2_6
  have by0_3_7 : w7.cell? ⟨w.heap.size, 3, none⟩ = some (.int .i64 x0.2.2.2.1) := (hb36.cell (p := ⟨w.heap.size, 3, none⟩) lt0_6).trans by0_3_6
  have by0_4_7 : w7.cell? ⟨w.heap.size, 4, none⟩ = some (.int .i64 x0.2.2.2.2) := (hb36.cell (p := ⟨w.heap.size, 4, none⟩) lt0_6).trans by0_4_6
  have lt0_7 : w.heap.size < w7.heap.size := Nat.lt_of_lt_of_le lt0_6 hb36.size
  clear by0_0_6 by0_1_6 by0_2_6 by0_3_6 by0_4_6
  obtain ⟨A37, c38, rfl, rr39, hl40⟩ := ho35.form
  clear hl40
  go_wp2_with fail
  go_wp2_with fail
  refine (toBasket_any x0 _).mono ?_; rintro e w8 ⟨rfl, hb41⟩
  have hB8 : Below W0.heap.size W0 w8 := bnext hB7 hb41
  have by0_0_8 : w8.cell? ⟨w.heap.size, 0, none⟩ = some (.int .i64 x0.1) := (hb41.cell (p := ⟨w.heap.size, 0, none⟩) lt0_7).trans by0_0_7
  have by0_1_8 : w8.cell? ⟨w.heap.size, 1, none⟩ = some (.int .i64 x0.2.1) := (hb41.cell (p := ⟨w.heap.size, 1, none⟩) lt0_7).trans by0_1_7
  have by0_2_8 : w8.cell? ⟨w.heap.size, 2, none⟩ = some (.int .i64 x0.2.2.1) := (hb41.cell (p := ⟨w.heap.size, 2, none⟩) lt0_7).trans by0_2_7
  have by0_3_8 : w8.cell? ⟨w.heap.size, 3, none⟩ = some (.int .i64 x0.2.2.2.1) := (hb41.cell (p := ⟨w.heap.size, 3, none⟩) lt0_7).trans by0_3_7
  have by0_4_8 : w8.cell? ⟨w.heap.size, 4, none⟩ = some (.int .i64 x0.2.2.2.2) := (hb41.cell (p := ⟨w.heap.size, 4, none⟩) lt0_7).trans by0_4_7
  have lt0_8 : w.heap.size < w8.heap.size := Nat.lt_of_lt_of_le lt0_7 hb41.size
  clear by0_0_7 by0_1_7 by0_2_7 by0_3_7 by0_4_7
  go_wp2_with fail
  go_wp2_with fail
  refine (impl_ImproveArrange_any x0 hx0 _ _ xs1 hz1 hu1 _ _ xs2 hz2 hu2 (own_cap ho35) _ (rr31.below (bnext hb36 hb41)) (rr39.below hb41)).mono ?_; rintro e w9 ⟨gv0, gy0, gr1, rfl, gR, gn0, go0, hb42⟩
  have gRh := Lib.hid gR
  clear gR
  have hB9 : Below W0.heap.size W0 w9 := bnext hB8 hb42
  have by0_0_9 : w9.cell? ⟨w.heap.size, 0, none⟩ = some (.int .i64 x0.1) := (hb42.cell (p := ⟨w.heap.size, 0, none⟩) lt0_8).trans by0_0_8
  have by0_1_9 : w9.cell? ⟨w.heap.size, 1, none⟩ = some (.int .i64 x0.2.1) := (hb42.cell (p := ⟨w.heap.size, 1, none⟩) lt0_8).trans by0_1_8
  have by0_2_9 : w9.cell? ⟨w.heap.size, 2, none⟩ = some (.int .i64 x0.2.2.1) := (hb42.cell (p := ⟨w.heap.size, 2, none⟩) lt0_8).trans by0_2_8
  have by0_3_9 : w9.cell? ⟨w.heap.size, 3, none⟩ = some (.int .i64 x0.2.2.2.1) := (hb42.cell (p := ⟨w.heap.size, 3, none⟩) lt0_8).trans by0_3_8
  have by0_4_9 : w9.cell? ⟨w.heap.size, 4, none⟩ = some (.int .i64 x0.2.2.2.2) := (hb42.cell (p := ⟨w.heap.size, 4, none⟩) lt0_8).trans by0_4_8
  have lt0_9 : w.heap.size < w9.heap.size := Nat.lt_of_lt_of_le lt0_8 hb42.size
  clear by0_0_8 by0_1_8 by0_2_8 by0_3_8 by0_4_8
  obtain ⟨A44, c45, rfl, rr46, hl47⟩ := go0.form
  clear hl47
  have gQ := gRh.out.trans wRh.out.symm
  simp only [Prod.mk.injEq] at gQ
  obtain ⟨gY0, rfl⟩ := gQ
  have gY0h := Lib.hid gY0
  clear gY0
  go_wp2_with fail
  go_wp2_with fail
  refine (eqInt64S_any _ _ _ _ gy0 wy0 (Nat.le_trans gn0 (by decide)) (Nat.le_trans wn0 (by decide)) _ rr46 (rr23.below (bnext hb28 (bnext hb36 (bnext hb41 hb42))))).mono ?_; rintro e w10 ⟨b48, rfl, hq49, hb50⟩
  obtain rfl : b48 = true := hq49.2 gY0h.out
  clear hq49
  have hB10 : Below W0.heap.size W0 w10 := bnext hB9 hb50
  have by0_0_10 : w10.cell? ⟨w.heap.size, 0, none⟩ = some (.int .i64 x0.1) := (hb50.cell (p := ⟨w.heap.size, 0, none⟩) lt0_9).trans by0_0_9
  have by0_1_10 : w10.cell? ⟨w.heap.size, 1, none⟩ = some (.int .i64 x0.2.1) := (hb50.cell (p := ⟨w.heap.size, 1, none⟩) lt0_9).trans by0_1_9
  have by0_2_10 : w10.cell? ⟨w.heap.size, 2, none⟩ = some (.int .i64 x0.2.2.1) := (hb50.cell (p := ⟨w.heap.size, 2, none⟩) lt0_9).trans by0_2_9
  have by0_3_10 : w10.cell? ⟨w.heap.size, 3, none⟩ = some (.int .i64 x0.2.2.2.1) := (hb50.cell (p := ⟨w.heap.size, 3, none⟩) lt0_9).trans by0_3_9
  have by0_4_10 : w10.cell? ⟨w.heap.size, 4, none⟩ = some (.int .i64 x0.2.2.2.2) := (hb50.cell (p := ⟨w.heap.size, 4, none⟩) lt0_9).trans by0_4_9
  have lt0_10 : w.heap.size < w10.heap.size := Nat.lt_of_lt_of_le lt0_9 hb50.size
  clear by0_0_9 by0_1_9 by0_2_9 by0_3_9 by0_4_9
  go_wp2_with fail
  go_wp2_with fail
  refine (toInt64SS_any _ _ xs1 hz1 hu1 _ (rx1.below hB10)).mono ?_; rintro e w11 ⟨v52, rfl, ho53, hb54⟩
  have hB11 : Below W0.heap.size W0 w11 := bnext hB10 hb54
  have by0_0_11 : w11.cell? ⟨w.heap.size, 0, none⟩ = some (.int .i64 x0.1) := (hb54.cell (p := ⟨w.heap.size, 0, none⟩) lt0_10).trans by0_0_10
  have by0_1_11 : w11.cell? ⟨w.heap.size, 1, none⟩ = some (.int .i64 x0.2.1) := (hb54.cell (p := ⟨w.heap.size, 1, none⟩) lt0_10).trans by0_1_10
  have by0_2_11 : w11.cell? ⟨w.heap.size, 2, none⟩ = some (.int .i64 x0.2.2.1) := (hb54.cell (p := ⟨w.heap.size, 2, none⟩) lt0_10).trans by0_2_10
  have by0_3_11 : w11.cell? ⟨w.heap.size, 3, none⟩ = some (.int .i64 x0.2.2.2.1) := (hb54.cell (p := ⟨w.heap.size, 3, none⟩) lt0_10).trans by0_3_10
  have by0_4_11 : w11.cell? ⟨w.heap.size, 4, none⟩ = some (.int .i64 x0.2.2.2.2) := (hb54.cell (p := ⟨w.heap.size, 4, none⟩) lt0_10).trans by0_4_10
  have lt0_11 : w.heap.size < w11.heap.size := Nat.lt_of_lt_of_le lt0_10 hb54.size
  clear by0_0_10 by0_1_10 by0_2_10 by0_3_10 by0_4_10
  obtain ⟨A55, c56, rfl, rr57, hl58⟩ := ho53.form
  clear hl58
  go_wp2_with fail
  go_wp2_with fail
  refine (eqInt64SS_any _ _ _ _ xs1 xs1 (Nat.le_trans hz1 (by decide)) (Nat.le_trans hz1 (by decide)) hu1 hu1 _ (rr31.below (bnext hb36 (bnext hb41 (bnext hb42 (bnext hb50 hb54))))) rr57).mono ?_; rintro e w12 ⟨b59, rfl, hq60, hb61⟩
  obtain rfl : b59 = true := hq60.2 rfl
  have hB12 : Below W0.heap.size W0 w12 := bnext hB11 hb61
  have by0_0_12 : w12.cell? ⟨w.heap.size, 0, none⟩ = some (.int .i64 x0.1) := (hb61.cell (p := ⟨w.heap.size, 0, none⟩) lt0_11).trans by0_0_11
  have by0_1_12 : w12.cell? ⟨w.heap.size, 1, none⟩ = some (.int .i64 x0.2.1) := (hb61.cell (p := ⟨w.heap.size, 1, none⟩) lt0_11).trans by0_1_11
  have by0_2_12 : w12.cell? ⟨w.heap.size, 2, none⟩ = some (.int .i64 x0.2.2.1) := (hb61.cell (p := ⟨w.heap.size, 2, none⟩) lt0_11).trans by0_2_11
  have by0_3_12 : w12.cell? ⟨w.heap.size, 3, none⟩ = some (.int .i64 x0.2.2.2.1) := (hb61.cell (p := ⟨w.heap.size, 3, none⟩) lt0_11).trans by0_3_11
  have by0_4_12 : w12.cell? ⟨w.heap.size, 4, none⟩ = some (.int .i64 x0.2.2.2.2) := (hb61.cell (p := ⟨w.heap.size, 4, none⟩) lt0_11).trans by0_4_11
  have lt0_12 : w.heap.size < w12.heap.size := Nat.lt_of_lt_of_le lt0_11 hb61.size
  clear by0_0_11 by0_1_11 by0_2_11 by0_3_11 by0_4_11
  go_wp2_with fail
  go_wp2_with fail
  refine (toInt64S_any _ _ xs2 hz2 _ (rx2.below hB12)).mono ?_; rintro e w13 ⟨v63, rfl, ho64, hb65⟩
  have hB13 : Below W0.heap.size W0 w13 := bnext hB12 hb65
  have by0_0_13 : w13.cell? ⟨w.heap.size, 0, none⟩ = some (.int .i64 x0.1) := (hb65.cell (p := ⟨w.heap.size, 0, none⟩) lt0_12).trans by0_0_12
  have by0_1_13 : w13.cell? ⟨w.heap.size, 1, none⟩ = some (.int .i64 x0.2.1) := (hb65.cell (p := ⟨w.heap.size, 1, none⟩) lt0_12).trans by0_1_12
  have by0_2_13 : w13.cell? ⟨w.heap.size, 2, none⟩ = some (.int .i64 x0.2.2.1) := (hb65.cell (p := ⟨w.heap.size, 2, none⟩) lt0_12).trans by0_2_12
  have by0_3_13 : w13.cell? ⟨w.heap.size, 3, none⟩ = some (.int .i64 x0.2.2.2.1) := (hb65.cell (p := ⟨w.heap.size, 3, none⟩) lt0_12).trans by0_3_12
  have by0_4_13 : w13.cell? ⟨w.heap.size, 4, none⟩ = some (.int .i64 x0.2.2.2.2) := (hb65.cell (p := ⟨w.heap.size, 4, none⟩) lt0_12).trans by0_4_12
  have lt0_13 : w.heap.size < w13.heap.size := Nat.lt_of_lt_of_le lt0_12 hb65.size
  clear by0_0_12 by0_1_12 by0_2_12 by0_3_12 by0_4_12
  obtain ⟨A66, c67, rfl, rr68, hl69⟩ := ho64.form
  clear hl69
  go_wp2_with fail
  go_wp2_with fail
  refine (eqInt64S_any _ _ _ _ xs2 xs2 (Nat.le_trans hz2 (by decide)) (Nat.le_trans hz2 (by decide)) _ (rr39.below (bnext hb41 (bnext hb42 (bnext hb50 (bnext hb54 (bnext hb61 hb65)))))) rr68).mono ?_; rintro e w14 ⟨b70, rfl, hq71, hb72⟩
  obtain rfl : b70 = true := hq71.2 rfl
  have hB14 : Below W0.heap.size W0 w14 := bnext hB13 hb72
  have by0_0_14 : w14.cell? ⟨w.heap.size, 0, none⟩ = some (.int .i64 x0.1) := (hb72.cell (p := ⟨w.heap.size, 0, none⟩) lt0_13).trans by0_0_13
  have by0_1_14 : w14.cell? ⟨w.heap.size, 1, none⟩ = some (.int .i64 x0.2.1) := (hb72.cell (p := ⟨w.heap.size, 1, none⟩) lt0_13).trans by0_1_13
  have by0_2_14 : w14.cell? ⟨w.heap.size, 2, none⟩ = some (.int .i64 x0.2.2.1) := (hb72.cell (p := ⟨w.heap.size, 2, none⟩) lt0_13).trans by0_2_13
  have by0_3_14 : w14.cell? ⟨w.heap.size, 3, none⟩ = some (.int .i64 x0.2.2.2.1) := (hb72.cell (p := ⟨w.heap.size, 3, none⟩) lt0_13).trans by0_3_13
  have by0_4_14 : w14.cell? ⟨w.heap.size, 4, none⟩ = some (.int .i64 x0.2.2.2.2) := (hb72.cell (p := ⟨w.heap.size, 4, none⟩) lt0_13).trans by0_4_13
  have lt0_14 : w.heap.size < w14.heap.size := Nat.lt_of_lt_of_le lt0_13 hb72.size
  clear by0_0_13 by0_1_13 by0_2_13 by0_3_13 by0_4_13
  go_wp2_with fail
  go_wp2_with fail
  have oh76 := (ho27.below (bnext hb36 (bnext hb41 (bnext hb42 (bnext hb50 (bnext hb54 (bnext hb61 (bnext hb65 hb72))))))))
  refine (markInt64SS_any _ xs1 hz1 hu1 1 (by omega) (by omega) _ oh76).mono ?_; rintro e w15 ⟨r73, rfl, hr74, hw75⟩
  have hbm77 : Below w5.heap.size w14 w15 := hw75.below (Nat.le_trans (Nat.le_trans (Nat.le_trans (Nat.le_trans (Nat.le_trans (Nat.le_trans (Nat.le_trans (Nat.le_trans hb28.size hb36.size) hb41.size) hb42.size) hb50.size) hb54.size) hb61.size) hb65.size) hb72.size)
  have hr740 : 1 ≤ r73 := hr74.1
  have hr749 : r73 ≤ 1099511627777 := by have := hr74.2; have := hz1; omega
  have hr74n : ¬ (r73 < 0) := by omega
  have hr74d : decide (r73 < 0) = false := decide_eq_false hr74n
  have hr74h := Lib.hid (show r73 = r73 ∧ True from ⟨rfl, trivial⟩)
  clear hr74
  have ok_78 := ((wo0.below (bnext hb28 (bnext hb36 (bnext hb41 (bnext hb42 (bnext hb50 (bnext hb54 (bnext hb61 (bnext hb65 hb72)))))))))).keptW hw75 (fun g hg => .inl (Nat.lt_of_lt_of_le (wo0.2.lt g hg).2 (Nat.le_refl _)))
  have ok_79 := ((ho35.below (bnext hb41 (bnext hb42 (bnext hb50 (bnext hb54 (bnext hb61 (bnext hb65 hb72)))))))).keptW hw75 (fun g hg => .inr (Nat.le_trans (Nat.le_refl _) (ho35.2.lt g hg).1))
  have ok_80 := ((go0.below (bnext hb50 (bnext hb54 (bnext hb61 (bnext hb65 hb72)))))).keptW hw75 (fun g hg => .inr (Nat.le_trans (Nat.le_trans hb36.size hb41.size) (go0.2.lt g hg).1))
  have hB15 : Below W0.heap.size W0 w15 := hB14.trans (hbm77.mono (Nat.le_trans (Nat.le_trans (Nat.le_trans (Nat.le_trans hb1.size hb2.size) hb6.size) hb14.size) hb19.size))
  have by0_0_15 : w15.cell? ⟨w.heap.size, 0, none⟩ = some (.int .i64 x0.1) := (hbm77.cell (p := ⟨w.heap.size, 0, none⟩) (Nat.lt_of_lt_of_le lt0_0 (Nat.le_trans (Nat.le_trans (Nat.le_trans (Nat.le_trans hb1.size hb2.size) hb6.size) hb14.size) hb19.size))).trans by0_0_14
  have by0_1_15 : w15.cell? ⟨w.heap.size, 1, none⟩ = some (.int .i64 x0.2.1) := (hbm77.cell (p := ⟨w.heap.size, 1, none⟩) (Nat.lt_of_lt_of_le lt0_0 (Nat.le_trans (Nat.le_trans (Nat.le_trans (Nat.le_trans hb1.size hb2.size) hb6.size) hb14.size) hb19.size))).trans by0_1_14
  have by0_2_15 : w15.cell? ⟨w.heap.size, 2, none⟩ = some (.int .i64 x0.2.2.1) := (hbm77.cell (p := ⟨w.heap.size, 2, none⟩) (Nat.lt_of_lt_of_le lt0_0 (Nat.le_trans (Nat.le_trans (Nat.le_trans (Nat.le_trans hb1.size hb2.size) hb6.size) hb14.size) hb19.size))).trans by0_2_14
  have by0_3_15 : w15.cell? ⟨w.heap.size, 3, none⟩ = some (.int .i64 x0.2.2.2.1) := (hbm77.cell (p := ⟨w.heap.size, 3, none⟩) (Nat.lt_of_lt_of_le lt0_0 (Nat.le_trans (Nat.le_trans (Nat.le_trans (Nat.le_trans hb1.size hb2.size) hb6.size) hb14.size) hb19.size))).trans by0_3_14
  have by0_4_15 : w15.cell? ⟨w.heap.size, 4, none⟩ = some (.int .i64 x0.2.2.2.2) := (hbm77.cell (p := ⟨w.heap.size, 4, none⟩) (Nat.lt_of_lt_of_le lt0_0 (Nat.le_trans (Nat.le_trans (Nat.le_trans (Nat.le_trans hb1.size hb2.size) hb6.size) hb14.size) hb19.size))).trans by0_4_14
  have lt0_15 : w.heap.size < w15.heap.size := Nat.lt_of_lt_of_le lt0_14 hw75.size
  clear by0_0_14 by0_1_14 by0_2_14 by0_3_14 by0_4_14
  go_wp2_with fail
  have oh85 := ok_79
  refine (markInt64S_any _ xs2 hz2 r73 hr740 (Int.le_trans hr749 (by decide)) _ oh85).mono ?_; rintro e w16 ⟨r81, rfl, hr82, ho83, hg84⟩
  have hbm86 : Below w6.heap.size w15 w16 := below_own oh85 hg84 (Nat.le_refl _) (Nat.le_trans (Nat.le_trans (Nat.le_trans (Nat.le_trans (Nat.le_trans (Nat.le_trans (Nat.le_trans (Nat.le_trans hb36.size hb41.size) hb42.size) hb50.size) hb54.size) hb61.size) hb65.size) hb72.size) hw75.size)
  have hr820 : 1 ≤ r81 := hr82.2
  have hr829 : r81 ≤ 1099512676353 := by have := hr82.1; have := hz2; omega
  have hr82n : ¬ (r81 < 0) := by omega
  have hr82d : decide (r81 < 0) = false := decide_eq_false hr82n
  have hr82h := Lib.hid hr82
  clear hr82
  have ok_87 := (ok_78).kept hg84 (own_apart wo0 ho35 hb28.size)
  have ok_88 := (ok_80).kept hg84 (own_apart' ho35 go0 hb41.size)
  have hB16 : Below W0.heap.size W0 w16 := hB15.trans (hbm86.mono (Nat.le_trans (Nat.le_trans (Nat.le_trans (Nat.le_trans (Nat.le_trans hb1.size hb2.size) hb6.size) hb14.size) hb19.size) hb28.size))
  have by0_0_16 : w16.cell? ⟨w.heap.size, 0, none⟩ = some (.int .i64 x0.1) := (hbm86.cell (p := ⟨w.heap.size, 0, none⟩) (Nat.lt_of_lt_of_le lt0_0 (Nat.le_trans (Nat.le_trans (Nat.le_trans (Nat.le_trans (Nat.le_trans hb1.size hb2.size) hb6.size) hb14.size) hb19.size) hb28.size))).trans by0_0_15
  have by0_1_16 : w16.cell? ⟨w.heap.size, 1, none⟩ = some (.int .i64 x0.2.1) := (hbm86.cell (p := ⟨w.heap.size, 1, none⟩) (Nat.lt_of_lt_of_le lt0_0 (Nat.le_trans (Nat.le_trans (Nat.le_trans (Nat.le_trans (Nat.le_trans hb1.size hb2.size) hb6.size) hb14.size) hb19.size) hb28.size))).trans by0_1_15
  have by0_2_16 : w16.cell? ⟨w.heap.size, 2, none⟩ = some (.int .i64 x0.2.2.1) := (hbm86.cell (p := ⟨w.heap.size, 2, none⟩) (Nat.lt_of_lt_of_le lt0_0 (Nat.le_trans (Nat.le_trans (Nat.le_trans (Nat.le_trans (Nat.le_trans hb1.size hb2.size) hb6.size) hb14.size) hb19.size) hb28.size))).trans by0_2_15
  have by0_3_16 : w16.cell? ⟨w.heap.size, 3, none⟩ = some (.int .i64 x0.2.2.2.1) := (hbm86.cell (p := ⟨w.heap.size, 3, none⟩) (Nat.lt_of_lt_of_le lt0_0 (Nat.le_trans (Nat.le_trans (Nat.le_trans (Nat.le_trans (Nat.le_trans hb1.size hb2.size) hb6.size) hb14.size) hb19.size) hb28.size))).trans by0_3_15
  have by0_4_16 : w16.cell? ⟨w.heap.size, 4, none⟩ = some (.int .i64 x0.2.2.2.2) := (hbm86.cell (p := ⟨w.heap.size, 4, none⟩) (Nat.lt_of_lt_of_le lt0_0 (Nat.le_trans (Nat.le_trans (Nat.le_trans (Nat.le_trans (Nat.le_trans hb1.size hb2.size) hb6.size) hb14.size) hb19.size) hb28.size))).trans by0_4_15
  have lt0_16 : w.heap.size < w16.heap.size := Nat.lt_of_lt_of_le lt0_15 hg84.size
  clear by0_0_15 by0_1_15 by0_2_15 by0_3_15 by0_4_15
  go_wp2_with fail
  go_wp2_with fail
  refine (eqInt64S_any _ _ _ _ gy0 wy0 (Nat.le_trans gn0 (by decide)) (Nat.le_trans wn0 (by decide)) _ (own_row ok_88) (own_row ok_87)).mono ?_; rintro e w17 ⟨b89, rfl, hq90, hb91⟩
  obtain rfl : b89 = true := hq90.2 gY0h.out
  clear hq90
  have hB17 : Below W0.heap.size W0 w17 := bnext hB16 hb91
  have by0_0_17 : w17.cell? ⟨w.heap.size, 0, none⟩ = some (.int .i64 x0.1) := (hb91.cell (p := ⟨w.heap.size, 0, none⟩) lt0_16).trans by0_0_16
  have by0_1_17 : w17.cell? ⟨w.heap.size, 1, none⟩ = some (.int .i64 x0.2.1) := (hb91.cell (p := ⟨w.heap.size, 1, none⟩) lt0_16).trans by0_1_16
  have by0_2_17 : w17.cell? ⟨w.heap.size, 2, none⟩ = some (.int .i64 x0.2.2.1) := (hb91.cell (p := ⟨w.heap.size, 2, none⟩) lt0_16).trans by0_2_16
  have by0_3_17 : w17.cell? ⟨w.heap.size, 3, none⟩ = some (.int .i64 x0.2.2.2.1) := (hb91.cell (p := ⟨w.heap.size, 3, none⟩) lt0_16).trans by0_3_16
  have by0_4_17 : w17.cell? ⟨w.heap.size, 4, none⟩ = some (.int .i64 x0.2.2.2.2) := (hb91.cell (p := ⟨w.heap.size, 4, none⟩) lt0_16).trans by0_4_16
  have lt0_17 : w.heap.size < w17.heap.size := Nat.lt_of_lt_of_le lt0_16 hb91.size
  clear by0_0_16 by0_1_16 by0_2_16 by0_3_16 by0_4_16
  go_wp2_with fail
  have oh96 := (ok_88.below hb91)
  refine (markInt64S_any _ gy0 gn0 1 (by omega) (by omega) _ oh96).mono ?_; rintro e w18 ⟨r92, rfl, hr93, ho94, hg95⟩
  have hbm97 : Below w8.heap.size w17 w18 := below_own oh96 hg95 (Nat.le_refl _) (Nat.le_trans (Nat.le_trans (Nat.le_trans (Nat.le_trans (Nat.le_trans (Nat.le_trans (Nat.le_trans (Nat.le_trans hb42.size hb50.size) hb54.size) hb61.size) hb65.size) hb72.size) hw75.size) hg84.size) hb91.size)
  have hr930 : 1 ≤ r92 := hr93.2
  have hr939 : r92 ≤ 1048577 := by have := hr93.1; have := gn0; omega
  have hr93n : ¬ (r92 < 0) := by omega
  have hr93d : decide (r92 < 0) = false := decide_eq_false hr93n
  have hr93h := Lib.hid hr93
  clear hr93
  have ok_98 := ((ok_87.below hb91)).kept hg95 (own_apart wo0 go0 (Nat.le_trans (Nat.le_trans hb28.size hb36.size) hb41.size))
  have hB18 : Below W0.heap.size W0 w18 := hB17.trans (hbm97.mono (Nat.le_trans (Nat.le_trans (Nat.le_trans (Nat.le_trans (Nat.le_trans (Nat.le_trans (Nat.le_trans hb1.size hb2.size) hb6.size) hb14.size) hb19.size) hb28.size) hb36.size) hb41.size))
  have by0_0_18 : w18.cell? ⟨w.heap.size, 0, none⟩ = some (.int .i64 x0.1) := (hbm97.cell (p := ⟨w.heap.size, 0, none⟩) (Nat.lt_of_lt_of_le lt0_0 (Nat.le_trans (Nat.le_trans (Nat.le_trans (Nat.le_trans (Nat.le_trans (Nat.le_trans (Nat.le_trans hb1.size hb2.size) hb6.size) hb14.size) hb19.size) hb28.size) hb36.size) hb41.size))).trans by0_0_17
  have by0_1_18 : w18.cell? ⟨w.heap.size, 1, none⟩ = some (.int .i64 x0.2.1) := (hbm97.cell (p := ⟨w.heap.size, 1, none⟩) (Nat.lt_of_lt_of_le lt0_0 (Nat.le_trans (Nat.le_trans (Nat.le_trans (Nat.le_trans (Nat.le_trans (Nat.le_trans (Nat.le_trans hb1.size hb2.size) hb6.size) hb14.size) hb19.size) hb28.size) hb36.size) hb41.size))).trans by0_1_17
  have by0_2_18 : w18.cell? ⟨w.heap.size, 2, none⟩ = some (.int .i64 x0.2.2.1) := (hbm97.cell (p := ⟨w.heap.size, 2, none⟩) (Nat.lt_of_lt_of_le lt0_0 (Nat.le_trans (Nat.le_trans (Nat.le_trans (Nat.le_trans (Nat.le_trans (Nat.le_trans (Nat.le_trans hb1.size hb2.size) hb6.size) hb14.size) hb19.size) hb28.size) hb36.size) hb41.size))).trans by0_2_17
  have by0_3_18 : w18.cell? ⟨w.heap.size, 3, none⟩ = some (.int .i64 x0.2.2.2.1) := (hbm97.cell (p := ⟨w.heap.size, 3, none⟩) (Nat.lt_of_lt_of_le lt0_0 (Nat.le_trans (Nat.le_trans (Nat.le_trans (Nat.le_trans (Nat.le_trans (Nat.le_trans (Nat.le_trans hb1.size hb2.size) hb6.size) hb14.size) hb19.size) hb28.size) hb36.size) hb41.size))).trans by0_3_17
  have by0_4_18 : w18.cell? ⟨w.heap.size, 4, none⟩ = some (.int .i64 x0.2.2.2.2) := (hbm97.cell (p := ⟨w.heap.size, 4, none⟩) (Nat.lt_of_lt_of_le lt0_0 (Nat.le_trans (Nat.le_trans (Nat.le_trans (Nat.le_trans (Nat.le_trans (Nat.le_trans (Nat.le_trans hb1.size hb2.size) hb6.size) hb14.size) hb19.size) hb28.size) hb36.size) hb41.size))).trans by0_4_17
  have lt0_18 : w.heap.size < w18.heap.size := Nat.lt_of_lt_of_le lt0_17 hg95.size
  clear by0_0_17 by0_1_17 by0_2_17 by0_3_17 by0_4_17
  go_wp2_with fail
  refine (heldInt64S_any _ _ gy0.length gn0 1 (by omega) (by omega) _ (own_row ho94)).mono ?_; rintro e w19 ⟨r99, rfl, hr100, hb101⟩
  have hB19 : Below W0.heap.size W0 w19 := bnext hB18 hb101
  have by0_0_19 : w19.cell? ⟨w.heap.size, 0, none⟩ = some (.int .i64 x0.1) := (hb101.cell (p := ⟨w.heap.size, 0, none⟩) lt0_18).trans by0_0_18
  have by0_1_19 : w19.cell? ⟨w.heap.size, 1, none⟩ = some (.int .i64 x0.2.1) := (hb101.cell (p := ⟨w.heap.size, 1, none⟩) lt0_18).trans by0_1_18
  have by0_2_19 : w19.cell? ⟨w.heap.size, 2, none⟩ = some (.int .i64 x0.2.2.1) := (hb101.cell (p := ⟨w.heap.size, 2, none⟩) lt0_18).trans by0_2_18
  have by0_3_19 : w19.cell? ⟨w.heap.size, 3, none⟩ = some (.int .i64 x0.2.2.2.1) := (hb101.cell (p := ⟨w.heap.size, 3, none⟩) lt0_18).trans by0_3_18
  have by0_4_19 : w19.cell? ⟨w.heap.size, 4, none⟩ = some (.int .i64 x0.2.2.2.2) := (hb101.cell (p := ⟨w.heap.size, 4, none⟩) lt0_18).trans by0_4_18
  have lt0_19 : w.heap.size < w19.heap.size := Nat.lt_of_lt_of_le lt0_18 hb101.size
  clear by0_0_18 by0_1_18 by0_2_18 by0_3_18 by0_4_18
  have hr100q : r92 = r99 := by have := hr100.1; have := hr93h.out.1; omega
  clear hr100
  subst hr100q
  go_wp2_with fail
  go_wp2_with fail
  refine (toBasket_any x0 _).mono ?_; rintro e w20 ⟨rfl, hb102⟩
  have hB20 : Below W0.heap.size W0 w20 := bnext hB19 hb102
  have by0_0_20 : w20.cell? ⟨w.heap.size, 0, none⟩ = some (.int .i64 x0.1) := (hb102.cell (p := ⟨w.heap.size, 0, none⟩) lt0_19).trans by0_0_19
  have by0_1_20 : w20.cell? ⟨w.heap.size, 1, none⟩ = some (.int .i64 x0.2.1) := (hb102.cell (p := ⟨w.heap.size, 1, none⟩) lt0_19).trans by0_1_19
  have by0_2_20 : w20.cell? ⟨w.heap.size, 2, none⟩ = some (.int .i64 x0.2.2.1) := (hb102.cell (p := ⟨w.heap.size, 2, none⟩) lt0_19).trans by0_2_19
  have by0_3_20 : w20.cell? ⟨w.heap.size, 3, none⟩ = some (.int .i64 x0.2.2.2.1) := (hb102.cell (p := ⟨w.heap.size, 3, none⟩) lt0_19).trans by0_3_19
  have by0_4_20 : w20.cell? ⟨w.heap.size, 4, none⟩ = some (.int .i64 x0.2.2.2.2) := (hb102.cell (p := ⟨w.heap.size, 4, none⟩) lt0_19).trans by0_4_19
  have lt0_20 : w.heap.size < w20.heap.size := Nat.lt_of_lt_of_le lt0_19 hb102.size
  clear by0_0_19 by0_1_19 by0_2_19 by0_3_19 by0_4_19
  go_wp2_with fail
  go_wp2_with fail
  refine (toInt64SS_any _ _ xs1 hz1 hu1 _ (rx1.below hB20)).mono ?_; rintro e w21 ⟨v104, rfl, ho105, hb106⟩
  have hB21 : Below W0.heap.size W0 w21 := bnext hB20 hb106
  have by0_0_21 : w21.cell? ⟨w.heap.size, 0, none⟩ = some (.int .i64 x0.1) := (hb106.cell (p := ⟨w.heap.size, 0, none⟩) lt0_20).trans by0_0_20
  have by0_1_21 : w21.cell? ⟨w.heap.size, 1, none⟩ = some (.int .i64 x0.2.1) := (hb106.cell (p := ⟨w.heap.size, 1, none⟩) lt0_20).trans by0_1_20
  have by0_2_21 : w21.cell? ⟨w.heap.size, 2, none⟩ = some (.int .i64 x0.2.2.1) := (hb106.cell (p := ⟨w.heap.size, 2, none⟩) lt0_20).trans by0_2_20
  have by0_3_21 : w21.cell? ⟨w.heap.size, 3, none⟩ = some (.int .i64 x0.2.2.2.1) := (hb106.cell (p := ⟨w.heap.size, 3, none⟩) lt0_20).trans by0_3_20
  have by0_4_21 : w21.cell? ⟨w.heap.size, 4, none⟩ = some (.int .i64 x0.2.2.2.2) := (hb106.cell (p := ⟨w.heap.size, 4, none⟩) lt0_20).trans by0_4_20
  have lt0_21 : w.heap.size < w21.heap.size := Nat.lt_of_lt_of_le lt0_20 hb106.size
  clear by0_0_20 by0_1_20 by0_2_20 by0_3_20 by0_4_20
  obtain ⟨A107, c108, rfl, rr109, hl110⟩ := ho105.form
  clear hl110
  go_wp2_with fail
  go_wp2_with fail
  refine (toInt64S_any _ _ xs2 hz2 _ (rx2.below hB21)).mono ?_; rintro e w22 ⟨v112, rfl, ho113, hb114⟩
  have hB22 : Below W0.heap.size W0 w22 := bnext hB21 hb114
  have by0_0_22 : w22.cell? ⟨w.heap.size, 0, none⟩ = some (.int .i64 x0.1) := (hb114.cell (p := ⟨w.heap.size, 0, none⟩) lt0_21).trans by0_0_21
  have by0_1_22 : w22.cell? ⟨w.heap.size, 1, none⟩ = some (.int .i64 x0.2.1) := (hb114.cell (p := ⟨w.heap.size, 1, none⟩) lt0_21).trans by0_1_21
  have by0_2_22 : w22.cell? ⟨w.heap.size, 2, none⟩ = some (.int .i64 x0.2.2.1) := (hb114.cell (p := ⟨w.heap.size, 2, none⟩) lt0_21).trans by0_2_21
  have by0_3_22 : w22.cell? ⟨w.heap.size, 3, none⟩ = some (.int .i64 x0.2.2.2.1) := (hb114.cell (p := ⟨w.heap.size, 3, none⟩) lt0_21).trans by0_3_21
  have by0_4_22 : w22.cell? ⟨w.heap.size, 4, none⟩ = some (.int .i64 x0.2.2.2.2) := (hb114.cell (p := ⟨w.heap.size, 4, none⟩) lt0_21).trans by0_4_21
  have lt0_22 : w.heap.size < w22.heap.size := Nat.lt_of_lt_of_le lt0_21 hb114.size
  clear by0_0_21 by0_1_21 by0_2_21 by0_3_21 by0_4_21
  obtain ⟨A115, c116, rfl, rr117, hl118⟩ := ho113.form
  clear hl118
  go_wp2_with fail
  go_wp2_with fail
  refine (impl_ImproveArrange_any x0 hx0 _ _ xs1 hz1 hu1 _ _ xs2 hz2 hu2 (own_cap ho113) _ (rr109.below hb114) rr117).mono ?_; rintro e w23 ⟨hv0, hy0, hr1, rfl, hR, hn0, ho0, hb119⟩
  have hRh := Lib.hid hR
  clear hR
  have hB23 : Below W0.heap.size W0 w23 := bnext hB22 hb119
  have by0_0_23 : w23.cell? ⟨w.heap.size, 0, none⟩ = some (.int .i64 x0.1) := (hb119.cell (p := ⟨w.heap.size, 0, none⟩) lt0_22).trans by0_0_22
  have by0_1_23 : w23.cell? ⟨w.heap.size, 1, none⟩ = some (.int .i64 x0.2.1) := (hb119.cell (p := ⟨w.heap.size, 1, none⟩) lt0_22).trans by0_1_22
  have by0_2_23 : w23.cell? ⟨w.heap.size, 2, none⟩ = some (.int .i64 x0.2.2.1) := (hb119.cell (p := ⟨w.heap.size, 2, none⟩) lt0_22).trans by0_2_22
  have by0_3_23 : w23.cell? ⟨w.heap.size, 3, none⟩ = some (.int .i64 x0.2.2.2.1) := (hb119.cell (p := ⟨w.heap.size, 3, none⟩) lt0_22).trans by0_3_22
  have by0_4_23 : w23.cell? ⟨w.heap.size, 4, none⟩ = some (.int .i64 x0.2.2.2.2) := (hb119.cell (p := ⟨w.heap.size, 4, none⟩) lt0_22).trans by0_4_22
  have lt0_23 : w.heap.size < w23.heap.size := Nat.lt_of_lt_of_le lt0_22 hb119.size
  clear by0_0_22 by0_1_22 by0_2_22 by0_3_22 by0_4_22
  obtain ⟨A121, c122, rfl, rr123, hl124⟩ := ho0.form
  clear hl124
  have hQ := hRh.out.trans wRh.out.symm
  simp only [Prod.mk.injEq] at hQ
  obtain ⟨hY0, rfl⟩ := hQ
  have hY0h := Lib.hid hY0
  clear hY0
  go_wp2_with fail
  go_wp2_with fail
  refine (eqInt64S_any _ _ _ _ hy0 wy0 (Nat.le_trans hn0 (by decide)) (Nat.le_trans wn0 (by decide)) _ rr123 (own_row (ok_98.below (bnext hb101 (bnext hb102 (bnext hb106 (bnext hb114 hb119))))))).mono ?_; rintro e w24 ⟨b125, rfl, hq126, hb127⟩
  obtain rfl : b125 = true := hq126.2 hY0h.out
  clear hq126
  have hB24 : Below W0.heap.size W0 w24 := bnext hB23 hb127
  have by0_0_24 : w24.cell? ⟨w.heap.size, 0, none⟩ = some (.int .i64 x0.1) := (hb127.cell (p := ⟨w.heap.size, 0, none⟩) lt0_23).trans by0_0_23
  have by0_1_24 : w24.cell? ⟨w.heap.size, 1, none⟩ = some (.int .i64 x0.2.1) := (hb127.cell (p := ⟨w.heap.size, 1, none⟩) lt0_23).trans by0_1_23
  have by0_2_24 : w24.cell? ⟨w.heap.size, 2, none⟩ = some (.int .i64 x0.2.2.1) := (hb127.cell (p := ⟨w.heap.size, 2, none⟩) lt0_23).trans by0_2_23
  have by0_3_24 : w24.cell? ⟨w.heap.size, 3, none⟩ = some (.int .i64 x0.2.2.2.1) := (hb127.cell (p := ⟨w.heap.size, 3, none⟩) lt0_23).trans by0_3_23
  have by0_4_24 : w24.cell? ⟨w.heap.size, 4, none⟩ = some (.int .i64 x0.2.2.2.2) := (hb127.cell (p := ⟨w.heap.size, 4, none⟩) lt0_23).trans by0_4_23
  have lt0_24 : w.heap.size < w24.heap.size := Nat.lt_of_lt_of_le lt0_23 hb127.size
  clear by0_0_23 by0_1_23 by0_2_23 by0_3_23 by0_4_23
  go_wp2_with fail
  refine (heldInt64S_any _ _ gy0.length gn0 1 (by omega) (by omega) _ (own_row (ho94.below (bnext hb101 (bnext hb102 (bnext hb106 (bnext hb114 (bnext hb119 hb127)))))))).mono ?_; rintro e w25 ⟨r128, rfl, hr129, hb130⟩
  have hB25 : Below W0.heap.size W0 w25 := bnext hB24 hb130
  have by0_0_25 : w25.cell? ⟨w.heap.size, 0, none⟩ = some (.int .i64 x0.1) := (hb130.cell (p := ⟨w.heap.size, 0, none⟩) lt0_24).trans by0_0_24
  have by0_1_25 : w25.cell? ⟨w.heap.size, 1, none⟩ = some (.int .i64 x0.2.1) := (hb130.cell (p := ⟨w.heap.size, 1, none⟩) lt0_24).trans by0_1_24
  have by0_2_25 : w25.cell? ⟨w.heap.size, 2, none⟩ = some (.int .i64 x0.2.2.1) := (hb130.cell (p := ⟨w.heap.size, 2, none⟩) lt0_24).trans by0_2_24
  have by0_3_25 : w25.cell? ⟨w.heap.size, 3, none⟩ = some (.int .i64 x0.2.2.2.1) := (hb130.cell (p := ⟨w.heap.size, 3, none⟩) lt0_24).trans by0_3_24
  have by0_4_25 : w25.cell? ⟨w.heap.size, 4, none⟩ = some (.int .i64 x0.2.2.2.2) := (hb130.cell (p := ⟨w.heap.size, 4, none⟩) lt0_24).trans by0_4_24
  have lt0_25 : w.heap.size < w25.heap.size := Nat.lt_of_lt_of_le lt0_24 hb130.size
  clear by0_0_24 by0_1_24 by0_2_24 by0_3_24 by0_4_24
  have hr129q : r92 = r128 := by have := hr129.1; have := hr93h.out.1; omega
  clear hr129
  subst hr129q
  go_wp2_with fail
  go_ret
  exact ⟨rfl, bnext hB0 (hB25)⟩
end Go.Proofs.Ytbcomfobnhekpaa.fnExactImproveArrange
