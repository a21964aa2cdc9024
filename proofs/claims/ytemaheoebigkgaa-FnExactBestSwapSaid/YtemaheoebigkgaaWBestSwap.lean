/-
  WBestSwap: the walk through the law FnExactBestSwap: it returns true, and only new blocks are made.
-/
import Derived.Test.YtemaheoebigkgaaFBestSwap
import Derived.Test.YtemaheoebigkgaaTBasket
namespace Go.Proofs.Ytemaheoebigkgaa.fnExactBestSwap
open Go.ChangeShapes Go.WideShapes Go.ChangeAt Go.RowKit
set_option linter.unusedVariables false
attribute [local go_sem ↓] Go.wp_at_zero Go.wp_at_succ

set_option maxHeartbeats 2000000 in
set_option maxRecDepth 10000 in
theorem walk (x0 : TBasket) (hx0 : okBasket x0) (A1 : Option Addr) (c1 : Nat) (xs1 : List (List Int)) (hx1 : xs1.length ≤ maxLen) (hk1 : ∀ r ∈ xs1, r.length ≤ maxLen ∧ ∀ x ∈ r, I64 x) (A2 : Option Addr) (c2 : Nat) (xs2 : List Int) (hx2 : xs2.length ≤ maxLen) (hk2 : ∀ x ∈ xs2, okInt64S x) (w : World) (rx1 : RowXX w A1 xs1) (rx2 : Row w A2 encInt 1 xs2) :
    Calls Try.prog 14 #[.agg #[.int .i64 x0.1, .int .i64 x0.2.1, .int .i64 x0.2.2.1, .int .i64 x0.2.2.2.1, .int .i64 x0.2.2.2.2], .slice A1 xs1.length c1, .slice A2 xs2.length c2] w fun e w' => e = .returned (.bool true) ∧ Below w.heap.size w w' := by
  by_cases hz2 : ¬ xs2.length ≤ 1048576
  · unfold maxLen at hx2
    go_enter Try.func14, Try.ntmps14
    go_wp2_with fail
    go_ret
    exact ⟨rfl, by repeat (first | exact Below.refl _ _ | (apply bal))⟩
  rw [Classical.not_not] at hz2
  have hu2 : ∀ x ∈ xs2, KInt64S x := fun x hx => KInt64S_of (hk2 x hx)
  go_enter Try.func14, Try.ntmps14
  go_wp2_with fail
  have hB0 : Below w.heap.size w (w.alloc (.cells #[.int .i64 x0.1, .int .i64 x0.2.1, .int .i64 x0.2.2.1, .int .i64 x0.2.2.2.1, .int .i64 x0.2.2.2.2] 28)) := by repeat (first | exact Below.refl _ _ | (apply bal))
  have lt0_0 : w.heap.size < (w.alloc (.cells #[.int .i64 x0.1, .int .i64 x0.2.1, .int .i64 x0.2.2.1, .int .i64 x0.2.2.2.1, .int .i64 x0.2.2.2.2] 28)).heap.size := by simp
  have by0_0_0 : (w.alloc (.cells #[.int .i64 x0.1, .int .i64 x0.2.1, .int .i64 x0.2.2.1, .int .i64 x0.2.2.2.1, .int .i64 x0.2.2.2.2] 28)).cell? ⟨w.heap.size, 0, none⟩ = some (.int .i64 x0.1) := by simp [go_sem]
  have by0_1_0 : (w.alloc (.cells #[.int .i64 x0.1, .int .i64 x0.2.1, .int .i64 x0.2.2.1, .int .i64 x0.2.2.2.1, .int .i64 x0.2.2.2.2] 28)).cell? ⟨w.heap.size, 1, none⟩ = some (.int .i64 x0.2.1) := by simp [go_sem]
  have by0_2_0 : (w.alloc (.cells #[.int .i64 x0.1, .int .i64 x0.2.1, .int .i64 x0.2.2.1, .int .i64 x0.2.2.2.1, .int .i64 x0.2.2.2.2] 28)).cell? ⟨w.heap.size, 2, none⟩ = some (.int .i64 x0.2.2.1) := by simp [go_sem]
  have by0_3_0 : (w.alloc (.cells #[.int .i64 x0.1, .int .i64 x0.2.1, .int .i64 x0.2.2.1, .int .i64 x0.2.2.2.1, .int .i64 x0.2.2.2.2] 28)).cell? ⟨w.heap.size, 3, none⟩ = some (.int .i64 x0.2.2.2.1) := by simp [go_sem]
  have by0_4_0 : (w.alloc (.cells #[.int .i64 x0.1, .int .i64 x0.2.1, .int .i64 x0.2.2.1, .int .i64 x0.2.2.2.1, .int .i64 x0.2.2.2.2] 28)).cell? ⟨w.heap.size, 4, none⟩ = some (.int .i64 x0.2.2.2.2) := by simp [go_sem]
  generalize hW0 : (w.alloc (.cells #[.int .i64 x0.1, .int .i64 x0.2.1, .int .i64 x0.2.2.1, .int .i64 x0.2.2.2.1, .int .i64 x0.2.2.2.2] 28)) = W0 at *
  clear hW0
  replace rx1 := rx1.below hB0
  replace rx2 := rx2.below hB0
  go_wp2_with fail
  refine (szInt64SS_any _ _ xs1 _ hx1 hk1 (by omega) (by omega) _ rx1).mono ?_; rintro e w1 ⟨l0, rfl, hl0, hb1⟩
  have hB1 : Below W0.heap.size W0 w1 := hb1
  have by0_0_1 : w1.cell? ⟨w.heap.size, 0, none⟩ = some (.int .i64 x0.1) := (hb1.cell (p := ⟨w.heap.size, 0, none⟩) lt0_0).trans by0_0_0
  have by0_1_1 : w1.cell? ⟨w.heap.size, 1, none⟩ = some (.int .i64 x0.2.1) := (hb1.cell (p := ⟨w.heap.size, 1, none⟩) lt0_0).trans by0_1_0
  have by0_2_1 : w1.cell? ⟨w.heap.size, 2, none⟩ = some (.int .i64 x0.2.2.1) := (hb1.cell (p := ⟨w.heap.size, 2, none⟩) lt0_0).trans by0_2_0
  have by0_3_1 : w1.cell? ⟨w.heap.size, 3, none⟩ = some (.int .i64 x0.2.2.2.1) := (hb1.cell (p := ⟨w.heap.size, 3, none⟩) lt0_0).trans by0_3_0
  have by0_4_1 : w1.cell? ⟨w.heap.size, 4, none⟩ = some (.int .i64 x0.2.2.2.2) := (hb1.cell (p := ⟨w.heap.size, 4, none⟩) lt0_0).trans by0_4_0
  have lt0_1 : w.heap.size < w1.heap.size := Nat.lt_of_lt_of_le lt0_0 hb1.size
  clear by0_0_0 by0_1_0 by0_2_0 by0_3_0 by0_4_0
  by_cases hnl0 : l0 < 0
  · go_wp2_with fail
    go_ret
    exact ⟨rfl, bnext hB0 (hB1)⟩
  have hl02 := hl0 (by omega)
  have hz1 : xs1.length ≤ 1048576 := by omega
  have hu1 : ∀ r ∈ xs1, r.length ≤ 1048576 ∧ ∀ x ∈ r, I64 x := fun q hq => ⟨by have := hl02.2.2 q hq; omega, (hk1 q hq).2⟩
  have l0b : l0 ≤ 1048576 := by omega
  have hl0h := Lib.hid hl02; clear hl0 hl02
  go_wp2_with fail
  go_wp2_with fail
  refine (toBasket_any x0 _).mono ?_; rintro e w2 ⟨rfl, hb2⟩
  have hB2 : Below W0.heap.size W0 w2 := bnext hB1 hb2
  have by0_0_2 : w2.cell? ⟨w.heap.size, 0, none⟩ = some (.int .i64 x0.1) := (hb2.cell (p := ⟨w.heap.size, 0, none⟩) lt0_1).trans by0_0_1
  have by0_1_2 : w2.cell? ⟨w.heap.size, 1, none⟩ = some (.int .i64 x0.2.1) := (hb2.cell (p := ⟨w.heap.size, 1, none⟩) lt0_1).trans by0_1_1
  have by0_2_2 : w2.cell? ⟨w.heap.size, 2, none⟩ = some (.int .i64 x0.2.2.1) := (hb2.cell (p := ⟨w.heap.size, 2, none⟩) lt0_1).trans by0_2_1
  have by0_3_2 : w2.cell? ⟨w.heap.size, 3, none⟩ = some (.int .i64 x0.2.2.2.1) := (hb2.cell (p := ⟨w.heap.size, 3, none⟩) lt0_1).trans by0_3_1
  have by0_4_2 : w2.cell? ⟨w.heap.size, 4, none⟩ = some (.int .i64 x0.2.2.2.2) := (hb2.cell (p := ⟨w.heap.size, 4, none⟩) lt0_1).trans by0_4_1
  have lt0_2 : w.heap.size < w2.heap.size := Nat.lt_of_lt_of_le lt0_1 hb2.size
  clear by0_0_1 by0_1_1 by0_2_1 by0_3_1 by0_4_1
  go_wp2_with fail
  go_wp2_with fail
  refine (toInt64SS_any _ _ xs1 hz1 hu1 _ (rx1.below hB2)).mono ?_; rintro e w3 ⟨v4, rfl, ho5, hb6⟩
  have hB3 : Below W0.heap.size W0 w3 := bnext hB2 hb6
  have by0_0_3 : w3.cell? ⟨w.heap.size, 0, none⟩ = some (.int .i64 x0.1) := (hb6.cell (p := ⟨w.heap.size, 0, none⟩) lt0_2).trans by0_0_2
  have by0_1_3 : w3.cell? ⟨w.heap.size, 1, none⟩ = some (.int .i64 x0.2.1) := (hb6.cell (p := ⟨w.heap.size, 1, none⟩) lt0_2).trans by0_1_2
  have by0_2_3 : w3.cell? ⟨w.heap.size, 2, none⟩ = some (.int .i64 x0.2.2.1) := (hb6.cell (p := ⟨w.heap.size, 2, none⟩) lt0_2).trans by0_2_2
  have by0_3_3 : w3.cell? ⟨w.heap.size, 3, none⟩ = some (.int .i64 x0.2.2.2.1) := (hb6.cell (p := ⟨w.heap.size, 3, none⟩) lt0_2).trans by0_3_2
  have by0_4_3 : w3.cell? ⟨w.heap.size, 4, none⟩ = some (.int .i64 x0.2.2.2.2) := (hb6.cell (p := ⟨w.heap.size, 4, none⟩) lt0_2).trans by0_4_2
  have lt0_3 : w.heap.size < w3.heap.size := Nat.lt_of_lt_of_le lt0_2 hb6.size
  clear by0_0_2 by0_1_2 by0_2_2 by0_3_2 by0_4_2
  obtain ⟨A7, c8, rfl, rr9, hl10⟩ := ho5.form
  go_wp2_with fail
  go_wp2_with fail
  refine (toInt64S_any _ _ xs2 hz2 _ (rx2.below hB3)).mono ?_; rintro e w4 ⟨v12, rfl, ho13, hb14⟩
  have hB4 : Below W0.heap.size W0 w4 := bnext hB3 hb14
  have by0_0_4 : w4.cell? ⟨w.heap.size, 0, none⟩ = some (.int .i64 x0.1) := (hb14.cell (p := ⟨w.heap.size, 0, none⟩) lt0_3).trans by0_0_3
  have by0_1_4 : w4.cell? ⟨w.heap.size, 1, none⟩ = some (.int .i64 x0.2.1) := (hb14.cell (p := ⟨w.heap.size, 1, none⟩) lt0_3).trans by0_1_3
  have by0_2_4 : w4.cell? ⟨w.heap.size, 2, none⟩ = some (.int .i64 x0.2.2.1) := (hb14.cell (p := ⟨w.heap.size, 2, none⟩) lt0_3).trans by0_2_3
  have by0_3_4 : w4.cell? ⟨w.heap.size, 3, none⟩ = some (.int .i64 x0.2.2.2.1) := (hb14.cell (p := ⟨w.heap.size, 3, none⟩) lt0_3).trans by0_3_3
  have by0_4_4 : w4.cell? ⟨w.heap.size, 4, none⟩ = some (.int .i64 x0.2.2.2.2) := (hb14.cell (p := ⟨w.heap.size, 4, none⟩) lt0_3).trans by0_4_3
  have lt0_4 : w.heap.size < w4.heap.size := Nat.lt_of_lt_of_le lt0_3 hb14.size
  clear by0_0_3 by0_1_3 by0_2_3 by0_3_3 by0_4_3
  obtain ⟨A15, c16, rfl, rr17, hl18⟩ := ho13.form
  go_wp2_with fail
  go_wp2_with fail
  refine (spec_BestSwap_any x0 hx0 _ _ xs1 hz1 hu1 _ _ xs2 hz2 hu2 (own_cap ho13) _ (rr9.below hb14) rr17).mono ?_; rintro e w5 ⟨wr0, wr1, wr2, rfl, wR, hb19⟩
  have wRh := Lib.hid wR
  clear wR
  have hB5 : Below W0.heap.size W0 w5 := bnext hB4 hb19
  have by0_0_5 : w5.cell? ⟨w.heap.size, 0, none⟩ = some (.int .i64 x0.1) := (hb19.cell (p := ⟨w.heap.size, 0, none⟩) lt0_4).trans by0_0_4
  have by0_1_5 : w5.cell? ⟨w.heap.size, 1, none⟩ = some (.int .i64 x0.2.1) := (hb19.cell (p := ⟨w.heap.size, 1, none⟩) lt0_4).trans by0_1_4
  have by0_2_5 : w5.cell? ⟨w.heap.size, 2, none⟩ = some (.int .i64 x0.2.2.1) := (hb19.cell (p := ⟨w.heap.size, 2, none⟩) lt0_4).trans by0_2_4
  have by0_3_5 : w5.cell? ⟨w.heap.size, 3, none⟩ = some (.int .i64 x0.2.2.2.1) := (hb19.cell (p := ⟨w.heap.size, 3, none⟩) lt0_4).trans by0_3_4
  have by0_4_5 : w5.cell? ⟨w.heap.size, 4, none⟩ = some (.int .i64 x0.2.2.2.2) := (hb19.cell (p := ⟨w.heap.size, 4, none⟩) lt0_4).trans by0_4_4
  have lt0_5 : w.heap.size < w5.heap.size := Nat.lt_of_lt_of_le lt0_4 hb19.size
  clear by0_0_4 by0_1_4 by0_2_4 by0_3_4 by0_4_4
  go_wp2_with fail
  go_wp2_with fail
  refine (toInt64SS_any _ _ xs1 hz1 hu1 _ (rx1.below hB5)).mono ?_; rintro e w6 ⟨v21, rfl, ho22, hb23⟩
  have hB6 : Below W0.heap.size W0 w6 := bnext hB5 hb23
  have by0_0_6 : w6.cell? ⟨w.heap.size, 0, none⟩ = some (.int .i64 x0.1) := (hb23.cell (p := ⟨w.heap.size, 0, none⟩) lt0_5).trans by0_0_5
  have by0_1_6 : w6.cell? ⟨w.heap.size, 1, none⟩ = some (.int .i64 x0.2.1) := (hb23.cell (p := ⟨w.heap.size, 1, none⟩) lt0_5).trans by0_1_5
  have by0_2_6 : w6.cell? ⟨w.heap.size, 2, none⟩ = some (.int .i64 x0.2.2.1) := (hb23.cell (p := ⟨w.heap.size, 2, none⟩) lt0_5).trans by0_2_5
  have by0_3_6 : w6.cell? ⟨w.heap.size, 3, none⟩ = some (.int .i64 x0.2.2.2.1) := (hb23.cell (p := ⟨w.heap.size, 3, none⟩) lt0_5).trans by0_3_5
  have by0_4_6 : w6.cell? ⟨w.heap.size, 4, none⟩ = some (.int .i64 x0.2.2.2.2) := (hb23.cell (p := ⟨w.heap.size, 4, none⟩) lt0_5).trans by0_4_5
  have lt0_6 : w.heap.size < w6.heap.size := Nat.lt_of_lt_of_le lt0_5 hb23.size
  clear by0_0_5 by0_1_5 by0_2_5 by0_3_5 by0_4_5
  obtain ⟨A24, c25, rfl, rr26, hl27⟩ := ho22.form
  go_wp2_with fail
  go_wp2_with fail
  refine (toInt64S_any _ _ xs2 hz2 _ (rx2.below hB6)).mono ?_; rintro e w7 ⟨v29, rfl, ho30, hb31⟩
  have hB7 : Below W0.heap.size W0 w7 := bnext hB6 hb31
  have by0_0_7 : w7.cell? ⟨w.heap.size, 0, none⟩ = some (.int .i64 x0.1) := (hb31.cell (p := ⟨w.heap.size, 0, none⟩) lt0_6).trans by0_0_6
  have by0_1_7 : w7.cell? ⟨w.heap.size, 1, none⟩ = some (.int .i64 x0.2.1) := (hb31.cell (p := ⟨w.heap.size, 1, none⟩) lt0_6).trans by0_1_6
  have by0_2_7 : w7.cell? ⟨w.heap.size, 2, none⟩ = some (.int .i64 x0.2.2.1) := (hb31.cell (p := ⟨w.heap.size, 2, none⟩) lt0_6).trans by0_2_6
  have by0_3_7 : w7.cell? ⟨w.heap.size, 3, none⟩ = some (.int .i64 x0.2.2.2.1) := (hb31.cell (p := ⟨w.heap.size, 3, none⟩) lt0_6).trans by0_3_6
  have by0_4_7 : w7.cell? ⟨w.heap.size, 4, none⟩ = some (.int .i64 x0.2.2.2.2) := (hb31.cell (p := ⟨w.heap.size, 4, none⟩) lt0_6).trans by0_4_6
  have lt0_7 : w.heap.size < w7.heap.size := Nat.lt_of_lt_of_le lt0_6 hb31.size
  clear by0_0_6 by0_1_6 by0_2_6 by0_3_6 by0_4_6
  obtain ⟨A32, c33, rfl, rr34, hl35⟩ := ho30.form
  go_wp2_with fail
  go_wp2_with fail
  refine (toBasket_any x0 _).mono ?_; rintro e w8 ⟨rfl, hb36⟩
  have hB8 : Below W0.heap.size W0 w8 := bnext hB7 hb36
  have by0_0_8 : w8.cell? ⟨w.heap.size, 0, none⟩ = some (.int .i64 x0.1) := (hb36.cell (p := ⟨w.heap.size, 0, none⟩) lt0_7).trans by0_0_7
  have by0_1_8 : w8.cell? ⟨w.heap.size, 1, none⟩ = some (.int .i64 x0.2.1) := (hb36.cell (p := ⟨w.heap.size, 1, none⟩) lt0_7).trans by0_1_7
  have by0_2_8 : w8.cell? ⟨w.heap.size, 2, none⟩ = some (.int .i64 x0.2.2.1) := (hb36.cell (p := ⟨w.heap.size, 2, none⟩) lt0_7).trans by0_2_7
  have by0_3_8 : w8.cell? ⟨w.heap.size, 3, none⟩ = some (.int .i64 x0.2.2.2.1) := (hb36.cell (p := ⟨w.heap.size, 3, none⟩) lt0_7).trans by0_3_7
  have by0_4_8 : w8.cell? ⟨w.heap.size, 4, none⟩ = some (.int .i64 x0.2.2.2.2) := (hb36.cell (p := ⟨w.heap.size, 4, none⟩) lt0_7).trans by0_4_7
  have lt0_8 : w.heap.size < w8.heap.size := Nat.lt_of_lt_of_le lt0_7 hb36.size
  clear by0_0_7 by0_1_7 by0_2_7 by0_3_7 by0_4_7
  go_wp2_with fail
  go_wp2_with fail
  refine (impl_BestSwap_any x0 hx0 _ _ xs1 hz1 hu1 _ _ xs2 hz2 hu2 (own_cap ho30) _ (rr26.below (bnext hb31 hb36)) (rr34.below hb36)).mono ?_; rintro e w9 ⟨gr0, gr1, gr2, rfl, gR, hb37⟩
  have gRh := Lib.hid gR
  clear gR
  have hB9 : Below W0.heap.size W0 w9 := bnext hB8 hb37
  have by0_0_9 : w9.cell? ⟨w.heap.size, 0, none⟩ = some (.int .i64 x0.1) := (hb37.cell (p := ⟨w.heap.size, 0, none⟩) lt0_8).trans by0_0_8
  have by0_1_9 : w9.cell? ⟨w.heap.size, 1, none⟩ = some (.int .i64 x0.2.1) := (hb37.cell (p := ⟨w.heap.size, 1, none⟩) lt0_8).trans by0_1_8
  have by0_2_9 : w9.cell? ⟨w.heap.size, 2, none⟩ = some (.int .i64 x0.2.2.1) := (hb37.cell (p := ⟨w.heap.size, 2, none⟩) lt0_8).trans by0_2_8
  have by0_3_9 : w9.cell? ⟨w.heap.size, 3, none⟩ = some (.int .i64 x0.2.2.2.1) := (hb37.cell (p := ⟨w.heap.size, 3, none⟩) lt0_8).trans by0_3_8
  have by0_4_9 : w9.cell? ⟨w.heap.size, 4, none⟩ = some (.int .i64 x0.2.2.2.2) := (hb37.cell (p := ⟨w.heap.size, 4, none⟩) lt0_8).trans by0_4_8
  have lt0_9 : w.heap.size < w9.heap.size := Nat.lt_of_lt_of_le lt0_8 hb37.size
  clear by0_0_8 by0_1_8 by0_2_8 by0_3_8 by0_4_8
  have gQ := gRh.out.trans wRh.out.symm
  simp only [Prod.mk.injEq] at gQ
  obtain ⟨rfl, rfl, rfl⟩ := gQ
  go_wp2_with fail
  go_wp2_with fail
  refine (toInt64SS_any _ _ xs1 hz1 hu1 _ (rx1.below hB9)).mono ?_; rintro e w10 ⟨v39, rfl, ho40, hb41⟩
  have hB10 : Below W0.heap.size W0 w10 := bnext hB9 hb41
  have by0_0_10 : w10.cell? ⟨w.heap.size, 0, none⟩ = some (.int .i64 x0.1) := (hb41.cell (p := ⟨w.heap.size, 0, none⟩) lt0_9).trans by0_0_9
  have by0_1_10 : w10.cell? ⟨w.heap.size, 1, none⟩ = some (.int .i64 x0.2.1) := (hb41.cell (p := ⟨w.heap.size, 1, none⟩) lt0_9).trans by0_1_9
  have by0_2_10 : w10.cell? ⟨w.heap.size, 2, none⟩ = some (.int .i64 x0.2.2.1) := (hb41.cell (p := ⟨w.heap.size, 2, none⟩) lt0_9).trans by0_2_9
  have by0_3_10 : w10.cell? ⟨w.heap.size, 3, none⟩ = some (.int .i64 x0.2.2.2.1) := (hb41.cell (p := ⟨w.heap.size, 3, none⟩) lt0_9).trans by0_3_9
  have by0_4_10 : w10.cell? ⟨w.heap.size, 4, none⟩ = some (.int .i64 x0.2.2.2.2) := (hb41.cell (p := ⟨w.heap.size, 4, none⟩) lt0_9).trans by0_4_9
  have lt0_10 : w.heap.size < w10.heap.size := Nat.lt_of_lt_of_le lt0_9 hb41.size
  clear by0_0_9 by0_1_9 by0_2_9 by0_3_9 by0_4_9
  obtain ⟨A42, c43, rfl, rr44, hl45⟩ := ho40.form
  go_wp2_with fail
  go_wp2_with fail
  refine (eqInt64SS_any _ _ _ _ xs1 xs1 (Nat.le_trans hz1 (by decide)) (Nat.le_trans hz1 (by decide)) hu1 hu1 _ (rr26.below (bnext hb31 (bnext hb36 (bnext hb37 hb41)))) rr44).mono ?_; rintro e w11 ⟨b46, rfl, hq47, hb48⟩
  obtain rfl : b46 = true := hq47.2 rfl
  have hB11 : Below W0.heap.size W0 w11 := bnext hB10 hb48
  have by0_0_11 : w11.cell? ⟨w.heap.size, 0, none⟩ = some (.int .i64 x0.1) := (hb48.cell (p := ⟨w.heap.size, 0, none⟩) lt0_10).trans by0_0_10
  have by0_1_11 : w11.cell? ⟨w.heap.size, 1, none⟩ = some (.int .i64 x0.2.1) := (hb48.cell (p := ⟨w.heap.size, 1, none⟩) lt0_10).trans by0_1_10
  have by0_2_11 : w11.cell? ⟨w.heap.size, 2, none⟩ = some (.int .i64 x0.2.2.1) := (hb48.cell (p := ⟨w.heap.size, 2, none⟩) lt0_10).trans by0_2_10
  have by0_3_11 : w11.cell? ⟨w.heap.size, 3, none⟩ = some (.int .i64 x0.2.2.2.1) := (hb48.cell (p := ⟨w.heap.size, 3, none⟩) lt0_10).trans by0_3_10
  have by0_4_11 : w11.cell? ⟨w.heap.size, 4, none⟩ = some (.int .i64 x0.2.2.2.2) := (hb48.cell (p := ⟨w.heap.size, 4, none⟩) lt0_10).trans by0_4_10
  have lt0_11 : w.heap.size < w11.heap.size := Nat.lt_of_lt_of_le lt0_10 hb48.size
  clear by0_0_10 by0_1_10 by0_2_10 by0_3_10 by0_4_10
  go_wp2_with fail
  go_wp2_with fail
  refine (toInt64S_any _ _ xs2 hz2 _ (rx2.below hB11)).mono ?_; rintro e w12 ⟨v50, rfl, ho51, hb52⟩
  have hB12 : Below W0.heap.size W0 w12 := bnext hB11 hb52
  have by0_0_12 : w12.cell? ⟨w.heap.size, 0, none⟩ = some (.int .i64 x0.1) := (hb52.cell (p := ⟨w.heap.size, 0, none⟩) lt0_11).trans by0_0_11
  have by0_1_12 : w12.cell? ⟨w.heap.size, 1, none⟩ = some (.int .i64 x0.2.1) := (hb52.cell (p := ⟨w.heap.size, 1, none⟩) lt0_11).trans by0_1_11
  have by0_2_12 : w12.cell? ⟨w.heap.size, 2, none⟩ = some (.int .i64 x0.2.2.1) := (hb52.cell (p := ⟨w.heap.size, 2, none⟩) lt0_11).trans by0_2_11
  have by0_3_12 : w12.cell? ⟨w.heap.size, 3, none⟩ = some (.int .i64 x0.2.2.2.1) := (hb52.cell (p := ⟨w.heap.size, 3, none⟩) lt0_11).trans by0_3_11
  have by0_4_12 : w12.cell? ⟨w.heap.size, 4, none⟩ = some (.int .i64 x0.2.2.2.2) := (hb52.cell (p := ⟨w.heap.size, 4, none⟩) lt0_11).trans by0_4_11
  have lt0_12 : w.heap.size < w12.heap.size := Nat.lt_of_lt_of_le lt0_11 hb52.size
  clear by0_0_11 by0_1_11 by0_2_11 by0_3_11 by0_4_11
  obtain ⟨A53, c54, rfl, rr55, hl56⟩ := ho51.form
  go_wp2_with fail
  go_wp2_with fail
  refine (eqInt64S_any _ _ _ _ xs2 xs2 (Nat.le_trans hz2 (by decide)) (Nat.le_trans hz2 (by decide)) _ (rr34.below (bnext hb36 (bnext hb37 (bnext hb41 (bnext hb48 hb52))))) rr55).mono ?_; rintro e w13 ⟨b57, rfl, hq58, hb59⟩
  obtain rfl : b57 = true := hq58.2 rfl
  have hB13 : Below W0.heap.size W0 w13 := bnext hB12 hb59
  have by0_0_13 : w13.cell? ⟨w.heap.size, 0, none⟩ = some (.int .i64 x0.1) := (hb59.cell (p := ⟨w.heap.size, 0, none⟩) lt0_12).trans by0_0_12
  have by0_1_13 : w13.cell? ⟨w.heap.size, 1, none⟩ = some (.int .i64 x0.2.1) := (hb59.cell (p := ⟨w.heap.size, 1, none⟩) lt0_12).trans by0_1_12
  have by0_2_13 : w13.cell? ⟨w.heap.size, 2, none⟩ = some (.int .i64 x0.2.2.1) := (hb59.cell (p := ⟨w.heap.size, 2, none⟩) lt0_12).trans by0_2_12
  have by0_3_13 : w13.cell? ⟨w.heap.size, 3, none⟩ = some (.int .i64 x0.2.2.2.1) := (hb59.cell (p := ⟨w.heap.size, 3, none⟩) lt0_12).trans by0_3_12
  have by0_4_13 : w13.cell? ⟨w.heap.size, 4, none⟩ = some (.int .i64 x0.2.2.2.2) := (hb59.cell (p := ⟨w.heap.size, 4, none⟩) lt0_12).trans by0_4_12
  have lt0_13 : w.heap.size < w13.heap.size := Nat.lt_of_lt_of_le lt0_12 hb59.size
  clear by0_0_12 by0_1_12 by0_2_12 by0_3_12 by0_4_12
  go_wp2_with fail
  go_ret
  exact ⟨rfl, bnext hB0 (hB13)⟩
end Go.Proofs.Ytemaheoebigkgaa.fnExactBestSwap
