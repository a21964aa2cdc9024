/-
  WBestArrange: the walk through the law FnExactBestArrange: it returns true, and only new blocks are made.
-/
import Derived.Test.YteepcnfpdmmnhaaFBest
import Derived.Test.YteepcnfpdmmnhaaTBasket
import Derived.Test.YteepcnfpdmmnhaaTInt64S
import Derived.Test.YteepcnfpdmmnhaaTPairs
import Derived.Test.YteepcnfpdmmnhaaKInt64S
import Derived.Test.YteepcnfpdmmnhaaKInt64SS
namespace Go.Proofs.Yteepcnfpdmmnhaa.fnExactBestArrange
open Go.ChangeShapes Go.WideShapes Go.ChangeAt Go.RowKit
set_option linter.unusedVariables false
attribute [local go_sem ↓] Go.wp_at_zero Go.wp_at_succ

set_option maxHeartbeats 4000000 in
set_option maxRecDepth 100000 in
theorem walk (x0 : TBasket) (hx0 : okBasket x0) (A1 : Option Addr) (c1 : Nat) (xs1 : List (List Int)) (hx1 : xs1.length ≤ maxLen) (hk1 : ∀ r ∈ xs1, r.length ≤ maxLen ∧ ∀ x ∈ r, I64 x) (w : World) (rx1 : RowXX w A1 xs1) :
    Calls Try.prog 10 #[.agg #[.int .i64 x0.1, .int .i64 x0.2.1, .int .i64 x0.2.2.1, .int .i64 x0.2.2.2.1, .int .i64 x0.2.2.2.2], .slice A1 xs1.length c1] w fun e w' => e = .returned (.bool true) ∧ Below w.heap.size w w' := by
  go_enter Try.func10, Try.ntmps10
  go_wp2_with fail
  have hB0 : Below w.heap.size w (w.alloc (.cells #[.int .i64 x0.1, .int .i64 x0.2.1, .int .i64 x0.2.2.1, .int .i64 x0.2.2.2.1, .int .i64 x0.2.2.2.2] 23)) := by repeat (first | exact Below.refl _ _ | (apply bal))
  have lt0_0 : w.heap.size < (w.alloc (.cells #[.int .i64 x0.1, .int .i64 x0.2.1, .int .i64 x0.2.2.1, .int .i64 x0.2.2.2.1, .int .i64 x0.2.2.2.2] 23)).heap.size := by simp
  have by0_0_0 : (w.alloc (.cells #[.int .i64 x0.1, .int .i64 x0.2.1, .int .i64 x0.2.2.1, .int .i64 x0.2.2.2.1, .int .i64 x0.2.2.2.2] 23)).cell? ⟨w.heap.size, 0, none⟩ = some (.int .i64 x0.1) := by simp [go_sem]
  have by0_1_0 : (w.alloc (.cells #[.int .i64 x0.1, .int .i64 x0.2.1, .int .i64 x0.2.2.1, .int .i64 x0.2.2.2.1, .int .i64 x0.2.2.2.2] 23)).cell? ⟨w.heap.size, 1, none⟩ = some (.int .i64 x0.2.1) := by simp [go_sem]
  have by0_2_0 : (w.alloc (.cells #[.int .i64 x0.1, .int .i64 x0.2.1, .int .i64 x0.2.2.1, .int .i64 x0.2.2.2.1, .int .i64 x0.2.2.2.2] 23)).cell? ⟨w.heap.size, 2, none⟩ = some (.int .i64 x0.2.2.1) := by simp [go_sem]
  have by0_3_0 : (w.alloc (.cells #[.int .i64 x0.1, .int .i64 x0.2.1, .int .i64 x0.2.2.1, .int .i64 x0.2.2.2.1, .int .i64 x0.2.2.2.2] 23)).cell? ⟨w.heap.size, 3, none⟩ = some (.int .i64 x0.2.2.2.1) := by simp [go_sem]
  have by0_4_0 : (w.alloc (.cells #[.int .i64 x0.1, .int .i64 x0.2.1, .int .i64 x0.2.2.1, .int .i64 x0.2.2.2.1, .int .i64 x0.2.2.2.2] 23)).cell? ⟨w.heap.size, 4, none⟩ = some (.int .i64 x0.2.2.2.2) := by simp [go_sem]
  generalize hW0 : (w.alloc (.cells #[.int .i64 x0.1, .int .i64 x0.2.1, .int .i64 x0.2.2.1, .int .i64 x0.2.2.2.1, .int .i64 x0.2.2.2.2] 23)) = W0 at *
  clear hW0
  replace rx1 := rx1.below hB0
  go_wp2_with fail
  refine (szInt64SS_any _ _ xs1 _ hx1 hk1 (by omega) (by omega) _ rx1).mono ?_; rintro e w1 ⟨l0, rfl, hl0, hb1⟩
  have hB1 : Below W0.heap.size W0 w1 := hb1
  have by0_0_1 : w1.cell? ⟨w.heap.size, 0, none⟩ = some (.int .i64 x0.1) := (hb1.cell (p := ⟨w.heap.size, 0, none⟩) lt0_0).trans by0_0_0
  have by0_1_1 : w1.cell? ⟨w.heap.size, 1, none⟩ = some (.int .i64 x0.2.1) := (hb1.cell (p := ⟨w.heap.size, 1, none⟩) lt0_0).trans by0_1_0
  have by0_2_1 : w1.cell? ⟨w.heap.size, 2, none⟩ = some (.int .i64 x0.2.2.1) := (hb1.cell (p := ⟨w.heap.size, 2, none⟩) lt0_0).trans by0_2_0
  have by0_3_1 : w1.cell? ⟨w.heap.size, 3, none⟩ = some (.int .i64 x0.2.2.2.1) := (hb1.cell (p := ⟨w.heap.size, 3, none⟩) lt0_0).trans by0_3_0
  have by0_4_1 : w1.cell? ⟨w.heap.size, 4, none⟩ = some (.int .i64 x0.2.2.2.2) := (hb1.cell (p := ⟨w.heap.size, 4, none⟩) lt0_0).trans by0_4_0
  have lt0_1 : w.heap.size < w1.heap.size := Nat.lt_of_lt_of_le lt0_0 hb1.size
  clear by0_0_0 by0_1_0 by0_2_0 by0_3_0 by0_4_0
  by_cases hnl0 : l0 < 0
  · go_wp2_with fail
    go_ret
    exact ⟨rfl, bnext hB0 (hB1)⟩
  have hl02 := hl0 (by omega)
  have hz1 : xs1.length ≤ 1048576 := by omega
  have hu1 : ∀ r ∈ xs1, r.length ≤ 1048576 ∧ ∀ x ∈ r, I64 x := fun q hq => ⟨by have := hl02.2.2 q hq; omega, (hk1 q hq).2⟩
  have l0b : l0 ≤ 1048576 := by omega
  have hl0h := Lib.hid hl02; clear hl0 hl02
  go_wp2_with fail
  go_wp2_with fail
  refine (toBasket_any x0 _).mono ?_; rintro e w2 ⟨rfl, hb2⟩
  have hB2 : Below W0.heap.size W0 w2 := bnext hB1 hb2
  have by0_0_2 : w2.cell? ⟨w.heap.size, 0, none⟩ = some (.int .i64 x0.1) := (hb2.cell (p := ⟨w.heap.size, 0, none⟩) lt0_1).trans by0_0_1
  have by0_1_2 : w2.cell? ⟨w.heap.size, 1, none⟩ = some (.int .i64 x0.2.1) := (hb2.cell (p := ⟨w.heap.size, 1, none⟩) lt0_1).trans by0_1_1
  have by0_2_2 : w2.cell? ⟨w.heap.size, 2, none⟩ = some (.int .i64 x0.2.2.1) := (hb2.cell (p := ⟨w.heap.size, 2, none⟩) lt0_1).trans by0_2_1
  have by0_3_2 : w2.cell? ⟨w.heap.size, 3, none⟩ = some (.int .i64 x0.2.2.2.1) := (hb2.cell (p := ⟨w.heap.size, 3, none⟩) lt0_1).trans by0_3_1
  have by0_4_2 : w2.cell? ⟨w.heap.size, 4, none⟩ = some (.int .i64 x0.2.2.2.2) := (hb2.cell (p := ⟨w.heap.size, 4, none⟩) lt0_1).trans by0_4_1
  have lt0_2 : w.heap.size < w2.heap.size := Nat.lt_of_lt_of_le lt0_1 hb2.size
  clear by0_0_1 by0_1_1 by0_2_1 by0_3_1 by0_4_1
  go_wp2_with fail
  go_wp2_with fail
  refine (toInt64SS_any _ _ xs1 hz1 hu1 _ (rx1.below hB2)).mono ?_; rintro e w3 ⟨v4, rfl, ho5, hb6⟩
  have hB3 : Below W0.heap.size W0 w3 := bnext hB2 hb6
  have by0_0_3 : w3.cell? ⟨w.heap.size, 0, none⟩ = some (.int .i64 x0.1) := (hb6.cell (p := ⟨w.heap.size, 0, none⟩) lt0_2).trans by0_0_2
  have by0_1_3 : w3.cell? ⟨w.heap.size, 1, none⟩ = some (.int .i64 x0.2.1) := (hb6.cell (p := ⟨w.heap.size, 1, none⟩) lt0_2).trans by0_1_2
  have by0_2_3 : w3.cell? ⟨w.heap.size, 2, none⟩ = some (.int .i64 x0.2.2.1) := (hb6.cell (p := ⟨w.heap.size, 2, none⟩) lt0_2).trans by0_2_2
  have by0_3_3 : w3.cell? ⟨w.heap.size, 3, none⟩ = some (.int .i64 x0.2.2.2.1) := (hb6.cell (p := ⟨w.heap.size, 3, none⟩) lt0_2).trans by0_3_2
  have by0_4_3 : w3.cell? ⟨w.heap.size, 4, none⟩ = some (.int .i64 x0.2.2.2.2) := (hb6.cell (p := ⟨w.heap.size, 4, none⟩) lt0_2).trans by0_4_2
  have lt0_3 : w.heap.size < w3.heap.size := Nat.lt_of_lt_of_le lt0_2 hb6.size
  clear by0_0_2 by0_1_2 by0_2_2 by0_3_2 by0_4_2
  obtain ⟨A7, c8, rfl, rr9, hl10⟩ := ho5.form
  clear hl10
  go_wp2_with fail
  go_wp2_with fail
  refine (spec_BestArrange_any x0 hx0 _ _ xs1 hz1 hu1 _ rr9).mono ?_; rintro e w4 ⟨wv0, wy0, wr1, wr2, rfl, wR, wn0, wo0, hb11⟩
  have wRh := Lib.hid wR
  clear wR
  have hB4 : Below W0.heap.size W0 w4 := bnext hB3 hb11
  have by0_0_4 : w4.cell? ⟨w.heap.size, 0, none⟩ = some (.int .i64 x0.1) := (hb11.cell (p := ⟨w.heap.size, 0, none⟩) lt0_3).trans by0_0_3
  have by0_1_4 : w4.cell? ⟨w.heap.size, 1, none⟩ = some (.int .i64 x0.2.1) := (hb11.cell (p := ⟨w.heap.size, 1, none⟩) lt0_3).trans by0_1_3
  have by0_2_4 : w4.cell? ⟨w.heap.size, 2, none⟩ = some (.int .i64 x0.2.2.1) := (hb11.cell (p := ⟨w.heap.size, 2, none⟩) lt0_3).trans by0_2_3
  have by0_3_4 : w4.cell? ⟨w.heap.size, 3, none⟩ = some (.int .i64 x0.2.2.2.1) := (hb11.cell (p := ⟨w.heap.size, 3, none⟩) lt0_3).trans by0_3_3
  have by0_4_4 : w4.cell? ⟨w.heap.size, 4, none⟩ = some (.int .i64 x0.2.2.2.2) := (hb11.cell (p := ⟨w.heap.size, 4, none⟩) lt0_3).trans by0_4_3
  have lt0_4 : w.heap.size < w4.heap.size := Nat.lt_of_lt_of_le lt0_3 hb11.size
  clear by0_0_3 by0_1_3 by0_2_3 by0_3_3 by0_4_3
  obtain ⟨A13, c14, rfl, rr15, hl16⟩ := wo0.form
  clear hl16
  go_wp2_with fail
  go_wp2_with fail
  refine (toInt64SS_any _ _ xs1 hz1 hu1 _ (rx1.below hB4)).mono ?_; rintro e w5 ⟨v18, rfl, ho19, hb20⟩
  have hB5 : Below W0.heap.size W0 w5 := bnext hB4 hb20
  have by0_0_5 : w5.cell? ⟨w.heap.size, 0, none⟩ = some (.int .i64 x0.1) := (hb20.cell (p := ⟨w.heap.size, 0, none⟩) lt0_4).trans by0_0_4
  have by0_1_5 : w5.cell? ⟨w.heap.size, 1, none⟩ = some (.int .i64 x0.2.1) := (hb20.cell (p := ⟨w.heap.size, 1, none⟩) lt0_4).trans by0_1_4
  have by0_2_5 : w5.cell? ⟨w.heap.size, 2, none⟩ = some (.int .i64 x0.2.2.1) := (hb20.cell (p := ⟨w.heap.size, 2, none⟩) lt0_4).trans by0_2_4
  have by0_3_5 : w5.cell? ⟨w.heap.size, 3, none⟩ = some (.int .i64 x0.2.2.2.1) := (hb20.cell (p := ⟨w.heap.size, 3, none⟩) lt0_4).trans by0_3_4
  have by0_4_5 : w5.cell? ⟨w.heap.size, 4, none⟩ = some (.int .i64 x0.2.2.2.2) := (hb20.cell (p := ⟨w.heap.size, 4, none⟩) lt0_4).trans by0_4_4
  have lt0_5 : w.heap.size < w5.heap.size := Nat.lt_of_lt_of_le lt0_4 hb20.size
  clear by0_0_4 by0_1_4 by0_2_4 by0_3_4 by0_4_4
  obtain ⟨A21, c22, rfl, rr23, hl24⟩ := ho19.form
  clear hl24
  go_wp2_with fail
  go_wp2_with fail
  refine (toBasket_any x0 _).mono ?_; rintro e w6 ⟨rfl, hb25⟩
  have hB6 : Below W0.heap.size W0 w6 := bnext hB5 hb25
  have by0_0_6 : w6.cell? ⟨w.heap.size, 0, none⟩ = some (.int .i64 x0.1) := (hb25.cell (p := ⟨w.heap.size, 0, none⟩) lt0_5).trans by0_0_5
  have by0_1_6 : w6.cell? ⟨w.heap.size, 1, none⟩ = some (.int .i64 x0.2.1) := (hb25.cell (p := ⟨w.heap.size, 1, none⟩) lt0_5).trans by0_1_5
  have by0_2_6 : w6.cell? ⟨w.heap.size, 2, none⟩ = some (.int .i64 x0.2.2.1) := (hb25.cell (p := ⟨w.heap.size, 2, none⟩) lt0_5).trans by0_2_5
  have by0_3_6 : w6.cell? ⟨w.heap.size, 3, none⟩ = some (.int .i64 x0.2.2.2.1) := (hb25.cell (p := ⟨w.heap.size, 3, none⟩) lt0_5).trans by0_3_5
  have by0_4_6 : w6.cell? ⟨w.heap.size, 4, none⟩ = some (.int .i64 x0.2.2.2.2) := (hb25.cell (p := ⟨w.heap.size, 4, none⟩) lt0_5).trans by0_4_5
  have lt0_6 : w.heap.size < w6.heap.size := Nat.lt_of_lt_of_le lt0_5 hb25.size
  clear by0_0_5 by0_1_5 by0_2_5 by0_3_5 by0_4_5
  go_wp2_with fail
  go_wp2_with fail
  refine (impl_BestArrange_any x0 hx0 _ _ xs1 hz1 hu1 _ (rr23.below hb25)).mono ?_; rintro e w7 ⟨gv0, gy0, gr1, gr2, rfl, gR, gn0, go0, hb26⟩
  have gRh := Lib.hid gR
  clear gR
  have hB7 : Below W0.heap.size W0 w7 := bnext hB6 hb26
  have by0_0_7 : w7.cell? ⟨w.heap.size, 0, none⟩ = some (.int .i64 x0.1) := (hb26.cell (p := ⟨w.heap.size, 0, none⟩) lt0_6).trans by0_0_6
  have by0_1_7 : w7.cell? ⟨w.heap.size, 1, none⟩ = some (.int .i64 x0.2.1) := (hb26.cell (p := ⟨w.heap.size, 1, none⟩) lt0_6).trans by0_1_6
  have by0_2_7 : w7.cell? ⟨w.heap.size, 2, none⟩ = some (.int .i64 x0.2.2.1) := (hb26.cell (p := ⟨w.heap.size, 2, none⟩) lt0_6).trans by0_2_6
  have by0_3_7 : w7.cell? ⟨w.heap.size, 3, none⟩ = some (.int .i64 x0.2.2.2.1) := (hb26.cell (p := ⟨w.heap.size, 3, none⟩) lt0_6).trans by0_3_6
  have by0_4_7 : w7.cell? ⟨w.heap.size, 4, none⟩ = some (.int .i64 x0.2.2.2.2) := (hb26.cell (p := ⟨w.heap.size, 4, none⟩) lt0_6).trans by0_4_6
  have lt0_7 : w.heap.size < w7.heap.size := Nat.lt_of_lt_of_le lt0_6 hb26.size
  clear by0_0_6 by0_1_6 by0_2_6 by0_3_6 by0_4_6
  obtain ⟨A28, c29, rfl, rr30, hl31⟩ := go0.form
  clear hl31
  have gQ := gRh.out.trans wRh.out.symm
  simp only [Prod.mk.injEq] at gQ
  obtain ⟨gY0, rfl, rfl⟩ := gQ
  have gY0h := Lib.hid gY0
  clear gY0
  go_wp2_with fail
  go_wp2_with fail
  refine (eqInt64S_any _ _ _ _ gy0 wy0 (Nat.le_trans gn0 (by decide)) (Nat.le_trans wn0 (by decide)) _ rr30 (rr15.below (bnext hb20 (bnext hb25 hb26)))).mono ?_; rintro e w8 ⟨b32, rfl, hq33, hb34⟩
  obtain rfl : b32 = true := hq33.2 gY0h.out
  clear hq33
  have hB8 : Below W0.heap.size W0 w8 := bnext hB7 hb34
  have by0_0_8 : w8.cell? ⟨w.heap.size, 0, none⟩ = some (.int .i64 x0.1) := (hb34.cell (p := ⟨w.heap.size, 0, none⟩) lt0_7).trans by0_0_7
  have by0_1_8 : w8.cell? ⟨w.heap.size, 1, none⟩ = some (.int .i64 x0.2.1) := (hb34.cell (p := ⟨w.heap.size, 1, none⟩) lt0_7).trans by0_1_7
  have by0_2_8 : w8.cell? ⟨w.heap.size, 2, none⟩ = some (.int .i64 x0.2.2.1) := (hb34.cell (p := ⟨w.heap.size, 2, none⟩) lt0_7).trans by0_2_7
  have by0_3_8 : w8.cell? ⟨w.heap.size, 3, none⟩ = some (.int .i64 x0.2.2.2.1) := (hb34.cell (p := ⟨w.heap.size, 3, none⟩) lt0_7).trans by0_3_7
  have by0_4_8 : w8.cell? ⟨w.heap.size, 4, none⟩ = some (.int .i64 x0.2.2.2.2) := (hb34.cell (p := ⟨w.heap.size, 4, none⟩) lt0_7).trans by0_4_7
  have lt0_8 : w.heap.size < w8.heap.size := Nat.lt_of_lt_of_le lt0_7 hb34.size
  clear by0_0_7 by0_1_7 by0_2_7 by0_3_7 by0_4_7
  go_wp2_with fail
  go_wp2_with fail
  refine (toInt64SS_any _ _ xs1 hz1 hu1 _ (rx1.below hB8)).mono ?_; rintro e w9 ⟨v36, rfl, ho37, hb38⟩
  have hB9 : Below W0.heap.size W0 w9 := bnext hB8 hb38
  have by0_0_9 : w9.cell? ⟨w.heap.size, 0, none⟩ = some (.int .i64 x0.1) := (hb38.cell (p := ⟨w.heap.size, 0, none⟩) lt0_8).trans by0_0_8
  have by0_1_9 : w9.cell? ⟨w.heap.size, 1, none⟩ = some (.int .i64 x0.2.1) := (hb38.cell (p := ⟨w.heap.size, 1, none⟩) lt0_8).trans by0_1_8
  have by0_2_9 : w9.cell? ⟨w.heap.size, 2, none⟩ = some (.int .i64 x0.2.2.1) := (hb38.cell (p := ⟨w.heap.size, 2, none⟩) lt0_8).trans by0_2_8
  have by0_3_9 : w9.cell? ⟨w.heap.size, 3, none⟩ = some (.int .i64 x0.2.2.2.1) := (hb38.cell (p := ⟨w.heap.size, 3, none⟩) lt0_8).trans by0_3_8
  have by0_4_9 : w9.cell? ⟨w.heap.size, 4, none⟩ = some (.int .i64 x0.2.2.2.2) := (hb38.cell (p := ⟨w.heap.size, 4, none⟩) lt0_8).trans by0_4_8
  have lt0_9 : w.heap.size < w9.heap.size := Nat.lt_of_lt_of_le lt0_8 hb38.size
  clear by0_0_8 by0_1_8 by0_2_8 by0_3_8 by0_4_8
  obtain ⟨A39, c40, rfl, rr41, hl42⟩ := ho37.form
  clear hl42
  go_wp2_with fail
  go_wp2_with fail
  refine (eqInt64SS_any _ _ _ _ xs1 xs1 (Nat.le_trans hz1 (by decide)) (Nat.le_trans hz1 (by decide)) hu1 hu1 _ (rr23.below (bnext hb25 (bnext hb26 (bnext hb34 hb38)))) rr41).mono ?_; rintro e w10 ⟨b43, rfl, hq44, hb45⟩
  obtain rfl : b43 = true := hq44.2 rfl
  have hB10 : Below W0.heap.size W0 w10 := bnext hB9 hb45
  have by0_0_10 : w10.cell? ⟨w.heap.size, 0, none⟩ = some (.int .i64 x0.1) := (hb45.cell (p := ⟨w.heap.size, 0, none⟩) lt0_9).trans by0_0_9
  have by0_1_10 : w10.cell? ⟨w.heap.size, 1, none⟩ = some (.int .i64 x0.2.1) := (hb45.cell (p := ⟨w.heap.size, 1, none⟩) lt0_9).trans by0_1_9
  have by0_2_10 : w10.cell? ⟨w.heap.size, 2, none⟩ = some (.int .i64 x0.2.2.1) := (hb45.cell (p := ⟨w.heap.size, 2, none⟩) lt0_9).trans by0_2_9
  have by0_3_10 : w10.cell? ⟨w.heap.size, 3, none⟩ = some (.int .i64 x0.2.2.2.1) := (hb45.cell (p := ⟨w.heap.size, 3, none⟩) lt0_9).trans by0_3_9
  have by0_4_10 : w10.cell? ⟨w.heap.size, 4, none⟩ = some (.int .i64 x0.2.2.2.2) := (hb45.cell (p := ⟨w.heap.size, 4, none⟩) lt0_9).trans by0_4_9
  have lt0_10 : w.heap.size < w10.heap.size := Nat.lt_of_lt_of_le lt0_9 hb45.size
  clear by0_0_9 by0_1_9 by0_2_9 by0_3_9 by0_4_9
  go_wp2_with fail
  go_wp2_with fail
  have oh49 := (ho19.below (bnext hb25 (bnext hb26 (bnext hb34 (bnext hb38 hb45)))))
  refine (markInt64SS_any _ xs1 hz1 hu1 1 (by omega) (by omega) _ oh49).mono ?_; rintro e w11 ⟨r46, rfl, hr47, hw48⟩
  have hbm50 : Below w4.heap.size w10 w11 := hw48.below (Nat.le_trans (Nat.le_trans (Nat.le_trans (Nat.le_trans (Nat.le_trans hb20.size hb25.size) hb26.size) hb34.size) hb38.size) hb45.size)
  have hr470 : 1 ≤ r46 := hr47.1
  have hr479 : r46 ≤ 1099511627777 := by have := hr47.2; have := hz1; omega
  have hr47n : ¬ (r46 < 0) := by omega
  have hr47d : decide (r46 < 0) = false := decide_eq_false hr47n
  have hr47h := Lib.hid (show r46 = r46 ∧ True from ⟨rfl, trivial⟩)
  clear hr47
  have ok_51 := ((wo0.below (bnext hb20 (bnext hb25 (bnext hb26 (bnext hb34 (bnext hb38 hb45))))))).keptW hw48 (fun g hg => .inl (Nat.lt_of_lt_of_le (wo0.2.lt g hg).2 (Nat.le_refl _)))
  have ok_52 := ((go0.below (bnext hb34 (bnext hb38 hb45)))).keptW hw48 (fun g hg => .inr (Nat.le_trans hb25.size (go0.2.lt g hg).1))
  have hB11 : Below W0.heap.size W0 w11 := hB10.trans (hbm50.mono (Nat.le_trans (Nat.le_trans (Nat.le_trans hb1.size hb2.size) hb6.size) hb11.size))
  have by0_0_11 : w11.cell? ⟨w.heap.size, 0, none⟩ = some (.int .i64 x0.1) := (hbm50.cell (p := ⟨w.heap.size, 0, none⟩) (Nat.lt_of_lt_of_le lt0_0 (Nat.le_trans (Nat.le_trans (Nat.le_trans hb1.size hb2.size) hb6.size) hb11.size))).trans by0_0_10
  have by0_1_11 : w11.cell? ⟨w.heap.size, 1, none⟩ = some (.int .i64 x0.2.1) := (hbm50.cell (p := ⟨w.heap.size, 1, none⟩) (Nat.lt_of_lt_of_le lt0_0 (Nat.le_trans (Nat.le_trans (Nat.le_trans hb1.size hb2.size) hb6.size) hb11.size))).trans by0_1_10
  have by0_2_11 : w11.cell? ⟨w.heap.size, 2, none⟩ = some (.int .i64 x0.2.2.1) := (hbm50.cell (p := ⟨w.heap.size, 2, none⟩) (Nat.lt_of_lt_of_le lt0_0 (Nat.le_trans (Nat.le_trans (Nat.le_trans hb1.size hb2.size) hb6.size) hb11.size))).trans by0_2_10
  have by0_3_11 : w11.cell? ⟨w.heap.size, 3, none⟩ = some (.int .i64 x0.2.2.2.1) := (hbm50.cell (p := ⟨w.heap.size, 3, none⟩) (Nat.lt_of_lt_of_le lt0_0 (Nat.le_trans (Nat.le_trans (Nat.le_trans hb1.size hb2.size) hb6.size) hb11.size))).trans by0_3_10
  have by0_4_11 : w11.cell? ⟨w.heap.size, 4, none⟩ = some (.int .i64 x0.2.2.2.2) := (hbm50.cell (p := ⟨w.heap.size, 4, none⟩) (Nat.lt_of_lt_of_le lt0_0 (Nat.le_trans (Nat.le_trans (Nat.le_trans hb1.size hb2.size) hb6.size) hb11.size))).trans by0_4_10
  have lt0_11 : w.heap.size < w11.heap.size := Nat.lt_of_lt_of_le lt0_10 hw48.size
  clear by0_0_10 by0_1_10 by0_2_10 by0_3_10 by0_4_10
  go_wp2_with fail
  go_wp2_with fail
  refine (eqInt64S_any _ _ _ _ gy0 wy0 (Nat.le_trans gn0 (by decide)) (Nat.le_trans wn0 (by decide)) _ (own_row ok_52) (own_row ok_51)).mono ?_; rintro e w12 ⟨b53, rfl, hq54, hb55⟩
  obtain rfl : b53 = true := hq54.2 gY0h.out
  clear hq54
  have hB12 : Below W0.heap.size W0 w12 := bnext hB11 hb55
  have by0_0_12 : w12.cell? ⟨w.heap.size, 0, none⟩ = some (.int .i64 x0.1) := (hb55.cell (p := ⟨w.heap.size, 0, none⟩) lt0_11).trans by0_0_11
  have by0_1_12 : w12.cell? ⟨w.heap.size, 1, none⟩ = some (.int .i64 x0.2.1) := (hb55.cell (p := ⟨w.heap.size, 1, none⟩) lt0_11).trans by0_1_11
  have by0_2_12 : w12.cell? ⟨w.heap.size, 2, none⟩ = some (.int .i64 x0.2.2.1) := (hb55.cell (p := ⟨w.heap.size, 2, none⟩) lt0_11).trans by0_2_11
  have by0_3_12 : w12.cell? ⟨w.heap.size, 3, none⟩ = some (.int .i64 x0.2.2.2.1) := (hb55.cell (p := ⟨w.heap.size, 3, none⟩) lt0_11).trans by0_3_11
  have by0_4_12 : w12.cell? ⟨w.heap.size, 4, none⟩ = some (.int .i64 x0.2.2.2.2) := (hb55.cell (p := ⟨w.heap.size, 4, none⟩) lt0_11).trans by0_4_11
  have lt0_12 : w.heap.size < w12.heap.size := Nat.lt_of_lt_of_le lt0_11 hb55.size
  clear by0_0_11 by0_1_11 by0_2_11 by0_3_11 by0_4_11
  go_wp2_with fail
  have oh60 := (ok_52.below hb55)
  refine (markInt64S_any _ gy0 gn0 1 (by omega) (by omega) _ oh60).mono ?_; rintro e w13 ⟨r56, rfl, hr57, ho58, hg59⟩
  have hbm61 : Below w6.heap.size w12 w13 := below_own oh60 hg59 (Nat.le_refl _) (Nat.le_trans (Nat.le_trans (Nat.le_trans (Nat.le_trans (Nat.le_trans hb26.size hb34.size) hb38.size) hb45.size) hw48.size) hb55.size)
  have hr570 : 1 ≤ r56 := hr57.2
  have hr579 : r56 ≤ 1048577 := by have := hr57.1; have := gn0; omega
  have hr57n : ¬ (r56 < 0) := by omega
  have hr57d : decide (r56 < 0) = false := decide_eq_false hr57n
  have hr57h := Lib.hid hr57
  clear hr57
  have ok_62 := ((ok_51.below hb55)).kept hg59 (own_apart wo0 go0 (Nat.le_trans hb20.size hb25.size))
  have hB13 : Below W0.heap.size W0 w13 := hB12.trans (hbm61.mono (Nat.le_trans (Nat.le_trans (Nat.le_trans (Nat.le_trans (Nat.le_trans hb1.size hb2.size) hb6.size) hb11.size) hb20.size) hb25.size))
  have by0_0_13 : w13.cell? ⟨w.heap.size, 0, none⟩ = some (.int .i64 x0.1) := (hbm61.cell (p := ⟨w.heap.size, 0, none⟩) (Nat.lt_of_lt_of_le lt0_0 (Nat.le_trans (Nat.le_trans (Nat.le_trans (Nat.le_trans (Nat.le_trans hb1.size hb2.size) hb6.size) hb11.size) hb20.size) hb25.size))).trans by0_0_12
  have by0_1_13 : w13.cell? ⟨w.heap.size, 1, none⟩ = some (.int .i64 x0.2.1) := (hbm61.cell (p := ⟨w.heap.size, 1, none⟩) (Nat.lt_of_lt_of_le lt0_0 (Nat.le_trans (Nat.le_trans (Nat.le_trans (Nat.le_trans (Nat.le_trans hb1.size hb2.size) hb6.size) hb11.size) hb20.size) hb25.size))).trans by0_1_12
  have by0_2_13 : w13.cell? ⟨w.heap.size, 2, none⟩ = some (.int .i64 x0.2.2.1) := (hbm61.cell (p := ⟨w.heap.size, 2, none⟩) (Nat.lt_of_lt_of_le lt0_0 (Nat.le_trans (Nat.le_trans (Nat.le_trans (Nat.le_trans (Nat.le_trans hb1.size hb2.size) hb6.size) hb11.size) hb20.size) hb25.size))).trans by0_2_12
  have by0_3_13 : w13.cell? ⟨w.heap.size, 3, none⟩ = some (.int .i64 x0.2.2.2.1) := (hbm61.cell (p := ⟨w.heap.size, 3, none⟩) (Nat.lt_of_lt_of_le lt0_0 (Nat.le_trans (Nat.le_trans (Nat.le_trans (Nat.le_trans (Nat.le_trans hb1.size hb2.size) hb6.size) hb11.size) hb20.size) hb25.size))).trans by0_3_12
  have by0_4_13 : w13.cell? ⟨w.heap.size, 4, none⟩ = some (.int .i64 x0.2.2.2.2) := (hbm61.cell (p := ⟨w.heap.size, 4, none⟩) (Nat.lt_of_lt_of_le lt0_0 (Nat.le_trans (Nat.le_trans (Nat.le_trans (Nat.le_trans (Nat.le_trans hb1.size hb2.size) hb6.size) hb11.size) hb20.size) hb25.size))).trans by0_4_12
  have lt0_13 : w.heap.size < w13.heap.size := Nat.lt_of_lt_of_le lt0_12 hg59.size
  clear by0_0_12 by0_1_12 by0_2_12 by0_3_12 by0_4_12
  go_wp2_with fail
  refine (heldInt64S_any _ _ gy0.length gn0 1 (by omega) (by omega) _ (own_row ho58)).mono ?_; rintro e w14 ⟨r63, rfl, hr64, hb65⟩
  have hB14 : Below W0.heap.size W0 w14 := bnext hB13 hb65
  have by0_0_14 : w14.cell? ⟨w.heap.size, 0, none⟩ = some (.int .i64 x0.1) := (hb65.cell (p := ⟨w.heap.size, 0, none⟩) lt0_13).trans by0_0_13
  have by0_1_14 : w14.cell? ⟨w.heap.size, 1, none⟩ = some (.int .i64 x0.2.1) := (hb65.cell (p := ⟨w.heap.size, 1, none⟩) lt0_13).trans by0_1_13
  have by0_2_14 : w14.cell? ⟨w.heap.size, 2, none⟩ = some (.int .i64 x0.2.2.1) := (hb65.cell (p := ⟨w.heap.size, 2, none⟩) lt0_13).trans by0_2_13
  have by0_3_14 : w14.cell? ⟨w.heap.size, 3, none⟩ = some (.int .i64 x0.2.2.2.1) := (hb65.cell (p := ⟨w.heap.size, 3, none⟩) lt0_13).trans by0_3_13
  have by0_4_14 : w14.cell? ⟨w.heap.size, 4, none⟩ = some (.int .i64 x0.2.2.2.2) := (hb65.cell (p := ⟨w.heap.size, 4, none⟩) lt0_13).trans by0_4_13
  have lt0_14 : w.heap.size < w14.heap.size := Nat.lt_of_lt_of_le lt0_13 hb65.size
  clear by0_0_13 by0_1_13 by0_2_13 by0_3_13 by0_4_13
  have hr64q : r56 = r63 := by have := hr64.1; have := hr57h.out.1; omega
  clear hr64
  subst hr64q
  go_wp2_with fail
  go_wp2_with fail
  refine (toBasket_any x0 _).mono ?_; rintro e w15 ⟨rfl, hb66⟩
  have hB15 : Below W0.heap.size W0 w15 := bnext hB14 hb66
  have by0_0_15 : w15.cell? ⟨w.heap.size, 0, none⟩ = some (.int .i64 x0.1) := (hb66.cell (p := ⟨w.heap.size, 0, none⟩) lt0_14).trans by0_0_14
  have by0_1_15 : w15.cell? ⟨w.heap.size, 1, none⟩ = some (.int .i64 x0.2.1) := (hb66.cell (p := ⟨w.heap.size, 1, none⟩) lt0_14).trans by0_1_14
  have by0_2_15 : w15.cell? ⟨w.heap.size, 2, none⟩ = some (.int .i64 x0.2.2.1) := (hb66.cell (p := ⟨w.heap.size, 2, none⟩) lt0_14).trans by0_2_14
  have by0_3_15 : w15.cell? ⟨w.heap.size, 3, none⟩ = some (.int .i64 x0.2.2.2.1) := (hb66.cell (p := ⟨w.heap.size, 3, none⟩) lt0_14).trans by0_3_14
  have by0_4_15 : w15.cell? ⟨w.heap.size, 4, none⟩ = some (.int .i64 x0.2.2.2.2) := (hb66.cell (p := ⟨w.heap.size, 4, none⟩) lt0_14).trans by0_4_14
  have lt0_15 : w.heap.size < w15.heap.size := Nat.lt_of_lt_of_le lt0_14 hb66.size
  clear by0_0_14 by0_1_14 by0_2_14 by0_3_14 by0_4_14
  go_wp2_with fail
  go_wp2_with fail
  refine (toInt64SS_any _ _ xs1 hz1 hu1 _ (rx1.below hB15)).mono ?_; rintro e w16 ⟨v68, rfl, ho69, hb70⟩
  have hB16 : Below W0.heap.size W0 w16 := bnext hB15 hb70
  have by0_0_16 : w16.cell? ⟨w.heap.size, 0, none⟩ = some (.int .i64 x0.1) := (hb70.cell (p := ⟨w.heap.size, 0, none⟩) lt0_15).trans by0_0_15
  have by0_1_16 : w16.cell? ⟨w.heap.size, 1, none⟩ = some (.int .i64 x0.2.1) := (hb70.cell (p := ⟨w.heap.size, 1, none⟩) lt0_15).trans by0_1_15
  have by0_2_16 : w16.cell? ⟨w.heap.size, 2, none⟩ = some (.int .i64 x0.2.2.1) := (hb70.cell (p := ⟨w.heap.size, 2, none⟩) lt0_15).trans by0_2_15
  have by0_3_16 : w16.cell? ⟨w.heap.size, 3, none⟩ = some (.int .i64 x0.2.2.2.1) := (hb70.cell (p := ⟨w.heap.size, 3, none⟩) lt0_15).trans by0_3_15
  have by0_4_16 : w16.cell? ⟨w.heap.size, 4, none⟩ = some (.int .i64 x0.2.2.2.2) := (hb70.cell (p := ⟨w.heap.size, 4, none⟩) lt0_15).trans by0_4_15
  have lt0_16 : w.heap.size < w16.heap.size := Nat.lt_of_lt_of_le lt0_15 hb70.size
  clear by0_0_15 by0_1_15 by0_2_15 by0_3_15 by0_4_15
  obtain ⟨A71, c72, rfl, rr73, hl74⟩ := ho69.form
  clear hl74
  go_wp2_with fail
  go_wp2_with fail
  refine (impl_BestArrange_any x0 hx0 _ _ xs1 hz1 hu1 _ rr73).mono ?_; rintro e w17 ⟨hv0, hy0, hr1, hr2, rfl, hR, hn0, ho0, hb75⟩
  have hRh := Lib.hid hR
  clear hR
  have hB17 : Below W0.heap.size W0 w17 := bnext hB16 hb75
  have by0_0_17 : w17.cell? ⟨w.heap.size, 0, none⟩ = some (.int .i64 x0.1) := (hb75.cell (p := ⟨w.heap.size, 0, none⟩) lt0_16).trans by0_0_16
  have by0_1_17 : w17.cell? ⟨w.heap.size, 1, none⟩ = some (.int .i64 x0.2.1) := (hb75.cell (p := ⟨w.heap.size, 1, none⟩) lt0_16).trans by0_1_16
  have by0_2_17 : w17.cell? ⟨w.heap.size, 2, none⟩ = some (.int .i64 x0.2.2.1) := (hb75.cell (p := ⟨w.heap.size, 2, none⟩) lt0_16).trans by0_2_16
  have by0_3_17 : w17.cell? ⟨w.heap.size, 3, none⟩ = some (.int .i64 x0.2.2.2.1) := (hb75.cell (p := ⟨w.heap.size, 3, none⟩) lt0_16).trans by0_3_16
  have by0_4_17 : w17.cell? ⟨w.heap.size, 4, none⟩ = some (.int .i64 x0.2.2.2.2) := (hb75.cell (p := ⟨w.heap.size, 4, none⟩) lt0_16).trans by0_4_16
  have lt0_17 : w.heap.size < w17.heap.size := Nat.lt_of_lt_of_le lt0_16 hb75.size
  clear by0_0_16 by0_1_16 by0_2_16 by0_3_16 by0_4_16
  obtain ⟨A77, c78, rfl, rr79, hl80⟩ := ho0.form
  clear hl80
  have hQ := hRh.out.trans wRh.out.symm
  simp only [Prod.mk.injEq] at hQ
  obtain ⟨hY0, rfl, rfl⟩ := hQ
  have hY0h := Lib.hid hY0
  clear hY0
  go_wp2_with fail
  go_wp2_with fail
  refine (eqInt64S_any _ _ _ _ hy0 wy0 (Nat.le_trans hn0 (by decide)) (Nat.le_trans wn0 (by decide)) _ rr79 (own_row (ok_62.below (bnext hb65 (bnext hb66 (bnext hb70 hb75)))))).mono ?_; rintro e w18 ⟨b81, rfl, hq82, hb83⟩
  obtain rfl : b81 = true := hq82.2 hY0h.out
  clear hq82
  have hB18 : Below W0.heap.size W0 w18 := bnext hB17 hb83
  have by0_0_18 : w18.cell? ⟨w.heap.size, 0, none⟩ = some (.int .i64 x0.1) := (hb83.cell (p := ⟨w.heap.size, 0, none⟩) lt0_17).trans by0_0_17
  have by0_1_18 : w18.cell? ⟨w.heap.size, 1, none⟩ = some (.int .i64 x0.2.1) := (hb83.cell (p := ⟨w.heap.size, 1, none⟩) lt0_17).trans by0_1_17
  have by0_2_18 : w18.cell? ⟨w.heap.size, 2, none⟩ = some (.int .i64 x0.2.2.1) := (hb83.cell (p := ⟨w.heap.size, 2, none⟩) lt0_17).trans by0_2_17
  have by0_3_18 : w18.cell? ⟨w.heap.size, 3, none⟩ = some (.int .i64 x0.2.2.2.1) := (hb83.cell (p := ⟨w.heap.size, 3, none⟩) lt0_17).trans by0_3_17
  have by0_4_18 : w18.cell? ⟨w.heap.size, 4, none⟩ = some (.int .i64 x0.2.2.2.2) := (hb83.cell (p := ⟨w.heap.size, 4, none⟩) lt0_17).trans by0_4_17
  have lt0_18 : w.heap.size < w18.heap.size := Nat.lt_of_lt_of_le lt0_17 hb83.size
  clear by0_0_17 by0_1_17 by0_2_17 by0_3_17 by0_4_17
  go_wp2_with fail
  refine (heldInt64S_any _ _ gy0.length gn0 1 (by omega) (by omega) _ (own_row (ho58.below (bnext hb65 (bnext hb66 (bnext hb70 (bnext hb75 hb83))))))).mono ?_; rintro e w19 ⟨r84, rfl, hr85, hb86⟩
  have hB19 : Below W0.heap.size W0 w19 := bnext hB18 hb86
  have by0_0_19 : w19.cell? ⟨w.heap.size, 0, none⟩ = some (.int .i64 x0.1) := (hb86.cell (p := ⟨w.heap.size, 0, none⟩) lt0_18).trans by0_0_18
  have by0_1_19 : w19.cell? ⟨w.heap.size, 1, none⟩ = some (.int .i64 x0.2.1) := (hb86.cell (p := ⟨w.heap.size, 1, none⟩) lt0_18).trans by0_1_18
  have by0_2_19 : w19.cell? ⟨w.heap.size, 2, none⟩ = some (.int .i64 x0.2.2.1) := (hb86.cell (p := ⟨w.heap.size, 2, none⟩) lt0_18).trans by0_2_18
  have by0_3_19 : w19.cell? ⟨w.heap.size, 3, none⟩ = some (.int .i64 x0.2.2.2.1) := (hb86.cell (p := ⟨w.heap.size, 3, none⟩) lt0_18).trans by0_3_18
  have by0_4_19 : w19.cell? ⟨w.heap.size, 4, none⟩ = some (.int .i64 x0.2.2.2.2) := (hb86.cell (p := ⟨w.heap.size, 4, none⟩) lt0_18).trans by0_4_18
  have lt0_19 : w.heap.size < w19.heap.size := Nat.lt_of_lt_of_le lt0_18 hb86.size
  clear by0_0_18 by0_1_18 by0_2_18 by0_3_18 by0_4_18
  have hr85q : r56 = r84 := by have := hr85.1; have := hr57h.out.1; omega
  clear hr85
  subst hr85q
  go_wp2_with fail
  go_ret
  exact ⟨rfl, bnext hB0 (hB19)⟩
end Go.Proofs.Yteepcnfpdmmnhaa.fnExactBestArrange
