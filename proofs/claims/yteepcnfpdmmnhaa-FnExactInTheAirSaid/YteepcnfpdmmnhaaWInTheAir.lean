/-
  WInTheAir: the walk through the law FnExactInTheAir: it returns true, and only new blocks are made.
-/
import Derived.Test.YteepcnfpdmmnhaaFAirI
import Derived.Test.YteepcnfpdmmnhaaFAir
import Derived.Test.YteepcnfpdmmnhaaTBasket
import Derived.Test.YteepcnfpdmmnhaaTStroke
import Derived.Test.YteepcnfpdmmnhaaTInt64S
import Derived.Test.YteepcnfpdmmnhaaKInt64S
import Derived.Test.YteepcnfpdmmnhaaKStrokeS
namespace Go.Proofs.Yteepcnfpdmmnhaa.fnExactInTheAir
open Go.ChangeShapes Go.WideShapes Go.ChangeAt Go.RowKit
set_option linter.unusedVariables false
attribute [local go_sem ↓] Go.wp_at_zero Go.wp_at_succ

set_option maxHeartbeats 4000000 in
set_option maxRecDepth 100000 in
theorem walk (x0 : TBasket) (hx0 : okBasket x0) (A1 : Option Addr) (c1 : Nat) (xs1 : List TStroke) (hx1 : xs1.length ≤ maxLen) (hk1 : ∀ x ∈ xs1, okStroke x) (n2 : Int) (hn2 : I64 n2) (w : World) (rx1 : Row w A1 encStroke 2 xs1) :
    Calls Try.prog 3 #[.agg #[.int .i64 x0.1, .int .i64 x0.2.1, .int .i64 x0.2.2.1, .int .i64 x0.2.2.2.1, .int .i64 x0.2.2.2.2], .slice A1 xs1.length c1, .int .i64 n2] w fun e w' => e = .returned (.bool true) ∧ Below w.heap.size w w' := by
  go_enter Try.func3, Try.ntmps3
  go_wp2_with fail
  have hB0 : Below w.heap.size w (w.alloc (.cells #[.int .i64 x0.1, .int .i64 x0.2.1, .int .i64 x0.2.2.1, .int .i64 x0.2.2.2.1, .int .i64 x0.2.2.2.2] 23)) := by repeat (first | exact Below.refl _ _ | (apply bal))
  have lt0_0 : w.heap.size < (w.alloc (.cells #[.int .i64 x0.1, .int .i64 x0.2.1, .int .i64 x0.2.2.1, .int .i64 x0.2.2.2.1, .int .i64 x0.2.2.2.2] 23)).heap.size := by simp
  have by0_0_0 : (w.alloc (.cells #[.int .i64 x0.1, .int .i64 x0.2.1, .int .i64 x0.2.2.1, .int .i64 x0.2.2.2.1, .int .i64 x0.2.2.2.2] 23)).cell? ⟨w.heap.size, 0, none⟩ = some (.int .i64 x0.1) := by simp [go_sem]
  have by0_1_0 : (w.alloc (.cells #[.int .i64 x0.1, .int .i64 x0.2.1, .int .i64 x0.2.2.1, .int .i64 x0.2.2.2.1, .int .i64 x0.2.2.2.2] 23)).cell? ⟨w.heap.size, 1, none⟩ = some (.int .i64 x0.2.1) := by simp [go_sem]
  have by0_2_0 : (w.alloc (.cells #[.int .i64 x0.1, .int .i64 x0.2.1, .int .i64 x0.2.2.1, .int .i64 x0.2.2.2.1, .int .i64 x0.2.2.2.2] 23)).cell? ⟨w.heap.size, 2, none⟩ = some (.int .i64 x0.2.2.1) := by simp [go_sem]
  have by0_3_0 : (w.alloc (.cells #[.int .i64 x0.1, .int .i64 x0.2.1, .int .i64 x0.2.2.1, .int .i64 x0.2.2.2.1, .int .i64 x0.2.2.2.2] 23)).cell? ⟨w.heap.size, 3, none⟩ = some (.int .i64 x0.2.2.2.1) := by simp [go_sem]
  have by0_4_0 : (w.alloc (.cells #[.int .i64 x0.1, .int .i64 x0.2.1, .int .i64 x0.2.2.1, .int .i64 x0.2.2.2.1, .int .i64 x0.2.2.2.2] 23)).cell? ⟨w.heap.size, 4, none⟩ = some (.int .i64 x0.2.2.2.2) := by simp [go_sem]
  generalize hW0 : (w.alloc (.cells #[.int .i64 x0.1, .int .i64 x0.2.1, .int .i64 x0.2.2.1, .int .i64 x0.2.2.2.1, .int .i64 x0.2.2.2.2] 23)) = W0 at *
  clear hW0
  replace rx1 := rx1.below hB0
  go_wp2_with fail
  refine (szStrokeS_any _ _ xs1 _ hx1 (by omega) (by omega) _).mono ?_; rintro e w1 ⟨l0, rfl, hl0, hb1⟩
  have hB1 : Below W0.heap.size W0 w1 := hb1
  have by0_0_1 : w1.cell? ⟨w.heap.size, 0, none⟩ = some (.int .i64 x0.1) := (hb1.cell (p := ⟨w.heap.size, 0, none⟩) lt0_0).trans by0_0_0
  have by0_1_1 : w1.cell? ⟨w.heap.size, 1, none⟩ = some (.int .i64 x0.2.1) := (hb1.cell (p := ⟨w.heap.size, 1, none⟩) lt0_0).trans by0_1_0
  have by0_2_1 : w1.cell? ⟨w.heap.size, 2, none⟩ = some (.int .i64 x0.2.2.1) := (hb1.cell (p := ⟨w.heap.size, 2, none⟩) lt0_0).trans by0_2_0
  have by0_3_1 : w1.cell? ⟨w.heap.size, 3, none⟩ = some (.int .i64 x0.2.2.2.1) := (hb1.cell (p := ⟨w.heap.size, 3, none⟩) lt0_0).trans by0_3_0
  have by0_4_1 : w1.cell? ⟨w.heap.size, 4, none⟩ = some (.int .i64 x0.2.2.2.2) := (hb1.cell (p := ⟨w.heap.size, 4, none⟩) lt0_0).trans by0_4_0
  have lt0_1 : w.heap.size < w1.heap.size := Nat.lt_of_lt_of_le lt0_0 hb1.size
  clear by0_0_0 by0_1_0 by0_2_0 by0_3_0 by0_4_0
  by_cases hnl0 : l0 < 0
  · go_wp2_with fail
    go_ret
    exact ⟨rfl, bnext hB0 (hB1)⟩
  have hl02 := hl0 (by omega)
  have hz1 : xs1.length ≤ 1048576 := by omega
  have hu1 : ∀ x ∈ xs1, KStroke x := fun x hx => KStroke_of (hk1 x hx)
  have l0b : l0 ≤ 1048576 := by omega
  have hl0h := Lib.hid hl02; clear hl0 hl02
  go_wp2_with fail
  go_wp2_with fail
  refine (toBasket_any x0 _).mono ?_; rintro e w2 ⟨rfl, hb2⟩
  have hB2 : Below W0.heap.size W0 w2 := bnext hB1 hb2
  have by0_0_2 : w2.cell? ⟨w.heap.size, 0, none⟩ = some (.int .i64 x0.1) := (hb2.cell (p := ⟨w.heap.size, 0, none⟩) lt0_1).trans by0_0_1
  have by0_1_2 : w2.cell? ⟨w.heap.size, 1, none⟩ = some (.int .i64 x0.2.1) := (hb2.cell (p := ⟨w.heap.size, 1, none⟩) lt0_1).trans by0_1_1
  have by0_2_2 : w2.cell? ⟨w.heap.size, 2, none⟩ = some (.int .i64 x0.2.2.1) := (hb2.cell (p := ⟨w.heap.size, 2, none⟩) lt0_1).trans by0_2_1
  have by0_3_2 : w2.cell? ⟨w.heap.size, 3, none⟩ = some (.int .i64 x0.2.2.2.1) := (hb2.cell (p := ⟨w.heap.size, 3, none⟩) lt0_1).trans by0_3_1
  have by0_4_2 : w2.cell? ⟨w.heap.size, 4, none⟩ = some (.int .i64 x0.2.2.2.2) := (hb2.cell (p := ⟨w.heap.size, 4, none⟩) lt0_1).trans by0_4_1
  have lt0_2 : w.heap.size < w2.heap.size := Nat.lt_of_lt_of_le lt0_1 hb2.size
  clear by0_0_1 by0_1_1 by0_2_1 by0_3_1 by0_4_1
  go_wp2_with fail
  go_wp2_with fail
  refine (toStrokeS_any _ _ xs1 hz1 _ (rx1.below hB2)).mono ?_; rintro e w3 ⟨v4, rfl, ho5, hb6⟩
  have hB3 : Below W0.heap.size W0 w3 := bnext hB2 hb6
  have by0_0_3 : w3.cell? ⟨w.heap.size, 0, none⟩ = some (.int .i64 x0.1) := (hb6.cell (p := ⟨w.heap.size, 0, none⟩) lt0_2).trans by0_0_2
  have by0_1_3 : w3.cell? ⟨w.heap.size, 1, none⟩ = some (.int .i64 x0.2.1) := (hb6.cell (p := ⟨w.heap.size, 1, none⟩) lt0_2).trans by0_1_2
  have by0_2_3 : w3.cell? ⟨w.heap.size, 2, none⟩ = some (.int .i64 x0.2.2.1) := (hb6.cell (p := ⟨w.heap.size, 2, none⟩) lt0_2).trans by0_2_2
  have by0_3_3 : w3.cell? ⟨w.heap.size, 3, none⟩ = some (.int .i64 x0.2.2.2.1) := (hb6.cell (p := ⟨w.heap.size, 3, none⟩) lt0_2).trans by0_3_2
  have by0_4_3 : w3.cell? ⟨w.heap.size, 4, none⟩ = some (.int .i64 x0.2.2.2.2) := (hb6.cell (p := ⟨w.heap.size, 4, none⟩) lt0_2).trans by0_4_2
  have lt0_3 : w.heap.size < w3.heap.size := Nat.lt_of_lt_of_le lt0_2 hb6.size
  clear by0_0_2 by0_1_2 by0_2_2 by0_3_2 by0_4_2
  obtain ⟨A7, c8, rfl, rr9, hl10⟩ := ho5.form
  clear hl10
  go_wp2_with fail
  go_wp2_with fail
  refine (spec_InTheAir_any x0 hx0 _ _ xs1 hz1 hu1 n2 hn2 _ rr9).mono ?_; rintro e w4 ⟨wv0, wy0, wr1, rfl, wR, wn0, wo0, hb11⟩
  have wRh := Lib.hid wR
  clear wR
  have hB4 : Below W0.heap.size W0 w4 := bnext hB3 hb11
  have by0_0_4 : w4.cell? ⟨w.heap.size, 0, none⟩ = some (.int .i64 x0.1) := (hb11.cell (p := ⟨w.heap.size, 0, none⟩) lt0_3).trans by0_0_3
  have by0_1_4 : w4.cell? ⟨w.heap.size, 1, none⟩ = some (.int .i64 x0.2.1) := (hb11.cell (p := ⟨w.heap.size, 1, none⟩) lt0_3).trans by0_1_3
  have by0_2_4 : w4.cell? ⟨w.heap.size, 2, none⟩ = some (.int .i64 x0.2.2.1) := (hb11.cell (p := ⟨w.heap.size, 2, none⟩) lt0_3).trans by0_2_3
  have by0_3_4 : w4.cell? ⟨w.heap.size, 3, none⟩ = some (.int .i64 x0.2.2.2.1) := (hb11.cell (p := ⟨w.heap.size, 3, none⟩) lt0_3).trans by0_3_3
  have by0_4_4 : w4.cell? ⟨w.heap.size, 4, none⟩ = some (.int .i64 x0.2.2.2.2) := (hb11.cell (p := ⟨w.heap.size, 4, none⟩) lt0_3).trans by0_4_3
  have lt0_4 : w.heap.size < w4.heap.size := Nat.lt_of_lt_of_le lt0_3 hb11.size
  clear by0_0_3 by0_1_3 by0_2_3 by0_3_3 by0_4_3
  obtain ⟨A13, c14, rfl, rr15, hl16⟩ := wo0.form
  clear hl16
  go_wp2_with fail
  go_wp2_with fail
  refine (toStrokeS_any _ _ xs1 hz1 _ (rx1.below hB4)).mono ?_; rintro e w5 ⟨v18, rfl, ho19, hb20⟩
  have hB5 : Below W0.heap.size W0 w5 := bnext hB4 hb20
  have by0_0_5 : w5.cell? ⟨w.heap.size, 0, none⟩ = some (.int .i64 x0.1) := (hb20.cell (p := ⟨w.heap.size, 0, none⟩) lt0_4).trans by0_0_4
  have by0_1_5 : w5.cell? ⟨w.heap.size, 1, none⟩ = some (.int .i64 x0.2.1) := (hb20.cell (p := ⟨w.heap.size, 1, none⟩) lt0_4).trans by0_1_4
  have by0_2_5 : w5.cell? ⟨w.heap.size, 2, none⟩ = some (.int .i64 x0.2.2.1) := (hb20.cell (p := ⟨w.heap.size, 2, none⟩) lt0_4).trans by0_2_4
  have by0_3_5 : w5.cell? ⟨w.heap.size, 3, none⟩ = some (.int .i64 x0.2.2.2.1) := (hb20.cell (p := ⟨w.heap.size, 3, none⟩) lt0_4).trans by0_3_4
  have by0_4_5 : w5.cell? ⟨w.heap.size, 4, none⟩ = some (.int .i64 x0.2.2.2.2) := (hb20.cell (p := ⟨w.heap.size, 4, none⟩) lt0_4).trans by0_4_4
  have lt0_5 : w.heap.size < w5.heap.size := Nat.lt_of_lt_of_le lt0_4 hb20.size
  clear by0_0_4 by0_1_4 by0_2_4 by0_3_4 by0_4_4
  obtain ⟨A21, c22, rfl, rr23, hl24⟩ := ho19.form
  clear hl24
  go_wp2_with fail
  go_wp2_with fail
  refine (toBasket_any x0 _).mono ?_; rintro e w6 ⟨rfl, hb25⟩
  have hB6 : Below W0.heap.size W0 w6 := bnext hB5 hb25
  have by0_0_6 : w6.cell? ⟨w.heap.size, 0, none⟩ = some (.int .i64 x0.1) := (hb25.cell (p := ⟨w.heap.size, 0, none⟩) lt0_5).trans by0_0_5
  have by0_1_6 : w6.cell? ⟨w.heap.size, 1, none⟩ = some (.int .i64 x0.2.1) := (hb25.cell (p := ⟨w.heap.size, 1, none⟩) lt0_5).trans by0_1_5
  have by0_2_6 : w6.cell? ⟨w.heap.size, 2, none⟩ = some (.int .i64 x0.2.2.1) := (hb25.cell (p := ⟨w.heap.size, 2, none⟩) lt0_5).trans by0_2_5
  have by0_3_6 : w6.cell? ⟨w.heap.size, 3, none⟩ = some (.int .i64 x0.2.2.2.1) := (hb25.cell (p := ⟨w.heap.size, 3, none⟩) lt0_5).trans by0_3_5
  have by0_4_6 : w6.cell? ⟨w.heap.size, 4, none⟩ = some (.int .i64 x0.2.2.2.2) := (hb25.cell (p := ⟨w.heap.size, 4, none⟩) lt0_5).trans by0_4_5
  have lt0_6 : w.heap.size < w6.heap.size := Nat.lt_of_lt_of_le lt0_5 hb25.size
  clear by0_0_5 by0_1_5 by0_2_5 by0_3_5 by0_4_5
  go_wp2_with fail
  go_wp2_with fail
  refine (impl_InTheAir_any x0 hx0 _ _ xs1 hz1 hu1 n2 hn2 _ (rr23.below hb25)).mono ?_; rintro e w7 ⟨gv0, gy0, gr1, rfl, gR, gn0, go0, hb26⟩
  have gRh := Lib.hid gR
  clear gR
  have hB7 : Below W0.heap.size W0 w7 := bnext hB6 hb26
  have by0_0_7 : w7.cell? ⟨w.heap.size, 0, none⟩ = some (.int .i64 x0.1) := (hb26.cell (p := ⟨w.heap.size, 0, none⟩) lt0_6).trans by0_0_6
  have by0_1_7 : w7.cell? ⟨w.heap.size, 1, none⟩ = some (.int .i64 x0.2.1) := (hb26.cell (p := ⟨w.heap.size, 1, none⟩) lt0_6).trans by0_1_6
  have by0_2_7 : w7.cell? ⟨w.heap.size, 2, none⟩ = some (.int .i64 x0.2.2.1) := (hb26.cell (p := ⟨w.heap.size, 2, none⟩) lt0_6).trans by0_2_6
  have by0_3_7 : w7.cell? ⟨w.heap.size, 3, none⟩ = some (.int .i64 x0.2.2.2.1) := (hb26.cell (p := ⟨w.heap.size, 3, none⟩) lt0_6).trans by0_3_6
  have by0_4_7 : w7.cell? ⟨w.heap.size, 4, none⟩ = some (.int .i64 x0.2.2.2.2) := (hb26.cell (p := ⟨w.heap.size, 4, none⟩) lt0_6).trans by0_4_6
  have lt0_7 : w.heap.size < w7.heap.size := Nat.lt_of_lt_of_le lt0_6 hb26.size
  clear by0_0_6 by0_1_6 by0_2_6 by0_3_6 by0_4_6
  obtain ⟨A28, c29, rfl, rr30, hl31⟩ := go0.form
  clear hl31
  have gQ := gRh.out.trans wRh.out.symm
  simp only [Prod.mk.injEq] at gQ
  obtain ⟨gY0, rfl⟩ := gQ
  have gY0h := Lib.hid gY0
  clear gY0
  go_wp2_with fail
  go_wp2_with fail
  refine (eqInt64S_any _ _ _ _ gy0 wy0 (Nat.le_trans gn0 (by decide)) (Nat.le_trans wn0 (by decide)) _ rr30 (rr15.below (bnext hb20 (bnext hb25 hb26)))).mono ?_; rintro e w8 ⟨b32, rfl, hq33, hb34⟩
  obtain rfl : b32 = true := hq33.2 gY0h.out
  clear hq33
  have hB8 : Below W0.heap.size W0 w8 := bnext hB7 hb34
  have by0_0_8 : w8.cell? ⟨w.heap.size, 0, none⟩ = some (.int .i64 x0.1) := (hb34.cell (p := ⟨w.heap.size, 0, none⟩) lt0_7).trans by0_0_7
  have by0_1_8 : w8.cell? ⟨w.heap.size, 1, none⟩ = some (.int .i64 x0.2.1) := (hb34.cell (p := ⟨w.heap.size, 1, none⟩) lt0_7).trans by0_1_7
  have by0_2_8 : w8.cell? ⟨w.heap.size, 2, none⟩ = some (.int .i64 x0.2.2.1) := (hb34.cell (p := ⟨w.heap.size, 2, none⟩) lt0_7).trans by0_2_7
  have by0_3_8 : w8.cell? ⟨w.heap.size, 3, none⟩ = some (.int .i64 x0.2.2.2.1) := (hb34.cell (p := ⟨w.heap.size, 3, none⟩) lt0_7).trans by0_3_7
  have by0_4_8 : w8.cell? ⟨w.heap.size, 4, none⟩ = some (.int .i64 x0.2.2.2.2) := (hb34.cell (p := ⟨w.heap.size, 4, none⟩) lt0_7).trans by0_4_7
  have lt0_8 : w.heap.size < w8.heap.size := Nat.lt_of_lt_of_le lt0_7 hb34.size
  clear by0_0_7 by0_1_7 by0_2_7 by0_3_7 by0_4_7
  go_wp2_with fail
  go_wp2_with fail
  refine (toStrokeS_any _ _ xs1 hz1 _ (rx1.below hB8)).mono ?_; rintro e w9 ⟨v36, rfl, ho37, hb38⟩
  have hB9 : Below W0.heap.size W0 w9 := bnext hB8 hb38
  have by0_0_9 : w9.cell? ⟨w.heap.size, 0, none⟩ = some (.int .i64 x0.1) := (hb38.cell (p := ⟨w.heap.size, 0, none⟩) lt0_8).trans by0_0_8
  have by0_1_9 : w9.cell? ⟨w.heap.size, 1, none⟩ = some (.int .i64 x0.2.1) := (hb38.cell (p := ⟨w.heap.size, 1, none⟩) lt0_8).trans by0_1_8
  have by0_2_9 : w9.cell? ⟨w.heap.size, 2, none⟩ = some (.int .i64 x0.2.2.1) := (hb38.cell (p := ⟨w.heap.size, 2, none⟩) lt0_8).trans by0_2_8
  have by0_3_9 : w9.cell? ⟨w.heap.size, 3, none⟩ = some (.int .i64 x0.2.2.2.1) := (hb38.cell (p := ⟨w.heap.size, 3, none⟩) lt0_8).trans by0_3_8
  have by0_4_9 : w9.cell? ⟨w.heap.size, 4, none⟩ = some (.int .i64 x0.2.2.2.2) := (hb38.cell (p := ⟨w.heap.size, 4, none⟩) lt0_8).trans by0_4_8
  have lt0_9 : w.heap.size < w9.heap.size := Nat.lt_of_lt_of_le lt0_8 hb38.size
  clear by0_0_8 by0_1_8 by0_2_8 by0_3_8 by0_4_8
  obtain ⟨A39, c40, rfl, rr41, hl42⟩ := ho37.form
  clear hl42
  go_wp2_with fail
  go_wp2_with fail
  refine (eqStrokeS_any _ _ _ _ xs1 xs1 (Nat.le_trans hz1 (by decide)) (Nat.le_trans hz1 (by decide)) _ (rr23.below (bnext hb25 (bnext hb26 (bnext hb34 hb38)))) rr41).mono ?_; rintro e w10 ⟨b43, rfl, hq44, hb45⟩
  obtain rfl : b43 = true := hq44.2 rfl
  have hB10 : Below W0.heap.size W0 w10 := bnext hB9 hb45
  have by0_0_10 : w10.cell? ⟨w.heap.size, 0, none⟩ = some (.int .i64 x0.1) := (hb45.cell (p := ⟨w.heap.size, 0, none⟩) lt0_9).trans by0_0_9
  have by0_1_10 : w10.cell? ⟨w.heap.size, 1, none⟩ = some (.int .i64 x0.2.1) := (hb45.cell (p := ⟨w.heap.size, 1, none⟩) lt0_9).trans by0_1_9
  have by0_2_10 : w10.cell? ⟨w.heap.size, 2, none⟩ = some (.int .i64 x0.2.2.1) := (hb45.cell (p := ⟨w.heap.size, 2, none⟩) lt0_9).trans by0_2_9
  have by0_3_10 : w10.cell? ⟨w.heap.size, 3, none⟩ = some (.int .i64 x0.2.2.2.1) := (hb45.cell (p := ⟨w.heap.size, 3, none⟩) lt0_9).trans by0_3_9
  have by0_4_10 : w10.cell? ⟨w.heap.size, 4, none⟩ = some (.int .i64 x0.2.2.2.2) := (hb45.cell (p := ⟨w.heap.size, 4, none⟩) lt0_9).trans by0_4_9
  have lt0_10 : w.heap.size < w10.heap.size := Nat.lt_of_lt_of_le lt0_9 hb45.size
  clear by0_0_9 by0_1_9 by0_2_9 by0_3_9 by0_4_9
  go_wp2_with fail
  have oh50 := (ho19.below (bnext hb25 (bnext hb26 (bnext hb34 (bnext hb38 hb45)))))
  refine (markStrokeS_any _ xs1 hz1 1 (by omega) (by omega) _ oh50).mono ?_; rintro e w11 ⟨r46, rfl, hr47, ho48, hg49⟩
  have hbm51 : Below w4.heap.size w10 w11 := below_own oh50 hg49 (Nat.le_refl _) (Nat.le_trans (Nat.le_trans (Nat.le_trans (Nat.le_trans (Nat.le_trans hb20.size hb25.size) hb26.size) hb34.size) hb38.size) hb45.size)
  have hr470 : 1 ≤ r46 := hr47.2
  have hr479 : r46 ≤ 2097153 := by have := hr47.1; have := hz1; omega
  have hr47n : ¬ (r46 < 0) := by omega
  have hr47d : decide (r46 < 0) = false := decide_eq_false hr47n
  have hr47h := Lib.hid hr47
  clear hr47
  have ok_52 := ((wo0.below (bnext hb20 (bnext hb25 (bnext hb26 (bnext hb34 (bnext hb38 hb45))))))).kept hg49 (own_apart wo0 ho19 (Nat.le_refl _))
  have ok_53 := ((go0.below (bnext hb34 (bnext hb38 hb45)))).kept hg49 (own_apart' ho19 go0 hb25.size)
  have hB11 : Below W0.heap.size W0 w11 := hB10.trans (hbm51.mono (Nat.le_trans (Nat.le_trans (Nat.le_trans hb1.size hb2.size) hb6.size) hb11.size))
  have by0_0_11 : w11.cell? ⟨w.heap.size, 0, none⟩ = some (.int .i64 x0.1) := (hbm51.cell (p := ⟨w.heap.size, 0, none⟩) (Nat.lt_of_lt_of_le lt0_0 (Nat.le_trans (Nat.le_trans (Nat.le_trans hb1.size hb2.size) hb6.size) hb11.size))).trans by0_0_10
  have by0_1_11 : w11.cell? ⟨w.heap.size, 1, none⟩ = some (.int .i64 x0.2.1) := (hbm51.cell (p := ⟨w.heap.size, 1, none⟩) (Nat.lt_of_lt_of_le lt0_0 (Nat.le_trans (Nat.le_trans (Nat.le_trans hb1.size hb2.size) hb6.size) hb11.size))).trans by0_1_10
  have by0_2_11 : w11.cell? ⟨w.heap.size, 2, none⟩ = some (.int .i64 x0.2.2.1) := (hbm51.cell (p := ⟨w.heap.size, 2, none⟩) (Nat.lt_of_lt_of_le lt0_0 (Nat.le_trans (Nat.le_trans (Nat.le_trans hb1.size hb2.size) hb6.size) hb11.size))).trans by0_2_10
  have by0_3_11 : w11.cell? ⟨w.heap.size, 3, none⟩ = some (.int .i64 x0.2.2.2.1) := (hbm51.cell (p := ⟨w.heap.size, 3, none⟩) (Nat.lt_of_lt_of_le lt0_0 (Nat.le_trans (Nat.le_trans (Nat.le_trans hb1.size hb2.size) hb6.size) hb11.size))).trans by0_3_10
  have by0_4_11 : w11.cell? ⟨w.heap.size, 4, none⟩ = some (.int .i64 x0.2.2.2.2) := (hbm51.cell (p := ⟨w.heap.size, 4, none⟩) (Nat.lt_of_lt_of_le lt0_0 (Nat.le_trans (Nat.le_trans (Nat.le_trans hb1.size hb2.size) hb6.size) hb11.size))).trans by0_4_10
  have lt0_11 : w.heap.size < w11.heap.size := Nat.lt_of_lt_of_le lt0_10 hg49.size
  clear by0_0_10 by0_1_10 by0_2_10 by0_3_10 by0_4_10
  go_wp2_with fail
  go_wp2_with fail
  refine (eqInt64S_any _ _ _ _ gy0 wy0 (Nat.le_trans gn0 (by decide)) (Nat.le_trans wn0 (by decide)) _ (own_row ok_53) (own_row ok_52)).mono ?_; rintro e w12 ⟨b54, rfl, hq55, hb56⟩
  obtain rfl : b54 = true := hq55.2 gY0h.out
  clear hq55
  have hB12 : Below W0.heap.size W0 w12 := bnext hB11 hb56
  have by0_0_12 : w12.cell? ⟨w.heap.size, 0, none⟩ = some (.int .i64 x0.1) := (hb56.cell (p := ⟨w.heap.size, 0, none⟩) lt0_11).trans by0_0_11
  have by0_1_12 : w12.cell? ⟨w.heap.size, 1, none⟩ = some (.int .i64 x0.2.1) := (hb56.cell (p := ⟨w.heap.size, 1, none⟩) lt0_11).trans by0_1_11
  have by0_2_12 : w12.cell? ⟨w.heap.size, 2, none⟩ = some (.int .i64 x0.2.2.1) := (hb56.cell (p := ⟨w.heap.size, 2, none⟩) lt0_11).trans by0_2_11
  have by0_3_12 : w12.cell? ⟨w.heap.size, 3, none⟩ = some (.int .i64 x0.2.2.2.1) := (hb56.cell (p := ⟨w.heap.size, 3, none⟩) lt0_11).trans by0_3_11
  have by0_4_12 : w12.cell? ⟨w.heap.size, 4, none⟩ = some (.int .i64 x0.2.2.2.2) := (hb56.cell (p := ⟨w.heap.size, 4, none⟩) lt0_11).trans by0_4_11
  have lt0_12 : w.heap.size < w12.heap.size := Nat.lt_of_lt_of_le lt0_11 hb56.size
  clear by0_0_11 by0_1_11 by0_2_11 by0_3_11 by0_4_11
  go_wp2_with fail
  have oh61 := (ok_53.below hb56)
  refine (markInt64S_any _ gy0 gn0 1 (by omega) (by omega) _ oh61).mono ?_; rintro e w13 ⟨r57, rfl, hr58, ho59, hg60⟩
  have hbm62 : Below w6.heap.size w12 w13 := below_own oh61 hg60 (Nat.le_refl _) (Nat.le_trans (Nat.le_trans (Nat.le_trans (Nat.le_trans (Nat.le_trans hb26.size hb34.size) hb38.size) hb45.size) hg49.size) hb56.size)
  have hr580 : 1 ≤ r57 := hr58.2
  have hr589 : r57 ≤ 1048577 := by have := hr58.1; have := gn0; omega
  have hr58n : ¬ (r57 < 0) := by omega
  have hr58d : decide (r57 < 0) = false := decide_eq_false hr58n
  have hr58h := Lib.hid hr58
  clear hr58
  have ok_63 := ((ok_52.below hb56)).kept hg60 (own_apart wo0 go0 (Nat.le_trans hb20.size hb25.size))
  have hB13 : Below W0.heap.size W0 w13 := hB12.trans (hbm62.mono (Nat.le_trans (Nat.le_trans (Nat.le_trans (Nat.le_trans (Nat.le_trans hb1.size hb2.size) hb6.size) hb11.size) hb20.size) hb25.size))
  have by0_0_13 : w13.cell? ⟨w.heap.size, 0, none⟩ = some (.int .i64 x0.1) := (hbm62.cell (p := ⟨w.heap.size, 0, none⟩) (Nat.lt_of_lt_of_le lt0_0 (Nat.le_trans (Nat.le_trans (Nat.le_trans (Nat.le_trans (Nat.le_trans hb1.size hb2.size) hb6.size) hb11.size) hb20.size) hb25.size))).trans by0_0_12
  have by0_1_13 : w13.cell? ⟨w.heap.size, 1, none⟩ = some (.int .i64 x0.2.1) := (hbm62.cell (p := ⟨w.heap.size, 1, none⟩) (Nat.lt_of_lt_of_le lt0_0 (Nat.le_trans (Nat.le_trans (Nat.le_trans (Nat.le_trans (Nat.le_trans hb1.size hb2.size) hb6.size) hb11.size) hb20.size) hb25.size))).trans by0_1_12
  have by0_2_13 : w13.cell? ⟨w.heap.size, 2, none⟩ = some (.int .i64 x0.2.2.1) := (hbm62.cell (p := ⟨w.heap.size, 2, none⟩) (Nat.lt_of_lt_of_le lt0_0 (Nat.le_trans (Nat.le_trans (Nat.le_trans (Nat.le_trans (Nat.le_trans hb1.size hb2.size) hb6.size) hb11.size) hb20.size) hb25.size))).trans by0_2_12
  have by0_3_13 : w13.cell? ⟨w.heap.size, 3, none⟩ = some (.int .i64 x0.2.2.2.1) := (hbm62.cell (p := ⟨w.heap.size, 3, none⟩) (Nat.lt_of_lt_of_le lt0_0 (Nat.le_trans (Nat.le_trans (Nat.le_trans (Nat.le_trans (Nat.le_trans hb1.size hb2.size) hb6.size) hb11.size) hb20.size) hb25.size))).trans by0_3_12
  have by0_4_13 : w13.cell? ⟨w.heap.size, 4, none⟩ = some (.int .i64 x0.2.2.2.2) := (hbm62.cell (p := ⟨w.heap.size, 4, none⟩) (Nat.lt_of_lt_of_le lt0_0 (Nat.le_trans (Nat.le_trans (Nat.le_trans (Nat.le_trans (Nat.le_trans hb1.size hb2.size) hb6.size) hb11.size) hb20.size) hb25.size))).trans by0_4_12
  have lt0_13 : w.heap.size < w13.heap.size := Nat.lt_of_lt_of_le lt0_12 hg60.size
  clear by0_0_12 by0_1_12 by0_2_12 by0_3_12 by0_4_12
  go_wp2_with fail
  refine (heldInt64S_any _ _ gy0.length gn0 1 (by omega) (by omega) _ (own_row ho59)).mono ?_; rintro e w14 ⟨r64, rfl, hr65, hb66⟩
  have hB14 : Below W0.heap.size W0 w14 := bnext hB13 hb66
  have by0_0_14 : w14.cell? ⟨w.heap.size, 0, none⟩ = some (.int .i64 x0.1) := (hb66.cell (p := ⟨w.heap.size, 0, none⟩) lt0_13).trans by0_0_13
  have by0_1_14 : w14.cell? ⟨w.heap.size, 1, none⟩ = some (.int .i64 x0.2.1) := (hb66.cell (p := ⟨w.heap.size, 1, none⟩) lt0_13).trans by0_1_13
  have by0_2_14 : w14.cell? ⟨w.heap.size, 2, none⟩ = some (.int .i64 x0.2.2.1) := (hb66.cell (p := ⟨w.heap.size, 2, none⟩) lt0_13).trans by0_2_13
  have by0_3_14 : w14.cell? ⟨w.heap.size, 3, none⟩ = some (.int .i64 x0.2.2.2.1) := (hb66.cell (p := ⟨w.heap.size, 3, none⟩) lt0_13).trans by0_3_13
  have by0_4_14 : w14.cell? ⟨w.heap.size, 4, none⟩ = some (.int .i64 x0.2.2.2.2) := (hb66.cell (p := ⟨w.heap.size, 4, none⟩) lt0_13).trans by0_4_13
  have lt0_14 : w.heap.size < w14.heap.size := Nat.lt_of_lt_of_le lt0_13 hb66.size
  clear by0_0_13 by0_1_13 by0_2_13 by0_3_13 by0_4_13
  have hr65q : r57 = r64 := by have := hr65.1; have := hr58h.out.1; omega
  clear hr65
  subst hr65q
  go_wp2_with fail
  go_wp2_with fail
  refine (toBasket_any x0 _).mono ?_; rintro e w15 ⟨rfl, hb67⟩
  have hB15 : Below W0.heap.size W0 w15 := bnext hB14 hb67
  have by0_0_15 : w15.cell? ⟨w.heap.size, 0, none⟩ = some (.int .i64 x0.1) := (hb67.cell (p := ⟨w.heap.size, 0, none⟩) lt0_14).trans by0_0_14
  have by0_1_15 : w15.cell? ⟨w.heap.size, 1, none⟩ = some (.int .i64 x0.2.1) := (hb67.cell (p := ⟨w.heap.size, 1, none⟩) lt0_14).trans by0_1_14
  have by0_2_15 : w15.cell? ⟨w.heap.size, 2, none⟩ = some (.int .i64 x0.2.2.1) := (hb67.cell (p := ⟨w.heap.size, 2, none⟩) lt0_14).trans by0_2_14
  have by0_3_15 : w15.cell? ⟨w.heap.size, 3, none⟩ = some (.int .i64 x0.2.2.2.1) := (hb67.cell (p := ⟨w.heap.size, 3, none⟩) lt0_14).trans by0_3_14
  have by0_4_15 : w15.cell? ⟨w.heap.size, 4, none⟩ = some (.int .i64 x0.2.2.2.2) := (hb67.cell (p := ⟨w.heap.size, 4, none⟩) lt0_14).trans by0_4_14
  have lt0_15 : w.heap.size < w15.heap.size := Nat.lt_of_lt_of_le lt0_14 hb67.size
  clear by0_0_14 by0_1_14 by0_2_14 by0_3_14 by0_4_14
  go_wp2_with fail
  go_wp2_with fail
  refine (toStrokeS_any _ _ xs1 hz1 _ (rx1.below hB15)).mono ?_; rintro e w16 ⟨v69, rfl, ho70, hb71⟩
  have hB16 : Below W0.heap.size W0 w16 := bnext hB15 hb71
  have by0_0_16 : w16.cell? ⟨w.heap.size, 0, none⟩ = some (.int .i64 x0.1) := (hb71.cell (p := ⟨w.heap.size, 0, none⟩) lt0_15).trans by0_0_15
  have by0_1_16 : w16.cell? ⟨w.heap.size, 1, none⟩ = some (.int .i64 x0.2.1) := (hb71.cell (p := ⟨w.heap.size, 1, none⟩) lt0_15).trans by0_1_15
  have by0_2_16 : w16.cell? ⟨w.heap.size, 2, none⟩ = some (.int .i64 x0.2.2.1) := (hb71.cell (p := ⟨w.heap.size, 2, none⟩) lt0_15).trans by0_2_15
  have by0_3_16 : w16.cell? ⟨w.heap.size, 3, none⟩ = some (.int .i64 x0.2.2.2.1) := (hb71.cell (p := ⟨w.heap.size, 3, none⟩) lt0_15).trans by0_3_15
  have by0_4_16 : w16.cell? ⟨w.heap.size, 4, none⟩ = some (.int .i64 x0.2.2.2.2) := (hb71.cell (p := ⟨w.heap.size, 4, none⟩) lt0_15).trans by0_4_15
  have lt0_16 : w.heap.size < w16.heap.size := Nat.lt_of_lt_of_le lt0_15 hb71.size
  clear by0_0_15 by0_1_15 by0_2_15 by0_3_15 by0_4_15
  obtain ⟨A72, c73, rfl, rr74, hl75⟩ := ho70.form
  clear hl75
  go_wp2_with fail
  go_wp2_with fail
  refine (impl_InTheAir_any x0 hx0 _ _ xs1 hz1 hu1 n2 hn2 _ rr74).mono ?_; rintro e w17 ⟨hv0, hy0, hr1, rfl, hR, hn0, ho0, hb76⟩
  have hRh := Lib.hid hR
  clear hR
  have hB17 : Below W0.heap.size W0 w17 := bnext hB16 hb76
  have by0_0_17 : w17.cell? ⟨w.heap.size, 0, none⟩ = some (.int .i64 x0.1) := (hb76.cell (p := ⟨w.heap.size, 0, none⟩) lt0_16).trans by0_0_16
  have by0_1_17 : w17.cell? ⟨w.heap.size, 1, none⟩ = some (.int .i64 x0.2.1) := (hb76.cell (p := ⟨w.heap.size, 1, none⟩) lt0_16).trans by0_1_16
  have by0_2_17 : w17.cell? ⟨w.heap.size, 2, none⟩ = some (.int .i64 x0.2.2.1) := (hb76.cell (p := ⟨w.heap.size, 2, none⟩) lt0_16).trans by0_2_16
  have by0_3_17 : w17.cell? ⟨w.heap.size, 3, none⟩ = some (.int .i64 x0.2.2.2.1) := (hb76.cell (p := ⟨w.heap.size, 3, none⟩) lt0_16).trans by0_3_16
  have by0_4_17 : w17.cell? ⟨w.heap.size, 4, none⟩ = some (.int .i64 x0.2.2.2.2) := (hb76.cell (p := ⟨w.heap.size, 4, none⟩) lt0_16).trans by0_4_16
  have lt0_17 : w.heap.size < w17.heap.size := Nat.lt_of_lt_of_le lt0_16 hb76.size
  clear by0_0_16 by0_1_16 by0_2_16 by0_3_16 by0_4_16
  obtain ⟨A78, c79, rfl, rr80, hl81⟩ := ho0.form
  clear hl81
  have hQ := hRh.out.trans wRh.out.symm
  simp only [Prod.mk.injEq] at hQ
  obtain ⟨hY0, rfl⟩ := hQ
  have hY0h := Lib.hid hY0
  clear hY0
  go_wp2_with fail
  go_wp2_with fail
  refine (eqInt64S_any _ _ _ _ hy0 wy0 (Nat.le_trans hn0 (by decide)) (Nat.le_trans wn0 (by decide)) _ rr80 (own_row (ok_63.below (bnext hb66 (bnext hb67 (bnext hb71 hb76)))))).mono ?_; rintro e w18 ⟨b82, rfl, hq83, hb84⟩
  obtain rfl : b82 = true := hq83.2 hY0h.out
  clear hq83
  have hB18 : Below W0.heap.size W0 w18 := bnext hB17 hb84
  have by0_0_18 : w18.cell? ⟨w.heap.size, 0, none⟩ = some (.int .i64 x0.1) := (hb84.cell (p := ⟨w.heap.size, 0, none⟩) lt0_17).trans by0_0_17
  have by0_1_18 : w18.cell? ⟨w.heap.size, 1, none⟩ = some (.int .i64 x0.2.1) := (hb84.cell (p := ⟨w.heap.size, 1, none⟩) lt0_17).trans by0_1_17
  have by0_2_18 : w18.cell? ⟨w.heap.size, 2, none⟩ = some (.int .i64 x0.2.2.1) := (hb84.cell (p := ⟨w.heap.size, 2, none⟩) lt0_17).trans by0_2_17
  have by0_3_18 : w18.cell? ⟨w.heap.size, 3, none⟩ = some (.int .i64 x0.2.2.2.1) := (hb84.cell (p := ⟨w.heap.size, 3, none⟩) lt0_17).trans by0_3_17
  have by0_4_18 : w18.cell? ⟨w.heap.size, 4, none⟩ = some (.int .i64 x0.2.2.2.2) := (hb84.cell (p := ⟨w.heap.size, 4, none⟩) lt0_17).trans by0_4_17
  have lt0_18 : w.heap.size < w18.heap.size := Nat.lt_of_lt_of_le lt0_17 hb84.size
  clear by0_0_17 by0_1_17 by0_2_17 by0_3_17 by0_4_17
  go_wp2_with fail
  refine (heldInt64S_any _ _ gy0.length gn0 1 (by omega) (by omega) _ (own_row (ho59.below (bnext hb66 (bnext hb67 (bnext hb71 (bnext hb76 hb84))))))).mono ?_; rintro e w19 ⟨r85, rfl, hr86, hb87⟩
  have hB19 : Below W0.heap.size W0 w19 := bnext hB18 hb87
  have by0_0_19 : w19.cell? ⟨w.heap.size, 0, none⟩ = some (.int .i64 x0.1) := (hb87.cell (p := ⟨w.heap.size, 0, none⟩) lt0_18).trans by0_0_18
  have by0_1_19 : w19.cell? ⟨w.heap.size, 1, none⟩ = some (.int .i64 x0.2.1) := (hb87.cell (p := ⟨w.heap.size, 1, none⟩) lt0_18).trans by0_1_18
  have by0_2_19 : w19.cell? ⟨w.heap.size, 2, none⟩ = some (.int .i64 x0.2.2.1) := (hb87.cell (p := ⟨w.heap.size, 2, none⟩) lt0_18).trans by0_2_18
  have by0_3_19 : w19.cell? ⟨w.heap.size, 3, none⟩ = some (.int .i64 x0.2.2.2.1) := (hb87.cell (p := ⟨w.heap.size, 3, none⟩) lt0_18).trans by0_3_18
  have by0_4_19 : w19.cell? ⟨w.heap.size, 4, none⟩ = some (.int .i64 x0.2.2.2.2) := (hb87.cell (p := ⟨w.heap.size, 4, none⟩) lt0_18).trans by0_4_18
  have lt0_19 : w.heap.size < w19.heap.size := Nat.lt_of_lt_of_le lt0_18 hb87.size
  clear by0_0_18 by0_1_18 by0_2_18 by0_3_18 by0_4_18
  have hr86q : r57 = r85 := by have := hr86.1; have := hr58h.out.1; omega
  clear hr86
  subst hr86q
  go_wp2_with fail
  go_ret
  exact ⟨rfl, bnext hB0 (hB19)⟩
end Go.Proofs.Yteepcnfpdmmnhaa.fnExactInTheAir
