/-
  WLockedAt: the walk through the law FnExactLockedAt: it returns true, and only new blocks are made.
-/
import Derived.Test.YteepcnfpdmmnhaaFRun
import Derived.Test.YteepcnfpdmmnhaaTAct
import Derived.Test.YteepcnfpdmmnhaaTCarriage
import Derived.Test.YteepcnfpdmmnhaaKActS
namespace Go.Proofs.Yteepcnfpdmmnhaa.fnExactLockedAt
open Go.ChangeShapes Go.WideShapes Go.ChangeAt Go.RowKit
set_option linter.unusedVariables false
attribute [local go_sem ↓] Go.wp_at_zero Go.wp_at_succ

set_option maxHeartbeats 4000000 in
set_option maxRecDepth 100000 in
theorem walk (x0 : TCarriage) (hx0 : okCarriage x0) (A1 : Option Addr) (c1 : Nat) (xs1 : List TAct) (hx1 : xs1.length ≤ maxLen) (hk1 : ∀ x ∈ xs1, okAct x) (w : World) (rx1 : Row w A1 encAct 2 xs1) :
    Calls Try.prog 9 #[.agg #[.int .i64 x0.1, .int .i64 x0.2.1, .int .i64 x0.2.2], .slice A1 xs1.length c1] w fun e w' => e = .returned (.bool true) ∧ Below w.heap.size w w' := by
  go_enter Try.func9, Try.ntmps9
  go_wp2_with fail
  have hB0 : Below w.heap.size w (w.alloc (.cells #[.int .i64 x0.1, .int .i64 x0.2.1, .int .i64 x0.2.2] 67)) := by repeat (first | exact Below.refl _ _ | (apply bal))
  have lt0_0 : w.heap.size < (w.alloc (.cells #[.int .i64 x0.1, .int .i64 x0.2.1, .int .i64 x0.2.2] 67)).heap.size := by simp
  have by0_0_0 : (w.alloc (.cells #[.int .i64 x0.1, .int .i64 x0.2.1, .int .i64 x0.2.2] 67)).cell? ⟨w.heap.size, 0, none⟩ = some (.int .i64 x0.1) := by simp [go_sem]
  have by0_1_0 : (w.alloc (.cells #[.int .i64 x0.1, .int .i64 x0.2.1, .int .i64 x0.2.2] 67)).cell? ⟨w.heap.size, 1, none⟩ = some (.int .i64 x0.2.1) := by simp [go_sem]
  have by0_2_0 : (w.alloc (.cells #[.int .i64 x0.1, .int .i64 x0.2.1, .int .i64 x0.2.2] 67)).cell? ⟨w.heap.size, 2, none⟩ = some (.int .i64 x0.2.2) := by simp [go_sem]
  generalize hW0 : (w.alloc (.cells #[.int .i64 x0.1, .int .i64 x0.2.1, .int .i64 x0.2.2] 67)) = W0 at *
  clear hW0
  replace rx1 := rx1.below hB0
  go_wp2_with fail
  refine (szActS_any _ _ xs1 _ hx1 (szokAct hk1) (by omega) (by omega) _ rx1).mono ?_; rintro e w1 ⟨l0, rfl, hl0, hb1⟩
  have hB1 : Below W0.heap.size W0 w1 := hb1
  have by0_0_1 : w1.cell? ⟨w.heap.size, 0, none⟩ = some (.int .i64 x0.1) := (hb1.cell (p := ⟨w.heap.size, 0, none⟩) lt0_0).trans by0_0_0
  have by0_1_1 : w1.cell? ⟨w.heap.size, 1, none⟩ = some (.int .i64 x0.2.1) := (hb1.cell (p := ⟨w.heap.size, 1, none⟩) lt0_0).trans by0_1_0
  have by0_2_1 : w1.cell? ⟨w.heap.size, 2, none⟩ = some (.int .i64 x0.2.2) := (hb1.cell (p := ⟨w.heap.size, 2, none⟩) lt0_0).trans by0_2_0
  have lt0_1 : w.heap.size < w1.heap.size := Nat.lt_of_lt_of_le lt0_0 hb1.size
  clear by0_0_0 by0_1_0 by0_2_0
  by_cases hnl0 : l0 < 0
  · go_wp2_with fail
    go_ret
    exact ⟨rfl, bnext hB0 (hB1)⟩
  have hl02 := hl0 (by omega)
  have hz1 : xs1.length ≤ 1048576 := by omega
  have hu1 : ∀ x ∈ xs1, KAct x := fun x hx => KAct_of (hk1 x hx) (by have := hl02.1; have := hl02.2.2 x hx; omega)
  have l0b : l0 ≤ 1048576 := by omega
  have hl0h := Lib.hid hl02; clear hl0 hl02
  go_wp2_with fail
  go_wp2_with fail
  refine (toCarriage_any x0 _).mono ?_; rintro e w2 ⟨rfl, hb2⟩
  have hB2 : Below W0.heap.size W0 w2 := bnext hB1 hb2
  have by0_0_2 : w2.cell? ⟨w.heap.size, 0, none⟩ = some (.int .i64 x0.1) := (hb2.cell (p := ⟨w.heap.size, 0, none⟩) lt0_1).trans by0_0_1
  have by0_1_2 : w2.cell? ⟨w.heap.size, 1, none⟩ = some (.int .i64 x0.2.1) := (hb2.cell (p := ⟨w.heap.size, 1, none⟩) lt0_1).trans by0_1_1
  have by0_2_2 : w2.cell? ⟨w.heap.size, 2, none⟩ = some (.int .i64 x0.2.2) := (hb2.cell (p := ⟨w.heap.size, 2, none⟩) lt0_1).trans by0_2_1
  have lt0_2 : w.heap.size < w2.heap.size := Nat.lt_of_lt_of_le lt0_1 hb2.size
  clear by0_0_1 by0_1_1 by0_2_1
  go_wp2_with fail
  go_wp2_with fail
  refine (toActS_any _ _ xs1 hz1 _ (rx1.below hB2)).mono ?_; rintro e w3 ⟨v4, rfl, ho5, hb6⟩
  have hB3 : Below W0.heap.size W0 w3 := bnext hB2 hb6
  have by0_0_3 : w3.cell? ⟨w.heap.size, 0, none⟩ = some (.int .i64 x0.1) := (hb6.cell (p := ⟨w.heap.size, 0, none⟩) lt0_2).trans by0_0_2
  have by0_1_3 : w3.cell? ⟨w.heap.size, 1, none⟩ = some (.int .i64 x0.2.1) := (hb6.cell (p := ⟨w.heap.size, 1, none⟩) lt0_2).trans by0_1_2
  have by0_2_3 : w3.cell? ⟨w.heap.size, 2, none⟩ = some (.int .i64 x0.2.2) := (hb6.cell (p := ⟨w.heap.size, 2, none⟩) lt0_2).trans by0_2_2
  have lt0_3 : w.heap.size < w3.heap.size := Nat.lt_of_lt_of_le lt0_2 hb6.size
  clear by0_0_2 by0_1_2 by0_2_2
  obtain ⟨A7, c8, rfl, rr9, hl10⟩ := ho5.form
  clear hl10
  go_wp2_with fail
  go_wp2_with fail
  refine (spec_LockedAt_any x0 hx0 _ _ xs1 hz1 hu1 _ rr9).mono ?_; rintro e w4 ⟨wr0, wr1, rfl, wR, hb11⟩
  have wRh := Lib.hid wR
  clear wR
  have hB4 : Below W0.heap.size W0 w4 := bnext hB3 hb11
  have by0_0_4 : w4.cell? ⟨w.heap.size, 0, none⟩ = some (.int .i64 x0.1) := (hb11.cell (p := ⟨w.heap.size, 0, none⟩) lt0_3).trans by0_0_3
  have by0_1_4 : w4.cell? ⟨w.heap.size, 1, none⟩ = some (.int .i64 x0.2.1) := (hb11.cell (p := ⟨w.heap.size, 1, none⟩) lt0_3).trans by0_1_3
  have by0_2_4 : w4.cell? ⟨w.heap.size, 2, none⟩ = some (.int .i64 x0.2.2) := (hb11.cell (p := ⟨w.heap.size, 2, none⟩) lt0_3).trans by0_2_3
  have lt0_4 : w.heap.size < w4.heap.size := Nat.lt_of_lt_of_le lt0_3 hb11.size
  clear by0_0_3 by0_1_3 by0_2_3
  go_wp2_with fail
  go_wp2_with fail
  refine (toActS_any _ _ xs1 hz1 _ (rx1.below hB4)).mono ?_; rintro e w5 ⟨v13, rfl, ho14, hb15⟩
  have hB5 : Below W0.heap.size W0 w5 := bnext hB4 hb15
  have by0_0_5 : w5.cell? ⟨w.heap.size, 0, none⟩ = some (.int .i64 x0.1) := (hb15.cell (p := ⟨w.heap.size, 0, none⟩) lt0_4).trans by0_0_4
  have by0_1_5 : w5.cell? ⟨w.heap.size, 1, none⟩ = some (.int .i64 x0.2.1) := (hb15.cell (p := ⟨w.heap.size, 1, none⟩) lt0_4).trans by0_1_4
  have by0_2_5 : w5.cell? ⟨w.heap.size, 2, none⟩ = some (.int .i64 x0.2.2) := (hb15.cell (p := ⟨w.heap.size, 2, none⟩) lt0_4).trans by0_2_4
  have lt0_5 : w.heap.size < w5.heap.size := Nat.lt_of_lt_of_le lt0_4 hb15.size
  clear by0_0_4 by0_1_4 by0_2_4
  obtain ⟨A16, c17, rfl, rr18, hl19⟩ := ho14.form
  clear hl19
  go_wp2_with fail
  go_wp2_with fail
  refine (toCarriage_any x0 _).mono ?_; rintro e w6 ⟨rfl, hb20⟩
  have hB6 : Below W0.heap.size W0 w6 := bnext hB5 hb20
  have by0_0_6 : w6.cell? ⟨w.heap.size, 0, none⟩ = some (.int .i64 x0.1) := (hb20.cell (p := ⟨w.heap.size, 0, none⟩) lt0_5).trans by0_0_5
  have by0_1_6 : w6.cell? ⟨w.heap.size, 1, none⟩ = some (.int .i64 x0.2.1) := (hb20.cell (p := ⟨w.heap.size, 1, none⟩) lt0_5).trans by0_1_5
  have by0_2_6 : w6.cell? ⟨w.heap.size, 2, none⟩ = some (.int .i64 x0.2.2) := (hb20.cell (p := ⟨w.heap.size, 2, none⟩) lt0_5).trans by0_2_5
  have lt0_6 : w.heap.size < w6.heap.size := Nat.lt_of_lt_of_le lt0_5 hb20.size
  clear by0_0_5 by0_1_5 by0_2_5
  go_wp2_with fail
  go_wp2_with fail
  refine (impl_LockedAt_any x0 hx0 _ _ xs1 hz1 hu1 _ (rr18.below hb20)).mono ?_; rintro e w7 ⟨gr0, gr1, rfl, gR, hb21⟩
  have gRh := Lib.hid gR
  clear gR
  have hB7 : Below W0.heap.size W0 w7 := bnext hB6 hb21
  have by0_0_7 : w7.cell? ⟨w.heap.size, 0, none⟩ = some (.int .i64 x0.1) := (hb21.cell (p := ⟨w.heap.size, 0, none⟩) lt0_6).trans by0_0_6
  have by0_1_7 : w7.cell? ⟨w.heap.size, 1, none⟩ = some (.int .i64 x0.2.1) := (hb21.cell (p := ⟨w.heap.size, 1, none⟩) lt0_6).trans by0_1_6
  have by0_2_7 : w7.cell? ⟨w.heap.size, 2, none⟩ = some (.int .i64 x0.2.2) := (hb21.cell (p := ⟨w.heap.size, 2, none⟩) lt0_6).trans by0_2_6
  have lt0_7 : w.heap.size < w7.heap.size := Nat.lt_of_lt_of_le lt0_6 hb21.size
  clear by0_0_6 by0_1_6 by0_2_6
  have gQ := gRh.out.trans wRh.out.symm
  simp only [Prod.mk.injEq] at gQ
  obtain ⟨rfl, rfl⟩ := gQ
  go_wp2_with fail
  go_wp2_with fail
  refine (toActS_any _ _ xs1 hz1 _ (rx1.below hB7)).mono ?_; rintro e w8 ⟨v23, rfl, ho24, hb25⟩
  have hB8 : Below W0.heap.size W0 w8 := bnext hB7 hb25
  have by0_0_8 : w8.cell? ⟨w.heap.size, 0, none⟩ = some (.int .i64 x0.1) := (hb25.cell (p := ⟨w.heap.size, 0, none⟩) lt0_7).trans by0_0_7
  have by0_1_8 : w8.cell? ⟨w.heap.size, 1, none⟩ = some (.int .i64 x0.2.1) := (hb25.cell (p := ⟨w.heap.size, 1, none⟩) lt0_7).trans by0_1_7
  have by0_2_8 : w8.cell? ⟨w.heap.size, 2, none⟩ = some (.int .i64 x0.2.2) := (hb25.cell (p := ⟨w.heap.size, 2, none⟩) lt0_7).trans by0_2_7
  have lt0_8 : w.heap.size < w8.heap.size := Nat.lt_of_lt_of_le lt0_7 hb25.size
  clear by0_0_7 by0_1_7 by0_2_7
  obtain ⟨A26, c27, rfl, rr28, hl29⟩ := ho24.form
  clear hl29
  go_wp2_with fail
  go_wp2_with fail
  refine (eqActS_any _ _ _ _ xs1 xs1 (Nat.le_trans hz1 (by decide)) (Nat.le_trans hz1 (by decide)) _ (rr18.below (bnext hb20 (bnext hb21 hb25))) rr28).mono ?_; rintro e w9 ⟨b30, rfl, hq31, hb32⟩
  obtain rfl : b30 = true := hq31.2 rfl
  have hB9 : Below W0.heap.size W0 w9 := bnext hB8 hb32
  have by0_0_9 : w9.cell? ⟨w.heap.size, 0, none⟩ = some (.int .i64 x0.1) := (hb32.cell (p := ⟨w.heap.size, 0, none⟩) lt0_8).trans by0_0_8
  have by0_1_9 : w9.cell? ⟨w.heap.size, 1, none⟩ = some (.int .i64 x0.2.1) := (hb32.cell (p := ⟨w.heap.size, 1, none⟩) lt0_8).trans by0_1_8
  have by0_2_9 : w9.cell? ⟨w.heap.size, 2, none⟩ = some (.int .i64 x0.2.2) := (hb32.cell (p := ⟨w.heap.size, 2, none⟩) lt0_8).trans by0_2_8
  have lt0_9 : w.heap.size < w9.heap.size := Nat.lt_of_lt_of_le lt0_8 hb32.size
  clear by0_0_8 by0_1_8 by0_2_8
  go_wp2_with fail
  go_ret
  exact ⟨rfl, bnext hB0 (hB9)⟩
end Go.Proofs.Yteepcnfpdmmnhaa.fnExactLockedAt
