/-
  WPressFor: the walk through the law FnExactPressFor: it returns true, and only new blocks are made.
-/
import Derived.Test.YtgdmokfpipmkhaaFPress
import Derived.Test.YtgdmokfpipmkhaaTKey
import Derived.Test.YtgdmokfpipmkhaaTPress
namespace Go.Proofs.Ytgdmokfpipmkhaa.fnExactPressFor
open Go.ChangeShapes Go.WideShapes Go.ChangeAt Go.RowKit
set_option linter.unusedVariables false
attribute [local go_sem ↓] Go.wp_at_zero Go.wp_at_succ

set_option maxHeartbeats 4000000 in
set_option maxRecDepth 100000 in
theorem walk (A0 : Option Addr) (c0 : Nat) (xs0 : List TKey) (hx0 : xs0.length ≤ maxLen) (hk0 : ∀ x ∈ xs0, okKey x) (s1 : ByteArray) (hs1 : s1.size ≤ maxLen) (w : World) (rx0 : Row w A0 encKey 3 xs0) :
    Calls Try.prog 4 #[.slice A0 xs0.length c0, .string s1] w fun e w' => e = .returned (.bool true) ∧ Below w.heap.size w w' := by
  go_enter Try.func4, Try.ntmps4
  by_cases hz1 : ¬ s1.size ≤ 1048576
  · unfold maxLen at hs1
    go_wp2_with fail
    go_ret
    exact ⟨rfl, Below.refl _ _⟩
  rw [Classical.not_not] at hz1
  go_wp2_with fail
  refine (szKeyS_any _ _ xs0 _ hx0 (szokKey hk0) (by omega) (by omega) _ rx0).mono ?_; rintro e w1 ⟨l0, rfl, hl0, hb1⟩
  have hB1 : Below w.heap.size w w1 := hb1
  by_cases hnl0 : l0 < 0
  · go_wp2_with fail
    go_ret
    exact ⟨rfl, hB1⟩
  have hl02 := hl0 (by omega)
  have hz0 : xs0.length ≤ 1048576 := by omega
  have hu0 : ∀ x ∈ xs0, KKey x := fun x hx => KKey_of (hk0 x hx) (by have := hl02.1; have := hl02.2.2 x hx; omega)
  have l0b : l0 ≤ 1048576 := by omega
  have hl0h := Lib.hid hl02; clear hl0 hl02
  go_wp2_with fail
  go_wp2_with fail
  refine (toKeyS_any _ _ xs0 hz0 _ (rx0.below hB1)).mono ?_; rintro e w2 ⟨v3, rfl, ho4, hb5⟩
  have hB2 : Below w.heap.size w w2 := bnext hB1 hb5
  obtain ⟨A6, c7, rfl, rr8, hl9⟩ := ho4.form
  clear hl9
  go_wp2_with fail
  go_wp2_with fail
  refine (spec_PressFor_any _ _ xs0 hz0 hu0 (own_capK ho4) s1 hz1 _ rr8).mono ?_; rintro e w3 ⟨wr0, wr1, rfl, wR, hb10⟩
  have wRh := Lib.hid wR
  clear wR
  have hB3 : Below w.heap.size w w3 := bnext hB2 hb10
  go_wp2_with fail
  have hb15 : Below w3.heap.size w3 (w3.alloc (.cells #[.int .i64 wr0.1, .bool wr0.2] 35)) := bal (Below.refl _ _) _
  have lt0_n : w3.heap.size < (w3.alloc (.cells #[.int .i64 wr0.1, .bool wr0.2] 35)).heap.size := by simp
  have bn0_0 : (w3.alloc (.cells #[.int .i64 wr0.1, .bool wr0.2] 35)).cell? ⟨w3.heap.size, 0, none⟩ = some (.int .i64 wr0.1) := by simp [go_sem]
  have bn0_1 : (w3.alloc (.cells #[.int .i64 wr0.1, .bool wr0.2] 35)).cell? ⟨w3.heap.size, 1, none⟩ = some (.bool wr0.2) := by simp [go_sem]
  generalize hW16 : (w3.alloc (.cells #[.int .i64 wr0.1, .bool wr0.2] 35)) = w4 at *
  clear hW16
  have hB4 : Below w.heap.size w w4 := bnext hB3 hb15
  go_wp2_with fail
  refine (toKeyS_any _ _ xs0 hz0 _ (rx0.below hB4)).mono ?_; rintro e w5 ⟨v12, rfl, ho13, hb14⟩
  have hB5 : Below w.heap.size w w5 := bnext hB4 hb14
  have by0_0_5 : w5.cell? ⟨w3.heap.size, 0, none⟩ = some (.int .i64 wr0.1) := (hb14.cell (p := ⟨w3.heap.size, 0, none⟩) lt0_n).trans bn0_0
  have by0_1_5 : w5.cell? ⟨w3.heap.size, 1, none⟩ = some (.bool wr0.2) := (hb14.cell (p := ⟨w3.heap.size, 1, none⟩) lt0_n).trans bn0_1
  have lt0_5 : w3.heap.size < w5.heap.size := Nat.lt_of_lt_of_le lt0_n hb14.size
  clear bn0_0 bn0_1
  obtain ⟨A17, c18, rfl, rr19, hl20⟩ := ho13.form
  clear hl20
  go_wp2_with fail
  go_wp2_with fail
  refine (impl_PressFor_any _ _ xs0 hz0 hu0 (own_capK ho13) s1 hz1 _ rr19).mono ?_; rintro e w6 ⟨gr0, gr1, rfl, gR, hb21⟩
  have gRh := Lib.hid gR
  clear gR
  have hB6 : Below w.heap.size w w6 := bnext hB5 hb21
  have by0_0_6 : w6.cell? ⟨w3.heap.size, 0, none⟩ = some (.int .i64 wr0.1) := (hb21.cell (p := ⟨w3.heap.size, 0, none⟩) lt0_5).trans by0_0_5
  have by0_1_6 : w6.cell? ⟨w3.heap.size, 1, none⟩ = some (.bool wr0.2) := (hb21.cell (p := ⟨w3.heap.size, 1, none⟩) lt0_5).trans by0_1_5
  have lt0_6 : w3.heap.size < w6.heap.size := Nat.lt_of_lt_of_le lt0_5 hb21.size
  clear by0_0_5 by0_1_5
  have gQ := wRh.out.trans gRh.out.symm
  simp only [Prod.mk.injEq] at gQ
  obtain ⟨rfl, rfl⟩ := gQ
  go_wp2_with fail
  have hb22 : Below w6.heap.size w6 (w6.alloc (.cells #[.int .i64 wr0.1, .bool wr0.2] 35)) := bal (Below.refl _ _) _
  have lt1_n : w6.heap.size < (w6.alloc (.cells #[.int .i64 wr0.1, .bool wr0.2] 35)).heap.size := by simp
  have bn1_0 : (w6.alloc (.cells #[.int .i64 wr0.1, .bool wr0.2] 35)).cell? ⟨w6.heap.size, 0, none⟩ = some (.int .i64 wr0.1) := by simp [go_sem]
  have bn1_1 : (w6.alloc (.cells #[.int .i64 wr0.1, .bool wr0.2] 35)).cell? ⟨w6.heap.size, 1, none⟩ = some (.bool wr0.2) := by simp [go_sem]
  generalize hW23 : (w6.alloc (.cells #[.int .i64 wr0.1, .bool wr0.2] 35)) = w7 at *
  clear hW23
  have hB7 : Below w.heap.size w w7 := bnext hB6 hb22
  have by0_0_7 : w7.cell? ⟨w3.heap.size, 0, none⟩ = some (.int .i64 wr0.1) := (hb22.cell (p := ⟨w3.heap.size, 0, none⟩) lt0_6).trans by0_0_6
  have by0_1_7 : w7.cell? ⟨w3.heap.size, 1, none⟩ = some (.bool wr0.2) := (hb22.cell (p := ⟨w3.heap.size, 1, none⟩) lt0_6).trans by0_1_6
  have lt0_7 : w3.heap.size < w7.heap.size := Nat.lt_of_lt_of_le lt0_6 hb22.size
  clear by0_0_6 by0_1_6
  go_wp2_with fail
  refine (eqPress_any _ _ _).mono ?_; rintro e w8 ⟨b24, rfl, hq25, hb26⟩
  obtain rfl : b24 = true := hq25.2 rfl
  have hB8 : Below w.heap.size w w8 := bnext hB7 hb26
  have by0_0_8 : w8.cell? ⟨w3.heap.size, 0, none⟩ = some (.int .i64 wr0.1) := (hb26.cell (p := ⟨w3.heap.size, 0, none⟩) lt0_7).trans by0_0_7
  have by0_1_8 : w8.cell? ⟨w3.heap.size, 1, none⟩ = some (.bool wr0.2) := (hb26.cell (p := ⟨w3.heap.size, 1, none⟩) lt0_7).trans by0_1_7
  have lt0_8 : w3.heap.size < w8.heap.size := Nat.lt_of_lt_of_le lt0_7 hb26.size
  clear by0_0_7 by0_1_7
  have by1_0_8 : w8.cell? ⟨w6.heap.size, 0, none⟩ = some (.int .i64 wr0.1) := (hb26.cell (p := ⟨w6.heap.size, 0, none⟩) lt1_n).trans bn1_0
  have by1_1_8 : w8.cell? ⟨w6.heap.size, 1, none⟩ = some (.bool wr0.2) := (hb26.cell (p := ⟨w6.heap.size, 1, none⟩) lt1_n).trans bn1_1
  have lt1_8 : w6.heap.size < w8.heap.size := Nat.lt_of_lt_of_le lt1_n hb26.size
  clear bn1_0 bn1_1
  go_wp2_with fail
  go_wp2_with fail
  refine (toKeyS_any _ _ xs0 hz0 _ (rx0.below hB8)).mono ?_; rintro e w9 ⟨v28, rfl, ho29, hb30⟩
  have hB9 : Below w.heap.size w w9 := bnext hB8 hb30
  have by0_0_9 : w9.cell? ⟨w3.heap.size, 0, none⟩ = some (.int .i64 wr0.1) := (hb30.cell (p := ⟨w3.heap.size, 0, none⟩) lt0_8).trans by0_0_8
  have by0_1_9 : w9.cell? ⟨w3.heap.size, 1, none⟩ = some (.bool wr0.2) := (hb30.cell (p := ⟨w3.heap.size, 1, none⟩) lt0_8).trans by0_1_8
  have lt0_9 : w3.heap.size < w9.heap.size := Nat.lt_of_lt_of_le lt0_8 hb30.size
  clear by0_0_8 by0_1_8
  have by1_0_9 : w9.cell? ⟨w6.heap.size, 0, none⟩ = some (.int .i64 wr0.1) := (hb30.cell (p := ⟨w6.heap.size, 0, none⟩) lt1_8).trans by1_0_8
  have by1_1_9 : w9.cell? ⟨w6.heap.size, 1, none⟩ = some (.bool wr0.2) := (hb30.cell (p := ⟨w6.heap.size, 1, none⟩) lt1_8).trans by1_1_8
  have lt1_9 : w6.heap.size < w9.heap.size := Nat.lt_of_lt_of_le lt1_8 hb30.size
  clear by1_0_8 by1_1_8
  obtain ⟨A31, c32, rfl, rr33, hl34⟩ := ho29.form
  clear hl34
  go_wp2_with fail
  go_wp2_with fail
  refine (eqKeyS_any _ _ _ _ xs0 xs0 (Nat.le_trans hz0 (by decide)) (Nat.le_trans hz0 (by decide)) _ (rr19.below (bnext hb21 (bnext hb22 (bnext hb26 hb30)))) rr33).mono ?_; rintro e w10 ⟨b35, rfl, hq36, hb37⟩
  obtain rfl : b35 = true := hq36.2 rfl
  have hB10 : Below w.heap.size w w10 := bnext hB9 hb37
  have by0_0_10 : w10.cell? ⟨w3.heap.size, 0, none⟩ = some (.int .i64 wr0.1) := (hb37.cell (p := ⟨w3.heap.size, 0, none⟩) lt0_9).trans by0_0_9
  have by0_1_10 : w10.cell? ⟨w3.heap.size, 1, none⟩ = some (.bool wr0.2) := (hb37.cell (p := ⟨w3.heap.size, 1, none⟩) lt0_9).trans by0_1_9
  have lt0_10 : w3.heap.size < w10.heap.size := Nat.lt_of_lt_of_le lt0_9 hb37.size
  clear by0_0_9 by0_1_9
  have by1_0_10 : w10.cell? ⟨w6.heap.size, 0, none⟩ = some (.int .i64 wr0.1) := (hb37.cell (p := ⟨w6.heap.size, 0, none⟩) lt1_9).trans by1_0_9
  have by1_1_10 : w10.cell? ⟨w6.heap.size, 1, none⟩ = some (.bool wr0.2) := (hb37.cell (p := ⟨w6.heap.size, 1, none⟩) lt1_9).trans by1_1_9
  have lt1_10 : w6.heap.size < w10.heap.size := Nat.lt_of_lt_of_le lt1_9 hb37.size
  clear by1_0_9 by1_1_9
  go_wp2_with fail
  go_ret
  exact ⟨rfl, hB10⟩
end Go.Proofs.Ytgdmokfpipmkhaa.fnExactPressFor
