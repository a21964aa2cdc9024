/-
  WMirrorLayout: the walk through the law FnExactMirrorLayout: it returns true, and only new blocks are made.
-/
import Derived.Test.YteepcnfpdmmnhaaFMirL
import Derived.Test.YteepcnfpdmmnhaaTLayout
import Derived.Test.YteepcnfpdmmnhaaKLayout
import Derived.Test.YteepcnfpdmmnhaaAppAt
namespace Go.Proofs.Yteepcnfpdmmnhaa.fnExactMirrorLayout
open Go.ChangeShapes Go.WideShapes Go.ChangeAt Go.RowKit
set_option linter.unusedVariables false
attribute [local go_sem ↓] Go.wp_at_zero Go.wp_at_succ

set_option maxHeartbeats 4000000 in
set_option maxRecDepth 100000 in
theorem walk (A0 : Option Addr) (c0 : Nat) (xs0 : List ByteArray) (hx0 : xs0.length ≤ maxLen) (hk0 : ∀ x ∈ xs0, okStringS x) (w : World) (rx0 : Row w A0 encStr 1 xs0) :
    Calls Try.prog 6 #[.agg #[.slice A0 xs0.length c0]] w fun e w' => e = .returned (.bool true) ∧ Below w.heap.size w w' := by
  go_enter Try.func6, Try.ntmps6
  go_wp2_with fail
  have hB0 : Below w.heap.size w (w.alloc (.cells #[.slice A0 xs0.length c0] 52)) := by repeat (first | exact Below.refl _ _ | (apply bal))
  have lt0_0 : w.heap.size < (w.alloc (.cells #[.slice A0 xs0.length c0] 52)).heap.size := by simp
  have by0_0_0 : (w.alloc (.cells #[.slice A0 xs0.length c0] 52)).cell? ⟨w.heap.size, 0, none⟩ = some (.slice A0 xs0.length c0) := by simp [go_sem]
  generalize hW0 : (w.alloc (.cells #[.slice A0 xs0.length c0] 52)) = W0 at *
  clear hW0
  replace rx0 := rx0.below hB0
  go_wp2_with fail
  refine (szLayout_any _ _ xs0 _ hx0 hk0 (by omega) (by omega) _ rx0).mono ?_; rintro e w1 ⟨l0, rfl, hl0, hb1⟩
  have hB1 : Below W0.heap.size W0 w1 := hb1
  have by0_0_1 : w1.cell? ⟨w.heap.size, 0, none⟩ = some (.slice A0 xs0.length c0) := (hb1.cell (p := ⟨w.heap.size, 0, none⟩) lt0_0).trans by0_0_0
  have lt0_1 : w.heap.size < w1.heap.size := Nat.lt_of_lt_of_le lt0_0 hb1.size
  clear by0_0_0
  by_cases hnl0 : l0 < 0
  · go_wp2_with fail
    go_ret
    exact ⟨rfl, bnext hB0 (hB1)⟩
  have hl02 := hl0 (by omega)
  have hz0 : xs0.length ≤ 1048576 := by omega
  have hu0 : ∀ x ∈ xs0, KStringS x := fun x hx => by have := hl02.2.2 x hx; omega
  have l0b : l0 ≤ 1048576 := by omega
  have hl0h := Lib.hid hl02; clear hl0 hl02
  go_wp2_with fail
  go_wp2_with fail
  refine (toLayout_any _ _ xs0 hz0 _ (rx0.below hB1)).mono ?_; rintro e w2 ⟨v3, rfl, ho4, hb5⟩
  have hB2 : Below W0.heap.size W0 w2 := bnext hB1 hb5
  have by0_0_2 : w2.cell? ⟨w.heap.size, 0, none⟩ = some (.slice A0 xs0.length c0) := (hb5.cell (p := ⟨w.heap.size, 0, none⟩) lt0_1).trans by0_0_1
  have lt0_2 : w.heap.size < w2.heap.size := Nat.lt_of_lt_of_le lt0_1 hb5.size
  clear by0_0_1
  obtain ⟨A6, c7, rfl, rr8, hl9⟩ := ho4.form
  clear hl9
  go_wp2_with fail
  go_wp2_with fail
  refine (spec_MirrorLayout_any _ _ xs0 hz0 hu0 _ rr8).mono ?_; rintro e w3 ⟨wv0, wy0, wr1, rfl, wR, wn0, wo0, hb10⟩
  have wRh := Lib.hid wR
  clear wR
  have hB3 : Below W0.heap.size W0 w3 := bnext hB2 hb10
  have by0_0_3 : w3.cell? ⟨w.heap.size, 0, none⟩ = some (.slice A0 xs0.length c0) := (hb10.cell (p := ⟨w.heap.size, 0, none⟩) lt0_2).trans by0_0_2
  have lt0_3 : w.heap.size < w3.heap.size := Nat.lt_of_lt_of_le lt0_2 hb10.size
  clear by0_0_2
  obtain ⟨A12, c13, rfl, rr14, hl15⟩ := wo0.form
  clear hl15
  go_wp2_with fail
  have hb20 : Below w3.heap.size w3 (w3.alloc (.cells #[.slice A12 wy0.length c13] 46)) := bal (Below.refl _ _) _
  have lt1_n : w3.heap.size < (w3.alloc (.cells #[.slice A12 wy0.length c13] 46)).heap.size := by simp
  have bn1_0 : (w3.alloc (.cells #[.slice A12 wy0.length c13] 46)).cell? ⟨w3.heap.size, 0, none⟩ = some (.slice A12 wy0.length c13) := by simp [go_sem]
  generalize hW21 : (w3.alloc (.cells #[.slice A12 wy0.length c13] 46)) = w4 at *
  clear hW21
  have hB4 : Below W0.heap.size W0 w4 := bnext hB3 hb20
  have by0_0_4 : w4.cell? ⟨w.heap.size, 0, none⟩ = some (.slice A0 xs0.length c0) := (hb20.cell (p := ⟨w.heap.size, 0, none⟩) lt0_3).trans by0_0_3
  have lt0_4 : w.heap.size < w4.heap.size := Nat.lt_of_lt_of_le lt0_3 hb20.size
  clear by0_0_3
  go_wp2_with fail
  refine (toLayout_any _ _ xs0 hz0 _ (rx0.below hB4)).mono ?_; rintro e w5 ⟨v17, rfl, ho18, hb19⟩
  have hB5 : Below W0.heap.size W0 w5 := bnext hB4 hb19
  have by0_0_5 : w5.cell? ⟨w.heap.size, 0, none⟩ = some (.slice A0 xs0.length c0) := (hb19.cell (p := ⟨w.heap.size, 0, none⟩) lt0_4).trans by0_0_4
  have lt0_5 : w.heap.size < w5.heap.size := Nat.lt_of_lt_of_le lt0_4 hb19.size
  clear by0_0_4
  have by1_0_5 : w5.cell? ⟨w3.heap.size, 0, none⟩ = some (.slice A12 wy0.length c13) := (hb19.cell (p := ⟨w3.heap.size, 0, none⟩) lt1_n).trans bn1_0
  have lt1_5 : w3.heap.size < w5.heap.size := Nat.lt_of_lt_of_le lt1_n hb19.size
  clear bn1_0
  obtain ⟨A22, c23, rfl, rr24, hl25⟩ := ho18.form
  clear hl25
  go_wp2_with fail
  have hb26 : Below w5.heap.size w5 (w5.alloc (.cells #[.slice A22 xs0.length c23] 46)) := bal (Below.refl _ _) _
  have lt2_n : w5.heap.size < (w5.alloc (.cells #[.slice A22 xs0.length c23] 46)).heap.size := by simp
  have bn2_0 : (w5.alloc (.cells #[.slice A22 xs0.length c23] 46)).cell? ⟨w5.heap.size, 0, none⟩ = some (.slice A22 xs0.length c23) := by simp [go_sem]
  generalize hW27 : (w5.alloc (.cells #[.slice A22 xs0.length c23] 46)) = w6 at *
  clear hW27
  have hB6 : Below W0.heap.size W0 w6 := bnext hB5 hb26
  have by0_0_6 : w6.cell? ⟨w.heap.size, 0, none⟩ = some (.slice A0 xs0.length c0) := (hb26.cell (p := ⟨w.heap.size, 0, none⟩) lt0_5).trans by0_0_5
  have lt0_6 : w.heap.size < w6.heap.size := Nat.lt_of_lt_of_le lt0_5 hb26.size
  clear by0_0_5
  have by1_0_6 : w6.cell? ⟨w3.heap.size, 0, none⟩ = some (.slice A12 wy0.length c13) := (hb26.cell (p := ⟨w3.heap.size, 0, none⟩) lt1_5).trans by1_0_5
  have lt1_6 : w3.heap.size < w6.heap.size := Nat.lt_of_lt_of_le lt1_5 hb26.size
  clear by1_0_5
  go_wp2_with fail
  refine (impl_MirrorLayout_any _ _ xs0 hz0 hu0 _ (rr24.below hb26)).mono ?_; rintro e w7 ⟨gv0, gy0, gr1, rfl, gR, gn0, go0, hb28⟩
  have gRh := Lib.hid gR
  clear gR
  have hB7 : Below W0.heap.size W0 w7 := bnext hB6 hb28
  have by0_0_7 : w7.cell? ⟨w.heap.size, 0, none⟩ = some (.slice A0 xs0.length c0) := (hb28.cell (p := ⟨w.heap.size, 0, none⟩) lt0_6).trans by0_0_6
  have lt0_7 : w.heap.size < w7.heap.size := Nat.lt_of_lt_of_le lt0_6 hb28.size
  clear by0_0_6
  have by1_0_7 : w7.cell? ⟨w3.heap.size, 0, none⟩ = some (.slice A12 wy0.length c13) := (hb28.cell (p := ⟨w3.heap.size, 0, none⟩) lt1_6).trans by1_0_6
  have lt1_7 : w3.heap.size < w7.heap.size := Nat.lt_of_lt_of_le lt1_6 hb28.size
  clear by1_0_6
  have by2_0_7 : w7.cell? ⟨w5.heap.size, 0, none⟩ = some (.slice A22 xs0.length c23) := (hb28.cell (p := ⟨w5.heap.size, 0, none⟩) lt2_n).trans bn2_0
  have lt2_7 : w5.heap.size < w7.heap.size := Nat.lt_of_lt_of_le lt2_n hb28.size
  clear bn2_0
  obtain ⟨A30, c31, rfl, rr32, hl33⟩ := go0.form
  clear hl33
  have gQ := gRh.out.trans wRh.out.symm
  simp only [Prod.mk.injEq] at gQ
  obtain ⟨gY0, rfl⟩ := gQ
  have gY0h := Lib.hid gY0
  clear gY0
  go_wp2_with fail
  have hb34 : Below w7.heap.size w7 (w7.alloc (.cells #[.slice A30 gy0.length c31] 46)) := bal (Below.refl _ _) _
  have lt3_n : w7.heap.size < (w7.alloc (.cells #[.slice A30 gy0.length c31] 46)).heap.size := by simp
  have bn3_0 : (w7.alloc (.cells #[.slice A30 gy0.length c31] 46)).cell? ⟨w7.heap.size, 0, none⟩ = some (.slice A30 gy0.length c31) := by simp [go_sem]
  generalize hW35 : (w7.alloc (.cells #[.slice A30 gy0.length c31] 46)) = w8 at *
  clear hW35
  have hB8 : Below W0.heap.size W0 w8 := bnext hB7 hb34
  have by0_0_8 : w8.cell? ⟨w.heap.size, 0, none⟩ = some (.slice A0 xs0.length c0) := (hb34.cell (p := ⟨w.heap.size, 0, none⟩) lt0_7).trans by0_0_7
  have lt0_8 : w.heap.size < w8.heap.size := Nat.lt_of_lt_of_le lt0_7 hb34.size
  clear by0_0_7
  have by1_0_8 : w8.cell? ⟨w3.heap.size, 0, none⟩ = some (.slice A12 wy0.length c13) := (hb34.cell (p := ⟨w3.heap.size, 0, none⟩) lt1_7).trans by1_0_7
  have lt1_8 : w3.heap.size < w8.heap.size := Nat.lt_of_lt_of_le lt1_7 hb34.size
  clear by1_0_7
  have by2_0_8 : w8.cell? ⟨w5.heap.size, 0, none⟩ = some (.slice A22 xs0.length c23) := (hb34.cell (p := ⟨w5.heap.size, 0, none⟩) lt2_7).trans by2_0_7
  have lt2_8 : w5.heap.size < w8.heap.size := Nat.lt_of_lt_of_le lt2_7 hb34.size
  clear by2_0_7
  go_wp2_with fail
  refine (eqLayout_any _ _ _ _ gy0 wy0 (Nat.le_trans gn0 (by decide)) (Nat.le_trans wn0 (by decide)) _ (rr32.below hb34) (rr14.below (bnext hb20 (bnext hb19 (bnext hb26 (bnext hb28 hb34)))))).mono ?_; rintro e w9 ⟨b36, rfl, hq37, hb38⟩
  obtain rfl : b36 = true := hq37.2 gY0h.out
  clear hq37
  have hB9 : Below W0.heap.size W0 w9 := bnext hB8 hb38
  have by0_0_9 : w9.cell? ⟨w.heap.size, 0, none⟩ = some (.slice A0 xs0.length c0) := (hb38.cell (p := ⟨w.heap.size, 0, none⟩) lt0_8).trans by0_0_8
  have lt0_9 : w.heap.size < w9.heap.size := Nat.lt_of_lt_of_le lt0_8 hb38.size
  clear by0_0_8
  have by1_0_9 : w9.cell? ⟨w3.heap.size, 0, none⟩ = some (.slice A12 wy0.length c13) := (hb38.cell (p := ⟨w3.heap.size, 0, none⟩) lt1_8).trans by1_0_8
  have lt1_9 : w3.heap.size < w9.heap.size := Nat.lt_of_lt_of_le lt1_8 hb38.size
  clear by1_0_8
  have by2_0_9 : w9.cell? ⟨w5.heap.size, 0, none⟩ = some (.slice A22 xs0.length c23) := (hb38.cell (p := ⟨w5.heap.size, 0, none⟩) lt2_8).trans by2_0_8
  have lt2_9 : w5.heap.size < w9.heap.size := Nat.lt_of_lt_of_le lt2_8 hb38.size
  clear by2_0_8
  have by3_0_9 : w9.cell? ⟨w7.heap.size, 0, none⟩ = some (.slice A30 gy0.length c31) := (hb38.cell (p := ⟨w7.heap.size, 0, none⟩) lt3_n).trans bn3_0
  have lt3_9 : w7.heap.size < w9.heap.size := Nat.lt_of_lt_of_le lt3_n hb38.size
  clear bn3_0
  go_wp2_with fail
  go_region_held3 (fun w' => w'.cell? ⟨w.heap.size, 0, none⟩ = some (.slice A0 xs0.length c0) ∧ w'.cell? ⟨w3.heap.size, 0, none⟩ = some (.slice A12 wy0.length c13) ∧ w'.cell? ⟨w5.heap.size, 0, none⟩ = some (.slice A22 xs0.length c23) ∧ w'.cell? ⟨w7.heap.size, 0, none⟩ = some (.slice A30 gy0.length c31)) (first | exact ⟨by0_0_9, by1_0_9, by2_0_9, by3_0_9⟩ | exact ⟨by0_0_10, by1_0_10, by2_0_10, by3_0_10⟩ | exact ⟨by0_0_11, by1_0_11, by2_0_11, by3_0_11⟩) (first | (go_at_call_of 35 (A0); refine (toLayout_any _ _ xs0 hz0 _ ((rx0.below hB9)).drew).mono ?_; rintro e w10 ⟨v40, rfl, ho41, hb42⟩; replace hb42 := bundrew hb42; have hB10 : Below W0.heap.size W0 w10 := bnext hB9 hb42; have by0_0_10 : w10.cell? ⟨w.heap.size, 0, none⟩ = some (.slice A0 xs0.length c0) := (hb42.cell (p := ⟨w.heap.size, 0, none⟩) lt0_9).trans by0_0_9; have lt0_10 : w.heap.size < w10.heap.size := Nat.lt_of_lt_of_le lt0_9 hb42.size; have by1_0_10 : w10.cell? ⟨w3.heap.size, 0, none⟩ = some (.slice A12 wy0.length c13) := (hb42.cell (p := ⟨w3.heap.size, 0, none⟩) lt1_9).trans by1_0_9; have lt1_10 : w3.heap.size < w10.heap.size := Nat.lt_of_lt_of_le lt1_9 hb42.size; have by2_0_10 : w10.cell? ⟨w5.heap.size, 0, none⟩ = some (.slice A22 xs0.length c23) := (hb42.cell (p := ⟨w5.heap.size, 0, none⟩) lt2_9).trans by2_0_9; have lt2_10 : w5.heap.size < w10.heap.size := Nat.lt_of_lt_of_le lt2_9 hb42.size; have by3_0_10 : w10.cell? ⟨w7.heap.size, 0, none⟩ = some (.slice A30 gy0.length c31) := (hb42.cell (p := ⟨w7.heap.size, 0, none⟩) lt3_9).trans by3_0_9; have lt3_10 : w7.heap.size < w10.heap.size := Nat.lt_of_lt_of_le lt3_9 hb42.size; obtain ⟨A43, c44, rfl, rr45, hl46⟩ := ho41.form) | (go_at_call 30; refine (eqLayout_any _ _ _ _ xs0 xs0 (Nat.le_trans hz0 (by decide)) (Nat.le_trans hz0 (by decide)) _ (rr24.below (bnext hb26 (bnext hb28 (bnext hb34 (bnext hb38 hb42))))) rr45).mono ?_; rintro e w11 ⟨b47, rfl, hq48, hb49⟩; obtain rfl : b47 = true := hq48.2 rfl; have hB11 : Below W0.heap.size W0 w11 := bnext hB10 hb49; have by0_0_11 : w11.cell? ⟨w.heap.size, 0, none⟩ = some (.slice A0 xs0.length c0) := (hb49.cell (p := ⟨w.heap.size, 0, none⟩) lt0_10).trans by0_0_10; have lt0_11 : w.heap.size < w11.heap.size := Nat.lt_of_lt_of_le lt0_10 hb49.size; have by1_0_11 : w11.cell? ⟨w3.heap.size, 0, none⟩ = some (.slice A12 wy0.length c13) := (hb49.cell (p := ⟨w3.heap.size, 0, none⟩) lt1_10).trans by1_0_10; have lt1_11 : w3.heap.size < w11.heap.size := Nat.lt_of_lt_of_le lt1_10 hb49.size; have by2_0_11 : w11.cell? ⟨w5.heap.size, 0, none⟩ = some (.slice A22 xs0.length c23) := (hb49.cell (p := ⟨w5.heap.size, 0, none⟩) lt2_10).trans by2_0_10; have lt2_11 : w5.heap.size < w11.heap.size := Nat.lt_of_lt_of_le lt2_10 hb49.size; have by3_0_11 : w11.cell? ⟨w7.heap.size, 0, none⟩ = some (.slice A30 gy0.length c31) := (hb49.cell (p := ⟨w7.heap.size, 0, none⟩) lt3_10).trans by3_0_10; have lt3_11 : w7.heap.size < w11.heap.size := Nat.lt_of_lt_of_le lt3_10 hb49.size))
  go_wp2_with fail
  have oh54 := (ho18.below (bnext hb26 (bnext hb28 (bnext hb34 (bnext hb38 (bnext hb42 hb49))))))
  refine (markLayout_any _ xs0 hz0 1 (by omega) (by omega) _ oh54).mono ?_; rintro e w12 ⟨r50, rfl, hr51, ho52, hg53⟩
  have hbm55 : Below w4.heap.size w11 w12 := below_own oh54 hg53 (Nat.le_refl _) (Nat.le_trans (Nat.le_trans (Nat.le_trans (Nat.le_trans (Nat.le_trans (Nat.le_trans hb19.size hb26.size) hb28.size) hb34.size) hb38.size) hb42.size) hb49.size)
  have hr510 : 1 ≤ r50 := hr51.2
  have hr519 : r50 ≤ 1048577 := by have := hr51.1; have := hz0; omega
  have hr51n : ¬ (r50 < 0) := by omega
  have hr51d : decide (r50 < 0) = false := decide_eq_false hr51n
  have hr51h := Lib.hid hr51
  clear hr51
  have ok_56 := ((wo0.below (bnext hb20 (bnext hb19 (bnext hb26 (bnext hb28 (bnext hb34 (bnext hb38 (bnext hb42 hb49))))))))).kept hg53 (own_apart wo0 ho18 hb20.size)
  have ok_57 := ((go0.below (bnext hb34 (bnext hb38 (bnext hb42 hb49))))).kept hg53 (own_apart' ho18 go0 hb26.size)
  have hB12 : Below W0.heap.size W0 w12 := hB11.trans (hbm55.mono (Nat.le_trans (Nat.le_trans (Nat.le_trans hb1.size hb5.size) hb10.size) hb20.size))
  have by0_0_12 : w12.cell? ⟨w.heap.size, 0, none⟩ = some (.slice A0 xs0.length c0) := (hbm55.cell (p := ⟨w.heap.size, 0, none⟩) (Nat.lt_of_lt_of_le lt0_0 (Nat.le_trans (Nat.le_trans (Nat.le_trans hb1.size hb5.size) hb10.size) hb20.size))).trans by0_0_11
  have lt0_12 : w.heap.size < w12.heap.size := Nat.lt_of_lt_of_le lt0_11 hg53.size
  clear by0_0_11
  have by1_0_12 : w12.cell? ⟨w3.heap.size, 0, none⟩ = some (.slice A12 wy0.length c13) := (grown_cell hg53 lt1_11 (fun hh => by have h1 := ho18.2.lt _ hh.symm; have h2 := (show w4.heap.size ≤ w4.heap.size from (Nat.le_refl _)); have h3 := lt1_n; omega)).trans by1_0_11
  have lt1_12 : w3.heap.size < w12.heap.size := Nat.lt_of_lt_of_le lt1_11 hg53.size
  clear by1_0_11
  have by2_0_12 : w12.cell? ⟨w5.heap.size, 0, none⟩ = some (.slice A22 xs0.length c23) := (grown_cell hg53 lt2_11 (fun hh => by have h1 := ho18.2.lt _ hh.symm; have h2 := (show w5.heap.size ≤ w5.heap.size from (Nat.le_refl _)); omega)).trans by2_0_11
  have lt2_12 : w5.heap.size < w12.heap.size := Nat.lt_of_lt_of_le lt2_11 hg53.size
  clear by2_0_11
  have by3_0_12 : w12.cell? ⟨w7.heap.size, 0, none⟩ = some (.slice A30 gy0.length c31) := (grown_cell hg53 lt3_11 (fun hh => by have h1 := ho18.2.lt _ hh.symm; have h2 := (show w5.heap.size ≤ w7.heap.size from (Nat.le_trans hb26.size hb28.size)); omega)).trans by3_0_11
  have lt3_12 : w7.heap.size < w12.heap.size := Nat.lt_of_lt_of_le lt3_11 hg53.size
  clear by3_0_11
  go_wp2_with fail
  go_wp2_with fail
  refine (eqLayout_any _ _ _ _ gy0 wy0 (Nat.le_trans gn0 (by decide)) (Nat.le_trans wn0 (by decide)) _ (own_row ok_57) (own_row ok_56)).mono ?_; rintro e w13 ⟨b58, rfl, hq59, hb60⟩
  obtain rfl : b58 = true := hq59.2 gY0h.out
  clear hq59
  have hB13 : Below W0.heap.size W0 w13 := bnext hB12 hb60
  have by0_0_13 : w13.cell? ⟨w.heap.size, 0, none⟩ = some (.slice A0 xs0.length c0) := (hb60.cell (p := ⟨w.heap.size, 0, none⟩) lt0_12).trans by0_0_12
  have lt0_13 : w.heap.size < w13.heap.size := Nat.lt_of_lt_of_le lt0_12 hb60.size
  clear by0_0_12
  have by1_0_13 : w13.cell? ⟨w3.heap.size, 0, none⟩ = some (.slice A12 wy0.length c13) := (hb60.cell (p := ⟨w3.heap.size, 0, none⟩) lt1_12).trans by1_0_12
  have lt1_13 : w3.heap.size < w13.heap.size := Nat.lt_of_lt_of_le lt1_12 hb60.size
  clear by1_0_12
  have by2_0_13 : w13.cell? ⟨w5.heap.size, 0, none⟩ = some (.slice A22 xs0.length c23) := (hb60.cell (p := ⟨w5.heap.size, 0, none⟩) lt2_12).trans by2_0_12
  have lt2_13 : w5.heap.size < w13.heap.size := Nat.lt_of_lt_of_le lt2_12 hb60.size
  clear by2_0_12
  have by3_0_13 : w13.cell? ⟨w7.heap.size, 0, none⟩ = some (.slice A30 gy0.length c31) := (hb60.cell (p := ⟨w7.heap.size, 0, none⟩) lt3_12).trans by3_0_12
  have lt3_13 : w7.heap.size < w13.heap.size := Nat.lt_of_lt_of_le lt3_12 hb60.size
  clear by3_0_12
  go_wp2_with fail
  have oh65 := (ok_57.below hb60)
  refine (markLayout_any _ gy0 gn0 1 (by omega) (by omega) _ oh65).mono ?_; rintro e w14 ⟨r61, rfl, hr62, ho63, hg64⟩
  have hbm66 : Below w6.heap.size w13 w14 := below_own oh65 hg64 (Nat.le_refl _) (Nat.le_trans (Nat.le_trans (Nat.le_trans (Nat.le_trans (Nat.le_trans (Nat.le_trans hb28.size hb34.size) hb38.size) hb42.size) hb49.size) hg53.size) hb60.size)
  have hr620 : 1 ≤ r61 := hr62.2
  have hr629 : r61 ≤ 1048577 := by have := hr62.1; have := gn0; omega
  have hr62n : ¬ (r61 < 0) := by omega
  have hr62d : decide (r61 < 0) = false := decide_eq_false hr62n
  have hr62h := Lib.hid hr62
  clear hr62
  have ok_67 := ((ok_56.below hb60)).kept hg64 (own_apart wo0 go0 (Nat.le_trans (Nat.le_trans hb20.size hb19.size) hb26.size))
  have hB14 : Below W0.heap.size W0 w14 := hB13.trans (hbm66.mono (Nat.le_trans (Nat.le_trans (Nat.le_trans (Nat.le_trans (Nat.le_trans hb1.size hb5.size) hb10.size) hb20.size) hb19.size) hb26.size))
  have by0_0_14 : w14.cell? ⟨w.heap.size, 0, none⟩ = some (.slice A0 xs0.length c0) := (hbm66.cell (p := ⟨w.heap.size, 0, none⟩) (Nat.lt_of_lt_of_le lt0_0 (Nat.le_trans (Nat.le_trans (Nat.le_trans (Nat.le_trans (Nat.le_trans hb1.size hb5.size) hb10.size) hb20.size) hb19.size) hb26.size))).trans by0_0_13
  have lt0_14 : w.heap.size < w14.heap.size := Nat.lt_of_lt_of_le lt0_13 hg64.size
  clear by0_0_13
  have by1_0_14 : w14.cell? ⟨w3.heap.size, 0, none⟩ = some (.slice A12 wy0.length c13) := (grown_cell hg64 lt1_13 (fun hh => by have h1 := go0.2.lt _ hh.symm; have h2 := (show w4.heap.size ≤ w6.heap.size from (Nat.le_trans hb19.size hb26.size)); have h3 := lt1_n; omega)).trans by1_0_13
  have lt1_14 : w3.heap.size < w14.heap.size := Nat.lt_of_lt_of_le lt1_13 hg64.size
  clear by1_0_13
  have by2_0_14 : w14.cell? ⟨w5.heap.size, 0, none⟩ = some (.slice A22 xs0.length c23) := (grown_cell hg64 lt2_13 (fun hh => by have h1 := go0.2.lt _ hh.symm; have h2 := (show w6.heap.size ≤ w6.heap.size from (Nat.le_refl _)); have h3 := lt2_n; omega)).trans by2_0_13
  have lt2_14 : w5.heap.size < w14.heap.size := Nat.lt_of_lt_of_le lt2_13 hg64.size
  clear by2_0_13
  have by3_0_14 : w14.cell? ⟨w7.heap.size, 0, none⟩ = some (.slice A30 gy0.length c31) := (grown_cell hg64 lt3_13 (fun hh => by have h1 := go0.2.lt _ hh.symm; have h2 := (show w7.heap.size ≤ w7.heap.size from (Nat.le_refl _)); omega)).trans by3_0_13
  have lt3_14 : w7.heap.size < w14.heap.size := Nat.lt_of_lt_of_le lt3_13 hg64.size
  clear by3_0_13
  go_wp2_with fail
  refine (heldLayout_any _ _ gy0.length gn0 1 (by omega) (by omega) _ (own_row ho63)).mono ?_; rintro e w15 ⟨r68, rfl, hr69, hb70⟩
  have hB15 : Below W0.heap.size W0 w15 := bnext hB14 hb70
  have by0_0_15 : w15.cell? ⟨w.heap.size, 0, none⟩ = some (.slice A0 xs0.length c0) := (hb70.cell (p := ⟨w.heap.size, 0, none⟩) lt0_14).trans by0_0_14
  have lt0_15 : w.heap.size < w15.heap.size := Nat.lt_of_lt_of_le lt0_14 hb70.size
  clear by0_0_14
  have by1_0_15 : w15.cell? ⟨w3.heap.size, 0, none⟩ = some (.slice A12 wy0.length c13) := (hb70.cell (p := ⟨w3.heap.size, 0, none⟩) lt1_14).trans by1_0_14
  have lt1_15 : w3.heap.size < w15.heap.size := Nat.lt_of_lt_of_le lt1_14 hb70.size
  clear by1_0_14
  have by2_0_15 : w15.cell? ⟨w5.heap.size, 0, none⟩ = some (.slice A22 xs0.length c23) := (hb70.cell (p := ⟨w5.heap.size, 0, none⟩) lt2_14).trans by2_0_14
  have lt2_15 : w5.heap.size < w15.heap.size := Nat.lt_of_lt_of_le lt2_14 hb70.size
  clear by2_0_14
  have by3_0_15 : w15.cell? ⟨w7.heap.size, 0, none⟩ = some (.slice A30 gy0.length c31) := (hb70.cell (p := ⟨w7.heap.size, 0, none⟩) lt3_14).trans by3_0_14
  have lt3_15 : w7.heap.size < w15.heap.size := Nat.lt_of_lt_of_le lt3_14 hb70.size
  clear by3_0_14
  have hr69q : r61 = r68 := by have := hr69.1; have := hr62h.out.1; omega
  clear hr69
  subst hr69q
  go_wp2_with fail
  go_wp2_with fail
  refine (toLayout_any _ _ xs0 hz0 _ (rx0.below hB15)).mono ?_; rintro e w16 ⟨v72, rfl, ho73, hb74⟩
  have hB16 : Below W0.heap.size W0 w16 := bnext hB15 hb74
  have by0_0_16 : w16.cell? ⟨w.heap.size, 0, none⟩ = some (.slice A0 xs0.length c0) := (hb74.cell (p := ⟨w.heap.size, 0, none⟩) lt0_15).trans by0_0_15
  have lt0_16 : w.heap.size < w16.heap.size := Nat.lt_of_lt_of_le lt0_15 hb74.size
  clear by0_0_15
  have by1_0_16 : w16.cell? ⟨w3.heap.size, 0, none⟩ = some (.slice A12 wy0.length c13) := (hb74.cell (p := ⟨w3.heap.size, 0, none⟩) lt1_15).trans by1_0_15
  have lt1_16 : w3.heap.size < w16.heap.size := Nat.lt_of_lt_of_le lt1_15 hb74.size
  clear by1_0_15
  have by2_0_16 : w16.cell? ⟨w5.heap.size, 0, none⟩ = some (.slice A22 xs0.length c23) := (hb74.cell (p := ⟨w5.heap.size, 0, none⟩) lt2_15).trans by2_0_15
  have lt2_16 : w5.heap.size < w16.heap.size := Nat.lt_of_lt_of_le lt2_15 hb74.size
  clear by2_0_15
  have by3_0_16 : w16.cell? ⟨w7.heap.size, 0, none⟩ = some (.slice A30 gy0.length c31) := (hb74.cell (p := ⟨w7.heap.size, 0, none⟩) lt3_15).trans by3_0_15
  have lt3_16 : w7.heap.size < w16.heap.size := Nat.lt_of_lt_of_le lt3_15 hb74.size
  clear by3_0_15
  obtain ⟨A75, c76, rfl, rr77, hl78⟩ := ho73.form
  clear hl78
  go_wp2_with fail
  go_wp2_with fail
  refine (impl_MirrorLayout_any _ _ xs0 hz0 hu0 _ rr77).mono ?_; rintro e w17 ⟨hv0, hy0, hr1, rfl, hR, hn0, ho0, hb79⟩
  have hRh := Lib.hid hR
  clear hR
  have hB17 : Below W0.heap.size W0 w17 := bnext hB16 hb79
  have by0_0_17 : w17.cell? ⟨w.heap.size, 0, none⟩ = some (.slice A0 xs0.length c0) := (hb79.cell (p := ⟨w.heap.size, 0, none⟩) lt0_16).trans by0_0_16
  have lt0_17 : w.heap.size < w17.heap.size := Nat.lt_of_lt_of_le lt0_16 hb79.size
  clear by0_0_16
  have by1_0_17 : w17.cell? ⟨w3.heap.size, 0, none⟩ = some (.slice A12 wy0.length c13) := (hb79.cell (p := ⟨w3.heap.size, 0, none⟩) lt1_16).trans by1_0_16
  have lt1_17 : w3.heap.size < w17.heap.size := Nat.lt_of_lt_of_le lt1_16 hb79.size
  clear by1_0_16
  have by2_0_17 : w17.cell? ⟨w5.heap.size, 0, none⟩ = some (.slice A22 xs0.length c23) := (hb79.cell (p := ⟨w5.heap.size, 0, none⟩) lt2_16).trans by2_0_16
  have lt2_17 : w5.heap.size < w17.heap.size := Nat.lt_of_lt_of_le lt2_16 hb79.size
  clear by2_0_16
  have by3_0_17 : w17.cell? ⟨w7.heap.size, 0, none⟩ = some (.slice A30 gy0.length c31) := (hb79.cell (p := ⟨w7.heap.size, 0, none⟩) lt3_16).trans by3_0_16
  have lt3_17 : w7.heap.size < w17.heap.size := Nat.lt_of_lt_of_le lt3_16 hb79.size
  clear by3_0_16
  obtain ⟨A81, c82, rfl, rr83, hl84⟩ := ho0.form
  clear hl84
  have hQ := hRh.out.trans wRh.out.symm
  simp only [Prod.mk.injEq] at hQ
  obtain ⟨hY0, rfl⟩ := hQ
  have hY0h := Lib.hid hY0
  clear hY0
  go_wp2_with fail
  have hb85 : Below w17.heap.size w17 (w17.alloc (.cells #[.slice A81 hy0.length c82] 46)) := bal (Below.refl _ _) _
  have lt4_n : w17.heap.size < (w17.alloc (.cells #[.slice A81 hy0.length c82] 46)).heap.size := by simp
  have bn4_0 : (w17.alloc (.cells #[.slice A81 hy0.length c82] 46)).cell? ⟨w17.heap.size, 0, none⟩ = some (.slice A81 hy0.length c82) := by simp [go_sem]
  generalize hW86 : (w17.alloc (.cells #[.slice A81 hy0.length c82] 46)) = w18 at *
  clear hW86
  have hB18 : Below W0.heap.size W0 w18 := bnext hB17 hb85
  have by0_0_18 : w18.cell? ⟨w.heap.size, 0, none⟩ = some (.slice A0 xs0.length c0) := (hb85.cell (p := ⟨w.heap.size, 0, none⟩) lt0_17).trans by0_0_17
  have lt0_18 : w.heap.size < w18.heap.size := Nat.lt_of_lt_of_le lt0_17 hb85.size
  clear by0_0_17
  have by1_0_18 : w18.cell? ⟨w3.heap.size, 0, none⟩ = some (.slice A12 wy0.length c13) := (hb85.cell (p := ⟨w3.heap.size, 0, none⟩) lt1_17).trans by1_0_17
  have lt1_18 : w3.heap.size < w18.heap.size := Nat.lt_of_lt_of_le lt1_17 hb85.size
  clear by1_0_17
  have by2_0_18 : w18.cell? ⟨w5.heap.size, 0, none⟩ = some (.slice A22 xs0.length c23) := (hb85.cell (p := ⟨w5.heap.size, 0, none⟩) lt2_17).trans by2_0_17
  have lt2_18 : w5.heap.size < w18.heap.size := Nat.lt_of_lt_of_le lt2_17 hb85.size
  clear by2_0_17
  have by3_0_18 : w18.cell? ⟨w7.heap.size, 0, none⟩ = some (.slice A30 gy0.length c31) := (hb85.cell (p := ⟨w7.heap.size, 0, none⟩) lt3_17).trans by3_0_17
  have lt3_18 : w7.heap.size < w18.heap.size := Nat.lt_of_lt_of_le lt3_17 hb85.size
  clear by3_0_17
  go_wp2_with fail
  refine (eqLayout_any _ _ _ _ hy0 wy0 (Nat.le_trans hn0 (by decide)) (Nat.le_trans wn0 (by decide)) _ (rr83.below hb85) (own_row (ok_67.below (bnext hb70 (bnext hb74 (bnext hb79 hb85)))))).mono ?_; rintro e w19 ⟨b87, rfl, hq88, hb89⟩
  obtain rfl : b87 = true := hq88.2 hY0h.out
  clear hq88
  have hB19 : Below W0.heap.size W0 w19 := bnext hB18 hb89
  have by0_0_19 : w19.cell? ⟨w.heap.size, 0, none⟩ = some (.slice A0 xs0.length c0) := (hb89.cell (p := ⟨w.heap.size, 0, none⟩) lt0_18).trans by0_0_18
  have lt0_19 : w.heap.size < w19.heap.size := Nat.lt_of_lt_of_le lt0_18 hb89.size
  clear by0_0_18
  have by1_0_19 : w19.cell? ⟨w3.heap.size, 0, none⟩ = some (.slice A12 wy0.length c13) := (hb89.cell (p := ⟨w3.heap.size, 0, none⟩) lt1_18).trans by1_0_18
  have lt1_19 : w3.heap.size < w19.heap.size := Nat.lt_of_lt_of_le lt1_18 hb89.size
  clear by1_0_18
  have by2_0_19 : w19.cell? ⟨w5.heap.size, 0, none⟩ = some (.slice A22 xs0.length c23) := (hb89.cell (p := ⟨w5.heap.size, 0, none⟩) lt2_18).trans by2_0_18
  have lt2_19 : w5.heap.size < w19.heap.size := Nat.lt_of_lt_of_le lt2_18 hb89.size
  clear by2_0_18
  have by3_0_19 : w19.cell? ⟨w7.heap.size, 0, none⟩ = some (.slice A30 gy0.length c31) := (hb89.cell (p := ⟨w7.heap.size, 0, none⟩) lt3_18).trans by3_0_18
  have lt3_19 : w7.heap.size < w19.heap.size := Nat.lt_of_lt_of_le lt3_18 hb89.size
  clear by3_0_18
  have by4_0_19 : w19.cell? ⟨w17.heap.size, 0, none⟩ = some (.slice A81 hy0.length c82) := (hb89.cell (p := ⟨w17.heap.size, 0, none⟩) lt4_n).trans bn4_0
  have lt4_19 : w17.heap.size < w19.heap.size := Nat.lt_of_lt_of_le lt4_n hb89.size
  clear bn4_0
  go_wp2_with fail
  refine (heldLayout_any _ _ gy0.length gn0 1 (by omega) (by omega) _ (own_row (ho63.below (bnext hb70 (bnext hb74 (bnext hb79 (bnext hb85 hb89))))))).mono ?_; rintro e w20 ⟨r90, rfl, hr91, hb92⟩
  have hB20 : Below W0.heap.size W0 w20 := bnext hB19 hb92
  have by0_0_20 : w20.cell? ⟨w.heap.size, 0, none⟩ = some (.slice A0 xs0.length c0) := (hb92.cell (p := ⟨w.heap.size, 0, none⟩) lt0_19).trans by0_0_19
  have lt0_20 : w.heap.size < w20.heap.size := Nat.lt_of_lt_of_le lt0_19 hb92.size
  clear by0_0_19
  have by1_0_20 : w20.cell? ⟨w3.heap.size, 0, none⟩ = some (.slice A12 wy0.length c13) := (hb92.cell (p := ⟨w3.heap.size, 0, none⟩) lt1_19).trans by1_0_19
  have lt1_20 : w3.heap.size < w20.heap.size := Nat.lt_of_lt_of_le lt1_19 hb92.size
  clear by1_0_19
  have by2_0_20 : w20.cell? ⟨w5.heap.size, 0, none⟩ = some (.slice A22 xs0.length c23) := (hb92.cell (p := ⟨w5.heap.size, 0, none⟩) lt2_19).trans by2_0_19
  have lt2_20 : w5.heap.size < w20.heap.size := Nat.lt_of_lt_of_le lt2_19 hb92.size
  clear by2_0_19
  have by3_0_20 : w20.cell? ⟨w7.heap.size, 0, none⟩ = some (.slice A30 gy0.length c31) := (hb92.cell (p := ⟨w7.heap.size, 0, none⟩) lt3_19).trans by3_0_19
  have lt3_20 : w7.heap.size < w20.heap.size := Nat.lt_of_lt_of_le lt3_19 hb92.size
  clear by3_0_19
  have by4_0_20 : w20.cell? ⟨w17.heap.size, 0, none⟩ = some (.slice A81 hy0.length c82) := (hb92.cell (p := ⟨w17.heap.size, 0, none⟩) lt4_19).trans by4_0_19
  have lt4_20 : w17.heap.size < w20.heap.size := Nat.lt_of_lt_of_le lt4_19 hb92.size
  clear by4_0_19
  have hr91q : r61 = r90 := by have := hr91.1; have := hr62h.out.1; omega
  clear hr91
  subst hr91q
  go_wp2_with fail
  go_ret
  exact ⟨rfl, bnext hB0 (hB20)⟩
end Go.Proofs.Yteepcnfpdmmnhaa.fnExactMirrorLayout
