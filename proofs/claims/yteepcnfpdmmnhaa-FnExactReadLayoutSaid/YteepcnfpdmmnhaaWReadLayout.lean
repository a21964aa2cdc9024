/-
  WReadLayout: the walk through the law FnExactReadLayout: it returns true, and only new blocks are made.
-/
import Derived.Test.YteepcnfpdmmnhaaFReadL
import Derived.Test.YteepcnfpdmmnhaaTLayout
import Derived.Test.YteepcnfpdmmnhaaKLayout
import Derived.Test.YteepcnfpdmmnhaaAppAt
namespace Go.Proofs.Yteepcnfpdmmnhaa.fnExactReadLayout
open Go.ChangeShapes Go.WideShapes Go.ChangeAt Go.RowKit
set_option linter.unusedVariables false
attribute [local go_sem ↓] Go.wp_at_zero Go.wp_at_succ

set_option maxHeartbeats 4000000 in
set_option maxRecDepth 100000 in
theorem walk (s0 : ByteArray) (hs0 : s0.size ≤ maxLen) (w : World)  :
    Calls Try.prog 5 #[.string s0] w fun e w' => e = .returned (.bool true) ∧ Below w.heap.size w w' := by
  go_enter Try.func5, Try.ntmps5
  by_cases hz0 : ¬ s0.size ≤ 1048576
  · unfold maxLen at hs0
    go_wp2_with fail
    go_ret
    exact ⟨rfl, Below.refl _ _⟩
  rw [Classical.not_not] at hz0
  go_wp2_with fail
  go_wp2_with fail
  refine (spec_ReadLayout_any s0 hz0 _ ).mono ?_; rintro e w1 ⟨wv0, wy0, wr1, rfl, wR, wn0, wo0, hb1⟩
  have wRh := Lib.hid wR
  clear wR
  have hB1 : Below w.heap.size w w1 := hb1
  obtain ⟨A3, c4, rfl, rr5, hl6⟩ := wo0.form
  clear hl6
  go_wp2_with fail
  have hb7 : Below w1.heap.size w1 (w1.alloc (.cells #[.slice A3 wy0.length c4] 46)) := bal (Below.refl _ _) _
  have lt0_n : w1.heap.size < (w1.alloc (.cells #[.slice A3 wy0.length c4] 46)).heap.size := by simp
  have bn0_0 : (w1.alloc (.cells #[.slice A3 wy0.length c4] 46)).cell? ⟨w1.heap.size, 0, none⟩ = some (.slice A3 wy0.length c4) := by simp [go_sem]
  generalize hW8 : (w1.alloc (.cells #[.slice A3 wy0.length c4] 46)) = w2 at *
  clear hW8
  have hB2 : Below w.heap.size w w2 := bnext hB1 hb7
  go_wp2_with fail
  refine (impl_ReadLayout_any s0 hz0 _ ).mono ?_; rintro e w3 ⟨gv0, gy0, gr1, rfl, gR, gn0, go0, hb9⟩
  have gRh := Lib.hid gR
  clear gR
  have hB3 : Below w.heap.size w w3 := bnext hB2 hb9
  have by0_0_3 : w3.cell? ⟨w1.heap.size, 0, none⟩ = some (.slice A3 wy0.length c4) := (hb9.cell (p := ⟨w1.heap.size, 0, none⟩) lt0_n).trans bn0_0
  have lt0_3 : w1.heap.size < w3.heap.size := Nat.lt_of_lt_of_le lt0_n hb9.size
  clear bn0_0
  obtain ⟨A11, c12, rfl, rr13, hl14⟩ := go0.form
  clear hl14
  have gQ := gRh.out.trans wRh.out.symm
  simp only [Prod.mk.injEq] at gQ
  obtain ⟨gY0, rfl⟩ := gQ
  have gY0h := Lib.hid gY0
  clear gY0
  go_wp2_with fail
  have hb15 : Below w3.heap.size w3 (w3.alloc (.cells #[.slice A11 gy0.length c12] 46)) := bal (Below.refl _ _) _
  have lt1_n : w3.heap.size < (w3.alloc (.cells #[.slice A11 gy0.length c12] 46)).heap.size := by simp
  have bn1_0 : (w3.alloc (.cells #[.slice A11 gy0.length c12] 46)).cell? ⟨w3.heap.size, 0, none⟩ = some (.slice A11 gy0.length c12) := by simp [go_sem]
  generalize hW16 : (w3.alloc (.cells #[.slice A11 gy0.length c12] 46)) = w4 at *
  clear hW16
  have hB4 : Below w.heap.size w w4 := bnext hB3 hb15
  have by0_0_4 : w4.cell? ⟨w1.heap.size, 0, none⟩ = some (.slice A3 wy0.length c4) := (hb15.cell (p := ⟨w1.heap.size, 0, none⟩) lt0_3).trans by0_0_3
  have lt0_4 : w1.heap.size < w4.heap.size := Nat.lt_of_lt_of_le lt0_3 hb15.size
  clear by0_0_3
  go_wp2_with fail
  refine (eqLayout_any _ _ _ _ gy0 wy0 (Nat.le_trans gn0 (by decide)) (Nat.le_trans wn0 (by decide)) _ (rr13.below hb15) (rr5.below (bnext hb7 (bnext hb9 hb15)))).mono ?_; rintro e w5 ⟨b17, rfl, hq18, hb19⟩
  obtain rfl : b17 = true := hq18.2 gY0h.out
  clear hq18
  have hB5 : Below w.heap.size w w5 := bnext hB4 hb19
  have by0_0_5 : w5.cell? ⟨w1.heap.size, 0, none⟩ = some (.slice A3 wy0.length c4) := (hb19.cell (p := ⟨w1.heap.size, 0, none⟩) lt0_4).trans by0_0_4
  have lt0_5 : w1.heap.size < w5.heap.size := Nat.lt_of_lt_of_le lt0_4 hb19.size
  clear by0_0_4
  have by1_0_5 : w5.cell? ⟨w3.heap.size, 0, none⟩ = some (.slice A11 gy0.length c12) := (hb19.cell (p := ⟨w3.heap.size, 0, none⟩) lt1_n).trans bn1_0
  have lt1_5 : w3.heap.size < w5.heap.size := Nat.lt_of_lt_of_le lt1_n hb19.size
  clear bn1_0
  go_wp2_with fail
  have oh24 := (go0.below (bnext hb15 hb19))
  refine (markLayout_any _ gy0 gn0 1 (by omega) (by omega) _ oh24).mono ?_; rintro e w6 ⟨r20, rfl, hr21, ho22, hg23⟩
  have hbm25 : Below w2.heap.size w5 w6 := below_own oh24 hg23 (Nat.le_refl _) (Nat.le_trans (Nat.le_trans hb9.size hb15.size) hb19.size)
  have hr210 : 1 ≤ r20 := hr21.2
  have hr219 : r20 ≤ 1048577 := by have := hr21.1; have := gn0; omega
  have hr21n : ¬ (r20 < 0) := by omega
  have hr21d : decide (r20 < 0) = false := decide_eq_false hr21n
  have hr21h := Lib.hid hr21
  clear hr21
  have ok_26 := ((wo0.below (bnext hb7 (bnext hb9 (bnext hb15 hb19))))).kept hg23 (own_apart wo0 go0 hb7.size)
  have hB6 : Below w.heap.size w w6 := hB5.trans (hbm25.mono (Nat.le_trans hb1.size hb7.size))
  have by0_0_6 : w6.cell? ⟨w1.heap.size, 0, none⟩ = some (.slice A3 wy0.length c4) := (grown_cell hg23 lt0_5 (fun hh => by have h1 := go0.2.lt _ hh.symm; have h2 := (show w2.heap.size ≤ w2.heap.size from (Nat.le_refl _)); have h3 := lt0_n; omega)).trans by0_0_5
  have lt0_6 : w1.heap.size < w6.heap.size := Nat.lt_of_lt_of_le lt0_5 hg23.size
  clear by0_0_5
  have by1_0_6 : w6.cell? ⟨w3.heap.size, 0, none⟩ = some (.slice A11 gy0.length c12) := (grown_cell hg23 lt1_5 (fun hh => by have h1 := go0.2.lt _ hh.symm; have h2 := (show w3.heap.size ≤ w3.heap.size from (Nat.le_refl _)); omega)).trans by1_0_5
  have lt1_6 : w3.heap.size < w6.heap.size := Nat.lt_of_lt_of_le lt1_5 hg23.size
  clear by1_0_5
  go_wp2_with fail
  refine (heldLayout_any _ _ gy0.length gn0 1 (by omega) (by omega) _ (own_row ho22)).mono ?_; rintro e w7 ⟨r27, rfl, hr28, hb29⟩
  have hB7 : Below w.heap.size w w7 := bnext hB6 hb29
  have by0_0_7 : w7.cell? ⟨w1.heap.size, 0, none⟩ = some (.slice A3 wy0.length c4) := (hb29.cell (p := ⟨w1.heap.size, 0, none⟩) lt0_6).trans by0_0_6
  have lt0_7 : w1.heap.size < w7.heap.size := Nat.lt_of_lt_of_le lt0_6 hb29.size
  clear by0_0_6
  have by1_0_7 : w7.cell? ⟨w3.heap.size, 0, none⟩ = some (.slice A11 gy0.length c12) := (hb29.cell (p := ⟨w3.heap.size, 0, none⟩) lt1_6).trans by1_0_6
  have lt1_7 : w3.heap.size < w7.heap.size := Nat.lt_of_lt_of_le lt1_6 hb29.size
  clear by1_0_6
  have hr28q : r20 = r27 := by have := hr28.1; have := hr21h.out.1; omega
  clear hr28
  subst hr28q
  go_wp2_with fail
  go_wp2_with fail
  refine (impl_ReadLayout_any s0 hz0 _ ).mono ?_; rintro e w8 ⟨hv0, hy0, hr1, rfl, hR, hn0, ho0, hb30⟩
  have hRh := Lib.hid hR
  clear hR
  have hB8 : Below w.heap.size w w8 := bnext hB7 hb30
  have by0_0_8 : w8.cell? ⟨w1.heap.size, 0, none⟩ = some (.slice A3 wy0.length c4) := (hb30.cell (p := ⟨w1.heap.size, 0, none⟩) lt0_7).trans by0_0_7
  have lt0_8 : w1.heap.size < w8.heap.size := Nat.lt_of_lt_of_le lt0_7 hb30.size
  clear by0_0_7
  have by1_0_8 : w8.cell? ⟨w3.heap.size, 0, none⟩ = some (.slice A11 gy0.length c12) := (hb30.cell (p := ⟨w3.heap.size, 0, none⟩) lt1_7).trans by1_0_7
  have lt1_8 : w3.heap.size < w8.heap.size := Nat.lt_of_lt_of_le lt1_7 hb30.size
  clear by1_0_7
  obtain ⟨A32, c33, rfl, rr34, hl35⟩ := ho0.form
  clear hl35
  have hQ := hRh.out.trans wRh.out.symm
  simp only [Prod.mk.injEq] at hQ
  obtain ⟨hY0, rfl⟩ := hQ
  have hY0h := Lib.hid hY0
  clear hY0
  go_wp2_with fail
  have hb36 : Below w8.heap.size w8 (w8.alloc (.cells #[.slice A32 hy0.length c33] 46)) := bal (Below.refl _ _) _
  have lt2_n : w8.heap.size < (w8.alloc (.cells #[.slice A32 hy0.length c33] 46)).heap.size := by simp
  have bn2_0 : (w8.alloc (.cells #[.slice A32 hy0.length c33] 46)).cell? ⟨w8.heap.size, 0, none⟩ = some (.slice A32 hy0.length c33) := by simp [go_sem]
  generalize hW37 : (w8.alloc (.cells #[.slice A32 hy0.length c33] 46)) = w9 at *
  clear hW37
  have hB9 : Below w.heap.size w w9 := bnext hB8 hb36
  have by0_0_9 : w9.cell? ⟨w1.heap.size, 0, none⟩ = some (.slice A3 wy0.length c4) := (hb36.cell (p := ⟨w1.heap.size, 0, none⟩) lt0_8).trans by0_0_8
  have lt0_9 : w1.heap.size < w9.heap.size := Nat.lt_of_lt_of_le lt0_8 hb36.size
  clear by0_0_8
  have by1_0_9 : w9.cell? ⟨w3.heap.size, 0, none⟩ = some (.slice A11 gy0.length c12) := (hb36.cell (p := ⟨w3.heap.size, 0, none⟩) lt1_8).trans by1_0_8
  have lt1_9 : w3.heap.size < w9.heap.size := Nat.lt_of_lt_of_le lt1_8 hb36.size
  clear by1_0_8
  go_wp2_with fail
  refine (eqLayout_any _ _ _ _ hy0 wy0 (Nat.le_trans hn0 (by decide)) (Nat.le_trans wn0 (by decide)) _ (rr34.below hb36) (own_row (ok_26.below (bnext hb29 (bnext hb30 hb36))))).mono ?_; rintro e w10 ⟨b38, rfl, hq39, hb40⟩
  obtain rfl : b38 = true := hq39.2 hY0h.out
  clear hq39
  have hB10 : Below w.heap.size w w10 := bnext hB9 hb40
  have by0_0_10 : w10.cell? ⟨w1.heap.size, 0, none⟩ = some (.slice A3 wy0.length c4) := (hb40.cell (p := ⟨w1.heap.size, 0, none⟩) lt0_9).trans by0_0_9
  have lt0_10 : w1.heap.size < w10.heap.size := Nat.lt_of_lt_of_le lt0_9 hb40.size
  clear by0_0_9
  have by1_0_10 : w10.cell? ⟨w3.heap.size, 0, none⟩ = some (.slice A11 gy0.length c12) := (hb40.cell (p := ⟨w3.heap.size, 0, none⟩) lt1_9).trans by1_0_9
  have lt1_10 : w3.heap.size < w10.heap.size := Nat.lt_of_lt_of_le lt1_9 hb40.size
  clear by1_0_9
  have by2_0_10 : w10.cell? ⟨w8.heap.size, 0, none⟩ = some (.slice A32 hy0.length c33) := (hb40.cell (p := ⟨w8.heap.size, 0, none⟩) lt2_n).trans bn2_0
  have lt2_10 : w8.heap.size < w10.heap.size := Nat.lt_of_lt_of_le lt2_n hb40.size
  clear bn2_0
  go_wp2_with fail
  refine (heldLayout_any _ _ gy0.length gn0 1 (by omega) (by omega) _ (own_row (ho22.below (bnext hb29 (bnext hb30 (bnext hb36 hb40)))))).mono ?_; rintro e w11 ⟨r41, rfl, hr42, hb43⟩
  have hB11 : Below w.heap.size w w11 := bnext hB10 hb43
  have by0_0_11 : w11.cell? ⟨w1.heap.size, 0, none⟩ = some (.slice A3 wy0.length c4) := (hb43.cell (p := ⟨w1.heap.size, 0, none⟩) lt0_10).trans by0_0_10
  have lt0_11 : w1.heap.size < w11.heap.size := Nat.lt_of_lt_of_le lt0_10 hb43.size
  clear by0_0_10
  have by1_0_11 : w11.cell? ⟨w3.heap.size, 0, none⟩ = some (.slice A11 gy0.length c12) := (hb43.cell (p := ⟨w3.heap.size, 0, none⟩) lt1_10).trans by1_0_10
  have lt1_11 : w3.heap.size < w11.heap.size := Nat.lt_of_lt_of_le lt1_10 hb43.size
  clear by1_0_10
  have by2_0_11 : w11.cell? ⟨w8.heap.size, 0, none⟩ = some (.slice A32 hy0.length c33) := (hb43.cell (p := ⟨w8.heap.size, 0, none⟩) lt2_10).trans by2_0_10
  have lt2_11 : w8.heap.size < w11.heap.size := Nat.lt_of_lt_of_le lt2_10 hb43.size
  clear by2_0_10
  have hr42q : r20 = r41 := by have := hr42.1; have := hr21h.out.1; omega
  clear hr42
  subst hr42q
  go_wp2_with fail
  go_ret
  exact ⟨rfl, hB11⟩
end Go.Proofs.Yteepcnfpdmmnhaa.fnExactReadLayout
