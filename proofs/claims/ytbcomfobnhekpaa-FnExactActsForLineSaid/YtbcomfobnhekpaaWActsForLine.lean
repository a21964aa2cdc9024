/-
  WActsForLine: the walk through the law FnExactActsForLine: it returns true, and only new blocks are made.
-/
import Derived.Test.YtbcomfobnhekpaaFLine
import Derived.Test.YtbcomfobnhekpaaTCarriage
import Derived.Test.YtbcomfobnhekpaaTAct
import Derived.Test.YtbcomfobnhekpaaKActS
namespace Go.Proofs.Ytbcomfobnhekpaa.fnExactActsForLine
open Go.ChangeShapes Go.WideShapes Go.ChangeAt Go.RowKit
set_option linter.unusedVariables false
attribute [local go_sem ↓] Go.wp_at_zero Go.wp_at_succ

set_option maxHeartbeats 4000000 in
set_option maxRecDepth 100000 in
theorem walk (x0 : TCarriage) (hx0 : okCarriage x0) (s1 : ByteArray) (hs1 : s1.size ≤ maxLen) (w : World)  :
    Calls Try.prog 7 #[.agg #[.int .i64 x0.1, .int .i64 x0.2.1, .int .i64 x0.2.2], .string s1] w fun e w' => e = .returned (.bool true) ∧ Below w.heap.size w w' := by
  by_cases hz1 : ¬ s1.size ≤ 1048576
  · unfold maxLen at hs1
    go_enter Try.func7, Try.ntmps7
    go_wp2_with fail
    go_ret
    exact ⟨rfl, by repeat (first | exact Below.refl _ _ | (apply bal))⟩
  rw [Classical.not_not] at hz1
  go_enter Try.func7, Try.ntmps7
  go_wp2_with fail
  have hB0 : Below w.heap.size w (w.alloc (.cells #[.int .i64 x0.1, .int .i64 x0.2.1, .int .i64 x0.2.2] 49)) := by repeat (first | exact Below.refl _ _ | (apply bal))
  have lt0_0 : w.heap.size < (w.alloc (.cells #[.int .i64 x0.1, .int .i64 x0.2.1, .int .i64 x0.2.2] 49)).heap.size := by simp
  have by0_0_0 : (w.alloc (.cells #[.int .i64 x0.1, .int .i64 x0.2.1, .int .i64 x0.2.2] 49)).cell? ⟨w.heap.size, 0, none⟩ = some (.int .i64 x0.1) := by simp [go_sem]
  have by0_1_0 : (w.alloc (.cells #[.int .i64 x0.1, .int .i64 x0.2.1, .int .i64 x0.2.2] 49)).cell? ⟨w.heap.size, 1, none⟩ = some (.int .i64 x0.2.1) := by simp [go_sem]
  have by0_2_0 : (w.alloc (.cells #[.int .i64 x0.1, .int .i64 x0.2.1, .int .i64 x0.2.2] 49)).cell? ⟨w.heap.size, 2, none⟩ = some (.int .i64 x0.2.2) := by simp [go_sem]
  generalize hW0 : (w.alloc (.cells #[.int .i64 x0.1, .int .i64 x0.2.1, .int .i64 x0.2.2] 49)) = W0 at *
  clear hW0
  go_wp2_with fail
  go_wp2_with fail
  refine (toCarriage_any x0 _).mono ?_; rintro e w1 ⟨rfl, hb1⟩
  have hB1 : Below W0.heap.size W0 w1 := hb1
  have by0_0_1 : w1.cell? ⟨w.heap.size, 0, none⟩ = some (.int .i64 x0.1) := (hb1.cell (p := ⟨w.heap.size, 0, none⟩) lt0_0).trans by0_0_0
  have by0_1_1 : w1.cell? ⟨w.heap.size, 1, none⟩ = some (.int .i64 x0.2.1) := (hb1.cell (p := ⟨w.heap.size, 1, none⟩) lt0_0).trans by0_1_0
  have by0_2_1 : w1.cell? ⟨w.heap.size, 2, none⟩ = some (.int .i64 x0.2.2) := (hb1.cell (p := ⟨w.heap.size, 2, none⟩) lt0_0).trans by0_2_0
  have lt0_1 : w.heap.size < w1.heap.size := Nat.lt_of_lt_of_le lt0_0 hb1.size
  clear by0_0_0 by0_1_0 by0_2_0
  go_wp2_with fail
  go_wp2_with fail
  refine (spec_ActsForLine_any x0 hx0 s1 hz1 _ ).mono ?_; rintro e w2 ⟨wv0, wy0, wr1, rfl, wR, wn0, wo0, hb2⟩
  have wRh := Lib.hid wR
  clear wR
  have hB2 : Below W0.heap.size W0 w2 := bnext hB1 hb2
  have by0_0_2 : w2.cell? ⟨w.heap.size, 0, none⟩ = some (.int .i64 x0.1) := (hb2.cell (p := ⟨w.heap.size, 0, none⟩) lt0_1).trans by0_0_1
  have by0_1_2 : w2.cell? ⟨w.heap.size, 1, none⟩ = some (.int .i64 x0.2.1) := (hb2.cell (p := ⟨w.heap.size, 1, none⟩) lt0_1).trans by0_1_1
  have by0_2_2 : w2.cell? ⟨w.heap.size, 2, none⟩ = some (.int .i64 x0.2.2) := (hb2.cell (p := ⟨w.heap.size, 2, none⟩) lt0_1).trans by0_2_1
  have lt0_2 : w.heap.size < w2.heap.size := Nat.lt_of_lt_of_le lt0_1 hb2.size
  clear by0_0_1 by0_1_1 by0_2_1
  obtain ⟨A4, c5, rfl, rr6, hl7⟩ := wo0.form
  clear hl7
  go_wp2_with fail
  go_wp2_with fail
  refine (toCarriage_any x0 _).mono ?_; rintro e w3 ⟨rfl, hb8⟩
  have hB3 : Below W0.heap.size W0 w3 := bnext hB2 hb8
  have by0_0_3 : w3.cell? ⟨w.heap.size, 0, none⟩ = some (.int .i64 x0.1) := (hb8.cell (p := ⟨w.heap.size, 0, none⟩) lt0_2).trans by0_0_2
  have by0_1_3 : w3.cell? ⟨w.heap.size, 1, none⟩ = some (.int .i64 x0.2.1) := (hb8.cell (p := ⟨w.heap.size, 1, none⟩) lt0_2).trans by0_1_2
  have by0_2_3 : w3.cell? ⟨w.heap.size, 2, none⟩ = some (.int .i64 x0.2.2) := (hb8.cell (p := ⟨w.heap.size, 2, none⟩) lt0_2).trans by0_2_2
  have lt0_3 : w.heap.size < w3.heap.size := Nat.lt_of_lt_of_le lt0_2 hb8.size
  clear by0_0_2 by0_1_2 by0_2_2
  go_wp2_with fail
  go_wp2_with fail
  refine (impl_ActsForLine_any x0 hx0 s1 hz1 _ ).mono ?_; rintro e w4 ⟨gv0, gy0, gr1, rfl, gR, gn0, go0, hb9⟩
  have gRh := Lib.hid gR
  clear gR
  have hB4 : Below W0.heap.size W0 w4 := bnext hB3 hb9
  have by0_0_4 : w4.cell? ⟨w.heap.size, 0, none⟩ = some (.int .i64 x0.1) := (hb9.cell (p := ⟨w.heap.size, 0, none⟩) lt0_3).trans by0_0_3
  have by0_1_4 : w4.cell? ⟨w.heap.size, 1, none⟩ = some (.int .i64 x0.2.1) := (hb9.cell (p := ⟨w.heap.size, 1, none⟩) lt0_3).trans by0_1_3
  have by0_2_4 : w4.cell? ⟨w.heap.size, 2, none⟩ = some (.int .i64 x0.2.2) := (hb9.cell (p := ⟨w.heap.size, 2, none⟩) lt0_3).trans by0_2_3
  have lt0_4 : w.heap.size < w4.heap.size := Nat.lt_of_lt_of_le lt0_3 hb9.size
  clear by0_0_3 by0_1_3 by0_2_3
  obtain ⟨A11, c12, rfl, rr13, hl14⟩ := go0.form
  clear hl14
  have gQ := gRh.out.trans wRh.out.symm
  simp only [Prod.mk.injEq] at gQ
  obtain ⟨gY0, rfl⟩ := gQ
  have gY0h := Lib.hid gY0
  clear gY0
  go_wp2_with fail
  go_wp2_with fail
  refine (eqActS_any _ _ _ _ gy0 wy0 (Nat.le_trans gn0 (by decide)) (Nat.le_trans wn0 (by decide)) _ rr13 (rr6.below (bnext hb8 hb9))).mono ?_; rintro e w5 ⟨b15, rfl, hq16, hb17⟩
  obtain rfl : b15 = true := hq16.2 gY0h.out
  clear hq16
  have hB5 : Below W0.heap.size W0 w5 := bnext hB4 hb17
  have by0_0_5 : w5.cell? ⟨w.heap.size, 0, none⟩ = some (.int .i64 x0.1) := (hb17.cell (p := ⟨w.heap.size, 0, none⟩) lt0_4).trans by0_0_4
  have by0_1_5 : w5.cell? ⟨w.heap.size, 1, none⟩ = some (.int .i64 x0.2.1) := (hb17.cell (p := ⟨w.heap.size, 1, none⟩) lt0_4).trans by0_1_4
  have by0_2_5 : w5.cell? ⟨w.heap.size, 2, none⟩ = some (.int .i64 x0.2.2) := (hb17.cell (p := ⟨w.heap.size, 2, none⟩) lt0_4).trans by0_2_4
  have lt0_5 : w.heap.size < w5.heap.size := Nat.lt_of_lt_of_le lt0_4 hb17.size
  clear by0_0_4 by0_1_4 by0_2_4
  go_wp2_with fail
  have oh22 := (go0.below hb17)
  refine (markActS_any _ gy0 gn0 1 (by omega) (by omega) _ oh22).mono ?_; rintro e w6 ⟨r18, rfl, hr19, ho20, hg21⟩
  have hbm23 : Below w3.heap.size w5 w6 := below_own oh22 hg21 (Nat.le_refl _) (Nat.le_trans hb9.size hb17.size)
  have hr190 : 1 ≤ r18 := hr19.2
  have hr199 : r18 ≤ 2097153 := by have := hr19.1; have := gn0; omega
  have hr19n : ¬ (r18 < 0) := by omega
  have hr19d : decide (r18 < 0) = false := decide_eq_false hr19n
  have hr19h := Lib.hid hr19
  clear hr19
  have ok_24 := ((wo0.below (bnext hb8 (bnext hb9 hb17)))).kept hg21 (own_apart wo0 go0 hb8.size)
  have hB6 : Below W0.heap.size W0 w6 := hB5.trans (hbm23.mono (Nat.le_trans (Nat.le_trans hb1.size hb2.size) hb8.size))
  have by0_0_6 : w6.cell? ⟨w.heap.size, 0, none⟩ = some (.int .i64 x0.1) := (hbm23.cell (p := ⟨w.heap.size, 0, none⟩) (Nat.lt_of_lt_of_le lt0_0 (Nat.le_trans (Nat.le_trans hb1.size hb2.size) hb8.size))).trans by0_0_5
  have by0_1_6 : w6.cell? ⟨w.heap.size, 1, none⟩ = some (.int .i64 x0.2.1) := (hbm23.cell (p := ⟨w.heap.size, 1, none⟩) (Nat.lt_of_lt_of_le lt0_0 (Nat.le_trans (Nat.le_trans hb1.size hb2.size) hb8.size))).trans by0_1_5
  have by0_2_6 : w6.cell? ⟨w.heap.size, 2, none⟩ = some (.int .i64 x0.2.2) := (hbm23.cell (p := ⟨w.heap.size, 2, none⟩) (Nat.lt_of_lt_of_le lt0_0 (Nat.le_trans (Nat.le_trans hb1.size hb2.size) hb8.size))).trans by0_2_5
  have lt0_6 : w.heap.size < w6.heap.size := Nat.lt_of_lt_of_le lt0_5 hg21.size
  clear by0_0_5 by0_1_5 by0_2_5
  go_wp2_with fail
  refine (heldActS_any _ _ gy0.length gn0 1 (by omega) (by omega) _ (own_row ho20)).mono ?_; rintro e w7 ⟨r25, rfl, hr26, hb27⟩
  have hB7 : Below W0.heap.size W0 w7 := bnext hB6 hb27
  have by0_0_7 : w7.cell? ⟨w.heap.size, 0, none⟩ = some (.int .i64 x0.1) := (hb27.cell (p := ⟨w.heap.size, 0, none⟩) lt0_6).trans by0_0_6
  have by0_1_7 : w7.cell? ⟨w.heap.size, 1, none⟩ = some (.int .i64 x0.2.1) := (hb27.cell (p := ⟨w.heap.size, 1, none⟩) lt0_6).trans by0_1_6
  have by0_2_7 : w7.cell? ⟨w.heap.size, 2, none⟩ = some (.int .i64 x0.2.2) := (hb27.cell (p := ⟨w.heap.size, 2, none⟩) lt0_6).trans by0_2_6
  have lt0_7 : w.heap.size < w7.heap.size := Nat.lt_of_lt_of_le lt0_6 hb27.size
  clear by0_0_6 by0_1_6 by0_2_6
  have hr26q : r18 = r25 := by have := hr26.1; have := hr19h.out.1; omega
  clear hr26
  subst hr26q
  go_wp2_with fail
  go_wp2_with fail
  refine (toCarriage_any x0 _).mono ?_; rintro e w8 ⟨rfl, hb28⟩
  have hB8 : Below W0.heap.size W0 w8 := bnext hB7 hb28
  have by0_0_8 : w8.cell? ⟨w.heap.size, 0, none⟩ = some (.int .i64 x0.1) := (hb28.cell (p := ⟨w.heap.size, 0, none⟩) lt0_7).trans by0_0_7
  have by0_1_8 : w8.cell? ⟨w.heap.size, 1, none⟩ = some (.int .i64 x0.2.1) := (hb28.cell (p := ⟨w.heap.size, 1, none⟩) lt0_7).trans by0_1_7
  have by0_2_8 : w8.cell? ⟨w.heap.size, 2, none⟩ = some (.int .i64 x0.2.2) := (hb28.cell (p := ⟨w.heap.size, 2, none⟩) lt0_7).trans by0_2_7
  have lt0_8 : w.heap.size < w8.heap.size := Nat.lt_of_lt_of_le lt0_7 hb28.size
  clear by0_0_7 by0_1_7 by0_2_7
  go_wp2_with fail
  go_wp2_with fail
  refine (impl_ActsForLine_any x0 hx0 s1 hz1 _ ).mono ?_; rintro e w9 ⟨hv0, hy0, hr1, rfl, hR, hn0, ho0, hb29⟩
  have hRh := Lib.hid hR
  clear hR
  have hB9 : Below W0.heap.size W0 w9 := bnext hB8 hb29
  have by0_0_9 : w9.cell? ⟨w.heap.size, 0, none⟩ = some (.int .i64 x0.1) := (hb29.cell (p := ⟨w.heap.size, 0, none⟩) lt0_8).trans by0_0_8
  have by0_1_9 : w9.cell? ⟨w.heap.size, 1, none⟩ = some (.int .i64 x0.2.1) := (hb29.cell (p := ⟨w.heap.size, 1, none⟩) lt0_8).trans by0_1_8
  have by0_2_9 : w9.cell? ⟨w.heap.size, 2, none⟩ = some (.int .i64 x0.2.2) := (hb29.cell (p := ⟨w.heap.size, 2, none⟩) lt0_8).trans by0_2_8
  have lt0_9 : w.heap.size < w9.heap.size := Nat.lt_of_lt_of_le lt0_8 hb29.size
  clear by0_0_8 by0_1_8 by0_2_8
  obtain ⟨A31, c32, rfl, rr33, hl34⟩ := ho0.form
  clear hl34
  have hQ := hRh.out.trans wRh.out.symm
  simp only [Prod.mk.injEq] at hQ
  obtain ⟨hY0, rfl⟩ := hQ
  have hY0h := Lib.hid hY0
  clear hY0
  go_wp2_with fail
  go_wp2_with fail
  refine (eqActS_any _ _ _ _ hy0 wy0 (Nat.le_trans hn0 (by decide)) (Nat.le_trans wn0 (by decide)) _ rr33 (own_row (ok_24.below (bnext hb27 (bnext hb28 hb29))))).mono ?_; rintro e w10 ⟨b35, rfl, hq36, hb37⟩
  obtain rfl : b35 = true := hq36.2 hY0h.out
  clear hq36
  have hB10 : Below W0.heap.size W0 w10 := bnext hB9 hb37
  have by0_0_10 : w10.cell? ⟨w.heap.size, 0, none⟩ = some (.int .i64 x0.1) := (hb37.cell (p := ⟨w.heap.size, 0, none⟩) lt0_9).trans by0_0_9
  have by0_1_10 : w10.cell? ⟨w.heap.size, 1, none⟩ = some (.int .i64 x0.2.1) := (hb37.cell (p := ⟨w.heap.size, 1, none⟩) lt0_9).trans by0_1_9
  have by0_2_10 : w10.cell? ⟨w.heap.size, 2, none⟩ = some (.int .i64 x0.2.2) := (hb37.cell (p := ⟨w.heap.size, 2, none⟩) lt0_9).trans by0_2_9
  have lt0_10 : w.heap.size < w10.heap.size := Nat.lt_of_lt_of_le lt0_9 hb37.size
  clear by0_0_9 by0_1_9 by0_2_9
  go_wp2_with fail
  refine (heldActS_any _ _ gy0.length gn0 1 (by omega) (by omega) _ (own_row (ho20.below (bnext hb27 (bnext hb28 (bnext hb29 hb37)))))).mono ?_; rintro e w11 ⟨r38, rfl, hr39, hb40⟩
  have hB11 : Below W0.heap.size W0 w11 := bnext hB10 hb40
  have by0_0_11 : w11.cell? ⟨w.heap.size, 0, none⟩ = some (.int .i64 x0.1) := (hb40.cell (p := ⟨w.heap.size, 0, none⟩) lt0_10).trans by0_0_10
  have by0_1_11 : w11.cell? ⟨w.heap.size, 1, none⟩ = some (.int .i64 x0.2.1) := (hb40.cell (p := ⟨w.heap.size, 1, none⟩) lt0_10).trans by0_1_10
  have by0_2_11 : w11.cell? ⟨w.heap.size, 2, none⟩ = some (.int .i64 x0.2.2) := (hb40.cell (p := ⟨w.heap.size, 2, none⟩) lt0_10).trans by0_2_10
  have lt0_11 : w.heap.size < w11.heap.size := Nat.lt_of_lt_of_le lt0_10 hb40.size
  clear by0_0_10 by0_1_10 by0_2_10
  have hr39q : r18 = r38 := by have := hr39.1; have := hr19h.out.1; omega
  clear hr39
  subst hr39q
  go_wp2_with fail
  go_ret
  exact ⟨rfl, bnext hB0 (hB11)⟩
end Go.Proofs.Ytbcomfobnhekpaa.fnExactActsForLine
