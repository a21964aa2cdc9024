/-
  WSplitWords: the walk through the law FnExactSplitWords: it returns true, and only new blocks are made.
-/
import Derived.Test.YtgdmokfpipmkhaaFSplit
import Derived.Test.YtgdmokfpipmkhaaTStringS
import Derived.Test.YtgdmokfpipmkhaaKStringS
namespace Go.Proofs.Ytgdmokfpipmkhaa.fnExactSplitWords
open Go.ChangeShapes Go.WideShapes Go.ChangeAt Go.RowKit
set_option linter.unusedVariables false
attribute [local go_sem ↓] Go.wp_at_zero Go.wp_at_succ

set_option maxHeartbeats 4000000 in
set_option maxRecDepth 100000 in
theorem walk (s0 : ByteArray) (hs0 : s0.size ≤ maxLen) (w : World)  :
    Calls Try.prog 12 #[.string s0] w fun e w' => e = .returned (.bool true) ∧ Below w.heap.size w w' := by
  go_enter Try.func12, Try.ntmps12
  by_cases hz0 : ¬ s0.size ≤ 1048576
  · unfold maxLen at hs0
    go_wp2_with fail
    go_ret
    exact ⟨rfl, Below.refl _ _⟩
  rw [Classical.not_not] at hz0
  go_wp2_with fail
  go_wp2_with fail
  refine (spec_SplitWords_any s0 hz0 _ ).mono ?_; rintro e w1 ⟨wv0, wy0, rfl, wR, wn0, wo0, hb1⟩
  have wRh := Lib.hid wR
  clear wR
  have hB1 : Below w.heap.size w w1 := hb1
  obtain ⟨A3, c4, rfl, rr5, hl6⟩ := wo0.form
  clear hl6
  go_wp2_with fail
  go_wp2_with fail
  refine (impl_SplitWords_any s0 hz0 _ ).mono ?_; rintro e w2 ⟨gv0, gy0, rfl, gR, gn0, go0, hb7⟩
  have gRh := Lib.hid gR
  clear gR
  have hB2 : Below w.heap.size w w2 := bnext hB1 hb7
  obtain ⟨A9, c10, rfl, rr11, hl12⟩ := go0.form
  clear hl12
  have gQ := gRh.out.trans wRh.out.symm
  have gY0 := gQ; clear gQ
  have gY0h := Lib.hid gY0
  clear gY0
  go_wp2_with fail
  go_wp2_with fail
  refine (eqStringS_any _ _ _ _ gy0 wy0 (Nat.le_trans gn0 (by decide)) (Nat.le_trans wn0 (by decide)) _ rr11 (rr5.below hb7)).mono ?_; rintro e w3 ⟨b13, rfl, hq14, hb15⟩
  obtain rfl : b13 = true := hq14.2 gY0h.out
  clear hq14
  have hB3 : Below w.heap.size w w3 := bnext hB2 hb15
  go_wp2_with fail
  have oh20 := (go0.below hb15)
  refine (markStringS_any _ gy0 gn0 1 (by omega) (by omega) _ oh20).mono ?_; rintro e w4 ⟨r16, rfl, hr17, ho18, hg19⟩
  have hbm21 : Below w1.heap.size w3 w4 := below_own oh20 hg19 (Nat.le_refl _) (Nat.le_trans hb7.size hb15.size)
  have hr170 : 1 ≤ r16 := hr17.2
  have hr179 : r16 ≤ 1048577 := by have := hr17.1; have := gn0; omega
  have hr17n : ¬ (r16 < 0) := by omega
  have hr17d : decide (r16 < 0) = false := decide_eq_false hr17n
  have hr17h := Lib.hid hr17
  clear hr17
  have ok_22 := ((wo0.below (bnext hb7 hb15))).kept hg19 (own_apart wo0 go0 (Nat.le_refl _))
  have hB4 : Below w.heap.size w w4 := hB3.trans (hbm21.mono hb1.size)
  go_wp2_with fail
  refine (heldStringS_any _ _ gy0.length gn0 1 (by omega) (by omega) _ (own_row ho18)).mono ?_; rintro e w5 ⟨r23, rfl, hr24, hb25⟩
  have hB5 : Below w.heap.size w w5 := bnext hB4 hb25
  have hr24q : r16 = r23 := by have := hr24.1; have := hr17h.out.1; omega
  clear hr24
  subst hr24q
  go_wp2_with fail
  go_wp2_with fail
  refine (impl_SplitWords_any s0 hz0 _ ).mono ?_; rintro e w6 ⟨hv0, hy0, rfl, hR, hn0, ho0, hb26⟩
  have hRh := Lib.hid hR
  clear hR
  have hB6 : Below w.heap.size w w6 := bnext hB5 hb26
  obtain ⟨A28, c29, rfl, rr30, hl31⟩ := ho0.form
  clear hl31
  have hQ := hRh.out.trans wRh.out.symm
  have hY0 := hQ; clear hQ
  have hY0h := Lib.hid hY0
  clear hY0
  go_wp2_with fail
  go_wp2_with fail
  refine (eqStringS_any _ _ _ _ hy0 wy0 (Nat.le_trans hn0 (by decide)) (Nat.le_trans wn0 (by decide)) _ rr30 (own_row (ok_22.below (bnext hb25 hb26)))).mono ?_; rintro e w7 ⟨b32, rfl, hq33, hb34⟩
  obtain rfl : b32 = true := hq33.2 hY0h.out
  clear hq33
  have hB7 : Below w.heap.size w w7 := bnext hB6 hb34
  go_wp2_with fail
  refine (heldStringS_any _ _ gy0.length gn0 1 (by omega) (by omega) _ (own_row (ho18.below (bnext hb25 (bnext hb26 hb34))))).mono ?_; rintro e w8 ⟨r35, rfl, hr36, hb37⟩
  have hB8 : Below w.heap.size w w8 := bnext hB7 hb37
  have hr36q : r16 = r35 := by have := hr36.1; have := hr17h.out.1; omega
  clear hr36
  subst hr36q
  go_wp2_with fail
  go_ret
  exact ⟨rfl, hB8⟩
end Go.Proofs.Ytgdmokfpipmkhaa.fnExactSplitWords
