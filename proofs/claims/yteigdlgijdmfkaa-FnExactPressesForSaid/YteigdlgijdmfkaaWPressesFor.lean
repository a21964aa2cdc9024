/-
  WPressesFor: the walk through the law FnExactPressesFor: it returns true, and only new blocks are made.
-/
import Derived.Test.YteigdlgijdmfkaaFPressesFor
import Derived.Test.YteigdlgijdmfkaaKKeyS
import Derived.Test.YteigdlgijdmfkaaKAccentS
import Derived.Test.YteigdlgijdmfkaaKPressS
import Derived.Test.YteigdlgijdmfkaaTKey
import Derived.Test.YteigdlgijdmfkaaTAccent
import Derived.Test.YteigdlgijdmfkaaTPress
namespace Go.Proofs.Yteigdlgijdmfkaa.fnExactPressesFor
open Go.ChangeShapes Go.WideShapes Go.ChangeAt Go.RowKit
set_option linter.unusedVariables false
attribute [local go_sem ↓] Go.wp_at_zero Go.wp_at_succ

set_option maxHeartbeats 4000000 in
set_option maxRecDepth 100000 in
theorem walk (A0 : Option Addr) (c0 : Nat) (xs0 : List TKey) (hx0 : xs0.length ≤ maxLen) (hk0 : ∀ x ∈ xs0, okKey x) (A1 : Option Addr) (c1 : Nat) (xs1 : List TAccent) (hx1 : xs1.length ≤ maxLen) (hk1 : ∀ x ∈ xs1, okAccent x) (s2 : ByteArray) (hs2 : s2.size ≤ maxLen) (w : World) (rx0 : Row w A0 encKey 3 xs0) (rx1 : Row w A1 encAccent 3 xs1) :
    Calls Try.prog 4 #[.slice A0 xs0.length c0, .slice A1 xs1.length c1, .string s2] w fun e w' => e = .returned (.bool true) ∧ Below w.heap.size w w' := by
  go_enter Try.func4, Try.ntmps4
  by_cases hz2 : ¬ s2.size ≤ 1048576
  · unfold maxLen at hs2
    go_wp2_with fail
    go_ret
    exact ⟨rfl, Below.refl _ _⟩
  rw [Classical.not_not] at hz2
  go_wp2_with fail
  refine (szKeyS_any _ _ xs0 _ hx0 (szokKey hk0) (by omega) (by omega) _ rx0).mono ?_; rintro e w1 ⟨l0, rfl, hl0, hb1⟩
  have hB1 : Below w.heap.size w w1 := hb1
  by_cases hnl0 : l0 < 0
  · go_wp2_with fail
    go_ret
    exact ⟨rfl, hB1⟩
  have hl02 := hl0 (by omega)
  have hz0 : xs0.length ≤ 1048576 := by omega
  have hu0 : ∀ x ∈ xs0, KKey x := fun x hx => KKey_of (hk0 x hx) (by have := hl02.1; have := hl02.2.2 x hx; omega)
  have l0b : l0 ≤ 1048576 := by omega
  have hl0h := Lib.hid hl02; clear hl0 hl02
  go_wp2_with fail
  refine (szAccentS_any _ _ xs1 _ hx1 (szokAccent hk1) (by omega) (by omega) _ (rx1.below hB1)).mono ?_; rintro e w2 ⟨l1, rfl, hl1, hb2⟩
  have hB2 : Below w.heap.size w w2 := bnext hB1 hb2
  by_cases hnl1 : l1 < 0
  · go_wp2_with fail
    go_ret
    exact ⟨rfl, hB2⟩
  have hl12 := hl1 (by omega)
  have hz1 : xs1.length ≤ 1048576 := by omega
  have hu1 : ∀ x ∈ xs1, KAccent x := fun x hx => KAccent_of (hk1 x hx) (by have := hl12.1; have := hl12.2.2 x hx; omega)
  have l1b : l1 ≤ 1048576 := by omega
  have hl1h := Lib.hid hl12; clear hl1 hl12
  go_wp2_with fail
  go_wp2_with fail
  refine (toKeyS_any _ _ xs0 hz0 _ (rx0.below hB2)).mono ?_; rintro e w3 ⟨v4, rfl, ho5, hb6⟩
  have hB3 : Below w.heap.size w w3 := bnext hB2 hb6
  obtain ⟨A7, c8, rfl, rr9, hl10⟩ := ho5.form
  clear hl10
  go_wp2_with fail
  go_wp2_with fail
  refine (toAccentS_any _ _ xs1 hz1 _ (rx1.below hB3)).mono ?_; rintro e w4 ⟨v12, rfl, ho13, hb14⟩
  have hB4 : Below w.heap.size w w4 := bnext hB3 hb14
  obtain ⟨A15, c16, rfl, rr17, hl18⟩ := ho13.form
  clear hl18
  go_wp2_with fail
  go_wp2_with fail
  refine (spec_PressesFor_any _ _ xs0 hz0 hu0 (own_capK ho5) _ _ xs1 hz1 hu1 s2 hz2 _ (rr9.below hb14) rr17).mono ?_; rintro e w5 ⟨wv0, wy0, wr1, rfl, wR, wn0, wo0, hb19⟩
  have wRh := Lib.hid wR
  clear wR
  have hB5 : Below w.heap.size w w5 := bnext hB4 hb19
  obtain ⟨A21, c22, rfl, rr23, hl24⟩ := wo0.form
  clear hl24
  go_wp2_with fail
  go_wp2_with fail
  refine (toKeyS_any _ _ xs0 hz0 _ (rx0.below hB5)).mono ?_; rintro e w6 ⟨v26, rfl, ho27, hb28⟩
  have hB6 : Below w.heap.size w w6 := bnext hB5 hb28
  obtain ⟨A29, c30, rfl, rr31, hl32⟩ := ho27.form
  clear hl32
  go_wp2_with fail
  go_wp2_with fail
  refine (toAccentS_any _ _ xs1 hz1 _ (rx1.below hB6)).mono ?_; rintro e w7 ⟨v34, rfl, ho35, hb36⟩
  have hB7 : Below w.heap.size w w7 := bnext hB6 hb36
  obtain ⟨A37, c38, rfl, rr39, hl40⟩ := ho35.form
  clear hl40
  go_wp2_with fail
  go_wp2_with fail
  refine (impl_PressesFor_any _ _ xs0 hz0 hu0 (own_capK ho27) _ _ xs1 hz1 hu1 s2 hz2 _ (rr31.below hb36) rr39).mono ?_; rintro e w8 ⟨gv0, gy0, gr1, rfl, gR, gn0, go0, hb41⟩
  have gRh := Lib.hid gR
  clear gR
  have hB8 : Below w.heap.size w w8 := bnext hB7 hb41
  obtain ⟨A43, c44, rfl, rr45, hl46⟩ := go0.form
  clear hl46
  have gQ := gRh.out.trans wRh.out.symm
  simp only [Prod.mk.injEq] at gQ
  obtain ⟨gY0, rfl⟩ := gQ
  have gY0h := Lib.hid gY0
  clear gY0
  go_wp2_with fail
  go_wp2_with fail
  refine (eqPressS_any _ _ _ _ gy0 wy0 (Nat.le_trans gn0 (by decide)) (Nat.le_trans wn0 (by decide)) _ rr45 (rr23.below (bnext hb28 (bnext hb36 hb41)))).mono ?_; rintro e w9 ⟨b47, rfl, hq48, hb49⟩
  obtain rfl : b47 = true := hq48.2 gY0h.out
  clear hq48
  have hB9 : Below w.heap.size w w9 := bnext hB8 hb49
  go_wp2_with fail
  go_wp2_with fail
  refine (toKeyS_any _ _ xs0 hz0 _ (rx0.below hB9)).mono ?_; rintro e w10 ⟨v51, rfl, ho52, hb53⟩
  have hB10 : Below w.heap.size w w10 := bnext hB9 hb53
  obtain ⟨A54, c55, rfl, rr56, hl57⟩ := ho52.form
  clear hl57
  go_wp2_with fail
  go_wp2_with fail
  refine (eqKeyS_any _ _ _ _ xs0 xs0 (Nat.le_trans hz0 (by decide)) (Nat.le_trans hz0 (by decide)) _ (rr31.below (bnext hb36 (bnext hb41 (bnext hb49 hb53)))) rr56).mono ?_; rintro e w11 ⟨b58, rfl, hq59, hb60⟩
  obtain rfl : b58 = true := hq59.2 rfl
  have hB11 : Below w.heap.size w w11 := bnext hB10 hb60
  go_wp2_with fail
  go_wp2_with fail
  refine (toAccentS_any _ _ xs1 hz1 _ (rx1.below hB11)).mono ?_; rintro e w12 ⟨v62, rfl, ho63, hb64⟩
  have hB12 : Below w.heap.size w w12 := bnext hB11 hb64
  obtain ⟨A65, c66, rfl, rr67, hl68⟩ := ho63.form
  clear hl68
  go_wp2_with fail
  go_wp2_with fail
  refine (eqAccentS_any _ _ _ _ xs1 xs1 (Nat.le_trans hz1 (by decide)) (Nat.le_trans hz1 (by decide)) _ (rr39.below (bnext hb41 (bnext hb49 (bnext hb53 (bnext hb60 hb64))))) rr67).mono ?_; rintro e w13 ⟨b69, rfl, hq70, hb71⟩
  obtain rfl : b69 = true := hq70.2 rfl
  have hB13 : Below w.heap.size w w13 := bnext hB12 hb71
  go_wp2_with fail
  have oh76 := (ho27.below (bnext hb36 (bnext hb41 (bnext hb49 (bnext hb53 (bnext hb60 (bnext hb64 hb71)))))))
  refine (markKeyS_any _ xs0 hz0 1 (by omega) (by omega) _ oh76).mono ?_; rintro e w14 ⟨r72, rfl, hr73, ho74, hg75⟩
  have hbm77 : Below w5.heap.size w13 w14 := below_own oh76 hg75 (Nat.le_refl _) (Nat.le_trans (Nat.le_trans (Nat.le_trans (Nat.le_trans (Nat.le_trans (Nat.le_trans (Nat.le_trans hb28.size hb36.size) hb41.size) hb49.size) hb53.size) hb60.size) hb64.size) hb71.size)
  have hr730 : 1 ≤ r72 := hr73.2
  have hr739 : r72 ≤ 3145729 := by have := hr73.1; have := hz0; omega
  have hr73n : ¬ (r72 < 0) := by omega
  have hr73d : decide (r72 < 0) = false := decide_eq_false hr73n
  have hr73h := Lib.hid hr73
  clear hr73
  have ok_78 := ((wo0.below (bnext hb28 (bnext hb36 (bnext hb41 (bnext hb49 (bnext hb53 (bnext hb60 (bnext hb64 hb71))))))))).kept hg75 (own_apart wo0 ho27 (Nat.le_refl _))
  have ok_79 := ((ho35.below (bnext hb41 (bnext hb49 (bnext hb53 (bnext hb60 (bnext hb64 hb71))))))).kept hg75 (own_apart' ho27 ho35 (Nat.le_refl _))
  have ok_80 := ((go0.below (bnext hb49 (bnext hb53 (bnext hb60 (bnext hb64 hb71)))))).kept hg75 (own_apart' ho27 go0 hb36.size)
  have hB14 : Below w.heap.size w w14 := hB13.trans (hbm77.mono (Nat.le_trans (Nat.le_trans (Nat.le_trans (Nat.le_trans hb1.size hb2.size) hb6.size) hb14.size) hb19.size))
  go_wp2_with fail
  have oh85 := ok_79
  refine (markAccentS_any _ xs1 hz1 r72 hr730 (Int.le_trans hr739 (by decide)) _ oh85).mono ?_; rintro e w15 ⟨r81, rfl, hr82, ho83, hg84⟩
  have hbm86 : Below w6.heap.size w14 w15 := below_own oh85 hg84 (Nat.le_refl _) (Nat.le_trans (Nat.le_trans (Nat.le_trans (Nat.le_trans (Nat.le_trans (Nat.le_trans (Nat.le_trans hb36.size hb41.size) hb49.size) hb53.size) hb60.size) hb64.size) hb71.size) hg75.size)
  have hr820 : 1 ≤ r81 := hr82.2
  have hr829 : r81 ≤ 6291457 := by have := hr82.1; have := hz1; omega
  have hr82n : ¬ (r81 < 0) := by omega
  have hr82d : decide (r81 < 0) = false := decide_eq_false hr82n
  have hr82h := Lib.hid hr82
  clear hr82
  have ok_87 := (ok_78).kept hg84 (own_apart wo0 ho35 hb28.size)
  have ok_88 := (ok_80).kept hg84 (own_apart' ho35 go0 (Nat.le_refl _))
  have hB15 : Below w.heap.size w w15 := hB14.trans (hbm86.mono (Nat.le_trans (Nat.le_trans (Nat.le_trans (Nat.le_trans (Nat.le_trans hb1.size hb2.size) hb6.size) hb14.size) hb19.size) hb28.size))
  go_wp2_with fail
  go_wp2_with fail
  refine (eqPressS_any _ _ _ _ gy0 wy0 (Nat.le_trans gn0 (by decide)) (Nat.le_trans wn0 (by decide)) _ (own_row ok_88) (own_row ok_87)).mono ?_; rintro e w16 ⟨b89, rfl, hq90, hb91⟩
  obtain rfl : b89 = true := hq90.2 gY0h.out
  clear hq90
  have hB16 : Below w.heap.size w w16 := bnext hB15 hb91
  go_wp2_with fail
  have oh96 := (ok_88.below hb91)
  refine (markPressS_any _ gy0 gn0 1 (by omega) (by omega) _ oh96).mono ?_; rintro e w17 ⟨r92, rfl, hr93, ho94, hg95⟩
  have hbm97 : Below w7.heap.size w16 w17 := below_own oh96 hg95 (Nat.le_refl _) (Nat.le_trans (Nat.le_trans (Nat.le_trans (Nat.le_trans (Nat.le_trans (Nat.le_trans (Nat.le_trans (Nat.le_trans hb41.size hb49.size) hb53.size) hb60.size) hb64.size) hb71.size) hg75.size) hg84.size) hb91.size)
  have hr930 : 1 ≤ r92 := hr93.2
  have hr939 : r92 ≤ 2097153 := by have := hr93.1; have := gn0; omega
  have hr93n : ¬ (r92 < 0) := by omega
  have hr93d : decide (r92 < 0) = false := decide_eq_false hr93n
  have hr93h := Lib.hid hr93
  clear hr93
  have ok_98 := ((ok_87.below hb91)).kept hg95 (own_apart wo0 go0 (Nat.le_trans hb28.size hb36.size))
  have hB17 : Below w.heap.size w w17 := hB16.trans (hbm97.mono (Nat.le_trans (Nat.le_trans (Nat.le_trans (Nat.le_trans (Nat.le_trans (Nat.le_trans hb1.size hb2.size) hb6.size) hb14.size) hb19.size) hb28.size) hb36.size))
  go_wp2_with fail
  refine (heldPressS_any _ _ gy0.length gn0 1 (by omega) (by omega) _ (own_row ho94)).mono ?_; rintro e w18 ⟨r99, rfl, hr100, hb101⟩
  have hB18 : Below w.heap.size w w18 := bnext hB17 hb101
  have hr100q : r92 = r99 := by have := hr100.1; have := hr93h.out.1; omega
  clear hr100
  subst hr100q
  go_wp2_with fail
  go_wp2_with fail
  refine (toKeyS_any _ _ xs0 hz0 _ (rx0.below hB18)).mono ?_; rintro e w19 ⟨v103, rfl, ho104, hb105⟩
  have hB19 : Below w.heap.size w w19 := bnext hB18 hb105
  obtain ⟨A106, c107, rfl, rr108, hl109⟩ := ho104.form
  clear hl109
  go_wp2_with fail
  go_wp2_with fail
  refine (toAccentS_any _ _ xs1 hz1 _ (rx1.below hB19)).mono ?_; rintro e w20 ⟨v111, rfl, ho112, hb113⟩
  have hB20 : Below w.heap.size w w20 := bnext hB19 hb113
  obtain ⟨A114, c115, rfl, rr116, hl117⟩ := ho112.form
  clear hl117
  go_wp2_with fail
  go_wp2_with fail
  refine (impl_PressesFor_any _ _ xs0 hz0 hu0 (own_capK ho104) _ _ xs1 hz1 hu1 s2 hz2 _ (rr108.below hb113) rr116).mono ?_; rintro e w21 ⟨hv0, hy0, hr1, rfl, hR, hn0, ho0, hb118⟩
  have hRh := Lib.hid hR
  clear hR
  have hB21 : Below w.heap.size w w21 := bnext hB20 hb118
  obtain ⟨A120, c121, rfl, rr122, hl123⟩ := ho0.form
  clear hl123
  have hQ := hRh.out.trans wRh.out.symm
  simp only [Prod.mk.injEq] at hQ
  obtain ⟨hY0, rfl⟩ := hQ
  have hY0h := Lib.hid hY0
  clear hY0
  go_wp2_with fail
  go_wp2_with fail
  refine (eqPressS_any _ _ _ _ hy0 wy0 (Nat.le_trans hn0 (by decide)) (Nat.le_trans wn0 (by decide)) _ rr122 (own_row (ok_98.below (bnext hb101 (bnext hb105 (bnext hb113 hb118)))))).mono ?_; rintro e w22 ⟨b124, rfl, hq125, hb126⟩
  obtain rfl : b124 = true := hq125.2 hY0h.out
  clear hq125
  have hB22 : Below w.heap.size w w22 := bnext hB21 hb126
  go_wp2_with fail
  refine (heldPressS_any _ _ gy0.length gn0 1 (by omega) (by omega) _ (own_row (ho94.below (bnext hb101 (bnext hb105 (bnext hb113 (bnext hb118 hb126))))))).mono ?_; rintro e w23 ⟨r127, rfl, hr128, hb129⟩
  have hB23 : Below w.heap.size w w23 := bnext hB22 hb129
  have hr128q : r92 = r127 := by have := hr128.1; have := hr93h.out.1; omega
  clear hr128
  subst hr128q
  go_wp2_with fail
  go_ret
  exact ⟨rfl, hB23⟩
end Go.Proofs.Yteigdlgijdmfkaa.fnExactPressesFor
