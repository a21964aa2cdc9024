/-
  WOvertypedPlaces: the walk through the law FnExactOvertypedPlaces: it returns true, and only new blocks are made.
-/
import Derived.Test.YteepcnfpdmmnhaaFOver
import Derived.Test.YteepcnfpdmmnhaaTStruck
import Derived.Test.YteepcnfpdmmnhaaKStruckS
import Derived.Test.YteepcnfpdmmnhaaKInt64S
import Derived.Test.YteepcnfpdmmnhaaTInt64S
import Derived.Test.YteepcnfpdmmnhaaMarksB
namespace Go.Proofs.Yteepcnfpdmmnhaa.fnExactOvertypedPlaces
open Go.ChangeShapes Go.WideShapes Go.ChangeAt Go.RowKit
set_option linter.unusedVariables false
attribute [local go_sem ↓] Go.wp_at_zero Go.wp_at_succ

set_option maxHeartbeats 4000000 in
set_option maxRecDepth 100000 in
theorem walk (A0 : Option Addr) (c0 : Nat) (xs0 : List TStruck) (hx0 : xs0.length ≤ maxLen) (hk0 : ∀ x ∈ xs0, okStruck x) (w : World) (rx0 : Row w A0 encStruck 2 xs0) :
    Calls Try.prog 7 #[.slice A0 xs0.length c0] w fun e w' => e = .returned (.bool true) ∧ Below w.heap.size w w' := by
  go_enter Try.func7, Try.ntmps7
  go_wp2_with fail
  refine (szStruckS_any _ _ xs0 _ hx0 (szokStruck hk0) (by omega) (by omega) _ rx0).mono ?_; rintro e w1 ⟨l0, rfl, hl0, hb1⟩
  have hB1 : Below w.heap.size w w1 := hb1
  by_cases hnl0 : l0 < 0
  · go_wp2_with fail
    go_ret
    exact ⟨rfl, hB1⟩
  have hl02 := hl0 (by omega)
  have hz0 : xs0.length ≤ 1048576 := by omega
  have hu0 : ∀ x ∈ xs0, KStruck x := fun x hx => KStruck_of (hk0 x hx) (by have := hl02.1; have := hl02.2.2 x hx; omega)
  have l0b : l0 ≤ 1048576 := by omega
  have hl0h := Lib.hid hl02; clear hl0 hl02
  go_wp2_with fail
  go_wp2_with fail
  refine (toStruckS_any _ _ xs0 hz0 _ (rx0.below hB1)).mono ?_; rintro e w2 ⟨v3, rfl, ho4, hb5⟩
  have hB2 : Below w.heap.size w w2 := bnext hB1 hb5
  obtain ⟨A6, c7, rfl, rr8, hl9⟩ := ho4.form
  clear hl9
  go_wp2_with fail
  go_wp2_with fail
  refine (spec_OvertypedPlaces_any _ _ xs0 hz0 hu0 _ rr8).mono ?_; rintro e w3 ⟨wv0, wy0, wr1, rfl, wR, wn0, wo0, hb10⟩
  have wRh := Lib.hid wR
  clear wR
  have hB3 : Below w.heap.size w w3 := bnext hB2 hb10
  obtain ⟨A12, c13, rfl, rr14, hl15⟩ := wo0.form
  clear hl15
  go_wp2_with fail
  go_wp2_with fail
  refine (toStruckS_any _ _ xs0 hz0 _ (rx0.below hB3)).mono ?_; rintro e w4 ⟨v17, rfl, ho18, hb19⟩
  have hB4 : Below w.heap.size w w4 := bnext hB3 hb19
  obtain ⟨A20, c21, rfl, rr22, hl23⟩ := ho18.form
  clear hl23
  go_wp2_with fail
  go_wp2_with fail
  refine (impl_OvertypedPlaces_any _ _ xs0 hz0 hu0 _ rr22).mono ?_; rintro e w5 ⟨gv0, gy0, gr1, rfl, gR, gn0, go0, hb24⟩
  have gRh := Lib.hid gR
  clear gR
  have hB5 : Below w.heap.size w w5 := bnext hB4 hb24
  obtain ⟨A26, c27, rfl, rr28, hl29⟩ := go0.form
  clear hl29
  have gQ := gRh.out.trans wRh.out.symm
  simp only [Prod.mk.injEq] at gQ
  obtain ⟨gY0, rfl⟩ := gQ
  have gY0h := Lib.hid gY0
  clear gY0
  go_wp2_with fail
  go_wp2_with fail
  refine (eqInt64S_any _ _ _ _ gy0 wy0 (Nat.le_trans gn0 (by decide)) (Nat.le_trans wn0 (by decide)) _ rr28 (rr14.below (bnext hb19 hb24))).mono ?_; rintro e w6 ⟨b30, rfl, hq31, hb32⟩
  obtain rfl : b30 = true := hq31.2 gY0h.out
  clear hq31
  have hB6 : Below w.heap.size w w6 := bnext hB5 hb32
  go_wp2_with fail
  go_wp2_with fail
  refine (toStruckS_any _ _ xs0 hz0 _ (rx0.below hB6)).mono ?_; rintro e w7 ⟨v34, rfl, ho35, hb36⟩
  have hB7 : Below w.heap.size w w7 := bnext hB6 hb36
  obtain ⟨A37, c38, rfl, rr39, hl40⟩ := ho35.form
  clear hl40
  go_wp2_with fail
  go_wp2_with fail
  refine (eqStruckS_any _ _ _ _ xs0 xs0 (Nat.le_trans hz0 (by decide)) (Nat.le_trans hz0 (by decide)) _ (rr22.below (bnext hb24 (bnext hb32 hb36))) rr39).mono ?_; rintro e w8 ⟨b41, rfl, hq42, hb43⟩
  obtain rfl : b41 = true := hq42.2 rfl
  have hB8 : Below w.heap.size w w8 := bnext hB7 hb43
  go_wp2_with fail
  have oh48 := (ho18.below (bnext hb24 (bnext hb32 (bnext hb36 hb43))))
  refine (markStruckS_any _ xs0 hz0 1 (by omega) (by omega) _ oh48).mono ?_; rintro e w9 ⟨r44, rfl, hr45, ho46, hg47⟩
  have hbm49 : Below w3.heap.size w8 w9 := below_own oh48 hg47 (Nat.le_refl _) (Nat.le_trans (Nat.le_trans (Nat.le_trans (Nat.le_trans hb19.size hb24.size) hb32.size) hb36.size) hb43.size)
  have hr450 : 1 ≤ r44 := hr45.2
  have hr459 : r44 ≤ 2097153 := by have := hr45.1; have := hz0; omega
  have hr45n : ¬ (r44 < 0) := by omega
  have hr45d : decide (r44 < 0) = false := decide_eq_false hr45n
  have hr45h := Lib.hid hr45
  clear hr45
  have ok_50 := ((wo0.below (bnext hb19 (bnext hb24 (bnext hb32 (bnext hb36 hb43)))))).kept hg47 (own_apart wo0 ho18 (Nat.le_refl _))
  have ok_51 := ((go0.below (bnext hb32 (bnext hb36 hb43)))).kept hg47 (own_apart' ho18 go0 (Nat.le_refl _))
  have hB9 : Below w.heap.size w w9 := hB8.trans (hbm49.mono (Nat.le_trans (Nat.le_trans hb1.size hb5.size) hb10.size))
  go_wp2_with fail
  go_wp2_with fail
  refine (eqInt64S_any _ _ _ _ gy0 wy0 (Nat.le_trans gn0 (by decide)) (Nat.le_trans wn0 (by decide)) _ (own_row ok_51) (own_row ok_50)).mono ?_; rintro e w10 ⟨b52, rfl, hq53, hb54⟩
  obtain rfl : b52 = true := hq53.2 gY0h.out
  clear hq53
  have hB10 : Below w.heap.size w w10 := bnext hB9 hb54
  go_wp2_with fail
  have oh59 := (ok_51.below hb54)
  refine (markInt64S_any _ gy0 gn0 1 (by omega) (by omega) _ oh59).mono ?_; rintro e w11 ⟨r55, rfl, hr56, ho57, hg58⟩
  have hbm60 : Below w4.heap.size w10 w11 := below_own oh59 hg58 (Nat.le_refl _) (Nat.le_trans (Nat.le_trans (Nat.le_trans (Nat.le_trans (Nat.le_trans hb24.size hb32.size) hb36.size) hb43.size) hg47.size) hb54.size)
  have hr560 : 1 ≤ r55 := hr56.2
  have hr569 : r55 ≤ 1048577 := by have := hr56.1; have := gn0; omega
  have hr56n : ¬ (r55 < 0) := by omega
  have hr56d : decide (r55 < 0) = false := decide_eq_false hr56n
  have hr56h := Lib.hid hr56
  clear hr56
  have ok_61 := ((ok_50.below hb54)).kept hg58 (own_apart wo0 go0 hb19.size)
  have hB11 : Below w.heap.size w w11 := hB10.trans (hbm60.mono (Nat.le_trans (Nat.le_trans (Nat.le_trans hb1.size hb5.size) hb10.size) hb19.size))
  go_wp2_with fail
  refine (heldInt64S_any _ _ gy0.length gn0 1 (by omega) (by omega) _ (own_row ho57)).mono ?_; rintro e w12 ⟨r62, rfl, hr63, hb64⟩
  have hB12 : Below w.heap.size w w12 := bnext hB11 hb64
  have hr63q : r55 = r62 := by have := hr63.1; have := hr56h.out.1; omega
  clear hr63
  subst hr63q
  go_wp2_with fail
  go_wp2_with fail
  refine (toStruckS_any _ _ xs0 hz0 _ (rx0.below hB12)).mono ?_; rintro e w13 ⟨v66, rfl, ho67, hb68⟩
  have hB13 : Below w.heap.size w w13 := bnext hB12 hb68
  obtain ⟨A69, c70, rfl, rr71, hl72⟩ := ho67.form
  clear hl72
  go_wp2_with fail
  go_wp2_with fail
  refine (impl_OvertypedPlaces_any _ _ xs0 hz0 hu0 _ rr71).mono ?_; rintro e w14 ⟨hv0, hy0, hr1, rfl, hR, hn0, ho0, hb73⟩
  have hRh := Lib.hid hR
  clear hR
  have hB14 : Below w.heap.size w w14 := bnext hB13 hb73
  obtain ⟨A75, c76, rfl, rr77, hl78⟩ := ho0.form
  clear hl78
  have hQ := hRh.out.trans wRh.out.symm
  simp only [Prod.mk.injEq] at hQ
  obtain ⟨hY0, rfl⟩ := hQ
  have hY0h := Lib.hid hY0
  clear hY0
  go_wp2_with fail
  go_wp2_with fail
  refine (eqInt64S_any _ _ _ _ hy0 wy0 (Nat.le_trans hn0 (by decide)) (Nat.le_trans wn0 (by decide)) _ rr77 (own_row (ok_61.below (bnext hb64 (bnext hb68 hb73))))).mono ?_; rintro e w15 ⟨b79, rfl, hq80, hb81⟩
  obtain rfl : b79 = true := hq80.2 hY0h.out
  clear hq80
  have hB15 : Below w.heap.size w w15 := bnext hB14 hb81
  go_wp2_with fail
  refine (heldInt64S_any _ _ gy0.length gn0 1 (by omega) (by omega) _ (own_row (ho57.below (bnext hb64 (bnext hb68 (bnext hb73 hb81)))))).mono ?_; rintro e w16 ⟨r82, rfl, hr83, hb84⟩
  have hB16 : Below w.heap.size w w16 := bnext hB15 hb84
  have hr83q : r55 = r82 := by have := hr83.1; have := hr56h.out.1; omega
  clear hr83
  subst hr83q
  go_wp2_with fail
  go_ret
  exact ⟨rfl, hB16⟩
end Go.Proofs.Yteepcnfpdmmnhaa.fnExactOvertypedPlaces
