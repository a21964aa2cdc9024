/-
  WLettersOf: the walk through the law FnExactLettersOf: it returns true, and only new blocks are made.
-/
import Derived.Test.YteepcnfpdmmnhaaFLetters
import Derived.Test.YteepcnfpdmmnhaaTKey
import Derived.Test.YteepcnfpdmmnhaaTAccent
namespace Go.Proofs.Yteepcnfpdmmnhaa.fnExactLettersOf
open Go.ChangeShapes Go.WideShapes Go.ChangeAt Go.RowKit
set_option linter.unusedVariables false
attribute [local go_sem ↓] Go.wp_at_zero Go.wp_at_succ

set_option maxHeartbeats 4000000 in
set_option maxRecDepth 100000 in
theorem walk (A0 : Option Addr) (c0 : Nat) (xs0 : List TKey) (hx0 : xs0.length ≤ maxLen) (hk0 : ∀ x ∈ xs0, okKey x) (A1 : Option Addr) (c1 : Nat) (xs1 : List TAccent) (hx1 : xs1.length ≤ maxLen) (hk1 : ∀ x ∈ xs1, okAccent x) (w : World) (rx0 : Row w A0 encKey 3 xs0) (rx1 : Row w A1 encAccent 3 xs1) :
    Calls Try.prog 11 #[.slice A0 xs0.length c0, .slice A1 xs1.length c1] w fun e w' => e = .returned (.bool true) ∧ Below w.heap.size w w' := by
  go_enter Try.func11, Try.ntmps11
  go_wp2_with fail
  refine (szKeyS_any _ _ xs0 _ hx0 (szokKey hk0) (by omega) (by omega) _ rx0).mono ?_; rintro e w1 ⟨l0, rfl, hl0, hb1⟩
  have hB1 : Below w.heap.size w w1 := hb1
  by_cases hnl0 : l0 < 0
  · go_wp2_with fail
    go_ret
    exact ⟨rfl, hB1⟩
  have hl02 := hl0 (by omega)
  have hz0 : xs0.length ≤ 1048576 := by omega
  have hu0 : ∀ x ∈ xs0, KKey x := fun x hx => KKey_of (hk0 x hx) (by have := hl02.1; have := hl02.2.2 x hx; omega)
  have l0b : l0 ≤ 1048576 := by omega
  have hl0h := Lib.hid hl02; clear hl0 hl02
  go_wp2_with fail
  refine (szAccentS_any _ _ xs1 _ hx1 (szokAccent hk1) (by omega) (by omega) _ (rx1.below hB1)).mono ?_; rintro e w2 ⟨l1, rfl, hl1, hb2⟩
  have hB2 : Below w.heap.size w w2 := bnext hB1 hb2
  by_cases hnl1 : l1 < 0
  · go_wp2_with fail
    go_ret
    exact ⟨rfl, hB2⟩
  have hl12 := hl1 (by omega)
  have hz1 : xs1.length ≤ 1048576 := by omega
  have hu1 : ∀ x ∈ xs1, KAccent x := fun x hx => KAccent_of (hk1 x hx) (by have := hl12.1; have := hl12.2.2 x hx; omega)
  have l1b : l1 ≤ 1048576 := by omega
  have hl1h := Lib.hid hl12; clear hl1 hl12
  go_wp2_with fail
  go_wp2_with fail
  refine (toKeyS_any _ _ xs0 hz0 _ (rx0.below hB2)).mono ?_; rintro e w3 ⟨v4, rfl, ho5, hb6⟩
  have hB3 : Below w.heap.size w w3 := bnext hB2 hb6
  obtain ⟨A7, c8, rfl, rr9, hl10⟩ := ho5.form
  clear hl10
  go_wp2_with fail
  go_wp2_with fail
  refine (toAccentS_any _ _ xs1 hz1 _ (rx1.below hB3)).mono ?_; rintro e w4 ⟨v12, rfl, ho13, hb14⟩
  have hB4 : Below w.heap.size w w4 := bnext hB3 hb14
  obtain ⟨A15, c16, rfl, rr17, hl18⟩ := ho13.form
  clear hl18
  go_wp2_with fail
  go_wp2_with fail
  refine (spec_LettersOf_any _ _ xs0 hz0 hu0 (own_capK ho5) _ _ xs1 hz1 hu1 _ (rr9.below hb14) rr17).mono ?_; rintro e w5 ⟨wr0, wr1, rfl, wR, hb19⟩
  have wRh := Lib.hid wR
  clear wR
  have hB5 : Below w.heap.size w w5 := bnext hB4 hb19
  go_wp2_with fail
  go_wp2_with fail
  refine (toKeyS_any _ _ xs0 hz0 _ (rx0.below hB5)).mono ?_; rintro e w6 ⟨v21, rfl, ho22, hb23⟩
  have hB6 : Below w.heap.size w w6 := bnext hB5 hb23
  obtain ⟨A24, c25, rfl, rr26, hl27⟩ := ho22.form
  clear hl27
  go_wp2_with fail
  go_wp2_with fail
  refine (toAccentS_any _ _ xs1 hz1 _ (rx1.below hB6)).mono ?_; rintro e w7 ⟨v29, rfl, ho30, hb31⟩
  have hB7 : Below w.heap.size w w7 := bnext hB6 hb31
  obtain ⟨A32, c33, rfl, rr34, hl35⟩ := ho30.form
  clear hl35
  go_wp2_with fail
  go_wp2_with fail
  refine (impl_LettersOf_any _ _ xs0 hz0 hu0 (own_capK ho22) _ _ xs1 hz1 hu1 _ (rr26.below hb31) rr34).mono ?_; rintro e w8 ⟨gr0, gr1, rfl, gR, hb36⟩
  have gRh := Lib.hid gR
  clear gR
  have hB8 : Below w.heap.size w w8 := bnext hB7 hb36
  have gQ := gRh.out.trans wRh.out.symm
  simp only [Prod.mk.injEq] at gQ
  obtain ⟨rfl, rfl⟩ := gQ
  go_wp2_with fail
  go_wp2_with fail
  refine (toKeyS_any _ _ xs0 hz0 _ (rx0.below hB8)).mono ?_; rintro e w9 ⟨v38, rfl, ho39, hb40⟩
  have hB9 : Below w.heap.size w w9 := bnext hB8 hb40
  obtain ⟨A41, c42, rfl, rr43, hl44⟩ := ho39.form
  clear hl44
  go_wp2_with fail
  go_wp2_with fail
  refine (eqKeyS_any _ _ _ _ xs0 xs0 (Nat.le_trans hz0 (by decide)) (Nat.le_trans hz0 (by decide)) _ (rr26.below (bnext hb31 (bnext hb36 hb40))) rr43).mono ?_; rintro e w10 ⟨b45, rfl, hq46, hb47⟩
  obtain rfl : b45 = true := hq46.2 rfl
  have hB10 : Below w.heap.size w w10 := bnext hB9 hb47
  go_wp2_with fail
  go_wp2_with fail
  refine (toAccentS_any _ _ xs1 hz1 _ (rx1.below hB10)).mono ?_; rintro e w11 ⟨v49, rfl, ho50, hb51⟩
  have hB11 : Below w.heap.size w w11 := bnext hB10 hb51
  obtain ⟨A52, c53, rfl, rr54, hl55⟩ := ho50.form
  clear hl55
  go_wp2_with fail
  go_wp2_with fail
  refine (eqAccentS_any _ _ _ _ xs1 xs1 (Nat.le_trans hz1 (by decide)) (Nat.le_trans hz1 (by decide)) _ (rr34.below (bnext hb36 (bnext hb40 (bnext hb47 hb51)))) rr54).mono ?_; rintro e w12 ⟨b56, rfl, hq57, hb58⟩
  obtain rfl : b56 = true := hq57.2 rfl
  have hB12 : Below w.heap.size w w12 := bnext hB11 hb58
  go_wp2_with fail
  go_ret
  exact ⟨rfl, hB12⟩
end Go.Proofs.Yteepcnfpdmmnhaa.fnExactLettersOf
