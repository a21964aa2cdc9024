/-
  WTextOfPresses: the walk through the law FnExactTextOfPresses: it returns true, and only new blocks are made.
-/
import Derived.Test.YteigdlgijdmfkaaFTextOf
import Derived.Test.YteigdlgijdmfkaaTKey
import Derived.Test.YteigdlgijdmfkaaTAccent
import Derived.Test.YteigdlgijdmfkaaTPress
namespace Go.Proofs.Yteigdlgijdmfkaa.fnExactTextOfPresses
open Go.ChangeShapes Go.WideShapes Go.ChangeAt Go.RowKit
set_option linter.unusedVariables false
attribute [local go_sem ↓] Go.wp_at_zero Go.wp_at_succ

set_option maxHeartbeats 4000000 in
set_option maxRecDepth 100000 in
theorem walk (A0 : Option Addr) (c0 : Nat) (xs0 : List TKey) (hx0 : xs0.length ≤ maxLen) (hk0 : ∀ x ∈ xs0, okKey x) (A1 : Option Addr) (c1 : Nat) (xs1 : List TAccent) (hx1 : xs1.length ≤ maxLen) (hk1 : ∀ x ∈ xs1, okAccent x) (A2 : Option Addr) (c2 : Nat) (xs2 : List TPress) (hx2 : xs2.length ≤ maxLen) (hk2 : ∀ x ∈ xs2, okPress x) (w : World) (rx0 : Row w A0 encKey 3 xs0) (rx1 : Row w A1 encAccent 3 xs1) (rx2 : Row w A2 encPress 2 xs2) :
    Calls Try.prog 3 #[.slice A0 xs0.length c0, .slice A1 xs1.length c1, .slice A2 xs2.length c2] w fun e w' => e = .returned (.bool true) ∧ Below w.heap.size w w' := by
  go_enter Try.func3, Try.ntmps3
  go_wp2_with fail
  refine (szKeyS_any _ _ xs0 _ hx0 (szokKey hk0) (by omega) (by omega) _ rx0).mono ?_; rintro e w1 ⟨l0, rfl, hl0, hb1⟩
  have hB1 : Below w.heap.size w w1 := hb1
  by_cases hnl0 : l0 < 0
  · go_wp2_with fail
    go_ret
    exact ⟨rfl, hB1⟩
  have hl02 := hl0 (by omega)
  have hz0 : xs0.length ≤ 1048576 := by omega
  have hu0 : ∀ x ∈ xs0, KKey x := fun x hx => KKey_of (hk0 x hx) (by have := hl02.1; have := hl02.2.2 x hx; omega)
  have l0b : l0 ≤ 1048576 := by omega
  have hl0h := Lib.hid hl02; clear hl0 hl02
  go_wp2_with fail
  refine (szAccentS_any _ _ xs1 _ hx1 (szokAccent hk1) (by omega) (by omega) _ (rx1.below hB1)).mono ?_; rintro e w2 ⟨l1, rfl, hl1, hb2⟩
  have hB2 : Below w.heap.size w w2 := bnext hB1 hb2
  by_cases hnl1 : l1 < 0
  · go_wp2_with fail
    go_ret
    exact ⟨rfl, hB2⟩
  have hl12 := hl1 (by omega)
  have hz1 : xs1.length ≤ 1048576 := by omega
  have hu1 : ∀ x ∈ xs1, KAccent x := fun x hx => KAccent_of (hk1 x hx) (by have := hl12.1; have := hl12.2.2 x hx; omega)
  have l1b : l1 ≤ 1048576 := by omega
  have hl1h := Lib.hid hl12; clear hl1 hl12
  go_wp2_with fail
  refine (szPressS_any _ _ xs2 _ hx2 (by omega) (by omega) _).mono ?_; rintro e w3 ⟨l2, rfl, hl2, hb3⟩
  have hB3 : Below w.heap.size w w3 := bnext hB2 hb3
  by_cases hnl2 : l2 < 0
  · go_wp2_with fail
    go_ret
    exact ⟨rfl, hB3⟩
  have hl22 := hl2 (by omega)
  have hz2 : xs2.length ≤ 1048576 := by omega
  have hu2 : ∀ x ∈ xs2, KPress x := fun x hx => KPress_of (hk2 x hx)
  have l2b : l2 ≤ 1048576 := by omega
  have hl2h := Lib.hid hl22; clear hl2 hl22
  go_wp2_with fail
  go_wp2_with fail
  refine (toKeyS_any _ _ xs0 hz0 _ (rx0.below hB3)).mono ?_; rintro e w4 ⟨v5, rfl, ho6, hb7⟩
  have hB4 : Below w.heap.size w w4 := bnext hB3 hb7
  obtain ⟨A8, c9, rfl, rr10, hl11⟩ := ho6.form
  clear hl11
  go_wp2_with fail
  go_wp2_with fail
  refine (toAccentS_any _ _ xs1 hz1 _ (rx1.below hB4)).mono ?_; rintro e w5 ⟨v13, rfl, ho14, hb15⟩
  have hB5 : Below w.heap.size w w5 := bnext hB4 hb15
  obtain ⟨A16, c17, rfl, rr18, hl19⟩ := ho14.form
  clear hl19
  go_wp2_with fail
  go_wp2_with fail
  refine (toPressS_any _ _ xs2 hz2 _ (rx2.below hB5)).mono ?_; rintro e w6 ⟨v21, rfl, ho22, hb23⟩
  have hB6 : Below w.heap.size w w6 := bnext hB5 hb23
  obtain ⟨A24, c25, rfl, rr26, hl27⟩ := ho22.form
  clear hl27
  go_wp2_with fail
  go_wp2_with fail
  refine (spec_TextOfPresses_any _ _ xs0 hz0 hu0 (own_capK ho6) _ _ xs1 hz1 hu1 _ _ xs2 hz2 hu2 _ (rr10.below (bnext hb15 hb23)) (rr18.below hb23) rr26).mono ?_; rintro e w7 ⟨wr0, wr1, rfl, wR, hb28⟩
  have wRh := Lib.hid wR
  clear wR
  have hB7 : Below w.heap.size w w7 := bnext hB6 hb28
  go_wp2_with fail
  go_wp2_with fail
  refine (toKeyS_any _ _ xs0 hz0 _ (rx0.below hB7)).mono ?_; rintro e w8 ⟨v30, rfl, ho31, hb32⟩
  have hB8 : Below w.heap.size w w8 := bnext hB7 hb32
  obtain ⟨A33, c34, rfl, rr35, hl36⟩ := ho31.form
  clear hl36
  go_wp2_with fail
  go_wp2_with fail
  refine (toAccentS_any _ _ xs1 hz1 _ (rx1.below hB8)).mono ?_; rintro e w9 ⟨v38, rfl, ho39, hb40⟩
  have hB9 : Below w.heap.size w w9 := bnext hB8 hb40
  obtain ⟨A41, c42, rfl, rr43, hl44⟩ := ho39.form
  clear hl44
  go_wp2_with fail
  go_wp2_with fail
  refine (toPressS_any _ _ xs2 hz2 _ (rx2.below hB9)).mono ?_; rintro e w10 ⟨v46, rfl, ho47, hb48⟩
  have hB10 : Below w.heap.size w w10 := bnext hB9 hb48
  obtain ⟨A49, c50, rfl, rr51, hl52⟩ := ho47.form
  clear hl52
  go_wp2_with fail
  go_wp2_with fail
  refine (impl_TextOfPresses_any _ _ xs0 hz0 hu0 (own_capK ho31) _ _ xs1 hz1 hu1 _ _ xs2 hz2 hu2 _ (rr35.below (bnext hb40 hb48)) (rr43.below hb48) rr51).mono ?_; rintro e w11 ⟨gr0, gr1, rfl, gR, hb53⟩
  have gRh := Lib.hid gR
  clear gR
  have hB11 : Below w.heap.size w w11 := bnext hB10 hb53
  have gQ := gRh.out.trans wRh.out.symm
  simp only [Prod.mk.injEq] at gQ
  obtain ⟨rfl, rfl⟩ := gQ
  go_wp2_with fail
  go_wp2_with fail
  refine (toKeyS_any _ _ xs0 hz0 _ (rx0.below hB11)).mono ?_; rintro e w12 ⟨v55, rfl, ho56, hb57⟩
  have hB12 : Below w.heap.size w w12 := bnext hB11 hb57
  obtain ⟨A58, c59, rfl, rr60, hl61⟩ := ho56.form
  clear hl61
  go_wp2_with fail
  go_wp2_with fail
  refine (eqKeyS_any _ _ _ _ xs0 xs0 (Nat.le_trans hz0 (by decide)) (Nat.le_trans hz0 (by decide)) _ (rr35.below (bnext hb40 (bnext hb48 (bnext hb53 hb57)))) rr60).mono ?_; rintro e w13 ⟨b62, rfl, hq63, hb64⟩
  obtain rfl : b62 = true := hq63.2 rfl
  have hB13 : Below w.heap.size w w13 := bnext hB12 hb64
  go_wp2_with fail
  go_wp2_with fail
  refine (toAccentS_any _ _ xs1 hz1 _ (rx1.below hB13)).mono ?_; rintro e w14 ⟨v66, rfl, ho67, hb68⟩
  have hB14 : Below w.heap.size w w14 := bnext hB13 hb68
  obtain ⟨A69, c70, rfl, rr71, hl72⟩ := ho67.form
  clear hl72
  go_wp2_with fail
  go_wp2_with fail
  refine (eqAccentS_any _ _ _ _ xs1 xs1 (Nat.le_trans hz1 (by decide)) (Nat.le_trans hz1 (by decide)) _ (rr43.below (bnext hb48 (bnext hb53 (bnext hb57 (bnext hb64 hb68))))) rr71).mono ?_; rintro e w15 ⟨b73, rfl, hq74, hb75⟩
  obtain rfl : b73 = true := hq74.2 rfl
  have hB15 : Below w.heap.size w w15 := bnext hB14 hb75
  go_wp2_with fail
  go_wp2_with fail
  refine (toPressS_any _ _ xs2 hz2 _ (rx2.below hB15)).mono ?_; rintro e w16 ⟨v77, rfl, ho78, hb79⟩
  have hB16 : Below w.heap.size w w16 := bnext hB15 hb79
  obtain ⟨A80, c81, rfl, rr82, hl83⟩ := ho78.form
  clear hl83
  go_wp2_with fail
  go_wp2_with fail
  refine (eqPressS_any _ _ _ _ xs2 xs2 (Nat.le_trans hz2 (by decide)) (Nat.le_trans hz2 (by decide)) _ (rr51.below (bnext hb53 (bnext hb57 (bnext hb64 (bnext hb68 (bnext hb75 hb79)))))) rr82).mono ?_; rintro e w17 ⟨b84, rfl, hq85, hb86⟩
  obtain rfl : b84 = true := hq85.2 rfl
  have hB17 : Below w.heap.size w w17 := bnext hB16 hb86
  go_wp2_with fail
  go_ret
  exact ⟨rfl, hB17⟩
end Go.Proofs.Yteigdlgijdmfkaa.fnExactTextOfPresses
