/-
  WActText: the walk through the law FnExactActText: it returns true, and only new blocks are made.
-/
import Derived.Test.YtnliobhijmljpaaFActText
import Derived.Test.YtnliobhijmljpaaTAct
namespace Go.Proofs.Ytnliobhijmljpaa.fnExactActText
open Go.ChangeShapes Go.WideShapes Go.ChangeAt Go.RowKit
set_option linter.unusedVariables false
attribute [local go_sem ↓] Go.wp_at_zero Go.wp_at_succ

set_option maxHeartbeats 4000000 in
set_option maxRecDepth 100000 in
theorem walk (A0 : Option Addr) (c0 : Nat) (xs0 : List TAct) (hx0 : xs0.length ≤ maxLen) (hk0 : ∀ x ∈ xs0, okAct x) (w : World) (rx0 : Row w A0 encAct 2 xs0) :
    Calls Try.prog 4 #[.slice A0 xs0.length c0] w fun e w' => e = .returned (.bool true) ∧ Below w.heap.size w w' := by
  go_enter Try.func4, Try.ntmps4
  go_wp2_with fail
  refine (szActS_any _ _ xs0 _ hx0 (szokAct hk0) (by omega) (by omega) _ rx0).mono ?_; rintro e w1 ⟨l0, rfl, hl0, hb1⟩
  have hB1 : Below w.heap.size w w1 := hb1
  by_cases hnl0 : l0 < 0
  · go_wp2_with fail
    go_ret
    exact ⟨rfl, hB1⟩
  have hl02 := hl0 (by omega)
  have hz0 : xs0.length ≤ 1048576 := by omega
  have hu0 : ∀ x ∈ xs0, KAct x := fun x hx => KAct_of (hk0 x hx) (by have := hl02.1; have := hl02.2.2 x hx; omega)
  have l0b : l0 ≤ 1048576 := by omega
  have hl0h := Lib.hid hl02; clear hl0 hl02
  go_wp2_with fail
  go_wp2_with fail
  refine (toActS_any _ _ xs0 hz0 _ (rx0.below hB1)).mono ?_; rintro e w2 ⟨v3, rfl, ho4, hb5⟩
  have hB2 : Below w.heap.size w w2 := bnext hB1 hb5
  obtain ⟨A6, c7, rfl, rr8, hl9⟩ := ho4.form
  clear hl9
  go_wp2_with fail
  go_wp2_with fail
  refine (spec_ActText_any _ _ xs0 hz0 hu0 _ rr8).mono ?_; rintro e w3 ⟨wr0, rfl, wR, hb10⟩
  have wRh := Lib.hid wR
  clear wR
  have hB3 : Below w.heap.size w w3 := bnext hB2 hb10
  go_wp2_with fail
  go_wp2_with fail
  refine (toActS_any _ _ xs0 hz0 _ (rx0.below hB3)).mono ?_; rintro e w4 ⟨v12, rfl, ho13, hb14⟩
  have hB4 : Below w.heap.size w w4 := bnext hB3 hb14
  obtain ⟨A15, c16, rfl, rr17, hl18⟩ := ho13.form
  clear hl18
  go_wp2_with fail
  go_wp2_with fail
  refine (impl_ActText_any _ _ xs0 hz0 hu0 _ rr17).mono ?_; rintro e w5 ⟨gr0, rfl, gR, hb19⟩
  have gRh := Lib.hid gR
  clear gR
  have hB5 : Below w.heap.size w w5 := bnext hB4 hb19
  have gQ := gRh.out.trans wRh.out.symm
  obtain rfl := gQ
  go_wp2_with fail
  go_wp2_with fail
  refine (toActS_any _ _ xs0 hz0 _ (rx0.below hB5)).mono ?_; rintro e w6 ⟨v21, rfl, ho22, hb23⟩
  have hB6 : Below w.heap.size w w6 := bnext hB5 hb23
  obtain ⟨A24, c25, rfl, rr26, hl27⟩ := ho22.form
  clear hl27
  go_wp2_with fail
  go_wp2_with fail
  refine (eqActS_any _ _ _ _ xs0 xs0 (Nat.le_trans hz0 (by decide)) (Nat.le_trans hz0 (by decide)) _ (rr17.below (bnext hb19 hb23)) rr26).mono ?_; rintro e w7 ⟨b28, rfl, hq29, hb30⟩
  obtain rfl : b28 = true := hq29.2 rfl
  have hB7 : Below w.heap.size w w7 := bnext hB6 hb30
  go_wp2_with fail
  go_ret
  exact ⟨rfl, hB7⟩
end Go.Proofs.Ytnliobhijmljpaa.fnExactActText
