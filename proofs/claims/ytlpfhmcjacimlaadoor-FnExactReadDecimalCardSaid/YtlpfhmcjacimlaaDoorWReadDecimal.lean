/-
  WReadDecimal: the walk through the law FnExactReadDecimal: it returns true, and only new blocks are made.
-/
import Derived.Test.YtlpfhmcjacimlaaDoorFDecs
namespace Go.Proofs.YtlpfhmcjacimlaaDoor.fnExactReadDecimal
open Go.ChangeShapes Go.WideShapes Go.ChangeAt Go.RowKit
set_option linter.unusedVariables false
attribute [local go_sem ↓] Go.wp_at_zero Go.wp_at_succ

set_option maxHeartbeats 4000000 in
set_option maxRecDepth 100000 in
theorem walk (s0 : ByteArray) (hs0 : s0.size ≤ maxLen) (w : World) (ht : PowTab w) :
    Calls Tryd.prog 5 #[.string s0] w fun e w' => e = .returned (.bool true) ∧ Below w.heap.size w w' := by
  go_enter Tryd.func5, Tryd.ntmps5
  by_cases hz0 : ¬ s0.size ≤ 1048576
  · unfold maxLen at hs0
    go_wp2_with fail
    go_ret
    exact ⟨rfl, Below.refl _ _⟩
  rw [Classical.not_not] at hz0
  go_wp2_with fail
  go_wp2_with fail
  refine (spec_ReadDecimal_any s0 hz0 _ ).mono ?_; rintro e w1 ⟨wr0, wr1, rfl, wR, hb1⟩
  have wRh := Lib.hid wR
  clear wR
  have hB1 : Below w.heap.size w w1 := hb1
  go_wp2_with fail
  go_wp2_with fail
  refine (impl_ReadDecimal_any s0 hz0 _ (powTab_below ht hB1)).mono ?_; rintro e w2 ⟨gr0, gr1, rfl, gR, hb2⟩
  have gRh := Lib.hid gR
  clear gR
  have hB2 : Below w.heap.size w w2 := bnext hB1 hb2
  have gQ := gRh.out.trans wRh.out.symm
  simp only [Prod.mk.injEq] at gQ
  obtain ⟨rfl, rfl⟩ := gQ
  go_wp2_with fail
  go_ret
  exact ⟨rfl, hB2⟩
end Go.Proofs.YtlpfhmcjacimlaaDoor.fnExactReadDecimal
