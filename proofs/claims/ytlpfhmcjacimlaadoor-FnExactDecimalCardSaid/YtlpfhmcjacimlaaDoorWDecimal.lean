/-
  WDecimal: the walk through the law FnExactDecimal: it returns true, and only new blocks are made.
-/
import Derived.Test.YtlpfhmcjacimlaaDoorFDecs
namespace Go.Proofs.YtlpfhmcjacimlaaDoor.fnExactDecimal
open Go.ChangeShapes Go.WideShapes Go.ChangeAt Go.RowKit
set_option linter.unusedVariables false
attribute [local go_sem ↓] Go.wp_at_zero Go.wp_at_succ

set_option maxHeartbeats 4000000 in
set_option maxRecDepth 100000 in
theorem walk (n0 : Int) (hn0 : I64 n0) (w : World) (ht : PowTab w) :
    Calls Tryd.prog 3 #[.int .i64 n0] w fun e w' => e = .returned (.bool true) ∧ Below w.heap.size w w' := by
  go_enter Tryd.func3, Tryd.ntmps3
  go_wp2_with fail
  go_wp2_with fail
  refine (spec_Decimal_any n0 hn0 _ ).mono ?_; rintro e w1 ⟨wr0, rfl, wR, hb1⟩
  have wRh := Lib.hid wR
  clear wR
  have hB1 : Below w.heap.size w w1 := hb1
  go_wp2_with fail
  go_wp2_with fail
  refine (impl_Decimal_any n0 hn0 _ (powTab_below ht hB1)).mono ?_; rintro e w2 ⟨gr0, rfl, gR, hb2⟩
  have gRh := Lib.hid gR
  clear gR
  have hB2 : Below w.heap.size w w2 := bnext hB1 hb2
  have gQ := gRh.out.trans wRh.out.symm
  obtain rfl := gQ
  go_wp2_with fail
  go_ret
  exact ⟨rfl, hB2⟩
end Go.Proofs.YtlpfhmcjacimlaaDoor.fnExactDecimal
