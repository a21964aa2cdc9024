/-
  TBasket: contracts of the laws helpers on Basket: to, sz, eq and their likes on slices. Printed by wip/gen_types.py.
-/
import Derived.Test.YteepcnfpdmmnhaaData
namespace Go.Proofs.Yteepcnfpdmmnhaa
open Go.RowKit
set_option linter.unusedVariables false
attribute [local go_sem ↓] Go.wp_at_zero Go.wp_at_succ
set_option maxHeartbeats 400000 in
theorem toBasket_any (x : TBasket) (w : World) :
    Calls Try.prog 15 #[.agg #[.int .i64 x.1, .int .i64 x.2.1, .int .i64 x.2.2.1, .int .i64 x.2.2.2.1, .int .i64 x.2.2.2.2]] w fun e w' => e = .returned (.agg #[.int .i64 x.1, .int .i64 x.2.1, .int .i64 x.2.2.1, .int .i64 x.2.2.2.1, .int .i64 x.2.2.2.2]) ∧ Below w.heap.size w w' := by
  go_enter Try.func15, Try.ntmps15
  go_wp2
  exact bodyPost_ret (v := .agg #[.int .i64 x.1, .int .i64 x.2.1, .int .i64 x.2.2.1, .int .i64 x.2.2.2.1, .int .i64 x.2.2.2.2]) (by simp [results, Try.results15, go_sem]) rfl ⟨rfl, by repeat (first | exact Below.refl _ _ | (apply bal))⟩
end Go.Proofs.Yteepcnfpdmmnhaa
