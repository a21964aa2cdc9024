/-
  TPlace: contracts of the laws helpers on Place: to, sz, eq and their likes on slices. Printed by wip/gen_types.py.
-/
import Derived.Test.YtampmnicnomknaaData
namespace Go.Proofs.Ytampmnicnomknaa
open Go.RowKit
set_option linter.unusedVariables false
attribute [local go_sem ↓] Go.wp_at_zero Go.wp_at_succ
end Go.Proofs.Ytampmnicnomknaa
