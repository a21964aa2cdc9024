/-
  TInt64S: contracts of toInt64S, szInt64S, eqInt64S. Printed by wip/gen_lists.py.
-/
import Derived.Test.YtlpfhmcjacimlaaDoorData
namespace Go.Proofs.YtlpfhmcjacimlaaDoor
open Go.RowKit
set_option linter.unusedVariables false
attribute [local go_sem ↓] Go.wp_at_zero Go.wp_at_succ
end Go.Proofs.YtlpfhmcjacimlaaDoor
