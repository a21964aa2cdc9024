/-
  FBoard: when a keyboard is valid: spec.l07Ok, spec.ValidBoard, impl.ValidBoard.
-/
import Derived.Test.YtampmnicnomknaaFPure
import Derived.Test.YtampmnicnomknaaTPlace
namespace Go.Proofs.Ytampmnicnomknaa
open Go.RowKit
set_option linter.unusedVariables false
attribute [local go_sem ↓] Go.wp_at_zero Go.wp_at_succ
abbrev PlaceOk (x : TPlace) : Prop := (0 ≤ x.1 ∧ x.1 ≤ 7) ∧ (0 ≤ x.2.1 ∧ x.2.1 ≤ 3) ∧ (0 ≤ x.2.2 ∧ x.2.2 ≤ 50)
def BoardOk (xs : List TPlace) : Prop := (1 ≤ xs.length ∧ xs.length ≤ 6) ∧ ∀ x ∈ xs, PlaceOk x
end Go.Proofs.Ytampmnicnomknaa
