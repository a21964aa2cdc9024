/-
  FBars: when numbers are bars of a basket: (impl.Basket).areBars, spec.l03Code.
-/
import Derived.Test.YteepcnfpdmmnhaaFBasket
import Derived.Test.YteepcnfpdmmnhaaMore
namespace Go.Proofs.Yteepcnfpdmmnhaa
open Go.RowKit
set_option linter.unusedVariables false
attribute [local go_sem ↓] Go.wp_at_zero Go.wp_at_succ
def BarsOk (x : TBasket) (xs : List Int) : Prop := xs.length ≤ 60 ∧ ∀ n ∈ xs, 0 ≤ n ∧ n ≤ x.1 - 1
instance decBarsOk (x : TBasket) (xs : List Int) : Decidable (BarsOk x xs) := inferInstanceAs (Decidable (_ ∧ _))
def M_l03Code (x : TBasket) (xs : List Int) : Int := if BasketOk x then (if BarsOk x xs then 0 else 2) else 1
end Go.Proofs.Yteepcnfpdmmnhaa
