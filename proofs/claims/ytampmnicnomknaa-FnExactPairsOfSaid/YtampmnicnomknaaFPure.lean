/-
  FPure: contracts of the small functions on numbers: l00In, between, l00Max, l00Size, absolute.
-/
import Derived.Test.YtampmnicnomknaaData
namespace Go.Proofs.Ytampmnicnomknaa
open Go.RowKit
set_option linter.unusedVariables false
end Go.Proofs.Ytampmnicnomknaa
