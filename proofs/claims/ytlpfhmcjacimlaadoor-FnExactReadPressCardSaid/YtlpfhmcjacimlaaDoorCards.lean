/-
  DERIVED. GIVEN WITH THE SEED: THE CARDS: each row of YtlpfhmcjacimlaaDoorRows.lean that lists a variable, with what it lists TIED to the program's text (the seventh form; the later family's looks); each row that meets fmt, with fmt's text TOLD by the authors' own Lean function (tested against real Go, not proved from fmt's source: count such statements apart). THE CARD IS WHAT COUNTS. Prove the row's statement (the work); the ties are given (YtlpfhmcjacimlaaDoorTie.lean); close each card by the builder's one call (the guide's Derived/Test/ToyasCard.lean, 'card_holds'). Laid BY PROGRAM, IN A SANDBOX (cutbox-door.mjs). By AI agents, Wed Nov 11 2026. No macro, syntax, notation, axiom, sorry.
-/
import Derived.Test.YtlpfhmcjacimlaaDoorRows
import GoSem.ClaimSeven
namespace Go.Proofs.YtlpfhmcjacimlaaDoor
namespace Rows

/-- THE TIED CARD OF 'laws.FnExactDecimal'. -/
def fnExactDecimalCard : Claim7 := { stood := { row := fnExactDecimalRow, standIns := [], harness := (true, "ef4fa482c7d3d9243b5f84e785478f040f44f3ad8d60a3fad740e8bdc6e98a28"), looks := false }, kinds := [], alts := [], laidByText := true, laidKinds := [.data, .data, .data], laidTests := true, laidLooks := .later }
def FnExactDecimalCardSaid : Prop := Claim7.holds Tryd.pinned (.plain (OpenSpec.ofChange fnExactDecimalSpec)) fnExactDecimalCard

/-- THE TIED CARD OF 'laws.FnExactPressText'. -/
def fnExactPressTextCard : Claim7 := { stood := { row := fnExactPressTextRow, standIns := [], harness := (true, "ef4fa482c7d3d9243b5f84e785478f040f44f3ad8d60a3fad740e8bdc6e98a28"), looks := false }, kinds := [], alts := [], laidByText := true, laidKinds := [.data, .data, .data], laidTests := true, laidLooks := .later }
def FnExactPressTextCardSaid : Prop := Claim7.holds Tryd.pinned (.plain (OpenSpec.ofChange fnExactPressTextSpec)) fnExactPressTextCard

/-- THE TIED CARD OF 'laws.FnExactReadDecimal'. -/
def fnExactReadDecimalCard : Claim7 := { stood := { row := fnExactReadDecimalRow, standIns := [], harness := (true, "ef4fa482c7d3d9243b5f84e785478f040f44f3ad8d60a3fad740e8bdc6e98a28"), looks := false }, kinds := [], alts := [], laidByText := true, laidKinds := [.data, .data, .data], laidTests := true, laidLooks := .later }
def FnExactReadDecimalCardSaid : Prop := Claim7.holds Tryd.pinned (.plain (OpenSpec.ofChange fnExactReadDecimalSpec)) fnExactReadDecimalCard

/-- THE TIED CARD OF 'laws.FnExactReadPress'. -/
def fnExactReadPressCard : Claim7 := { stood := { row := fnExactReadPressRow, standIns := [], harness := (true, "ef4fa482c7d3d9243b5f84e785478f040f44f3ad8d60a3fad740e8bdc6e98a28"), looks := false }, kinds := [], alts := [], laidByText := true, laidKinds := [.data, .data, .data], laidTests := true, laidLooks := .later }
def FnExactReadPressCardSaid : Prop := Claim7.holds Tryd.pinned (.plain (OpenSpec.ofChange fnExactReadPressSpec)) fnExactReadPressCard

/-- THE SECOND FORM's CARD OF 'laws.FnExactDecimal'. -/
def fnExactDecimalUptoCard : Claim7 := { stood := { row := fnExactDecimalUptoRow, standIns := [], harness := (true, "ef4fa482c7d3d9243b5f84e785478f040f44f3ad8d60a3fad740e8bdc6e98a28"), looks := false }, kinds := [], alts := [], laidByText := true, laidKinds := [.data, .data, .data], laidTests := true, laidLooks := .later }
def FnExactDecimalUptoCardSaid : Prop := Claim7.holds Tryd.pinned (.plain (OpenSpec.upto fnExactDecimalSpec)) fnExactDecimalUptoCard

/-- THE SECOND FORM's CARD OF 'laws.FnExactPressText'. -/
def fnExactPressTextUptoCard : Claim7 := { stood := { row := fnExactPressTextUptoRow, standIns := [], harness := (true, "ef4fa482c7d3d9243b5f84e785478f040f44f3ad8d60a3fad740e8bdc6e98a28"), looks := false }, kinds := [], alts := [], laidByText := true, laidKinds := [.data, .data, .data], laidTests := true, laidLooks := .later }
def FnExactPressTextUptoCardSaid : Prop := Claim7.holds Tryd.pinned (.plain (OpenSpec.upto fnExactPressTextSpec)) fnExactPressTextUptoCard

/-- THE SECOND FORM's CARD OF 'laws.FnExactReadDecimal'. -/
def fnExactReadDecimalUptoCard : Claim7 := { stood := { row := fnExactReadDecimalUptoRow, standIns := [], harness := (true, "ef4fa482c7d3d9243b5f84e785478f040f44f3ad8d60a3fad740e8bdc6e98a28"), looks := false }, kinds := [], alts := [], laidByText := true, laidKinds := [.data, .data, .data], laidTests := true, laidLooks := .later }
def FnExactReadDecimalUptoCardSaid : Prop := Claim7.holds Tryd.pinned (.plain (OpenSpec.upto fnExactReadDecimalSpec)) fnExactReadDecimalUptoCard

/-- THE SECOND FORM's CARD OF 'laws.FnExactReadPress'. -/
def fnExactReadPressUptoCard : Claim7 := { stood := { row := fnExactReadPressUptoRow, standIns := [], harness := (true, "ef4fa482c7d3d9243b5f84e785478f040f44f3ad8d60a3fad740e8bdc6e98a28"), looks := false }, kinds := [], alts := [], laidByText := true, laidKinds := [.data, .data, .data], laidTests := true, laidLooks := .later }
def FnExactReadPressUptoCardSaid : Prop := Claim7.holds Tryd.pinned (.plain (OpenSpec.upto fnExactReadPressSpec)) fnExactReadPressUptoCard
end Rows
end Go.Proofs.YtlpfhmcjacimlaaDoor
