/-
  No cell of these rows narrows 'for every input' (looked for: loops, veiled, ifaces, maps, wideKeys, modest, calm, conditions, laid).
  DERIVED. THE GIVEN ROWS OF THIS SEAT. 12 by the template 'for every input the law returns true; each argument reads behind the call as it read before'; 0 by the template 'total and deterministic' (their statements: YtbdafliclhenlaaTotals.lean).
  GIVEN WITH THE SEED: the statements are not yours to turn. If you find one false, say at which input.
  Laid BY PROGRAM, IN A SANDBOX (cutbox-rows.mjs): the forced cells as the released guide's own fill.sh prints them over the translation 7fa591ae168be55f… (all of the seat's roots in one cut). By AI agents, Wed Nov 11 2026. No macro, syntax, notation, axiom, sorry.
-/
import Derived.Test.YtbdafliclhenlaaChecked
import GoSem.Claim
import GoSem.ClaimJoined
import GoSem.ClaimMapViews
import Derived.JoinedTies
import Derived.KernelRfl
namespace Go.Proofs.Ytbdafliclhenlaa
/- THE CELL 'sum', in the pinned program and in every row, IS THE sha256 OF THE DUMP (.gsa) THAT YtbdafliclhenlaaProg.lean LOADS. Nothing in Lean hashes anything: it is a label: what it is worth is what the hold of that sum in a sandbox is worth. -/
noncomputable def Try.pinned : Pinned := { name := "ytbdafliclhenlaa", sum := "7fa591ae168be55fffaffa0036cd27c6b7513c80d7cffb1849b732e9bd5c0c72", checked := Try.checked }
namespace Rows
def none {H : Type} : Left H := { results := [], args := [] }

/-- 'laws.FnExactConstants': WHATEVER THE INPUT: true; the input reads as it did. -/
def fnExactConstantsSpec : ChangeSpec := { name := "fnExactConstants", fn := fun _ => fun
  | [] => { results := [.lit (.bool true)], args := [] }
  | _ => none }
def fnExactConstantsRow : OpenClaim := { program := "ytbdafliclhenlaa", sum := "7fa591ae168be55fffaffa0036cd27c6b7513c80d7cffb1849b732e9bd5c0c72", func := "loop.example/g01045/laws.FnExactConstants", spec := "fnExactConstants", apart := false }
def FnExactConstantsSaid : Prop := fnExactConstantsRow.holds Try.pinned (OpenSpec.ofChange fnExactConstantsSpec)

/-- ITS FALSE NEIGHBOUR: 'it returns false'. Refute it at one input. -/
def fnExactConstantsWrong : ChangeSpec := { name := "fnExactConstants", fn := fun _ => fun
  | [] => { results := [.lit (.bool false)], args := [] }
  | _ => none }
def FnExactConstantsWrongFalsely : Prop := fnExactConstantsRow.holds Try.pinned (OpenSpec.ofChange fnExactConstantsWrong)

/-- 'laws.FnExactCodeName': WHATEVER THE INPUT: true; the input reads as it did. -/
def fnExactCodeNameSpec : ChangeSpec := { name := "fnExactCodeName", fn := fun _ => fun
  | [d] => { results := [.lit (.bool true)], args := [d] }
  | _ => none }
def fnExactCodeNameRow : OpenClaim := { program := "ytbdafliclhenlaa", sum := "7fa591ae168be55fffaffa0036cd27c6b7513c80d7cffb1849b732e9bd5c0c72", func := "loop.example/g01045/laws.FnExactCodeName", spec := "fnExactCodeName", apart := false }
def FnExactCodeNameSaid : Prop := fnExactCodeNameRow.holds Try.pinned (OpenSpec.ofChange fnExactCodeNameSpec)

/-- ITS FALSE NEIGHBOUR: 'it returns false'. Refute it at one input. -/
def fnExactCodeNameWrong : ChangeSpec := { name := "fnExactCodeName", fn := fun _ => fun
  | [d] => { results := [.lit (.bool false)], args := [d] }
  | _ => none }
def FnExactCodeNameWrongFalsely : Prop := fnExactCodeNameRow.holds Try.pinned (OpenSpec.ofChange fnExactCodeNameWrong)

/-- 'laws.FnExactValidCarriage': WHATEVER THE INPUT: true; the input reads as it did. -/
def fnExactValidCarriageSpec : ChangeSpec := { name := "fnExactValidCarriage", fn := fun _ => fun
  | [d] => { results := [.lit (.bool true)], args := [d] }
  | _ => none }
def fnExactValidCarriageRow : OpenClaim := { program := "ytbdafliclhenlaa", sum := "7fa591ae168be55fffaffa0036cd27c6b7513c80d7cffb1849b732e9bd5c0c72", func := "loop.example/g01045/laws.FnExactValidCarriage", spec := "fnExactValidCarriage", apart := false }
def FnExactValidCarriageSaid : Prop := fnExactValidCarriageRow.holds Try.pinned (OpenSpec.ofChange fnExactValidCarriageSpec)

/-- ITS FALSE NEIGHBOUR: 'it returns false'. Refute it at one input. -/
def fnExactValidCarriageWrong : ChangeSpec := { name := "fnExactValidCarriage", fn := fun _ => fun
  | [d] => { results := [.lit (.bool false)], args := [d] }
  | _ => none }
def FnExactValidCarriageWrongFalsely : Prop := fnExactValidCarriageRow.holds Try.pinned (OpenSpec.ofChange fnExactValidCarriageWrong)

/-- 'laws.FnExactValidBasket': WHATEVER THE INPUT: true; the input reads as it did. -/
def fnExactValidBasketSpec : ChangeSpec := { name := "fnExactValidBasket", fn := fun _ => fun
  | [d] => { results := [.lit (.bool true)], args := [d] }
  | _ => none }
def fnExactValidBasketRow : OpenClaim := { program := "ytbdafliclhenlaa", sum := "7fa591ae168be55fffaffa0036cd27c6b7513c80d7cffb1849b732e9bd5c0c72", func := "loop.example/g01045/laws.FnExactValidBasket", spec := "fnExactValidBasket", apart := false }
def FnExactValidBasketSaid : Prop := fnExactValidBasketRow.holds Try.pinned (OpenSpec.ofChange fnExactValidBasketSpec)

/-- ITS FALSE NEIGHBOUR: 'it returns false'. Refute it at one input. -/
def fnExactValidBasketWrong : ChangeSpec := { name := "fnExactValidBasket", fn := fun _ => fun
  | [d] => { results := [.lit (.bool false)], args := [d] }
  | _ => none }
def FnExactValidBasketWrongFalsely : Prop := fnExactValidBasketRow.holds Try.pinned (OpenSpec.ofChange fnExactValidBasketWrong)

/-- 'laws.FnExactIsName': WHATEVER THE INPUT: true; the input reads as it did. -/
def fnExactIsNameSpec : ChangeSpec := { name := "fnExactIsName", fn := fun _ => fun
  | [d] => { results := [.lit (.bool true)], args := [d] }
  | _ => none }
def fnExactIsNameRow : OpenClaim := { program := "ytbdafliclhenlaa", sum := "7fa591ae168be55fffaffa0036cd27c6b7513c80d7cffb1849b732e9bd5c0c72", func := "loop.example/g01045/laws.FnExactIsName", spec := "fnExactIsName", apart := false }
def FnExactIsNameSaid : Prop := fnExactIsNameRow.holds Try.pinned (OpenSpec.ofChange fnExactIsNameSpec)

/-- ITS FALSE NEIGHBOUR: 'it returns false'. Refute it at one input. -/
def fnExactIsNameWrong : ChangeSpec := { name := "fnExactIsName", fn := fun _ => fun
  | [d] => { results := [.lit (.bool false)], args := [d] }
  | _ => none }
def FnExactIsNameWrongFalsely : Prop := fnExactIsNameRow.holds Try.pinned (OpenSpec.ofChange fnExactIsNameWrong)

/-- 'laws.FnExactSamePresses': WHATEVER THE INPUT: true; the input reads as it did. -/
def fnExactSamePressesSpec : ChangeSpec := { name := "fnExactSamePresses", fn := fun _ => fun
  | [d1, d2] => { results := [.lit (.bool true)], args := [d1, d2] }
  | _ => none }
def fnExactSamePressesRow : OpenClaim := { program := "ytbdafliclhenlaa", sum := "7fa591ae168be55fffaffa0036cd27c6b7513c80d7cffb1849b732e9bd5c0c72", func := "loop.example/g01045/laws.FnExactSamePresses", spec := "fnExactSamePresses", apart := false }
def FnExactSamePressesSaid : Prop := fnExactSamePressesRow.holds Try.pinned (OpenSpec.ofChange fnExactSamePressesSpec)

/-- ITS FALSE NEIGHBOUR: 'it returns false'. Refute it at one input. -/
def fnExactSamePressesWrong : ChangeSpec := { name := "fnExactSamePresses", fn := fun _ => fun
  | [d1, d2] => { results := [.lit (.bool false)], args := [d1, d2] }
  | _ => none }
def FnExactSamePressesWrongFalsely : Prop := fnExactSamePressesRow.holds Try.pinned (OpenSpec.ofChange fnExactSamePressesWrong)

/-- 'laws.FnExactTextOfPresses': WHATEVER THE INPUT: true; the input reads as it did. -/
def fnExactTextOfPressesSpec : ChangeSpec := { name := "fnExactTextOfPresses", fn := fun _ => fun
  | [d1, d2, d3] => { results := [.lit (.bool true)], args := [d1, d2, d3] }
  | _ => none }
def fnExactTextOfPressesRow : OpenClaim := { program := "ytbdafliclhenlaa", sum := "7fa591ae168be55fffaffa0036cd27c6b7513c80d7cffb1849b732e9bd5c0c72", func := "loop.example/g01045/laws.FnExactTextOfPresses", spec := "fnExactTextOfPresses", apart := false }
def FnExactTextOfPressesSaid : Prop := fnExactTextOfPressesRow.holds Try.pinned (OpenSpec.ofChange fnExactTextOfPressesSpec)

/-- ITS FALSE NEIGHBOUR: 'it returns false'. Refute it at one input. -/
def fnExactTextOfPressesWrong : ChangeSpec := { name := "fnExactTextOfPresses", fn := fun _ => fun
  | [d1, d2, d3] => { results := [.lit (.bool false)], args := [d1, d2, d3] }
  | _ => none }
def FnExactTextOfPressesWrongFalsely : Prop := fnExactTextOfPressesRow.holds Try.pinned (OpenSpec.ofChange fnExactTextOfPressesWrong)

/-- 'laws.FnExactValidBoard': WHATEVER THE INPUT: true; the input reads as it did. -/
def fnExactValidBoardSpec : ChangeSpec := { name := "fnExactValidBoard", fn := fun _ => fun
  | [d] => { results := [.lit (.bool true)], args := [d] }
  | _ => none }
def fnExactValidBoardRow : OpenClaim := { program := "ytbdafliclhenlaa", sum := "7fa591ae168be55fffaffa0036cd27c6b7513c80d7cffb1849b732e9bd5c0c72", func := "loop.example/g01045/laws.FnExactValidBoard", spec := "fnExactValidBoard", apart := false }
def FnExactValidBoardSaid : Prop := fnExactValidBoardRow.holds Try.pinned (OpenSpec.ofChange fnExactValidBoardSpec)

/-- ITS FALSE NEIGHBOUR: 'it returns false'. Refute it at one input. -/
def fnExactValidBoardWrong : ChangeSpec := { name := "fnExactValidBoard", fn := fun _ => fun
  | [d] => { results := [.lit (.bool false)], args := [d] }
  | _ => none }
def FnExactValidBoardWrongFalsely : Prop := fnExactValidBoardRow.holds Try.pinned (OpenSpec.ofChange fnExactValidBoardWrong)

/-- 'laws.FnExactMustWait': WHATEVER THE INPUT: true; the input reads as it did. -/
def fnExactMustWaitSpec : ChangeSpec := { name := "fnExactMustWait", fn := fun _ => fun
  | [d1, d2, d3] => { results := [.lit (.bool true)], args := [d1, d2, d3] }
  | _ => none }
def fnExactMustWaitRow : OpenClaim := { program := "ytbdafliclhenlaa", sum := "7fa591ae168be55fffaffa0036cd27c6b7513c80d7cffb1849b732e9bd5c0c72", func := "loop.example/g01045/laws.FnExactMustWait", spec := "fnExactMustWait", apart := false }
def FnExactMustWaitSaid : Prop := fnExactMustWaitRow.holds Try.pinned (OpenSpec.ofChange fnExactMustWaitSpec)

/-- ITS FALSE NEIGHBOUR: 'it returns false'. Refute it at one input. -/
def fnExactMustWaitWrong : ChangeSpec := { name := "fnExactMustWait", fn := fun _ => fun
  | [d1, d2, d3] => { results := [.lit (.bool false)], args := [d1, d2, d3] }
  | _ => none }
def FnExactMustWaitWrongFalsely : Prop := fnExactMustWaitRow.holds Try.pinned (OpenSpec.ofChange fnExactMustWaitWrong)

/-- 'laws.FnExactSameLayout': WHATEVER THE INPUT: true; the input reads as it did. -/
def fnExactSameLayoutSpec : ChangeSpec := { name := "fnExactSameLayout", fn := fun _ => fun
  | [d1, d2] => { results := [.lit (.bool true)], args := [d1, d2] }
  | _ => none }
def fnExactSameLayoutRow : OpenClaim := { program := "ytbdafliclhenlaa", sum := "7fa591ae168be55fffaffa0036cd27c6b7513c80d7cffb1849b732e9bd5c0c72", func := "loop.example/g01045/laws.FnExactSameLayout", spec := "fnExactSameLayout", apart := false }
def FnExactSameLayoutSaid : Prop := fnExactSameLayoutRow.holds Try.pinned (OpenSpec.ofChange fnExactSameLayoutSpec)

/-- ITS FALSE NEIGHBOUR: 'it returns false'. Refute it at one input. -/
def fnExactSameLayoutWrong : ChangeSpec := { name := "fnExactSameLayout", fn := fun _ => fun
  | [d1, d2] => { results := [.lit (.bool false)], args := [d1, d2] }
  | _ => none }
def FnExactSameLayoutWrongFalsely : Prop := fnExactSameLayoutRow.holds Try.pinned (OpenSpec.ofChange fnExactSameLayoutWrong)

/-- 'laws.FnExactLayoutFault': WHATEVER THE INPUT: true; the input reads as it did. -/
def fnExactLayoutFaultSpec : ChangeSpec := { name := "fnExactLayoutFault", fn := fun _ => fun
  | [d] => { results := [.lit (.bool true)], args := [d] }
  | _ => none }
def fnExactLayoutFaultRow : OpenClaim := { program := "ytbdafliclhenlaa", sum := "7fa591ae168be55fffaffa0036cd27c6b7513c80d7cffb1849b732e9bd5c0c72", func := "loop.example/g01045/laws.FnExactLayoutFault", spec := "fnExactLayoutFault", apart := false }
def FnExactLayoutFaultSaid : Prop := fnExactLayoutFaultRow.holds Try.pinned (OpenSpec.ofChange fnExactLayoutFaultSpec)

/-- ITS FALSE NEIGHBOUR: 'it returns false'. Refute it at one input. -/
def fnExactLayoutFaultWrong : ChangeSpec := { name := "fnExactLayoutFault", fn := fun _ => fun
  | [d] => { results := [.lit (.bool false)], args := [d] }
  | _ => none }
def FnExactLayoutFaultWrongFalsely : Prop := fnExactLayoutFaultRow.holds Try.pinned (OpenSpec.ofChange fnExactLayoutFaultWrong)

/-- 'laws.FnExactShiftsOf': WHATEVER THE INPUT: true; the input reads as it did. -/
def fnExactShiftsOfSpec : ChangeSpec := { name := "fnExactShiftsOf", fn := fun _ => fun
  | [d] => { results := [.lit (.bool true)], args := [d] }
  | _ => none }
def fnExactShiftsOfRow : OpenClaim := { program := "ytbdafliclhenlaa", sum := "7fa591ae168be55fffaffa0036cd27c6b7513c80d7cffb1849b732e9bd5c0c72", func := "loop.example/g01045/laws.FnExactShiftsOf", spec := "fnExactShiftsOf", apart := false }
def FnExactShiftsOfSaid : Prop := fnExactShiftsOfRow.holds Try.pinned (OpenSpec.ofChange fnExactShiftsOfSpec)

/-- ITS FALSE NEIGHBOUR: 'it returns false'. Refute it at one input. -/
def fnExactShiftsOfWrong : ChangeSpec := { name := "fnExactShiftsOf", fn := fun _ => fun
  | [d] => { results := [.lit (.bool false)], args := [d] }
  | _ => none }
def FnExactShiftsOfWrongFalsely : Prop := fnExactShiftsOfRow.holds Try.pinned (OpenSpec.ofChange fnExactShiftsOfWrong)

/- THE SECOND FORM. 'bulk': how many values and letters a reading holds, each counted each time it is reached (what is shared counts as often as it is met; a slice's spare places count too). A statement '..UptoSaid' is the law's where the arguments, and the package variables that the reading takes, are together of bulk at most 1048576: NARROWER than '..Said'. Prove '..Said' where nothing that the law and all that it calls make is longer than what came in: it says more and counts as full. Else prove '..UptoSaid'. A law counts once. -/
mutual
def uptoBulk {H : Type} : DataW H → Nat
  | .lit (.string bytes) => bytes.length + 1
  | .lit _ => 1
  | .nil => 1
  | .ptr d => uptoBulk d + 1
  | .slice elems spare => uptoBulkAll elems + uptoBulkAll spare + 1
  | .agg parts => uptoBulkAll parts + 1
  | .iface _ d => uptoBulk d + 1
  | .map entries => uptoBulkEntries entries + 1
  | .held _ => 1
def uptoBulkAll {H : Type} : List (DataW H) → Nat
  | [] => 0
  | d :: r => uptoBulk d + uptoBulkAll r
def uptoBulkEntries {H : Type} : List (Lit × DataW H) → Nat
  | [] => 0
  | x :: r => uptoBulkEntry x + uptoBulkEntries r
def uptoBulkEntry {H : Type} : Lit × DataW H → Nat
  | (.string bytes, d) => bytes.length + uptoBulk d + 1
  | (_, d) => uptoBulk d + 1
 end
def uptoSmall : (H : Type) → List (DataW H) → Bool := fun _ ds => decide (uptoBulkAll ds ≤ 1048576)
def OpenSpec.upto (s : _root_.Go.ChangeSpec) : _root_.Go.OpenSpec := { _root_.Go.OpenSpec.ofChange s with cond := some uptoSmall }

/-- 'laws.FnExactConstants', WHERE WHAT IT READS IS OF BULK AT MOST 1048576: true; the input reads as it did. -/
def fnExactConstantsUptoRow : OpenClaim := { program := "ytbdafliclhenlaa", sum := "7fa591ae168be55fffaffa0036cd27c6b7513c80d7cffb1849b732e9bd5c0c72", func := "loop.example/g01045/laws.FnExactConstants", spec := "fnExactConstants", apart := false, narrowed := true }
def FnExactConstantsUptoSaid : Prop := fnExactConstantsUptoRow.holds Try.pinned (OpenSpec.upto fnExactConstantsSpec)

/-- 'laws.FnExactCodeName', WHERE WHAT IT READS IS OF BULK AT MOST 1048576: true; the input reads as it did. -/
def fnExactCodeNameUptoRow : OpenClaim := { program := "ytbdafliclhenlaa", sum := "7fa591ae168be55fffaffa0036cd27c6b7513c80d7cffb1849b732e9bd5c0c72", func := "loop.example/g01045/laws.FnExactCodeName", spec := "fnExactCodeName", apart := false, narrowed := true }
def FnExactCodeNameUptoSaid : Prop := fnExactCodeNameUptoRow.holds Try.pinned (OpenSpec.upto fnExactCodeNameSpec)

/-- 'laws.FnExactValidCarriage', WHERE WHAT IT READS IS OF BULK AT MOST 1048576: true; the input reads as it did. -/
def fnExactValidCarriageUptoRow : OpenClaim := { program := "ytbdafliclhenlaa", sum := "7fa591ae168be55fffaffa0036cd27c6b7513c80d7cffb1849b732e9bd5c0c72", func := "loop.example/g01045/laws.FnExactValidCarriage", spec := "fnExactValidCarriage", apart := false, narrowed := true }
def FnExactValidCarriageUptoSaid : Prop := fnExactValidCarriageUptoRow.holds Try.pinned (OpenSpec.upto fnExactValidCarriageSpec)

/-- 'laws.FnExactValidBasket', WHERE WHAT IT READS IS OF BULK AT MOST 1048576: true; the input reads as it did. -/
def fnExactValidBasketUptoRow : OpenClaim := { program := "ytbdafliclhenlaa", sum := "7fa591ae168be55fffaffa0036cd27c6b7513c80d7cffb1849b732e9bd5c0c72", func := "loop.example/g01045/laws.FnExactValidBasket", spec := "fnExactValidBasket", apart := false, narrowed := true }
def FnExactValidBasketUptoSaid : Prop := fnExactValidBasketUptoRow.holds Try.pinned (OpenSpec.upto fnExactValidBasketSpec)

/-- 'laws.FnExactIsName', WHERE WHAT IT READS IS OF BULK AT MOST 1048576: true; the input reads as it did. -/
def fnExactIsNameUptoRow : OpenClaim := { program := "ytbdafliclhenlaa", sum := "7fa591ae168be55fffaffa0036cd27c6b7513c80d7cffb1849b732e9bd5c0c72", func := "loop.example/g01045/laws.FnExactIsName", spec := "fnExactIsName", apart := false, narrowed := true }
def FnExactIsNameUptoSaid : Prop := fnExactIsNameUptoRow.holds Try.pinned (OpenSpec.upto fnExactIsNameSpec)

/-- 'laws.FnExactSamePresses', WHERE WHAT IT READS IS OF BULK AT MOST 1048576: true; the input reads as it did. -/
def fnExactSamePressesUptoRow : OpenClaim := { program := "ytbdafliclhenlaa", sum := "7fa591ae168be55fffaffa0036cd27c6b7513c80d7cffb1849b732e9bd5c0c72", func := "loop.example/g01045/laws.FnExactSamePresses", spec := "fnExactSamePresses", apart := false, narrowed := true }
def FnExactSamePressesUptoSaid : Prop := fnExactSamePressesUptoRow.holds Try.pinned (OpenSpec.upto fnExactSamePressesSpec)

/-- 'laws.FnExactTextOfPresses', WHERE WHAT IT READS IS OF BULK AT MOST 1048576: true; the input reads as it did. -/
def fnExactTextOfPressesUptoRow : OpenClaim := { program := "ytbdafliclhenlaa", sum := "7fa591ae168be55fffaffa0036cd27c6b7513c80d7cffb1849b732e9bd5c0c72", func := "loop.example/g01045/laws.FnExactTextOfPresses", spec := "fnExactTextOfPresses", apart := false, narrowed := true }
def FnExactTextOfPressesUptoSaid : Prop := fnExactTextOfPressesUptoRow.holds Try.pinned (OpenSpec.upto fnExactTextOfPressesSpec)

/-- 'laws.FnExactValidBoard', WHERE WHAT IT READS IS OF BULK AT MOST 1048576: true; the input reads as it did. -/
def fnExactValidBoardUptoRow : OpenClaim := { program := "ytbdafliclhenlaa", sum := "7fa591ae168be55fffaffa0036cd27c6b7513c80d7cffb1849b732e9bd5c0c72", func := "loop.example/g01045/laws.FnExactValidBoard", spec := "fnExactValidBoard", apart := false, narrowed := true }
def FnExactValidBoardUptoSaid : Prop := fnExactValidBoardUptoRow.holds Try.pinned (OpenSpec.upto fnExactValidBoardSpec)

/-- 'laws.FnExactMustWait', WHERE WHAT IT READS IS OF BULK AT MOST 1048576: true; the input reads as it did. -/
def fnExactMustWaitUptoRow : OpenClaim := { program := "ytbdafliclhenlaa", sum := "7fa591ae168be55fffaffa0036cd27c6b7513c80d7cffb1849b732e9bd5c0c72", func := "loop.example/g01045/laws.FnExactMustWait", spec := "fnExactMustWait", apart := false, narrowed := true }
def FnExactMustWaitUptoSaid : Prop := fnExactMustWaitUptoRow.holds Try.pinned (OpenSpec.upto fnExactMustWaitSpec)

/-- 'laws.FnExactSameLayout', WHERE WHAT IT READS IS OF BULK AT MOST 1048576: true; the input reads as it did. -/
def fnExactSameLayoutUptoRow : OpenClaim := { program := "ytbdafliclhenlaa", sum := "7fa591ae168be55fffaffa0036cd27c6b7513c80d7cffb1849b732e9bd5c0c72", func := "loop.example/g01045/laws.FnExactSameLayout", spec := "fnExactSameLayout", apart := false, narrowed := true }
def FnExactSameLayoutUptoSaid : Prop := fnExactSameLayoutUptoRow.holds Try.pinned (OpenSpec.upto fnExactSameLayoutSpec)

/-- 'laws.FnExactLayoutFault', WHERE WHAT IT READS IS OF BULK AT MOST 1048576: true; the input reads as it did. -/
def fnExactLayoutFaultUptoRow : OpenClaim := { program := "ytbdafliclhenlaa", sum := "7fa591ae168be55fffaffa0036cd27c6b7513c80d7cffb1849b732e9bd5c0c72", func := "loop.example/g01045/laws.FnExactLayoutFault", spec := "fnExactLayoutFault", apart := false, narrowed := true }
def FnExactLayoutFaultUptoSaid : Prop := fnExactLayoutFaultUptoRow.holds Try.pinned (OpenSpec.upto fnExactLayoutFaultSpec)

/-- 'laws.FnExactShiftsOf', WHERE WHAT IT READS IS OF BULK AT MOST 1048576: true; the input reads as it did. -/
def fnExactShiftsOfUptoRow : OpenClaim := { program := "ytbdafliclhenlaa", sum := "7fa591ae168be55fffaffa0036cd27c6b7513c80d7cffb1849b732e9bd5c0c72", func := "loop.example/g01045/laws.FnExactShiftsOf", spec := "fnExactShiftsOf", apart := false, narrowed := true }
def FnExactShiftsOfUptoSaid : Prop := fnExactShiftsOfUptoRow.holds Try.pinned (OpenSpec.upto fnExactShiftsOfSpec)

end Rows
end Go.Proofs.Ytbdafliclhenlaa
