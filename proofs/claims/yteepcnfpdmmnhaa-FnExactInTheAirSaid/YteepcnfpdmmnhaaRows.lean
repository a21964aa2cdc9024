/-
  No cell of these rows narrows 'for every input' (looked for: loops, veiled, ifaces, maps, wideKeys, modest, calm, conditions, laid).
  DERIVED. THE GIVEN ROWS OF THIS SEAT. 10 by the template 'for every input the law returns true; each argument reads behind the call as it read before'; 0 by the template 'total and deterministic' (their statements: YteepcnfpdmmnhaaTotals.lean).
  GIVEN WITH THE SEED: the statements are not yours to turn. If you find one false, say at which input.
  Laid BY PROGRAM, IN A SANDBOX (cutbox-rows.mjs): the forced cells as the released guide's own fill.sh prints them over the translation 874c821f06933efb… (all of the seat's roots in one cut). By AI agents, Wed Nov 11 2026. No macro, syntax, notation, axiom, sorry.
-/
import Derived.Test.YteepcnfpdmmnhaaChecked
import GoSem.Claim
import GoSem.ClaimJoined
import GoSem.ClaimMapViews
import Derived.JoinedTies
import Derived.KernelRfl
namespace Go.Proofs.Yteepcnfpdmmnhaa
/- THE CELL 'sum', in the pinned program and in every row, IS THE sha256 OF THE DUMP (.gsa) THAT YteepcnfpdmmnhaaProg.lean LOADS. Nothing in Lean hashes anything: it is a label: what it is worth is what the hold of that sum in a sandbox is worth. -/
noncomputable def Try.pinned : Pinned := { name := "yteepcnfpdmmnhaa", sum := "874c821f06933efbf04fa3b6bd072640894c7bddbfa48fb9afda80491ece355a", checked := Try.checked }
namespace Rows
def none {H : Type} : Left H := { results := [], args := [] }

/-- 'laws.FnExactInTheAir': WHATEVER THE INPUT: true; the input reads as it did. -/
def fnExactInTheAirSpec : ChangeSpec := { name := "fnExactInTheAir", fn := fun _ => fun
  | [d1, d2, d3] => { results := [.lit (.bool true)], args := [d1, d2, d3] }
  | _ => none }
def fnExactInTheAirRow : OpenClaim := { program := "yteepcnfpdmmnhaa", sum := "874c821f06933efbf04fa3b6bd072640894c7bddbfa48fb9afda80491ece355a", func := "loop.example/g01045/laws.FnExactInTheAir", spec := "fnExactInTheAir", inPlace := ["internal/reflectlite.ValueOf", "internal/reflectlite.Swapper", "(internal/reflectlite.Value).Len"], unfollowed := true, recurses := true, apart := false }
def FnExactInTheAirSaid : Prop := fnExactInTheAirRow.holds Try.pinned (OpenSpec.ofChange fnExactInTheAirSpec)

/-- ITS FALSE NEIGHBOUR: 'it returns false'. Refute it at one input. -/
def fnExactInTheAirWrong : ChangeSpec := { name := "fnExactInTheAir", fn := fun _ => fun
  | [d1, d2, d3] => { results := [.lit (.bool false)], args := [d1, d2, d3] }
  | _ => none }
def FnExactInTheAirWrongFalsely : Prop := fnExactInTheAirRow.holds Try.pinned (OpenSpec.ofChange fnExactInTheAirWrong)

/-- 'laws.FnExactPairsOf': WHATEVER THE INPUT: true; the input reads as it did. -/
def fnExactPairsOfSpec : ChangeSpec := { name := "fnExactPairsOf", fn := fun _ => fun
  | [d1, d2] => { results := [.lit (.bool true)], args := [d1, d2] }
  | _ => none }
def fnExactPairsOfRow : OpenClaim := { program := "yteepcnfpdmmnhaa", sum := "874c821f06933efbf04fa3b6bd072640894c7bddbfa48fb9afda80491ece355a", func := "loop.example/g01045/laws.FnExactPairsOf", spec := "fnExactPairsOf", apart := false }
def FnExactPairsOfSaid : Prop := fnExactPairsOfRow.holds Try.pinned (OpenSpec.ofChange fnExactPairsOfSpec)

/-- ITS FALSE NEIGHBOUR: 'it returns false'. Refute it at one input. -/
def fnExactPairsOfWrong : ChangeSpec := { name := "fnExactPairsOf", fn := fun _ => fun
  | [d1, d2] => { results := [.lit (.bool false)], args := [d1, d2] }
  | _ => none }
def FnExactPairsOfWrongFalsely : Prop := fnExactPairsOfRow.holds Try.pinned (OpenSpec.ofChange fnExactPairsOfWrong)

/-- 'laws.FnExactReadLayout': WHATEVER THE INPUT: true; the input reads as it did. -/
def fnExactReadLayoutSpec : ChangeSpec := { name := "fnExactReadLayout", fn := fun _ => fun
  | [d] => { results := [.lit (.bool true)], args := [d] }
  | _ => none }
def fnExactReadLayoutRow : OpenClaim := { program := "yteepcnfpdmmnhaa", sum := "874c821f06933efbf04fa3b6bd072640894c7bddbfa48fb9afda80491ece355a", func := "loop.example/g01045/laws.FnExactReadLayout", spec := "fnExactReadLayout", apart := false }
def FnExactReadLayoutSaid : Prop := fnExactReadLayoutRow.holds Try.pinned (OpenSpec.ofChange fnExactReadLayoutSpec)

/-- ITS FALSE NEIGHBOUR: 'it returns false'. Refute it at one input. -/
def fnExactReadLayoutWrong : ChangeSpec := { name := "fnExactReadLayout", fn := fun _ => fun
  | [d] => { results := [.lit (.bool false)], args := [d] }
  | _ => none }
def FnExactReadLayoutWrongFalsely : Prop := fnExactReadLayoutRow.holds Try.pinned (OpenSpec.ofChange fnExactReadLayoutWrong)

/-- 'laws.FnExactMirrorLayout': WHATEVER THE INPUT: true; the input reads as it did. -/
def fnExactMirrorLayoutSpec : ChangeSpec := { name := "fnExactMirrorLayout", fn := fun _ => fun
  | [d] => { results := [.lit (.bool true)], args := [d] }
  | _ => none }
def fnExactMirrorLayoutRow : OpenClaim := { program := "yteepcnfpdmmnhaa", sum := "874c821f06933efbf04fa3b6bd072640894c7bddbfa48fb9afda80491ece355a", func := "loop.example/g01045/laws.FnExactMirrorLayout", spec := "fnExactMirrorLayout", apart := false }
def FnExactMirrorLayoutSaid : Prop := fnExactMirrorLayoutRow.holds Try.pinned (OpenSpec.ofChange fnExactMirrorLayoutSpec)

/-- ITS FALSE NEIGHBOUR: 'it returns false'. Refute it at one input. -/
def fnExactMirrorLayoutWrong : ChangeSpec := { name := "fnExactMirrorLayout", fn := fun _ => fun
  | [d] => { results := [.lit (.bool false)], args := [d] }
  | _ => none }
def FnExactMirrorLayoutWrongFalsely : Prop := fnExactMirrorLayoutRow.holds Try.pinned (OpenSpec.ofChange fnExactMirrorLayoutWrong)

/-- 'laws.FnExactOvertypedPlaces': WHATEVER THE INPUT: true; the input reads as it did. -/
def fnExactOvertypedPlacesSpec : ChangeSpec := { name := "fnExactOvertypedPlaces", fn := fun _ => fun
  | [d] => { results := [.lit (.bool true)], args := [d] }
  | _ => none }
def fnExactOvertypedPlacesRow : OpenClaim := { program := "yteepcnfpdmmnhaa", sum := "874c821f06933efbf04fa3b6bd072640894c7bddbfa48fb9afda80491ece355a", func := "loop.example/g01045/laws.FnExactOvertypedPlaces", spec := "fnExactOvertypedPlaces", apart := false }
def FnExactOvertypedPlacesSaid : Prop := fnExactOvertypedPlacesRow.holds Try.pinned (OpenSpec.ofChange fnExactOvertypedPlacesSpec)

/-- ITS FALSE NEIGHBOUR: 'it returns false'. Refute it at one input. -/
def fnExactOvertypedPlacesWrong : ChangeSpec := { name := "fnExactOvertypedPlaces", fn := fun _ => fun
  | [d] => { results := [.lit (.bool false)], args := [d] }
  | _ => none }
def FnExactOvertypedPlacesWrongFalsely : Prop := fnExactOvertypedPlacesRow.holds Try.pinned (OpenSpec.ofChange fnExactOvertypedPlacesWrong)

/-- 'laws.FnExactBellsOf': WHATEVER THE INPUT: true; the input reads as it did. -/
def fnExactBellsOfSpec : ChangeSpec := { name := "fnExactBellsOf", fn := fun _ => fun
  | [d1, d2] => { results := [.lit (.bool true)], args := [d1, d2] }
  | _ => none }
def fnExactBellsOfRow : OpenClaim := { program := "yteepcnfpdmmnhaa", sum := "874c821f06933efbf04fa3b6bd072640894c7bddbfa48fb9afda80491ece355a", func := "loop.example/g01045/laws.FnExactBellsOf", spec := "fnExactBellsOf", apart := false }
def FnExactBellsOfSaid : Prop := fnExactBellsOfRow.holds Try.pinned (OpenSpec.ofChange fnExactBellsOfSpec)

/-- ITS FALSE NEIGHBOUR: 'it returns false'. Refute it at one input. -/
def fnExactBellsOfWrong : ChangeSpec := { name := "fnExactBellsOf", fn := fun _ => fun
  | [d1, d2] => { results := [.lit (.bool false)], args := [d1, d2] }
  | _ => none }
def FnExactBellsOfWrongFalsely : Prop := fnExactBellsOfRow.holds Try.pinned (OpenSpec.ofChange fnExactBellsOfWrong)

/-- 'laws.FnExactLockedAt': WHATEVER THE INPUT: true; the input reads as it did. -/
def fnExactLockedAtSpec : ChangeSpec := { name := "fnExactLockedAt", fn := fun _ => fun
  | [d1, d2] => { results := [.lit (.bool true)], args := [d1, d2] }
  | _ => none }
def fnExactLockedAtRow : OpenClaim := { program := "yteepcnfpdmmnhaa", sum := "874c821f06933efbf04fa3b6bd072640894c7bddbfa48fb9afda80491ece355a", func := "loop.example/g01045/laws.FnExactLockedAt", spec := "fnExactLockedAt", apart := false }
def FnExactLockedAtSaid : Prop := fnExactLockedAtRow.holds Try.pinned (OpenSpec.ofChange fnExactLockedAtSpec)

/-- ITS FALSE NEIGHBOUR: 'it returns false'. Refute it at one input. -/
def fnExactLockedAtWrong : ChangeSpec := { name := "fnExactLockedAt", fn := fun _ => fun
  | [d1, d2] => { results := [.lit (.bool false)], args := [d1, d2] }
  | _ => none }
def FnExactLockedAtWrongFalsely : Prop := fnExactLockedAtRow.holds Try.pinned (OpenSpec.ofChange fnExactLockedAtWrong)

/-- 'laws.FnExactBestArrange': WHATEVER THE INPUT: true; the input reads as it did. -/
def fnExactBestArrangeSpec : ChangeSpec := { name := "fnExactBestArrange", fn := fun _ => fun
  | [d1, d2] => { results := [.lit (.bool true)], args := [d1, d2] }
  | _ => none }
def fnExactBestArrangeRow : OpenClaim := { program := "yteepcnfpdmmnhaa", sum := "874c821f06933efbf04fa3b6bd072640894c7bddbfa48fb9afda80491ece355a", func := "loop.example/g01045/laws.FnExactBestArrange", spec := "fnExactBestArrange", recurses := true, apart := false }
def FnExactBestArrangeSaid : Prop := fnExactBestArrangeRow.holds Try.pinned (OpenSpec.ofChange fnExactBestArrangeSpec)

/-- ITS FALSE NEIGHBOUR: 'it returns false'. Refute it at one input. -/
def fnExactBestArrangeWrong : ChangeSpec := { name := "fnExactBestArrange", fn := fun _ => fun
  | [d1, d2] => { results := [.lit (.bool false)], args := [d1, d2] }
  | _ => none }
def FnExactBestArrangeWrongFalsely : Prop := fnExactBestArrangeRow.holds Try.pinned (OpenSpec.ofChange fnExactBestArrangeWrong)

/-- 'laws.FnExactLettersOf': WHATEVER THE INPUT: true; the input reads as it did. -/
def fnExactLettersOfSpec : ChangeSpec := { name := "fnExactLettersOf", fn := fun _ => fun
  | [d1, d2] => { results := [.lit (.bool true)], args := [d1, d2] }
  | _ => none }
def fnExactLettersOfRow : OpenClaim := { program := "yteepcnfpdmmnhaa", sum := "874c821f06933efbf04fa3b6bd072640894c7bddbfa48fb9afda80491ece355a", func := "loop.example/g01045/laws.FnExactLettersOf", spec := "fnExactLettersOf", apart := false }
def FnExactLettersOfSaid : Prop := fnExactLettersOfRow.holds Try.pinned (OpenSpec.ofChange fnExactLettersOfSpec)

/-- ITS FALSE NEIGHBOUR: 'it returns false'. Refute it at one input. -/
def fnExactLettersOfWrong : ChangeSpec := { name := "fnExactLettersOf", fn := fun _ => fun
  | [d1, d2] => { results := [.lit (.bool false)], args := [d1, d2] }
  | _ => none }
def FnExactLettersOfWrongFalsely : Prop := fnExactLettersOfRow.holds Try.pinned (OpenSpec.ofChange fnExactLettersOfWrong)

/-- 'laws.FnExactTypeActs': WHATEVER THE INPUT: true; the input reads as it did. -/
def fnExactTypeActsSpec : ChangeSpec := { name := "fnExactTypeActs", fn := fun _ => fun
  | [d1, d2] => { results := [.lit (.bool true)], args := [d1, d2] }
  | _ => none }
def fnExactTypeActsRow : OpenClaim := { program := "yteepcnfpdmmnhaa", sum := "874c821f06933efbf04fa3b6bd072640894c7bddbfa48fb9afda80491ece355a", func := "loop.example/g01045/laws.FnExactTypeActs", spec := "fnExactTypeActs", apart := false }
def FnExactTypeActsSaid : Prop := fnExactTypeActsRow.holds Try.pinned (OpenSpec.ofChange fnExactTypeActsSpec)

/-- ITS FALSE NEIGHBOUR: 'it returns false'. Refute it at one input. -/
def fnExactTypeActsWrong : ChangeSpec := { name := "fnExactTypeActs", fn := fun _ => fun
  | [d1, d2] => { results := [.lit (.bool false)], args := [d1, d2] }
  | _ => none }
def FnExactTypeActsWrongFalsely : Prop := fnExactTypeActsRow.holds Try.pinned (OpenSpec.ofChange fnExactTypeActsWrong)

/- THE SECOND FORM. 'bulk': how many values and letters a reading holds, each counted each time it is reached (what is shared counts as often as it is met; a slice's spare places count too). A statement '..UptoSaid' is the law's where the arguments, and the package variables that the reading takes, are together of bulk at most 1048576: NARROWER than '..Said'. Prove '..Said' where nothing that the law and all that it calls make is longer than what came in: it says more and counts as full. Else prove '..UptoSaid'. A law counts once. -/
mutual
def uptoBulk {H : Type} : DataW H → Nat
  | .lit (.string bytes) => bytes.length + 1
  | .lit _ => 1
  | .nil => 1
  | .ptr d => uptoBulk d + 1
  | .slice elems spare => uptoBulkAll elems + uptoBulkAll spare + 1
  | .agg parts => uptoBulkAll parts + 1
  | .iface _ d => uptoBulk d + 1
  | .map entries => uptoBulkEntries entries + 1
  | .held _ => 1
def uptoBulkAll {H : Type} : List (DataW H) → Nat
  | [] => 0
  | d :: r => uptoBulk d + uptoBulkAll r
def uptoBulkEntries {H : Type} : List (Lit × DataW H) → Nat
  | [] => 0
  | x :: r => uptoBulkEntry x + uptoBulkEntries r
def uptoBulkEntry {H : Type} : Lit × DataW H → Nat
  | (.string bytes, d) => bytes.length + uptoBulk d + 1
  | (_, d) => uptoBulk d + 1
 end
def uptoSmall : (H : Type) → List (DataW H) → Bool := fun _ ds => decide (uptoBulkAll ds ≤ 1048576)
def OpenSpec.upto (s : _root_.Go.ChangeSpec) : _root_.Go.OpenSpec := { _root_.Go.OpenSpec.ofChange s with cond := some uptoSmall }

/-- 'laws.FnExactInTheAir', WHERE WHAT IT READS IS OF BULK AT MOST 1048576: true; the input reads as it did. -/
def fnExactInTheAirUptoRow : OpenClaim := { program := "yteepcnfpdmmnhaa", sum := "874c821f06933efbf04fa3b6bd072640894c7bddbfa48fb9afda80491ece355a", func := "loop.example/g01045/laws.FnExactInTheAir", spec := "fnExactInTheAir", inPlace := ["internal/reflectlite.ValueOf", "internal/reflectlite.Swapper", "(internal/reflectlite.Value).Len"], unfollowed := true, recurses := true, apart := false, narrowed := true }
def FnExactInTheAirUptoSaid : Prop := fnExactInTheAirUptoRow.holds Try.pinned (OpenSpec.upto fnExactInTheAirSpec)

/-- 'laws.FnExactPairsOf', WHERE WHAT IT READS IS OF BULK AT MOST 1048576: true; the input reads as it did. -/
def fnExactPairsOfUptoRow : OpenClaim := { program := "yteepcnfpdmmnhaa", sum := "874c821f06933efbf04fa3b6bd072640894c7bddbfa48fb9afda80491ece355a", func := "loop.example/g01045/laws.FnExactPairsOf", spec := "fnExactPairsOf", apart := false, narrowed := true }
def FnExactPairsOfUptoSaid : Prop := fnExactPairsOfUptoRow.holds Try.pinned (OpenSpec.upto fnExactPairsOfSpec)

/-- 'laws.FnExactReadLayout', WHERE WHAT IT READS IS OF BULK AT MOST 1048576: true; the input reads as it did. -/
def fnExactReadLayoutUptoRow : OpenClaim := { program := "yteepcnfpdmmnhaa", sum := "874c821f06933efbf04fa3b6bd072640894c7bddbfa48fb9afda80491ece355a", func := "loop.example/g01045/laws.FnExactReadLayout", spec := "fnExactReadLayout", apart := false, narrowed := true }
def FnExactReadLayoutUptoSaid : Prop := fnExactReadLayoutUptoRow.holds Try.pinned (OpenSpec.upto fnExactReadLayoutSpec)

/-- 'laws.FnExactMirrorLayout', WHERE WHAT IT READS IS OF BULK AT MOST 1048576: true; the input reads as it did. -/
def fnExactMirrorLayoutUptoRow : OpenClaim := { program := "yteepcnfpdmmnhaa", sum := "874c821f06933efbf04fa3b6bd072640894c7bddbfa48fb9afda80491ece355a", func := "loop.example/g01045/laws.FnExactMirrorLayout", spec := "fnExactMirrorLayout", apart := false, narrowed := true }
def FnExactMirrorLayoutUptoSaid : Prop := fnExactMirrorLayoutUptoRow.holds Try.pinned (OpenSpec.upto fnExactMirrorLayoutSpec)

/-- 'laws.FnExactOvertypedPlaces', WHERE WHAT IT READS IS OF BULK AT MOST 1048576: true; the input reads as it did. -/
def fnExactOvertypedPlacesUptoRow : OpenClaim := { program := "yteepcnfpdmmnhaa", sum := "874c821f06933efbf04fa3b6bd072640894c7bddbfa48fb9afda80491ece355a", func := "loop.example/g01045/laws.FnExactOvertypedPlaces", spec := "fnExactOvertypedPlaces", apart := false, narrowed := true }
def FnExactOvertypedPlacesUptoSaid : Prop := fnExactOvertypedPlacesUptoRow.holds Try.pinned (OpenSpec.upto fnExactOvertypedPlacesSpec)

/-- 'laws.FnExactBellsOf', WHERE WHAT IT READS IS OF BULK AT MOST 1048576: true; the input reads as it did. -/
def fnExactBellsOfUptoRow : OpenClaim := { program := "yteepcnfpdmmnhaa", sum := "874c821f06933efbf04fa3b6bd072640894c7bddbfa48fb9afda80491ece355a", func := "loop.example/g01045/laws.FnExactBellsOf", spec := "fnExactBellsOf", apart := false, narrowed := true }
def FnExactBellsOfUptoSaid : Prop := fnExactBellsOfUptoRow.holds Try.pinned (OpenSpec.upto fnExactBellsOfSpec)

/-- 'laws.FnExactLockedAt', WHERE WHAT IT READS IS OF BULK AT MOST 1048576: true; the input reads as it did. -/
def fnExactLockedAtUptoRow : OpenClaim := { program := "yteepcnfpdmmnhaa", sum := "874c821f06933efbf04fa3b6bd072640894c7bddbfa48fb9afda80491ece355a", func := "loop.example/g01045/laws.FnExactLockedAt", spec := "fnExactLockedAt", apart := false, narrowed := true }
def FnExactLockedAtUptoSaid : Prop := fnExactLockedAtUptoRow.holds Try.pinned (OpenSpec.upto fnExactLockedAtSpec)

/-- 'laws.FnExactBestArrange', WHERE WHAT IT READS IS OF BULK AT MOST 1048576: true; the input reads as it did. -/
def fnExactBestArrangeUptoRow : OpenClaim := { program := "yteepcnfpdmmnhaa", sum := "874c821f06933efbf04fa3b6bd072640894c7bddbfa48fb9afda80491ece355a", func := "loop.example/g01045/laws.FnExactBestArrange", spec := "fnExactBestArrange", recurses := true, apart := false, narrowed := true }
def FnExactBestArrangeUptoSaid : Prop := fnExactBestArrangeUptoRow.holds Try.pinned (OpenSpec.upto fnExactBestArrangeSpec)

/-- 'laws.FnExactLettersOf', WHERE WHAT IT READS IS OF BULK AT MOST 1048576: true; the input reads as it did. -/
def fnExactLettersOfUptoRow : OpenClaim := { program := "yteepcnfpdmmnhaa", sum := "874c821f06933efbf04fa3b6bd072640894c7bddbfa48fb9afda80491ece355a", func := "loop.example/g01045/laws.FnExactLettersOf", spec := "fnExactLettersOf", apart := false, narrowed := true }
def FnExactLettersOfUptoSaid : Prop := fnExactLettersOfUptoRow.holds Try.pinned (OpenSpec.upto fnExactLettersOfSpec)

/-- 'laws.FnExactTypeActs', WHERE WHAT IT READS IS OF BULK AT MOST 1048576: true; the input reads as it did. -/
def fnExactTypeActsUptoRow : OpenClaim := { program := "yteepcnfpdmmnhaa", sum := "874c821f06933efbf04fa3b6bd072640894c7bddbfa48fb9afda80491ece355a", func := "loop.example/g01045/laws.FnExactTypeActs", spec := "fnExactTypeActs", apart := false, narrowed := true }
def FnExactTypeActsUptoSaid : Prop := fnExactTypeActsUptoRow.holds Try.pinned (OpenSpec.upto fnExactTypeActsSpec)

end Rows
end Go.Proofs.Yteepcnfpdmmnhaa
