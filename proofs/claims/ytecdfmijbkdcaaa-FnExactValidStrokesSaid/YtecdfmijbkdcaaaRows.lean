/-
  No cell of these rows narrows 'for every input' (looked for: loops, veiled, ifaces, maps, wideKeys, modest, calm, conditions, laid).
  DERIVED. THE GIVEN ROWS OF THIS SEAT. 12 by the template 'for every input the law returns true; each argument reads behind the call as it read before'; 0 by the template 'total and deterministic' (their statements: YtecdfmijbkdcaaaTotals.lean).
  GIVEN WITH THE SEED: the statements are not yours to turn. If you find one false, say at which input.
  Laid BY PROGRAM, IN A SANDBOX (cutbox-rows.mjs): the forced cells as the released guide's own fill.sh prints them over the translation d1927476adcef6d6… (all of the seat's roots in one cut). By AI agents, Wed Nov 11 2026. No macro, syntax, notation, axiom, sorry.
-/
import Derived.Test.YtecdfmijbkdcaaaChecked
import GoSem.Claim
import GoSem.ClaimJoined
import GoSem.ClaimMapViews
import Derived.JoinedTies
import Derived.KernelRfl
namespace Go.Proofs.Ytecdfmijbkdcaaa
/- THE CELL 'sum', in the pinned program and in every row, IS THE sha256 OF THE DUMP (.gsa) THAT YtecdfmijbkdcaaaProg.lean LOADS. Nothing in Lean hashes anything: it is a label: what it is worth is what the hold of that sum in a sandbox is worth. -/
noncomputable def Try.pinned : Pinned := { name := "ytecdfmijbkdcaaa", sum := "d1927476adcef6d6bd45802a5c472a288b279b0c9a31c5c4a031fbd900423864", checked := Try.checked }
namespace Rows
def none {H : Type} : Left H := { results := [], args := [] }

/-- 'laws.FnExactSameStruck': WHATEVER THE INPUT: true; the input reads as it did. -/
def fnExactSameStruckSpec : ChangeSpec := { name := "fnExactSameStruck", fn := fun _ => fun
  | [d1, d2] => { results := [.lit (.bool true)], args := [d1, d2] }
  | _ => none }
def fnExactSameStruckRow : OpenClaim := { program := "ytecdfmijbkdcaaa", sum := "d1927476adcef6d6bd45802a5c472a288b279b0c9a31c5c4a031fbd900423864", func := "loop.example/g01045/laws.FnExactSameStruck", spec := "fnExactSameStruck", apart := false }
def FnExactSameStruckSaid : Prop := fnExactSameStruckRow.holds Try.pinned (OpenSpec.ofChange fnExactSameStruckSpec)

/-- ITS FALSE NEIGHBOUR: 'it returns false'. Refute it at one input. -/
def fnExactSameStruckWrong : ChangeSpec := { name := "fnExactSameStruck", fn := fun _ => fun
  | [d1, d2] => { results := [.lit (.bool false)], args := [d1, d2] }
  | _ => none }
def FnExactSameStruckWrongFalsely : Prop := fnExactSameStruckRow.holds Try.pinned (OpenSpec.ofChange fnExactSameStruckWrong)

/-- 'laws.FnExactSplitWords': WHATEVER THE INPUT: true; the input reads as it did. -/
def fnExactSplitWordsSpec : ChangeSpec := { name := "fnExactSplitWords", fn := fun _ => fun
  | [d] => { results := [.lit (.bool true)], args := [d] }
  | _ => none }
def fnExactSplitWordsRow : OpenClaim := { program := "ytecdfmijbkdcaaa", sum := "d1927476adcef6d6bd45802a5c472a288b279b0c9a31c5c4a031fbd900423864", func := "loop.example/g01045/laws.FnExactSplitWords", spec := "fnExactSplitWords", apart := false }
def FnExactSplitWordsSaid : Prop := fnExactSplitWordsRow.holds Try.pinned (OpenSpec.ofChange fnExactSplitWordsSpec)

/-- ITS FALSE NEIGHBOUR: 'it returns false'. Refute it at one input. -/
def fnExactSplitWordsWrong : ChangeSpec := { name := "fnExactSplitWords", fn := fun _ => fun
  | [d] => { results := [.lit (.bool false)], args := [d] }
  | _ => none }
def FnExactSplitWordsWrongFalsely : Prop := fnExactSplitWordsRow.holds Try.pinned (OpenSpec.ofChange fnExactSplitWordsWrong)

/-- 'laws.FnExactPressesFor': WHATEVER THE INPUT: true; the input reads as it did. -/
def fnExactPressesForSpec : ChangeSpec := { name := "fnExactPressesFor", fn := fun _ => fun
  | [d1, d2, d3] => { results := [.lit (.bool true)], args := [d1, d2, d3] }
  | _ => none }
def fnExactPressesForRow : OpenClaim := { program := "ytecdfmijbkdcaaa", sum := "d1927476adcef6d6bd45802a5c472a288b279b0c9a31c5c4a031fbd900423864", func := "loop.example/g01045/laws.FnExactPressesFor", spec := "fnExactPressesFor", apart := false }
def FnExactPressesForSaid : Prop := fnExactPressesForRow.holds Try.pinned (OpenSpec.ofChange fnExactPressesForSpec)

/-- ITS FALSE NEIGHBOUR: 'it returns false'. Refute it at one input. -/
def fnExactPressesForWrong : ChangeSpec := { name := "fnExactPressesFor", fn := fun _ => fun
  | [d1, d2, d3] => { results := [.lit (.bool false)], args := [d1, d2, d3] }
  | _ => none }
def FnExactPressesForWrongFalsely : Prop := fnExactPressesForRow.holds Try.pinned (OpenSpec.ofChange fnExactPressesForWrong)

/-- 'laws.FnExactValidStrokes': WHATEVER THE INPUT: true; the input reads as it did. -/
def fnExactValidStrokesSpec : ChangeSpec := { name := "fnExactValidStrokes", fn := fun _ => fun
  | [d1, d2] => { results := [.lit (.bool true)], args := [d1, d2] }
  | _ => none }
def fnExactValidStrokesRow : OpenClaim := { program := "ytecdfmijbkdcaaa", sum := "d1927476adcef6d6bd45802a5c472a288b279b0c9a31c5c4a031fbd900423864", func := "loop.example/g01045/laws.FnExactValidStrokes", spec := "fnExactValidStrokes", apart := false }
def FnExactValidStrokesSaid : Prop := fnExactValidStrokesRow.holds Try.pinned (OpenSpec.ofChange fnExactValidStrokesSpec)

/-- ITS FALSE NEIGHBOUR: 'it returns false'. Refute it at one input. -/
def fnExactValidStrokesWrong : ChangeSpec := { name := "fnExactValidStrokes", fn := fun _ => fun
  | [d1, d2] => { results := [.lit (.bool false)], args := [d1, d2] }
  | _ => none }
def FnExactValidStrokesWrongFalsely : Prop := fnExactValidStrokesRow.holds Try.pinned (OpenSpec.ofChange fnExactValidStrokesWrong)

/-- 'laws.FnExactValidPairs': WHATEVER THE INPUT: true; the input reads as it did. -/
def fnExactValidPairsSpec : ChangeSpec := { name := "fnExactValidPairs", fn := fun _ => fun
  | [d] => { results := [.lit (.bool true)], args := [d] }
  | _ => none }
def fnExactValidPairsRow : OpenClaim := { program := "ytecdfmijbkdcaaa", sum := "d1927476adcef6d6bd45802a5c472a288b279b0c9a31c5c4a031fbd900423864", func := "loop.example/g01045/laws.FnExactValidPairs", spec := "fnExactValidPairs", apart := false }
def FnExactValidPairsSaid : Prop := fnExactValidPairsRow.holds Try.pinned (OpenSpec.ofChange fnExactValidPairsSpec)

/-- ITS FALSE NEIGHBOUR: 'it returns false'. Refute it at one input. -/
def fnExactValidPairsWrong : ChangeSpec := { name := "fnExactValidPairs", fn := fun _ => fun
  | [d] => { results := [.lit (.bool false)], args := [d] }
  | _ => none }
def FnExactValidPairsWrongFalsely : Prop := fnExactValidPairsRow.holds Try.pinned (OpenSpec.ofChange fnExactValidPairsWrong)

/-- 'laws.FnExactValidActs': WHATEVER THE INPUT: true; the input reads as it did. -/
def fnExactValidActsSpec : ChangeSpec := { name := "fnExactValidActs", fn := fun _ => fun
  | [d] => { results := [.lit (.bool true)], args := [d] }
  | _ => none }
def fnExactValidActsRow : OpenClaim := { program := "ytecdfmijbkdcaaa", sum := "d1927476adcef6d6bd45802a5c472a288b279b0c9a31c5c4a031fbd900423864", func := "loop.example/g01045/laws.FnExactValidActs", spec := "fnExactValidActs", apart := false }
def FnExactValidActsSaid : Prop := fnExactValidActsRow.holds Try.pinned (OpenSpec.ofChange fnExactValidActsSpec)

/-- ITS FALSE NEIGHBOUR: 'it returns false'. Refute it at one input. -/
def fnExactValidActsWrong : ChangeSpec := { name := "fnExactValidActs", fn := fun _ => fun
  | [d] => { results := [.lit (.bool false)], args := [d] }
  | _ => none }
def FnExactValidActsWrongFalsely : Prop := fnExactValidActsRow.holds Try.pinned (OpenSpec.ofChange fnExactValidActsWrong)

/-- 'laws.FnExactMirrorArrange': WHATEVER THE INPUT: true; the input reads as it did. -/
def fnExactMirrorArrangeSpec : ChangeSpec := { name := "fnExactMirrorArrange", fn := fun _ => fun
  | [d1, d2] => { results := [.lit (.bool true)], args := [d1, d2] }
  | _ => none }
def fnExactMirrorArrangeRow : OpenClaim := { program := "ytecdfmijbkdcaaa", sum := "d1927476adcef6d6bd45802a5c472a288b279b0c9a31c5c4a031fbd900423864", func := "loop.example/g01045/laws.FnExactMirrorArrange", spec := "fnExactMirrorArrange", apart := false }
def FnExactMirrorArrangeSaid : Prop := fnExactMirrorArrangeRow.holds Try.pinned (OpenSpec.ofChange fnExactMirrorArrangeSpec)

/-- ITS FALSE NEIGHBOUR: 'it returns false'. Refute it at one input. -/
def fnExactMirrorArrangeWrong : ChangeSpec := { name := "fnExactMirrorArrange", fn := fun _ => fun
  | [d1, d2] => { results := [.lit (.bool false)], args := [d1, d2] }
  | _ => none }
def FnExactMirrorArrangeWrongFalsely : Prop := fnExactMirrorArrangeRow.holds Try.pinned (OpenSpec.ofChange fnExactMirrorArrangeWrong)

/-- 'laws.FnExactValidLayout': WHATEVER THE INPUT: true; the input reads as it did. -/
def fnExactValidLayoutSpec : ChangeSpec := { name := "fnExactValidLayout", fn := fun _ => fun
  | [d] => { results := [.lit (.bool true)], args := [d] }
  | _ => none }
def fnExactValidLayoutRow : OpenClaim := { program := "ytecdfmijbkdcaaa", sum := "d1927476adcef6d6bd45802a5c472a288b279b0c9a31c5c4a031fbd900423864", func := "loop.example/g01045/laws.FnExactValidLayout", spec := "fnExactValidLayout", apart := false }
def FnExactValidLayoutSaid : Prop := fnExactValidLayoutRow.holds Try.pinned (OpenSpec.ofChange fnExactValidLayoutSpec)

/-- ITS FALSE NEIGHBOUR: 'it returns false'. Refute it at one input. -/
def fnExactValidLayoutWrong : ChangeSpec := { name := "fnExactValidLayout", fn := fun _ => fun
  | [d] => { results := [.lit (.bool false)], args := [d] }
  | _ => none }
def FnExactValidLayoutWrongFalsely : Prop := fnExactValidLayoutRow.holds Try.pinned (OpenSpec.ofChange fnExactValidLayoutWrong)

/-- 'laws.FnExactSwapLetters': WHATEVER THE INPUT: true; the input reads as it did. -/
def fnExactSwapLettersSpec : ChangeSpec := { name := "fnExactSwapLetters", fn := fun _ => fun
  | [d1, d2, d3, d4] => { results := [.lit (.bool true)], args := [d1, d2, d3, d4] }
  | _ => none }
def fnExactSwapLettersRow : OpenClaim := { program := "ytecdfmijbkdcaaa", sum := "d1927476adcef6d6bd45802a5c472a288b279b0c9a31c5c4a031fbd900423864", func := "loop.example/g01045/laws.FnExactSwapLetters", spec := "fnExactSwapLetters", apart := false }
def FnExactSwapLettersSaid : Prop := fnExactSwapLettersRow.holds Try.pinned (OpenSpec.ofChange fnExactSwapLettersSpec)

/-- ITS FALSE NEIGHBOUR: 'it returns false'. Refute it at one input. -/
def fnExactSwapLettersWrong : ChangeSpec := { name := "fnExactSwapLetters", fn := fun _ => fun
  | [d1, d2, d3, d4] => { results := [.lit (.bool false)], args := [d1, d2, d3, d4] }
  | _ => none }
def FnExactSwapLettersWrongFalsely : Prop := fnExactSwapLettersRow.holds Try.pinned (OpenSpec.ofChange fnExactSwapLettersWrong)

/-- 'laws.FnExactInTheAir': WHATEVER THE INPUT: true; the input reads as it did. -/
def fnExactInTheAirSpec : ChangeSpec := { name := "fnExactInTheAir", fn := fun _ => fun
  | [d1, d2, d3] => { results := [.lit (.bool true)], args := [d1, d2, d3] }
  | _ => none }
def fnExactInTheAirRow : OpenClaim := { program := "ytecdfmijbkdcaaa", sum := "d1927476adcef6d6bd45802a5c472a288b279b0c9a31c5c4a031fbd900423864", func := "loop.example/g01045/laws.FnExactInTheAir", spec := "fnExactInTheAir", inPlace := ["internal/reflectlite.ValueOf", "internal/reflectlite.Swapper", "(internal/reflectlite.Value).Len"], unfollowed := true, recurses := true, apart := false }
def FnExactInTheAirSaid : Prop := fnExactInTheAirRow.holds Try.pinned (OpenSpec.ofChange fnExactInTheAirSpec)

/-- ITS FALSE NEIGHBOUR: 'it returns false'. Refute it at one input. -/
def fnExactInTheAirWrong : ChangeSpec := { name := "fnExactInTheAir", fn := fun _ => fun
  | [d1, d2, d3] => { results := [.lit (.bool false)], args := [d1, d2, d3] }
  | _ => none }
def FnExactInTheAirWrongFalsely : Prop := fnExactInTheAirRow.holds Try.pinned (OpenSpec.ofChange fnExactInTheAirWrong)

/-- 'laws.FnExactHalfShifted': WHATEVER THE INPUT: true; the input reads as it did. -/
def fnExactHalfShiftedSpec : ChangeSpec := { name := "fnExactHalfShifted", fn := fun _ => fun
  | [d1, d2] => { results := [.lit (.bool true)], args := [d1, d2] }
  | _ => none }
def fnExactHalfShiftedRow : OpenClaim := { program := "ytecdfmijbkdcaaa", sum := "d1927476adcef6d6bd45802a5c472a288b279b0c9a31c5c4a031fbd900423864", func := "loop.example/g01045/laws.FnExactHalfShifted", spec := "fnExactHalfShifted", apart := false }
def FnExactHalfShiftedSaid : Prop := fnExactHalfShiftedRow.holds Try.pinned (OpenSpec.ofChange fnExactHalfShiftedSpec)

/-- ITS FALSE NEIGHBOUR: 'it returns false'. Refute it at one input. -/
def fnExactHalfShiftedWrong : ChangeSpec := { name := "fnExactHalfShifted", fn := fun _ => fun
  | [d1, d2] => { results := [.lit (.bool false)], args := [d1, d2] }
  | _ => none }
def FnExactHalfShiftedWrongFalsely : Prop := fnExactHalfShiftedRow.holds Try.pinned (OpenSpec.ofChange fnExactHalfShiftedWrong)

/-- 'laws.FnExactSlowestPair': WHATEVER THE INPUT: true; the input reads as it did. -/
def fnExactSlowestPairSpec : ChangeSpec := { name := "fnExactSlowestPair", fn := fun _ => fun
  | [d1, d2] => { results := [.lit (.bool true)], args := [d1, d2] }
  | _ => none }
def fnExactSlowestPairRow : OpenClaim := { program := "ytecdfmijbkdcaaa", sum := "d1927476adcef6d6bd45802a5c472a288b279b0c9a31c5c4a031fbd900423864", func := "loop.example/g01045/laws.FnExactSlowestPair", spec := "fnExactSlowestPair", apart := false }
def FnExactSlowestPairSaid : Prop := fnExactSlowestPairRow.holds Try.pinned (OpenSpec.ofChange fnExactSlowestPairSpec)

/-- ITS FALSE NEIGHBOUR: 'it returns false'. Refute it at one input. -/
def fnExactSlowestPairWrong : ChangeSpec := { name := "fnExactSlowestPair", fn := fun _ => fun
  | [d1, d2] => { results := [.lit (.bool false)], args := [d1, d2] }
  | _ => none }
def FnExactSlowestPairWrongFalsely : Prop := fnExactSlowestPairRow.holds Try.pinned (OpenSpec.ofChange fnExactSlowestPairWrong)

/- THE SECOND FORM. 'bulk': how many values and letters a reading holds, each counted each time it is reached (what is shared counts as often as it is met; a slice's spare places count too). A statement '..UptoSaid' is the law's where the arguments, and the package variables that the reading takes, are together of bulk at most 1048576: NARROWER than '..Said'. Prove '..Said' where nothing that the law and all that it calls make is longer than what came in: it says more and counts as full. Else prove '..UptoSaid'. A law counts once. -/
mutual
def uptoBulk {H : Type} : DataW H → Nat
  | .lit (.string bytes) => bytes.length + 1
  | .lit _ => 1
  | .nil => 1
  | .ptr d => uptoBulk d + 1
  | .slice elems spare => uptoBulkAll elems + uptoBulkAll spare + 1
  | .agg parts => uptoBulkAll parts + 1
  | .iface _ d => uptoBulk d + 1
  | .map entries => uptoBulkEntries entries + 1
  | .held _ => 1
def uptoBulkAll {H : Type} : List (DataW H) → Nat
  | [] => 0
  | d :: r => uptoBulk d + uptoBulkAll r
def uptoBulkEntries {H : Type} : List (Lit × DataW H) → Nat
  | [] => 0
  | x :: r => uptoBulkEntry x + uptoBulkEntries r
def uptoBulkEntry {H : Type} : Lit × DataW H → Nat
  | (.string bytes, d) => bytes.length + uptoBulk d + 1
  | (_, d) => uptoBulk d + 1
 end
def uptoSmall : (H : Type) → List (DataW H) → Bool := fun _ ds => decide (uptoBulkAll ds ≤ 1048576)
def OpenSpec.upto (s : _root_.Go.ChangeSpec) : _root_.Go.OpenSpec := { _root_.Go.OpenSpec.ofChange s with cond := some uptoSmall }

/-- 'laws.FnExactSameStruck', WHERE WHAT IT READS IS OF BULK AT MOST 1048576: true; the input reads as it did. -/
def fnExactSameStruckUptoRow : OpenClaim := { program := "ytecdfmijbkdcaaa", sum := "d1927476adcef6d6bd45802a5c472a288b279b0c9a31c5c4a031fbd900423864", func := "loop.example/g01045/laws.FnExactSameStruck", spec := "fnExactSameStruck", apart := false, narrowed := true }
def FnExactSameStruckUptoSaid : Prop := fnExactSameStruckUptoRow.holds Try.pinned (OpenSpec.upto fnExactSameStruckSpec)

/-- 'laws.FnExactSplitWords', WHERE WHAT IT READS IS OF BULK AT MOST 1048576: true; the input reads as it did. -/
def fnExactSplitWordsUptoRow : OpenClaim := { program := "ytecdfmijbkdcaaa", sum := "d1927476adcef6d6bd45802a5c472a288b279b0c9a31c5c4a031fbd900423864", func := "loop.example/g01045/laws.FnExactSplitWords", spec := "fnExactSplitWords", apart := false, narrowed := true }
def FnExactSplitWordsUptoSaid : Prop := fnExactSplitWordsUptoRow.holds Try.pinned (OpenSpec.upto fnExactSplitWordsSpec)

/-- 'laws.FnExactPressesFor', WHERE WHAT IT READS IS OF BULK AT MOST 1048576: true; the input reads as it did. -/
def fnExactPressesForUptoRow : OpenClaim := { program := "ytecdfmijbkdcaaa", sum := "d1927476adcef6d6bd45802a5c472a288b279b0c9a31c5c4a031fbd900423864", func := "loop.example/g01045/laws.FnExactPressesFor", spec := "fnExactPressesFor", apart := false, narrowed := true }
def FnExactPressesForUptoSaid : Prop := fnExactPressesForUptoRow.holds Try.pinned (OpenSpec.upto fnExactPressesForSpec)

/-- 'laws.FnExactValidStrokes', WHERE WHAT IT READS IS OF BULK AT MOST 1048576: true; the input reads as it did. -/
def fnExactValidStrokesUptoRow : OpenClaim := { program := "ytecdfmijbkdcaaa", sum := "d1927476adcef6d6bd45802a5c472a288b279b0c9a31c5c4a031fbd900423864", func := "loop.example/g01045/laws.FnExactValidStrokes", spec := "fnExactValidStrokes", apart := false, narrowed := true }
def FnExactValidStrokesUptoSaid : Prop := fnExactValidStrokesUptoRow.holds Try.pinned (OpenSpec.upto fnExactValidStrokesSpec)

/-- 'laws.FnExactValidPairs', WHERE WHAT IT READS IS OF BULK AT MOST 1048576: true; the input reads as it did. -/
def fnExactValidPairsUptoRow : OpenClaim := { program := "ytecdfmijbkdcaaa", sum := "d1927476adcef6d6bd45802a5c472a288b279b0c9a31c5c4a031fbd900423864", func := "loop.example/g01045/laws.FnExactValidPairs", spec := "fnExactValidPairs", apart := false, narrowed := true }
def FnExactValidPairsUptoSaid : Prop := fnExactValidPairsUptoRow.holds Try.pinned (OpenSpec.upto fnExactValidPairsSpec)

/-- 'laws.FnExactValidActs', WHERE WHAT IT READS IS OF BULK AT MOST 1048576: true; the input reads as it did. -/
def fnExactValidActsUptoRow : OpenClaim := { program := "ytecdfmijbkdcaaa", sum := "d1927476adcef6d6bd45802a5c472a288b279b0c9a31c5c4a031fbd900423864", func := "loop.example/g01045/laws.FnExactValidActs", spec := "fnExactValidActs", apart := false, narrowed := true }
def FnExactValidActsUptoSaid : Prop := fnExactValidActsUptoRow.holds Try.pinned (OpenSpec.upto fnExactValidActsSpec)

/-- 'laws.FnExactMirrorArrange', WHERE WHAT IT READS IS OF BULK AT MOST 1048576: true; the input reads as it did. -/
def fnExactMirrorArrangeUptoRow : OpenClaim := { program := "ytecdfmijbkdcaaa", sum := "d1927476adcef6d6bd45802a5c472a288b279b0c9a31c5c4a031fbd900423864", func := "loop.example/g01045/laws.FnExactMirrorArrange", spec := "fnExactMirrorArrange", apart := false, narrowed := true }
def FnExactMirrorArrangeUptoSaid : Prop := fnExactMirrorArrangeUptoRow.holds Try.pinned (OpenSpec.upto fnExactMirrorArrangeSpec)

/-- 'laws.FnExactValidLayout', WHERE WHAT IT READS IS OF BULK AT MOST 1048576: true; the input reads as it did. -/
def fnExactValidLayoutUptoRow : OpenClaim := { program := "ytecdfmijbkdcaaa", sum := "d1927476adcef6d6bd45802a5c472a288b279b0c9a31c5c4a031fbd900423864", func := "loop.example/g01045/laws.FnExactValidLayout", spec := "fnExactValidLayout", apart := false, narrowed := true }
def FnExactValidLayoutUptoSaid : Prop := fnExactValidLayoutUptoRow.holds Try.pinned (OpenSpec.upto fnExactValidLayoutSpec)

/-- 'laws.FnExactSwapLetters', WHERE WHAT IT READS IS OF BULK AT MOST 1048576: true; the input reads as it did. -/
def fnExactSwapLettersUptoRow : OpenClaim := { program := "ytecdfmijbkdcaaa", sum := "d1927476adcef6d6bd45802a5c472a288b279b0c9a31c5c4a031fbd900423864", func := "loop.example/g01045/laws.FnExactSwapLetters", spec := "fnExactSwapLetters", apart := false, narrowed := true }
def FnExactSwapLettersUptoSaid : Prop := fnExactSwapLettersUptoRow.holds Try.pinned (OpenSpec.upto fnExactSwapLettersSpec)

/-- 'laws.FnExactInTheAir', WHERE WHAT IT READS IS OF BULK AT MOST 1048576: true; the input reads as it did. -/
def fnExactInTheAirUptoRow : OpenClaim := { program := "ytecdfmijbkdcaaa", sum := "d1927476adcef6d6bd45802a5c472a288b279b0c9a31c5c4a031fbd900423864", func := "loop.example/g01045/laws.FnExactInTheAir", spec := "fnExactInTheAir", inPlace := ["internal/reflectlite.ValueOf", "internal/reflectlite.Swapper", "(internal/reflectlite.Value).Len"], unfollowed := true, recurses := true, apart := false, narrowed := true }
def FnExactInTheAirUptoSaid : Prop := fnExactInTheAirUptoRow.holds Try.pinned (OpenSpec.upto fnExactInTheAirSpec)

/-- 'laws.FnExactHalfShifted', WHERE WHAT IT READS IS OF BULK AT MOST 1048576: true; the input reads as it did. -/
def fnExactHalfShiftedUptoRow : OpenClaim := { program := "ytecdfmijbkdcaaa", sum := "d1927476adcef6d6bd45802a5c472a288b279b0c9a31c5c4a031fbd900423864", func := "loop.example/g01045/laws.FnExactHalfShifted", spec := "fnExactHalfShifted", apart := false, narrowed := true }
def FnExactHalfShiftedUptoSaid : Prop := fnExactHalfShiftedUptoRow.holds Try.pinned (OpenSpec.upto fnExactHalfShiftedSpec)

/-- 'laws.FnExactSlowestPair', WHERE WHAT IT READS IS OF BULK AT MOST 1048576: true; the input reads as it did. -/
def fnExactSlowestPairUptoRow : OpenClaim := { program := "ytecdfmijbkdcaaa", sum := "d1927476adcef6d6bd45802a5c472a288b279b0c9a31c5c4a031fbd900423864", func := "loop.example/g01045/laws.FnExactSlowestPair", spec := "fnExactSlowestPair", apart := false, narrowed := true }
def FnExactSlowestPairUptoSaid : Prop := fnExactSlowestPairUptoRow.holds Try.pinned (OpenSpec.upto fnExactSlowestPairSpec)

end Rows
end Go.Proofs.Ytecdfmijbkdcaaa
