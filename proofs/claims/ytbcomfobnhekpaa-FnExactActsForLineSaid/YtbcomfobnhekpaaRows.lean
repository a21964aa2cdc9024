/-
  No cell of these rows narrows 'for every input' (looked for: loops, veiled, ifaces, maps, wideKeys, modest, calm, conditions, laid).
  DERIVED. THE GIVEN ROWS OF THIS SEAT. 12 by the template 'for every input the law returns true; each argument reads behind the call as it read before'; 0 by the template 'total and deterministic' (their statements: YtbcomfobnhekpaaTotals.lean).
  GIVEN WITH THE SEED: the statements are not yours to turn. If you find one false, say at which input.
  Laid BY PROGRAM, IN A SANDBOX (cutbox-rows.mjs): the forced cells as the released guide's own fill.sh prints them over the translation cc0931fc5f30c42e… (all of the seat's roots in one cut). By AI agents, Wed Nov 11 2026. No macro, syntax, notation, axiom, sorry.
-/
import Derived.Test.YtbcomfobnhekpaaChecked
import GoSem.Claim
import GoSem.ClaimJoined
import GoSem.ClaimMapViews
import Derived.JoinedTies
import Derived.KernelRfl
namespace Go.Proofs.Ytbcomfobnhekpaa
/- THE CELL 'sum', in the pinned program and in every row, IS THE sha256 OF THE DUMP (.gsa) THAT YtbcomfobnhekpaaProg.lean LOADS. Nothing in Lean hashes anything: it is a label: what it is worth is what the hold of that sum in a sandbox is worth. -/
noncomputable def Try.pinned : Pinned := { name := "ytbcomfobnhekpaa", sum := "cc0931fc5f30c42e01874ebb767654cc7bad77f7e8a684e7ecb01562d0450f08", checked := Try.checked }
namespace Rows
def none {H : Type} : Left H := { results := [], args := [] }

/-- 'laws.FnExactSplitWords': WHATEVER THE INPUT: true; the input reads as it did. -/
def fnExactSplitWordsSpec : ChangeSpec := { name := "fnExactSplitWords", fn := fun _ => fun
  | [d] => { results := [.lit (.bool true)], args := [d] }
  | _ => none }
def fnExactSplitWordsRow : OpenClaim := { program := "ytbcomfobnhekpaa", sum := "cc0931fc5f30c42e01874ebb767654cc7bad77f7e8a684e7ecb01562d0450f08", func := "loop.example/g01045/laws.FnExactSplitWords", spec := "fnExactSplitWords", apart := false }
def FnExactSplitWordsSaid : Prop := fnExactSplitWordsRow.holds Try.pinned (OpenSpec.ofChange fnExactSplitWordsSpec)

/-- ITS FALSE NEIGHBOUR: 'it returns false'. Refute it at one input. -/
def fnExactSplitWordsWrong : ChangeSpec := { name := "fnExactSplitWords", fn := fun _ => fun
  | [d] => { results := [.lit (.bool false)], args := [d] }
  | _ => none }
def FnExactSplitWordsWrongFalsely : Prop := fnExactSplitWordsRow.holds Try.pinned (OpenSpec.ofChange fnExactSplitWordsWrong)

/-- 'laws.FnExactMirrorArrange': WHATEVER THE INPUT: true; the input reads as it did. -/
def fnExactMirrorArrangeSpec : ChangeSpec := { name := "fnExactMirrorArrange", fn := fun _ => fun
  | [d1, d2] => { results := [.lit (.bool true)], args := [d1, d2] }
  | _ => none }
def fnExactMirrorArrangeRow : OpenClaim := { program := "ytbcomfobnhekpaa", sum := "cc0931fc5f30c42e01874ebb767654cc7bad77f7e8a684e7ecb01562d0450f08", func := "loop.example/g01045/laws.FnExactMirrorArrange", spec := "fnExactMirrorArrange", apart := false }
def FnExactMirrorArrangeSaid : Prop := fnExactMirrorArrangeRow.holds Try.pinned (OpenSpec.ofChange fnExactMirrorArrangeSpec)

/-- ITS FALSE NEIGHBOUR: 'it returns false'. Refute it at one input. -/
def fnExactMirrorArrangeWrong : ChangeSpec := { name := "fnExactMirrorArrange", fn := fun _ => fun
  | [d1, d2] => { results := [.lit (.bool false)], args := [d1, d2] }
  | _ => none }
def FnExactMirrorArrangeWrongFalsely : Prop := fnExactMirrorArrangeRow.holds Try.pinned (OpenSpec.ofChange fnExactMirrorArrangeWrong)

/-- 'laws.FnExactSwapLetters': WHATEVER THE INPUT: true; the input reads as it did. -/
def fnExactSwapLettersSpec : ChangeSpec := { name := "fnExactSwapLetters", fn := fun _ => fun
  | [d1, d2, d3, d4] => { results := [.lit (.bool true)], args := [d1, d2, d3, d4] }
  | _ => none }
def fnExactSwapLettersRow : OpenClaim := { program := "ytbcomfobnhekpaa", sum := "cc0931fc5f30c42e01874ebb767654cc7bad77f7e8a684e7ecb01562d0450f08", func := "loop.example/g01045/laws.FnExactSwapLetters", spec := "fnExactSwapLetters", apart := false }
def FnExactSwapLettersSaid : Prop := fnExactSwapLettersRow.holds Try.pinned (OpenSpec.ofChange fnExactSwapLettersSpec)

/-- ITS FALSE NEIGHBOUR: 'it returns false'. Refute it at one input. -/
def fnExactSwapLettersWrong : ChangeSpec := { name := "fnExactSwapLetters", fn := fun _ => fun
  | [d1, d2, d3, d4] => { results := [.lit (.bool false)], args := [d1, d2, d3, d4] }
  | _ => none }
def FnExactSwapLettersWrongFalsely : Prop := fnExactSwapLettersRow.holds Try.pinned (OpenSpec.ofChange fnExactSwapLettersWrong)

/-- 'laws.FnExactInTheAir': WHATEVER THE INPUT: true; the input reads as it did. -/
def fnExactInTheAirSpec : ChangeSpec := { name := "fnExactInTheAir", fn := fun _ => fun
  | [d1, d2, d3] => { results := [.lit (.bool true)], args := [d1, d2, d3] }
  | _ => none }
def fnExactInTheAirRow : OpenClaim := { program := "ytbcomfobnhekpaa", sum := "cc0931fc5f30c42e01874ebb767654cc7bad77f7e8a684e7ecb01562d0450f08", func := "loop.example/g01045/laws.FnExactInTheAir", spec := "fnExactInTheAir", inPlace := ["internal/reflectlite.ValueOf", "internal/reflectlite.Swapper", "(internal/reflectlite.Value).Len"], unfollowed := true, recurses := true, apart := false }
def FnExactInTheAirSaid : Prop := fnExactInTheAirRow.holds Try.pinned (OpenSpec.ofChange fnExactInTheAirSpec)

/-- ITS FALSE NEIGHBOUR: 'it returns false'. Refute it at one input. -/
def fnExactInTheAirWrong : ChangeSpec := { name := "fnExactInTheAir", fn := fun _ => fun
  | [d1, d2, d3] => { results := [.lit (.bool false)], args := [d1, d2, d3] }
  | _ => none }
def FnExactInTheAirWrongFalsely : Prop := fnExactInTheAirRow.holds Try.pinned (OpenSpec.ofChange fnExactInTheAirWrong)

/-- 'laws.FnExactActsForLine': WHATEVER THE INPUT: true; the input reads as it did. -/
def fnExactActsForLineSpec : ChangeSpec := { name := "fnExactActsForLine", fn := fun _ => fun
  | [d1, d2] => { results := [.lit (.bool true)], args := [d1, d2] }
  | _ => none }
def fnExactActsForLineRow : OpenClaim := { program := "ytbcomfobnhekpaa", sum := "cc0931fc5f30c42e01874ebb767654cc7bad77f7e8a684e7ecb01562d0450f08", func := "loop.example/g01045/laws.FnExactActsForLine", spec := "fnExactActsForLine", apart := false }
def FnExactActsForLineSaid : Prop := fnExactActsForLineRow.holds Try.pinned (OpenSpec.ofChange fnExactActsForLineSpec)

/-- ITS FALSE NEIGHBOUR: 'it returns false'. Refute it at one input. -/
def fnExactActsForLineWrong : ChangeSpec := { name := "fnExactActsForLine", fn := fun _ => fun
  | [d1, d2] => { results := [.lit (.bool false)], args := [d1, d2] }
  | _ => none }
def FnExactActsForLineWrongFalsely : Prop := fnExactActsForLineRow.holds Try.pinned (OpenSpec.ofChange fnExactActsForLineWrong)

/-- 'laws.FnExactFastestStrokes': WHATEVER THE INPUT: true; the input reads as it did. -/
def fnExactFastestStrokesSpec : ChangeSpec := { name := "fnExactFastestStrokes", fn := fun _ => fun
  | [d1, d2] => { results := [.lit (.bool true)], args := [d1, d2] }
  | _ => none }
def fnExactFastestStrokesRow : OpenClaim := { program := "ytbcomfobnhekpaa", sum := "cc0931fc5f30c42e01874ebb767654cc7bad77f7e8a684e7ecb01562d0450f08", func := "loop.example/g01045/laws.FnExactFastestStrokes", spec := "fnExactFastestStrokes", apart := false }
def FnExactFastestStrokesSaid : Prop := fnExactFastestStrokesRow.holds Try.pinned (OpenSpec.ofChange fnExactFastestStrokesSpec)

/-- ITS FALSE NEIGHBOUR: 'it returns false'. Refute it at one input. -/
def fnExactFastestStrokesWrong : ChangeSpec := { name := "fnExactFastestStrokes", fn := fun _ => fun
  | [d1, d2] => { results := [.lit (.bool false)], args := [d1, d2] }
  | _ => none }
def FnExactFastestStrokesWrongFalsely : Prop := fnExactFastestStrokesRow.holds Try.pinned (OpenSpec.ofChange fnExactFastestStrokesWrong)

/-- 'laws.FnExactOvertypedPlaces': WHATEVER THE INPUT: true; the input reads as it did. -/
def fnExactOvertypedPlacesSpec : ChangeSpec := { name := "fnExactOvertypedPlaces", fn := fun _ => fun
  | [d] => { results := [.lit (.bool true)], args := [d] }
  | _ => none }
def fnExactOvertypedPlacesRow : OpenClaim := { program := "ytbcomfobnhekpaa", sum := "cc0931fc5f30c42e01874ebb767654cc7bad77f7e8a684e7ecb01562d0450f08", func := "loop.example/g01045/laws.FnExactOvertypedPlaces", spec := "fnExactOvertypedPlaces", apart := false }
def FnExactOvertypedPlacesSaid : Prop := fnExactOvertypedPlacesRow.holds Try.pinned (OpenSpec.ofChange fnExactOvertypedPlacesSpec)

/-- ITS FALSE NEIGHBOUR: 'it returns false'. Refute it at one input. -/
def fnExactOvertypedPlacesWrong : ChangeSpec := { name := "fnExactOvertypedPlaces", fn := fun _ => fun
  | [d] => { results := [.lit (.bool false)], args := [d] }
  | _ => none }
def FnExactOvertypedPlacesWrongFalsely : Prop := fnExactOvertypedPlacesRow.holds Try.pinned (OpenSpec.ofChange fnExactOvertypedPlacesWrong)

/-- 'laws.FnExactPrintedOf': WHATEVER THE INPUT: true; the input reads as it did. -/
def fnExactPrintedOfSpec : ChangeSpec := { name := "fnExactPrintedOf", fn := fun _ => fun
  | [d1, d2] => { results := [.lit (.bool true)], args := [d1, d2] }
  | _ => none }
def fnExactPrintedOfRow : OpenClaim := { program := "ytbcomfobnhekpaa", sum := "cc0931fc5f30c42e01874ebb767654cc7bad77f7e8a684e7ecb01562d0450f08", func := "loop.example/g01045/laws.FnExactPrintedOf", spec := "fnExactPrintedOf", apart := false }
def FnExactPrintedOfSaid : Prop := fnExactPrintedOfRow.holds Try.pinned (OpenSpec.ofChange fnExactPrintedOfSpec)

/-- ITS FALSE NEIGHBOUR: 'it returns false'. Refute it at one input. -/
def fnExactPrintedOfWrong : ChangeSpec := { name := "fnExactPrintedOf", fn := fun _ => fun
  | [d1, d2] => { results := [.lit (.bool false)], args := [d1, d2] }
  | _ => none }
def FnExactPrintedOfWrongFalsely : Prop := fnExactPrintedOfRow.holds Try.pinned (OpenSpec.ofChange fnExactPrintedOfWrong)

/-- 'laws.FnExactFingersOf': WHATEVER THE INPUT: true; the input reads as it did. -/
def fnExactFingersOfSpec : ChangeSpec := { name := "fnExactFingersOf", fn := fun _ => fun
  | [d1, d2, d3] => { results := [.lit (.bool true)], args := [d1, d2, d3] }
  | _ => none }
def fnExactFingersOfRow : OpenClaim := { program := "ytbcomfobnhekpaa", sum := "cc0931fc5f30c42e01874ebb767654cc7bad77f7e8a684e7ecb01562d0450f08", func := "loop.example/g01045/laws.FnExactFingersOf", spec := "fnExactFingersOf", apart := false }
def FnExactFingersOfSaid : Prop := fnExactFingersOfRow.holds Try.pinned (OpenSpec.ofChange fnExactFingersOfSpec)

/-- ITS FALSE NEIGHBOUR: 'it returns false'. Refute it at one input. -/
def fnExactFingersOfWrong : ChangeSpec := { name := "fnExactFingersOf", fn := fun _ => fun
  | [d1, d2, d3] => { results := [.lit (.bool false)], args := [d1, d2, d3] }
  | _ => none }
def FnExactFingersOfWrongFalsely : Prop := fnExactFingersOfRow.holds Try.pinned (OpenSpec.ofChange fnExactFingersOfWrong)

/-- 'laws.FnExactBestArrange': WHATEVER THE INPUT: true; the input reads as it did. -/
def fnExactBestArrangeSpec : ChangeSpec := { name := "fnExactBestArrange", fn := fun _ => fun
  | [d1, d2] => { results := [.lit (.bool true)], args := [d1, d2] }
  | _ => none }
def fnExactBestArrangeRow : OpenClaim := { program := "ytbcomfobnhekpaa", sum := "cc0931fc5f30c42e01874ebb767654cc7bad77f7e8a684e7ecb01562d0450f08", func := "loop.example/g01045/laws.FnExactBestArrange", spec := "fnExactBestArrange", recurses := true, apart := false }
def FnExactBestArrangeSaid : Prop := fnExactBestArrangeRow.holds Try.pinned (OpenSpec.ofChange fnExactBestArrangeSpec)

/-- ITS FALSE NEIGHBOUR: 'it returns false'. Refute it at one input. -/
def fnExactBestArrangeWrong : ChangeSpec := { name := "fnExactBestArrange", fn := fun _ => fun
  | [d1, d2] => { results := [.lit (.bool false)], args := [d1, d2] }
  | _ => none }
def FnExactBestArrangeWrongFalsely : Prop := fnExactBestArrangeRow.holds Try.pinned (OpenSpec.ofChange fnExactBestArrangeWrong)

/-- 'laws.FnExactTypeActs': WHATEVER THE INPUT: true; the input reads as it did. -/
def fnExactTypeActsSpec : ChangeSpec := { name := "fnExactTypeActs", fn := fun _ => fun
  | [d1, d2] => { results := [.lit (.bool true)], args := [d1, d2] }
  | _ => none }
def fnExactTypeActsRow : OpenClaim := { program := "ytbcomfobnhekpaa", sum := "cc0931fc5f30c42e01874ebb767654cc7bad77f7e8a684e7ecb01562d0450f08", func := "loop.example/g01045/laws.FnExactTypeActs", spec := "fnExactTypeActs", apart := false }
def FnExactTypeActsSaid : Prop := fnExactTypeActsRow.holds Try.pinned (OpenSpec.ofChange fnExactTypeActsSpec)

/-- ITS FALSE NEIGHBOUR: 'it returns false'. Refute it at one input. -/
def fnExactTypeActsWrong : ChangeSpec := { name := "fnExactTypeActs", fn := fun _ => fun
  | [d1, d2] => { results := [.lit (.bool false)], args := [d1, d2] }
  | _ => none }
def FnExactTypeActsWrongFalsely : Prop := fnExactTypeActsRow.holds Try.pinned (OpenSpec.ofChange fnExactTypeActsWrong)

/-- 'laws.FnExactImproveArrange': WHATEVER THE INPUT: true; the input reads as it did. -/
def fnExactImproveArrangeSpec : ChangeSpec := { name := "fnExactImproveArrange", fn := fun _ => fun
  | [d1, d2, d3] => { results := [.lit (.bool true)], args := [d1, d2, d3] }
  | _ => none }
def fnExactImproveArrangeRow : OpenClaim := { program := "ytbcomfobnhekpaa", sum := "cc0931fc5f30c42e01874ebb767654cc7bad77f7e8a684e7ecb01562d0450f08", func := "loop.example/g01045/laws.FnExactImproveArrange", spec := "fnExactImproveArrange", apart := false }
def FnExactImproveArrangeSaid : Prop := fnExactImproveArrangeRow.holds Try.pinned (OpenSpec.ofChange fnExactImproveArrangeSpec)

/-- ITS FALSE NEIGHBOUR: 'it returns false'. Refute it at one input. -/
def fnExactImproveArrangeWrong : ChangeSpec := { name := "fnExactImproveArrange", fn := fun _ => fun
  | [d1, d2, d3] => { results := [.lit (.bool false)], args := [d1, d2, d3] }
  | _ => none }
def FnExactImproveArrangeWrongFalsely : Prop := fnExactImproveArrangeRow.holds Try.pinned (OpenSpec.ofChange fnExactImproveArrangeWrong)

/- THE SECOND FORM. 'bulk': how many values and letters a reading holds, each counted each time it is reached (what is shared counts as often as it is met; a slice's spare places count too). A statement '..UptoSaid' is the law's where the arguments, and the package variables that the reading takes, are together of bulk at most 1048576: NARROWER than '..Said'. Prove '..Said' where nothing that the law and all that it calls make is longer than what came in: it says more and counts as full. Else prove '..UptoSaid'. A law counts once. -/
mutual
def uptoBulk {H : Type} : DataW H → Nat
  | .lit (.string bytes) => bytes.length + 1
  | .lit _ => 1
  | .nil => 1
  | .ptr d => uptoBulk d + 1
  | .slice elems spare => uptoBulkAll elems + uptoBulkAll spare + 1
  | .agg parts => uptoBulkAll parts + 1
  | .iface _ d => uptoBulk d + 1
  | .map entries => uptoBulkEntries entries + 1
  | .held _ => 1
def uptoBulkAll {H : Type} : List (DataW H) → Nat
  | [] => 0
  | d :: r => uptoBulk d + uptoBulkAll r
def uptoBulkEntries {H : Type} : List (Lit × DataW H) → Nat
  | [] => 0
  | x :: r => uptoBulkEntry x + uptoBulkEntries r
def uptoBulkEntry {H : Type} : Lit × DataW H → Nat
  | (.string bytes, d) => bytes.length + uptoBulk d + 1
  | (_, d) => uptoBulk d + 1
 end
def uptoSmall : (H : Type) → List (DataW H) → Bool := fun _ ds => decide (uptoBulkAll ds ≤ 1048576)
def OpenSpec.upto (s : _root_.Go.ChangeSpec) : _root_.Go.OpenSpec := { _root_.Go.OpenSpec.ofChange s with cond := some uptoSmall }

/-- 'laws.FnExactSplitWords', WHERE WHAT IT READS IS OF BULK AT MOST 1048576: true; the input reads as it did. -/
def fnExactSplitWordsUptoRow : OpenClaim := { program := "ytbcomfobnhekpaa", sum := "cc0931fc5f30c42e01874ebb767654cc7bad77f7e8a684e7ecb01562d0450f08", func := "loop.example/g01045/laws.FnExactSplitWords", spec := "fnExactSplitWords", apart := false, narrowed := true }
def FnExactSplitWordsUptoSaid : Prop := fnExactSplitWordsUptoRow.holds Try.pinned (OpenSpec.upto fnExactSplitWordsSpec)

/-- 'laws.FnExactMirrorArrange', WHERE WHAT IT READS IS OF BULK AT MOST 1048576: true; the input reads as it did. -/
def fnExactMirrorArrangeUptoRow : OpenClaim := { program := "ytbcomfobnhekpaa", sum := "cc0931fc5f30c42e01874ebb767654cc7bad77f7e8a684e7ecb01562d0450f08", func := "loop.example/g01045/laws.FnExactMirrorArrange", spec := "fnExactMirrorArrange", apart := false, narrowed := true }
def FnExactMirrorArrangeUptoSaid : Prop := fnExactMirrorArrangeUptoRow.holds Try.pinned (OpenSpec.upto fnExactMirrorArrangeSpec)

/-- 'laws.FnExactSwapLetters', WHERE WHAT IT READS IS OF BULK AT MOST 1048576: true; the input reads as it did. -/
def fnExactSwapLettersUptoRow : OpenClaim := { program := "ytbcomfobnhekpaa", sum := "cc0931fc5f30c42e01874ebb767654cc7bad77f7e8a684e7ecb01562d0450f08", func := "loop.example/g01045/laws.FnExactSwapLetters", spec := "fnExactSwapLetters", apart := false, narrowed := true }
def FnExactSwapLettersUptoSaid : Prop := fnExactSwapLettersUptoRow.holds Try.pinned (OpenSpec.upto fnExactSwapLettersSpec)

/-- 'laws.FnExactInTheAir', WHERE WHAT IT READS IS OF BULK AT MOST 1048576: true; the input reads as it did. -/
def fnExactInTheAirUptoRow : OpenClaim := { program := "ytbcomfobnhekpaa", sum := "cc0931fc5f30c42e01874ebb767654cc7bad77f7e8a684e7ecb01562d0450f08", func := "loop.example/g01045/laws.FnExactInTheAir", spec := "fnExactInTheAir", inPlace := ["internal/reflectlite.ValueOf", "internal/reflectlite.Swapper", "(internal/reflectlite.Value).Len"], unfollowed := true, recurses := true, apart := false, narrowed := true }
def FnExactInTheAirUptoSaid : Prop := fnExactInTheAirUptoRow.holds Try.pinned (OpenSpec.upto fnExactInTheAirSpec)

/-- 'laws.FnExactActsForLine', WHERE WHAT IT READS IS OF BULK AT MOST 1048576: true; the input reads as it did. -/
def fnExactActsForLineUptoRow : OpenClaim := { program := "ytbcomfobnhekpaa", sum := "cc0931fc5f30c42e01874ebb767654cc7bad77f7e8a684e7ecb01562d0450f08", func := "loop.example/g01045/laws.FnExactActsForLine", spec := "fnExactActsForLine", apart := false, narrowed := true }
def FnExactActsForLineUptoSaid : Prop := fnExactActsForLineUptoRow.holds Try.pinned (OpenSpec.upto fnExactActsForLineSpec)

/-- 'laws.FnExactFastestStrokes', WHERE WHAT IT READS IS OF BULK AT MOST 1048576: true; the input reads as it did. -/
def fnExactFastestStrokesUptoRow : OpenClaim := { program := "ytbcomfobnhekpaa", sum := "cc0931fc5f30c42e01874ebb767654cc7bad77f7e8a684e7ecb01562d0450f08", func := "loop.example/g01045/laws.FnExactFastestStrokes", spec := "fnExactFastestStrokes", apart := false, narrowed := true }
def FnExactFastestStrokesUptoSaid : Prop := fnExactFastestStrokesUptoRow.holds Try.pinned (OpenSpec.upto fnExactFastestStrokesSpec)

/-- 'laws.FnExactOvertypedPlaces', WHERE WHAT IT READS IS OF BULK AT MOST 1048576: true; the input reads as it did. -/
def fnExactOvertypedPlacesUptoRow : OpenClaim := { program := "ytbcomfobnhekpaa", sum := "cc0931fc5f30c42e01874ebb767654cc7bad77f7e8a684e7ecb01562d0450f08", func := "loop.example/g01045/laws.FnExactOvertypedPlaces", spec := "fnExactOvertypedPlaces", apart := false, narrowed := true }
def FnExactOvertypedPlacesUptoSaid : Prop := fnExactOvertypedPlacesUptoRow.holds Try.pinned (OpenSpec.upto fnExactOvertypedPlacesSpec)

/-- 'laws.FnExactPrintedOf', WHERE WHAT IT READS IS OF BULK AT MOST 1048576: true; the input reads as it did. -/
def fnExactPrintedOfUptoRow : OpenClaim := { program := "ytbcomfobnhekpaa", sum := "cc0931fc5f30c42e01874ebb767654cc7bad77f7e8a684e7ecb01562d0450f08", func := "loop.example/g01045/laws.FnExactPrintedOf", spec := "fnExactPrintedOf", apart := false, narrowed := true }
def FnExactPrintedOfUptoSaid : Prop := fnExactPrintedOfUptoRow.holds Try.pinned (OpenSpec.upto fnExactPrintedOfSpec)

/-- 'laws.FnExactFingersOf', WHERE WHAT IT READS IS OF BULK AT MOST 1048576: true; the input reads as it did. -/
def fnExactFingersOfUptoRow : OpenClaim := { program := "ytbcomfobnhekpaa", sum := "cc0931fc5f30c42e01874ebb767654cc7bad77f7e8a684e7ecb01562d0450f08", func := "loop.example/g01045/laws.FnExactFingersOf", spec := "fnExactFingersOf", apart := false, narrowed := true }
def FnExactFingersOfUptoSaid : Prop := fnExactFingersOfUptoRow.holds Try.pinned (OpenSpec.upto fnExactFingersOfSpec)

/-- 'laws.FnExactBestArrange', WHERE WHAT IT READS IS OF BULK AT MOST 1048576: true; the input reads as it did. -/
def fnExactBestArrangeUptoRow : OpenClaim := { program := "ytbcomfobnhekpaa", sum := "cc0931fc5f30c42e01874ebb767654cc7bad77f7e8a684e7ecb01562d0450f08", func := "loop.example/g01045/laws.FnExactBestArrange", spec := "fnExactBestArrange", recurses := true, apart := false, narrowed := true }
def FnExactBestArrangeUptoSaid : Prop := fnExactBestArrangeUptoRow.holds Try.pinned (OpenSpec.upto fnExactBestArrangeSpec)

/-- 'laws.FnExactTypeActs', WHERE WHAT IT READS IS OF BULK AT MOST 1048576: true; the input reads as it did. -/
def fnExactTypeActsUptoRow : OpenClaim := { program := "ytbcomfobnhekpaa", sum := "cc0931fc5f30c42e01874ebb767654cc7bad77f7e8a684e7ecb01562d0450f08", func := "loop.example/g01045/laws.FnExactTypeActs", spec := "fnExactTypeActs", apart := false, narrowed := true }
def FnExactTypeActsUptoSaid : Prop := fnExactTypeActsUptoRow.holds Try.pinned (OpenSpec.upto fnExactTypeActsSpec)

/-- 'laws.FnExactImproveArrange', WHERE WHAT IT READS IS OF BULK AT MOST 1048576: true; the input reads as it did. -/
def fnExactImproveArrangeUptoRow : OpenClaim := { program := "ytbcomfobnhekpaa", sum := "cc0931fc5f30c42e01874ebb767654cc7bad77f7e8a684e7ecb01562d0450f08", func := "loop.example/g01045/laws.FnExactImproveArrange", spec := "fnExactImproveArrange", apart := false, narrowed := true }
def FnExactImproveArrangeUptoSaid : Prop := fnExactImproveArrangeUptoRow.holds Try.pinned (OpenSpec.upto fnExactImproveArrangeSpec)

end Rows
end Go.Proofs.Ytbcomfobnhekpaa
