/-
  No cell of these rows narrows 'for every input' (looked for: loops, veiled, ifaces, maps, wideKeys, modest, calm, conditions, laid).
  DERIVED. THE GIVEN ROWS OF THIS SEAT. 7 by the template 'for every input the law returns true; each argument reads behind the call as it read before'; 0 by the template 'total and deterministic' (their statements: YteigdlgijdmfkaaTotals.lean).
  GIVEN WITH THE SEED: the statements are not yours to turn. If you find one false, say at which input.
  Laid BY PROGRAM, IN A SANDBOX (cutbox-rows.mjs): the forced cells as the released guide's own fill.sh prints them over the translation f349363e89264603… (all of the seat's roots in one cut). By AI agents, Wed Nov 11 2026. No macro, syntax, notation, axiom, sorry.
-/
import Derived.Test.YteigdlgijdmfkaaChecked
import GoSem.Claim
import GoSem.ClaimJoined
import GoSem.ClaimMapViews
import Derived.JoinedTies
import Derived.KernelRfl
namespace Go.Proofs.Yteigdlgijdmfkaa
/- THE CELL 'sum', in the pinned program and in every row, IS THE sha256 OF THE DUMP (.gsa) THAT YteigdlgijdmfkaaProg.lean LOADS. Nothing in Lean hashes anything: it is a label: what it is worth is what the hold of that sum in a sandbox is worth. -/
noncomputable def Try.pinned : Pinned := { name := "yteigdlgijdmfkaa", sum := "f349363e892646038c16fdf56f41b79139bb2f65a834b2514bc185f460cf6305", checked := Try.checked }
namespace Rows
def none {H : Type} : Left H := { results := [], args := [] }

/-- 'laws.FnExactTextOfPresses': WHATEVER THE INPUT: true; the input reads as it did. -/
def fnExactTextOfPressesSpec : ChangeSpec := { name := "fnExactTextOfPresses", fn := fun _ => fun
  | [d1, d2, d3] => { results := [.lit (.bool true)], args := [d1, d2, d3] }
  | _ => none }
def fnExactTextOfPressesRow : OpenClaim := { program := "yteigdlgijdmfkaa", sum := "f349363e892646038c16fdf56f41b79139bb2f65a834b2514bc185f460cf6305", func := "loop.example/g01045/laws.FnExactTextOfPresses", spec := "fnExactTextOfPresses", apart := false }
def FnExactTextOfPressesSaid : Prop := fnExactTextOfPressesRow.holds Try.pinned (OpenSpec.ofChange fnExactTextOfPressesSpec)

/-- ITS FALSE NEIGHBOUR: 'it returns false'. Refute it at one input. -/
def fnExactTextOfPressesWrong : ChangeSpec := { name := "fnExactTextOfPresses", fn := fun _ => fun
  | [d1, d2, d3] => { results := [.lit (.bool false)], args := [d1, d2, d3] }
  | _ => none }
def FnExactTextOfPressesWrongFalsely : Prop := fnExactTextOfPressesRow.holds Try.pinned (OpenSpec.ofChange fnExactTextOfPressesWrong)

/-- 'laws.FnExactPressesFor': WHATEVER THE INPUT: true; the input reads as it did. -/
def fnExactPressesForSpec : ChangeSpec := { name := "fnExactPressesFor", fn := fun _ => fun
  | [d1, d2, d3] => { results := [.lit (.bool true)], args := [d1, d2, d3] }
  | _ => none }
def fnExactPressesForRow : OpenClaim := { program := "yteigdlgijdmfkaa", sum := "f349363e892646038c16fdf56f41b79139bb2f65a834b2514bc185f460cf6305", func := "loop.example/g01045/laws.FnExactPressesFor", spec := "fnExactPressesFor", apart := false }
def FnExactPressesForSaid : Prop := fnExactPressesForRow.holds Try.pinned (OpenSpec.ofChange fnExactPressesForSpec)

/-- ITS FALSE NEIGHBOUR: 'it returns false'. Refute it at one input. -/
def fnExactPressesForWrong : ChangeSpec := { name := "fnExactPressesFor", fn := fun _ => fun
  | [d1, d2, d3] => { results := [.lit (.bool false)], args := [d1, d2, d3] }
  | _ => none }
def FnExactPressesForWrongFalsely : Prop := fnExactPressesForRow.holds Try.pinned (OpenSpec.ofChange fnExactPressesForWrong)

/-- 'laws.FnExactLettersOf': WHATEVER THE INPUT: true; the input reads as it did. -/
def fnExactLettersOfSpec : ChangeSpec := { name := "fnExactLettersOf", fn := fun _ => fun
  | [d1, d2] => { results := [.lit (.bool true)], args := [d1, d2] }
  | _ => none }
def fnExactLettersOfRow : OpenClaim := { program := "yteigdlgijdmfkaa", sum := "f349363e892646038c16fdf56f41b79139bb2f65a834b2514bc185f460cf6305", func := "loop.example/g01045/laws.FnExactLettersOf", spec := "fnExactLettersOf", apart := false }
def FnExactLettersOfSaid : Prop := fnExactLettersOfRow.holds Try.pinned (OpenSpec.ofChange fnExactLettersOfSpec)

/-- ITS FALSE NEIGHBOUR: 'it returns false'. Refute it at one input. -/
def fnExactLettersOfWrong : ChangeSpec := { name := "fnExactLettersOf", fn := fun _ => fun
  | [d1, d2] => { results := [.lit (.bool false)], args := [d1, d2] }
  | _ => none }
def FnExactLettersOfWrongFalsely : Prop := fnExactLettersOfRow.holds Try.pinned (OpenSpec.ofChange fnExactLettersOfWrong)

/-- 'laws.FnExactMissingLetters': WHATEVER THE INPUT: true; the input reads as it did. -/
def fnExactMissingLettersSpec : ChangeSpec := { name := "fnExactMissingLetters", fn := fun _ => fun
  | [d1, d2, d3] => { results := [.lit (.bool true)], args := [d1, d2, d3] }
  | _ => none }
def fnExactMissingLettersRow : OpenClaim := { program := "yteigdlgijdmfkaa", sum := "f349363e892646038c16fdf56f41b79139bb2f65a834b2514bc185f460cf6305", func := "loop.example/g01045/laws.FnExactMissingLetters", spec := "fnExactMissingLetters", apart := false }
def FnExactMissingLettersSaid : Prop := fnExactMissingLettersRow.holds Try.pinned (OpenSpec.ofChange fnExactMissingLettersSpec)

/-- ITS FALSE NEIGHBOUR: 'it returns false'. Refute it at one input. -/
def fnExactMissingLettersWrong : ChangeSpec := { name := "fnExactMissingLetters", fn := fun _ => fun
  | [d1, d2, d3] => { results := [.lit (.bool false)], args := [d1, d2, d3] }
  | _ => none }
def FnExactMissingLettersWrongFalsely : Prop := fnExactMissingLettersRow.holds Try.pinned (OpenSpec.ofChange fnExactMissingLettersWrong)

/-- 'laws.FnExactMirrorLayout': WHATEVER THE INPUT: true; the input reads as it did. -/
def fnExactMirrorLayoutSpec : ChangeSpec := { name := "fnExactMirrorLayout", fn := fun _ => fun
  | [d] => { results := [.lit (.bool true)], args := [d] }
  | _ => none }
def fnExactMirrorLayoutRow : OpenClaim := { program := "yteigdlgijdmfkaa", sum := "f349363e892646038c16fdf56f41b79139bb2f65a834b2514bc185f460cf6305", func := "loop.example/g01045/laws.FnExactMirrorLayout", spec := "fnExactMirrorLayout", apart := false }
def FnExactMirrorLayoutSaid : Prop := fnExactMirrorLayoutRow.holds Try.pinned (OpenSpec.ofChange fnExactMirrorLayoutSpec)

/-- ITS FALSE NEIGHBOUR: 'it returns false'. Refute it at one input. -/
def fnExactMirrorLayoutWrong : ChangeSpec := { name := "fnExactMirrorLayout", fn := fun _ => fun
  | [d] => { results := [.lit (.bool false)], args := [d] }
  | _ => none }
def FnExactMirrorLayoutWrongFalsely : Prop := fnExactMirrorLayoutRow.holds Try.pinned (OpenSpec.ofChange fnExactMirrorLayoutWrong)

/-- 'laws.FnExactReadLayout': WHATEVER THE INPUT: true; the input reads as it did. -/
def fnExactReadLayoutSpec : ChangeSpec := { name := "fnExactReadLayout", fn := fun _ => fun
  | [d] => { results := [.lit (.bool true)], args := [d] }
  | _ => none }
def fnExactReadLayoutRow : OpenClaim := { program := "yteigdlgijdmfkaa", sum := "f349363e892646038c16fdf56f41b79139bb2f65a834b2514bc185f460cf6305", func := "loop.example/g01045/laws.FnExactReadLayout", spec := "fnExactReadLayout", apart := false }
def FnExactReadLayoutSaid : Prop := fnExactReadLayoutRow.holds Try.pinned (OpenSpec.ofChange fnExactReadLayoutSpec)

/-- ITS FALSE NEIGHBOUR: 'it returns false'. Refute it at one input. -/
def fnExactReadLayoutWrong : ChangeSpec := { name := "fnExactReadLayout", fn := fun _ => fun
  | [d] => { results := [.lit (.bool false)], args := [d] }
  | _ => none }
def FnExactReadLayoutWrongFalsely : Prop := fnExactReadLayoutRow.holds Try.pinned (OpenSpec.ofChange fnExactReadLayoutWrong)

/-- 'laws.FnExactPairsOf': WHATEVER THE INPUT: true; the input reads as it did. -/
def fnExactPairsOfSpec : ChangeSpec := { name := "fnExactPairsOf", fn := fun _ => fun
  | [d1, d2] => { results := [.lit (.bool true)], args := [d1, d2] }
  | _ => none }
def fnExactPairsOfRow : OpenClaim := { program := "yteigdlgijdmfkaa", sum := "f349363e892646038c16fdf56f41b79139bb2f65a834b2514bc185f460cf6305", func := "loop.example/g01045/laws.FnExactPairsOf", spec := "fnExactPairsOf", apart := false }
def FnExactPairsOfSaid : Prop := fnExactPairsOfRow.holds Try.pinned (OpenSpec.ofChange fnExactPairsOfSpec)

/-- ITS FALSE NEIGHBOUR: 'it returns false'. Refute it at one input. -/
def fnExactPairsOfWrong : ChangeSpec := { name := "fnExactPairsOf", fn := fun _ => fun
  | [d1, d2] => { results := [.lit (.bool false)], args := [d1, d2] }
  | _ => none }
def FnExactPairsOfWrongFalsely : Prop := fnExactPairsOfRow.holds Try.pinned (OpenSpec.ofChange fnExactPairsOfWrong)

/- THE SECOND FORM. 'bulk': how many values and letters a reading holds, each counted each time it is reached (what is shared counts as often as it is met; a slice's spare places count too). A statement '..UptoSaid' is the law's where the arguments, and the package variables that the reading takes, are together of bulk at most 1048576: NARROWER than '..Said'. Prove '..Said' where nothing that the law and all that it calls make is longer than what came in: it says more and counts as full. Else prove '..UptoSaid'. A law counts once. -/
mutual
def uptoBulk {H : Type} : DataW H → Nat
  | .lit (.string bytes) => bytes.length + 1
  | .lit _ => 1
  | .nil => 1
  | .ptr d => uptoBulk d + 1
  | .slice elems spare => uptoBulkAll elems + uptoBulkAll spare + 1
  | .agg parts => uptoBulkAll parts + 1
  | .iface _ d => uptoBulk d + 1
  | .map entries => uptoBulkEntries entries + 1
  | .held _ => 1
def uptoBulkAll {H : Type} : List (DataW H) → Nat
  | [] => 0
  | d :: r => uptoBulk d + uptoBulkAll r
def uptoBulkEntries {H : Type} : List (Lit × DataW H) → Nat
  | [] => 0
  | x :: r => uptoBulkEntry x + uptoBulkEntries r
def uptoBulkEntry {H : Type} : Lit × DataW H → Nat
  | (.string bytes, d) => bytes.length + uptoBulk d + 1
  | (_, d) => uptoBulk d + 1
 end
def uptoSmall : (H : Type) → List (DataW H) → Bool := fun _ ds => decide (uptoBulkAll ds ≤ 1048576)
def OpenSpec.upto (s : _root_.Go.ChangeSpec) : _root_.Go.OpenSpec := { _root_.Go.OpenSpec.ofChange s with cond := some uptoSmall }

/-- 'laws.FnExactTextOfPresses', WHERE WHAT IT READS IS OF BULK AT MOST 1048576: true; the input reads as it did. -/
def fnExactTextOfPressesUptoRow : OpenClaim := { program := "yteigdlgijdmfkaa", sum := "f349363e892646038c16fdf56f41b79139bb2f65a834b2514bc185f460cf6305", func := "loop.example/g01045/laws.FnExactTextOfPresses", spec := "fnExactTextOfPresses", apart := false, narrowed := true }
def FnExactTextOfPressesUptoSaid : Prop := fnExactTextOfPressesUptoRow.holds Try.pinned (OpenSpec.upto fnExactTextOfPressesSpec)

/-- 'laws.FnExactPressesFor', WHERE WHAT IT READS IS OF BULK AT MOST 1048576: true; the input reads as it did. -/
def fnExactPressesForUptoRow : OpenClaim := { program := "yteigdlgijdmfkaa", sum := "f349363e892646038c16fdf56f41b79139bb2f65a834b2514bc185f460cf6305", func := "loop.example/g01045/laws.FnExactPressesFor", spec := "fnExactPressesFor", apart := false, narrowed := true }
def FnExactPressesForUptoSaid : Prop := fnExactPressesForUptoRow.holds Try.pinned (OpenSpec.upto fnExactPressesForSpec)

/-- 'laws.FnExactLettersOf', WHERE WHAT IT READS IS OF BULK AT MOST 1048576: true; the input reads as it did. -/
def fnExactLettersOfUptoRow : OpenClaim := { program := "yteigdlgijdmfkaa", sum := "f349363e892646038c16fdf56f41b79139bb2f65a834b2514bc185f460cf6305", func := "loop.example/g01045/laws.FnExactLettersOf", spec := "fnExactLettersOf", apart := false, narrowed := true }
def FnExactLettersOfUptoSaid : Prop := fnExactLettersOfUptoRow.holds Try.pinned (OpenSpec.upto fnExactLettersOfSpec)

/-- 'laws.FnExactMissingLetters', WHERE WHAT IT READS IS OF BULK AT MOST 1048576: true; the input reads as it did. -/
def fnExactMissingLettersUptoRow : OpenClaim := { program := "yteigdlgijdmfkaa", sum := "f349363e892646038c16fdf56f41b79139bb2f65a834b2514bc185f460cf6305", func := "loop.example/g01045/laws.FnExactMissingLetters", spec := "fnExactMissingLetters", apart := false, narrowed := true }
def FnExactMissingLettersUptoSaid : Prop := fnExactMissingLettersUptoRow.holds Try.pinned (OpenSpec.upto fnExactMissingLettersSpec)

/-- 'laws.FnExactMirrorLayout', WHERE WHAT IT READS IS OF BULK AT MOST 1048576: true; the input reads as it did. -/
def fnExactMirrorLayoutUptoRow : OpenClaim := { program := "yteigdlgijdmfkaa", sum := "f349363e892646038c16fdf56f41b79139bb2f65a834b2514bc185f460cf6305", func := "loop.example/g01045/laws.FnExactMirrorLayout", spec := "fnExactMirrorLayout", apart := false, narrowed := true }
def FnExactMirrorLayoutUptoSaid : Prop := fnExactMirrorLayoutUptoRow.holds Try.pinned (OpenSpec.upto fnExactMirrorLayoutSpec)

/-- 'laws.FnExactReadLayout', WHERE WHAT IT READS IS OF BULK AT MOST 1048576: true; the input reads as it did. -/
def fnExactReadLayoutUptoRow : OpenClaim := { program := "yteigdlgijdmfkaa", sum := "f349363e892646038c16fdf56f41b79139bb2f65a834b2514bc185f460cf6305", func := "loop.example/g01045/laws.FnExactReadLayout", spec := "fnExactReadLayout", apart := false, narrowed := true }
def FnExactReadLayoutUptoSaid : Prop := fnExactReadLayoutUptoRow.holds Try.pinned (OpenSpec.upto fnExactReadLayoutSpec)

/-- 'laws.FnExactPairsOf', WHERE WHAT IT READS IS OF BULK AT MOST 1048576: true; the input reads as it did. -/
def fnExactPairsOfUptoRow : OpenClaim := { program := "yteigdlgijdmfkaa", sum := "f349363e892646038c16fdf56f41b79139bb2f65a834b2514bc185f460cf6305", func := "loop.example/g01045/laws.FnExactPairsOf", spec := "fnExactPairsOf", apart := false, narrowed := true }
def FnExactPairsOfUptoSaid : Prop := fnExactPairsOfUptoRow.holds Try.pinned (OpenSpec.upto fnExactPairsOfSpec)

end Rows
end Go.Proofs.Yteigdlgijdmfkaa
