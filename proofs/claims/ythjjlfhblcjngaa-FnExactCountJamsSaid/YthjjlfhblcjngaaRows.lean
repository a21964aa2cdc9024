/-
  No cell of these rows narrows 'for every input' (looked for: loops, veiled, ifaces, maps, wideKeys, modest, calm, conditions, laid).
  DERIVED. THE GIVEN ROWS OF THIS SEAT. 12 by the template 'for every input the law returns true; each argument reads behind the call as it read before'; 0 by the template 'total and deterministic' (their statements: YthjjlfhblcjngaaTotals.lean).
  GIVEN WITH THE SEED: the statements are not yours to turn. If you find one false, say at which input.
  Laid BY PROGRAM, IN A SANDBOX (cutbox-rows.mjs): the forced cells as the released guide's own fill.sh prints them over the translation 03163d62e2f24c80… (all of the seat's roots in one cut). By AI agents, Wed Nov 11 2026. No macro, syntax, notation, axiom, sorry.
-/
import Derived.Test.YthjjlfhblcjngaaChecked
import GoSem.Claim
import GoSem.ClaimJoined
import GoSem.ClaimMapViews
import Derived.JoinedTies
import Derived.KernelRfl
namespace Go.Proofs.Ythjjlfhblcjngaa
/- THE CELL 'sum', in the pinned program and in every row, IS THE sha256 OF THE DUMP (.gsa) THAT YthjjlfhblcjngaaProg.lean LOADS. Nothing in Lean hashes anything: it is a label: what it is worth is what the hold of that sum in a sandbox is worth. -/
noncomputable def Try.pinned : Pinned := { name := "ythjjlfhblcjngaa", sum := "03163d62e2f24c80d09cfd876654c07ca304e87026ad114ebca04016e5f2b45f", checked := Try.checked }
namespace Rows
def none {H : Type} : Left H := { results := [], args := [] }

/-- 'laws.FnExactStrokeCost': WHATEVER THE INPUT: true; the input reads as it did. -/
def fnExactStrokeCostSpec : ChangeSpec := { name := "fnExactStrokeCost", fn := fun _ => fun
  | [d1, d2, d3] => { results := [.lit (.bool true)], args := [d1, d2, d3] }
  | _ => none }
def fnExactStrokeCostRow : OpenClaim := { program := "ythjjlfhblcjngaa", sum := "03163d62e2f24c80d09cfd876654c07ca304e87026ad114ebca04016e5f2b45f", func := "loop.example/g01045/laws.FnExactStrokeCost", spec := "fnExactStrokeCost", apart := false }
def FnExactStrokeCostSaid : Prop := fnExactStrokeCostRow.holds Try.pinned (OpenSpec.ofChange fnExactStrokeCostSpec)

/-- ITS FALSE NEIGHBOUR: 'it returns false'. Refute it at one input. -/
def fnExactStrokeCostWrong : ChangeSpec := { name := "fnExactStrokeCost", fn := fun _ => fun
  | [d1, d2, d3] => { results := [.lit (.bool false)], args := [d1, d2, d3] }
  | _ => none }
def FnExactStrokeCostWrongFalsely : Prop := fnExactStrokeCostRow.holds Try.pinned (OpenSpec.ofChange fnExactStrokeCostWrong)

/-- 'laws.FnExactActText': WHATEVER THE INPUT: true; the input reads as it did. -/
def fnExactActTextSpec : ChangeSpec := { name := "fnExactActText", fn := fun _ => fun
  | [d] => { results := [.lit (.bool true)], args := [d] }
  | _ => none }
def fnExactActTextRow : OpenClaim := { program := "ythjjlfhblcjngaa", sum := "03163d62e2f24c80d09cfd876654c07ca304e87026ad114ebca04016e5f2b45f", func := "loop.example/g01045/laws.FnExactActText", spec := "fnExactActText", apart := false }
def FnExactActTextSaid : Prop := fnExactActTextRow.holds Try.pinned (OpenSpec.ofChange fnExactActTextSpec)

/-- ITS FALSE NEIGHBOUR: 'it returns false'. Refute it at one input. -/
def fnExactActTextWrong : ChangeSpec := { name := "fnExactActText", fn := fun _ => fun
  | [d] => { results := [.lit (.bool false)], args := [d] }
  | _ => none }
def FnExactActTextWrongFalsely : Prop := fnExactActTextRow.holds Try.pinned (OpenSpec.ofChange fnExactActTextWrong)

/-- 'laws.FnExactPairsOf': WHATEVER THE INPUT: true; the input reads as it did. -/
def fnExactPairsOfSpec : ChangeSpec := { name := "fnExactPairsOf", fn := fun _ => fun
  | [d1, d2] => { results := [.lit (.bool true)], args := [d1, d2] }
  | _ => none }
def fnExactPairsOfRow : OpenClaim := { program := "ythjjlfhblcjngaa", sum := "03163d62e2f24c80d09cfd876654c07ca304e87026ad114ebca04016e5f2b45f", func := "loop.example/g01045/laws.FnExactPairsOf", spec := "fnExactPairsOf", apart := false }
def FnExactPairsOfSaid : Prop := fnExactPairsOfRow.holds Try.pinned (OpenSpec.ofChange fnExactPairsOfSpec)

/-- ITS FALSE NEIGHBOUR: 'it returns false'. Refute it at one input. -/
def fnExactPairsOfWrong : ChangeSpec := { name := "fnExactPairsOf", fn := fun _ => fun
  | [d1, d2] => { results := [.lit (.bool false)], args := [d1, d2] }
  | _ => none }
def FnExactPairsOfWrongFalsely : Prop := fnExactPairsOfRow.holds Try.pinned (OpenSpec.ofChange fnExactPairsOfWrong)

/-- 'laws.FnExactArrangeBound': WHATEVER THE INPUT: true; the input reads as it did. -/
def fnExactArrangeBoundSpec : ChangeSpec := { name := "fnExactArrangeBound", fn := fun _ => fun
  | [d1, d2] => { results := [.lit (.bool true)], args := [d1, d2] }
  | _ => none }
def fnExactArrangeBoundRow : OpenClaim := { program := "ythjjlfhblcjngaa", sum := "03163d62e2f24c80d09cfd876654c07ca304e87026ad114ebca04016e5f2b45f", func := "loop.example/g01045/laws.FnExactArrangeBound", spec := "fnExactArrangeBound", apart := false }
def FnExactArrangeBoundSaid : Prop := fnExactArrangeBoundRow.holds Try.pinned (OpenSpec.ofChange fnExactArrangeBoundSpec)

/-- ITS FALSE NEIGHBOUR: 'it returns false'. Refute it at one input. -/
def fnExactArrangeBoundWrong : ChangeSpec := { name := "fnExactArrangeBound", fn := fun _ => fun
  | [d1, d2] => { results := [.lit (.bool false)], args := [d1, d2] }
  | _ => none }
def FnExactArrangeBoundWrongFalsely : Prop := fnExactArrangeBoundRow.holds Try.pinned (OpenSpec.ofChange fnExactArrangeBoundWrong)

/-- 'laws.FnExactTicksFor': WHATEVER THE INPUT: true; the input reads as it did. -/
def fnExactTicksForSpec : ChangeSpec := { name := "fnExactTicksFor", fn := fun _ => fun
  | [d1, d2] => { results := [.lit (.bool true)], args := [d1, d2] }
  | _ => none }
def fnExactTicksForRow : OpenClaim := { program := "ythjjlfhblcjngaa", sum := "03163d62e2f24c80d09cfd876654c07ca304e87026ad114ebca04016e5f2b45f", func := "loop.example/g01045/laws.FnExactTicksFor", spec := "fnExactTicksFor", apart := false }
def FnExactTicksForSaid : Prop := fnExactTicksForRow.holds Try.pinned (OpenSpec.ofChange fnExactTicksForSpec)

/-- ITS FALSE NEIGHBOUR: 'it returns false'. Refute it at one input. -/
def fnExactTicksForWrong : ChangeSpec := { name := "fnExactTicksFor", fn := fun _ => fun
  | [d1, d2] => { results := [.lit (.bool false)], args := [d1, d2] }
  | _ => none }
def FnExactTicksForWrongFalsely : Prop := fnExactTicksForRow.holds Try.pinned (OpenSpec.ofChange fnExactTicksForWrong)

/-- 'laws.FnExactActsForLine': WHATEVER THE INPUT: true; the input reads as it did. -/
def fnExactActsForLineSpec : ChangeSpec := { name := "fnExactActsForLine", fn := fun _ => fun
  | [d1, d2] => { results := [.lit (.bool true)], args := [d1, d2] }
  | _ => none }
def fnExactActsForLineRow : OpenClaim := { program := "ythjjlfhblcjngaa", sum := "03163d62e2f24c80d09cfd876654c07ca304e87026ad114ebca04016e5f2b45f", func := "loop.example/g01045/laws.FnExactActsForLine", spec := "fnExactActsForLine", apart := false }
def FnExactActsForLineSaid : Prop := fnExactActsForLineRow.holds Try.pinned (OpenSpec.ofChange fnExactActsForLineSpec)

/-- ITS FALSE NEIGHBOUR: 'it returns false'. Refute it at one input. -/
def fnExactActsForLineWrong : ChangeSpec := { name := "fnExactActsForLine", fn := fun _ => fun
  | [d1, d2] => { results := [.lit (.bool false)], args := [d1, d2] }
  | _ => none }
def FnExactActsForLineWrongFalsely : Prop := fnExactActsForLineRow.holds Try.pinned (OpenSpec.ofChange fnExactActsForLineWrong)

/-- 'laws.FnExactLineOf': WHATEVER THE INPUT: true; the input reads as it did. -/
def fnExactLineOfSpec : ChangeSpec := { name := "fnExactLineOf", fn := fun _ => fun
  | [d1, d2] => { results := [.lit (.bool true)], args := [d1, d2] }
  | _ => none }
def fnExactLineOfRow : OpenClaim := { program := "ythjjlfhblcjngaa", sum := "03163d62e2f24c80d09cfd876654c07ca304e87026ad114ebca04016e5f2b45f", func := "loop.example/g01045/laws.FnExactLineOf", spec := "fnExactLineOf", apart := false }
def FnExactLineOfSaid : Prop := fnExactLineOfRow.holds Try.pinned (OpenSpec.ofChange fnExactLineOfSpec)

/-- ITS FALSE NEIGHBOUR: 'it returns false'. Refute it at one input. -/
def fnExactLineOfWrong : ChangeSpec := { name := "fnExactLineOf", fn := fun _ => fun
  | [d1, d2] => { results := [.lit (.bool false)], args := [d1, d2] }
  | _ => none }
def FnExactLineOfWrongFalsely : Prop := fnExactLineOfRow.holds Try.pinned (OpenSpec.ofChange fnExactLineOfWrong)

/-- 'laws.FnExactFirstJam': WHATEVER THE INPUT: true; the input reads as it did. -/
def fnExactFirstJamSpec : ChangeSpec := { name := "fnExactFirstJam", fn := fun _ => fun
  | [d1, d2] => { results := [.lit (.bool true)], args := [d1, d2] }
  | _ => none }
def fnExactFirstJamRow : OpenClaim := { program := "ythjjlfhblcjngaa", sum := "03163d62e2f24c80d09cfd876654c07ca304e87026ad114ebca04016e5f2b45f", func := "loop.example/g01045/laws.FnExactFirstJam", spec := "fnExactFirstJam", apart := false }
def FnExactFirstJamSaid : Prop := fnExactFirstJamRow.holds Try.pinned (OpenSpec.ofChange fnExactFirstJamSpec)

/-- ITS FALSE NEIGHBOUR: 'it returns false'. Refute it at one input. -/
def fnExactFirstJamWrong : ChangeSpec := { name := "fnExactFirstJam", fn := fun _ => fun
  | [d1, d2] => { results := [.lit (.bool false)], args := [d1, d2] }
  | _ => none }
def FnExactFirstJamWrongFalsely : Prop := fnExactFirstJamRow.holds Try.pinned (OpenSpec.ofChange fnExactFirstJamWrong)

/-- 'laws.FnExactCountJams': WHATEVER THE INPUT: true; the input reads as it did. -/
def fnExactCountJamsSpec : ChangeSpec := { name := "fnExactCountJams", fn := fun _ => fun
  | [d1, d2] => { results := [.lit (.bool true)], args := [d1, d2] }
  | _ => none }
def fnExactCountJamsRow : OpenClaim := { program := "ythjjlfhblcjngaa", sum := "03163d62e2f24c80d09cfd876654c07ca304e87026ad114ebca04016e5f2b45f", func := "loop.example/g01045/laws.FnExactCountJams", spec := "fnExactCountJams", apart := false }
def FnExactCountJamsSaid : Prop := fnExactCountJamsRow.holds Try.pinned (OpenSpec.ofChange fnExactCountJamsSpec)

/-- ITS FALSE NEIGHBOUR: 'it returns false'. Refute it at one input. -/
def fnExactCountJamsWrong : ChangeSpec := { name := "fnExactCountJams", fn := fun _ => fun
  | [d1, d2] => { results := [.lit (.bool false)], args := [d1, d2] }
  | _ => none }
def FnExactCountJamsWrongFalsely : Prop := fnExactCountJamsRow.holds Try.pinned (OpenSpec.ofChange fnExactCountJamsWrong)

/-- 'laws.FnExactReadLayout': WHATEVER THE INPUT: true; the input reads as it did. -/
def fnExactReadLayoutSpec : ChangeSpec := { name := "fnExactReadLayout", fn := fun _ => fun
  | [d] => { results := [.lit (.bool true)], args := [d] }
  | _ => none }
def fnExactReadLayoutRow : OpenClaim := { program := "ythjjlfhblcjngaa", sum := "03163d62e2f24c80d09cfd876654c07ca304e87026ad114ebca04016e5f2b45f", func := "loop.example/g01045/laws.FnExactReadLayout", spec := "fnExactReadLayout", apart := false }
def FnExactReadLayoutSaid : Prop := fnExactReadLayoutRow.holds Try.pinned (OpenSpec.ofChange fnExactReadLayoutSpec)

/-- ITS FALSE NEIGHBOUR: 'it returns false'. Refute it at one input. -/
def fnExactReadLayoutWrong : ChangeSpec := { name := "fnExactReadLayout", fn := fun _ => fun
  | [d] => { results := [.lit (.bool false)], args := [d] }
  | _ => none }
def FnExactReadLayoutWrongFalsely : Prop := fnExactReadLayoutRow.holds Try.pinned (OpenSpec.ofChange fnExactReadLayoutWrong)

/-- 'laws.FnExactFastestStrokes': WHATEVER THE INPUT: true; the input reads as it did. -/
def fnExactFastestStrokesSpec : ChangeSpec := { name := "fnExactFastestStrokes", fn := fun _ => fun
  | [d1, d2] => { results := [.lit (.bool true)], args := [d1, d2] }
  | _ => none }
def fnExactFastestStrokesRow : OpenClaim := { program := "ythjjlfhblcjngaa", sum := "03163d62e2f24c80d09cfd876654c07ca304e87026ad114ebca04016e5f2b45f", func := "loop.example/g01045/laws.FnExactFastestStrokes", spec := "fnExactFastestStrokes", apart := false }
def FnExactFastestStrokesSaid : Prop := fnExactFastestStrokesRow.holds Try.pinned (OpenSpec.ofChange fnExactFastestStrokesSpec)

/-- ITS FALSE NEIGHBOUR: 'it returns false'. Refute it at one input. -/
def fnExactFastestStrokesWrong : ChangeSpec := { name := "fnExactFastestStrokes", fn := fun _ => fun
  | [d1, d2] => { results := [.lit (.bool false)], args := [d1, d2] }
  | _ => none }
def FnExactFastestStrokesWrongFalsely : Prop := fnExactFastestStrokesRow.holds Try.pinned (OpenSpec.ofChange fnExactFastestStrokesWrong)

/-- 'laws.FnExactMirrorLayout': WHATEVER THE INPUT: true; the input reads as it did. -/
def fnExactMirrorLayoutSpec : ChangeSpec := { name := "fnExactMirrorLayout", fn := fun _ => fun
  | [d] => { results := [.lit (.bool true)], args := [d] }
  | _ => none }
def fnExactMirrorLayoutRow : OpenClaim := { program := "ythjjlfhblcjngaa", sum := "03163d62e2f24c80d09cfd876654c07ca304e87026ad114ebca04016e5f2b45f", func := "loop.example/g01045/laws.FnExactMirrorLayout", spec := "fnExactMirrorLayout", apart := false }
def FnExactMirrorLayoutSaid : Prop := fnExactMirrorLayoutRow.holds Try.pinned (OpenSpec.ofChange fnExactMirrorLayoutSpec)

/-- ITS FALSE NEIGHBOUR: 'it returns false'. Refute it at one input. -/
def fnExactMirrorLayoutWrong : ChangeSpec := { name := "fnExactMirrorLayout", fn := fun _ => fun
  | [d] => { results := [.lit (.bool false)], args := [d] }
  | _ => none }
def FnExactMirrorLayoutWrongFalsely : Prop := fnExactMirrorLayoutRow.holds Try.pinned (OpenSpec.ofChange fnExactMirrorLayoutWrong)

/- THE SECOND FORM. 'bulk': how many values and letters a reading holds, each counted each time it is reached (what is shared counts as often as it is met; a slice's spare places count too). A statement '..UptoSaid' is the law's where the arguments, and the package variables that the reading takes, are together of bulk at most 1048576: NARROWER than '..Said'. Prove '..Said' where nothing that the law and all that it calls make is longer than what came in: it says more and counts as full. Else prove '..UptoSaid'. A law counts once. -/
mutual
def uptoBulk {H : Type} : DataW H → Nat
  | .lit (.string bytes) => bytes.length + 1
  | .lit _ => 1
  | .nil => 1
  | .ptr d => uptoBulk d + 1
  | .slice elems spare => uptoBulkAll elems + uptoBulkAll spare + 1
  | .agg parts => uptoBulkAll parts + 1
  | .iface _ d => uptoBulk d + 1
  | .map entries => uptoBulkEntries entries + 1
  | .held _ => 1
def uptoBulkAll {H : Type} : List (DataW H) → Nat
  | [] => 0
  | d :: r => uptoBulk d + uptoBulkAll r
def uptoBulkEntries {H : Type} : List (Lit × DataW H) → Nat
  | [] => 0
  | x :: r => uptoBulkEntry x + uptoBulkEntries r
def uptoBulkEntry {H : Type} : Lit × DataW H → Nat
  | (.string bytes, d) => bytes.length + uptoBulk d + 1
  | (_, d) => uptoBulk d + 1
 end
def uptoSmall : (H : Type) → List (DataW H) → Bool := fun _ ds => decide (uptoBulkAll ds ≤ 1048576)
def OpenSpec.upto (s : _root_.Go.ChangeSpec) : _root_.Go.OpenSpec := { _root_.Go.OpenSpec.ofChange s with cond := some uptoSmall }

/-- 'laws.FnExactStrokeCost', WHERE WHAT IT READS IS OF BULK AT MOST 1048576: true; the input reads as it did. -/
def fnExactStrokeCostUptoRow : OpenClaim := { program := "ythjjlfhblcjngaa", sum := "03163d62e2f24c80d09cfd876654c07ca304e87026ad114ebca04016e5f2b45f", func := "loop.example/g01045/laws.FnExactStrokeCost", spec := "fnExactStrokeCost", apart := false, narrowed := true }
def FnExactStrokeCostUptoSaid : Prop := fnExactStrokeCostUptoRow.holds Try.pinned (OpenSpec.upto fnExactStrokeCostSpec)

/-- 'laws.FnExactActText', WHERE WHAT IT READS IS OF BULK AT MOST 1048576: true; the input reads as it did. -/
def fnExactActTextUptoRow : OpenClaim := { program := "ythjjlfhblcjngaa", sum := "03163d62e2f24c80d09cfd876654c07ca304e87026ad114ebca04016e5f2b45f", func := "loop.example/g01045/laws.FnExactActText", spec := "fnExactActText", apart := false, narrowed := true }
def FnExactActTextUptoSaid : Prop := fnExactActTextUptoRow.holds Try.pinned (OpenSpec.upto fnExactActTextSpec)

/-- 'laws.FnExactPairsOf', WHERE WHAT IT READS IS OF BULK AT MOST 1048576: true; the input reads as it did. -/
def fnExactPairsOfUptoRow : OpenClaim := { program := "ythjjlfhblcjngaa", sum := "03163d62e2f24c80d09cfd876654c07ca304e87026ad114ebca04016e5f2b45f", func := "loop.example/g01045/laws.FnExactPairsOf", spec := "fnExactPairsOf", apart := false, narrowed := true }
def FnExactPairsOfUptoSaid : Prop := fnExactPairsOfUptoRow.holds Try.pinned (OpenSpec.upto fnExactPairsOfSpec)

/-- 'laws.FnExactArrangeBound', WHERE WHAT IT READS IS OF BULK AT MOST 1048576: true; the input reads as it did. -/
def fnExactArrangeBoundUptoRow : OpenClaim := { program := "ythjjlfhblcjngaa", sum := "03163d62e2f24c80d09cfd876654c07ca304e87026ad114ebca04016e5f2b45f", func := "loop.example/g01045/laws.FnExactArrangeBound", spec := "fnExactArrangeBound", apart := false, narrowed := true }
def FnExactArrangeBoundUptoSaid : Prop := fnExactArrangeBoundUptoRow.holds Try.pinned (OpenSpec.upto fnExactArrangeBoundSpec)

/-- 'laws.FnExactTicksFor', WHERE WHAT IT READS IS OF BULK AT MOST 1048576: true; the input reads as it did. -/
def fnExactTicksForUptoRow : OpenClaim := { program := "ythjjlfhblcjngaa", sum := "03163d62e2f24c80d09cfd876654c07ca304e87026ad114ebca04016e5f2b45f", func := "loop.example/g01045/laws.FnExactTicksFor", spec := "fnExactTicksFor", apart := false, narrowed := true }
def FnExactTicksForUptoSaid : Prop := fnExactTicksForUptoRow.holds Try.pinned (OpenSpec.upto fnExactTicksForSpec)

/-- 'laws.FnExactActsForLine', WHERE WHAT IT READS IS OF BULK AT MOST 1048576: true; the input reads as it did. -/
def fnExactActsForLineUptoRow : OpenClaim := { program := "ythjjlfhblcjngaa", sum := "03163d62e2f24c80d09cfd876654c07ca304e87026ad114ebca04016e5f2b45f", func := "loop.example/g01045/laws.FnExactActsForLine", spec := "fnExactActsForLine", apart := false, narrowed := true }
def FnExactActsForLineUptoSaid : Prop := fnExactActsForLineUptoRow.holds Try.pinned (OpenSpec.upto fnExactActsForLineSpec)

/-- 'laws.FnExactLineOf', WHERE WHAT IT READS IS OF BULK AT MOST 1048576: true; the input reads as it did. -/
def fnExactLineOfUptoRow : OpenClaim := { program := "ythjjlfhblcjngaa", sum := "03163d62e2f24c80d09cfd876654c07ca304e87026ad114ebca04016e5f2b45f", func := "loop.example/g01045/laws.FnExactLineOf", spec := "fnExactLineOf", apart := false, narrowed := true }
def FnExactLineOfUptoSaid : Prop := fnExactLineOfUptoRow.holds Try.pinned (OpenSpec.upto fnExactLineOfSpec)

/-- 'laws.FnExactFirstJam', WHERE WHAT IT READS IS OF BULK AT MOST 1048576: true; the input reads as it did. -/
def fnExactFirstJamUptoRow : OpenClaim := { program := "ythjjlfhblcjngaa", sum := "03163d62e2f24c80d09cfd876654c07ca304e87026ad114ebca04016e5f2b45f", func := "loop.example/g01045/laws.FnExactFirstJam", spec := "fnExactFirstJam", apart := false, narrowed := true }
def FnExactFirstJamUptoSaid : Prop := fnExactFirstJamUptoRow.holds Try.pinned (OpenSpec.upto fnExactFirstJamSpec)

/-- 'laws.FnExactCountJams', WHERE WHAT IT READS IS OF BULK AT MOST 1048576: true; the input reads as it did. -/
def fnExactCountJamsUptoRow : OpenClaim := { program := "ythjjlfhblcjngaa", sum := "03163d62e2f24c80d09cfd876654c07ca304e87026ad114ebca04016e5f2b45f", func := "loop.example/g01045/laws.FnExactCountJams", spec := "fnExactCountJams", apart := false, narrowed := true }
def FnExactCountJamsUptoSaid : Prop := fnExactCountJamsUptoRow.holds Try.pinned (OpenSpec.upto fnExactCountJamsSpec)

/-- 'laws.FnExactReadLayout', WHERE WHAT IT READS IS OF BULK AT MOST 1048576: true; the input reads as it did. -/
def fnExactReadLayoutUptoRow : OpenClaim := { program := "ythjjlfhblcjngaa", sum := "03163d62e2f24c80d09cfd876654c07ca304e87026ad114ebca04016e5f2b45f", func := "loop.example/g01045/laws.FnExactReadLayout", spec := "fnExactReadLayout", apart := false, narrowed := true }
def FnExactReadLayoutUptoSaid : Prop := fnExactReadLayoutUptoRow.holds Try.pinned (OpenSpec.upto fnExactReadLayoutSpec)

/-- 'laws.FnExactFastestStrokes', WHERE WHAT IT READS IS OF BULK AT MOST 1048576: true; the input reads as it did. -/
def fnExactFastestStrokesUptoRow : OpenClaim := { program := "ythjjlfhblcjngaa", sum := "03163d62e2f24c80d09cfd876654c07ca304e87026ad114ebca04016e5f2b45f", func := "loop.example/g01045/laws.FnExactFastestStrokes", spec := "fnExactFastestStrokes", apart := false, narrowed := true }
def FnExactFastestStrokesUptoSaid : Prop := fnExactFastestStrokesUptoRow.holds Try.pinned (OpenSpec.upto fnExactFastestStrokesSpec)

/-- 'laws.FnExactMirrorLayout', WHERE WHAT IT READS IS OF BULK AT MOST 1048576: true; the input reads as it did. -/
def fnExactMirrorLayoutUptoRow : OpenClaim := { program := "ythjjlfhblcjngaa", sum := "03163d62e2f24c80d09cfd876654c07ca304e87026ad114ebca04016e5f2b45f", func := "loop.example/g01045/laws.FnExactMirrorLayout", spec := "fnExactMirrorLayout", apart := false, narrowed := true }
def FnExactMirrorLayoutUptoSaid : Prop := fnExactMirrorLayoutUptoRow.holds Try.pinned (OpenSpec.upto fnExactMirrorLayoutSpec)

end Rows
end Go.Proofs.Ythjjlfhblcjngaa
