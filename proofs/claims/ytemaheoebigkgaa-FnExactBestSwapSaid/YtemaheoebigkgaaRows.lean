/-
  No cell of these rows narrows 'for every input' (looked for: loops, veiled, ifaces, maps, wideKeys, modest, calm, conditions, laid).
  DERIVED. THE GIVEN ROWS OF THIS SEAT. 12 by the template 'for every input the law returns true; each argument reads behind the call as it read before'; 0 by the template 'total and deterministic' (their statements: YtemaheoebigkgaaTotals.lean).
  GIVEN WITH THE SEED: the statements are not yours to turn. If you find one false, say at which input.
  Laid BY PROGRAM, IN A SANDBOX (cutbox-rows.mjs): the forced cells as the released guide's own fill.sh prints them over the translation 80a988afb5569c9a… (all of the seat's roots in one cut). By AI agents, Wed Nov 11 2026. No macro, syntax, notation, axiom, sorry.
-/
import Derived.Test.YtemaheoebigkgaaChecked
import GoSem.Claim
import GoSem.ClaimJoined
import GoSem.ClaimMapViews
import Derived.JoinedTies
import Derived.KernelRfl
namespace Go.Proofs.Ytemaheoebigkgaa
/- THE CELL 'sum', in the pinned program and in every row, IS THE sha256 OF THE DUMP (.gsa) THAT YtemaheoebigkgaaProg.lean LOADS. Nothing in Lean hashes anything: it is a label: what it is worth is what the hold of that sum in a sandbox is worth. -/
noncomputable def Try.pinned : Pinned := { name := "ytemaheoebigkgaa", sum := "80a988afb5569c9acd708bff238e69ac23d7f8fb5311055bb0870324fdf2d48d", checked := Try.checked }
namespace Rows
def none {H : Type} : Left H := { results := [], args := [] }

/-- 'laws.FnExactValidPairs': WHATEVER THE INPUT: true; the input reads as it did. -/
def fnExactValidPairsSpec : ChangeSpec := { name := "fnExactValidPairs", fn := fun _ => fun
  | [d] => { results := [.lit (.bool true)], args := [d] }
  | _ => none }
def fnExactValidPairsRow : OpenClaim := { program := "ytemaheoebigkgaa", sum := "80a988afb5569c9acd708bff238e69ac23d7f8fb5311055bb0870324fdf2d48d", func := "loop.example/g01045/laws.FnExactValidPairs", spec := "fnExactValidPairs", apart := false }
def FnExactValidPairsSaid : Prop := fnExactValidPairsRow.holds Try.pinned (OpenSpec.ofChange fnExactValidPairsSpec)

/-- ITS FALSE NEIGHBOUR: 'it returns false'. Refute it at one input. -/
def fnExactValidPairsWrong : ChangeSpec := { name := "fnExactValidPairs", fn := fun _ => fun
  | [d] => { results := [.lit (.bool false)], args := [d] }
  | _ => none }
def FnExactValidPairsWrongFalsely : Prop := fnExactValidPairsRow.holds Try.pinned (OpenSpec.ofChange fnExactValidPairsWrong)

/-- 'laws.FnExactArrangeBound': WHATEVER THE INPUT: true; the input reads as it did. -/
def fnExactArrangeBoundSpec : ChangeSpec := { name := "fnExactArrangeBound", fn := fun _ => fun
  | [d1, d2] => { results := [.lit (.bool true)], args := [d1, d2] }
  | _ => none }
def fnExactArrangeBoundRow : OpenClaim := { program := "ytemaheoebigkgaa", sum := "80a988afb5569c9acd708bff238e69ac23d7f8fb5311055bb0870324fdf2d48d", func := "loop.example/g01045/laws.FnExactArrangeBound", spec := "fnExactArrangeBound", apart := false }
def FnExactArrangeBoundSaid : Prop := fnExactArrangeBoundRow.holds Try.pinned (OpenSpec.ofChange fnExactArrangeBoundSpec)

/-- ITS FALSE NEIGHBOUR: 'it returns false'. Refute it at one input. -/
def fnExactArrangeBoundWrong : ChangeSpec := { name := "fnExactArrangeBound", fn := fun _ => fun
  | [d1, d2] => { results := [.lit (.bool false)], args := [d1, d2] }
  | _ => none }
def FnExactArrangeBoundWrongFalsely : Prop := fnExactArrangeBoundRow.holds Try.pinned (OpenSpec.ofChange fnExactArrangeBoundWrong)

/-- 'laws.FnExactTicksFor': WHATEVER THE INPUT: true; the input reads as it did. -/
def fnExactTicksForSpec : ChangeSpec := { name := "fnExactTicksFor", fn := fun _ => fun
  | [d1, d2] => { results := [.lit (.bool true)], args := [d1, d2] }
  | _ => none }
def fnExactTicksForRow : OpenClaim := { program := "ytemaheoebigkgaa", sum := "80a988afb5569c9acd708bff238e69ac23d7f8fb5311055bb0870324fdf2d48d", func := "loop.example/g01045/laws.FnExactTicksFor", spec := "fnExactTicksFor", apart := false }
def FnExactTicksForSaid : Prop := fnExactTicksForRow.holds Try.pinned (OpenSpec.ofChange fnExactTicksForSpec)

/-- ITS FALSE NEIGHBOUR: 'it returns false'. Refute it at one input. -/
def fnExactTicksForWrong : ChangeSpec := { name := "fnExactTicksFor", fn := fun _ => fun
  | [d1, d2] => { results := [.lit (.bool false)], args := [d1, d2] }
  | _ => none }
def FnExactTicksForWrongFalsely : Prop := fnExactTicksForRow.holds Try.pinned (OpenSpec.ofChange fnExactTicksForWrong)

/-- 'laws.FnExactFirstJam': WHATEVER THE INPUT: true; the input reads as it did. -/
def fnExactFirstJamSpec : ChangeSpec := { name := "fnExactFirstJam", fn := fun _ => fun
  | [d1, d2] => { results := [.lit (.bool true)], args := [d1, d2] }
  | _ => none }
def fnExactFirstJamRow : OpenClaim := { program := "ytemaheoebigkgaa", sum := "80a988afb5569c9acd708bff238e69ac23d7f8fb5311055bb0870324fdf2d48d", func := "loop.example/g01045/laws.FnExactFirstJam", spec := "fnExactFirstJam", apart := false }
def FnExactFirstJamSaid : Prop := fnExactFirstJamRow.holds Try.pinned (OpenSpec.ofChange fnExactFirstJamSpec)

/-- ITS FALSE NEIGHBOUR: 'it returns false'. Refute it at one input. -/
def fnExactFirstJamWrong : ChangeSpec := { name := "fnExactFirstJam", fn := fun _ => fun
  | [d1, d2] => { results := [.lit (.bool false)], args := [d1, d2] }
  | _ => none }
def FnExactFirstJamWrongFalsely : Prop := fnExactFirstJamRow.holds Try.pinned (OpenSpec.ofChange fnExactFirstJamWrong)

/-- 'laws.FnExactHandsOf': WHATEVER THE INPUT: true; the input reads as it did. -/
def fnExactHandsOfSpec : ChangeSpec := { name := "fnExactHandsOf", fn := fun _ => fun
  | [d1, d2, d3] => { results := [.lit (.bool true)], args := [d1, d2, d3] }
  | _ => none }
def fnExactHandsOfRow : OpenClaim := { program := "ytemaheoebigkgaa", sum := "80a988afb5569c9acd708bff238e69ac23d7f8fb5311055bb0870324fdf2d48d", func := "loop.example/g01045/laws.FnExactHandsOf", spec := "fnExactHandsOf", apart := false }
def FnExactHandsOfSaid : Prop := fnExactHandsOfRow.holds Try.pinned (OpenSpec.ofChange fnExactHandsOfSpec)

/-- ITS FALSE NEIGHBOUR: 'it returns false'. Refute it at one input. -/
def fnExactHandsOfWrong : ChangeSpec := { name := "fnExactHandsOf", fn := fun _ => fun
  | [d1, d2, d3] => { results := [.lit (.bool false)], args := [d1, d2, d3] }
  | _ => none }
def FnExactHandsOfWrongFalsely : Prop := fnExactHandsOfRow.holds Try.pinned (OpenSpec.ofChange fnExactHandsOfWrong)

/-- 'laws.FnExactAlternationsOf': WHATEVER THE INPUT: true; the input reads as it did. -/
def fnExactAlternationsOfSpec : ChangeSpec := { name := "fnExactAlternationsOf", fn := fun _ => fun
  | [d1, d2, d3] => { results := [.lit (.bool true)], args := [d1, d2, d3] }
  | _ => none }
def fnExactAlternationsOfRow : OpenClaim := { program := "ytemaheoebigkgaa", sum := "80a988afb5569c9acd708bff238e69ac23d7f8fb5311055bb0870324fdf2d48d", func := "loop.example/g01045/laws.FnExactAlternationsOf", spec := "fnExactAlternationsOf", apart := false }
def FnExactAlternationsOfSaid : Prop := fnExactAlternationsOfRow.holds Try.pinned (OpenSpec.ofChange fnExactAlternationsOfSpec)

/-- ITS FALSE NEIGHBOUR: 'it returns false'. Refute it at one input. -/
def fnExactAlternationsOfWrong : ChangeSpec := { name := "fnExactAlternationsOf", fn := fun _ => fun
  | [d1, d2, d3] => { results := [.lit (.bool false)], args := [d1, d2, d3] }
  | _ => none }
def FnExactAlternationsOfWrongFalsely : Prop := fnExactAlternationsOfRow.holds Try.pinned (OpenSpec.ofChange fnExactAlternationsOfWrong)

/-- 'laws.FnExactBellsOf': WHATEVER THE INPUT: true; the input reads as it did. -/
def fnExactBellsOfSpec : ChangeSpec := { name := "fnExactBellsOf", fn := fun _ => fun
  | [d1, d2] => { results := [.lit (.bool true)], args := [d1, d2] }
  | _ => none }
def fnExactBellsOfRow : OpenClaim := { program := "ytemaheoebigkgaa", sum := "80a988afb5569c9acd708bff238e69ac23d7f8fb5311055bb0870324fdf2d48d", func := "loop.example/g01045/laws.FnExactBellsOf", spec := "fnExactBellsOf", apart := false }
def FnExactBellsOfSaid : Prop := fnExactBellsOfRow.holds Try.pinned (OpenSpec.ofChange fnExactBellsOfSpec)

/-- ITS FALSE NEIGHBOUR: 'it returns false'. Refute it at one input. -/
def fnExactBellsOfWrong : ChangeSpec := { name := "fnExactBellsOf", fn := fun _ => fun
  | [d1, d2] => { results := [.lit (.bool false)], args := [d1, d2] }
  | _ => none }
def FnExactBellsOfWrongFalsely : Prop := fnExactBellsOfRow.holds Try.pinned (OpenSpec.ofChange fnExactBellsOfWrong)

/-- 'laws.FnExactValidKeys': WHATEVER THE INPUT: true; the input reads as it did. -/
def fnExactValidKeysSpec : ChangeSpec := { name := "fnExactValidKeys", fn := fun _ => fun
  | [d1, d2] => { results := [.lit (.bool true)], args := [d1, d2] }
  | _ => none }
def fnExactValidKeysRow : OpenClaim := { program := "ytemaheoebigkgaa", sum := "80a988afb5569c9acd708bff238e69ac23d7f8fb5311055bb0870324fdf2d48d", func := "loop.example/g01045/laws.FnExactValidKeys", spec := "fnExactValidKeys", apart := false }
def FnExactValidKeysSaid : Prop := fnExactValidKeysRow.holds Try.pinned (OpenSpec.ofChange fnExactValidKeysSpec)

/-- ITS FALSE NEIGHBOUR: 'it returns false'. Refute it at one input. -/
def fnExactValidKeysWrong : ChangeSpec := { name := "fnExactValidKeys", fn := fun _ => fun
  | [d1, d2] => { results := [.lit (.bool false)], args := [d1, d2] }
  | _ => none }
def FnExactValidKeysWrongFalsely : Prop := fnExactValidKeysRow.holds Try.pinned (OpenSpec.ofChange fnExactValidKeysWrong)

/-- 'laws.FnExactLockedAt': WHATEVER THE INPUT: true; the input reads as it did. -/
def fnExactLockedAtSpec : ChangeSpec := { name := "fnExactLockedAt", fn := fun _ => fun
  | [d1, d2] => { results := [.lit (.bool true)], args := [d1, d2] }
  | _ => none }
def fnExactLockedAtRow : OpenClaim := { program := "ytemaheoebigkgaa", sum := "80a988afb5569c9acd708bff238e69ac23d7f8fb5311055bb0870324fdf2d48d", func := "loop.example/g01045/laws.FnExactLockedAt", spec := "fnExactLockedAt", apart := false }
def FnExactLockedAtSaid : Prop := fnExactLockedAtRow.holds Try.pinned (OpenSpec.ofChange fnExactLockedAtSpec)

/-- ITS FALSE NEIGHBOUR: 'it returns false'. Refute it at one input. -/
def fnExactLockedAtWrong : ChangeSpec := { name := "fnExactLockedAt", fn := fun _ => fun
  | [d1, d2] => { results := [.lit (.bool false)], args := [d1, d2] }
  | _ => none }
def FnExactLockedAtWrongFalsely : Prop := fnExactLockedAtRow.holds Try.pinned (OpenSpec.ofChange fnExactLockedAtWrong)

/-- 'laws.FnExactArrangeCost': WHATEVER THE INPUT: true; the input reads as it did. -/
def fnExactArrangeCostSpec : ChangeSpec := { name := "fnExactArrangeCost", fn := fun _ => fun
  | [d1, d2, d3] => { results := [.lit (.bool true)], args := [d1, d2, d3] }
  | _ => none }
def fnExactArrangeCostRow : OpenClaim := { program := "ytemaheoebigkgaa", sum := "80a988afb5569c9acd708bff238e69ac23d7f8fb5311055bb0870324fdf2d48d", func := "loop.example/g01045/laws.FnExactArrangeCost", spec := "fnExactArrangeCost", apart := false }
def FnExactArrangeCostSaid : Prop := fnExactArrangeCostRow.holds Try.pinned (OpenSpec.ofChange fnExactArrangeCostSpec)

/-- ITS FALSE NEIGHBOUR: 'it returns false'. Refute it at one input. -/
def fnExactArrangeCostWrong : ChangeSpec := { name := "fnExactArrangeCost", fn := fun _ => fun
  | [d1, d2, d3] => { results := [.lit (.bool false)], args := [d1, d2, d3] }
  | _ => none }
def FnExactArrangeCostWrongFalsely : Prop := fnExactArrangeCostRow.holds Try.pinned (OpenSpec.ofChange fnExactArrangeCostWrong)

/-- 'laws.FnExactTextCost': WHATEVER THE INPUT: true; the input reads as it did. -/
def fnExactTextCostSpec : ChangeSpec := { name := "fnExactTextCost", fn := fun _ => fun
  | [d1, d2, d3] => { results := [.lit (.bool true)], args := [d1, d2, d3] }
  | _ => none }
def fnExactTextCostRow : OpenClaim := { program := "ytemaheoebigkgaa", sum := "80a988afb5569c9acd708bff238e69ac23d7f8fb5311055bb0870324fdf2d48d", func := "loop.example/g01045/laws.FnExactTextCost", spec := "fnExactTextCost", apart := false }
def FnExactTextCostSaid : Prop := fnExactTextCostRow.holds Try.pinned (OpenSpec.ofChange fnExactTextCostSpec)

/-- ITS FALSE NEIGHBOUR: 'it returns false'. Refute it at one input. -/
def fnExactTextCostWrong : ChangeSpec := { name := "fnExactTextCost", fn := fun _ => fun
  | [d1, d2, d3] => { results := [.lit (.bool false)], args := [d1, d2, d3] }
  | _ => none }
def FnExactTextCostWrongFalsely : Prop := fnExactTextCostRow.holds Try.pinned (OpenSpec.ofChange fnExactTextCostWrong)

/-- 'laws.FnExactBestSwap': WHATEVER THE INPUT: true; the input reads as it did. -/
def fnExactBestSwapSpec : ChangeSpec := { name := "fnExactBestSwap", fn := fun _ => fun
  | [d1, d2, d3] => { results := [.lit (.bool true)], args := [d1, d2, d3] }
  | _ => none }
def fnExactBestSwapRow : OpenClaim := { program := "ytemaheoebigkgaa", sum := "80a988afb5569c9acd708bff238e69ac23d7f8fb5311055bb0870324fdf2d48d", func := "loop.example/g01045/laws.FnExactBestSwap", spec := "fnExactBestSwap", apart := false }
def FnExactBestSwapSaid : Prop := fnExactBestSwapRow.holds Try.pinned (OpenSpec.ofChange fnExactBestSwapSpec)

/-- ITS FALSE NEIGHBOUR: 'it returns false'. Refute it at one input. -/
def fnExactBestSwapWrong : ChangeSpec := { name := "fnExactBestSwap", fn := fun _ => fun
  | [d1, d2, d3] => { results := [.lit (.bool false)], args := [d1, d2, d3] }
  | _ => none }
def FnExactBestSwapWrongFalsely : Prop := fnExactBestSwapRow.holds Try.pinned (OpenSpec.ofChange fnExactBestSwapWrong)

/- THE SECOND FORM. 'bulk': how many values and letters a reading holds, each counted each time it is reached (what is shared counts as often as it is met; a slice's spare places count too). A statement '..UptoSaid' is the law's where the arguments, and the package variables that the reading takes, are together of bulk at most 1048576: NARROWER than '..Said'. Prove '..Said' where nothing that the law and all that it calls make is longer than what came in: it says more and counts as full. Else prove '..UptoSaid'. A law counts once. -/
mutual
def uptoBulk {H : Type} : DataW H → Nat
  | .lit (.string bytes) => bytes.length + 1
  | .lit _ => 1
  | .nil => 1
  | .ptr d => uptoBulk d + 1
  | .slice elems spare => uptoBulkAll elems + uptoBulkAll spare + 1
  | .agg parts => uptoBulkAll parts + 1
  | .iface _ d => uptoBulk d + 1
  | .map entries => uptoBulkEntries entries + 1
  | .held _ => 1
def uptoBulkAll {H : Type} : List (DataW H) → Nat
  | [] => 0
  | d :: r => uptoBulk d + uptoBulkAll r
def uptoBulkEntries {H : Type} : List (Lit × DataW H) → Nat
  | [] => 0
  | x :: r => uptoBulkEntry x + uptoBulkEntries r
def uptoBulkEntry {H : Type} : Lit × DataW H → Nat
  | (.string bytes, d) => bytes.length + uptoBulk d + 1
  | (_, d) => uptoBulk d + 1
 end
def uptoSmall : (H : Type) → List (DataW H) → Bool := fun _ ds => decide (uptoBulkAll ds ≤ 1048576)
def OpenSpec.upto (s : _root_.Go.ChangeSpec) : _root_.Go.OpenSpec := { _root_.Go.OpenSpec.ofChange s with cond := some uptoSmall }

/-- 'laws.FnExactValidPairs', WHERE WHAT IT READS IS OF BULK AT MOST 1048576: true; the input reads as it did. -/
def fnExactValidPairsUptoRow : OpenClaim := { program := "ytemaheoebigkgaa", sum := "80a988afb5569c9acd708bff238e69ac23d7f8fb5311055bb0870324fdf2d48d", func := "loop.example/g01045/laws.FnExactValidPairs", spec := "fnExactValidPairs", apart := false, narrowed := true }
def FnExactValidPairsUptoSaid : Prop := fnExactValidPairsUptoRow.holds Try.pinned (OpenSpec.upto fnExactValidPairsSpec)

/-- 'laws.FnExactArrangeBound', WHERE WHAT IT READS IS OF BULK AT MOST 1048576: true; the input reads as it did. -/
def fnExactArrangeBoundUptoRow : OpenClaim := { program := "ytemaheoebigkgaa", sum := "80a988afb5569c9acd708bff238e69ac23d7f8fb5311055bb0870324fdf2d48d", func := "loop.example/g01045/laws.FnExactArrangeBound", spec := "fnExactArrangeBound", apart := false, narrowed := true }
def FnExactArrangeBoundUptoSaid : Prop := fnExactArrangeBoundUptoRow.holds Try.pinned (OpenSpec.upto fnExactArrangeBoundSpec)

/-- 'laws.FnExactTicksFor', WHERE WHAT IT READS IS OF BULK AT MOST 1048576: true; the input reads as it did. -/
def fnExactTicksForUptoRow : OpenClaim := { program := "ytemaheoebigkgaa", sum := "80a988afb5569c9acd708bff238e69ac23d7f8fb5311055bb0870324fdf2d48d", func := "loop.example/g01045/laws.FnExactTicksFor", spec := "fnExactTicksFor", apart := false, narrowed := true }
def FnExactTicksForUptoSaid : Prop := fnExactTicksForUptoRow.holds Try.pinned (OpenSpec.upto fnExactTicksForSpec)

/-- 'laws.FnExactFirstJam', WHERE WHAT IT READS IS OF BULK AT MOST 1048576: true; the input reads as it did. -/
def fnExactFirstJamUptoRow : OpenClaim := { program := "ytemaheoebigkgaa", sum := "80a988afb5569c9acd708bff238e69ac23d7f8fb5311055bb0870324fdf2d48d", func := "loop.example/g01045/laws.FnExactFirstJam", spec := "fnExactFirstJam", apart := false, narrowed := true }
def FnExactFirstJamUptoSaid : Prop := fnExactFirstJamUptoRow.holds Try.pinned (OpenSpec.upto fnExactFirstJamSpec)

/-- 'laws.FnExactHandsOf', WHERE WHAT IT READS IS OF BULK AT MOST 1048576: true; the input reads as it did. -/
def fnExactHandsOfUptoRow : OpenClaim := { program := "ytemaheoebigkgaa", sum := "80a988afb5569c9acd708bff238e69ac23d7f8fb5311055bb0870324fdf2d48d", func := "loop.example/g01045/laws.FnExactHandsOf", spec := "fnExactHandsOf", apart := false, narrowed := true }
def FnExactHandsOfUptoSaid : Prop := fnExactHandsOfUptoRow.holds Try.pinned (OpenSpec.upto fnExactHandsOfSpec)

/-- 'laws.FnExactAlternationsOf', WHERE WHAT IT READS IS OF BULK AT MOST 1048576: true; the input reads as it did. -/
def fnExactAlternationsOfUptoRow : OpenClaim := { program := "ytemaheoebigkgaa", sum := "80a988afb5569c9acd708bff238e69ac23d7f8fb5311055bb0870324fdf2d48d", func := "loop.example/g01045/laws.FnExactAlternationsOf", spec := "fnExactAlternationsOf", apart := false, narrowed := true }
def FnExactAlternationsOfUptoSaid : Prop := fnExactAlternationsOfUptoRow.holds Try.pinned (OpenSpec.upto fnExactAlternationsOfSpec)

/-- 'laws.FnExactBellsOf', WHERE WHAT IT READS IS OF BULK AT MOST 1048576: true; the input reads as it did. -/
def fnExactBellsOfUptoRow : OpenClaim := { program := "ytemaheoebigkgaa", sum := "80a988afb5569c9acd708bff238e69ac23d7f8fb5311055bb0870324fdf2d48d", func := "loop.example/g01045/laws.FnExactBellsOf", spec := "fnExactBellsOf", apart := false, narrowed := true }
def FnExactBellsOfUptoSaid : Prop := fnExactBellsOfUptoRow.holds Try.pinned (OpenSpec.upto fnExactBellsOfSpec)

/-- 'laws.FnExactValidKeys', WHERE WHAT IT READS IS OF BULK AT MOST 1048576: true; the input reads as it did. -/
def fnExactValidKeysUptoRow : OpenClaim := { program := "ytemaheoebigkgaa", sum := "80a988afb5569c9acd708bff238e69ac23d7f8fb5311055bb0870324fdf2d48d", func := "loop.example/g01045/laws.FnExactValidKeys", spec := "fnExactValidKeys", apart := false, narrowed := true }
def FnExactValidKeysUptoSaid : Prop := fnExactValidKeysUptoRow.holds Try.pinned (OpenSpec.upto fnExactValidKeysSpec)

/-- 'laws.FnExactLockedAt', WHERE WHAT IT READS IS OF BULK AT MOST 1048576: true; the input reads as it did. -/
def fnExactLockedAtUptoRow : OpenClaim := { program := "ytemaheoebigkgaa", sum := "80a988afb5569c9acd708bff238e69ac23d7f8fb5311055bb0870324fdf2d48d", func := "loop.example/g01045/laws.FnExactLockedAt", spec := "fnExactLockedAt", apart := false, narrowed := true }
def FnExactLockedAtUptoSaid : Prop := fnExactLockedAtUptoRow.holds Try.pinned (OpenSpec.upto fnExactLockedAtSpec)

/-- 'laws.FnExactArrangeCost', WHERE WHAT IT READS IS OF BULK AT MOST 1048576: true; the input reads as it did. -/
def fnExactArrangeCostUptoRow : OpenClaim := { program := "ytemaheoebigkgaa", sum := "80a988afb5569c9acd708bff238e69ac23d7f8fb5311055bb0870324fdf2d48d", func := "loop.example/g01045/laws.FnExactArrangeCost", spec := "fnExactArrangeCost", apart := false, narrowed := true }
def FnExactArrangeCostUptoSaid : Prop := fnExactArrangeCostUptoRow.holds Try.pinned (OpenSpec.upto fnExactArrangeCostSpec)

/-- 'laws.FnExactTextCost', WHERE WHAT IT READS IS OF BULK AT MOST 1048576: true; the input reads as it did. -/
def fnExactTextCostUptoRow : OpenClaim := { program := "ytemaheoebigkgaa", sum := "80a988afb5569c9acd708bff238e69ac23d7f8fb5311055bb0870324fdf2d48d", func := "loop.example/g01045/laws.FnExactTextCost", spec := "fnExactTextCost", apart := false, narrowed := true }
def FnExactTextCostUptoSaid : Prop := fnExactTextCostUptoRow.holds Try.pinned (OpenSpec.upto fnExactTextCostSpec)

/-- 'laws.FnExactBestSwap', WHERE WHAT IT READS IS OF BULK AT MOST 1048576: true; the input reads as it did. -/
def fnExactBestSwapUptoRow : OpenClaim := { program := "ytemaheoebigkgaa", sum := "80a988afb5569c9acd708bff238e69ac23d7f8fb5311055bb0870324fdf2d48d", func := "loop.example/g01045/laws.FnExactBestSwap", spec := "fnExactBestSwap", apart := false, narrowed := true }
def FnExactBestSwapUptoSaid : Prop := fnExactBestSwapUptoRow.holds Try.pinned (OpenSpec.upto fnExactBestSwapSpec)

end Rows
end Go.Proofs.Ytemaheoebigkgaa
