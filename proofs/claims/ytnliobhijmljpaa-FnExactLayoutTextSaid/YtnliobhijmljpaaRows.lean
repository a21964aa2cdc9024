/-
  No cell of these rows narrows 'for every input' (looked for: loops, veiled, ifaces, maps, wideKeys, modest, calm, conditions, laid).
  DERIVED. THE GIVEN ROWS OF THIS SEAT. 5 by the template 'for every input the law returns true; each argument reads behind the call as it read before'; 0 by the template 'total and deterministic' (their statements: YtnliobhijmljpaaTotals.lean).
  GIVEN WITH THE SEED: the statements are not yours to turn. If you find one false, say at which input.
  Laid BY PROGRAM, IN A SANDBOX (cutbox-rows.mjs): the forced cells as the released guide's own fill.sh prints them over the translation a0336e76ff33763c… (all of the seat's roots in one cut). By AI agents, Wed Nov 11 2026. No macro, syntax, notation, axiom, sorry.
-/
import Derived.Test.YtnliobhijmljpaaChecked
import GoSem.Claim
import GoSem.ClaimJoined
import GoSem.ClaimMapViews
import Derived.JoinedTies
import Derived.KernelRfl
namespace Go.Proofs.Ytnliobhijmljpaa
/- THE CELL 'sum', in the pinned program and in every row, IS THE sha256 OF THE DUMP (.gsa) THAT YtnliobhijmljpaaProg.lean LOADS. Nothing in Lean hashes anything: it is a label: what it is worth is what the hold of that sum in a sandbox is worth. -/
noncomputable def Try.pinned : Pinned := { name := "ytnliobhijmljpaa", sum := "a0336e76ff33763c084217d4d630cace3e9b392cfa4aa5ab6e0e7c4a8a6b8d31", checked := Try.checked }
namespace Rows
def none {H : Type} : Left H := { results := [], args := [] }

/-- 'laws.FnExactValidLayout': WHATEVER THE INPUT: true; the input reads as it did. -/
def fnExactValidLayoutSpec : ChangeSpec := { name := "fnExactValidLayout", fn := fun _ => fun
  | [d] => { results := [.lit (.bool true)], args := [d] }
  | _ => none }
def fnExactValidLayoutRow : OpenClaim := { program := "ytnliobhijmljpaa", sum := "a0336e76ff33763c084217d4d630cace3e9b392cfa4aa5ab6e0e7c4a8a6b8d31", func := "loop.example/g01045/laws.FnExactValidLayout", spec := "fnExactValidLayout", apart := false }
def FnExactValidLayoutSaid : Prop := fnExactValidLayoutRow.holds Try.pinned (OpenSpec.ofChange fnExactValidLayoutSpec)

/-- ITS FALSE NEIGHBOUR: 'it returns false'. Refute it at one input. -/
def fnExactValidLayoutWrong : ChangeSpec := { name := "fnExactValidLayout", fn := fun _ => fun
  | [d] => { results := [.lit (.bool false)], args := [d] }
  | _ => none }
def FnExactValidLayoutWrongFalsely : Prop := fnExactValidLayoutRow.holds Try.pinned (OpenSpec.ofChange fnExactValidLayoutWrong)

/-- 'laws.FnExactActText': WHATEVER THE INPUT: true; the input reads as it did. -/
def fnExactActTextSpec : ChangeSpec := { name := "fnExactActText", fn := fun _ => fun
  | [d] => { results := [.lit (.bool true)], args := [d] }
  | _ => none }
def fnExactActTextRow : OpenClaim := { program := "ytnliobhijmljpaa", sum := "a0336e76ff33763c084217d4d630cace3e9b392cfa4aa5ab6e0e7c4a8a6b8d31", func := "loop.example/g01045/laws.FnExactActText", spec := "fnExactActText", apart := false }
def FnExactActTextSaid : Prop := fnExactActTextRow.holds Try.pinned (OpenSpec.ofChange fnExactActTextSpec)

/-- ITS FALSE NEIGHBOUR: 'it returns false'. Refute it at one input. -/
def fnExactActTextWrong : ChangeSpec := { name := "fnExactActText", fn := fun _ => fun
  | [d] => { results := [.lit (.bool false)], args := [d] }
  | _ => none }
def FnExactActTextWrongFalsely : Prop := fnExactActTextRow.holds Try.pinned (OpenSpec.ofChange fnExactActTextWrong)

/-- 'laws.FnExactLineOf': WHATEVER THE INPUT: true; the input reads as it did. -/
def fnExactLineOfSpec : ChangeSpec := { name := "fnExactLineOf", fn := fun _ => fun
  | [d1, d2] => { results := [.lit (.bool true)], args := [d1, d2] }
  | _ => none }
def fnExactLineOfRow : OpenClaim := { program := "ytnliobhijmljpaa", sum := "a0336e76ff33763c084217d4d630cace3e9b392cfa4aa5ab6e0e7c4a8a6b8d31", func := "loop.example/g01045/laws.FnExactLineOf", spec := "fnExactLineOf", apart := false }
def FnExactLineOfSaid : Prop := fnExactLineOfRow.holds Try.pinned (OpenSpec.ofChange fnExactLineOfSpec)

/-- ITS FALSE NEIGHBOUR: 'it returns false'. Refute it at one input. -/
def fnExactLineOfWrong : ChangeSpec := { name := "fnExactLineOf", fn := fun _ => fun
  | [d1, d2] => { results := [.lit (.bool false)], args := [d1, d2] }
  | _ => none }
def FnExactLineOfWrongFalsely : Prop := fnExactLineOfRow.holds Try.pinned (OpenSpec.ofChange fnExactLineOfWrong)

/-- 'laws.FnExactPressFor': WHATEVER THE INPUT: true; the input reads as it did. -/
def fnExactPressForSpec : ChangeSpec := { name := "fnExactPressFor", fn := fun _ => fun
  | [d1, d2] => { results := [.lit (.bool true)], args := [d1, d2] }
  | _ => none }
def fnExactPressForRow : OpenClaim := { program := "ytnliobhijmljpaa", sum := "a0336e76ff33763c084217d4d630cace3e9b392cfa4aa5ab6e0e7c4a8a6b8d31", func := "loop.example/g01045/laws.FnExactPressFor", spec := "fnExactPressFor", apart := false }
def FnExactPressForSaid : Prop := fnExactPressForRow.holds Try.pinned (OpenSpec.ofChange fnExactPressForSpec)

/-- ITS FALSE NEIGHBOUR: 'it returns false'. Refute it at one input. -/
def fnExactPressForWrong : ChangeSpec := { name := "fnExactPressFor", fn := fun _ => fun
  | [d1, d2] => { results := [.lit (.bool false)], args := [d1, d2] }
  | _ => none }
def FnExactPressForWrongFalsely : Prop := fnExactPressForRow.holds Try.pinned (OpenSpec.ofChange fnExactPressForWrong)

/-- 'laws.FnExactLayoutText': WHATEVER THE INPUT: true; the input reads as it did. -/
def fnExactLayoutTextSpec : ChangeSpec := { name := "fnExactLayoutText", fn := fun _ => fun
  | [d] => { results := [.lit (.bool true)], args := [d] }
  | _ => none }
def fnExactLayoutTextRow : OpenClaim := { program := "ytnliobhijmljpaa", sum := "a0336e76ff33763c084217d4d630cace3e9b392cfa4aa5ab6e0e7c4a8a6b8d31", func := "loop.example/g01045/laws.FnExactLayoutText", spec := "fnExactLayoutText", inPlace := ["internal/abi.NoEscape", "internal/bytealg.MakeNoZero"], apart := false }
def FnExactLayoutTextSaid : Prop := fnExactLayoutTextRow.holds Try.pinned (OpenSpec.ofChange fnExactLayoutTextSpec)

/-- ITS FALSE NEIGHBOUR: 'it returns false'. Refute it at one input. -/
def fnExactLayoutTextWrong : ChangeSpec := { name := "fnExactLayoutText", fn := fun _ => fun
  | [d] => { results := [.lit (.bool false)], args := [d] }
  | _ => none }
def FnExactLayoutTextWrongFalsely : Prop := fnExactLayoutTextRow.holds Try.pinned (OpenSpec.ofChange fnExactLayoutTextWrong)

/- THE SECOND FORM. 'bulk': how many values and letters a reading holds, each counted each time it is reached (what is shared counts as often as it is met; a slice's spare places count too). A statement '..UptoSaid' is the law's where the arguments, and the package variables that the reading takes, are together of bulk at most 1048576: NARROWER than '..Said'. Prove '..Said' where nothing that the law and all that it calls make is longer than what came in: it says more and counts as full. Else prove '..UptoSaid'. A law counts once. -/
mutual
def uptoBulk {H : Type} : DataW H → Nat
  | .lit (.string bytes) => bytes.length + 1
  | .lit _ => 1
  | .nil => 1
  | .ptr d => uptoBulk d + 1
  | .slice elems spare => uptoBulkAll elems + uptoBulkAll spare + 1
  | .agg parts => uptoBulkAll parts + 1
  | .iface _ d => uptoBulk d + 1
  | .map entries => uptoBulkEntries entries + 1
  | .held _ => 1
def uptoBulkAll {H : Type} : List (DataW H) → Nat
  | [] => 0
  | d :: r => uptoBulk d + uptoBulkAll r
def uptoBulkEntries {H : Type} : List (Lit × DataW H) → Nat
  | [] => 0
  | x :: r => uptoBulkEntry x + uptoBulkEntries r
def uptoBulkEntry {H : Type} : Lit × DataW H → Nat
  | (.string bytes, d) => bytes.length + uptoBulk d + 1
  | (_, d) => uptoBulk d + 1
 end
def uptoSmall : (H : Type) → List (DataW H) → Bool := fun _ ds => decide (uptoBulkAll ds ≤ 1048576)
def OpenSpec.upto (s : _root_.Go.ChangeSpec) : _root_.Go.OpenSpec := { _root_.Go.OpenSpec.ofChange s with cond := some uptoSmall }

/-- 'laws.FnExactValidLayout', WHERE WHAT IT READS IS OF BULK AT MOST 1048576: true; the input reads as it did. -/
def fnExactValidLayoutUptoRow : OpenClaim := { program := "ytnliobhijmljpaa", sum := "a0336e76ff33763c084217d4d630cace3e9b392cfa4aa5ab6e0e7c4a8a6b8d31", func := "loop.example/g01045/laws.FnExactValidLayout", spec := "fnExactValidLayout", apart := false, narrowed := true }
def FnExactValidLayoutUptoSaid : Prop := fnExactValidLayoutUptoRow.holds Try.pinned (OpenSpec.upto fnExactValidLayoutSpec)

/-- 'laws.FnExactActText', WHERE WHAT IT READS IS OF BULK AT MOST 1048576: true; the input reads as it did. -/
def fnExactActTextUptoRow : OpenClaim := { program := "ytnliobhijmljpaa", sum := "a0336e76ff33763c084217d4d630cace3e9b392cfa4aa5ab6e0e7c4a8a6b8d31", func := "loop.example/g01045/laws.FnExactActText", spec := "fnExactActText", apart := false, narrowed := true }
def FnExactActTextUptoSaid : Prop := fnExactActTextUptoRow.holds Try.pinned (OpenSpec.upto fnExactActTextSpec)

/-- 'laws.FnExactLineOf', WHERE WHAT IT READS IS OF BULK AT MOST 1048576: true; the input reads as it did. -/
def fnExactLineOfUptoRow : OpenClaim := { program := "ytnliobhijmljpaa", sum := "a0336e76ff33763c084217d4d630cace3e9b392cfa4aa5ab6e0e7c4a8a6b8d31", func := "loop.example/g01045/laws.FnExactLineOf", spec := "fnExactLineOf", apart := false, narrowed := true }
def FnExactLineOfUptoSaid : Prop := fnExactLineOfUptoRow.holds Try.pinned (OpenSpec.upto fnExactLineOfSpec)

/-- 'laws.FnExactPressFor', WHERE WHAT IT READS IS OF BULK AT MOST 1048576: true; the input reads as it did. -/
def fnExactPressForUptoRow : OpenClaim := { program := "ytnliobhijmljpaa", sum := "a0336e76ff33763c084217d4d630cace3e9b392cfa4aa5ab6e0e7c4a8a6b8d31", func := "loop.example/g01045/laws.FnExactPressFor", spec := "fnExactPressFor", apart := false, narrowed := true }
def FnExactPressForUptoSaid : Prop := fnExactPressForUptoRow.holds Try.pinned (OpenSpec.upto fnExactPressForSpec)

/-- 'laws.FnExactLayoutText', WHERE WHAT IT READS IS OF BULK AT MOST 1048576: true; the input reads as it did. -/
def fnExactLayoutTextUptoRow : OpenClaim := { program := "ytnliobhijmljpaa", sum := "a0336e76ff33763c084217d4d630cace3e9b392cfa4aa5ab6e0e7c4a8a6b8d31", func := "loop.example/g01045/laws.FnExactLayoutText", spec := "fnExactLayoutText", inPlace := ["internal/abi.NoEscape", "internal/bytealg.MakeNoZero"], apart := false, narrowed := true }
def FnExactLayoutTextUptoSaid : Prop := fnExactLayoutTextUptoRow.holds Try.pinned (OpenSpec.upto fnExactLayoutTextSpec)

end Rows
end Go.Proofs.Ytnliobhijmljpaa
