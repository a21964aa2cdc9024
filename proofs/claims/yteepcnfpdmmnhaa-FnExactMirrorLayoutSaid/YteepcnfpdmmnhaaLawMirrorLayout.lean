/-
  Proved: the law FnExactMirrorLayout of the given program returns true for every input, and its arguments read as they did. No condition.
-/
import Derived.Test.YteepcnfpdmmnhaaWMirrorLayout
namespace Go.Proofs.Yteepcnfpdmmnhaa.fnExactMirrorLayout
open Go.ChangeShapes Go.WideShapes Go.ChangeAt Go.RowKit
set_option linter.unusedVariables false

theorem own : ownKnob Try.prog.godebug = none := by kernel_rfl
theorem laidOut : laidOutB Try.prog = true := by kernel_rfl

set_option maxRecDepth 100000 in
theorem lifted (os : Os) (started : os.Started) (H : Type) (enc : TypeId × Value → H) :
    ReturnsInHanded {} Try.checked os 6 .any (Rows.fnExactMirrorLayoutSpec.pre6 enc Try.prog Try.f6 Rows.fnExactMirrorLayoutRow.domain false) (Rows.fnExactMirrorLayoutSpec.post enc Try.prog Try.f6 false true false false) := by
  refine returnsInHanded_of_change (C := Try.checked) own started (by kernel_rfl) Try.func6
    (ChangeSpec.witness6 (enc := enc) (C := Try.checked) false ⟨#[], #[.agg #[.slice none 0 0]], []⟩ 8 (by kernel_rfl) (by kernel_rfl) (by kernel_rfl) (by kernel_rfl)) ?_
  intro W base args ds gs before hval0 hW hcnd _
  have hval : ∀ (j : Nat) t v, Try.f6.params[j]? = some t → args[j]? = some v → Value.okWide Try.prog W .any base t v := hval0
  have hW' := hW
  obtain ⟨p, q, hA0, hV, rfl, hfz, hnd⟩ := hW
  have hA : DataW.TrodAll enc Try.prog W 0 (fun _ => true) true Try.f6.params.toList args.toList ds p := hA0
  rw [Try.params6] at hA hval
  obtain ⟨v0, vs0, d0, ds0, p0, q0, hargs, rfl, rfl, h0, r0⟩ := trodAll_cons hA
  obtain ⟨rfl, rfl, rfl⟩ := trodAll_nil r0
  obtain rfl : args = #[v0] := by cases args; simp_all
  obtain ⟨rfl, rfl⟩ := trodVars_none hV
  obtain ⟨⟨A0, c0, xs0⟩, rfl, rx0, hx0, hk0⟩ := arg_struct (e := fun q : Sl ByteArray => [Value.slice q.A q.xs.length q.c]) (ok := fun q : Sl ByteArray => Row W q.A encStr 1 q.xs ∧ q.xs.length ≤ maxLen ∧ ∀ x ∈ q.xs, okStringS x) Try.underlying52 (opens_struct1 Try.underlying52 (by kernel_rfl) (by kernel_rfl) (opens_slice (e := encStr) (ok := okStringS) (s := 1) Try.underlying44 (by kernel_rfl) Nat.one_pos (fun _ => rfl) (opens_string Try.underlying9))) (hval 0 52 v0 rfl rfl) h0
  clear hA0 hval0
  refine (walk A0 c0 xs0 hx0 hk0 W rx0).mono fun e W' ⟨he, hg⟩ => ?_
  subst he
  exact ⟨_, rfl, law_shut (f := Try.f6) laidOut (by kernel_rfl) hW' rfl (by kernel_rfl) Try.underlying4 rfl hg⟩

theorem over : Rows.fnExactMirrorLayoutRow.holds Try.pinned (OpenSpec.ofChange Rows.fnExactMirrorLayoutSpec) :=
  OpenClaim.holds_of_wide 6 Try.f6 rfl rfl rfl rfl rfl rfl rfl ⟨rfl, rfl, rfl, rfl, rfl⟩ rfl rfl rfl rfl rfl (by kernel_rfl) Try.func6 (by kernel_rfl)
    (of_decide_eq_true (by kernel_rfl)) (by unfold Func.isWrapper; first | (rw [if_pos (by decide +kernel)]; kernel_rfl) | (rw [if_neg (by decide +kernel)]; exact ⟨rfl, rfl⟩))
    (fun os started H enc _ => lifted os started H enc)

theorem proved : Rows.FnExactMirrorLayoutSaid :=
  over
end Go.Proofs.Yteepcnfpdmmnhaa.fnExactMirrorLayout
