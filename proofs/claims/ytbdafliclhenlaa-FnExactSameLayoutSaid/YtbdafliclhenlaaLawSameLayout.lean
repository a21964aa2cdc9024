/-
  Proved: the law FnExactSameLayout of the given program returns true for every input, and its arguments read as they did. No condition.
-/
import Derived.Test.YtbdafliclhenlaaWSameLayout
namespace Go.Proofs.Ytbdafliclhenlaa.fnExactSameLayout
open Go.ChangeShapes Go.WideShapes Go.ChangeAt Go.RowKit
set_option linter.unusedVariables false

theorem own : ownKnob Try.prog.godebug = none := by kernel_rfl
theorem laidOut : laidOutB Try.prog = true := by kernel_rfl

set_option maxRecDepth 100000 in
theorem lifted (os : Os) (started : os.Started) (H : Type) (enc : TypeId × Value → H) :
    ReturnsInHanded {} Try.checked os 12 .any (Rows.fnExactSameLayoutSpec.pre6 enc Try.prog Try.f12 Rows.fnExactSameLayoutRow.domain false) (Rows.fnExactSameLayoutSpec.post enc Try.prog Try.f12 false true false false) := by
  refine returnsInHanded_of_change (C := Try.checked) own started (by kernel_rfl) Try.func12
    (ChangeSpec.witness6 (enc := enc) (C := Try.checked) false ⟨#[], #[.agg #[.slice none 0 0], .agg #[.slice none 0 0]], []⟩ 8 (by kernel_rfl) (by kernel_rfl) (by kernel_rfl) (by kernel_rfl)) ?_
  intro W base args ds gs before hval0 hW hcnd _
  have hval : ∀ (j : Nat) t v, Try.f12.params[j]? = some t → args[j]? = some v → Value.okWide Try.prog W .any base t v := hval0
  have hW' := hW
  obtain ⟨p, q, hA0, hV, rfl, hfz, hnd⟩ := hW
  have hA : DataW.TrodAll enc Try.prog W 0 (fun _ => true) true Try.f12.params.toList args.toList ds p := hA0
  rw [Try.params12] at hA hval
  obtain ⟨v0, vs0, d0, ds0, p0, q0, hargs, rfl, rfl, h0, r0⟩ := trodAll_cons hA
  obtain ⟨v1, vs1, d1, ds1, p1, q1, rfl, rfl, rfl, h1, r1⟩ := trodAll_cons r0
  obtain ⟨rfl, rfl, rfl⟩ := trodAll_nil r1
  obtain rfl : args = #[v0, v1] := by cases args; simp_all
  obtain ⟨rfl, rfl⟩ := trodVars_none hV
  obtain ⟨⟨A0, c0, xs0⟩, rfl, rx0, hx0, hk0⟩ := arg_struct (e := fun q : Sl ByteArray => [Value.slice q.A q.xs.length q.c]) (ok := fun q : Sl ByteArray => Row W q.A encStr 1 q.xs ∧ q.xs.length ≤ maxLen ∧ ∀ x ∈ q.xs, okStringS x) Try.underlying69 (opens_struct1 Try.underlying69 (by kernel_rfl) (by kernel_rfl) (opens_slice (e := encStr) (ok := okStringS) (s := 1) Try.underlying67 (by kernel_rfl) Nat.one_pos (fun _ => rfl) (opens_string Try.underlying9))) (hval 0 69 v0 rfl rfl) h0
  obtain ⟨⟨A1, c1, xs1⟩, rfl, rx1, hx1, hk1⟩ := arg_struct (e := fun q : Sl ByteArray => [Value.slice q.A q.xs.length q.c]) (ok := fun q : Sl ByteArray => Row W q.A encStr 1 q.xs ∧ q.xs.length ≤ maxLen ∧ ∀ x ∈ q.xs, okStringS x) Try.underlying69 (opens_struct1 Try.underlying69 (by kernel_rfl) (by kernel_rfl) (opens_slice (e := encStr) (ok := okStringS) (s := 1) Try.underlying67 (by kernel_rfl) Nat.one_pos (fun _ => rfl) (opens_string Try.underlying9))) (hval 1 69 v1 rfl rfl) h1
  clear hA0 hval0
  refine (walk A0 c0 xs0 hx0 hk0 A1 c1 xs1 hx1 hk1 W rx0 rx1).mono fun e W' ⟨he, hg⟩ => ?_
  subst he
  exact ⟨_, rfl, law_shut (f := Try.f12) laidOut (by kernel_rfl) hW' rfl (by kernel_rfl) Try.underlying4 rfl hg⟩

theorem over : Rows.fnExactSameLayoutRow.holds Try.pinned (OpenSpec.ofChange Rows.fnExactSameLayoutSpec) :=
  OpenClaim.holds_of_wide 12 Try.f12 rfl rfl rfl rfl rfl rfl rfl ⟨rfl, rfl, rfl, rfl, rfl⟩ rfl rfl rfl rfl rfl (by kernel_rfl) Try.func12 (by kernel_rfl)
    (of_decide_eq_true (by kernel_rfl)) (by unfold Func.isWrapper; first | (rw [if_pos (by decide +kernel)]; kernel_rfl) | (rw [if_neg (by decide +kernel)]; exact ⟨rfl, rfl⟩))
    (fun os started H enc _ => lifted os started H enc)

theorem proved : Rows.FnExactSameLayoutSaid :=
  over
end Go.Proofs.Ytbdafliclhenlaa.fnExactSameLayout
