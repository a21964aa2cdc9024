/-
  Proved: the law FnExactValidPairs of the given program returns true for every input, and its arguments read as they did. No condition.
-/
import Derived.Test.YtemaheoebigkgaaWValidPairs
namespace Go.Proofs.Ytemaheoebigkgaa.fnExactValidPairs
open Go.ChangeShapes Go.WideShapes Go.ChangeAt Go.RowKit
set_option linter.unusedVariables false

theorem own : ownKnob Try.prog.godebug = none := by kernel_rfl
theorem laidOut : laidOutB Try.prog = true := by kernel_rfl

set_option maxRecDepth 100000 in
theorem lifted (os : Os) (started : os.Started) (H : Type) (enc : TypeId × Value → H) :
    ReturnsInHanded {} Try.checked os 3 .any (Rows.fnExactValidPairsSpec.pre6 enc Try.prog Try.f3 Rows.fnExactValidPairsRow.domain false) (Rows.fnExactValidPairsSpec.post enc Try.prog Try.f3 false true false false) := by
  refine returnsInHanded_of_change (C := Try.checked) own started (by kernel_rfl) Try.func3
    (ChangeSpec.witness6 (enc := enc) (C := Try.checked) false ⟨#[], #[.slice none 0 0], []⟩ 8 (by kernel_rfl) (by kernel_rfl) (by kernel_rfl) (by kernel_rfl)) ?_
  intro W base args ds gs before hval0 hW hcnd _
  have hval : ∀ (j : Nat) t v, Try.f3.params[j]? = some t → args[j]? = some v → Value.okWide Try.prog W .any base t v := hval0
  have hW' := hW
  obtain ⟨p, q, hA0, hV, rfl, hfz, hnd⟩ := hW
  have hA : DataW.TrodAll enc Try.prog W 0 (fun _ => true) true Try.f3.params.toList args.toList ds p := hA0
  rw [Try.params3] at hA hval
  obtain ⟨v0, vs0, d0, ds0, p0, q0, hargs, rfl, rfl, h0, r0⟩ := trodAll_cons hA
  obtain ⟨rfl, rfl, rfl⟩ := trodAll_nil r0
  obtain rfl : args = #[v0] := by cases args; simp_all
  obtain ⟨rfl, rfl⟩ := trodVars_none hV
  obtain ⟨A0, c0, xs0, rfl, rx0, hx0, hk0⟩ := arg_slice (e := encSl) (ok := fun q : Sl Int => Row W q.A encInt 1 q.xs ∧ q.xs.length ≤ maxLen ∧ ∀ x ∈ q.xs, I64 x) (s := 1) Try.underlying22 (by kernel_rfl) (by omega) (fun _ => rfl) (opens_slice (e := encInt) (ok := I64) (s := 1) Try.underlying34 (by kernel_rfl) Nat.one_pos (fun _ => rfl) (opens_int Try.underlying2)) (hval 0 22 v0 rfl rfl) h0
  have rz0 : RowXX W A0 (xss xs0) := ⟨xs0, rfl, rx0, fun q hq => ⟨(hk0 q hq).1, (hk0 q hq).2.1⟩⟩
  have hy0 : (xss xs0).length ≤ maxLen := by simpa using hx0
  have hq0 : ∀ r ∈ xss xs0, r.length ≤ maxLen ∧ ∀ x ∈ r, I64 x := fun r hr => by obtain ⟨q, hq, rfl⟩ := List.mem_map.1 hr; exact (hk0 q hq).2
  clear hA0 hval0
  have xcall := walk A0 c0 (xss xs0) hy0 hq0 W rz0
  simp only [xss, List.length_map] at xcall
  refine (xcall).mono fun e W' ⟨he, hg⟩ => ?_
  subst he
  exact ⟨_, rfl, law_shut (f := Try.f3) laidOut (by kernel_rfl) hW' rfl (by kernel_rfl) Try.underlying4 rfl hg⟩

theorem over : Rows.fnExactValidPairsRow.holds Try.pinned (OpenSpec.ofChange Rows.fnExactValidPairsSpec) :=
  OpenClaim.holds_of_wide 3 Try.f3 rfl rfl rfl rfl rfl rfl rfl ⟨rfl, rfl, rfl, rfl, rfl⟩ rfl rfl rfl rfl rfl (by kernel_rfl) Try.func3 (by kernel_rfl)
    (of_decide_eq_true (by kernel_rfl)) (by unfold Func.isWrapper; first | (rw [if_pos (by decide +kernel)]; kernel_rfl) | (rw [if_neg (by decide +kernel)]; exact ⟨rfl, rfl⟩))
    (fun os started H enc _ => lifted os started H enc)

theorem proved : Rows.FnExactValidPairsSaid :=
  over
end Go.Proofs.Ytemaheoebigkgaa.fnExactValidPairs
