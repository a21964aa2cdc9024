/-
  Proved: the law FnExactLettersOf of the given program returns true for every input, and its arguments read as they did. No condition.
-/
import Derived.Test.YteepcnfpdmmnhaaWLettersOf
namespace Go.Proofs.Yteepcnfpdmmnhaa.fnExactLettersOf
open Go.ChangeShapes Go.WideShapes Go.ChangeAt Go.RowKit
set_option linter.unusedVariables false

theorem own : ownKnob Try.prog.godebug = none := by kernel_rfl
theorem laidOut : laidOutB Try.prog = true := by kernel_rfl

set_option maxRecDepth 100000 in
theorem lifted (os : Os) (started : os.Started) (H : Type) (enc : TypeId × Value → H) :
    ReturnsInHanded {} Try.checked os 11 .any (Rows.fnExactLettersOfSpec.pre6 enc Try.prog Try.f11 Rows.fnExactLettersOfRow.domain false) (Rows.fnExactLettersOfSpec.post enc Try.prog Try.f11 false true false false) := by
  refine returnsInHanded_of_change (C := Try.checked) own started (by kernel_rfl) Try.func11
    (ChangeSpec.witness6 (enc := enc) (C := Try.checked) false ⟨#[], #[.slice none 0 0, .slice none 0 0], []⟩ 8 (by kernel_rfl) (by kernel_rfl) (by kernel_rfl) (by kernel_rfl)) ?_
  intro W base args ds gs before hval0 hW hcnd _
  have hval : ∀ (j : Nat) t v, Try.f11.params[j]? = some t → args[j]? = some v → Value.okWide Try.prog W .any base t v := hval0
  have hW' := hW
  obtain ⟨p, q, hA0, hV, rfl, hfz, hnd⟩ := hW
  have hA : DataW.TrodAll enc Try.prog W 0 (fun _ => true) true Try.f11.params.toList args.toList ds p := hA0
  rw [Try.params11] at hA hval
  obtain ⟨v0, vs0, d0, ds0, p0, q0, hargs, rfl, rfl, h0, r0⟩ := trodAll_cons hA
  obtain ⟨v1, vs1, d1, ds1, p1, q1, rfl, rfl, rfl, h1, r1⟩ := trodAll_cons r0
  obtain ⟨rfl, rfl, rfl⟩ := trodAll_nil r1
  obtain rfl : args = #[v0, v1] := by cases args; simp_all
  obtain ⟨rfl, rfl⟩ := trodVars_none hV
  obtain ⟨A0, c0, xs0, rfl, rx0, hx0, hk0⟩ := arg_slice (e := encKey) (ok := okKey) (s := 3) Try.underlying82 (by kernel_rfl) (by omega) (fun _ => rfl) (opens_struct3 Try.underlying161 (by kernel_rfl) (by kernel_rfl) (opens_string Try.underlying9) (opens_string Try.underlying9) (opens_bool Try.underlying4)) (hval 0 82 v0 rfl rfl) h0
  obtain ⟨A1, c1, xs1, rfl, rx1, hx1, hk1⟩ := arg_slice (e := encAccent) (ok := okAccent) (s := 3) Try.underlying83 (by kernel_rfl) (by omega) (fun _ => rfl) (opens_struct3 Try.underlying164 (by kernel_rfl) (by kernel_rfl) (opens_string Try.underlying9) (opens_string Try.underlying9) (opens_string Try.underlying9)) (hval 1 83 v1 rfl rfl) h1
  clear hA0 hval0
  refine (walk A0 c0 xs0 hx0 hk0 A1 c1 xs1 hx1 hk1 W rx0 rx1).mono fun e W' ⟨he, hg⟩ => ?_
  subst he
  exact ⟨_, rfl, law_shut (f := Try.f11) laidOut (by kernel_rfl) hW' rfl (by kernel_rfl) Try.underlying4 rfl hg⟩

theorem over : Rows.fnExactLettersOfRow.holds Try.pinned (OpenSpec.ofChange Rows.fnExactLettersOfSpec) :=
  OpenClaim.holds_of_wide 11 Try.f11 rfl rfl rfl rfl rfl rfl rfl ⟨rfl, rfl, rfl, rfl, rfl⟩ rfl rfl rfl rfl rfl (by kernel_rfl) Try.func11 (by kernel_rfl)
    (of_decide_eq_true (by kernel_rfl)) (by unfold Func.isWrapper; first | (rw [if_pos (by decide +kernel)]; kernel_rfl) | (rw [if_neg (by decide +kernel)]; exact ⟨rfl, rfl⟩))
    (fun os started H enc _ => lifted os started H enc)

theorem proved : Rows.FnExactLettersOfSaid :=
  over
end Go.Proofs.Yteepcnfpdmmnhaa.fnExactLettersOf
