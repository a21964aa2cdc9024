/-
  Proved: the law FnExactOvertypedPlaces of the given program returns true for every input, and its arguments read as they did. No condition.
-/
import Derived.Test.YteepcnfpdmmnhaaWOvertypedPlaces
namespace Go.Proofs.Yteepcnfpdmmnhaa.fnExactOvertypedPlaces
open Go.ChangeShapes Go.WideShapes Go.ChangeAt Go.RowKit
set_option linter.unusedVariables false

theorem own : ownKnob Try.prog.godebug = none := by kernel_rfl
theorem laidOut : laidOutB Try.prog = true := by kernel_rfl

set_option maxRecDepth 100000 in
theorem lifted (os : Os) (started : os.Started) (H : Type) (enc : TypeId × Value → H) :
    ReturnsInHanded {} Try.checked os 7 .any (Rows.fnExactOvertypedPlacesSpec.pre6 enc Try.prog Try.f7 Rows.fnExactOvertypedPlacesRow.domain false) (Rows.fnExactOvertypedPlacesSpec.post enc Try.prog Try.f7 false true false false) := by
  refine returnsInHanded_of_change (C := Try.checked) own started (by kernel_rfl) Try.func7
    (ChangeSpec.witness6 (enc := enc) (C := Try.checked) false ⟨#[], #[.slice none 0 0], []⟩ 8 (by kernel_rfl) (by kernel_rfl) (by kernel_rfl) (by kernel_rfl)) ?_
  intro W base args ds gs before hval0 hW hcnd _
  have hval : ∀ (j : Nat) t v, Try.f7.params[j]? = some t → args[j]? = some v → Value.okWide Try.prog W .any base t v := hval0
  have hW' := hW
  obtain ⟨p, q, hA0, hV, rfl, hfz, hnd⟩ := hW
  have hA : DataW.TrodAll enc Try.prog W 0 (fun _ => true) true Try.f7.params.toList args.toList ds p := hA0
  rw [Try.params7] at hA hval
  obtain ⟨v0, vs0, d0, ds0, p0, q0, hargs, rfl, rfl, h0, r0⟩ := trodAll_cons hA
  obtain ⟨rfl, rfl, rfl⟩ := trodAll_nil r0
  obtain rfl : args = #[v0] := by cases args; simp_all
  obtain ⟨rfl, rfl⟩ := trodVars_none hV
  obtain ⟨A0, c0, xs0, rfl, rx0, hx0, hk0⟩ := arg_slice (e := encStruck) (ok := okStruck) (s := 2) Try.underlying58 (by kernel_rfl) (by omega) (fun _ => rfl) (opens_struct2 Try.underlying126 (by kernel_rfl) (by kernel_rfl) (opens_int Try.underlying2) (opens_string Try.underlying9)) (hval 0 58 v0 rfl rfl) h0
  clear hA0 hval0
  refine (walk A0 c0 xs0 hx0 hk0 W rx0).mono fun e W' ⟨he, hg⟩ => ?_
  subst he
  exact ⟨_, rfl, law_shut (f := Try.f7) laidOut (by kernel_rfl) hW' rfl (by kernel_rfl) Try.underlying4 rfl hg⟩

theorem over : Rows.fnExactOvertypedPlacesRow.holds Try.pinned (OpenSpec.ofChange Rows.fnExactOvertypedPlacesSpec) :=
  OpenClaim.holds_of_wide 7 Try.f7 rfl rfl rfl rfl rfl rfl rfl ⟨rfl, rfl, rfl, rfl, rfl⟩ rfl rfl rfl rfl rfl (by kernel_rfl) Try.func7 (by kernel_rfl)
    (of_decide_eq_true (by kernel_rfl)) (by unfold Func.isWrapper; first | (rw [if_pos (by decide +kernel)]; kernel_rfl) | (rw [if_neg (by decide +kernel)]; exact ⟨rfl, rfl⟩))
    (fun os started H enc _ => lifted os started H enc)

theorem proved : Rows.FnExactOvertypedPlacesSaid :=
  over
end Go.Proofs.Yteepcnfpdmmnhaa.fnExactOvertypedPlaces
