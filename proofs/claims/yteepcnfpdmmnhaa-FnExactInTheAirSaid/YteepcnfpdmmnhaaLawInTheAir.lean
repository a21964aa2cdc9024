/-
  Proved: the law FnExactInTheAir of the given program returns true for every input, and its arguments read as they did. No condition.
-/
import Derived.Test.YteepcnfpdmmnhaaWInTheAir
namespace Go.Proofs.Yteepcnfpdmmnhaa.fnExactInTheAir
open Go.ChangeShapes Go.WideShapes Go.ChangeAt Go.RowKit
set_option linter.unusedVariables false

theorem own : ownKnob Try.prog.godebug = none := by kernel_rfl
theorem laidOut : laidOutB Try.prog = true := by kernel_rfl

set_option maxRecDepth 100000 in
theorem lifted (os : Os) (started : os.Started) (H : Type) (enc : TypeId × Value → H) :
    ReturnsInHanded {} Try.checked os 3 .any (Rows.fnExactInTheAirSpec.pre6 enc Try.prog Try.f3 Rows.fnExactInTheAirRow.domain false) (Rows.fnExactInTheAirSpec.post enc Try.prog Try.f3 false true false false) := by
  refine returnsInHanded_of_change (C := Try.checked) own started (by kernel_rfl) Try.func3
    (ChangeSpec.witness6 (enc := enc) (C := Try.checked) false ⟨#[], #[.agg #[.int .i64 0, .int .i64 0, .int .i64 0, .int .i64 0, .int .i64 0], .slice none 0 0, .int .i64 0], []⟩ 8 (by kernel_rfl) (by kernel_rfl) (by kernel_rfl) (by kernel_rfl)) ?_
  intro W base args ds gs before hval0 hW hcnd _
  have hval : ∀ (j : Nat) t v, Try.f3.params[j]? = some t → args[j]? = some v → Value.okWide Try.prog W .any base t v := hval0
  have hW' := hW
  obtain ⟨p, q, hA0, hV, rfl, hfz, hnd⟩ := hW
  have hA : DataW.TrodAll enc Try.prog W 0 (fun _ => true) true Try.f3.params.toList args.toList ds p := hA0
  rw [Try.params3] at hA hval
  obtain ⟨v0, vs0, d0, ds0, p0, q0, hargs, rfl, rfl, h0, r0⟩ := trodAll_cons hA
  obtain ⟨v1, vs1, d1, ds1, p1, q1, rfl, rfl, rfl, h1, r1⟩ := trodAll_cons r0
  obtain ⟨v2, vs2, d2, ds2, p2, q2, rfl, rfl, rfl, h2, r2⟩ := trodAll_cons r1
  obtain ⟨rfl, rfl, rfl⟩ := trodAll_nil r2
  obtain rfl : args = #[v0, v1, v2] := by cases args; simp_all
  obtain ⟨rfl, rfl⟩ := trodVars_none hV
  obtain ⟨x0, rfl, hx0⟩ := arg_struct (e := encBasket) (ok := okBasket) Try.underlying23 (opens_struct5 Try.underlying23 (by kernel_rfl) (by kernel_rfl) (opens_int Try.underlying2) (opens_int Try.underlying2) (opens_int Try.underlying2) (opens_int Try.underlying2) (opens_int Try.underlying2)) (hval 0 23 v0 rfl rfl) h0
  obtain ⟨A1, c1, xs1, rfl, rx1, hx1, hk1⟩ := arg_slice (e := encStroke) (ok := okStroke) (s := 2) Try.underlying24 (by kernel_rfl) (by omega) (fun _ => rfl) (opens_struct2 Try.underlying104 (by kernel_rfl) (by kernel_rfl) (opens_int Try.underlying2) (opens_int Try.underlying2)) (hval 1 24 v1 rfl rfl) h1
  obtain ⟨n2, rfl, hn2⟩ := arg_int Try.underlying2 (hval 2 2 v2 rfl rfl) h2
  clear hA0 hval0
  refine (walk x0 hx0 A1 c1 xs1 hx1 hk1 n2 hn2 W rx1).mono fun e W' ⟨he, hg⟩ => ?_
  subst he
  exact ⟨_, rfl, law_shut (f := Try.f3) laidOut (by kernel_rfl) hW' rfl (by kernel_rfl) Try.underlying4 rfl hg⟩

theorem over : Rows.fnExactInTheAirRow.holds Try.pinned (OpenSpec.ofChange Rows.fnExactInTheAirSpec) :=
  OpenClaim.holds_of_wide 3 Try.f3 rfl rfl rfl rfl rfl rfl rfl ⟨rfl, rfl, rfl, rfl, rfl⟩ rfl rfl rfl rfl rfl (by kernel_rfl) Try.func3 (by kernel_rfl)
    (of_decide_eq_true (by kernel_rfl)) (by unfold Func.isWrapper; first | (rw [if_pos (by decide +kernel)]; kernel_rfl) | (rw [if_neg (by decide +kernel)]; exact ⟨rfl, rfl⟩))
    (fun os started H enc _ => lifted os started H enc)

theorem proved : Rows.FnExactInTheAirSaid :=
  over
end Go.Proofs.Yteepcnfpdmmnhaa.fnExactInTheAir
