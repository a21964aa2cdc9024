/-
  Proved: the law FnExactBestArrange of the given program returns true for every input, and its arguments read as they did. No condition.
-/
import Derived.Test.YteepcnfpdmmnhaaWBestArrange
namespace Go.Proofs.Yteepcnfpdmmnhaa.fnExactBestArrange
open Go.ChangeShapes Go.WideShapes Go.ChangeAt Go.RowKit
set_option linter.unusedVariables false

theorem own : ownKnob Try.prog.godebug = none := by kernel_rfl
theorem laidOut : laidOutB Try.prog = true := by kernel_rfl

set_option maxRecDepth 100000 in
theorem lifted (os : Os) (started : os.Started) (H : Type) (enc : TypeId × Value → H) :
    ReturnsInHanded {} Try.checked os 10 .any (Rows.fnExactBestArrangeSpec.pre6 enc Try.prog Try.f10 Rows.fnExactBestArrangeRow.domain false) (Rows.fnExactBestArrangeSpec.post enc Try.prog Try.f10 false true false false) := by
  refine returnsInHanded_of_change (C := Try.checked) own started (by kernel_rfl) Try.func10
    (ChangeSpec.witness6 (enc := enc) (C := Try.checked) false ⟨#[], #[.agg #[.int .i64 0, .int .i64 0, .int .i64 0, .int .i64 0, .int .i64 0], .slice none 0 0], []⟩ 8 (by kernel_rfl) (by kernel_rfl) (by kernel_rfl) (by kernel_rfl)) ?_
  intro W base args ds gs before hval0 hW hcnd _
  have hval : ∀ (j : Nat) t v, Try.f10.params[j]? = some t → args[j]? = some v → Value.okWide Try.prog W .any base t v := hval0
  have hW' := hW
  obtain ⟨p, q, hA0, hV, rfl, hfz, hnd⟩ := hW
  have hA : DataW.TrodAll enc Try.prog W 0 (fun _ => true) true Try.f10.params.toList args.toList ds p := hA0
  rw [Try.params10] at hA hval
  obtain ⟨v0, vs0, d0, ds0, p0, q0, hargs, rfl, rfl, h0, r0⟩ := trodAll_cons hA
  obtain ⟨v1, vs1, d1, ds1, p1, q1, rfl, rfl, rfl, h1, r1⟩ := trodAll_cons r0
  obtain ⟨rfl, rfl, rfl⟩ := trodAll_nil r1
  obtain rfl : args = #[v0, v1] := by cases args; simp_all
  obtain ⟨rfl, rfl⟩ := trodVars_none hV
  obtain ⟨x0, rfl, hx0⟩ := arg_struct (e := encBasket) (ok := okBasket) Try.underlying23 (opens_struct5 Try.underlying23 (by kernel_rfl) (by kernel_rfl) (opens_int Try.underlying2) (opens_int Try.underlying2) (opens_int Try.underlying2) (opens_int Try.underlying2) (opens_int Try.underlying2)) (hval 0 23 v0 rfl rfl) h0
  obtain ⟨A1, c1, xs1, rfl, rx1, hx1, hk1⟩ := arg_slice (e := encSl) (ok := fun q : Sl Int => Row W q.A encInt 1 q.xs ∧ q.xs.length ≤ maxLen ∧ ∀ x ∈ q.xs, I64 x) (s := 1) Try.underlying38 (by kernel_rfl) (by omega) (fun _ => rfl) (opens_slice (e := encInt) (ok := I64) (s := 1) Try.underlying26 (by kernel_rfl) Nat.one_pos (fun _ => rfl) (opens_int Try.underlying2)) (hval 1 38 v1 rfl rfl) h1
  have rz1 : RowXX W A1 (xss xs1) := ⟨xs1, rfl, rx1, fun q hq => ⟨(hk1 q hq).1, (hk1 q hq).2.1⟩⟩
  have hy1 : (xss xs1).length ≤ maxLen := by simpa using hx1
  have hq1 : ∀ r ∈ xss xs1, r.length ≤ maxLen ∧ ∀ x ∈ r, I64 x := fun r hr => by obtain ⟨q, hq, rfl⟩ := List.mem_map.1 hr; exact (hk1 q hq).2
  clear hA0 hval0
  have xcall := walk x0 hx0 A1 c1 (xss xs1) hy1 hq1 W rz1
  simp only [xss, List.length_map] at xcall
  refine (xcall).mono fun e W' ⟨he, hg⟩ => ?_
  subst he
  exact ⟨_, rfl, law_shut (f := Try.f10) laidOut (by kernel_rfl) hW' rfl (by kernel_rfl) Try.underlying4 rfl hg⟩

theorem over : Rows.fnExactBestArrangeRow.holds Try.pinned (OpenSpec.ofChange Rows.fnExactBestArrangeSpec) :=
  OpenClaim.holds_of_wide 10 Try.f10 rfl rfl rfl rfl rfl rfl rfl ⟨rfl, rfl, rfl, rfl, rfl⟩ rfl rfl rfl rfl rfl (by kernel_rfl) Try.func10 (by kernel_rfl)
    (of_decide_eq_true (by kernel_rfl)) (by unfold Func.isWrapper; first | (rw [if_pos (by decide +kernel)]; kernel_rfl) | (rw [if_neg (by decide +kernel)]; exact ⟨rfl, rfl⟩))
    (fun os started H enc _ => lifted os started H enc)

theorem proved : Rows.FnExactBestArrangeSaid :=
  over
end Go.Proofs.Yteepcnfpdmmnhaa.fnExactBestArrange
