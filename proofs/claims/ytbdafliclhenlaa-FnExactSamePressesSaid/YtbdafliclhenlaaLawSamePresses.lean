/-
  Proved: the law FnExactSamePresses of the given program returns true for every input, and its arguments read as they did. No condition.
-/
import Derived.Test.YtbdafliclhenlaaFSamePresses
namespace Go.Proofs.Ytbdafliclhenlaa.fnExactSamePresses
open Go.ChangeShapes Go.WideShapes Go.ChangeAt Go.RowKit
set_option linter.unusedVariables false
attribute [local go_sem ↓] Go.wp_at_zero Go.wp_at_succ

theorem own : ownKnob Try.prog.godebug = none := by kernel_rfl
theorem laidOut : laidOutB Try.prog = true := by kernel_rfl

set_option maxHeartbeats 2000000 in
set_option maxRecDepth 10000 in
theorem walk (A0 : Option Addr) (c0 : Nat) (xs0 : List TPress) (hx0 : xs0.length ≤ maxLen) (hk0 : ∀ x ∈ xs0, okPress x) (A1 : Option Addr) (c1 : Nat) (xs1 : List TPress) (hx1 : xs1.length ≤ maxLen) (hk1 : ∀ x ∈ xs1, okPress x) (w : World) (rx0 : Row w A0 encPress 2 xs0) (rx1 : Row w A1 encPress 2 xs1) :
    Calls Try.prog 8 #[.slice A0 xs0.length c0, .slice A1 xs1.length c1] w fun e w' => e = .returned (.bool true) ∧ Below w.heap.size w w' := by
  go_enter Try.func8, Try.ntmps8
  go_wp2_with fail
  refine (szPressS_any _ _ xs0 _ hx0 (by omega) (by omega) _).mono ?_; rintro e w1 ⟨l0, rfl, hl0, hb1⟩
  have hB1 : Below w.heap.size w w1 := hb1
  by_cases hnl0 : l0 < 0
  · go_wp2_with fail
    go_ret
    exact ⟨rfl, hB1⟩
  have hl02 := hl0 (by omega)
  have hz0 : xs0.length ≤ 1048576 := by omega
  have hu0 : ∀ x ∈ xs0, KPress x := fun x hx => KPress_of (hk0 x hx)
  have hl0h := Lib.hid hl0; clear hl0
  go_wp2_with fail
  refine (szPressS_any _ _ xs1 _ hx1 (by omega) (by omega) _).mono ?_; rintro e w2 ⟨l1, rfl, hl1, hb2⟩
  have hB2 : Below w.heap.size w w2 := bnext hB1 hb2
  by_cases hnl1 : l1 < 0
  · go_wp2_with fail
    go_ret
    exact ⟨rfl, hB2⟩
  have hl12 := hl1 (by omega)
  have hz1 : xs1.length ≤ 1048576 := by omega
  have hu1 : ∀ x ∈ xs1, KPress x := fun x hx => KPress_of (hk1 x hx)
  have hl1h := Lib.hid hl1; clear hl1
  go_wp2_with fail
  refine (toPressS_any _ _ xs0 hz0 _ (rx0.below hB2)).mono ?_; rintro e w3 ⟨v4, rfl, ho5, hb6⟩
  have hB3 : Below w.heap.size w w3 := bnext hB2 hb6
  obtain ⟨A7, c8, rfl, rr9, hl10⟩ := ho5.form
  go_wp2_with fail
  refine (toPressS_any _ _ xs1 hz1 _ (rx1.below hB3)).mono ?_; rintro e w4 ⟨v12, rfl, ho13, hb14⟩
  have hB4 : Below w.heap.size w w4 := bnext hB3 hb14
  obtain ⟨A15, c16, rfl, rr17, hl18⟩ := ho13.form
  go_wp2_with fail
  refine (spec_SamePresses_any _ _ xs0 hz0 hu0 _ _ xs1 hz1 hu1 _ (rr9.below hb14) rr17).mono ?_; rintro e w5 ⟨wr0, rfl, wR, hb19⟩
  have wRh := Lib.hid wR; clear wR
  have hB5 : Below w.heap.size w w5 := bnext hB4 hb19
  go_wp2_with fail
  refine (toPressS_any _ _ xs0 hz0 _ (rx0.below hB5)).mono ?_; rintro e w6 ⟨v21, rfl, ho22, hb23⟩
  have hB6 : Below w.heap.size w w6 := bnext hB5 hb23
  obtain ⟨A24, c25, rfl, rr26, hl27⟩ := ho22.form
  go_wp2_with fail
  refine (toPressS_any _ _ xs1 hz1 _ (rx1.below hB6)).mono ?_; rintro e w7 ⟨v29, rfl, ho30, hb31⟩
  have hB7 : Below w.heap.size w w7 := bnext hB6 hb31
  obtain ⟨A32, c33, rfl, rr34, hl35⟩ := ho30.form
  go_wp2_with fail
  refine (impl_SamePresses_any _ _ xs0 hz0 hu0 _ _ xs1 hz1 hu1 _ (rr26.below hb31) rr34).mono ?_; rintro e w8 ⟨gr0, rfl, gR, hb36⟩
  have gRh := Lib.hid gR; clear gR
  have hB8 : Below w.heap.size w w8 := bnext hB7 hb36
  have gQ : gr0 = wr0 := by rw [Bool.eq_iff_iff]; exact gRh.out.trans wRh.out.symm
  subst gQ
  go_wp2_with fail
  refine (toPressS_any _ _ xs0 hz0 _ (rx0.below hB8)).mono ?_; rintro e w9 ⟨v38, rfl, ho39, hb40⟩
  have hB9 : Below w.heap.size w w9 := bnext hB8 hb40
  obtain ⟨A41, c42, rfl, rr43, hl44⟩ := ho39.form
  go_wp2_with fail
  refine (eqPressS_any _ _ _ _ xs0 xs0 (by have := hz0; omega) (by have := hz0; omega) _ (rr26.below (bnext hb31 (bnext hb36 hb40))) rr43).mono ?_; rintro e w10 ⟨b45, rfl, hq46, hb47⟩
  obtain rfl : b45 = true := hq46.2 rfl
  have hB10 : Below w.heap.size w w10 := bnext hB9 hb47
  go_wp2_with fail
  refine (toPressS_any _ _ xs1 hz1 _ (rx1.below hB10)).mono ?_; rintro e w11 ⟨v49, rfl, ho50, hb51⟩
  have hB11 : Below w.heap.size w w11 := bnext hB10 hb51
  obtain ⟨A52, c53, rfl, rr54, hl55⟩ := ho50.form
  go_wp2_with fail
  refine (eqPressS_any _ _ _ _ xs1 xs1 (by have := hz1; omega) (by have := hz1; omega) _ (rr34.below (bnext hb36 (bnext hb40 (bnext hb47 hb51)))) rr54).mono ?_; rintro e w12 ⟨b56, rfl, hq57, hb58⟩
  obtain rfl : b56 = true := hq57.2 rfl
  have hB12 : Below w.heap.size w w12 := bnext hB11 hb58
  go_wp2_with fail
  go_ret
  exact ⟨rfl, hB12⟩

set_option maxRecDepth 100000 in
theorem lifted (os : Os) (started : os.Started) (H : Type) (enc : TypeId × Value → H) :
    ReturnsInHanded {} Try.checked os 8 .any (Rows.fnExactSamePressesSpec.pre6 enc Try.prog Try.f8 Rows.fnExactSamePressesRow.domain false) (Rows.fnExactSamePressesSpec.post enc Try.prog Try.f8 false true false false) := by
  refine returnsInHanded_of_change (C := Try.checked) own started (by kernel_rfl) Try.func8
    (ChangeSpec.witness6 (enc := enc) (C := Try.checked) false ⟨#[], #[.slice none 0 0, .slice none 0 0], []⟩ 8 (by kernel_rfl) (by kernel_rfl) (by kernel_rfl) (by kernel_rfl)) ?_
  intro W base args ds gs before hval0 hW hcnd _
  have hval : ∀ (j : Nat) t v, Try.f8.params[j]? = some t → args[j]? = some v → Value.okWide Try.prog W .any base t v := hval0
  have hW' := hW
  obtain ⟨p, q, hA0, hV, rfl, hfz, hnd⟩ := hW
  have hA : DataW.TrodAll enc Try.prog W 0 (fun _ => true) true Try.f8.params.toList args.toList ds p := hA0
  rw [Try.params8] at hA hval
  obtain ⟨v0, vs0, d0, ds0, p0, q0, hargs, rfl, rfl, h0, r0⟩ := trodAll_cons hA
  obtain ⟨v1, vs1, d1, ds1, p1, q1, rfl, rfl, rfl, h1, r1⟩ := trodAll_cons r0
  obtain ⟨rfl, rfl, rfl⟩ := trodAll_nil r1
  obtain rfl : args = #[v0, v1] := by cases args; simp_all
  obtain ⟨rfl, rfl⟩ := trodVars_none hV
  obtain ⟨A0, c0, xs0, rfl, rx0, hx0, hk0⟩ := arg_slice (e := encPress) (ok := okPress) (s := 2) Try.underlying38 (by kernel_rfl) (by omega) (fun _ => rfl) (opens_struct2 Try.underlying84 (by kernel_rfl) (by kernel_rfl) (opens_int Try.underlying2) (opens_bool Try.underlying4)) (hval 0 38 v0 rfl rfl) h0
  obtain ⟨A1, c1, xs1, rfl, rx1, hx1, hk1⟩ := arg_slice (e := encPress) (ok := okPress) (s := 2) Try.underlying38 (by kernel_rfl) (by omega) (fun _ => rfl) (opens_struct2 Try.underlying84 (by kernel_rfl) (by kernel_rfl) (opens_int Try.underlying2) (opens_bool Try.underlying4)) (hval 1 38 v1 rfl rfl) h1
  clear hA0 hval0
  refine (walk A0 c0 xs0 hx0 hk0 A1 c1 xs1 hx1 hk1 W rx0 rx1).mono fun e W' ⟨he, hg⟩ => ?_
  subst he
  exact ⟨_, rfl, law_shut (f := Try.f8) laidOut (by kernel_rfl) hW' rfl (by kernel_rfl) Try.underlying4 rfl hg⟩

theorem over : Rows.fnExactSamePressesRow.holds Try.pinned (OpenSpec.ofChange Rows.fnExactSamePressesSpec) :=
  OpenClaim.holds_of_wide 8 Try.f8 rfl rfl rfl rfl rfl rfl rfl ⟨rfl, rfl, rfl, rfl, rfl⟩ rfl rfl rfl rfl rfl (by kernel_rfl) Try.func8 (by kernel_rfl)
    (of_decide_eq_true (by kernel_rfl)) (by unfold Func.isWrapper; first | (rw [if_pos (by decide +kernel)]; kernel_rfl) | (rw [if_neg (by decide +kernel)]; exact ⟨rfl, rfl⟩))
    (fun os started H enc _ => lifted os started H enc)

theorem proved : Rows.FnExactSamePressesSaid :=
  over
end Go.Proofs.Ytbdafliclhenlaa.fnExactSamePresses
