/-
  Proved: the law FnExactValidBasket of the given program returns true for every input, and its arguments read as they did. No condition.
-/
import Derived.Test.YtbdafliclhenlaaFBasket
namespace Go.Proofs.Ytbdafliclhenlaa.fnExactValidBasket
open Go.ChangeShapes Go.WideShapes Go.ChangeAt Go.RowKit
set_option linter.unusedVariables false
attribute [local go_sem ↓] Go.wp_at_zero Go.wp_at_succ

theorem own : ownKnob Try.prog.godebug = none := by kernel_rfl
theorem laidOut : laidOutB Try.prog = true := by kernel_rfl

set_option maxHeartbeats 2000000 in
set_option maxRecDepth 10000 in
theorem walk (x0 : TBasket) (hx0 : okBasket x0) (w : World)  :
    Calls Try.prog 6 #[.agg #[.int .i64 x0.1, .int .i64 x0.2.1, .int .i64 x0.2.2.1, .int .i64 x0.2.2.2.1, .int .i64 x0.2.2.2.2]] w fun e w' => e = .returned (.bool true) ∧ Below w.heap.size w w' := by
  go_enter Try.func6, Try.ntmps6
  go_wp2_with fail
  have hB0 : Below w.heap.size w (w.alloc (.cells #[.int .i64 x0.1, .int .i64 x0.2.1, .int .i64 x0.2.2.1, .int .i64 x0.2.2.2.1, .int .i64 x0.2.2.2.2] 32)) := by repeat (first | exact Below.refl _ _ | (apply bal))
  have hq0 : w.heap.size < (w.alloc (.cells #[.int .i64 x0.1, .int .i64 x0.2.1, .int .i64 x0.2.2.1, .int .i64 x0.2.2.2.1, .int .i64 x0.2.2.2.2] 32)).heap.size := by simp
  have bx0_0 : (w.alloc (.cells #[.int .i64 x0.1, .int .i64 x0.2.1, .int .i64 x0.2.2.1, .int .i64 x0.2.2.2.1, .int .i64 x0.2.2.2.2] 32)).cell? ⟨w.heap.size, 0, none⟩ = some (.int .i64 x0.1) := by simp [go_sem]
  have bx0_1 : (w.alloc (.cells #[.int .i64 x0.1, .int .i64 x0.2.1, .int .i64 x0.2.2.1, .int .i64 x0.2.2.2.1, .int .i64 x0.2.2.2.2] 32)).cell? ⟨w.heap.size, 1, none⟩ = some (.int .i64 x0.2.1) := by simp [go_sem]
  have bx0_2 : (w.alloc (.cells #[.int .i64 x0.1, .int .i64 x0.2.1, .int .i64 x0.2.2.1, .int .i64 x0.2.2.2.1, .int .i64 x0.2.2.2.2] 32)).cell? ⟨w.heap.size, 2, none⟩ = some (.int .i64 x0.2.2.1) := by simp [go_sem]
  have bx0_3 : (w.alloc (.cells #[.int .i64 x0.1, .int .i64 x0.2.1, .int .i64 x0.2.2.1, .int .i64 x0.2.2.2.1, .int .i64 x0.2.2.2.2] 32)).cell? ⟨w.heap.size, 3, none⟩ = some (.int .i64 x0.2.2.2.1) := by simp [go_sem]
  have bx0_4 : (w.alloc (.cells #[.int .i64 x0.1, .int .i64 x0.2.1, .int .i64 x0.2.2.1, .int .i64 x0.2.2.2.1, .int .i64 x0.2.2.2.2] 32)).cell? ⟨w.heap.size, 4, none⟩ = some (.int .i64 x0.2.2.2.2) := by simp [go_sem]
  generalize hW0 : (w.alloc (.cells #[.int .i64 x0.1, .int .i64 x0.2.1, .int .i64 x0.2.2.1, .int .i64 x0.2.2.2.1, .int .i64 x0.2.2.2.2] 32)) = W0 at *
  go_wp2_with fail
  refine (toBasket_any x0 _).mono ?_; rintro e w1 ⟨rfl, hb1⟩
  have hB1 : Below W0.heap.size W0 w1 := hb1
  have by0_0_1 : w1.cell? ⟨w.heap.size, 0, none⟩ = some (.int .i64 x0.1) := (hB1.cell (p := ⟨w.heap.size, 0, none⟩) hq0).trans bx0_0
  have by0_1_1 : w1.cell? ⟨w.heap.size, 1, none⟩ = some (.int .i64 x0.2.1) := (hB1.cell (p := ⟨w.heap.size, 1, none⟩) hq0).trans bx0_1
  have by0_2_1 : w1.cell? ⟨w.heap.size, 2, none⟩ = some (.int .i64 x0.2.2.1) := (hB1.cell (p := ⟨w.heap.size, 2, none⟩) hq0).trans bx0_2
  have by0_3_1 : w1.cell? ⟨w.heap.size, 3, none⟩ = some (.int .i64 x0.2.2.2.1) := (hB1.cell (p := ⟨w.heap.size, 3, none⟩) hq0).trans bx0_3
  have by0_4_1 : w1.cell? ⟨w.heap.size, 4, none⟩ = some (.int .i64 x0.2.2.2.2) := (hB1.cell (p := ⟨w.heap.size, 4, none⟩) hq0).trans bx0_4
  go_wp2_with fail
  refine (spec_ValidBasket_any x0 hx0 _ ).mono ?_; rintro e w2 ⟨wr0, rfl, wR, hb2⟩
  have wRh := Lib.hid wR; clear wR
  have hB2 : Below W0.heap.size W0 w2 := bnext hB1 hb2
  have by0_0_2 : w2.cell? ⟨w.heap.size, 0, none⟩ = some (.int .i64 x0.1) := (hB2.cell (p := ⟨w.heap.size, 0, none⟩) hq0).trans bx0_0
  have by0_1_2 : w2.cell? ⟨w.heap.size, 1, none⟩ = some (.int .i64 x0.2.1) := (hB2.cell (p := ⟨w.heap.size, 1, none⟩) hq0).trans bx0_1
  have by0_2_2 : w2.cell? ⟨w.heap.size, 2, none⟩ = some (.int .i64 x0.2.2.1) := (hB2.cell (p := ⟨w.heap.size, 2, none⟩) hq0).trans bx0_2
  have by0_3_2 : w2.cell? ⟨w.heap.size, 3, none⟩ = some (.int .i64 x0.2.2.2.1) := (hB2.cell (p := ⟨w.heap.size, 3, none⟩) hq0).trans bx0_3
  have by0_4_2 : w2.cell? ⟨w.heap.size, 4, none⟩ = some (.int .i64 x0.2.2.2.2) := (hB2.cell (p := ⟨w.heap.size, 4, none⟩) hq0).trans bx0_4
  clear by0_0_1 by0_1_1 by0_2_1 by0_3_1 by0_4_1
  go_wp2_with fail
  refine (toBasket_any x0 _).mono ?_; rintro e w3 ⟨rfl, hb3⟩
  have hB3 : Below W0.heap.size W0 w3 := bnext hB2 hb3
  have by0_0_3 : w3.cell? ⟨w.heap.size, 0, none⟩ = some (.int .i64 x0.1) := (hB3.cell (p := ⟨w.heap.size, 0, none⟩) hq0).trans bx0_0
  have by0_1_3 : w3.cell? ⟨w.heap.size, 1, none⟩ = some (.int .i64 x0.2.1) := (hB3.cell (p := ⟨w.heap.size, 1, none⟩) hq0).trans bx0_1
  have by0_2_3 : w3.cell? ⟨w.heap.size, 2, none⟩ = some (.int .i64 x0.2.2.1) := (hB3.cell (p := ⟨w.heap.size, 2, none⟩) hq0).trans bx0_2
  have by0_3_3 : w3.cell? ⟨w.heap.size, 3, none⟩ = some (.int .i64 x0.2.2.2.1) := (hB3.cell (p := ⟨w.heap.size, 3, none⟩) hq0).trans bx0_3
  have by0_4_3 : w3.cell? ⟨w.heap.size, 4, none⟩ = some (.int .i64 x0.2.2.2.2) := (hB3.cell (p := ⟨w.heap.size, 4, none⟩) hq0).trans bx0_4
  clear by0_0_2 by0_1_2 by0_2_2 by0_3_2 by0_4_2
  go_wp2_with fail
  refine (impl_ValidBasket_any x0 hx0 _ ).mono ?_; rintro e w4 ⟨gr0, rfl, gR, hb4⟩
  have gRh := Lib.hid gR; clear gR
  have hB4 : Below W0.heap.size W0 w4 := bnext hB3 hb4
  have by0_0_4 : w4.cell? ⟨w.heap.size, 0, none⟩ = some (.int .i64 x0.1) := (hB4.cell (p := ⟨w.heap.size, 0, none⟩) hq0).trans bx0_0
  have by0_1_4 : w4.cell? ⟨w.heap.size, 1, none⟩ = some (.int .i64 x0.2.1) := (hB4.cell (p := ⟨w.heap.size, 1, none⟩) hq0).trans bx0_1
  have by0_2_4 : w4.cell? ⟨w.heap.size, 2, none⟩ = some (.int .i64 x0.2.2.1) := (hB4.cell (p := ⟨w.heap.size, 2, none⟩) hq0).trans bx0_2
  have by0_3_4 : w4.cell? ⟨w.heap.size, 3, none⟩ = some (.int .i64 x0.2.2.2.1) := (hB4.cell (p := ⟨w.heap.size, 3, none⟩) hq0).trans bx0_3
  have by0_4_4 : w4.cell? ⟨w.heap.size, 4, none⟩ = some (.int .i64 x0.2.2.2.2) := (hB4.cell (p := ⟨w.heap.size, 4, none⟩) hq0).trans bx0_4
  clear by0_0_3 by0_1_3 by0_2_3 by0_3_3 by0_4_3
  have gQ : gr0 = wr0 := by rw [Bool.eq_iff_iff]; exact gRh.out.trans wRh.out.symm
  subst gQ
  go_wp2_with fail
  go_ret
  exact ⟨rfl, bnext hB0 (hB4)⟩

set_option maxRecDepth 100000 in
theorem lifted (os : Os) (started : os.Started) (H : Type) (enc : TypeId × Value → H) :
    ReturnsInHanded {} Try.checked os 6 .any (Rows.fnExactValidBasketSpec.pre6 enc Try.prog Try.f6 Rows.fnExactValidBasketRow.domain false) (Rows.fnExactValidBasketSpec.post enc Try.prog Try.f6 false true false false) := by
  refine returnsInHanded_of_change (C := Try.checked) own started (by kernel_rfl) Try.func6
    (ChangeSpec.witness6 (enc := enc) (C := Try.checked) false ⟨#[], #[.agg #[.int .i64 0, .int .i64 0, .int .i64 0, .int .i64 0, .int .i64 0]], []⟩ 8 (by kernel_rfl) (by kernel_rfl) (by kernel_rfl) (by kernel_rfl)) ?_
  intro W base args ds gs before hval0 hW hcnd _
  have hval : ∀ (j : Nat) t v, Try.f6.params[j]? = some t → args[j]? = some v → Value.okWide Try.prog W .any base t v := hval0
  have hW' := hW
  obtain ⟨p, q, hA0, hV, rfl, hfz, hnd⟩ := hW
  have hA : DataW.TrodAll enc Try.prog W 0 (fun _ => true) true Try.f6.params.toList args.toList ds p := hA0
  rw [Try.params6] at hA hval
  obtain ⟨v0, vs0, d0, ds0, p0, q0, hargs, rfl, rfl, h0, r0⟩ := trodAll_cons hA
  obtain ⟨rfl, rfl, rfl⟩ := trodAll_nil r0
  obtain rfl : args = #[v0] := by cases args; simp_all
  obtain ⟨rfl, rfl⟩ := trodVars_none hV
  obtain ⟨x0, rfl, hx0⟩ := arg_struct (e := encBasket) (ok := okBasket) Try.underlying32 (opens_struct5 Try.underlying32 (by kernel_rfl) (by kernel_rfl) (opens_int Try.underlying2) (opens_int Try.underlying2) (opens_int Try.underlying2) (opens_int Try.underlying2) (opens_int Try.underlying2)) (hval 0 32 v0 rfl rfl) h0
  clear hA0 hval0
  refine (walk x0 hx0 W ).mono fun e W' ⟨he, hg⟩ => ?_
  subst he
  exact ⟨_, rfl, law_shut (f := Try.f6) laidOut (by kernel_rfl) hW' rfl (by kernel_rfl) Try.underlying4 rfl hg⟩

theorem over : Rows.fnExactValidBasketRow.holds Try.pinned (OpenSpec.ofChange Rows.fnExactValidBasketSpec) :=
  OpenClaim.holds_of_wide 6 Try.f6 rfl rfl rfl rfl rfl rfl rfl ⟨rfl, rfl, rfl, rfl, rfl⟩ rfl rfl rfl rfl rfl (by kernel_rfl) Try.func6 (by kernel_rfl)
    (of_decide_eq_true (by kernel_rfl)) (by unfold Func.isWrapper; first | (rw [if_pos (by decide +kernel)]; kernel_rfl) | (rw [if_neg (by decide +kernel)]; exact ⟨rfl, rfl⟩))
    (fun os started H enc _ => lifted os started H enc)

theorem proved : Rows.FnExactValidBasketSaid :=
  over
end Go.Proofs.Ytbdafliclhenlaa.fnExactValidBasket
