/-
  FMustWait: spec.MustWait and impl.MustWait.
-/
import Derived.Test.YtbdafliclhenlaaFBasket
namespace Go.Proofs.Ytbdafliclhenlaa
open Go.RowKit
set_option linter.unusedVariables false
attribute [local go_sem ↓] Go.wp_at_zero Go.wp_at_succ
def M_MustWait (x : TBasket) (a c : Int) : Int × Int :=
  if BasketOk x then (if (0 ≤ a ∧ a ≤ x.1 - 1) ∧ (0 ≤ c ∧ c ≤ x.1 - 1) then (waitV x a c, 0) else (0, 2)) else (0, 1)
set_option maxHeartbeats 1600000 in
theorem spec_MustWait_any (x : TBasket) (hx : okBasket x) (a : Int) (ha : I64 a) (c : Int) (hc : I64 c) (w : World) :
    Calls Try.prog 43 #[.agg #[.int .i64 x.1, .int .i64 x.2.1, .int .i64 x.2.2.1, .int .i64 x.2.2.2.1, .int .i64 x.2.2.2.2], .int .i64 a, .int .i64 c] w (RI2 (M_MustWait x a c) w) := by
  rcases ff3 (BasketOk x) (0 ≤ a ∧ a ≤ x.1 - 1) (0 ≤ c ∧ c ≤ x.1 - 1) with h | ⟨h, h2⟩ | ⟨h, h2, h3⟩ | ⟨h, h2, h3⟩
  · have hM : M_MustWait x a c = (0, 1) := by unfold M_MustWait; rw [if_neg h]
    have HM := Lib.hid hM
    clear hM
    go_enter Try.func43, Try.ntmps43
    go_wp2_with (go_at_call 57; refine (l03Ok_no x h _).mono ?_; rintro e w1 ⟨rfl, hb1⟩; have k1 := (AtBasket.new w _ x).next hb1)
    go_ret2
    exact RI2.mk HM.out.symm (bnext (by repeat (first | exact Below.refl _ _ | (apply bal))) hb1)
  · have hM : M_MustWait x a c = (0, 2) := by unfold M_MustWait; rw [if_pos h, if_neg (fun hh => h2 hh.1)]
    have HM := Lib.hid hM
    clear hM
    go_enter Try.func43, Try.ntmps43
    go_wp2_with (first | (go_at_call 57; refine (l03Ok_yes x h _).mono ?_; rintro e w1 ⟨rfl, hb1⟩; have k1 := (AtBasket.new w _ x).next hb1) | (go_at_call 76; refine (l03Bar_no x h a h2 _).mono ?_; rintro e w2 ⟨rfl, hb2⟩; have k2 := k1.next hb2))
    go_ret2
    exact RI2.mk HM.out.symm (bnext (bnext (by repeat (first | exact Below.refl _ _ | (apply bal))) hb1) hb2)
  · have hM : M_MustWait x a c = (0, 2) := by unfold M_MustWait; rw [if_pos h, if_neg (fun hh => h3 hh.2)]
    have HM := Lib.hid hM
    clear hM
    go_enter Try.func43, Try.ntmps43
    go_wp2_with fail
    refine (l03Ok_yes x h _).mono ?_; rintro e w1 ⟨rfl, hb1⟩; have k1 := (AtBasket.new w _ x).next hb1
    go_wp2_with fail
    refine (l03Bar_yes x h a h2 _).mono ?_; rintro e w2 ⟨rfl, hb2⟩; have k2 := k1.next hb2
    go_wp2_with fail
    refine (l03Bar_no x h c h3 _).mono ?_; rintro e w3 ⟨rfl, hb3⟩; have k3 := k2.next hb3
    go_wp2_with fail
    go_ret2
    exact RI2.mk HM.out.symm (bnext (bnext (bnext (by repeat (first | exact Below.refl _ _ | (apply bal))) hb1) hb2) hb3)
  · have hM : M_MustWait x a c = (waitV x a c, 0) := by unfold M_MustWait; rw [if_pos h, if_pos ⟨h2, h3⟩]
    have HM := Lib.hid hM
    clear hM
    have h60 := h.2.1
    go_enter Try.func43, Try.ntmps43
    go_wp2_with fail
    refine (l03Ok_yes x h _).mono ?_; rintro e w1 ⟨rfl, hb1⟩; have k1 := (AtBasket.new w _ x).next hb1
    go_wp2_with fail
    refine (l03Bar_yes x h a h2 _).mono ?_; rintro e w2 ⟨rfl, hb2⟩; have k2 := k1.next hb2
    go_wp2_with fail
    refine (l03Bar_yes x h c h3 _).mono ?_; rintro e w3 ⟨rfl, hb3⟩; have k3 := k2.next hb3
    go_wp2_with fail
    refine (l03Wait_any x h a c (by omega) (by omega) _).mono ?_; rintro e w4 ⟨rfl, hb4⟩
    go_wp2_with fail
    go_ret2
    exact RI2.mk HM.out.symm (bnext (bnext (bnext (bnext (by repeat (first | exact Below.refl _ _ | (apply bal))) hb1) hb2) hb3) hb4)
set_option maxHeartbeats 1600000 in
theorem impl_MustWait_any (x : TBasket) (hx : okBasket x) (a : Int) (ha : I64 a) (c : Int) (hc : I64 c) (w : World) :
    Calls Try.prog 44 #[.agg #[.int .i64 x.1, .int .i64 x.2.1, .int .i64 x.2.2.1, .int .i64 x.2.2.2.1, .int .i64 x.2.2.2.2], .int .i64 a, .int .i64 c] w (RI2 (M_MustWait x a c) w) := by
  rcases ff3 (BasketOk x) (0 ≤ a ∧ a ≤ x.1 - 1) (0 ≤ c ∧ c ≤ x.1 - 1) with h | ⟨h, h2⟩ | ⟨h, h2, h3⟩ | ⟨h, h2, h3⟩
  · have hM : M_MustWait x a c = (0, 1) := by unfold M_MustWait; rw [if_neg h]
    have HM := Lib.hid hM
    clear hM
    go_enter Try.func44, Try.ntmps44
    go_wp2_with (go_at_call 22; refine (iValidBasket_no x h _).mono ?_; rintro e w1 ⟨rfl, hb1⟩; have k1 := (AtBasket.new w _ x).next hb1)
    go_ret2
    exact RI2.mk HM.out.symm (bnext (by repeat (first | exact Below.refl _ _ | (apply bal))) hb1)
  · have hM : M_MustWait x a c = (0, 2) := by unfold M_MustWait; rw [if_pos h, if_neg (fun hh => h2 hh.1)]
    have HM := Lib.hid hM
    clear hM
    go_enter Try.func44, Try.ntmps44
    go_wp2_with (first | (go_at_call 22; refine (iValidBasket_yes x h _).mono ?_; rintro e w1 ⟨rfl, hb1⟩; have k1 := (AtBasket.new w _ x).next hb1) | (go_at_call 78; refine (hasBar_no x h a h2 _).mono ?_; rintro e w2 ⟨rfl, hb2⟩; have k2 := k1.next hb2))
    go_ret2
    exact RI2.mk HM.out.symm (bnext (bnext (by repeat (first | exact Below.refl _ _ | (apply bal))) hb1) hb2)
  · have hM : M_MustWait x a c = (0, 2) := by unfold M_MustWait; rw [if_pos h, if_neg (fun hh => h3 hh.2)]
    have HM := Lib.hid hM
    clear hM
    go_enter Try.func44, Try.ntmps44
    go_wp2_with fail
    refine (iValidBasket_yes x h _).mono ?_; rintro e w1 ⟨rfl, hb1⟩; have k1 := (AtBasket.new w _ x).next hb1
    go_wp2_with fail
    refine (hasBar_yes x h a h2 _).mono ?_; rintro e w2 ⟨rfl, hb2⟩; have k2 := k1.next hb2
    go_wp2_with fail
    refine (hasBar_no x h c h3 _).mono ?_; rintro e w3 ⟨rfl, hb3⟩; have k3 := k2.next hb3
    go_wp2_with fail
    go_ret2
    exact RI2.mk HM.out.symm (bnext (bnext (bnext (by repeat (first | exact Below.refl _ _ | (apply bal))) hb1) hb2) hb3)
  · have hM : M_MustWait x a c = (waitV x a c, 0) := by unfold M_MustWait; rw [if_pos h, if_pos ⟨h2, h3⟩]
    have HM := Lib.hid hM
    clear hM
    have h60 := h.2.1
    go_enter Try.func44, Try.ntmps44
    go_wp2_with fail
    refine (iValidBasket_yes x h _).mono ?_; rintro e w1 ⟨rfl, hb1⟩; have k1 := (AtBasket.new w _ x).next hb1
    go_wp2_with fail
    refine (hasBar_yes x h a h2 _).mono ?_; rintro e w2 ⟨rfl, hb2⟩; have k2 := k1.next hb2
    go_wp2_with fail
    refine (hasBar_yes x h c h3 _).mono ?_; rintro e w3 ⟨rfl, hb3⟩; have k3 := k2.next hb3
    go_wp2_with fail
    refine (waits_any x h a c (by omega) (by omega) _).mono ?_; rintro e w4 ⟨rfl, hb4⟩
    go_wp2_with fail
    go_ret2
    exact RI2.mk HM.out.symm (bnext (bnext (bnext (bnext (by repeat (first | exact Below.refl _ _ | (apply bal))) hb1) hb2) hb3) hb4)
end Go.Proofs.Ytbdafliclhenlaa
