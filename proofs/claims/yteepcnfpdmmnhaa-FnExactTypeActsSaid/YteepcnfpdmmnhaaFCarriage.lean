/-
  FCarriage: when a carriage is valid (spec.l04Ok, impl.ValidCarriage).
-/
import Derived.Test.YteepcnfpdmmnhaaFPure
import Derived.Test.YteepcnfpdmmnhaaTCarriage
namespace Go.Proofs.Yteepcnfpdmmnhaa
open Go.RowKit
set_option linter.unusedVariables false
attribute [local go_sem ↓] Go.wp_at_zero Go.wp_at_succ
abbrev CarriageOk (x : TCarriage) : Prop := 0 ≤ x.1 ∧ x.1 ≤ 300 ∧ x.1 ≤ x.2.1 ∧ x.2.1 ≤ 300 ∧ 20 ≤ x.2.1 - x.1 ∧ x.1 ≤ x.2.2 ∧ x.2.2 ≤ x.2.1
set_option maxHeartbeats 800000 in
theorem l04Ok_any (x : TCarriage) (hx : okCarriage x) (w : World) :
    Calls Try.prog 134 #[.agg #[.int .i64 x.1, .int .i64 x.2.1, .int .i64 x.2.2]] w (RBb (CarriageOk x) w) := by
  rcases (by omega : ¬ (0 ≤ x.1 ∧ x.1 ≤ 300) ∨ ((0 ≤ x.1 ∧ x.1 ≤ 300) ∧ ¬ (x.1 ≤ x.2.1 ∧ x.2.1 ≤ 300)) ∨ ((0 ≤ x.1 ∧ x.1 ≤ 300) ∧ (x.1 ≤ x.2.1 ∧ x.2.1 ≤ 300) ∧ x.2.1 - x.1 < 20) ∨
    ((0 ≤ x.1 ∧ x.1 ≤ 300) ∧ (x.1 ≤ x.2.1 ∧ x.2.1 ≤ 300) ∧ 20 ≤ x.2.1 - x.1 ∧ ¬ (x.1 ≤ x.2.2 ∧ x.2.2 ≤ x.2.1)) ∨ ((0 ≤ x.1 ∧ x.1 ≤ 300) ∧ (x.1 ≤ x.2.1 ∧ x.2.1 ≤ 300) ∧ 20 ≤ x.2.1 - x.1 ∧ (x.1 ≤ x.2.2 ∧ x.2.2 ≤ x.2.1))) with h | ⟨h, h2⟩ | ⟨h, h2, h3⟩ | ⟨h, h2, h3, h4⟩ | ⟨h, h2, h3, h4⟩
  all_goals
    go_enter Try.func134, Try.ntmps134
    go_wp2_with (go_at_call 68; first | (refine (l00In_yes _ _ _ (by omega) _).mono ?_; rintro e w' ⟨rfl, rfl⟩) | (refine (l00In_no _ _ _ (by omega) _).mono ?_; rintro e w' ⟨rfl, rfl⟩))
    go_ret
    exact RBb.mk (by constructor <;> intro hh <;> first | (cases hh; done) | rfl | omega) (by repeat (first | exact Below.refl _ _ | (apply bal)))
set_option maxHeartbeats 800000 in
theorem impl_ValidCarriage_any (x : TCarriage) (hx : okCarriage x) (w : World) :
    Calls Try.prog 100 #[.agg #[.int .i64 x.1, .int .i64 x.2.1, .int .i64 x.2.2]] w (RBb (CarriageOk x) w) := by
  rcases (by omega : x.1 < 0 ∨ (0 ≤ x.1 ∧ 300 < x.2.1) ∨ (0 ≤ x.1 ∧ x.2.1 ≤ 300 ∧ x.2.1 < x.1) ∨ (0 ≤ x.1 ∧ x.2.1 ≤ 300 ∧ x.1 ≤ x.2.1 ∧ x.2.1 - x.1 < 20) ∨
    (0 ≤ x.1 ∧ x.2.1 ≤ 300 ∧ x.1 ≤ x.2.1 ∧ 20 ≤ x.2.1 - x.1 ∧ ¬ (x.1 ≤ x.2.2 ∧ x.2.2 ≤ x.2.1)) ∨ (0 ≤ x.1 ∧ x.2.1 ≤ 300 ∧ x.1 ≤ x.2.1 ∧ 20 ≤ x.2.1 - x.1 ∧ (x.1 ≤ x.2.2 ∧ x.2.2 ≤ x.2.1))) with h | ⟨h, h2⟩ | ⟨h, h2, h3⟩ | ⟨h, h2, h3, h4⟩ | ⟨h, h2, h3, h4, h5⟩ | ⟨h, h2, h3, h4, h5⟩
  all_goals
    go_enter Try.func100, Try.ntmps100
    go_wp2_with (go_at_call 72; first | (refine (between_yes _ _ _ (by omega) _).mono ?_; rintro e w' ⟨rfl, rfl⟩) | (refine (between_no _ _ _ (by omega) _).mono ?_; rintro e w' ⟨rfl, rfl⟩))
    go_ret
    exact RBb.mk (by constructor <;> intro hh <;> first | (cases hh; done) | rfl | omega) (by repeat (first | exact Below.refl _ _ | (apply bal)))
theorem l04Ok_yes (x : TCarriage) (hx : okCarriage x) (h : CarriageOk x) (w : World) :
    Calls Try.prog 134 #[.agg #[.int .i64 x.1, .int .i64 x.2.1, .int .i64 x.2.2]] w fun e w' => e = .returned (.bool true) ∧ Below w.heap.size w w' :=
  (l04Ok_any x hx w).mono fun e w' ⟨b, he, hb, hw⟩ => ⟨by rw [he, hb.2 h], hw⟩
theorem l04Ok_no (x : TCarriage) (hx : okCarriage x) (h : ¬ CarriageOk x) (w : World) :
    Calls Try.prog 134 #[.agg #[.int .i64 x.1, .int .i64 x.2.1, .int .i64 x.2.2]] w fun e w' => e = .returned (.bool false) ∧ Below w.heap.size w w' :=
  (l04Ok_any x hx w).mono fun e w' ⟨b, he, hb, hw⟩ => ⟨by rw [he, Bool.eq_false_iff.2 (fun hh => h (hb.1 hh))], hw⟩
theorem impl_ValidCarriage_yes (x : TCarriage) (hx : okCarriage x) (h : CarriageOk x) (w : World) :
    Calls Try.prog 100 #[.agg #[.int .i64 x.1, .int .i64 x.2.1, .int .i64 x.2.2]] w fun e w' => e = .returned (.bool true) ∧ Below w.heap.size w w' :=
  (impl_ValidCarriage_any x hx w).mono fun e w' ⟨b, he, hb, hw⟩ => ⟨by rw [he, hb.2 h], hw⟩
theorem impl_ValidCarriage_no (x : TCarriage) (hx : okCarriage x) (h : ¬ CarriageOk x) (w : World) :
    Calls Try.prog 100 #[.agg #[.int .i64 x.1, .int .i64 x.2.1, .int .i64 x.2.2]] w fun e w' => e = .returned (.bool false) ∧ Below w.heap.size w w' :=
  (impl_ValidCarriage_any x hx w).mono fun e w' ⟨b, he, hb, hw⟩ => ⟨by rw [he, Bool.eq_false_iff.2 (fun hh => h (hb.1 hh))], hw⟩
end Go.Proofs.Yteepcnfpdmmnhaa
