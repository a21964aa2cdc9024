/-
  FBasket: when a basket is valid, its bars, and how long two bars must wait.
-/
import Derived.Test.YteepcnfpdmmnhaaFPure
import Derived.Test.YteepcnfpdmmnhaaTBasket
namespace Go.Proofs.Yteepcnfpdmmnhaa
open Go.RowKit
set_option linter.unusedVariables false
attribute [local go_sem ↓] Go.wp_at_zero Go.wp_at_succ
abbrev BasketOk (x : TBasket) : Prop := 2 ≤ x.1 ∧ x.1 ≤ 60 ∧ 1 ≤ x.2.1 ∧ x.2.1 ≤ 100 ∧ 1 ≤ x.2.2.1 ∧ x.2.2.1 ≤ 100 ∧ 1 ≤ x.2.2.2.1 ∧ x.2.2.2.1 ≤ 100 ∧ 0 ≤ x.2.2.2.2 ∧ x.2.2.2.2 ≤ 100
/-- How long two bars must wait for one another. -/
def waitV (x : TBasket) (a c : Int) : Int := if a = c then x.2.1 + x.2.2.1 else x.2.2.2.1 + max 0 (x.2.2.2.2 - (a - c).natAbs)
theorem waitV_bd (x : TBasket) (h : BasketOk x) (a c : Int) : 1 ≤ waitV x a c ∧ waitV x a c ≤ 200 := by
  unfold waitV
  split <;> omega
theorem waitV_comm (x : TBasket) (a c : Int) : waitV x a c = waitV x c a := by
  unfold waitV
  by_cases h : a = c
  · subst h; rfl
  · rw [if_neg h, if_neg (fun hh => h hh.symm)]; omega
set_option maxHeartbeats 1600000 in
theorem l03Ok_any (x : TBasket) (w : World) :
    Calls Try.prog 105 #[.agg #[.int .i64 x.1, .int .i64 x.2.1, .int .i64 x.2.2.1, .int .i64 x.2.2.2.1, .int .i64 x.2.2.2.2]] w (RBb (BasketOk x) w) := by
  rcases (by omega : (¬ (2 ≤ x.1 ∧ x.1 ≤ 60)) ∨
    ((2 ≤ x.1 ∧ x.1 ≤ 60) ∧ ¬ (1 ≤ x.2.1 ∧ x.2.1 ≤ 100)) ∨
    ((2 ≤ x.1 ∧ x.1 ≤ 60) ∧ (1 ≤ x.2.1 ∧ x.2.1 ≤ 100) ∧ ¬ (1 ≤ x.2.2.1 ∧ x.2.2.1 ≤ 100)) ∨
    ((2 ≤ x.1 ∧ x.1 ≤ 60) ∧ (1 ≤ x.2.1 ∧ x.2.1 ≤ 100) ∧ (1 ≤ x.2.2.1 ∧ x.2.2.1 ≤ 100) ∧ ¬ (1 ≤ x.2.2.2.1 ∧ x.2.2.2.1 ≤ 100)) ∨
    ((2 ≤ x.1 ∧ x.1 ≤ 60) ∧ (1 ≤ x.2.1 ∧ x.2.1 ≤ 100) ∧ (1 ≤ x.2.2.1 ∧ x.2.2.1 ≤ 100) ∧ (1 ≤ x.2.2.2.1 ∧ x.2.2.2.1 ≤ 100) ∧ ¬ (0 ≤ x.2.2.2.2 ∧ x.2.2.2.2 ≤ 100)) ∨
    ((2 ≤ x.1 ∧ x.1 ≤ 60) ∧ (1 ≤ x.2.1 ∧ x.2.1 ≤ 100) ∧ (1 ≤ x.2.2.1 ∧ x.2.2.1 ≤ 100) ∧ (1 ≤ x.2.2.2.1 ∧ x.2.2.2.1 ≤ 100) ∧ (0 ≤ x.2.2.2.2 ∧ x.2.2.2.2 ≤ 100))) with h | ⟨h0, h1⟩ | ⟨h0, h1, h2⟩ | ⟨h0, h1, h2, h3⟩ | ⟨h0, h1, h2, h3, h4⟩ | ⟨h0, h1, h2, h3, h4⟩
  all_goals
    go_enter Try.func105, Try.ntmps105
    go_wp2_with (go_at_call 68; first | (refine (l00In_yes _ _ _ (by omega) _).mono ?_; rintro e w' ⟨rfl, rfl⟩) | (refine (l00In_no _ _ _ (by omega) _).mono ?_; rintro e w' ⟨rfl, rfl⟩))
    go_ret
    exact RBb.mk (by constructor <;> intro hh <;> first | (cases hh; done) | rfl | omega) (by repeat (first | exact Below.refl _ _ | (apply bal)))
theorem l03Ok_yes (x : TBasket) (h : BasketOk x) (w : World) :
    Calls Try.prog 105 #[.agg #[.int .i64 x.1, .int .i64 x.2.1, .int .i64 x.2.2.1, .int .i64 x.2.2.2.1, .int .i64 x.2.2.2.2]] w fun e w' => e = .returned (.bool true) ∧ Below w.heap.size w w' :=
  (l03Ok_any x w).mono fun e w' ⟨b, he, hb, hw⟩ => ⟨by rw [he, hb.2 h], hw⟩
theorem l03Ok_no (x : TBasket) (h : ¬ BasketOk x) (w : World) :
    Calls Try.prog 105 #[.agg #[.int .i64 x.1, .int .i64 x.2.1, .int .i64 x.2.2.1, .int .i64 x.2.2.2.1, .int .i64 x.2.2.2.2]] w fun e w' => e = .returned (.bool false) ∧ Below w.heap.size w w' :=
  (l03Ok_any x w).mono fun e w' ⟨b, he, hb, hw⟩ => ⟨by rw [he, Bool.eq_false_iff.2 (fun hh => h (hb.1 hh))], hw⟩
set_option maxHeartbeats 1600000 in
theorem iValidBasket_any (x : TBasket) (w : World) :
    Calls Try.prog 109 #[.agg #[.int .i64 x.1, .int .i64 x.2.1, .int .i64 x.2.2.1, .int .i64 x.2.2.2.1, .int .i64 x.2.2.2.2]] w (RBb (BasketOk x) w) := by
  rcases (by omega : (¬ (2 ≤ x.1 ∧ x.1 ≤ 60)) ∨
    ((2 ≤ x.1 ∧ x.1 ≤ 60) ∧ ¬ (1 ≤ x.2.1 ∧ x.2.1 ≤ 100)) ∨
    ((2 ≤ x.1 ∧ x.1 ≤ 60) ∧ (1 ≤ x.2.1 ∧ x.2.1 ≤ 100) ∧ ¬ (1 ≤ x.2.2.1 ∧ x.2.2.1 ≤ 100)) ∨
    ((2 ≤ x.1 ∧ x.1 ≤ 60) ∧ (1 ≤ x.2.1 ∧ x.2.1 ≤ 100) ∧ (1 ≤ x.2.2.1 ∧ x.2.2.1 ≤ 100) ∧ ¬ (1 ≤ x.2.2.2.1 ∧ x.2.2.2.1 ≤ 100)) ∨
    ((2 ≤ x.1 ∧ x.1 ≤ 60) ∧ (1 ≤ x.2.1 ∧ x.2.1 ≤ 100) ∧ (1 ≤ x.2.2.1 ∧ x.2.2.1 ≤ 100) ∧ (1 ≤ x.2.2.2.1 ∧ x.2.2.2.1 ≤ 100) ∧ ¬ (0 ≤ x.2.2.2.2 ∧ x.2.2.2.2 ≤ 100)) ∨
    ((2 ≤ x.1 ∧ x.1 ≤ 60) ∧ (1 ≤ x.2.1 ∧ x.2.1 ≤ 100) ∧ (1 ≤ x.2.2.1 ∧ x.2.2.1 ≤ 100) ∧ (1 ≤ x.2.2.2.1 ∧ x.2.2.2.1 ≤ 100) ∧ (0 ≤ x.2.2.2.2 ∧ x.2.2.2.2 ≤ 100))) with h | ⟨h0, h1⟩ | ⟨h0, h1, h2⟩ | ⟨h0, h1, h2, h3⟩ | ⟨h0, h1, h2, h3, h4⟩ | ⟨h0, h1, h2, h3, h4⟩
  all_goals
    go_enter Try.func109, Try.ntmps109
    go_wp2_with (go_at_call 72; first | (refine (between_yes _ _ _ (by omega) _).mono ?_; rintro e w' ⟨rfl, rfl⟩) | (refine (between_no _ _ _ (by omega) _).mono ?_; rintro e w' ⟨rfl, rfl⟩))
    go_ret
    exact RBb.mk (by constructor <;> intro hh <;> first | (cases hh; done) | rfl | omega) (by repeat (first | exact Below.refl _ _ | (apply bal)))
theorem impl_ValidBasket_any (x : TBasket) (hx : okBasket x) (w : World) :
    Calls Try.prog 109 #[.agg #[.int .i64 x.1, .int .i64 x.2.1, .int .i64 x.2.2.1, .int .i64 x.2.2.2.1, .int .i64 x.2.2.2.2]] w (RBb (BasketOk x) w) := iValidBasket_any x w
theorem iValidBasket_yes (x : TBasket) (h : BasketOk x) (w : World) :
    Calls Try.prog 109 #[.agg #[.int .i64 x.1, .int .i64 x.2.1, .int .i64 x.2.2.1, .int .i64 x.2.2.2.1, .int .i64 x.2.2.2.2]] w fun e w' => e = .returned (.bool true) ∧ Below w.heap.size w w' :=
  (iValidBasket_any x w).mono fun e w' ⟨b, he, hb, hw⟩ => ⟨by rw [he, hb.2 h], hw⟩
theorem iValidBasket_no (x : TBasket) (h : ¬ BasketOk x) (w : World) :
    Calls Try.prog 109 #[.agg #[.int .i64 x.1, .int .i64 x.2.1, .int .i64 x.2.2.1, .int .i64 x.2.2.2.1, .int .i64 x.2.2.2.2]] w fun e w' => e = .returned (.bool false) ∧ Below w.heap.size w w' :=
  (iValidBasket_any x w).mono fun e w' ⟨b, he, hb, hw⟩ => ⟨by rw [he, Bool.eq_false_iff.2 (fun hh => h (hb.1 hh))], hw⟩
set_option maxHeartbeats 400000 in
theorem l03Bar_any (x : TBasket) (h : BasketOk x) (n : Int) (w : World) :
    Calls Try.prog 123 #[.agg #[.int .i64 x.1, .int .i64 x.2.1, .int .i64 x.2.2.1, .int .i64 x.2.2.2.1, .int .i64 x.2.2.2.2], .int .i64 n] w (RBb (0 ≤ n ∧ n ≤ x.1 - 1) w) := by
  go_enter Try.func123, Try.ntmps123
  go_wp2_with (go_at_call 68; refine (l00In_any _ _ _ _).mono ?_; rintro e w1 ⟨b, rfl, hb, rfl⟩)
  go_ret
  exact RBb.mk hb (by repeat (first | exact Below.refl _ _ | (apply bal)))
set_option maxHeartbeats 400000 in
theorem hasBar_any (x : TBasket) (h : BasketOk x) (n : Int) (w : World) :
    Calls Try.prog 124 #[.agg #[.int .i64 x.1, .int .i64 x.2.1, .int .i64 x.2.2.1, .int .i64 x.2.2.2.1, .int .i64 x.2.2.2.2], .int .i64 n] w (RBb (0 ≤ n ∧ n ≤ x.1 - 1) w) := by
  go_enter Try.func124, Try.ntmps124
  go_wp2_with (go_at_call 72; refine (between_any _ _ _ _).mono ?_; rintro e w1 ⟨b, rfl, hb, rfl⟩)
  go_ret
  exact RBb.mk hb (by repeat (first | exact Below.refl _ _ | (apply bal)))
set_option maxHeartbeats 400000 in
theorem l03Wait_any (x : TBasket) (h : BasketOk x) (a c : Int) (ha : 0 ≤ a ∧ a ≤ 60) (hc : 0 ≤ c ∧ c ≤ 60) (w : World) :
    Calls Try.prog 139 #[.agg #[.int .i64 x.1, .int .i64 x.2.1, .int .i64 x.2.2.1, .int .i64 x.2.2.2.1, .int .i64 x.2.2.2.2], .int .i64 a, .int .i64 c] w fun e w' => e = .returned (.int .i64 (waitV x a c)) ∧ Below w.heap.size w w' := by
  unfold waitV
  by_cases hac : a = c
  · subst hac
    rw [if_pos rfl]
    go_enter Try.func139, Try.ntmps139
    go_wp2
    go_ret
    exact ⟨rfl, by repeat (first | exact Below.refl _ _ | (apply bal))⟩
  · rw [if_neg hac]
    have hq : (a == c) = false := by simpa using hac
    clear hac
    go_enter Try.func139, Try.ntmps139
    go_wp2
    go_quiet ((first | (go_at_call 164; exact quiet_left (l00Size_any (a - c) (by omega) (by omega) _)) | (go_at_call 163; exact quiet_left (l00Max_any _ _ _))))
    go_wp2
    all_goals go_ret
    all_goals exact ⟨ret_int (by omega), bdrewN (by repeat (first | exact Below.refl _ _ | (apply bal))) _⟩
set_option maxHeartbeats 400000 in
theorem waits_any (x : TBasket) (h : BasketOk x) (a c : Int) (ha : 0 ≤ a ∧ a ≤ 60) (hc : 0 ≤ c ∧ c ≤ 60) (w : World) :
    Calls Try.prog 140 #[.agg #[.int .i64 x.1, .int .i64 x.2.1, .int .i64 x.2.2.1, .int .i64 x.2.2.2.1, .int .i64 x.2.2.2.2], .int .i64 a, .int .i64 c] w fun e w' => e = .returned (.int .i64 (waitV x a c)) ∧ Below w.heap.size w w' := by
  unfold waitV
  by_cases hac : a = c
  · subst hac
    rw [if_pos rfl]
    go_enter Try.func140, Try.ntmps140
    go_wp2
    go_ret
    exact ⟨rfl, by repeat (first | exact Below.refl _ _ | (apply bal))⟩
  · rw [if_neg hac]
    have hq : (a == c) = false := by simpa using hac
    clear hac
    go_enter Try.func140, Try.ntmps140
    go_wp2
    go_quiet ((go_at_call 165; exact quiet_left (absolute_any (a - c) (by omega) (by omega) _)))
    go_wp2
    all_goals go_ret
    all_goals exact ⟨ret_int (by omega), bdrewN (by repeat (first | exact Below.refl _ _ | (apply bal))) _⟩
theorem l03Bar_yes (x : TBasket) (hx : BasketOk x) (n : Int) (h : 0 ≤ n ∧ n ≤ x.1 - 1) (w : World) :
    Calls Try.prog 123 #[.agg #[.int .i64 x.1, .int .i64 x.2.1, .int .i64 x.2.2.1, .int .i64 x.2.2.2.1, .int .i64 x.2.2.2.2], .int .i64 n] w fun e w' => e = .returned (.bool true) ∧ Below w.heap.size w w' :=
  (l03Bar_any x hx n w).mono fun e w' ⟨b, he, hb, hw⟩ => ⟨by rw [he, hb.2 h], hw⟩
theorem l03Bar_no (x : TBasket) (hx : BasketOk x) (n : Int) (h : ¬ (0 ≤ n ∧ n ≤ x.1 - 1)) (w : World) :
    Calls Try.prog 123 #[.agg #[.int .i64 x.1, .int .i64 x.2.1, .int .i64 x.2.2.1, .int .i64 x.2.2.2.1, .int .i64 x.2.2.2.2], .int .i64 n] w fun e w' => e = .returned (.bool false) ∧ Below w.heap.size w w' :=
  (l03Bar_any x hx n w).mono fun e w' ⟨b, he, hb, hw⟩ => ⟨by rw [he, Bool.eq_false_iff.2 (fun hh => h (hb.1 hh))], hw⟩
theorem hasBar_yes (x : TBasket) (hx : BasketOk x) (n : Int) (h : 0 ≤ n ∧ n ≤ x.1 - 1) (w : World) :
    Calls Try.prog 124 #[.agg #[.int .i64 x.1, .int .i64 x.2.1, .int .i64 x.2.2.1, .int .i64 x.2.2.2.1, .int .i64 x.2.2.2.2], .int .i64 n] w fun e w' => e = .returned (.bool true) ∧ Below w.heap.size w w' :=
  (hasBar_any x hx n w).mono fun e w' ⟨b, he, hb, hw⟩ => ⟨by rw [he, hb.2 h], hw⟩
theorem hasBar_no (x : TBasket) (hx : BasketOk x) (n : Int) (h : ¬ (0 ≤ n ∧ n ≤ x.1 - 1)) (w : World) :
    Calls Try.prog 124 #[.agg #[.int .i64 x.1, .int .i64 x.2.1, .int .i64 x.2.2.1, .int .i64 x.2.2.2.1, .int .i64 x.2.2.2.2], .int .i64 n] w fun e w' => e = .returned (.bool false) ∧ Below w.heap.size w w' :=
  (hasBar_any x hx n w).mono fun e w' ⟨b, he, hb, hw⟩ => ⟨by rw [he, Bool.eq_false_iff.2 (fun hh => h (hb.1 hh))], hw⟩
end Go.Proofs.Yteepcnfpdmmnhaa
