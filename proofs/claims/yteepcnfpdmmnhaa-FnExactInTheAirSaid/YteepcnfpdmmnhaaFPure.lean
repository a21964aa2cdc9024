/-
  FPure: contracts of the small functions on numbers: l00In, between, l00Max, l00Size, absolute.
-/
import Derived.Test.YteepcnfpdmmnhaaData
namespace Go.Proofs.Yteepcnfpdmmnhaa
open Go.RowKit
set_option linter.unusedVariables false
set_option maxHeartbeats 400000 in
theorem l00In_any (n lo hi : Int) (w : World) :
    Calls Try.prog 68 #[.int .i64 n, .int .i64 lo, .int .i64 hi] w (RB (lo ≤ n ∧ n ≤ hi) w) := by
  by_cases h1 : lo ≤ n <;> by_cases h2 : n ≤ hi
  all_goals
    go_enter Try.func68, Try.ntmps68
    go_wp2
    go_ret
    exact RB.mk (by simp [h1, h2])
set_option maxHeartbeats 400000 in
theorem between_any (n lo hi : Int) (w : World) :
    Calls Try.prog 72 #[.int .i64 n, .int .i64 lo, .int .i64 hi] w (RB (lo ≤ n ∧ n ≤ hi) w) := by
  by_cases h1 : lo ≤ n <;> by_cases h2 : n ≤ hi
  all_goals
    go_enter Try.func72, Try.ntmps72
    go_wp2
    go_ret
    exact RB.mk (by simp [h1, h2])
set_option maxHeartbeats 400000 in
theorem l00Max_any (a b : Int) (w : World) :
    Calls Try.prog 163 #[.int .i64 a, .int .i64 b] w fun e w' => e = .returned (.int .i64 (max a b)) ∧ w = w' := by
  by_cases h1 : b < a
  all_goals
    go_enter Try.func163, Try.ntmps163
    go_wp2
    go_ret
    exact ⟨ret_int (by omega), rfl⟩
set_option maxHeartbeats 400000 in
theorem l00Size_any (a : Int) (h0 : -9223372036854775807 ≤ a) (h9 : a ≤ 9223372036854775807) (w : World) :
    Calls Try.prog 164 #[.int .i64 a] w fun e w' => e = .returned (.int .i64 a.natAbs) ∧ w = w' := by
  by_cases h1 : a < 0
  all_goals
    go_enter Try.func164, Try.ntmps164
    go_wp2
    go_ret
    exact ⟨ret_int (by omega), rfl⟩
set_option maxHeartbeats 400000 in
theorem absolute_any (a : Int) (h0 : -9223372036854775807 ≤ a) (h9 : a ≤ 9223372036854775807) (w : World) :
    Calls Try.prog 165 #[.int .i64 a] w fun e w' => e = .returned (.int .i64 a.natAbs) ∧ w = w' := by
  by_cases h1 : a < 0
  all_goals
    go_enter Try.func165, Try.ntmps165
    go_wp2
    go_ret
    exact ⟨ret_int (by omega), rfl⟩
theorem l00In_yes (n lo hi : Int) (h : lo ≤ n ∧ n ≤ hi) (w : World) :
    Calls Try.prog 68 #[.int .i64 n, .int .i64 lo, .int .i64 hi] w fun e w' => e = .returned (.bool true) ∧ w = w' :=
  (l00In_any n lo hi w).mono fun e w' ⟨b, he, hb, hw⟩ => ⟨by rw [he, hb.2 h], hw⟩
theorem l00In_no (n lo hi : Int) (h : ¬ (lo ≤ n ∧ n ≤ hi)) (w : World) :
    Calls Try.prog 68 #[.int .i64 n, .int .i64 lo, .int .i64 hi] w fun e w' => e = .returned (.bool false) ∧ w = w' :=
  (l00In_any n lo hi w).mono fun e w' ⟨b, he, hb, hw⟩ => ⟨by rw [he, Bool.eq_false_iff.2 (fun hh => h (hb.1 hh))], hw⟩
theorem between_yes (n lo hi : Int) (h : lo ≤ n ∧ n ≤ hi) (w : World) :
    Calls Try.prog 72 #[.int .i64 n, .int .i64 lo, .int .i64 hi] w fun e w' => e = .returned (.bool true) ∧ w = w' :=
  (between_any n lo hi w).mono fun e w' ⟨b, he, hb, hw⟩ => ⟨by rw [he, hb.2 h], hw⟩
theorem between_no (n lo hi : Int) (h : ¬ (lo ≤ n ∧ n ≤ hi)) (w : World) :
    Calls Try.prog 72 #[.int .i64 n, .int .i64 lo, .int .i64 hi] w fun e w' => e = .returned (.bool false) ∧ w = w' :=
  (between_any n lo hi w).mono fun e w' ⟨b, he, hb, hw⟩ => ⟨by rw [he, Bool.eq_false_iff.2 (fun hh => h (hb.1 hh))], hw⟩
end Go.Proofs.Yteepcnfpdmmnhaa
