/-
  FPure: contracts of the small functions on numbers: l00In, between, l00Max, l00Size, absolute.
-/
import Derived.Test.YtlpfhmcjacimlaaDoorData
namespace Go.Proofs.YtlpfhmcjacimlaaDoor
open Go.RowKit
set_option linter.unusedVariables false
set_option maxHeartbeats 400000 in
theorem l00In_any (n lo hi : Int) (w : World) :
    Calls Tryd.prog 19 #[.int .i64 n, .int .i64 lo, .int .i64 hi] w (RB (lo ≤ n ∧ n ≤ hi) w) := by
  by_cases h1 : lo ≤ n <;> by_cases h2 : n ≤ hi
  all_goals
    go_enter Tryd.func19, Tryd.ntmps19
    go_wp2
    go_ret
    exact RB.mk (by simp [h1, h2])
set_option maxHeartbeats 400000 in
theorem between_any (n lo hi : Int) (w : World) :
    Calls Tryd.prog 21 #[.int .i64 n, .int .i64 lo, .int .i64 hi] w (RB (lo ≤ n ∧ n ≤ hi) w) := by
  by_cases h1 : lo ≤ n <;> by_cases h2 : n ≤ hi
  all_goals
    go_enter Tryd.func21, Tryd.ntmps21
    go_wp2
    go_ret
    exact RB.mk (by simp [h1, h2])
theorem l00In_yes (n lo hi : Int) (h : lo ≤ n ∧ n ≤ hi) (w : World) :
    Calls Tryd.prog 19 #[.int .i64 n, .int .i64 lo, .int .i64 hi] w fun e w' => e = .returned (.bool true) ∧ w = w' :=
  (l00In_any n lo hi w).mono fun e w' ⟨b, he, hb, hw⟩ => ⟨by rw [he, hb.2 h], hw⟩
theorem l00In_no (n lo hi : Int) (h : ¬ (lo ≤ n ∧ n ≤ hi)) (w : World) :
    Calls Tryd.prog 19 #[.int .i64 n, .int .i64 lo, .int .i64 hi] w fun e w' => e = .returned (.bool false) ∧ w = w' :=
  (l00In_any n lo hi w).mono fun e w' ⟨b, he, hb, hw⟩ => ⟨by rw [he, Bool.eq_false_iff.2 (fun hh => h (hb.1 hh))], hw⟩
theorem between_yes (n lo hi : Int) (h : lo ≤ n ∧ n ≤ hi) (w : World) :
    Calls Tryd.prog 21 #[.int .i64 n, .int .i64 lo, .int .i64 hi] w fun e w' => e = .returned (.bool true) ∧ w = w' :=
  (between_any n lo hi w).mono fun e w' ⟨b, he, hb, hw⟩ => ⟨by rw [he, hb.2 h], hw⟩
theorem between_no (n lo hi : Int) (h : ¬ (lo ≤ n ∧ n ≤ hi)) (w : World) :
    Calls Tryd.prog 21 #[.int .i64 n, .int .i64 lo, .int .i64 hi] w fun e w' => e = .returned (.bool false) ∧ w = w' :=
  (between_any n lo hi w).mono fun e w' ⟨b, he, hb, hw⟩ => ⟨by rw [he, Bool.eq_false_iff.2 (fun hh => h (hb.1 hh))], hw⟩
end Go.Proofs.YtlpfhmcjacimlaaDoor
