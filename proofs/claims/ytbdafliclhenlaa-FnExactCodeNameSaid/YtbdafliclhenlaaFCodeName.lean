/-
  FCodeName: spec.CodeName and impl.CodeName.
-/
import Derived.Test.YtbdafliclhenlaaFPure
namespace Go.Proofs.Ytbdafliclhenlaa
open Go.RowKit
set_option linter.unusedVariables false
attribute [local go_sem ↓] Go.wp_at_zero Go.wp_at_succ
def codeNames : List ByteArray := [⟨#[111, 107]⟩, ⟨#[105, 110, 118, 97, 108, 105, 100]⟩, ⟨#[114, 97, 110, 103, 101]⟩, ⟨#[110, 111, 116, 45, 102, 111, 117, 110, 100]⟩, ⟨#[101, 120, 105, 115, 116, 115]⟩, ⟨#[102, 117, 108, 108]⟩, ⟨#[115, 116, 97, 116, 101]⟩, ⟨#[115, 121, 110, 116, 97, 120]⟩, ⟨#[102, 111, 114, 109, 97, 116]⟩, ⟨#[99, 108, 97, 115, 104]⟩, ⟨#[106, 97, 109]⟩]
def M_CodeName (n : Int) : ByteArray := if 0 ≤ n ∧ n ≤ 10 then codeNames.getD n.toNat ⟨#[]⟩ else ⟨#[]⟩
set_option maxHeartbeats 1600000 in
theorem spec_CodeName_any (n : Int) (hn : I64 n) (w : World) : Calls Try.prog 15 #[.int .i64 n] w (RS1 (M_CodeName n) w) := by
  by_cases h : 0 ≤ n ∧ n ≤ 10
  · rcases (by omega : n = 0 ∨ n = 1 ∨ n = 2 ∨ n = 3 ∨ n = 4 ∨ n = 5 ∨ n = 6 ∨ n = 7 ∨ n = 8 ∨ n = 9 ∨ n = 10) with rfl | rfl | rfl | rfl | rfl | rfl | rfl | rfl | rfl | rfl | rfl
    all_goals
      clear h hn
      go_enter Try.func15, Try.ntmps15
      go_wp2_with (go_at_call 54; refine (l00In_yes _ _ _ (by omega) _).mono ?_; rintro e w1 ⟨rfl, rfl⟩)
      go_ret
      exact RS1.mk (by rfl) (by repeat (first | exact Below.refl _ _ | (apply bal)))
  · have hM : M_CodeName n = ⟨#[]⟩ := by unfold M_CodeName; rw [if_neg h]
    have HM := Lib.hid hM
    clear hM
    go_enter Try.func15, Try.ntmps15
    go_wp2_with (go_at_call 54; refine (l00In_no _ _ _ (by omega) _).mono ?_; rintro e w1 ⟨rfl, rfl⟩)
    go_ret
    exact RS1.mk HM.out.symm (by repeat (first | exact Below.refl _ _ | (apply bal)))
set_option maxHeartbeats 1600000 in
theorem impl_CodeName_any (n : Int) (hn : I64 n) (w : World) : Calls Try.prog 16 #[.int .i64 n] w (RS1 (M_CodeName n) w) := by
  by_cases h : 0 ≤ n ∧ n ≤ 10
  · rcases (by omega : n = 0 ∨ n = 1 ∨ n = 2 ∨ n = 3 ∨ n = 4 ∨ n = 5 ∨ n = 6 ∨ n = 7 ∨ n = 8 ∨ n = 9 ∨ n = 10) with rfl | rfl | rfl | rfl | rfl | rfl | rfl | rfl | rfl | rfl | rfl
    all_goals
      clear h hn
      go_enter Try.func16, Try.ntmps16
      go_wp2
      go_ret
      exact RS1.mk (by rfl) (by repeat (first | exact Below.refl _ _ | (apply bal)))
  · have hM : M_CodeName n = ⟨#[]⟩ := by unfold M_CodeName; rw [if_neg h]
    have HM := Lib.hid hM
    clear hM
    rcases (by omega : n < 0 ∨ (0 ≤ n ∧ 11 ≤ n)) with h1 | ⟨h1, h2⟩
    all_goals
      go_enter Try.func16, Try.ntmps16
      go_wp2
      go_ret
      exact RS1.mk HM.out.symm (by repeat (first | exact Below.refl _ _ | (apply bal)))
end Go.Proofs.Ytbdafliclhenlaa
