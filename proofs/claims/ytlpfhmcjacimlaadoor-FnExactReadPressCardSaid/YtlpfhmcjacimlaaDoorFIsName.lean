/-
  FIsName: spec.IsName and impl.IsName.
-/
import Derived.Test.YtlpfhmcjacimlaaDoorData
namespace Go.Proofs.YtlpfhmcjacimlaaDoor
open Go.RowKit
set_option linter.unusedVariables false
attribute [local go_sem ↓] Go.wp_at_zero Go.wp_at_succ
def smallC (c : Nat) : Prop := 97 ≤ c ∧ c ≤ 122
def digitC (c : Nat) : Prop := 48 ≤ c ∧ c ≤ 57
def NameOk (s : ByteArray) : Prop := 0 < s.size ∧ s.size ≤ 12 ∧ ∀ (k : Nat) (h : k < s.size), smallC s[k].toNat ∨ (k ≠ 0 ∧ (digitC s[k].toNat ∨ s[k].toNat = 45))
theorem l01Digit_any (c : Nat) (hc : c < 256) (w : World) : Calls Tryd.prog 25 #[.int .u8 c] w (RB (digitC c) w) := by
  by_cases h1 : (48 : Int) ≤ c <;> by_cases h2 : (c : Int) ≤ 57
  all_goals
    go_enter Tryd.func25, Tryd.ntmps25
    go_wp2
    go_ret
    exact RB.mk (by unfold digitC; constructor <;> intro hh <;> first | (cases hh; done) | rfl | omega)
theorem isDigit_any (c : Nat) (hc : c < 256) (w : World) : Calls Tryd.prog 23 #[.int .u8 c] w (RB (digitC c) w) := by
  by_cases h1 : (48 : Int) ≤ c <;> by_cases h2 : (c : Int) ≤ 57
  all_goals
    go_enter Tryd.func23, Tryd.ntmps23
    go_wp2
    go_ret
    exact RB.mk (by unfold digitC; constructor <;> intro hh <;> first | (cases hh; done) | rfl | omega)
end Go.Proofs.YtlpfhmcjacimlaaDoor
