/-
  FDecs: Decimal and ReadDecimal as the laws call them.
-/
import Derived.Test.YtlpfhmcjacimlaaDoorFNum
namespace Go.Proofs.YtlpfhmcjacimlaaDoor
open Go.RowKit
set_option linter.unusedVariables false
attribute [local go_sem ↓] Go.wp_at_zero Go.wp_at_succ
theorem spec_Decimal_any (n : Int) (hn : I64 n) (w : World) : Calls Tryd.prog 7 #[.int .i64 n] w (RS1 (dstr n) w) := by
  go_enter Tryd.func7, Tryd.ntmps7
  go_wp2_with (go_at_call 17; refine (l01Dec_any n hn _).mono ?_; rintro e w1 ⟨rfl, hb1⟩)
  go_ret
  exact RS1.mk rfl hb1
theorem impl_Decimal_any (n : Int) (hn : I64 n) (w : World) (ht : PowTab w) : Calls Tryd.prog 8 #[.int .i64 n] w (RS1 (dstr n) w) :=
  (iDecimal_any n hn w ht).mono fun e w' ⟨he, hb⟩ => ⟨_, he, rfl, hb⟩
def RNB2 (m : Int × Bool) (w : World) (e : Ending) (w' : World) : Prop := ∃ (n : Int) (b : Bool), e = .returned (.tuple #[.int .i64 n, .bool b]) ∧ (n, b) = m ∧ Below w.heap.size w w'
theorem spec_ReadDecimal_any (s : ByteArray) (hs : s.size ≤ 1048576) (w : World) : Calls Tryd.prog 12 #[.string s] w (RNB2 (M_Num s) w) :=
  (sRead_any s hs w).mono fun e w' ⟨he, hb⟩ => ⟨_, _, he, rfl, hb⟩
theorem impl_ReadDecimal_any (s : ByteArray) (hs : s.size ≤ 1048576) (w : World) (ht : PowTab w) : Calls Tryd.prog 13 #[.string s] w (RNB2 (M_Num s) w) :=
  (iRead_any s hs w ht).mono fun e w' ⟨he, hb⟩ => ⟨_, _, he, rfl, hb⟩
end Go.Proofs.YtlpfhmcjacimlaaDoor
