/-
  KLayout: contracts of markLayout, heldLayout.
-/
import Derived.Test.YteepcnfpdmmnhaaKStringS
import Derived.Test.YteepcnfpdmmnhaaBlk1
namespace Go.Proofs.Yteepcnfpdmmnhaa
open Go.RowKit
set_option linter.unusedVariables false
attribute [local go_sem ↓] Go.wp_at_zero Go.wp_at_succ
abbrev marksLayout := marksStringS
set_option maxHeartbeats 800000 in
theorem markLayout_any {base : Nat} (v : Value) (ys : List ByteArray) (hl : ys.length ≤ 1048576) (k : Int) (h0 : 1 ≤ k) (h9 : k ≤ 4398046511104) (w : World) (ho : Own w base 9 encStr 1 v ys) :
    Calls Try.prog 31 #[.agg #[v], .int .i64 k] w fun e w' => ∃ r : Int, e = .returned (.int .i64 r) ∧ (r = k + (ys.length : Int) ∧ 1 ≤ r) ∧ Own w' base 9 encStr 1 v (marksLayout k ys.length) ∧ w.grownBy w' v.ownBlock := by
  have ho1 := ho.below (bal (Below.refl _ _) (.cells #[v] 46))
  have hg := grown_of_below (bal (Below.refl w.heap.size w) (.cells #[v] 46)) v.ownBlock
  have C := markStringS_any v ys hl k h0 h9 _ ho1
  obtain ⟨A, n, c, rfl⟩ := own_slice ho
  have HC := Lib.hid C
  have HG := Lib.hid hg
  clear C ho ho1 hg
  go_enter Try.func31, Try.ntmps31
  go_wp2_with (go_at_call 84; refine HC.out.mono ?_; rintro e w5 ⟨r, rfl, hr, ho5, hg5⟩; have HR := Lib.hid hr; clear hr)
  go_ret
  exact ⟨_, rfl, HR.out, ho5, HG.out.trans hg5⟩
set_option maxHeartbeats 800000 in
theorem heldLayout_any (A : Option Addr) (c n : Nat) (hl : n ≤ 1048576) (k : Int) (h0 : 1 ≤ k) (h9 : k ≤ 4398046511104) (w : World) (rx : Row w A encStr 1 (marksLayout k n)) :
    Calls Try.prog 32 #[.agg #[.slice A n c], .int .i64 k] w fun e w' => ∃ r : Int, e = .returned (.int .i64 r) ∧ (r = k + (n : Int) ∧ 1 ≤ r) ∧ Below w.heap.size w w' := by
  have rx2 := rx.below (bal (Below.refl _ _) (.cells #[.slice A n c] 46))
  go_enter Try.func32, Try.ntmps32
  go_wp2_with (go_at_call 85; refine (heldStringS_any A c n hl k h0 h9 _ rx2).mono ?_; rintro e w5 ⟨r, rfl, hr, hb5⟩; have HR := Lib.hid hr; clear hr; have hr1 := HR.out.2; have hrn : ¬ (r < 0) := (by omega); have hrd : decide (r < 0) = false := decide_eq_false hrn)
  go_ret
  exact ⟨_, rfl, HR.out, bnext (bal (Below.refl _ _) _) hb5⟩
end Go.Proofs.Yteepcnfpdmmnhaa
