/-
  FFastS: FastestStrokes, spec and impl.
-/
import Derived.Test.YtbcomfobnhekpaaFFast
namespace Go.Proofs.Ytbcomfobnhekpaa
open Go.RowKit
set_option linter.unusedVariables false
attribute [local go_sem ↓] Go.wp_at_zero Go.wp_at_succ
noncomputable def M_FastestStrokes (x : TBasket) (xs : List Int) : List TStroke × Int :=
  if BasketOk x then (if BarsOk x xs then (FastF x xs, 0) else ([], 2)) else ([], 1)
set_option maxHeartbeats 3200000 in
set_option maxRecDepth 10000 in
theorem impl_FastestStrokes_any (x : TBasket) (hx : okBasket x) (A : Option Addr) (c : Nat) (xs : List Int) (hxl : xs.length ≤ 1048576) (hk : ∀ n ∈ xs, KInt64S n) (w : World) (rx : Row w A encInt 1 xs) :
    Calls Try.prog 42 #[.agg #[.int .i64 x.1, .int .i64 x.2.1, .int .i64 x.2.2.1, .int .i64 x.2.2.2.1, .int .i64 x.2.2.2.2], .slice A xs.length c] w (RLE encStroke 2 103 (M_FastestStrokes x xs) w) := by
  obtain ⟨W0, hW0⟩ : ∃ W0, W0 = w.alloc (.cells #[.int .i64 x.1, .int .i64 x.2.1, .int .i64 x.2.2.1, .int .i64 x.2.2.2.1, .int .i64 x.2.2.2.2] 32) := ⟨_, rfl⟩
  have hB0 : Below w.heap.size w W0 := by rw [hW0]; exact bal (Below.refl _ _) _
  have k0 : AtBasket W0 w.heap.size x := by rw [hW0]; exact AtBasket.new w _ x
  have HW := Lib.hid hW0
  clear hW0
  rcases ff2 (BasketOk x) (BarsOk x xs) with h | ⟨h, h2⟩ | ⟨h, h2⟩
  · have HM := Lib.hid (show M_FastestStrokes x xs = ([], 1) by unfold M_FastestStrokes; rw [if_neg h])
    go_enter Try.func42, Try.ntmps42
    go_wp2_with fail
    rw [← HW.out]
    refine (RBb.no (iValidBasket_any x _) h).mono ?_; rintro e w1 ⟨rfl, hb1⟩
    have k1 := k0.next hb1
    go_wp2_with fail
    have hB2 := bnext hB0 hb1
    go_ret2
    exact RLE.no (fun _ => rfl) HM.out.symm hB2
  · have HM := Lib.hid (show M_FastestStrokes x xs = ([], 2) by unfold M_FastestStrokes; rw [if_pos h, if_neg h2])
    go_enter Try.func42, Try.ntmps42
    go_wp2_with fail
    rw [← HW.out]
    refine (RBb.yes (iValidBasket_any x _) h).mono ?_; rintro e w1 ⟨rfl, hb1⟩
    have k1 := k0.next hb1
    go_wp2_with fail
    refine (RBb.no (areBars_any x _ _ xs hxl hk h _ (rx.below (bnext hB0 hb1))) h2).mono ?_; rintro e w2 ⟨rfl, hb2⟩
    have k2 := k1.next hb2
    have hB2 := bnext (bnext hB0 hb1) hb2
    go_wp2_with fail
    go_ret2
    exact RLE.no (fun _ => rfl) HM.out.symm hB2
  · have HM := Lib.hid (show M_FastestStrokes x xs = (FastF x xs, 0) by unfold M_FastestStrokes; rw [if_pos h, if_pos h2])
    go_enter Try.func42, Try.ntmps42
    go_wp2_with fail
    rw [← HW.out]
    refine (RBb.yes (iValidBasket_any x _) h).mono ?_; rintro e w1 ⟨rfl, hb1⟩
    have k1 := k0.next hb1
    go_wp2_with fail
    refine (RBb.yes (areBars_any x _ _ xs hxl hk h _ (rx.below (bnext hB0 hb1))) h2).mono ?_; rintro e w2 ⟨rfl, hb2⟩
    have k2 := k1.next hb2
    have hB2 := bnext (bnext hB0 hb1) hb2
    go_wp2_with fail
    refine (fastest_any x h _ _ xs h2 _ (rx.below hB2)).mono ?_; rintro e w3 ⟨v, rfl, hown, hb3⟩
    go_wp2_with fail
    go_ret2
    exact RLE.mk HM.out.symm (by rw [FastF_len]; exact hxl) (hown.mono hB2.size) (bnext hB2 hb3)
set_option maxHeartbeats 3200000 in
set_option maxRecDepth 10000 in
theorem spec_FastestStrokes_any (x : TBasket) (hx : okBasket x) (A : Option Addr) (c : Nat) (xs : List Int) (hxl : xs.length ≤ 1048576) (hk : ∀ n ∈ xs, KInt64S n) (w : World) (rx : Row w A encInt 1 xs) :
    Calls Try.prog 41 #[.agg #[.int .i64 x.1, .int .i64 x.2.1, .int .i64 x.2.2.1, .int .i64 x.2.2.2.1, .int .i64 x.2.2.2.2], .slice A xs.length c] w (RLE encStroke 2 103 (M_FastestStrokes x xs) w) := by
  obtain ⟨W0, hW0⟩ : ∃ W0, W0 = w.alloc (.cells #[.int .i64 x.1, .int .i64 x.2.1, .int .i64 x.2.2.1, .int .i64 x.2.2.2.1, .int .i64 x.2.2.2.2] 32) := ⟨_, rfl⟩
  have hB0 : Below w.heap.size w W0 := by rw [hW0]; exact bal (Below.refl _ _) _
  have k0 : AtBasket W0 w.heap.size x := by rw [hW0]; exact AtBasket.new w _ x
  have HW := Lib.hid hW0
  clear hW0
  rcases ff2 (BasketOk x) (BarsOk x xs) with h | ⟨h, h2⟩ | ⟨h, h2⟩
  · have HM := Lib.hid (show M_FastestStrokes x xs = ([], 1) by unfold M_FastestStrokes; rw [if_neg h])
    have HC := Lib.hid (show M_l03Code x xs = 1 by unfold M_l03Code; rw [if_neg h])
    go_enter Try.func41, Try.ntmps41
    go_wp2_with fail
    rw [← HW.out]
    refine (l03Code_any x _ _ xs hxl hk _ (rx.below hB0)).mono ?_; rintro e w1 ⟨n, rfl, hn, hb1⟩
    replace hn := hn.trans HC.out
    subst hn
    have k1 := k0.next hb1
    have hB2 := bnext hB0 hb1
    go_wp2_with fail
    go_ret2
    exact RLE.no (fun _ => rfl) HM.out.symm hB2
  · have HM := Lib.hid (show M_FastestStrokes x xs = ([], 2) by unfold M_FastestStrokes; rw [if_pos h, if_neg h2])
    have HC := Lib.hid (show M_l03Code x xs = 2 by unfold M_l03Code; rw [if_pos h, if_neg h2])
    go_enter Try.func41, Try.ntmps41
    go_wp2_with fail
    rw [← HW.out]
    refine (l03Code_any x _ _ xs hxl hk _ (rx.below hB0)).mono ?_; rintro e w1 ⟨n, rfl, hn, hb1⟩
    replace hn := hn.trans HC.out
    subst hn
    have k1 := k0.next hb1
    have hB2 := bnext hB0 hb1
    go_wp2_with fail
    go_ret2
    exact RLE.no (fun _ => rfl) HM.out.symm hB2
  · have HM := Lib.hid (show M_FastestStrokes x xs = (FastF x xs, 0) by unfold M_FastestStrokes; rw [if_pos h, if_pos h2])
    have HC := Lib.hid (show M_l03Code x xs = 0 by unfold M_l03Code; rw [if_pos h, if_pos h2])
    go_enter Try.func41, Try.ntmps41
    go_wp2_with fail
    rw [← HW.out]
    refine (l03Code_any x _ _ xs hxl hk _ (rx.below hB0)).mono ?_; rintro e w1 ⟨n, rfl, hn, hb1⟩
    replace hn := hn.trans HC.out
    subst hn
    have k1 := k0.next hb1
    have hB2 := bnext hB0 hb1
    go_wp2_with fail
    refine (l03Fast_any x h _ _ xs h2 _ (rx.below hB2)).mono ?_; rintro e w3 ⟨v, rfl, hown, hb3⟩
    go_wp2_with fail
    go_ret2
    exact RLE.mk HM.out.symm (by rw [FastF_len]; exact hxl) (hown.mono hB2.size) (bnext hB2 hb3)
end Go.Proofs.Ytbcomfobnhekpaa
