/-
  FSwapL: SwapLetters, MirrorArrange, spec and impl.
-/
import Derived.Test.YtbcomfobnhekpaaFArr
import Derived.Test.YtbcomfobnhekpaaFSwap
namespace Go.Proofs.Ytbcomfobnhekpaa
open Go.RowKit
set_option linter.unusedVariables false
attribute [local go_sem ↓] Go.wp_at_zero Go.wp_at_succ
def InB (ps : List Int) (i : Int) : Prop := 0 ≤ i ∧ i ≤ (ps.length : Int) - 1
open Classical in
noncomputable def M_SwapLetters (x : TBasket) (ps : List Int) (i k : Int) : List Int × Int :=
  if BasketOk x then (if ArrOk x ps 1 7 ∧ InB ps i ∧ InB ps k then (swapL ps i.toNat k.toNat, 0) else ([], 2)) else ([], 1)
def mirrorL (x : TBasket) (ps : List Int) : List Int := ps.map fun p => x.1 - 1 - p
open Classical in
noncomputable def M_MirrorArrange (x : TBasket) (ps : List Int) : List Int × Int :=
  if BasketOk x then (if ArrOk x ps 1 7 then (mirrorL x ps, 0) else ([], 2)) else ([], 1)
set_option maxHeartbeats 3200000 in
set_option maxRecDepth 10000 in
theorem impl_SwapLetters_any (x : TBasket) (hx : okBasket x) (B : Option Addr) (d : Nat) (ps : List Int) (hpl : ps.length ≤ 1048576) (hk64 : ∀ n ∈ ps, KInt64S n) (hcap : ps.length ≤ d) (i : Int) (hi : I64 i) (k : Int) (hk : I64 k) (w : World) (ry : Row w B encInt 1 ps) :
    Calls Try.prog 28 #[.agg #[.int .i64 x.1, .int .i64 x.2.1, .int .i64 x.2.2.1, .int .i64 x.2.2.2.1, .int .i64 x.2.2.2.2], .slice B ps.length d, .int .i64 i, .int .i64 k] w (RLE encInt 1 2 (M_SwapLetters x ps i k) w) := by
  obtain ⟨W0, hW0⟩ : ∃ W0, W0 = w.alloc (.cells #[.int .i64 x.1, .int .i64 x.2.1, .int .i64 x.2.2.1, .int .i64 x.2.2.2.1, .int .i64 x.2.2.2.2] 32) := ⟨_, rfl⟩
  have hB0 : Below w.heap.size w W0 := by rw [hW0]; exact bal (Below.refl _ _) _
  have k0 : AtBasket W0 w.heap.size x := by rw [hW0]; exact AtBasket.new w _ x
  have HW := Lib.hid hW0
  clear hW0
  unfold I64 at hi hk
  rcases ff4 (BasketOk x) (ArrOk x ps 1 7) (0 ≤ i ∧ i ≤ (ps.length : Int) - 1) (0 ≤ k ∧ k ≤ (ps.length : Int) - 1) with h | ⟨h, h2⟩ | ⟨h, h2, h3⟩ | ⟨h, h2, h3, h4⟩ | ⟨h, h2, h3, h4⟩
  · have HM := Lib.hid (show M_SwapLetters x ps i k = ([], 1) by unfold M_SwapLetters; rw [if_neg h])
    go_enter Try.func28, Try.ntmps28
    go_wp2_with fail
    rw [← HW.out]
    refine (RBb.no (iValidBasket_any x _) h).mono ?_; rintro e w1 ⟨rfl, hb1⟩
    go_wp2_with fail
    go_ret2
    exact RLE.no (fun _ => rfl) HM.out.symm (bnext hB0 hb1)
  · have HM := Lib.hid (show M_SwapLetters x ps i k = ([], 2) by unfold M_SwapLetters; rw [if_pos h, if_neg (fun q => h2 q.1)])
    go_enter Try.func28, Try.ntmps28
    go_wp2_with fail
    rw [← HW.out]
    refine (RBb.yes (iValidBasket_any x _) h).mono ?_; rintro e w1 ⟨rfl, hb1⟩
    have k1 := k0.next hb1
    have hpl7 : ps.length ≤ 1048576 := hpl
    go_wp2_with (first | (go_at_call 76; refine (RBb.no (arranges_any x h _ _ ps hpl hk64 1 7 (by omega) (by omega) _ (ry.below (bnext hB0 hb1))) h2).mono ?_; rintro e w3 ⟨rfl, hb3⟩) | (go_at_call 79; first | (refine (between_yes _ _ _ (by omega) _).mono ?_; rintro e w4 ⟨rfl, rfl⟩) | (refine (between_no _ _ _ (by omega) _).mono ?_; rintro e w4 ⟨rfl, rfl⟩)))
    go_ret2
    exact RLE.no (fun _ => rfl) HM.out.symm (bnext (bnext hB0 hb1) hb3)
  · have HM := Lib.hid (show M_SwapLetters x ps i k = ([], 2) by unfold M_SwapLetters; rw [if_pos h, if_neg (fun q => h3 q.2.1)])
    go_enter Try.func28, Try.ntmps28
    go_wp2_with fail
    rw [← HW.out]
    refine (RBb.yes (iValidBasket_any x _) h).mono ?_; rintro e w1 ⟨rfl, hb1⟩
    have k1 := k0.next hb1
    have hpl7 : ps.length ≤ 1048576 := hpl
    go_wp2_with (first | (go_at_call 76; refine (RBb.yes (arranges_any x h _ _ ps hpl hk64 1 7 (by omega) (by omega) _ (ry.below (bnext hB0 hb1))) h2).mono ?_; rintro e w3 ⟨rfl, hb3⟩) | (go_at_call 79; first | (refine (between_yes _ _ _ (by omega) _).mono ?_; rintro e w4 ⟨rfl, rfl⟩) | (refine (between_no _ _ _ (by omega) _).mono ?_; rintro e w4 ⟨rfl, rfl⟩)))
    go_ret2
    exact RLE.no (fun _ => rfl) HM.out.symm (bnext (bnext hB0 hb1) hb3)
  · have HM := Lib.hid (show M_SwapLetters x ps i k = ([], 2) by unfold M_SwapLetters; rw [if_pos h, if_neg (fun q => h4 q.2.2)])
    go_enter Try.func28, Try.ntmps28
    go_wp2_with fail
    rw [← HW.out]
    refine (RBb.yes (iValidBasket_any x _) h).mono ?_; rintro e w1 ⟨rfl, hb1⟩
    have k1 := k0.next hb1
    have hpl7 : ps.length ≤ 1048576 := hpl
    go_wp2_with (first | (go_at_call 76; refine (RBb.yes (arranges_any x h _ _ ps hpl hk64 1 7 (by omega) (by omega) _ (ry.below (bnext hB0 hb1))) h2).mono ?_; rintro e w3 ⟨rfl, hb3⟩) | (go_at_call 79; first | (refine (between_yes _ _ _ (by omega) _).mono ?_; rintro e w4 ⟨rfl, rfl⟩) | (refine (between_no _ _ _ (by omega) _).mono ?_; rintro e w4 ⟨rfl, rfl⟩)))
    go_ret2
    exact RLE.no (fun _ => rfl) HM.out.symm (bnext (bnext hB0 hb1) hb3)
  · obtain ⟨i, rfl⟩ := Int.eq_ofNat_of_zero_le h3.1
    obtain ⟨k, rfl⟩ := Int.eq_ofNat_of_zero_le h4.1
    have hil : i < ps.length := by omega
    have hkl : k < ps.length := by omega
    have HM := Lib.hid (show M_SwapLetters x ps i k = (swapL ps i k, 0) by unfold M_SwapLetters; rw [if_pos h, if_pos ⟨h2, h3, h4⟩, Int.toNat_natCast, Int.toNat_natCast])
    go_enter Try.func28, Try.ntmps28
    go_wp2_with fail
    rw [← HW.out]
    refine (RBb.yes (iValidBasket_any x _) h).mono ?_; rintro e w1 ⟨rfl, hb1⟩
    have k1 := k0.next hb1
    have hpl7 : ps.length ≤ 1048576 := hpl
    go_wp2_with (first | (go_at_call 76; refine (RBb.yes (arranges_any x h _ _ ps hpl hk64 1 7 (by omega) (by omega) _ (ry.below (bnext hB0 hb1))) h2).mono ?_; rintro e w3 ⟨rfl, hb3⟩) | (go_at_call 79; first | (refine (between_yes _ _ _ (by omega) _).mono ?_; rintro e w4 ⟨rfl, rfl⟩) | (refine (between_no _ _ _ (by omega) _).mono ?_; rintro e w4 ⟨rfl, rfl⟩)) | (go_at_call 80; refine (swapped_any _ _ ps hpl i k hil hkl _ (ry.below (bnext (bnext hB0 hb1) hb3))).mono ?_; rintro e w5 ⟨v5, rfl, o5, hb5⟩))
    go_ret2
    exact RLE.mk HM.out.symm (by rw [swapL_len]; exact hpl) (o5.mono (bnext (bnext hB0 hb1) hb3).size) (bnext (bnext (bnext hB0 hb1) hb3) hb5)
set_option maxHeartbeats 3200000 in
set_option maxRecDepth 10000 in
theorem spec_SwapLetters_any (x : TBasket) (hx : okBasket x) (B : Option Addr) (d : Nat) (ps : List Int) (hpl : ps.length ≤ 1048576) (hk64 : ∀ n ∈ ps, KInt64S n) (hcap : ps.length ≤ d) (i : Int) (hi : I64 i) (k : Int) (hk : I64 k) (w : World) (ry : Row w B encInt 1 ps) :
    Calls Try.prog 27 #[.agg #[.int .i64 x.1, .int .i64 x.2.1, .int .i64 x.2.2.1, .int .i64 x.2.2.2.1, .int .i64 x.2.2.2.2], .slice B ps.length d, .int .i64 i, .int .i64 k] w (RLE encInt 1 2 (M_SwapLetters x ps i k) w) := by
  obtain ⟨W0, hW0⟩ : ∃ W0, W0 = w.alloc (.cells #[.int .i64 x.1, .int .i64 x.2.1, .int .i64 x.2.2.1, .int .i64 x.2.2.2.1, .int .i64 x.2.2.2.2] 32) := ⟨_, rfl⟩
  have hB0 : Below w.heap.size w W0 := by rw [hW0]; exact bal (Below.refl _ _) _
  have k0 : AtBasket W0 w.heap.size x := by rw [hW0]; exact AtBasket.new w _ x
  have HW := Lib.hid hW0
  clear hW0
  unfold I64 at hi hk
  rcases ff4 (BasketOk x) (ArrOk x ps 1 7) (0 ≤ i ∧ i ≤ (ps.length : Int) - 1) (0 ≤ k ∧ k ≤ (ps.length : Int) - 1) with h | ⟨h, h2⟩ | ⟨h, h2, h3⟩ | ⟨h, h2, h3, h4⟩ | ⟨h, h2, h3, h4⟩
  · have HM := Lib.hid (show M_SwapLetters x ps i k = ([], 1) by unfold M_SwapLetters; rw [if_neg h])
    go_enter Try.func27, Try.ntmps27
    go_wp2_with fail
    rw [← HW.out]
    refine (RBb.no (l03Ok_any x _) h).mono ?_; rintro e w1 ⟨rfl, hb1⟩
    go_wp2_with fail
    go_ret2
    exact RLE.no (fun _ => rfl) HM.out.symm (bnext hB0 hb1)
  · have HM := Lib.hid (show M_SwapLetters x ps i k = ([], 2) by unfold M_SwapLetters; rw [if_pos h, if_neg (fun q => h2 q.1)])
    go_enter Try.func27, Try.ntmps27
    go_wp2_with fail
    rw [← HW.out]
    refine (RBb.yes (l03Ok_any x _) h).mono ?_; rintro e w1 ⟨rfl, hb1⟩
    have k1 := k0.next hb1
    have hpl7 : ps.length ≤ 1048576 := hpl
    go_wp2_with (first | (go_at_call 74; refine (RBb.no (l05Places_any x h _ _ ps hpl hcap _ (ry.below (bnext hB0 hb1))) h2).mono ?_; rintro e w3 ⟨rfl, hb3⟩) | (go_at_call 77; first | (refine (l00In_yes _ _ _ (by omega) _).mono ?_; rintro e w4 ⟨rfl, rfl⟩) | (refine (l00In_no _ _ _ (by omega) _).mono ?_; rintro e w4 ⟨rfl, rfl⟩)))
    go_ret2
    exact RLE.no (fun _ => rfl) HM.out.symm (bnext (bnext hB0 hb1) hb3)
  · have HM := Lib.hid (show M_SwapLetters x ps i k = ([], 2) by unfold M_SwapLetters; rw [if_pos h, if_neg (fun q => h3 q.2.1)])
    go_enter Try.func27, Try.ntmps27
    go_wp2_with fail
    rw [← HW.out]
    refine (RBb.yes (l03Ok_any x _) h).mono ?_; rintro e w1 ⟨rfl, hb1⟩
    have k1 := k0.next hb1
    have hpl7 : ps.length ≤ 1048576 := hpl
    go_wp2_with (first | (go_at_call 74; refine (RBb.yes (l05Places_any x h _ _ ps hpl hcap _ (ry.below (bnext hB0 hb1))) h2).mono ?_; rintro e w3 ⟨rfl, hb3⟩) | (go_at_call 77; first | (refine (l00In_yes _ _ _ (by omega) _).mono ?_; rintro e w4 ⟨rfl, rfl⟩) | (refine (l00In_no _ _ _ (by omega) _).mono ?_; rintro e w4 ⟨rfl, rfl⟩)))
    go_ret2
    exact RLE.no (fun _ => rfl) HM.out.symm (bnext (bnext hB0 hb1) hb3)
  · have HM := Lib.hid (show M_SwapLetters x ps i k = ([], 2) by unfold M_SwapLetters; rw [if_pos h, if_neg (fun q => h4 q.2.2)])
    go_enter Try.func27, Try.ntmps27
    go_wp2_with fail
    rw [← HW.out]
    refine (RBb.yes (l03Ok_any x _) h).mono ?_; rintro e w1 ⟨rfl, hb1⟩
    have k1 := k0.next hb1
    have hpl7 : ps.length ≤ 1048576 := hpl
    go_wp2_with (first | (go_at_call 74; refine (RBb.yes (l05Places_any x h _ _ ps hpl hcap _ (ry.below (bnext hB0 hb1))) h2).mono ?_; rintro e w3 ⟨rfl, hb3⟩) | (go_at_call 77; first | (refine (l00In_yes _ _ _ (by omega) _).mono ?_; rintro e w4 ⟨rfl, rfl⟩) | (refine (l00In_no _ _ _ (by omega) _).mono ?_; rintro e w4 ⟨rfl, rfl⟩)))
    go_ret2
    exact RLE.no (fun _ => rfl) HM.out.symm (bnext (bnext hB0 hb1) hb3)
  · obtain ⟨i, rfl⟩ := Int.eq_ofNat_of_zero_le h3.1
    obtain ⟨k, rfl⟩ := Int.eq_ofNat_of_zero_le h4.1
    have hil : i < ps.length := by omega
    have hkl : k < ps.length := by omega
    have HM := Lib.hid (show M_SwapLetters x ps i k = (swapL ps i k, 0) by unfold M_SwapLetters; rw [if_pos h, if_pos ⟨h2, h3, h4⟩, Int.toNat_natCast, Int.toNat_natCast])
    go_enter Try.func27, Try.ntmps27
    go_wp2_with fail
    rw [← HW.out]
    refine (RBb.yes (l03Ok_any x _) h).mono ?_; rintro e w1 ⟨rfl, hb1⟩
    have k1 := k0.next hb1
    have hpl7 : ps.length ≤ 1048576 := hpl
    go_wp2_with (first | (go_at_call 74; refine (RBb.yes (l05Places_any x h _ _ ps hpl hcap _ (ry.below (bnext hB0 hb1))) h2).mono ?_; rintro e w3 ⟨rfl, hb3⟩) | (go_at_call 77; first | (refine (l00In_yes _ _ _ (by omega) _).mono ?_; rintro e w4 ⟨rfl, rfl⟩) | (refine (l00In_no _ _ _ (by omega) _).mono ?_; rintro e w4 ⟨rfl, rfl⟩)) | (go_at_call 78; refine (l05Swap_any _ _ ps hpl i k hil hkl _ (ry.below (bnext (bnext hB0 hb1) hb3))).mono ?_; rintro e w5 ⟨v5, rfl, o5, hb5⟩))
    go_ret2
    exact RLE.mk HM.out.symm (by rw [swapL_len]; exact hpl) (o5.mono (bnext (bnext hB0 hb1) hb3).size) (bnext (bnext (bnext hB0 hb1) hb3) hb5)
end Go.Proofs.Ytbcomfobnhekpaa
