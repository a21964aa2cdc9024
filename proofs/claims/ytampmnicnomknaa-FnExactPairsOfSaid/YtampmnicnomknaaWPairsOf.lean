/-
  WPairsOf: the walk through the law FnExactPairsOf: it returns true, and only new blocks are made.
-/
import Derived.Test.YtampmnicnomknaaFPairsI
namespace Go.Proofs.Ytampmnicnomknaa.fnExactPairsOf
open Go.ChangeShapes Go.WideShapes Go.ChangeAt Go.RowKit
set_option linter.unusedVariables false
attribute [local go_sem ↓] Go.wp_at_zero Go.wp_at_succ
theorem small (s t : ByteArray) : (∀ r ∈ (M_PairsOf s t).1, r.length ≤ 1048576 ∧ ∀ x ∈ r, I64 x) ∧ (M_PairsOf s t).1.length ≤ 1048576 := by
  by_cases h : PairsIn s t
  · rw [M_pairs_yes h]
    have h1 := square_pairs s t (t.size - 1)
    have h2 : (s.size : Int) ≤ 7 := h.2.1.1
    refine ⟨fun r hr => ?_, by show (pairsT s t (t.size - 1)).length ≤ _; rw [h1.1]; omega⟩
    have h3 := h1.2 r hr
    exact ⟨by rw [h3.1]; omega, fun x hx => by have := h3.2 x hx; exact ⟨by omega, by omega⟩⟩
  · rw [M_pairs_no h]
    exact ⟨fun r hr => by simp at hr, by simp⟩
set_option maxHeartbeats 4000000 in
set_option maxRecDepth 100000 in
theorem walk (s0 : ByteArray) (hs0 : s0.size ≤ maxLen) (s1 : ByteArray) (hs1 : s1.size ≤ maxLen) (w : World) :
    Calls Try.prog 3 #[.string s0, .string s1] w fun e w' => e = .returned (.bool true) ∧ Below w.heap.size w w' := by
  go_enter Try.func3, Try.ntmps3
  by_cases hz0 : ¬ s0.size ≤ 1048576
  · unfold maxLen at hs0
    go_wp2_with fail
    go_ret
    exact ⟨rfl, Below.refl _ _⟩
  rw [Classical.not_not] at hz0
  by_cases hz1 : ¬ s1.size ≤ 1048576
  · unfold maxLen at hs1
    go_wp2_with fail
    go_ret
    exact ⟨rfl, Below.refl _ _⟩
  rw [Classical.not_not] at hz1
  obtain ⟨hu, hl⟩ := small s0 s1
  have HS := Lib.hid (fun W => spec_PairsOf_any s0 hz0 s1 hz1 W)
  have HI := Lib.hid (fun W => impl_PairsOf_any s0 hz0 s1 hz1 W)
  obtain ⟨M, hM⟩ : ∃ M, M_PairsOf s0 s1 = M := ⟨_, rfl⟩
  rw [hM] at HS HI hu hl
  obtain ⟨T, cd⟩ := M
  clear hM
  go_wp2_with fail
  refine (HS.out _).mono ?_; rintro e w1 ⟨v1, n1, rfl, hn1, ho1, hb1⟩
  simp only at hn1 ho1 hu hl
  subst hn1
  obtain ⟨A1, c1, rfl, r1, _⟩ := ho1.form
  go_wp2_with fail
  refine (HI.out _).mono ?_; rintro e w2 ⟨v2, n2, rfl, hn2, ho2, hb2⟩
  simp only at hn2 ho2
  subst hn2
  obtain ⟨A2, c2, rfl, r2, _⟩ := ho2.form
  go_wp2_with fail
  refine (eqInt64SS_any _ _ _ _ T T (by omega) (by omega) hu hu _ r2 (r1.below hb2)).mono ?_; rintro e w3 ⟨b3, rfl, hq3, hb3⟩
  obtain rfl : b3 = true := hq3.2 rfl
  clear hq3
  go_wp2_with fail
  refine (markXX_any _ T hl (fun r hr => (hu r hr).1) 1 (by omega) (by omega) _ (ho2.below hb3)).mono ?_; rintro e w4 ⟨rfl, ho4, hw4⟩
  obtain ⟨A4, c4, hv4, r4, _⟩ := ho4.form
  simp only [Value.slice.injEq] at hv4
  obtain ⟨rfl, hll, rfl⟩ := hv4
  clear hll
  have hB4 : Below w1.heap.size w1 w4 := (bnext hb2 hb3).trans (hw4.below (by have := hb2.size; have := hb3.size; omega))
  have HH := Lib.hid (heldXX_any A2 c2 T hl (fun r hr => (hu r hr).1) 1 (by omega) (by omega))
  obtain ⟨K, hK, hK0⟩ : ∃ K, offK 1 T T.length = K ∧ 0 ≤ K := ⟨_, rfl, by unfold offK; omega⟩
  rw [hK] at HH ⊢
  clear hK
  go_wp2_with fail
  refine (HH.out _ r4).mono ?_; rintro e w5 ⟨rfl, hb5⟩
  go_wp2_with fail
  refine (HI.out _).mono ?_; rintro e w6 ⟨v6, n6, rfl, hn6, ho6, hb6⟩
  simp only at hn6 ho6
  subst hn6
  obtain ⟨A6, c6, rfl, r6, _⟩ := ho6.form
  have hB6 : Below w1.heap.size w1 w6 := hB4.trans ((hb5.trans (hb6.mono (by have := hb5.size; omega))).mono (by have := hB4.size; omega))
  go_wp2_with fail
  refine (eqInt64SS_any _ _ _ _ T T (by omega) (by omega) hu hu _ r6 (r1.below hB6)).mono ?_; rintro e w7 ⟨b7, rfl, hq7, hb7⟩
  obtain rfl : b7 = true := hq7.2 rfl
  clear hq7
  have hB7 : Below w4.heap.size w4 w7 := hb5.trans ((hb6.trans (hb7.mono (by have := hb6.size; omega))).mono (by have := hb5.size; omega))
  go_wp2_with fail
  refine (HH.out _ (r4.below hB7)).mono ?_; rintro e w8 ⟨rfl, hb8⟩
  go_wp2_with fail
  go_ret
  have hB8 : Below w1.heap.size w1 w8 := hB4.trans ((hB7.trans (hb8.mono (by have := hB7.size; omega))).mono (by have := hB4.size; omega))
  exact ⟨rfl, hb1.trans (hB8.mono (by have := hb1.size; omega))⟩
end Go.Proofs.Ytampmnicnomknaa.fnExactPairsOf
