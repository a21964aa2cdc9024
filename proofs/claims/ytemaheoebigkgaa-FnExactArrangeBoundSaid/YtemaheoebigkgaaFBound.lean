/-
  FBound: a cost that no arrangement falls below: spec.ArrangeBound, impl.ArrangeBound.
-/
import Derived.Test.YtemaheoebigkgaaFPairs
namespace Go.Proofs.Ytemaheoebigkgaa
open Go.RowKit
set_option linter.unusedVariables false
attribute [local go_sem ↓] Go.wp_at_zero Go.wp_at_succ
def bdF (x : TBasket) (i k : Nat) : Int := if i = k then x.2.1 + x.2.2.1 else x.2.2.2.1
theorem M_bound_eq (x : TBasket) (xs : List (List Int)) (h : BasketOk x) (h2 : PairsOk xs) : M_ArrangeBound x xs = (allS (bdF x) xs 0 0, 0) := by
  unfold M_ArrangeBound
  rw [if_pos h, if_pos h2]; rfl
set_option maxHeartbeats 6400000 in
set_option maxRecDepth 10000 in
theorem impl_ArrangeBound_any (x : TBasket) (hx : okBasket x) (A : Option Addr) (c : Nat) (xs : List (List Int)) (hxl : xs.length ≤ 1048576) (hu : ∀ r ∈ xs, r.length ≤ 1048576 ∧ ∀ x ∈ r, I64 x) (w : World) (rx : RowXX w A xs) :
    Calls Try.prog 22 #[.agg #[.int .i64 x.1, .int .i64 x.2.1, .int .i64 x.2.2.1, .int .i64 x.2.2.2.1, .int .i64 x.2.2.2.2], .slice A xs.length c] w (RI2 (M_ArrangeBound x xs) w) := by
  obtain ⟨W0, hW0⟩ : ∃ W0, W0 = w.alloc (.cells #[.int .i64 x.1, .int .i64 x.2.1, .int .i64 x.2.2.1, .int .i64 x.2.2.2.1, .int .i64 x.2.2.2.2] 31) := ⟨_, rfl⟩
  have hB0 : Below w.heap.size w W0 := by rw [hW0]; exact bal (Below.refl _ _) _
  have k0 : AtBasket W0 w.heap.size x := by rw [hW0]; exact AtBasket.new w _ x
  have HW := Lib.hid hW0
  clear hW0
  rcases ff2 (BasketOk x) (PairsOk xs) with h | ⟨h, h2⟩ | ⟨h, h2⟩
  · have HM := Lib.hid (show M_ArrangeBound x xs = (0, 1) by unfold M_ArrangeBound; rw [if_neg h])
    go_enter Try.func22, Try.ntmps22
    go_wp2_with fail
    rw [← HW.out]
    refine (RBb.no (iValidBasket_any x _) h).mono ?_; rintro e w1 ⟨rfl, hb1⟩
    go_wp2_with fail
    go_ret2
    exact RI2.mk HM.out.symm (bnext hB0 hb1)
  · have HM := Lib.hid (show M_ArrangeBound x xs = (0, 1) by unfold M_ArrangeBound; rw [if_pos h, if_neg h2])
    go_enter Try.func22, Try.ntmps22
    go_wp2_with fail
    rw [← HW.out]
    refine (RBb.yes (iValidBasket_any x _) h).mono ?_; rintro e w1 ⟨rfl, hb1⟩
    go_wp2_with (go_at_call 18; refine (RB.no (iValidPairs_any _ _ xs hxl hu _ (rx.below (bnext hB0 hb1))) h2).mono ?_; rintro e w2 ⟨rfl, rfl⟩)
    go_ret2
    exact RI2.mk HM.out.symm (bnext hB0 hb1)
  obtain ⟨R, hR⟩ : ∃ R, R = allS (bdF x) xs 0 0 := ⟨_, rfl⟩
  have HM := Lib.hid (show M_ArrangeBound x xs = (R, 0) by rw [M_bound_eq x xs h h2, hR])
  have HR := Lib.hid hR
  clear hR
  have hn1 := h2.1.1
  have hn2 := h2.1.2
  have HP := Lib.hid h2
  go_enter Try.func22, Try.ntmps22
  go_wp2_with fail
  rw [← HW.out]
  refine (RBb.yes (iValidBasket_any x _) h).mono ?_; rintro e w1 ⟨rfl, hb1⟩
  have k1 := k0.next hb1
  have hB1 := bnext hB0 hb1
  clear k0
  go_wp2_with (go_at_call 18; refine (RB.yes (iValidPairs_any _ _ xs hxl hu _ (rx.below (bnext hB0 hb1))) h2).mono ?_; rintro e w2 ⟨rfl, rfl⟩)
  go_loopg [6, 21] xs.length (fun g ss is wr => ∃ (i : Nat) (s : Int), i ≤ xs.length ∧ g = xs.length - i ∧ 0 ≤ s ∧ s ≤ 1400000 * i ∧ allS (bdF x) (xs.drop i) i s = R ∧ Below w1.heap.size w1 wr ∧ ss = .int .i64 s ∧ is = .int .i64 i)
  case atStart => exact ⟨0, 0, Nat.zero_le _, rfl, by omega, by omega, HR.out.symm, Below.refl _ _, rfl, rfl⟩
  case round =>
    obtain ⟨i, s, hi, hg, hs0, hs9, hgo, hbw, rfl, rfl⟩ := hrel
    have HG := Lib.hid hg
    clear hg h2
    by_cases hlt : i < xs.length
    · rw [allS_step _ xs i hlt] at hgo
      have HF := Lib.hid hgo
      clear hgo
      have hrow := pairs_row HP.out i hlt
      have hlen := hrow.1
      have HL := Lib.hid hlen
      have HRow := Lib.hid hrow.2
      have hl5 : xs[i].length ≤ 7 := by omega
      have hl6 : ((xs[i].length : Nat) : Int) = (xs.length : Int) := by rw [hlen]
      have HL6 := Lib.hid hl6
      clear hrow hlen hl6
      obtain ⟨b, off, A', c', rfl, hb', c0, rr, hll⟩ := (rx.below (bnext hB1 hbw)).at_ hlt
      go_wp2_with fail
      go_loopg [6, 28] xs.length (fun g2 ss ks wi => ∃ (k : Nat) (s2 : Int), k ≤ xs.length ∧ g2 = xs.length - k ∧ 0 ≤ s2 ∧ s2 ≤ 1400000 * i + 200000 * k ∧ allS (bdF x) (xs.drop (i + 1)) (i + 1) (rowS (bdF x i) (xs[i].drop k) k s2) = R ∧ Below wr.heap.size wr wi ∧ ss = .int .i64 s2 ∧ ks = .int .i64 k)
      case atStart => exact ⟨0, s, Nat.zero_le _, rfl, hs0, by omega, HF.out, Below.refl _ _, rfl, rfl⟩
      case round =>
        obtain ⟨k, s2, hk, hg2, ht0, ht9, hgo, hbi, rfl, rfl⟩ := hrel
        have HG2 := Lib.hid hg2
        have k2 := (k1.next hbw).next hbi
        have c1 := (hbi.cell (p := ⟨b, _, none⟩) hb').trans c0
        clear hg2
        by_cases hlt2 : k < xs.length
        · have hlk : k < xs[i].length := by rw [HL.out]; exact hlt2
          rw [rowS_step _ _ k hlk] at hgo
          have hn := HRow.out _ (List.getElem_mem hlk)
          obtain ⟨b2, off2, hA2, hb2, d0⟩ := (rr.below hbi).at1 (f := fun x : Int => .int .i64 x) hlk
          subst hA2
          obtain ⟨q1, q2, q3, q4, q5, q6, q7, q8, q9, q10⟩ := h
          have i1 : (0 : Int) ≤ (i : Int) := by omega
          have i2 : (i : Int) < (xs.length : Int) := by omega
          have i3 : (0 : Int) ≤ (k : Int) := by omega
          have i4 : (k : Int) < (xs[i].length : Int) := by omega
          have i5 : (k : Int) < (xs.length : Int) := by omega
          obtain ⟨n, hnn⟩ : ∃ n, xs[i][k] = n := ⟨_, rfl⟩
          rw [hnn] at hgo hn d0
          clear hnn
          by_cases hik : i = k
          · have hf : bdF x i k = (x.2.1 + x.2.2.1) := by unfold bdF; rw [if_pos hik]
            rw [hf] at hgo
            have hm := mul_bd hn (show 0 ≤ (x.2.1 + x.2.2.1) ∧ (x.2.1 + x.2.2.1) ≤ 200 by omega)
            obtain ⟨hm0, hm9⟩ := hm
            have te : ((i : Int) == (k : Int)) = true := by rw [hik]; simp
            have te2 : (i == k) = true := by rw [hik]; simp
            have HF2 := Lib.hid hgo
            have wm : IntKind.i64.wrap (n * (x.2.1 + x.2.2.1)) = n * (x.2.1 + x.2.2.1) := IntWalk.i64_in _ (by omega)
            have wm2 : IntKind.i64.wrap (s2 + n * (x.2.1 + x.2.2.1)) = s2 + n * (x.2.1 + x.2.2.1) := IntWalk.i64_in _ (by omega)
            have HIK := Lib.hid hik
            clear hgo hf hik
            go_wp2_with fail
            go_roundg (xs.length - (k + 1))
            case measure => rw [HG2.out]; omega
            case rel => exact ⟨k + 1, s2 + n * (x.2.1 + x.2.2.1), by omega, rfl, by omega, by omega, HF2.out, hbi, by go_num, by go_num⟩
          · have hf : bdF x i k = x.2.2.2.1 := by unfold bdF; rw [if_neg hik]
            rw [hf] at hgo
            have hm := mul_bd hn (show 0 ≤ x.2.2.2.1 ∧ x.2.2.2.1 ≤ 200 by omega)
            obtain ⟨hm0, hm9⟩ := hm
            have te : ((i : Int) == (k : Int)) = false := by rw [beq_eq_false_iff_ne]; omega
            have te2 : (i == k) = false := by rw [beq_eq_false_iff_ne]; omega
            have HF2 := Lib.hid hgo
            have wm : IntKind.i64.wrap (n * x.2.2.2.1) = n * x.2.2.2.1 := IntWalk.i64_in _ (by omega)
            have wm2 : IntKind.i64.wrap (s2 + n * x.2.2.2.1) = s2 + n * x.2.2.2.1 := IntWalk.i64_in _ (by omega)
            have HIK := Lib.hid hik
            clear hgo hf hik
            go_wp2_with fail
            go_roundg (xs.length - (k + 1))
            case measure => rw [HG2.out]; omega
            case rel => exact ⟨k + 1, s2 + n * x.2.2.2.1, by omega, rfl, by omega, by omega, HF2.out, hbi, by go_num, by go_num⟩
        · have hlk : ¬ k < xs[i].length := by rw [HL.out]; exact hlt2
          have hlk2 : xs[i].length ≤ k := by omega
          rw [List.drop_of_length_le hlk2] at hgo
          have HF2 := Lib.hid (show allS (bdF x) (xs.drop (i + 1)) (i + 1) s2 = R from hgo)
          clear hgo
          go_wp2_with fail
          go_roundg (xs.length - (i + 1))
          case measure => rw [HG.out]; omega
          case rel => exact ⟨i + 1, s2, by omega, rfl, ht0, by omega, HF2.out, bnext hbw hbi, rfl, by go_num⟩
    · have hfin : s = R := by
        rw [List.drop_of_length_le (by omega)] at hgo; exact hgo
      have HF := Lib.hid hfin
      clear hfin hgo
      go_wp2_with fail
      go_ret2
      exact RI2.mk (by rw [HM.out, HF.out]) (bnext hB1 hbw)
set_option maxHeartbeats 6400000 in
set_option maxRecDepth 10000 in
theorem spec_ArrangeBound_any (x : TBasket) (hx : okBasket x) (A : Option Addr) (c : Nat) (xs : List (List Int)) (hxl : xs.length ≤ 1048576) (hu : ∀ r ∈ xs, r.length ≤ 1048576 ∧ ∀ x ∈ r, I64 x) (w : World) (rx : RowXX w A xs) :
    Calls Try.prog 20 #[.agg #[.int .i64 x.1, .int .i64 x.2.1, .int .i64 x.2.2.1, .int .i64 x.2.2.2.1, .int .i64 x.2.2.2.2], .slice A xs.length c] w (RI2 (M_ArrangeBound x xs) w) := by
  obtain ⟨W0, hW0⟩ : ∃ W0, W0 = w.alloc (.cells #[.int .i64 x.1, .int .i64 x.2.1, .int .i64 x.2.2.1, .int .i64 x.2.2.2.1, .int .i64 x.2.2.2.2] 31) := ⟨_, rfl⟩
  have hB0 : Below w.heap.size w W0 := by rw [hW0]; exact bal (Below.refl _ _) _
  have k0 : AtBasket W0 w.heap.size x := by rw [hW0]; exact AtBasket.new w _ x
  have HW := Lib.hid hW0
  clear hW0
  rcases ff2 (BasketOk x) (PairsOk xs) with h | ⟨h, h2⟩ | ⟨h, h2⟩
  · have HM := Lib.hid (show M_ArrangeBound x xs = (0, 1) by unfold M_ArrangeBound; rw [if_neg h])
    go_enter Try.func20, Try.ntmps20
    go_wp2_with fail
    rw [← HW.out]
    refine (RBb.no (l03Ok_any x _) h).mono ?_; rintro e w1 ⟨rfl, hb1⟩
    go_wp2_with fail
    go_ret2
    exact RI2.mk HM.out.symm (bnext hB0 hb1)
  · have HM := Lib.hid (show M_ArrangeBound x xs = (0, 1) by unfold M_ArrangeBound; rw [if_pos h, if_neg h2])
    go_enter Try.func20, Try.ntmps20
    go_wp2_with fail
    rw [← HW.out]
    refine (RBb.yes (l03Ok_any x _) h).mono ?_; rintro e w1 ⟨rfl, hb1⟩
    go_wp2_with (go_at_call 62; refine (RB.no (l05Ok_any _ _ xs hxl hu _ (rx.below (bnext hB0 hb1))) h2).mono ?_; rintro e w2 ⟨rfl, rfl⟩)
    go_ret2
    exact RI2.mk HM.out.symm (bnext hB0 hb1)
  obtain ⟨R, hR⟩ : ∃ R, R = allS (bdF x) xs 0 0 := ⟨_, rfl⟩
  have HM := Lib.hid (show M_ArrangeBound x xs = (R, 0) by rw [M_bound_eq x xs h h2, hR])
  have HR := Lib.hid hR
  clear hR
  have hn1 := h2.1.1
  have hn2 := h2.1.2
  have HP := Lib.hid h2
  go_enter Try.func20, Try.ntmps20
  go_wp2_with fail
  rw [← HW.out]
  refine (RBb.yes (l03Ok_any x _) h).mono ?_; rintro e w1 ⟨rfl, hb1⟩
  have k1 := k0.next hb1
  have hB1 := bnext hB0 hb1
  clear k0
  go_wp2_with (go_at_call 62; refine (RB.yes (l05Ok_any _ _ xs hxl hu _ (rx.below (bnext hB0 hb1))) h2).mono ?_; rintro e w2 ⟨rfl, rfl⟩)
  go_loopg [6, 7] xs.length (fun g ss is wr => ∃ (i : Nat) (s : Int), i ≤ xs.length ∧ g = xs.length - i ∧ 0 ≤ s ∧ s ≤ 1400000 * i ∧ allS (bdF x) (xs.drop i) i s = R ∧ Below w1.heap.size w1 wr ∧ ss = .int .i64 s ∧ is = .int .i64 i)
  case atStart => exact ⟨0, 0, Nat.zero_le _, rfl, by omega, by omega, HR.out.symm, Below.refl _ _, rfl, rfl⟩
  case round =>
    obtain ⟨i, s, hi, hg, hs0, hs9, hgo, hbw, rfl, rfl⟩ := hrel
    have HG := Lib.hid hg
    clear hg h2
    by_cases hlt : i < xs.length
    · rw [allS_step _ xs i hlt] at hgo
      have HF := Lib.hid hgo
      clear hgo
      have hrow := pairs_row HP.out i hlt
      have hlen := hrow.1
      have HL := Lib.hid hlen
      have HRow := Lib.hid hrow.2
      have hl5 : xs[i].length ≤ 7 := by omega
      have hl6 : ((xs[i].length : Nat) : Int) = (xs.length : Int) := by rw [hlen]
      have HL6 := Lib.hid hl6
      clear hrow hlen hl6
      obtain ⟨b, off, A', c', rfl, hb', c0, rr, hll⟩ := (rx.below (bnext hB1 hbw)).at_ hlt
      go_wp2_with fail
      go_loopg [6, 8] xs.length (fun g2 ss ks wi => ∃ (k : Nat) (s2 : Int), k ≤ xs.length ∧ g2 = xs.length - k ∧ 0 ≤ s2 ∧ s2 ≤ 1400000 * i + 200000 * k ∧ allS (bdF x) (xs.drop (i + 1)) (i + 1) (rowS (bdF x i) (xs[i].drop k) k s2) = R ∧ Below wr.heap.size wr wi ∧ ss = .int .i64 s2 ∧ ks = .int .i64 k)
      case atStart => exact ⟨0, s, Nat.zero_le _, rfl, hs0, by omega, HF.out, Below.refl _ _, rfl, rfl⟩
      case round =>
        obtain ⟨k, s2, hk, hg2, ht0, ht9, hgo, hbi, rfl, rfl⟩ := hrel
        have HG2 := Lib.hid hg2
        have k2 := (k1.next hbw).next hbi
        have c1 := (hbi.cell (p := ⟨b, _, none⟩) hb').trans c0
        clear hg2
        by_cases hlt2 : k < xs.length
        · have hlk : k < xs[i].length := by rw [HL.out]; exact hlt2
          rw [rowS_step _ _ k hlk] at hgo
          have hn := HRow.out _ (List.getElem_mem hlk)
          obtain ⟨b2, off2, hA2, hb2, d0⟩ := (rr.below hbi).at1 (f := fun x : Int => .int .i64 x) hlk
          subst hA2
          obtain ⟨q1, q2, q3, q4, q5, q6, q7, q8, q9, q10⟩ := h
          have i1 : (0 : Int) ≤ (i : Int) := by omega
          have i2 : (i : Int) < (xs.length : Int) := by omega
          have i3 : (0 : Int) ≤ (k : Int) := by omega
          have i4 : (k : Int) < (xs[i].length : Int) := by omega
          have i5 : (k : Int) < (xs.length : Int) := by omega
          obtain ⟨n, hnn⟩ : ∃ n, xs[i][k] = n := ⟨_, rfl⟩
          rw [hnn] at hgo hn d0
          clear hnn
          by_cases hik : i = k
          · have hf : bdF x i k = (x.2.1 + x.2.2.1) := by unfold bdF; rw [if_pos hik]
            rw [hf] at hgo
            have hm := mul_bd hn (show 0 ≤ (x.2.1 + x.2.2.1) ∧ (x.2.1 + x.2.2.1) ≤ 200 by omega)
            obtain ⟨hm0, hm9⟩ := hm
            have te : ((i : Int) == (k : Int)) = true := by rw [hik]; simp
            have te2 : (i == k) = true := by rw [hik]; simp
            have HF2 := Lib.hid hgo
            have wm : IntKind.i64.wrap (n * (x.2.1 + x.2.2.1)) = n * (x.2.1 + x.2.2.1) := IntWalk.i64_in _ (by omega)
            have wm2 : IntKind.i64.wrap (s2 + n * (x.2.1 + x.2.2.1)) = s2 + n * (x.2.1 + x.2.2.1) := IntWalk.i64_in _ (by omega)
            have HIK := Lib.hid hik
            clear hgo hf hik
            go_wp2_with fail
            go_quiet (fail)
            go_wp2_with fail
            go_roundg (xs.length - (k + 1))
            case measure => rw [HG2.out]; omega
            case rel => exact ⟨k + 1, s2 + n * (x.2.1 + x.2.2.1), by omega, rfl, by omega, by omega, HF2.out, bdrewN hbi _, by go_num, by go_num⟩
          · have hf : bdF x i k = x.2.2.2.1 := by unfold bdF; rw [if_neg hik]
            rw [hf] at hgo
            have hm := mul_bd hn (show 0 ≤ x.2.2.2.1 ∧ x.2.2.2.1 ≤ 200 by omega)
            obtain ⟨hm0, hm9⟩ := hm
            have te : ((i : Int) == (k : Int)) = false := by rw [beq_eq_false_iff_ne]; omega
            have te2 : (i == k) = false := by rw [beq_eq_false_iff_ne]; omega
            have HF2 := Lib.hid hgo
            have wm : IntKind.i64.wrap (n * x.2.2.2.1) = n * x.2.2.2.1 := IntWalk.i64_in _ (by omega)
            have wm2 : IntKind.i64.wrap (s2 + n * x.2.2.2.1) = s2 + n * x.2.2.2.1 := IntWalk.i64_in _ (by omega)
            have HIK := Lib.hid hik
            clear hgo hf hik
            go_wp2_with fail
            go_quiet (fail)
            go_wp2_with fail
            go_roundg (xs.length - (k + 1))
            case measure => rw [HG2.out]; omega
            case rel => exact ⟨k + 1, s2 + n * x.2.2.2.1, by omega, rfl, by omega, by omega, HF2.out, bdrewN hbi _, by go_num, by go_num⟩
        · have hlk : ¬ k < xs[i].length := by rw [HL.out]; exact hlt2
          have hlk2 : xs[i].length ≤ k := by omega
          rw [List.drop_of_length_le hlk2] at hgo
          have HF2 := Lib.hid (show allS (bdF x) (xs.drop (i + 1)) (i + 1) s2 = R from hgo)
          clear hgo
          go_wp2_with fail
          go_roundg (xs.length - (i + 1))
          case measure => rw [HG.out]; omega
          case rel => exact ⟨i + 1, s2, by omega, rfl, ht0, by omega, HF2.out, bnext hbw hbi, rfl, by go_num⟩
    · have hfin : s = R := by
        rw [List.drop_of_length_le (by omega)] at hgo; exact hgo
      have HF := Lib.hid hfin
      clear hfin hgo
      go_wp2_with fail
      go_ret2
      exact RI2.mk (by rw [HM.out, HF.out]) (bnext hB1 hbw)
end Go.Proofs.Ytemaheoebigkgaa
