/-
  FSlowestPair: spec.SlowestPair and impl.SlowestPair.
-/
import Derived.Test.YtecdfmijbkdcaaaFBars
namespace Go.Proofs.Ytecdfmijbkdcaaa
open Go.RowKit
set_option linter.unusedVariables false
attribute [local go_sem ↓] Go.wp_at_zero Go.wp_at_succ
/-- The slowest pair from bar i on: the bar before, the bars to come, the index, the best index and its wait so far. -/
def slowGo (x : TBasket) : Int → List Int → Int → Int → Int → Int
  | _, [], _, best, _ => best
  | prev, b :: bs, i, best, most => if most < waitV x prev b then slowGo x b bs (i + 1) i (waitV x prev b) else slowGo x b bs (i + 1) best most
def M_SlowestPair (x : TBasket) (xs : List Int) : Int × Int :=
  if BasketOk x then (if BarsOk x xs then (if 2 ≤ xs.length then (slowGo x (xs.getD 0 0) (xs.drop 1) 1 1 0, 0) else (0, 3)) else (0, 2)) else (0, 1)
theorem slow_step (x : TBasket) (xs : List Int) (k : Nat) (h : k < xs.length) (h1 : 1 ≤ k) (best most : Int) :
    slowGo x (xs.getD (k - 1) 0) (xs.drop k) k best most =
      if most < waitV x (xs[k - 1]'(by omega)) xs[k] then slowGo x (xs.getD (k + 1 - 1) 0) (xs.drop (k + 1)) ((k + 1 : Nat) : Int) k (waitV x (xs[k - 1]'(by omega)) xs[k])
      else slowGo x (xs.getD (k + 1 - 1) 0) (xs.drop (k + 1)) ((k + 1 : Nat) : Int) best most := by
  rw [List.drop_eq_getElem_cons h]
  have e1 : xs.getD (k - 1) 0 = xs[k - 1]'(by omega) := by rw [List.getD_eq_getElem?_getD, List.getElem?_eq_getElem (by omega)]; rfl
  have e2 : xs.getD (k + 1 - 1) 0 = xs[k] := by rw [Nat.add_sub_cancel, List.getD_eq_getElem?_getD, List.getElem?_eq_getElem h]; rfl
  rw [e1, e2]
  rfl
set_option maxHeartbeats 3200000 in
theorem impl_SlowestPair_any (x : TBasket) (hx : okBasket x) (A : Option Addr) (c : Nat) (xs : List Int) (hxl : xs.length ≤ 1048576) (hk : ∀ n ∈ xs, KInt64S n) (w : World) (rx : Row w A encInt 1 xs) :
    Calls Try.prog 74 #[.agg #[.int .i64 x.1, .int .i64 x.2.1, .int .i64 x.2.2.1, .int .i64 x.2.2.2.1, .int .i64 x.2.2.2.2], .slice A xs.length c] w (RI2 (M_SlowestPair x xs) w) := by
  obtain ⟨W0, hW0⟩ : ∃ W0, W0 = w.alloc (.cells #[.int .i64 x.1, .int .i64 x.2.1, .int .i64 x.2.2.1, .int .i64 x.2.2.2.1, .int .i64 x.2.2.2.2] 56) := ⟨_, rfl⟩
  have hB0 : Below w.heap.size w W0 := by rw [hW0]; exact bal (Below.refl _ _) _
  have k0 : AtBasket W0 w.heap.size x := by rw [hW0]; exact AtBasket.new w _ x
  have HW := Lib.hid hW0
  clear hW0
  rcases ff3 (BasketOk x) (BarsOk x xs) (2 ≤ xs.length) with h | ⟨h, h2⟩ | ⟨h, h2, h3⟩ | ⟨h, h2, h3⟩
  · have HM := Lib.hid (show M_SlowestPair x xs = (0, 1) by unfold M_SlowestPair; rw [if_neg h])
    go_enter Try.func74, Try.ntmps74
    go_wp2_with fail
    rw [← HW.out]
    refine (RBb.no (iValidBasket_any x _) h).mono ?_; rintro e w1 ⟨rfl, hb1⟩
    go_wp2_with fail
    go_ret2
    exact RI2.mk HM.out.symm (bnext hB0 hb1)
  · have HM := Lib.hid (show M_SlowestPair x xs = (0, 2) by unfold M_SlowestPair; rw [if_pos h, if_neg h2])
    go_enter Try.func74, Try.ntmps74
    go_wp2_with fail
    rw [← HW.out]
    refine (RBb.yes (iValidBasket_any x _) h).mono ?_; rintro e w1 ⟨rfl, hb1⟩
    have k1 := k0.next hb1
    go_wp2_with fail
    refine (RBb.no (areBars_any x _ _ xs hxl hk h _ (rx.below (bnext hB0 hb1))) h2).mono ?_; rintro e w2 ⟨rfl, hb2⟩
    go_wp2_with fail
    go_ret2
    exact RI2.mk HM.out.symm (bnext (bnext hB0 hb1) hb2)
  · have HM := Lib.hid (show M_SlowestPair x xs = (0, 3) by unfold M_SlowestPair; rw [if_pos h, if_pos h2, if_neg h3])
    go_enter Try.func74, Try.ntmps74
    go_wp2_with fail
    rw [← HW.out]
    refine (RBb.yes (iValidBasket_any x _) h).mono ?_; rintro e w1 ⟨rfl, hb1⟩
    have k1 := k0.next hb1
    go_wp2_with fail
    refine (RBb.yes (areBars_any x _ _ xs hxl hk h _ (rx.below (bnext hB0 hb1))) h2).mono ?_; rintro e w2 ⟨rfl, hb2⟩
    go_wp2_with fail
    go_ret2
    exact RI2.mk HM.out.symm (bnext (bnext hB0 hb1) hb2)
  have hM : M_SlowestPair x xs = (slowGo x (xs.getD 0 0) (xs.drop 1) 1 1 0, 0) := by unfold M_SlowestPair; rw [if_pos h, if_pos h2, if_pos h3]
  obtain ⟨R, hR⟩ : ∃ R, R = slowGo x (xs.getD 0 0) (xs.drop 1) 1 1 0 := ⟨_, rfl⟩
  rw [← hR] at hM
  have HM := Lib.hid hM
  have HR := Lib.hid hR
  clear hM hR
  have h60 := h.2.1
  have hlen := h2.1
  go_enter Try.func74, Try.ntmps74
  go_wp2_with fail
  rw [← HW.out]
  refine (RBb.yes (iValidBasket_any x _) h).mono ?_; rintro e w1 ⟨rfl, hb1⟩
  have k1 := k0.next hb1
  go_wp2_with fail
  refine (RBb.yes (areBars_any x _ _ xs hxl hk h _ (rx.below (bnext hB0 hb1))) h2).mono ?_; rintro e w2 ⟨rfl, hb2⟩
  have k2 := k1.next hb2
  have hB2 := bnext (bnext hB0 hb1) hb2
  clear k0 k1
  go_wp2_with fail
  go_loopg [6, 7, 8] (xs.length - 1) (fun g bs ms i wr => ∃ (k : Nat) (best most : Int), 1 ≤ k ∧ k ≤ xs.length ∧ g = xs.length - k ∧ 1 ≤ best ∧ best ≤ 60 ∧ 0 ≤ most ∧ most ≤ 200 ∧ slowGo x (xs.getD (k - 1) 0) (xs.drop k) k best most = R ∧ Below w2.heap.size w2 wr ∧ bs = .int .i64 best ∧ ms = .int .i64 most ∧ i = .int .i64 k)
  case atStart => exact ⟨1, 1, 0, Nat.le_refl _, by omega, rfl, by omega, by omega, by omega, by omega, by rw [HR.out]; rfl, Below.refl _ _, rfl, rfl, rfl⟩
  case round =>
    obtain ⟨k, best, most, hk1, hkk, hg, hb1', hb60, hm0, hm2, hgo, hbw, rfl, rfl, rfl⟩ := hrel
    have HG := Lib.hid hg
    have k3 := k2.next hbw
    by_cases hlt : k < xs.length
    · rw [slow_step x xs k hlt hk1] at hgo
      have HF := Lib.hid hgo
      clear hg hgo k2
      obtain ⟨b, off, hA, hb, c0⟩ := (rx.below (bnext hB2 hbw)).at1 (f := fun n : Int => .int .i64 n) hlt
      obtain ⟨b', off', hA', hb', c1⟩ := (rx.below (bnext hB2 hbw)).at1 (f := fun n : Int => .int .i64 n) (k := k - 1) (by omega)
      rw [hA] at hA'
      simp only [Option.some.injEq, Addr.mk.injEq, and_true] at hA'
      obtain ⟨rfl, rfl⟩ := hA'
      subst hA
      have q0 := h2.2 _ (List.getElem_mem hlt)
      have q1 := h2.2 _ (List.getElem_mem (show k - 1 < xs.length by omega))
      have wb := waitV_bd x h (xs[k - 1]'(by omega)) xs[k]
      have i1 : (0 : Int) ≤ (k : Int) := by omega
      have i2 : (k : Int) < (xs.length : Int) := by omega
      have i3 : (0 : Int) ≤ (k : Int) - 1 := by omega
      have i4 : (k : Int) - 1 < (xs.length : Int) := by omega
      have wa1 : 0 ≤ xs[k - 1]'(by omega) ∧ xs[k - 1]'(by omega) ≤ 60 := by omega
      have wa2 : 0 ≤ xs[k] ∧ xs[k] ≤ 60 := by omega
      have i5 : (1 : Int) ≤ (k : Int) := by omega
      have z1 : IntKind.i64.wrap ((k : Int) - 1) = (k : Int) - 1 := IntWalk.i64_in _ (by omega)
      have z2 : ((k : Int) - 1).toNat = k - 1 := by omega
      go_wp2
      go_region_held3 (fun w' => (w'.cell? ⟨w.heap.size, 0, none⟩ = some (.int .i64 x.1) ∧ w'.cell? ⟨w.heap.size, 1, none⟩ = some (.int .i64 x.2.1) ∧ w'.cell? ⟨w.heap.size, 2, none⟩ = some (.int .i64 x.2.2.1) ∧ w'.cell? ⟨w.heap.size, 3, none⟩ = some (.int .i64 x.2.2.2.1) ∧ w'.cell? ⟨w.heap.size, 4, none⟩ = some (.int .i64 x.2.2.2.2)) ∧ w'.cell? ⟨b, off + k, none⟩ = some (.int .i64 xs[k]) ∧ w'.cell? ⟨b, off + (k - 1), none⟩ = some (.int .i64 (xs[k - 1]'(by omega)))) (first | exact ⟨k3.2, c0, c1⟩ | exact ⟨(k3.next (bundrew hb4)).2, (hb4.cell (p := ⟨b, _, none⟩) hb).trans c0, (hb4.cell (p := ⟨b, _, none⟩) hb).trans c1⟩) (first | (go_at_call 124; refine (waits_any x h _ _ wa1 wa2 _).mono ?_; rintro e w4 ⟨rfl, hb4⟩))

      have hb5 := bundrew hb4
      have hF := HF.out
      by_cases hq : most < waitV x (xs[k - 1]'(by omega)) xs[k]
      · rw [if_pos hq] at hF
        have HF2 := Lib.hid hF
        clear hF HF
        go_wp2
        go_roundg (xs.length - (k + 1))
        case measure => rw [HG.out]; omega
        case rel => exact ⟨k + 1, k, waitV x (xs[k - 1]'(by omega)) xs[k], by omega, by omega, rfl, by omega, by omega, by omega, by omega, HF2.out, bnext hbw hb5, rfl, rfl, by go_num⟩
      · rw [if_neg hq] at hF
        have HF2 := Lib.hid hF
        clear hF HF
        go_wp2
        go_roundg (xs.length - (k + 1))
        case measure => rw [HG.out]; omega
        case rel => exact ⟨k + 1, best, most, by omega, by omega, rfl, by omega, by omega, by omega, by omega, HF2.out, bnext hbw hb5, rfl, rfl, by go_num⟩
    · have hfin : best = R := by rw [← hgo, List.drop_of_length_le (by omega)]; rfl
      have HF := Lib.hid hfin
      clear hfin hgo
      go_wp2
      go_ret2
      exact RI2.mk (by rw [HM.out, HF.out]) (bnext hB2 hbw)
set_option maxHeartbeats 3200000 in
theorem spec_SlowestPair_any (x : TBasket) (hx : okBasket x) (A : Option Addr) (c : Nat) (xs : List Int) (hxl : xs.length ≤ 1048576) (hk : ∀ n ∈ xs, KInt64S n) (w : World) (rx : Row w A encInt 1 xs) :
    Calls Try.prog 73 #[.agg #[.int .i64 x.1, .int .i64 x.2.1, .int .i64 x.2.2.1, .int .i64 x.2.2.2.1, .int .i64 x.2.2.2.2], .slice A xs.length c] w (RI2 (M_SlowestPair x xs) w) := by
  obtain ⟨W0, hW0⟩ : ∃ W0, W0 = w.alloc (.cells #[.int .i64 x.1, .int .i64 x.2.1, .int .i64 x.2.2.1, .int .i64 x.2.2.2.1, .int .i64 x.2.2.2.2] 56) := ⟨_, rfl⟩
  have hB0 : Below w.heap.size w W0 := by rw [hW0]; exact bal (Below.refl _ _) _
  have k0 : AtBasket W0 w.heap.size x := by rw [hW0]; exact AtBasket.new w _ x
  have HW := Lib.hid hW0
  clear hW0
  rcases ff3 (BasketOk x) (BarsOk x xs) (2 ≤ xs.length) with h | ⟨h, h2⟩ | ⟨h, h2, h3⟩ | ⟨h, h2, h3⟩
  · have HM := Lib.hid (show M_SlowestPair x xs = (0, 1) by unfold M_SlowestPair; rw [if_neg h])
    have HC : M_l03Code x xs = 1 := by unfold M_l03Code; rw [if_neg h]
    go_enter Try.func73, Try.ntmps73
    go_wp2_with fail
    rw [← HW.out]
    refine (l03Code_any x _ _ xs hxl hk _ (rx.below hB0)).mono ?_; rintro e w1 ⟨n, rfl, hn, hb1⟩
    rw [HC] at hn
    subst hn
    clear HC
    go_wp2_with fail
    go_ret2
    exact RI2.mk HM.out.symm (bnext hB0 hb1)
  · have HM := Lib.hid (show M_SlowestPair x xs = (0, 2) by unfold M_SlowestPair; rw [if_pos h, if_neg h2])
    have HC : M_l03Code x xs = 2 := by unfold M_l03Code; rw [if_pos h, if_neg h2]
    go_enter Try.func73, Try.ntmps73
    go_wp2_with fail
    rw [← HW.out]
    refine (l03Code_any x _ _ xs hxl hk _ (rx.below hB0)).mono ?_; rintro e w1 ⟨n, rfl, hn, hb1⟩
    rw [HC] at hn
    subst hn
    clear HC
    go_wp2_with fail
    go_ret2
    exact RI2.mk HM.out.symm (bnext hB0 hb1)
  · have HM := Lib.hid (show M_SlowestPair x xs = (0, 3) by unfold M_SlowestPair; rw [if_pos h, if_pos h2, if_neg h3])
    have HC : M_l03Code x xs = 0 := by unfold M_l03Code; rw [if_pos h, if_pos h2]
    go_enter Try.func73, Try.ntmps73
    go_wp2_with fail
    rw [← HW.out]
    refine (l03Code_any x _ _ xs hxl hk _ (rx.below hB0)).mono ?_; rintro e w1 ⟨n, rfl, hn, hb1⟩
    rw [HC] at hn
    subst hn
    clear HC
    go_wp2_with fail
    go_ret2
    exact RI2.mk HM.out.symm (bnext hB0 hb1)
  have hM : M_SlowestPair x xs = (slowGo x (xs.getD 0 0) (xs.drop 1) 1 1 0, 0) := by unfold M_SlowestPair; rw [if_pos h, if_pos h2, if_pos h3]
  have HC : M_l03Code x xs = 0 := by unfold M_l03Code; rw [if_pos h, if_pos h2]
  obtain ⟨R, hR⟩ : ∃ R, R = slowGo x (xs.getD 0 0) (xs.drop 1) 1 1 0 := ⟨_, rfl⟩
  rw [← hR] at hM
  have HM := Lib.hid hM
  clear hM
  have w01 := waitV_bd x h xs[0] xs[1]
  have hs := slow_step x xs 1 h3 (Nat.le_refl _) 1 0
  have e0 : xs[1 - 1]'(by omega) = xs[0] := rfl
  rw [e0, if_pos (by omega)] at hs
  have hR2 : slowGo x (xs.getD (2 - 1) 0) (xs.drop 2) 2 1 (waitV x xs[0] xs[1]) = R := by rw [hR]; exact hs.symm
  have HR := Lib.hid hR2
  clear hR hs hR2 e0 w01
  have h60 := h.2.1
  have hlen := h2.1
  go_enter Try.func73, Try.ntmps73
  go_wp2_with fail
  rw [← HW.out]
  refine (l03Code_any x _ _ xs hxl hk _ (rx.below hB0)).mono ?_; rintro e w1 ⟨n, rfl, hn, hb1⟩
  rw [HC] at hn
  subst hn
  clear HC
  have k1 := k0.next hb1
  have hB1 := bnext hB0 hb1
  clear k0
  go_wp2_with fail
  go_loopg [7, 8] (xs.length - 2) (fun g bs i wr => ∃ (k j : Nat) (hj : 1 ≤ j) (hj2 : j < xs.length), 2 ≤ k ∧ k ≤ xs.length ∧ g = xs.length - k ∧ slowGo x (xs.getD (k - 1) 0) (xs.drop k) k j (waitV x (xs[j - 1]'(by omega)) xs[j]) = R ∧ Below w1.heap.size w1 wr ∧ bs = .int .i64 j ∧ i = .int .i64 k)
  case atStart => exact ⟨2, 1, Nat.le_refl _, h3, Nat.le_refl _, h3, rfl, HR.out, Below.refl _ _, rfl, rfl⟩
  case round =>
    obtain ⟨k, j, hj, hj2, hk1, hkk, hg, hgo, hbw, rfl, rfl⟩ := hrel
    have HG := Lib.hid hg
    have k3 := k1.next hbw
    by_cases hlt : k < xs.length
    · rw [slow_step x xs k hlt (by omega)] at hgo
      have HF := Lib.hid hgo
      clear hg hgo k1
      have hrow := rx.below (bnext hB1 hbw)
      obtain ⟨b, off, hA, hb, c0⟩ := hrow.at1 (f := fun n : Int => .int .i64 n) hlt
      obtain ⟨b1, o1, hA1, _, c1⟩ := hrow.at1 (f := fun n : Int => .int .i64 n) (k := k - 1) (by omega)
      obtain ⟨b2, o2, hA2, _, c2⟩ := hrow.at1 (f := fun n : Int => .int .i64 n) (k := j) hj2
      obtain ⟨b3, o3, hA3, _, c3⟩ := hrow.at1 (f := fun n : Int => .int .i64 n) (k := j - 1) (by omega)
      rw [hA] at hA1 hA2 hA3
      simp only [Option.some.injEq, Addr.mk.injEq, and_true] at hA1 hA2 hA3
      obtain ⟨rfl, rfl⟩ := hA1
      obtain ⟨rfl, rfl⟩ := hA2
      obtain ⟨rfl, rfl⟩ := hA3
      subst hA
      have q0 := h2.2 _ (List.getElem_mem hlt)
      have q1 := h2.2 _ (List.getElem_mem (show k - 1 < xs.length by omega))
      have q2 := h2.2 _ (List.getElem_mem hj2)
      have q3 := h2.2 _ (List.getElem_mem (show j - 1 < xs.length by omega))
      have wa1 : 0 ≤ xs[k - 1]'(by omega) ∧ xs[k - 1]'(by omega) ≤ 60 := by omega
      have wa2 : 0 ≤ xs[k] ∧ xs[k] ≤ 60 := by omega
      have wa3 : 0 ≤ xs[j - 1]'(by omega) ∧ xs[j - 1]'(by omega) ≤ 60 := by omega
      have wa4 : 0 ≤ xs[j] ∧ xs[j] ≤ 60 := by omega
      have wb1 := waitV_bd x h (xs[k - 1]'(by omega)) xs[k]
      have wb2 := waitV_bd x h (xs[j - 1]'(by omega)) xs[j]
      have i1 : (0 : Int) ≤ (k : Int) := by omega
      have i2 : (k : Int) < (xs.length : Int) := by omega
      have i3 : (0 : Int) ≤ (k : Int) - 1 := by omega
      have i4 : (k : Int) - 1 < (xs.length : Int) := by omega
      have i5 : (1 : Int) ≤ (k : Int) := by omega
      have j1 : (0 : Int) ≤ (j : Int) := by omega
      have j2 : (j : Int) < (xs.length : Int) := by omega
      have j3 : (0 : Int) ≤ (j : Int) - 1 := by omega
      have j4 : (j : Int) - 1 < (xs.length : Int) := by omega
      have j5 : (1 : Int) ≤ (j : Int) := by omega
      have z1 : IntKind.i64.wrap ((k : Int) - 1) = (k : Int) - 1 := IntWalk.i64_in _ (by omega)
      have z2 : ((k : Int) - 1).toNat = k - 1 := by omega
      have z3 : IntKind.i64.wrap ((j : Int) - 1) = (j : Int) - 1 := IntWalk.i64_in _ (by omega)
      have z4 : ((j : Int) - 1).toNat = j - 1 := by omega
      have hF := HF.out
      clear HF
      clear hrow q0 q1 q2 q3
      generalize hu0 : xs[k - 1]'(by omega) = u0 at *
      generalize hu1 : xs[k] = u1 at *
      generalize hu2 : xs[j - 1]'(by omega) = u2 at *
      generalize hu3 : xs[j] = u3 at *
      have U0 := Lib.hid hu0
      have U1 := Lib.hid hu1
      have U2 := Lib.hid hu2
      have U3 := Lib.hid hu3
      clear hu0 hu1 hu2 hu3
      have key : waitV x u2 u3 < waitV x u0 u1 → slowGo x (xs.getD (k + 1 - 1) 0) (xs.drop (k + 1)) ((k + 1 : Nat) : Int) k (waitV x u0 u1) = R := fun hq => by rw [if_pos hq] at hF; exact hF
      have key2 : ¬ (waitV x u2 u3 < waitV x u0 u1) → slowGo x (xs.getD (k + 1 - 1) 0) (xs.drop (k + 1)) ((k + 1 : Nat) : Int) j (waitV x u2 u3) = R := fun hq => by rw [if_neg hq] at hF; exact hF
      have K1 := Lib.hid key
      have K2 := Lib.hid key2
      clear hF key key2
      go_wp2
      go_region_held3 (fun w' => (w'.cell? ⟨w.heap.size, 0, none⟩ = some (.int .i64 x.1) ∧ w'.cell? ⟨w.heap.size, 1, none⟩ = some (.int .i64 x.2.1) ∧ w'.cell? ⟨w.heap.size, 2, none⟩ = some (.int .i64 x.2.2.1) ∧ w'.cell? ⟨w.heap.size, 3, none⟩ = some (.int .i64 x.2.2.2.1) ∧ w'.cell? ⟨w.heap.size, 4, none⟩ = some (.int .i64 x.2.2.2.2)) ∧ w'.cell? ⟨b, off + k, none⟩ = some (.int .i64 u1) ∧ w'.cell? ⟨b, off + (k - 1), none⟩ = some (.int .i64 u0) ∧ w'.cell? ⟨b, off + j, none⟩ = some (.int .i64 u3) ∧ w'.cell? ⟨b, off + (j - 1), none⟩ = some (.int .i64 u2)) (first | exact ⟨k3.2, c0, c1, c2, c3⟩ | exact ⟨k5.2, d0, d1, d2, d3⟩ | exact ⟨(k5.next hb6).2, (hb6.cell (p := ⟨b, _, none⟩) hlt5).trans d0, (hb6.cell (p := ⟨b, _, none⟩) hlt5).trans d1, (hb6.cell (p := ⟨b, _, none⟩) hlt5).trans d2, (hb6.cell (p := ⟨b, _, none⟩) hlt5).trans d3⟩) (first | (go_at_call_of 122 (u1); refine (l03Wait_any x h _ _ wa1 wa2 _).mono ?_; rintro e w5 ⟨rfl, hb5⟩; replace hb5 := bundrew hb5; have k5 := k3.next hb5; have hlt5 := Nat.lt_of_lt_of_le hb hb5.size; have d0 := (hb5.cell (p := ⟨b, _, none⟩) hb).trans c0; have d1 := (hb5.cell (p := ⟨b, _, none⟩) hb).trans c1; have d2 := (hb5.cell (p := ⟨b, _, none⟩) hb).trans c2; have d3 := (hb5.cell (p := ⟨b, _, none⟩) hb).trans c3) | (go_at_call_of 122 (u3); refine (l03Wait_any x h _ _ wa3 wa4 _).mono ?_; rintro e w6 ⟨rfl, hb6⟩))
      clear c0 c1 c2 c3 d0 d1 d2 d3
      by_cases hq : waitV x u2 u3 < waitV x u0 u1
      · go_wp2
        go_roundg (xs.length - (k + 1))
        case measure => rw [HG.out]; omega
        case rel =>
          have e0 := U0.out
          have e1 := U1.out
          subst e0 e1
          exact ⟨k + 1, k, by omega, hlt, by omega, by omega, rfl, K1.out hq, bnext hbw (bnext hb5 hb6), rfl, by go_num⟩
      · go_wp2
        go_roundg (xs.length - (k + 1))
        case measure => rw [HG.out]; omega
        case rel =>
          have e0 := U2.out
          have e1 := U3.out
          subst e0 e1
          exact ⟨k + 1, j, hj, hj2, by omega, by omega, rfl, K2.out hq, bnext hbw (bnext hb5 hb6), rfl, by go_num⟩
    · have hfin : (j : Int) = R := by rw [← hgo, List.drop_of_length_le (by omega)]; rfl
      have HF := Lib.hid hfin
      clear hfin hgo
      go_wp2
      go_ret2
      exact RI2.mk (by rw [HM.out, HF.out]) (bnext hB1 hbw)
end Go.Proofs.Ytecdfmijbkdcaaa
