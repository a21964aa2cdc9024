/-
  FNextP: the next order of numbers: impl.nextPermutation.
-/
import Derived.Test.YteepcnfpdmmnhaaFPermC
import Derived.Test.YteepcnfpdmmnhaaBlks
import Derived.Deep.QuietTactic
import Derived.BigQuiet
import Derived.BigRegion
namespace Go.Proofs.Yteepcnfpdmmnhaa
open Go.RowKit
set_option linter.unusedVariables false
attribute [local go_sem ↓] Go.wp_at_zero Go.wp_at_succ
set_option linter.unusedSimpArgs false
theorem toI_at (q : List Nat) (k : Nat) (h : k < q.length) : (toI q)[k]'(by rw [toI_len]; exact h) = ((q[k] : Nat) : Int) := by unfold toI; simp
theorem getDN (q : List Nat) (k : Nat) (h : k < q.length) : q.getD k 0 = q[k] := by rw [List.getD_eq_getElem?_getD, List.getElem?_eq_getElem h]; rfl
theorem swapN_len (q : List Nat) (i k : Nat) : (swapN q i k).length = q.length := by unfold swapN; simp
theorem revG_len : ∀ (g : Nat) (q : List Nat) (a b : Nat), (revG g q a b).length = q.length
  | 0, q, a, b => rfl
  | g + 1, q, a, b => by
    unfold revG
    split
    · rw [revG_len g, swapN_len]
    · rfl
theorem revG_stop (g : Nat) (q : List Nat) (a b : Nat) (h : ¬ a < b) : revG g q a b = q := by
  cases g with
  | zero => rfl
  | succ g => unfold revG; rw [if_neg h]
theorem revG_go (g : Nat) (q : List Nat) (a b : Nat) (h : a < b) : revG (g + 1) q a b = revG g (swapN q a b) (a + 1) (b - 1) := by
  conv => lhs; unfold revG
  rw [if_pos h]
theorem nextP_none {q : List Nat} (h : pivG q (q.length - 1) = 0) : nextP q = none := by unfold nextP; rw [h]
theorem nextP_some {q : List Nat} {i : Nat} (h : pivG q (q.length - 1) = i + 1) : nextP q = some (revG q.length (swapN q i (sucG q (q.getD i 0) (q.length - 1))) (i + 1) (q.length - 1)) := by unfold nextP; rw [h]
theorem pivG_le (q : List Nat) : ∀ j, pivG q j ≤ j
  | 0 => Nat.le_refl _
  | j + 1 => by
    unfold pivG
    split
    · have := pivG_le q j; omega
    · exact Nat.le_refl _
theorem pivG_up (q : List Nat) : ∀ j i, pivG q j = i + 1 → q.getD i 0 < q.getD (i + 1) 0
  | 0, i, h => by simp [pivG] at h
  | j + 1, i, h => by
    unfold pivG at h
    split at h
    · exact pivG_up q j i h
    · have : j = i := by omega
      subst this
      omega
theorem swapI {q : List Nat} {i k : Nat} (hi : i < q.length) (hk : k < q.length) (h1 : i < (toI q).length) (h2 : k < (toI q).length) : ((toI q).set i (toI q)[k]).set k (toI q)[i] = toI (swapN q i k) := by
  unfold swapN
  rw [toI_set, toI_set, getDN q k hk, getDN q i hi, toI_at q k hk, toI_at q i hi]
set_option maxHeartbeats 6400000 in
set_option maxRecDepth 10000 in
theorem nextPermutation_any (g cap base : Nat) (q : List Nat) (hq2 : 2 ≤ q.length) (hq7 : q.length ≤ 7) (w : World) (ho : Own w base 2 encInt 1 (.slice (some ⟨g, 0, none⟩) q.length cap) (toI q)) :
    Calls Try.prog 112 #[.slice (some ⟨g, 0, none⟩) q.length cap] w fun e w' => e = .returned (.bool (nextP q).isSome) ∧ Own w' base 2 encInt 1 (.slice (some ⟨g, 0, none⟩) q.length cap) (toI ((nextP q).getD q)) ∧ w.grownBy w' (some g) := by
  have w2 : IntKind.i64.wrap ((q.length : Int) - 2) = (q.length : Int) - 2 := IntWalk.i64_in _ (by omega)
  have w1' : IntKind.i64.wrap ((q.length : Int) - 1) = (q.length : Int) - 1 := IntWalk.i64_in _ (by omega)
  have g0 := grown_of_below (Below.refl w.heap.size w) (some g)
  obtain ⟨V, hV⟩ : ∃ V, pivG q (q.length - 1) = V := ⟨_, rfl⟩
  have hVle : V ≤ q.length - 1 := by rw [← hV]; exact pivG_le q _
  have HV := Lib.hid hV
  have HVle := Lib.hid hVle
  clear hV hVle
  go_enter Try.func112, Try.ntmps112
  go_wp2_with fail
  go_loopg [3] (q.length - 1) (fun gm is wr => ∃ j : Nat, j ≤ q.length - 1 ∧ gm = j ∧ pivG q j = V ∧ Own wr base 2 encInt 1 (.slice (some ⟨g, 0, none⟩) q.length cap) (toI q) ∧ w.grownBy wr (some g) ∧ is = .int .i64 ((j : Int) - 1))
  case atStart => exact ⟨q.length - 1, Nat.le_refl _, rfl, HV.out, ho, g0, by congr 1; omega⟩
  case round =>
    obtain ⟨j, hj, hg, hpv, hown, hgr, rfl⟩ := hrel
    obtain ⟨WO, rfl⟩ : ∃ WO, WO = wr := ⟨wr, rfl⟩
    have HG := Lib.hid hg
    clear hg g0
    cases j with
    | zero =>
      have hz : (0 : Nat) = V := hpv
      have HN := Lib.hid (nextP_none (q := q) (by rw [HV.out, ← hz]))
      have t0 : decide ((0 : Int) ≤ ((0 : Nat) : Int) - 1) = false := by decide
      clear hpv hz
      go_wp2_with (go_quiet (fail))
      go_wp2_with fail
      go_ret
      exact ⟨by rw [HN.out]; rfl, by rw [HN.out]; exact hown.below (bdrewN (Below.refl _ _) _), hgr.trans (grown_of_below (bdrewN (Below.refl _ _) _) _)⟩
    | succ j =>
      have z1 : ((j + 1 : Nat) : Int) - 1 = (j : Int) := by omega
      rw [z1]
      have hjq : j < q.length := by omega
      have hjq1 : j + 1 < q.length := by omega
      have c0 : WO.cell? ⟨g, j, none⟩ = some (.int .i64 ((q[j] : Nat) : Int)) := by have := hown.cell (k := j) (j := 0) (by rw [toI_len]; exact hjq) rfl; simpa [toI_at q j hjq] using this
      have c1 : WO.cell? ⟨g, j + 1, none⟩ = some (.int .i64 ((q[j + 1] : Nat) : Int)) := by have := hown.cell (k := j + 1) (j := 0) (by rw [toI_len]; exact hjq1) rfl; simpa [toI_at q (j + 1) hjq1] using this
      have i1 : (0 : Int) ≤ (j : Int) := by omega
      have i2 : (j : Int) < (q.length : Int) := by omega
      have i3 : (0 : Int) ≤ (j : Int) + 1 := by omega
      have i4 : (j : Int) + 1 < (q.length : Int) := by omega
      have i5 : ((j : Int) + 1).toNat = j + 1 := by omega
      have t0 : decide ((0 : Int) ≤ (j : Int)) = true := decide_eq_true i1
      have wj : IntKind.i64.wrap ((j : Int) + 1) = (j : Int) + 1 := IntWalk.i64_in _ (by omega)
      have wj2 : IntKind.i64.wrap ((j : Int) - 1) = (j : Int) - 1 := IntWalk.i64_in _ (by omega)
      have hpv2 := hpv
      unfold pivG at hpv2
      rw [getDN q j hjq, getDN q (j + 1) hjq1] at hpv2
      by_cases hle : q[j + 1] ≤ q[j]
      · rw [if_pos hle] at hpv2
        have t1 : decide (((q[j + 1] : Nat) : Int) ≤ ((q[j] : Nat) : Int)) = true := decide_eq_true (by omega)
        have t1' : decide (q[j + 1] ≤ q[j]) = true := decide_eq_true hle
        have HP := Lib.hid hpv2
        clear hpv hpv2 hle z1
        go_wp2_with (go_quiet (fail))
        go_wp2_with fail
        go_roundg j
        case measure => rw [HG.out]; omega
        case rel => exact ⟨j, by omega, rfl, HP.out, hown.below (bdrewN (Below.refl _ _) _), hgr.trans (grown_of_below (bdrewN (Below.refl _ _) _) _), by go_num⟩
      · rw [if_neg hle] at hpv2
        have t1 : decide (((q[j + 1] : Nat) : Int) ≤ ((q[j] : Nat) : Int)) = false := decide_eq_false (by omega)
        have t1' : decide (q[j + 1] ≤ q[j]) = false := decide_eq_false hle
        have hpq : pivG q (q.length - 1) = j + 1 := by rw [HV.out, hpv2]
        have hNx := nextP_some hpq
        obtain ⟨X, hX⟩ : ∃ X, q.getD j 0 = X := ⟨_, rfl⟩
        have hXq : q[j] = X := by rw [← hX, getDN q j hjq]
        have hup : X < q.getD (j + 1) 0 := by rw [← hX]; exact pivG_up q _ j hpq
        rw [hX] at hNx
        obtain ⟨K, hK⟩ : ∃ K, sucG q X (q.length - 1) = K := ⟨_, rfl⟩
        rw [hK] at hNx
        have HK := Lib.hid hK
        have HNx := Lib.hid hNx
        have HXq := Lib.hid hXq
        have HUp := Lib.hid hup
        have HOw := Lib.hid (hown.below (bdrewN (Below.refl WO.heap.size WO) 0))
        rw [hXq] at c0 t1 t1'
        have t0b : decide ((j : Int) < 0) = false := decide_eq_false (by omega)
        clear hpv hpv2 hle hpq hNx hX hXq hup hK z1 wj2
        go_wp2_with (go_quiet (fail))
        go_loopg [4] (q.length - 1) (fun gm ks wi => ∃ k : Nat, j + 1 ≤ k ∧ k ≤ q.length - 1 ∧ gm = k ∧ sucG q X k = K ∧ Own wi base 2 encInt 1 (.slice (some ⟨g, 0, none⟩) q.length cap) (toI q) ∧ w.grownBy wi (some g) ∧ ks = .int .i64 k)
        case atStart => exact ⟨q.length - 1, by omega, Nat.le_refl _, rfl, HK.out, hown.below (bdrewN (Below.refl _ _) _), hgr.trans (grown_of_below (bdrewN (Below.refl _ _) _) _), by congr 1; omega⟩
        case round =>
          obtain ⟨k, hk1, hk9, hg2, hsu, hown2, hgr2, rfl⟩ := hrel
          clear hown hgr c0 c1
          obtain ⟨WO, rfl⟩ : ∃ WO, WO = wr := ⟨wr, rfl⟩
          have HG2 := Lib.hid hg2
          clear hg2
          cases k with
          | zero => omega
          | succ k =>
            have hkq : k + 1 < q.length := by omega
            have zk : ((k + 1 : Nat) : Int) = (k : Int) + 1 := by omega
            rw [zk]
            have c0 : WO.cell? ⟨g, j, none⟩ = some (.int .i64 ((X : Nat) : Int)) := by have := hown2.cell (k := j) (j := 0) (by rw [toI_len]; exact hjq) rfl; rw [← HXq.out]; simpa [toI_at q j hjq] using this
            have c1 : WO.cell? ⟨g, k + 1, none⟩ = some (.int .i64 ((q[k + 1] : Nat) : Int)) := by have := hown2.cell (k := k + 1) (j := 0) (by rw [toI_len]; exact hkq) rfl; simpa [toI_at q (k + 1) hkq] using this
            have k3 : (0 : Int) ≤ (k : Int) + 1 := by omega
            have k4 : (k : Int) + 1 < (q.length : Int) := by omega
            have k5 : ((k : Int) + 1).toNat = k + 1 := by omega
            have wk : IntKind.i64.wrap ((k : Int) + 1 - 1) = (k : Int) := by rw [show (k : Int) + 1 - 1 = k by omega]; exact IntWalk.i64_in _ (by omega)
            unfold sucG at hsu
            rw [getDN q (k + 1) hkq] at hsu
            by_cases hle : q[k + 1] ≤ X
            · rw [if_pos hle] at hsu
              have hkj : j + 1 ≤ k := by
                rcases Nat.lt_or_ge j k with hlt | hge
                · omega
                · exfalso
                  have : k = j := by omega
                  subst this
                  have := HUp.out
                  rw [getDN q (k + 1) hkq] at this
                  omega
              have t1 : decide (((q[k + 1] : Nat) : Int) ≤ ((X : Nat) : Int)) = true := decide_eq_true (by omega)
              have t1' : decide (q[k + 1] ≤ X) = true := decide_eq_true hle
              have HS := Lib.hid hsu
              clear hsu hle zk
              go_wp2_with (go_quiet (fail))
              go_wp2_with fail
              go_roundg k
              case measure => rw [HG2.out]; omega
              case rel => exact ⟨k, hkj, by omega, rfl, HS.out, hown2.below (bdrewN (Below.refl _ _) _), hgr2.trans (grown_of_below (bdrewN (Below.refl _ _) _) _), by go_num⟩
            · rw [if_neg hle] at hsu
              have t1 : decide (((q[k + 1] : Nat) : Int) ≤ ((X : Nat) : Int)) = false := decide_eq_false (by omega)
              have t1' : decide (q[k + 1] ≤ X) = false := decide_eq_false hle
              subst hsu
              clear hle
              go_wp2_with (go_quiet (fail))
              generalize hWD : World.drewN WO _ = WD
              have hdb : Below WO.heap.size WO WD := by rw [← hWD]; exact bdrewN (Below.refl _ _) _
              clear hWD
              have hown3 := hown2.below hdb
              have hgr3 := hgr2.trans (grown_of_below hdb (some g))
              clear hown2 hgr2 c0 c1 hdb
              obtain ⟨WO, rfl⟩ : ∃ WO, WO = WD := ⟨WD, rfl⟩
              have hiI : j < (toI q).length := by rw [toI_len]; omega
              have hkI : (k + 1) < (toI q).length := by rw [toI_len]; omega
              have e0 : WO.cell? ⟨g, j, none⟩ = some (.int .i64 (toI q)[j]) := by have := hown3.cell (j := 0) hiI rfl; simpa using this
              have e1 : WO.cell? ⟨g, (k + 1), none⟩ = some (.int .i64 (toI q)[(k + 1)]) := by have := hown3.cell (j := 0) hkI rfl; simpa using this
              have z0 := hown3.frozen j
              have z2 := hown3.frozen (k + 1)
              have o5 := hown3.store1 (f := fun x : Int => .int .i64 x) hiI (toI q)[(k + 1)]
              have hk2 : (k + 1) < ((toI q).set j (toI q)[(k + 1)]).length := by rw [List.length_set]; exact hkI
              have e3 : (WO.setCell ⟨g, j, none⟩ (.int .i64 (toI q)[(k + 1)])).cell? ⟨g, (k + 1), none⟩ = some (.int .i64 ((toI q).set j (toI q)[(k + 1)])[(k + 1)]) := by have := o5.cell (j := 0) hk2 rfl; simpa using this
              have z1 := o5.frozen (k + 1)
              have o6 := o5.store1 (f := fun x : Int => .int .i64 x) hk2 (toI q)[j]
              rw [swapI (q := q) (by omega) (by omega) hiI hkI] at o6
              have O6 := Lib.hid o6
              have G6 := Lib.hid ((hgr3.trans (grown_cs WO g j (.int .i64 (toI q)[(k + 1)]))).trans (grown_cs _ g (k + 1) (.int .i64 (toI q)[j])))
              obtain ⟨vi, hvi⟩ : ∃ vi, (toI q)[j] = vi := ⟨_, rfl⟩
              obtain ⟨vk, hvk⟩ : ∃ vk, (toI q)[(k + 1)] = vk := ⟨_, rfl⟩
              obtain ⟨vq, hvq⟩ : ∃ vq, ((toI q).set j (toI q)[(k + 1)])[(k + 1)] = vq := ⟨_, rfl⟩
              rw [hvq] at e3
              rw [hvi] at e0
              rw [hvk] at e1 e3 z1
              simp only [hvi, hvk] at O6 G6
              clear o5 o6 hvi hvk hvq hiI hkI hk2
              go_wp2_with fail
              go_region
              have w9 : IntKind.i64.wrap ((q.length : Int) - 1) = (q.length : Int) - 1 := w1'
              go_wp2_with fail
              go_loopg [5, 6] q.length (fun gm sa sb wi => ∃ (G a b : Nat) (L : List Nat), gm = G ∧ j + 1 ≤ a ∧ a ≤ q.length ∧ b ≤ q.length - 1 ∧ b ≤ a + G ∧ L.length = q.length ∧ revG G L a b = revG q.length (swapN q j (k + 1)) (j + 1) (q.length - 1) ∧ Own wi base 2 encInt 1 (.slice (some ⟨g, 0, none⟩) q.length cap) (toI L) ∧ w.grownBy wi (some g) ∧ sa = .int .i64 a ∧ sb = .int .i64 b)
              case atStart => exact ⟨q.length, j + 1, q.length - 1, _, rfl, Nat.le_refl _, by omega, Nat.le_refl _, by omega, by rw [swapN_len], rfl, Own.below O6.out (bdr (Below.refl _ _)), G6.out.trans (grown_of_below (bdr (Below.refl _ _)) _), by congr 1, by congr 1; omega⟩
              case round =>
                obtain ⟨G, a, b, L, hG, ha1, ha9, hb9, hbG, hL, hrv, hown4, hgr4, rfl, rfl⟩ := hrel
                obtain ⟨WO, rfl⟩ : ∃ WO, WO = wr := ⟨wr, rfl⟩
                have HG3 := Lib.hid hG
                clear hG O6 G6 e0 e1 e3 z0 z1 z2 hown3 hgr3
                by_cases hab : a < b
                · obtain ⟨G, rfl⟩ : ∃ G', G = G' + 1 := ⟨G - 1, by omega⟩
                  rw [revG_go G L a b hab] at hrv
                  have HRv := Lib.hid hrv
                  have j1 : (0 : Int) ≤ (a : Int) := by omega
                  have j2 : (a : Int) < (q.length : Int) := by omega
                  have j3 : (0 : Int) ≤ (b : Int) := by omega
                  have j4 : (b : Int) < (q.length : Int) := by omega
                  have wa : IntKind.i64.wrap ((a : Int) + 1) = (a : Int) + 1 := IntWalk.i64_in _ (by omega)
                  have wb : IntKind.i64.wrap ((b : Int) - 1) = (b : Int) - 1 := IntWalk.i64_in _ (by omega)
                  clear hrv
                  have hiI : a < (toI L).length := by rw [toI_len]; omega
                  have hkI : b < (toI L).length := by rw [toI_len]; omega
                  have e0 : WO.cell? ⟨g, a, none⟩ = some (.int .i64 (toI L)[a]) := by have := hown4.cell (j := 0) hiI rfl; simpa using this
                  have e1 : WO.cell? ⟨g, b, none⟩ = some (.int .i64 (toI L)[b]) := by have := hown4.cell (j := 0) hkI rfl; simpa using this
                  have z0 := hown4.frozen a
                  have z2 := hown4.frozen b
                  have o5 := hown4.store1 (f := fun x : Int => .int .i64 x) hiI (toI L)[b]
                  have hk2 : b < ((toI L).set a (toI L)[b]).length := by rw [List.length_set]; exact hkI
                  have e3 : (WO.setCell ⟨g, a, none⟩ (.int .i64 (toI L)[b])).cell? ⟨g, b, none⟩ = some (.int .i64 ((toI L).set a (toI L)[b])[b]) := by have := o5.cell (j := 0) hk2 rfl; simpa using this
                  have z1 := o5.frozen b
                  have o6 := o5.store1 (f := fun x : Int => .int .i64 x) hk2 (toI L)[a]
                  rw [swapI (q := L) (by omega) (by omega) hiI hkI] at o6
                  have O6 := Lib.hid o6
                  have G6 := Lib.hid ((hgr4.trans (grown_cs WO g a (.int .i64 (toI L)[b]))).trans (grown_cs _ g b (.int .i64 (toI L)[a])))
                  obtain ⟨vi, hvi⟩ : ∃ vi, (toI L)[a] = vi := ⟨_, rfl⟩
                  obtain ⟨vk, hvk⟩ : ∃ vk, (toI L)[b] = vk := ⟨_, rfl⟩
                  obtain ⟨vq, hvq⟩ : ∃ vq, ((toI L).set a (toI L)[b])[b] = vq := ⟨_, rfl⟩
                  rw [hvq] at e3
                  rw [hvi] at e0
                  rw [hvk] at e1 e3 z1
                  simp only [hvi, hvk] at O6 G6
                  clear o5 o6 hvi hvk hvq hiI hkI hk2
                  go_wp2_with fail
                  go_region
                  go_wp2_with fail
                  go_roundg G
                  case measure => rw [HG3.out]; omega
                  case rel => exact ⟨G, a + 1, b - 1, _, rfl, by omega, by omega, by omega, by omega, by rw [swapN_len]; exact hL, HRv.out, Own.below O6.out (bdr (Below.refl _ _)), G6.out.trans (grown_of_below (bdr (Below.refl _ _)) _), by go_num, by congr 1; omega⟩
                · have hfin := revG_stop G L a b hab
                  rw [hfin] at hrv
                  have HF := Lib.hid hrv
                  clear hrv hfin
                  go_wp2_with fail
                  go_ret
                  exact ⟨by rw [HNx.out]; rfl, by rw [HNx.out]; show Own _ _ _ _ _ _ (toI (revG _ _ _ _)); rw [← HF.out]; exact hown4, hgr4⟩
end Go.Proofs.Yteepcnfpdmmnhaa
