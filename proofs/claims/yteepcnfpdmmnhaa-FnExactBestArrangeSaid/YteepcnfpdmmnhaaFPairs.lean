/-
  FPairs: tables of pairs: spec.l05Ok, ValidPairs, ArrangeBound; impl.ValidPairs, ArrangeBound.
-/
import Derived.Test.YteepcnfpdmmnhaaTPairs
import Derived.Test.YteepcnfpdmmnhaaFBasket
import Derived.Test.YteepcnfpdmmnhaaApps
namespace Go.Proofs.Yteepcnfpdmmnhaa
open Go.RowKit
set_option linter.unusedVariables false
attribute [local go_sem ↓] Go.wp_at_zero Go.wp_at_succ
def PairsOk (xs : List (List Int)) : Prop := (2 ≤ (xs.length : Int) ∧ (xs.length : Int) ≤ 7) ∧ ∀ r ∈ xs, r.length = xs.length ∧ ∀ n ∈ r, 0 ≤ n ∧ n ≤ 1000
theorem pairs_row {xs : List (List Int)} (h : PairsOk xs) (i : Nat) (hi : i < xs.length) : xs[i].length = xs.length ∧ ∀ n ∈ xs[i], 0 ≤ n ∧ n ≤ 1000 := h.2 _ (List.getElem_mem hi)
/-- A weighed sum of a row, of a table. -/
def rowS (f : Nat → Int) : List Int → Nat → Int → Int
  | [], _, s => s
  | n :: ns, k, s => rowS f ns (k + 1) (s + n * f k)
def allS (f : Nat → Nat → Int) : List (List Int) → Nat → Int → Int
  | [], _, s => s
  | r :: rs, i, s => allS f rs (i + 1) (rowS (f i) r 0 s)
theorem rowS_step (f : Nat → Int) (r : List Int) (k : Nat) (h : k < r.length) (s : Int) : rowS f (r.drop k) k s = rowS f (r.drop (k + 1)) (k + 1) (s + r[k] * f k) := by
  rw [List.drop_eq_getElem_cons h]; rfl
theorem allS_step (f : Nat → Nat → Int) (xs : List (List Int)) (i : Nat) (h : i < xs.length) (s : Int) : allS f (xs.drop i) i s = allS f (xs.drop (i + 1)) (i + 1) (rowS (f i) xs[i] 0 s) := by
  rw [List.drop_eq_getElem_cons h]; rfl
theorem mul_bd {n f : Int} (h : 0 ≤ n ∧ n ≤ 1000) (h2 : 0 ≤ f ∧ f ≤ 200) : 0 ≤ n * f ∧ n * f ≤ 200000 := by
  constructor
  · exact Int.mul_nonneg h.1 h2.1
  · have h3 : n * f ≤ 1000 * f := Int.mul_le_mul_of_nonneg_right h.2 h2.1
    omega
open Classical in
noncomputable def M_ArrangeBound (x : TBasket) (xs : List (List Int)) : Int × Int :=
  if BasketOk x then (if PairsOk xs then (allS (fun i k => if i = k then x.2.1 + x.2.2.1 else x.2.2.2.1) xs 0 0, 0) else (0, 1)) else (0, 1)
set_option maxHeartbeats 3200000 in
theorem l05Ok_any (A : Option Addr) (c : Nat) (xs : List (List Int)) (hx : xs.length ≤ 1048576) (hu : ∀ r ∈ xs, r.length ≤ 1048576 ∧ ∀ x ∈ r, I64 x) (w : World) (rx : RowXX w A xs) :
    Calls Try.prog 106 #[.slice A xs.length c] w (RB (PairsOk xs) w) := by
  go_enter Try.func106, Try.ntmps106
  go_wp2
  go_loopg [4] xs.length (fun g is wr => ∃ i : Nat, i ≤ xs.length ∧ g = xs.length - i ∧ (∀ r ∈ xs.take i, r.length = xs.length ∧ ∀ n ∈ r, 0 ≤ n ∧ n ≤ 1000) ∧ wr = w ∧ is = .int .i64 i)
  case atStart => exact ⟨0, Nat.zero_le _, rfl, by simp, rfl, rfl⟩
  case round =>
    obtain ⟨i, hi, hg, hall, rfl, rfl⟩ := hrel
    have HG := Lib.hid hg
    have HA := Lib.hid hall
    clear hg hall
    by_cases hlt : i < xs.length
    · obtain ⟨b, off, A', c', rfl, hb, c0, rr, hll⟩ := rx.at_ hlt
      have HU := Lib.hid (hu _ (List.getElem_mem hlt))
      have hl5 : xs[i].length ≤ 1048576 := HU.out.1
      by_cases hlen : xs[i].length = xs.length
      · have te : ((xs[i].length : Int) != (xs.length : Int)) = false := by rw [hlen]; simp
        have HL := Lib.hid hlen
        clear hlen
        go_wp2
        go_loopg [5] xs.length (fun g2 ks wi => ∃ k : Nat, k ≤ xs.length ∧ g2 = xs.length - k ∧ (∀ n ∈ xs[i].take k, 0 ≤ n ∧ n ≤ 1000) ∧ wi = wr ∧ ks = .int .i64 k)
        case atStart => exact ⟨0, Nat.zero_le _, rfl, by simp, rfl, rfl⟩
        case round =>
          obtain ⟨k, hk, hg2, hall2, rfl, rfl⟩ := hrel
          have HG2 := Lib.hid hg2
          have HA2 := Lib.hid hall2
          clear hg2 hall2
          by_cases hlt2 : k < xs.length
          · have hlk : k < xs[i].length := by rw [HL.out]; exact hlt2
            obtain ⟨b2, off2, rfl, hb2, d0⟩ := rr.at1 (f := fun x : Int => .int .i64 x) hlk
            by_cases hin : 0 ≤ xs[i][k] ∧ xs[i][k] ≤ 1000
            · go_wp2_with (go_at_call 68; refine (l00In_yes _ _ _ hin _).mono ?_; rintro e w5 ⟨rfl, rfl⟩)
              go_roundg (xs.length - (k + 1))
              case measure => rw [HG2.out]; omega
              case rel => exact ⟨k + 1, by omega, rfl, take_all_succ hlk HA2.out hin, rfl, by go_num⟩
            · go_wp2_with (go_at_call 68; refine (l00In_no _ _ _ hin _).mono ?_; rintro e w5 ⟨rfl, rfl⟩)
              go_ret
              exact RB.mk (nott fun hh => by have := (pairs_row hh i hlt).2 _ (List.getElem_mem hlk); omega)
          · have hA2 := HA2.out
            rw [List.take_of_length_le (by rw [HL.out]; omega)] at hA2
            have HA3 := Lib.hid hA2
            clear hA2
            go_wp2
            go_roundg (xs.length - (i + 1))
            case measure => rw [HG.out]; omega
            case rel => exact ⟨i + 1, by omega, rfl, take_all_succ hlt HA.out ⟨HL.out, HA3.out⟩, rfl, by go_num⟩
      · have te : ((xs[i].length : Int) != (xs.length : Int)) = true := by rw [bne_iff_ne]; omega
        have HL := Lib.hid hlen
        clear hlen
        go_wp2
        go_ret
        exact RB.mk (nott fun hh => HL.out (pairs_row hh i hlt).1)
    · have hA := HA.out
      rw [List.take_of_length_le (by omega)] at hA
      have HA2 := Lib.hid hA
      clear hA
      by_cases h27 : 2 ≤ (xs.length : Int) ∧ (xs.length : Int) ≤ 7
      · go_wp2_with (go_at_call 68; refine (l00In_yes _ _ _ h27 _).mono ?_; rintro e w5 ⟨rfl, rfl⟩)
        go_ret
        exact RB.mk (yest ⟨h27, HA2.out⟩)
      · go_wp2_with (go_at_call 68; refine (l00In_no _ _ _ h27 _).mono ?_; rintro e w5 ⟨rfl, rfl⟩)
        go_ret
        exact RB.mk (nott fun hh => h27 hh.1)
set_option maxHeartbeats 3200000 in
theorem iValidPairs_any (A : Option Addr) (c : Nat) (xs : List (List Int)) (hx : xs.length ≤ 1048576) (hu : ∀ r ∈ xs, r.length ≤ 1048576 ∧ ∀ x ∈ r, I64 x) (w : World) (rx : RowXX w A xs) :
    Calls Try.prog 110 #[.slice A xs.length c] w (RB (PairsOk xs) w) := by
  by_cases h27 : 2 ≤ (xs.length : Int) ∧ (xs.length : Int) ≤ 7
  case neg =>
    go_enter Try.func110, Try.ntmps110
    go_wp2_with (go_at_call 72; refine (between_no _ _ _ h27 _).mono ?_; rintro e w5 ⟨rfl, rfl⟩)
    go_ret
    exact RB.mk (nott fun hh => h27 hh.1)
  go_enter Try.func110, Try.ntmps110
  go_wp2_with (go_at_call 72; refine (between_yes _ _ _ h27 _).mono ?_; rintro e w5 ⟨rfl, rfl⟩)
  go_loopg [13] xs.length (fun g is wr => ∃ i : Nat, i ≤ xs.length ∧ g = xs.length - i ∧ (∀ r ∈ xs.take i, r.length = xs.length ∧ ∀ n ∈ r, 0 ≤ n ∧ n ≤ 1000) ∧ wr = w ∧ is = .int .i64 i)
  case atStart => exact ⟨0, Nat.zero_le _, rfl, by simp, rfl, rfl⟩
  case round =>
    obtain ⟨i, hi, hg, hall, rfl, rfl⟩ := hrel
    have HG := Lib.hid hg
    have HA := Lib.hid hall
    clear hg hall
    by_cases hlt : i < xs.length
    · obtain ⟨b, off, A', c', rfl, hb, c0, rr, hll⟩ := rx.at_ hlt
      have HU := Lib.hid (hu _ (List.getElem_mem hlt))
      have hl5 : xs[i].length ≤ 1048576 := HU.out.1
      by_cases hlen : xs[i].length = xs.length
      · have te : ((xs[i].length : Int) != (xs.length : Int)) = false := by rw [hlen]; simp
        have HL := Lib.hid hlen
        clear hlen
        go_wp2
        go_loopg [24] xs[i].length (fun g2 ks wi => ∃ k : Nat, k ≤ xs[i].length ∧ g2 = xs[i].length - k ∧ (∀ n ∈ xs[i].take k, 0 ≤ n ∧ n ≤ 1000) ∧ wi = wr ∧ ks = .int .i64 k)
        case atStart => exact ⟨0, Nat.zero_le _, rfl, by simp, rfl, rfl⟩
        case round =>
          obtain ⟨k, hk, hg2, hall2, rfl, rfl⟩ := hrel
          have HG2 := Lib.hid hg2
          have HA2 := Lib.hid hall2
          clear hg2 hall2
          by_cases hlk : k < xs[i].length
          · obtain ⟨b2, off2, rfl, hb2, d0⟩ := rr.at1 (f := fun x : Int => .int .i64 x) hlk
            by_cases hin : 0 ≤ xs[i][k] ∧ xs[i][k] ≤ 1000
            · go_wp2_with (go_at_call 72; refine (between_yes _ _ _ hin _).mono ?_; rintro e w5 ⟨rfl, rfl⟩)
              go_roundg (xs[i].length - (k + 1))
              case measure => rw [HG2.out]; omega
              case rel => exact ⟨k + 1, by omega, rfl, take_all_succ hlk HA2.out hin, rfl, by go_num⟩
            · go_wp2_with (go_at_call 72; refine (between_no _ _ _ hin _).mono ?_; rintro e w5 ⟨rfl, rfl⟩)
              go_ret
              exact RB.mk (nott fun hh => by have := (pairs_row hh i hlt).2 _ (List.getElem_mem hlk); omega)
          · have hA2 := HA2.out
            rw [List.take_of_length_le (by omega)] at hA2
            have HA3 := Lib.hid hA2
            clear hA2
            go_wp2
            go_roundg (xs.length - (i + 1))
            case measure => rw [HG.out]; omega
            case rel => exact ⟨i + 1, by omega, rfl, take_all_succ hlt HA.out ⟨HL.out, HA3.out⟩, rfl, by go_num⟩
      · have te : ((xs[i].length : Int) != (xs.length : Int)) = true := by rw [bne_iff_ne]; omega
        have HL := Lib.hid hlen
        clear hlen
        go_wp2
        go_ret
        exact RB.mk (nott fun hh => HL.out (pairs_row hh i hlt).1)
    · have hA := HA.out
      rw [List.take_of_length_le (by omega)] at hA
      have HA2 := Lib.hid hA
      clear hA
      go_wp2
      go_ret
      exact RB.mk (yest ⟨h27, HA2.out⟩)
theorem impl_ValidPairs_any (A : Option Addr) (c : Nat) (xs : List (List Int)) (hx : xs.length ≤ 1048576) (hu : ∀ r ∈ xs, r.length ≤ 1048576 ∧ ∀ x ∈ r, I64 x) (w : World) (rx : RowXX w A xs) :
    Calls Try.prog 110 #[.slice A xs.length c] w (RBb (PairsOk xs) w) :=
  (iValidPairs_any A c xs hx hu w rx).mono fun e w' ⟨b, h1, h2, h3⟩ => ⟨b, h1, h2, by rw [← h3]; exact Below.refl _ _⟩
end Go.Proofs.Yteepcnfpdmmnhaa
