/-
  FBoard: when a keyboard is valid: spec.l07Ok, spec.ValidBoard, impl.ValidBoard.
-/
import Derived.Test.YtbcomfobnhekpaaFPure
import Derived.Test.YtbcomfobnhekpaaTPlace
namespace Go.Proofs.Ytbcomfobnhekpaa
open Go.RowKit
set_option linter.unusedVariables false
attribute [local go_sem ↓] Go.wp_at_zero Go.wp_at_succ
abbrev PlaceOk (x : TPlace) : Prop := (0 ≤ x.1 ∧ x.1 ≤ 7) ∧ (0 ≤ x.2.1 ∧ x.2.1 ≤ 3) ∧ (0 ≤ x.2.2 ∧ x.2.2 ≤ 50)
def BoardOk (xs : List TPlace) : Prop := (1 ≤ xs.length ∧ xs.length ≤ 6) ∧ ∀ x ∈ xs, PlaceOk x
set_option maxHeartbeats 1600000 in
theorem l07Ok_any (A : Option Addr) (c : Nat) (xs : List TPlace) (hx : xs.length ≤ 1048576) (hk : ∀ x ∈ xs, KPlace x) (w : World) (rx : Row w A encPlace 3 xs) :
    Calls Try.prog 142 #[.slice A xs.length c] w (RBb (BoardOk xs) w) := by
  go_enter Try.func142, Try.ntmps142
  go_wp2
  go_loopw [3] (fun i wr => ∃ k : Nat, k ≤ xs.length ∧ (∀ x ∈ xs.take k, PlaceOk x) ∧ Below w.heap.size w wr ∧ i = .int .i64 k) (fun i _ => xs.length - (intOf i).toNat)
  case atStart => exact ⟨0, Nat.zero_le _, by simp, Below.refl _ _, rfl⟩
  case round =>
    obtain ⟨k, hk, htk, hbw, rfl⟩ := hrel
    have HT := Lib.hid htk
    clear htk
    by_cases hlt : k < xs.length
    · obtain ⟨b, off, rfl, hb, c0, c1, c2⟩ := (rx.below hbw).at3 (f := fun x : TPlace => .int .i64 x.1) (g := fun x : TPlace => .int .i64 x.2.1) (i := fun x : TPlace => .int .i64 x.2.2) hlt
      have h3 := ff3 (0 ≤ xs[k].1 ∧ xs[k].1 ≤ 7) (0 ≤ xs[k].2.1 ∧ xs[k].2.1 ≤ 3) (0 ≤ xs[k].2.2 ∧ xs[k].2.2 ≤ 50)
      rcases h3 with h | ⟨h, h2⟩ | ⟨h, h2, h3⟩ | ⟨h, h2, h3⟩
      case inr.inr.inr =>
        go_wp2_with (go_at_call 77; first | (refine (l00In_yes _ _ _ (by omega) _).mono ?_; rintro e w' ⟨rfl, rfl⟩) | (refine (l00In_no _ _ _ (by omega) _).mono ?_; rintro e w' ⟨rfl, rfl⟩))
        go_roundw
        case rel => exact ⟨k + 1, by omega, take_all_succ hlt HT.out ⟨h, h2, h3⟩, bal hbw _, by go_num⟩
        case measure => simp [intOf]; omega
      all_goals
        go_wp2_with (go_at_call 77; first | (refine (l00In_yes _ _ _ (by omega) _).mono ?_; rintro e w' ⟨rfl, rfl⟩) | (refine (l00In_no _ _ _ (by omega) _).mono ?_; rintro e w' ⟨rfl, rfl⟩))
        go_ret
        exact RBb.mk (nott fun hh => by have := hh.2 _ (List.getElem_mem hlt); omega) (bal hbw _)
    · have hl : k = xs.length := by omega
      have htk := HT.out
      rw [List.take_of_length_le (by omega)] at htk
      have HA := Lib.hid htk
      clear htk
      go_wp2_with (go_at_call 77; refine (l00In_any _ _ _ _).mono ?_; rintro e w' ⟨b, rfl, hb, rfl⟩)
      go_ret
      exact RBb.mk (hb.trans ⟨fun h => ⟨by omega, HA.out⟩, fun h => by have := h.1; omega⟩) hbw
set_option maxHeartbeats 1600000 in
theorem impl_ValidBoard_any (A : Option Addr) (c : Nat) (xs : List TPlace) (hx : xs.length ≤ 1048576) (hk : ∀ x ∈ xs, KPlace x) (w : World) (rx : Row w A encPlace 3 xs) :
    Calls Try.prog 144 #[.slice A xs.length c] w (RBb (BoardOk xs) w) := by
  by_cases hl : 1 ≤ xs.length ∧ xs.length ≤ 6
  case neg =>
    go_enter Try.func144, Try.ntmps144
    go_wp2_with (go_at_call 79; refine (between_no _ _ _ (by omega) _).mono ?_; rintro e w' ⟨rfl, rfl⟩)
    go_ret
    exact RBb.mk (nott fun hh => hl hh.1) (Below.refl _ _)
  go_enter Try.func144, Try.ntmps144
  go_wp2_with (go_at_call 79; refine (between_yes _ _ _ (by omega) _).mono ?_; rintro e w' ⟨rfl, rfl⟩)
  go_loopw [11] (fun i wr => ∃ k : Nat, k ≤ xs.length ∧ (∀ x ∈ xs.take k, PlaceOk x) ∧ Below w.heap.size w wr ∧ i = .int .i64 k) (fun i _ => xs.length - (intOf i).toNat)
  case atStart => exact ⟨0, Nat.zero_le _, by simp, Below.refl _ _, rfl⟩
  case round =>
    obtain ⟨k, hk, htk, hbw, rfl⟩ := hrel
    have HT := Lib.hid htk
    clear htk
    by_cases hlt : k < xs.length
    · obtain ⟨b, off, rfl, hb, c0, c1, c2⟩ := (rx.below hbw).at3 (f := fun x : TPlace => .int .i64 x.1) (g := fun x : TPlace => .int .i64 x.2.1) (i := fun x : TPlace => .int .i64 x.2.2) hlt
      have h3 := ff3 (0 ≤ xs[k].1 ∧ xs[k].1 ≤ 7) (0 ≤ xs[k].2.1 ∧ xs[k].2.1 ≤ 3) (0 ≤ xs[k].2.2 ∧ xs[k].2.2 ≤ 50)
      rcases h3 with h | ⟨h, h2⟩ | ⟨h, h2, h3⟩ | ⟨h, h2, h3⟩
      case inr.inr.inr =>
        go_wp2_with (go_at_call 79; first | (refine (between_yes _ _ _ (by omega) _).mono ?_; rintro e w' ⟨rfl, rfl⟩) | (refine (between_no _ _ _ (by omega) _).mono ?_; rintro e w' ⟨rfl, rfl⟩))
        go_roundw
        case rel => exact ⟨k + 1, by omega, take_all_succ hlt HT.out ⟨h, h2, h3⟩, bal hbw _, by go_num⟩
        case measure => simp [intOf]; omega
      all_goals
        go_wp2_with (go_at_call 79; first | (refine (between_yes _ _ _ (by omega) _).mono ?_; rintro e w' ⟨rfl, rfl⟩) | (refine (between_no _ _ _ (by omega) _).mono ?_; rintro e w' ⟨rfl, rfl⟩))
        go_ret
        exact RBb.mk (nott fun hh => by have := hh.2 _ (List.getElem_mem hlt); omega) (bal hbw _)
    · have htk := HT.out
      rw [List.take_of_length_le (by omega)] at htk
      have HA := Lib.hid htk
      clear htk
      go_wp2
      go_ret
      exact RBb.mk (yest ⟨hl, HA.out⟩) hbw
end Go.Proofs.Ytbcomfobnhekpaa
