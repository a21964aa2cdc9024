/-
  FStruck: when what stands on a line is valid: spec.l04Struck, impl.validStruck.
-/
import Derived.Test.YteepcnfpdmmnhaaFText
import Derived.Test.YteepcnfpdmmnhaaFPure
import Derived.Test.YteepcnfpdmmnhaaTStruck
namespace Go.Proofs.Yteepcnfpdmmnhaa
open Go.RowKit
set_option linter.unusedVariables false
attribute [local go_sem ↓] Go.wp_at_zero Go.wp_at_succ
def StruckOk (s : TStruck) : Prop := (0 ≤ s.1 ∧ s.1 ≤ 300) ∧ LetterOk s.2
def StrucksOk (xs : List TStruck) : Prop := xs.length ≤ 200 ∧ ∀ s ∈ xs, StruckOk s
instance decStruckOk (s : TStruck) : Decidable (StruckOk s) := inferInstanceAs (Decidable (_ ∧ _))
instance decStrucksOk (xs : List TStruck) : Decidable (StrucksOk xs) := inferInstanceAs (Decidable (_ ∧ _))
set_option maxHeartbeats 1600000 in
theorem l04Struck_any (A : Option Addr) (c : Nat) (xs : List TStruck) (hx : xs.length ≤ 1048576) (hk : ∀ x ∈ xs, KStruck x) (w : World) (rx : Row w A encStruck 2 xs) : Calls Try.prog 91 #[.slice A xs.length c] w (RBb (StrucksOk xs) w) := by
  go_enter Try.func91, Try.ntmps91
  go_wp2
  go_loopg [3] xs.length (fun g i wr => ∃ k : Nat, k ≤ xs.length ∧ g = xs.length - k ∧ (∀ x ∈ xs.take k, StruckOk x) ∧ Below w.heap.size w wr ∧ i = .int .i64 k)
  case atStart => exact ⟨0, Nat.zero_le _, rfl, by simp, Below.refl _ _, rfl⟩
  case round =>
    obtain ⟨k, hkk, hg, htk, hbw, rfl⟩ := hrel
    have HG := Lib.hid hg
    have HT := Lib.hid htk
    clear hg htk
    by_cases hlt : k < xs.length
    · obtain ⟨b, off, rfl, hb, c0, c1⟩ := (rx.below hbw).at2 (f := fun x : TStruck => .int .i64 x.1) (g := fun x : TStruck => .string x.2) hlt
      have hm := hk _ (List.getElem_mem hlt)
      rcases ff2 (0 ≤ xs[k].1 ∧ xs[k].1 ≤ 300) (LetterOk xs[k].2) with a1 | ⟨a1, a2⟩ | ⟨a1, a2⟩
      · go_wp2_with (first | (go_at_call 68; refine (l00In_no _ _ _ a1 _).mono ?_; rintro e w1 ⟨rfl, rfl⟩))
        go_ret
        exact RBb.mk (nott fun hh => a1 (hh.2 _ (List.getElem_mem hlt)).1) (hbw)
      · go_wp2_with (first | (go_at_call 68; refine (l00In_yes _ _ _ a1 _).mono ?_; rintro e w1 ⟨rfl, rfl⟩) | (go_at_call 130; refine (RB.no (l02Letter_any xs[k].2 hm.2 _) a2).mono ?_; rintro e w1 ⟨rfl, rfl⟩))
        go_ret
        exact RBb.mk (nott fun hh => a2 (hh.2 _ (List.getElem_mem hlt)).2) (hbw)
      · go_wp2_with (first | (go_at_call 68; refine (l00In_yes _ _ _ a1 _).mono ?_; rintro e w1 ⟨rfl, rfl⟩) | (go_at_call 130; refine (RB.yes (l02Letter_any xs[k].2 hm.2 _) a2).mono ?_; rintro e w1 ⟨rfl, rfl⟩))
        go_roundg (xs.length - (k + 1))
        case measure => rw [HG.out]; omega
        case rel => exact ⟨k + 1, by omega, rfl, take_all_succ hlt HT.out ⟨a1, a2⟩, hbw, by go_num⟩
    · have htk := HT.out
      rw [List.take_of_length_le (by omega)] at htk
      have HA := Lib.hid htk
      clear htk
      by_cases hl : xs.length ≤ 200
      · go_wp2
        go_ret
        exact RBb.mk (by rw [decide_eq_true_iff]; exact ⟨fun _ => ⟨hl, HA.out⟩, fun _ => by omega⟩) hbw
      · go_wp2
        go_ret
        exact RBb.mk (by rw [decide_eq_true_iff]; exact ⟨fun h => absurd h (by omega), fun h => absurd h.1 hl⟩) hbw
set_option maxHeartbeats 1600000 in
theorem validStruck_any (A : Option Addr) (c : Nat) (xs : List TStruck) (hx : xs.length ≤ 1048576) (hk : ∀ x ∈ xs, KStruck x) (w : World) (rx : Row w A encStruck 2 xs) : Calls Try.prog 93 #[.slice A xs.length c] w (RBb (StrucksOk xs) w) := by
  by_cases hl : xs.length ≤ 200
  case neg =>
    go_enter Try.func93, Try.ntmps93
    go_wp2
    go_ret
    exact RBb.mk (nott fun hh => hl hh.1) (Below.refl _ _)
  go_enter Try.func93, Try.ntmps93
  go_wp2
  go_loopg [10] xs.length (fun g i wr => ∃ k : Nat, k ≤ xs.length ∧ g = xs.length - k ∧ (∀ x ∈ xs.take k, StruckOk x) ∧ Below w.heap.size w wr ∧ i = .int .i64 k)
  case atStart => exact ⟨0, Nat.zero_le _, rfl, by simp, Below.refl _ _, rfl⟩
  case round =>
    obtain ⟨k, hkk, hg, htk, hbw, rfl⟩ := hrel
    have HG := Lib.hid hg
    have HT := Lib.hid htk
    clear hg htk
    by_cases hlt : k < xs.length
    · obtain ⟨b, off, rfl, hb, c0, c1⟩ := (rx.below hbw).at2 (f := fun x : TStruck => .int .i64 x.1) (g := fun x : TStruck => .string x.2) hlt
      have hm := hk _ (List.getElem_mem hlt)
      rcases ff2 (0 ≤ xs[k].1 ∧ xs[k].1 ≤ 300) (LetterOk xs[k].2) with a1 | ⟨a1, a2⟩ | ⟨a1, a2⟩
      · go_wp2_with (first | (go_at_call 72; refine (between_no _ _ _ a1 _).mono ?_; rintro e w1 ⟨rfl, rfl⟩))
        go_ret
        exact RBb.mk (nott fun hh => a1 (hh.2 _ (List.getElem_mem hlt)).1) (bal hbw _)
      · go_wp2_with (first | (go_at_call 72; refine (between_yes _ _ _ a1 _).mono ?_; rintro e w1 ⟨rfl, rfl⟩) | (go_at_call 131; refine (RB.no (isLetter_any xs[k].2 hm.2 _) a2).mono ?_; rintro e w1 ⟨rfl, rfl⟩))
        go_ret
        exact RBb.mk (nott fun hh => a2 (hh.2 _ (List.getElem_mem hlt)).2) (bal hbw _)
      · go_wp2_with (first | (go_at_call 72; refine (between_yes _ _ _ a1 _).mono ?_; rintro e w1 ⟨rfl, rfl⟩) | (go_at_call 131; refine (RB.yes (isLetter_any xs[k].2 hm.2 _) a2).mono ?_; rintro e w1 ⟨rfl, rfl⟩))
        go_roundg (xs.length - (k + 1))
        case measure => rw [HG.out]; omega
        case rel => exact ⟨k + 1, by omega, rfl, take_all_succ hlt HT.out ⟨a1, a2⟩, bal hbw _, by go_num⟩
    · have htk := HT.out
      rw [List.take_of_length_le (by omega)] at htk
      have HA := Lib.hid htk
      clear htk
      go_wp2
      go_ret
      exact RBb.mk (yest ⟨hl, HA.out⟩) hbw
end Go.Proofs.Yteepcnfpdmmnhaa
