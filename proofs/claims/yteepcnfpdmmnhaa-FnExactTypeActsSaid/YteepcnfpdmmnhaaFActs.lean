/-
  FActs: when acts are valid: spec.l04Acts, spec.ValidActs, impl.ValidActs.
-/
import Derived.Test.YteepcnfpdmmnhaaFText
import Derived.Test.YteepcnfpdmmnhaaFPure
import Derived.Test.YteepcnfpdmmnhaaTAct
namespace Go.Proofs.Yteepcnfpdmmnhaa
open Go.RowKit
set_option linter.unusedVariables false
attribute [local go_sem ↓] Go.wp_at_zero Go.wp_at_succ
def ActOk (a : TAct) : Prop := (a.1 = 0 ∧ LetterOk a.2) ∨ (a.1 ≠ 0 ∧ (1 ≤ a.1 ∧ a.1 ≤ 5) ∧ a.2.size = 0)
def ActsOk (xs : List TAct) : Prop := xs.length ≤ 200 ∧ ∀ a ∈ xs, ActOk a
theorem act_ways (a : TAct) : (a.1 = 0 ∧ LetterOk a.2) ∨ (a.1 = 0 ∧ ¬ LetterOk a.2) ∨ (a.1 ≠ 0 ∧ ¬ (1 ≤ a.1 ∧ a.1 ≤ 5)) ∨ (a.1 ≠ 0 ∧ (1 ≤ a.1 ∧ a.1 ≤ 5) ∧ a.2.size ≠ 0) ∨ (a.1 ≠ 0 ∧ (1 ≤ a.1 ∧ a.1 ≤ 5) ∧ a.2.size = 0) := by
  by_cases h : a.1 = 0
  · by_cases h2 : LetterOk a.2
    · exact .inl ⟨h, h2⟩
    · exact .inr (.inl ⟨h, h2⟩)
  · by_cases h2 : 1 ≤ a.1 ∧ a.1 ≤ 5
    · by_cases h3 : a.2.size = 0
      · exact .inr (.inr (.inr (.inr ⟨h, h2, h3⟩)))
      · exact .inr (.inr (.inr (.inl ⟨h, h2, h3⟩)))
    · exact .inr (.inr (.inl ⟨h, h2⟩))
set_option maxHeartbeats 1600000 in
theorem l04Acts_any (A : Option Addr) (c : Nat) (xs : List TAct) (hx : xs.length ≤ 1048576) (hk : ∀ x ∈ xs, KAct x) (w : World) (rx : Row w A encAct 2 xs) :
    Calls Try.prog 135 #[.slice A xs.length c] w (RBb (ActsOk xs) w) := by
  go_enter Try.func135, Try.ntmps135
  go_wp2
  go_loopg [3] xs.length (fun g i wr => ∃ k : Nat, k ≤ xs.length ∧ g = xs.length - k ∧ (∀ x ∈ xs.take k, ActOk x) ∧ Below w.heap.size w wr ∧ i = .int .i64 k)
  case atStart => exact ⟨0, Nat.zero_le _, rfl, by simp, Below.refl _ _, rfl⟩
  case round =>
    obtain ⟨k, hkk, hg, htk, hbw, rfl⟩ := hrel
    have HG := Lib.hid hg
    have HT := Lib.hid htk
    clear hg htk
    by_cases hlt : k < xs.length
    · obtain ⟨b, off, rfl, hb, c0, c1⟩ := (rx.below hbw).at2 (f := fun x : TAct => .int .i64 x.1) (g := fun x : TAct => .string x.2) hlt
      have hm := hk _ (List.getElem_mem hlt)
      have hw := act_ways xs[k]
      rcases hw with ⟨a1, a2⟩ | ⟨a1, a2⟩ | ⟨a1, a2⟩ | ⟨a1, a2, a3⟩ | ⟨a1, a2, a3⟩
      · have tk : (xs[k].1 == 0) = true := by rw [a1]; rfl
        have A1 := Lib.hid a1
        clear a1
        go_wp2_with (go_at_call 130; refine (RB.yes (l02Letter_any xs[k].2 hm.2 _) a2).mono ?_; rintro e w1 ⟨rfl, rfl⟩)
        go_roundg (xs.length - (k + 1))
        case measure => rw [HG.out]; omega
        case rel => exact ⟨k + 1, by omega, rfl, take_all_succ hlt HT.out (.inl ⟨A1.out, a2⟩), hbw, by go_num⟩
      · have tk : (xs[k].1 == 0) = true := by rw [a1]; rfl
        have A1 := Lib.hid a1
        clear a1
        go_wp2_with (go_at_call 130; refine (RB.no (l02Letter_any xs[k].2 hm.2 _) a2).mono ?_; rintro e w1 ⟨rfl, rfl⟩)
        go_ret
        exact RBb.mk (nott fun hh => by rcases hh.2 _ (List.getElem_mem hlt) with h | h
                                        · exact a2 h.2
                                        · exact h.1 A1.out) hbw
      · have tk : (xs[k].1 == 0) = false := by rw [beq_eq_false_iff_ne]; exact a1
        go_wp2_with (go_at_call 68; refine (l00In_no _ _ _ a2 _).mono ?_; rintro e w1 ⟨rfl, rfl⟩)
        go_ret
        exact RBb.mk (nott fun hh => by rcases hh.2 _ (List.getElem_mem hlt) with h | h
                                        · exact a1 h.1
                                        · exact a2 h.2.1) hbw
      · have tk : (xs[k].1 == 0) = false := by rw [beq_eq_false_iff_ne]; exact a1
        obtain ⟨e1, e2⟩ := str_some (s := xs[k].2) (by omega)
        go_wp2_with (go_at_call 68; refine (l00In_yes _ _ _ a2 _).mono ?_; rintro e w1 ⟨rfl, rfl⟩)
        go_ret
        exact RBb.mk (nott fun hh => by rcases hh.2 _ (List.getElem_mem hlt) with h | h
                                        · exact a1 h.1
                                        · exact a3 h.2.2) hbw
      · have tk : (xs[k].1 == 0) = false := by rw [beq_eq_false_iff_ne]; exact a1
        obtain ⟨e1, e2⟩ := str_empty (s := xs[k].2) a3
        have A3 := Lib.hid a3
        clear a3
        go_wp2_with (go_at_call 68; refine (l00In_yes _ _ _ a2 _).mono ?_; rintro e w1 ⟨rfl, rfl⟩)
        go_roundg (xs.length - (k + 1))
        case measure => rw [HG.out]; omega
        case rel => exact ⟨k + 1, by omega, rfl, take_all_succ hlt HT.out (.inr ⟨a1, a2, A3.out⟩), hbw, by go_num⟩
    · have htk := HT.out
      rw [List.take_of_length_le (by omega)] at htk
      have HA := Lib.hid htk
      clear htk
      by_cases hl : xs.length ≤ 200
      · go_wp2
        go_ret
        exact RBb.mk (by rw [decide_eq_true_iff]; exact ⟨fun _ => ⟨hl, HA.out⟩, fun _ => by omega⟩) hbw
      · go_wp2
        go_ret
        exact RBb.mk (by rw [decide_eq_true_iff]; exact ⟨fun h => absurd h (by omega), fun h => absurd h.1 hl⟩) hbw
set_option maxHeartbeats 1600000 in
theorem impl_ValidActs_any (A : Option Addr) (c : Nat) (xs : List TAct) (hx : xs.length ≤ 1048576) (hk : ∀ x ∈ xs, KAct x) (w : World) (rx : Row w A encAct 2 xs) :
    Calls Try.prog 101 #[.slice A xs.length c] w (RBb (ActsOk xs) w) := by
  by_cases hl : xs.length ≤ 200
  case neg =>
    go_enter Try.func101, Try.ntmps101
    go_wp2
    go_ret
    exact RBb.mk (nott fun hh => hl hh.1) (Below.refl _ _)
  go_enter Try.func101, Try.ntmps101
  go_wp2
  go_loopg [10] xs.length (fun g i wr => ∃ k : Nat, k ≤ xs.length ∧ g = xs.length - k ∧ (∀ x ∈ xs.take k, ActOk x) ∧ Below w.heap.size w wr ∧ i = .int .i64 k)
  case atStart => exact ⟨0, Nat.zero_le _, rfl, by simp, Below.refl _ _, rfl⟩
  case round =>
    obtain ⟨k, hkk, hg, htk, hbw, rfl⟩ := hrel
    have HG := Lib.hid hg
    have HT := Lib.hid htk
    clear hg htk
    by_cases hlt : k < xs.length
    · obtain ⟨b, off, rfl, hb, c0, c1⟩ := (rx.below hbw).at2 (f := fun x : TAct => .int .i64 x.1) (g := fun x : TAct => .string x.2) hlt
      have hm := hk _ (List.getElem_mem hlt)
      have hw := act_ways xs[k]
      rcases hw with ⟨a1, a2⟩ | ⟨a1, a2⟩ | ⟨a1, a2⟩ | ⟨a1, a2, a3⟩ | ⟨a1, a2, a3⟩
      · have tk : (xs[k].1 == 0) = true := by rw [a1]; rfl
        have tk2 : (xs[k].1 != 0) = false := by rw [a1]; rfl
        have tb : 0 ≤ xs[k].1 ∧ xs[k].1 ≤ 5 := by omega
        have A1 := Lib.hid a1
        clear a1
        go_wp2_with (first | (go_at_call 72; refine (between_yes _ _ _ tb _).mono ?_; rintro e w1 ⟨rfl, rfl⟩) | (go_at_call 131; refine (RB.yes (isLetter_any xs[k].2 hm.2 _) a2).mono ?_; rintro e w1 ⟨rfl, rfl⟩))
        go_roundg (xs.length - (k + 1))
        case measure => rw [HG.out]; omega
        case rel => exact ⟨k + 1, by omega, rfl, take_all_succ hlt HT.out (.inl ⟨A1.out, a2⟩), bal hbw _, by go_num⟩
      · have tk : (xs[k].1 == 0) = true := by rw [a1]; rfl
        have tk2 : (xs[k].1 != 0) = false := by rw [a1]; rfl
        have tb : 0 ≤ xs[k].1 ∧ xs[k].1 ≤ 5 := by omega
        have A1 := Lib.hid a1
        clear a1
        go_wp2_with (first | (go_at_call 72; refine (between_yes _ _ _ tb _).mono ?_; rintro e w1 ⟨rfl, rfl⟩) | (go_at_call 131; refine (RB.no (isLetter_any xs[k].2 hm.2 _) a2).mono ?_; rintro e w1 ⟨rfl, rfl⟩))
        go_ret
        exact RBb.mk (nott fun hh => by rcases hh.2 _ (List.getElem_mem hlt) with h | h
                                        · exact a2 h.2
                                        · exact h.1 A1.out) (bal hbw _)
      · have tk : (xs[k].1 == 0) = false := by rw [beq_eq_false_iff_ne]; exact a1
        have tb : ¬ (0 ≤ xs[k].1 ∧ xs[k].1 ≤ 5) := by omega
        go_wp2_with (go_at_call 72; refine (between_no _ _ _ tb _).mono ?_; rintro e w1 ⟨rfl, rfl⟩)
        go_ret
        exact RBb.mk (nott fun hh => by rcases hh.2 _ (List.getElem_mem hlt) with h | h
                                        · exact a1 h.1
                                        · exact a2 h.2.1) (bal hbw _)
      · have tk : (xs[k].1 == 0) = false := by rw [beq_eq_false_iff_ne]; exact a1
        have tk2 : (xs[k].1 != 0) = true := by rw [bne_iff_ne]; exact a1
        have tb : 0 ≤ xs[k].1 ∧ xs[k].1 ≤ 5 := by omega
        obtain ⟨e1, e2⟩ := str_some (s := xs[k].2) (by omega)
        go_wp2_with (go_at_call 72; refine (between_yes _ _ _ tb _).mono ?_; rintro e w1 ⟨rfl, rfl⟩)
        go_ret
        exact RBb.mk (nott fun hh => by rcases hh.2 _ (List.getElem_mem hlt) with h | h
                                        · exact a1 h.1
                                        · exact a3 h.2.2) (bal hbw _)
      · have tk : (xs[k].1 == 0) = false := by rw [beq_eq_false_iff_ne]; exact a1
        have tk2 : (xs[k].1 != 0) = true := by rw [bne_iff_ne]; exact a1
        have tb : 0 ≤ xs[k].1 ∧ xs[k].1 ≤ 5 := by omega
        obtain ⟨e1, e2⟩ := str_empty (s := xs[k].2) a3
        have A3 := Lib.hid a3
        clear a3
        go_wp2_with (go_at_call 72; refine (between_yes _ _ _ tb _).mono ?_; rintro e w1 ⟨rfl, rfl⟩)
        go_roundg (xs.length - (k + 1))
        case measure => rw [HG.out]; omega
        case rel => exact ⟨k + 1, by omega, rfl, take_all_succ hlt HT.out (.inr ⟨a1, a2, A3.out⟩), bal hbw _, by go_num⟩
    · have htk := HT.out
      rw [List.take_of_length_le (by omega)] at htk
      have HA := Lib.hid htk
      clear htk
      go_wp2
      go_ret
      exact RBb.mk (yest ⟨hl, HA.out⟩) hbw
end Go.Proofs.Yteepcnfpdmmnhaa
