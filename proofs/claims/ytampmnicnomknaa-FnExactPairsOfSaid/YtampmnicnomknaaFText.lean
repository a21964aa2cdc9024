/-
  FText: which bytes a text may have: impl.isText, impl.isLetter, spec.l00Text, spec.l02Text, spec.l02Letter.
-/
import Derived.Test.YtampmnicnomknaaData
namespace Go.Proofs.Ytampmnicnomknaa
open Go.RowKit
set_option linter.unusedVariables false
attribute [local go_sem ↓] Go.wp_at_zero Go.wp_at_succ
/-- All bytes lie from lo to 126. -/
def BytesIn (s : ByteArray) (lo : Int) : Prop := ∀ (k : Nat) (h : k < s.size), lo ≤ (s[k].toNat : Int) ∧ (s[k].toNat : Int) ≤ 126
def TextOk (s : ByteArray) (lo most : Int) : Prop := (s.size : Int) ≤ most ∧ BytesIn s lo
/-- A letter: one byte from 33 to 126. -/
def LetterOk (s : ByteArray) : Prop := s.size = 1 ∧ BytesIn s 33
instance decBytesIn (s : ByteArray) (lo : Int) : Decidable (BytesIn s lo) := inferInstanceAs (Decidable (∀ (k : Nat) (h : k < s.size), lo ≤ (s[k].toNat : Int) ∧ (s[k].toNat : Int) ≤ 126))
instance decTextOk (s : ByteArray) (lo most : Int) : Decidable (TextOk s lo most) := inferInstanceAs (Decidable (_ ∧ _))
instance decLetterOk (s : ByteArray) : Decidable (LetterOk s) := inferInstanceAs (Decidable (_ ∧ _))
set_option maxHeartbeats 1600000 in
theorem isText_any (s : ByteArray) (hs : s.size ≤ 1048576) (lo most : Int) (h0 : 0 ≤ lo ∧ lo ≤ 255) (hm : 0 ≤ most ∧ most ≤ 1048576) (w : World) :
    Calls Try.prog 12 #[.string s, .int .u8 lo, .int .i64 most] w (RB (TextOk s lo most) w) := by
  by_cases hl : (s.size : Int) ≤ most
  case neg =>
    go_enter Try.func12, Try.ntmps12
    go_wp2
    go_ret
    exact RB.mk (nott fun hh => by have := hh.1; omega)
  go_enter Try.func12, Try.ntmps12
  go_wp2
  go_loop [14] (fun i => ∃ k : Nat, k ≤ s.size ∧ (∀ (j : Nat) (h : j < s.size), j < k → lo ≤ (s[j].toNat : Int) ∧ (s[j].toNat : Int) ≤ 126) ∧ i = .int .i64 k) (fun i => s.size - (intOf i).toNat)
  case atStart => exact ⟨0, Nat.zero_le _, fun j _ hj => absurd hj (by omega), rfl⟩
  case round =>
    obtain ⟨k, hk, hall, rfl⟩ := hrel
    have HA := Lib.hid hall
    clear hall
    by_cases hlt : k < s.size
    · have hc := UInt8.toNat_lt s[k]
      rcases (by omega : (s[k].toNat : Int) < lo ∨ (lo ≤ (s[k].toNat : Int) ∧ 126 < (s[k].toNat : Int)) ∨ (lo ≤ (s[k].toNat : Int) ∧ (s[k].toNat : Int) ≤ 126)) with a | ⟨a, a2⟩ | ⟨a, a2⟩
      · go_wp2
        go_ret
        exact RB.mk (nott fun hh => by have := hh.2 k hlt; omega)
      · go_wp2
        go_ret
        exact RB.mk (nott fun hh => by have := hh.2 k hlt; omega)
      · go_wp2
        go_round
        case rel => exact ⟨k + 1, by omega, fun j hj hjk => (Nat.lt_succ_iff_lt_or_eq.1 hjk).elim (HA.out j hj) (fun hh => by subst hh; exact ⟨a, a2⟩), by go_num⟩
        case measure => simp [intOf]; omega
    · go_wp2
      go_ret
      exact RB.mk (yest ⟨hl, fun j hj => HA.out j hj (by omega)⟩)
set_option maxHeartbeats 1600000 in
theorem l00Text_any (s : ByteArray) (hs : s.size ≤ 1048576) (most : Int) (hm : 0 ≤ most ∧ most ≤ 1048576) (w : World) :
    Calls Try.prog 9 #[.string s, .int .i64 most] w (RB (TextOk s 32 most) w) := by
  go_enter Try.func9, Try.ntmps9
  go_wp2
  go_loop [5] (fun i => ∃ k : Nat, k ≤ s.size ∧ (∀ (j : Nat) (h : j < s.size), j < k → 32 ≤ (s[j].toNat : Int) ∧ (s[j].toNat : Int) ≤ 126) ∧ i = .int .i64 k) (fun i => s.size - (intOf i).toNat)
  case atStart => exact ⟨0, Nat.zero_le _, fun j _ hj => absurd hj (by omega), rfl⟩
  case round =>
    obtain ⟨k, hk, hall, rfl⟩ := hrel
    have HA := Lib.hid hall
    clear hall
    by_cases hlt : k < s.size
    · have hc := UInt8.toNat_lt s[k]
      rcases (by omega : (s[k].toNat : Int) < 32 ∨ (32 ≤ (s[k].toNat : Int) ∧ 126 < (s[k].toNat : Int)) ∨ (32 ≤ (s[k].toNat : Int) ∧ (s[k].toNat : Int) ≤ 126)) with a | ⟨a, a2⟩ | ⟨a, a2⟩
      · go_wp2
        go_ret
        exact RB.mk (nott fun hh => by have := hh.2 k hlt; omega)
      · go_wp2
        go_ret
        exact RB.mk (nott fun hh => by have := hh.2 k hlt; omega)
      · go_wp2
        go_round
        case rel => exact ⟨k + 1, by omega, fun j hj hjk => (Nat.lt_succ_iff_lt_or_eq.1 hjk).elim (HA.out j hj) (fun hh => by subst hh; exact ⟨a, a2⟩), by go_num⟩
        case measure => simp [intOf]; omega
    · go_wp2
      go_ret
      exact RB.mk (by rw [decide_eq_true_iff]; exact ⟨fun h => ⟨h, fun j hj => HA.out j hj (by omega)⟩, fun h => h.1⟩)
theorem extract_one (s : ByteArray) (k : Nat) (h : k < s.size) : (s.extract k (k + 1)).size = 1 := by
  rw [ByteArray.size_extract]; omega
theorem extract_at (s : ByteArray) (k : Nat) (h : k < s.size) (h2 : 0 < (s.extract k (k + 1)).size) : (s.extract k (k + 1))[0] = s[k] := by
  rw [ByteArray.getElem_extract]; simp
theorem letter_one (s : ByteArray) (k : Nat) (h : k < s.size) : LetterOk (s.extract k (k + 1)) ↔ 33 ≤ (s[k].toNat : Int) ∧ (s[k].toNat : Int) ≤ 126 := by
  have h1 := extract_one s k h
  constructor
  · intro hh
    have := hh.2 0 (by omega)
    rw [extract_at s k h (by omega)] at this
    exact this
  · intro hh
    refine ⟨h1, fun j hj => ?_⟩
    have : j = 0 := by omega
    subst this
    rw [extract_at s k h (by omega)]
    exact hh
end Go.Proofs.Ytampmnicnomknaa
