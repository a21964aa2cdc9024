/-
  FIsName: spec.IsName and impl.IsName.
-/
import Derived.Test.YtbdafliclhenlaaData
namespace Go.Proofs.Ytbdafliclhenlaa
open Go.RowKit
set_option linter.unusedVariables false
attribute [local go_sem ↓] Go.wp_at_zero Go.wp_at_succ
def smallC (c : Nat) : Prop := 97 ≤ c ∧ c ≤ 122
def digitC (c : Nat) : Prop := 48 ≤ c ∧ c ≤ 57
def NameOk (s : ByteArray) : Prop := 0 < s.size ∧ s.size ≤ 12 ∧ ∀ (k : Nat) (h : k < s.size), smallC s[k].toNat ∨ (k ≠ 0 ∧ (digitC s[k].toNat ∨ s[k].toNat = 45))
theorem l01Small_any (c : Nat) (hc : c < 256) (w : World) : Calls Try.prog 58 #[.int .u8 c] w (RB (smallC c) w) := by
  by_cases h1 : (97 : Int) ≤ c <;> by_cases h2 : (c : Int) ≤ 122
  all_goals
    go_enter Try.func58, Try.ntmps58
    go_wp2
    go_ret
    exact RB.mk (by unfold smallC; constructor <;> intro hh <;> first | (cases hh; done) | rfl | omega)
theorem l01Digit_any (c : Nat) (hc : c < 256) (w : World) : Calls Try.prog 59 #[.int .u8 c] w (RB (digitC c) w) := by
  by_cases h1 : (48 : Int) ≤ c <;> by_cases h2 : (c : Int) ≤ 57
  all_goals
    go_enter Try.func59, Try.ntmps59
    go_wp2
    go_ret
    exact RB.mk (by unfold digitC; constructor <;> intro hh <;> first | (cases hh; done) | rfl | omega)
theorem isDigit_any (c : Nat) (hc : c < 256) (w : World) : Calls Try.prog 60 #[.int .u8 c] w (RB (digitC c) w) := by
  by_cases h1 : (48 : Int) ≤ c <;> by_cases h2 : (c : Int) ≤ 57
  all_goals
    go_enter Try.func60, Try.ntmps60
    go_wp2
    go_ret
    exact RB.mk (by unfold digitC; constructor <;> intro hh <;> first | (cases hh; done) | rfl | omega)
set_option maxHeartbeats 1600000 in
theorem spec_IsName_any (s : ByteArray) (hs : s.size ≤ 1048576) (w : World) : Calls Try.prog 23 #[.string s] w (RBb (NameOk s) w) := by
  by_cases h0 : s.size = 0
  · obtain ⟨he, he2⟩ := str_empty h0
    go_enter Try.func23, Try.ntmps23
    go_wp2
    go_ret
    exact RBb.mk (by unfold NameOk; constructor <;> intro hh <;> first | (cases hh; done) | omega) (Below.refl _ _)
  have hp : 0 < s.size := by omega
  obtain ⟨he, he2⟩ := str_some hp
  by_cases h12 : 12 < s.size
  · go_enter Try.func23, Try.ntmps23
    go_wp2
    go_ret
    exact RBb.mk (by unfold NameOk; constructor <;> intro hh <;> first | (cases hh; done) | omega) (Below.refl _ _)
  by_cases hs0 : smallC s[0].toNat
  case neg =>
    go_enter Try.func23, Try.ntmps23
    go_wp2_with (go_at_call 58; refine (RB.no (l01Small_any _ (UInt8.toNat_lt _) _) hs0).mono ?_; rintro e w1 ⟨rfl, rfl⟩)
    go_ret
    refine RBb.mk (nott fun hh => ?_) (Below.refl _ _)
    rcases hh.2.2 0 hp with h | ⟨h, _⟩
    · exact absurd h hs0
    · exact absurd rfl h
  case pos =>
    go_enter Try.func23, Try.ntmps23
    go_wp2_with (go_at_call 58; refine (RB.yes (l01Small_any _ (UInt8.toNat_lt _) _) hs0).mono ?_; rintro e w1 ⟨rfl, rfl⟩)
    go_loop [3] (fun i => ∃ k : Nat, k ≤ s.size ∧ (∀ (j : Nat) (h : j < s.size), j < k → smallC s[j].toNat ∨ digitC s[j].toNat ∨ s[j].toNat = 45) ∧ i = .int .i64 k) (fun i => s.size - (intOf i).toNat)
    case atStart => exact ⟨0, Nat.zero_le _, fun j _ hj => absurd hj (by omega), rfl⟩
    case round =>
      obtain ⟨k, hk, hall, rfl⟩ := hrel
      have HA := Lib.hid hall
      clear hall
      by_cases hlt : k < s.size
      · have hc := UInt8.toNat_lt s[k]
        rcases ss3 (smallC s[k].toNat) (digitC s[k].toNat) (s[k].toNat = 45) with a1 | ⟨a1, a2⟩ | ⟨a1, a2, a3⟩ | ⟨a1, a2, a3⟩
        · go_wp2_with (go_at_call 58; refine (RB.yes (l01Small_any _ hc _) a1).mono ?_; rintro e w1 ⟨rfl, rfl⟩)
          go_round
          case rel => exact ⟨k + 1, by omega, fun j hj hjk => (Nat.lt_succ_iff_lt_or_eq.1 hjk).elim (HA.out j hj) (fun hh => by subst hh; exact .inl a1), by go_num⟩
          case measure => simp [intOf]; omega
        · go_wp2_with (first | (go_at_call 58; refine (RB.no (l01Small_any _ hc _) a1).mono ?_; rintro e w1 ⟨rfl, rfl⟩) | (go_at_call 59; refine (RB.yes (l01Digit_any _ hc _) a2).mono ?_; rintro e w1 ⟨rfl, rfl⟩))
          go_round
          case rel => exact ⟨k + 1, by omega, fun j hj hjk => (Nat.lt_succ_iff_lt_or_eq.1 hjk).elim (HA.out j hj) (fun hh => by subst hh; exact .inr (.inl a2)), by go_num⟩
          case measure => simp [intOf]; omega
        · have t1 : (((s[k].toNat : Nat) : Int) != 45) = false := by rw [a3]; rfl
          have H3 := Lib.hid a3
          clear a3
          go_wp2_with (first | (go_at_call 58; refine (RB.no (l01Small_any _ hc _) a1).mono ?_; rintro e w1 ⟨rfl, rfl⟩) | (go_at_call 59; refine (RB.no (l01Digit_any _ hc _) a2).mono ?_; rintro e w1 ⟨rfl, rfl⟩))
          go_round
          case rel => exact ⟨k + 1, by omega, fun j hj hjk => (Nat.lt_succ_iff_lt_or_eq.1 hjk).elim (HA.out j hj) (fun hh => by subst hh; exact .inr (.inr H3.out)), by go_num⟩
          case measure => simp [intOf]; omega
        · have t1 : (((s[k].toNat : Nat) : Int) != 45) = true := by rw [bne_iff_ne]; omega
          go_wp2_with (first | (go_at_call 58; refine (RB.no (l01Small_any _ hc _) a1).mono ?_; rintro e w1 ⟨rfl, rfl⟩) | (go_at_call 59; refine (RB.no (l01Digit_any _ hc _) a2).mono ?_; rintro e w1 ⟨rfl, rfl⟩))
          go_ret
          refine RBb.mk (nott fun hh => ?_) (Below.refl _ _)
          rcases hh.2.2 k hlt with h | ⟨_, h | h⟩
          · exact absurd h a1
          · exact absurd h a2
          · exact absurd h a3
      · go_wp2
        go_ret
        refine RBb.mk ⟨fun _ => ⟨hp, by omega, fun j hj => ?_⟩, fun _ => rfl⟩ (Below.refl _ _)
        rcases Nat.eq_zero_or_pos j with h | h
        · subst h; exact .inl hs0
        · rcases HA.out j hj (by omega) with h1 | h1 | h1
          · exact .inl h1
          · exact .inr ⟨by omega, .inl h1⟩
          · exact .inr ⟨by omega, .inr h1⟩
set_option maxHeartbeats 3200000 in
theorem impl_IsName_any (s : ByteArray) (hs : s.size ≤ 1048576) (w : World) : Calls Try.prog 24 #[.string s] w (RBb (NameOk s) w) := by
  by_cases h0 : s.size = 0
  · have t0 : ((s.size : Int) == 0) = true := by rw [beq_iff_eq]; omega
    have H0 := Lib.hid h0
    clear h0
    go_enter Try.func24, Try.ntmps24
    go_wp2
    go_ret
    have h0 := H0.out
    exact RBb.mk (by unfold NameOk; constructor <;> intro hh <;> first | (cases hh; done) | omega) (Below.refl _ _)
  have t0 : ((s.size : Int) == 0) = false := by rw [beq_eq_false_iff_ne]; omega
  have hp : 0 < s.size := by omega
  by_cases h12 : 12 < s.size
  · go_enter Try.func24, Try.ntmps24
    go_wp2
    go_ret
    exact RBb.mk (by unfold NameOk; constructor <;> intro hh <;> first | (cases hh; done) | omega) (Below.refl _ _)
  go_enter Try.func24, Try.ntmps24
  go_wp2
  go_loop [15] (fun i => ∃ k : Nat, k ≤ s.size ∧ (∀ (j : Nat) (h : j < s.size), j < k → smallC s[j].toNat ∨ (j ≠ 0 ∧ (digitC s[j].toNat ∨ s[j].toNat = 45))) ∧ i = .int .i64 k) (fun i => s.size - (intOf i).toNat)
  case atStart => exact ⟨0, Nat.zero_le _, fun j _ hj => absurd hj (by omega), rfl⟩
  case round =>
    obtain ⟨k, hk, hall, rfl⟩ := hrel
    have HA := Lib.hid hall
    clear hall
    by_cases hlt : k < s.size
    · have hc := UInt8.toNat_lt s[k]
      by_cases a1 : smallC s[k].toNat
      · have a2 : (97 : Int) ≤ (s[k].toNat : Int) := by have := a1.1; omega
        have a3 : (s[k].toNat : Int) ≤ 122 := by have := a1.2; omega
        go_wp2
        go_round
        case rel => exact ⟨k + 1, by omega, fun j hj hjk => (Nat.lt_succ_iff_lt_or_eq.1 hjk).elim (HA.out j hj) (fun hh => by subst hh; exact .inl a1), by go_num⟩
        case measure => simp [intOf]; omega
      · have a1' : (s[k].toNat : Int) < 97 ∨ ((97 : Int) ≤ (s[k].toNat : Int) ∧ decide ((s[k].toNat : Int) ≤ 122) = false) := by unfold smallC at a1; rw [decide_eq_false_iff_not]; omega
        by_cases k0 : k = 0
        · have tk : ((k : Int) == 0) = true := by rw [beq_iff_eq]; omega
          have K0 := Lib.hid k0
          clear k0
          rcases a1' with a2 | ⟨a2, a2'⟩
          all_goals
            go_wp2
            go_ret
            refine RBb.mk (nott fun hh => ?_) (Below.refl _ _)
            rcases hh.2.2 k hlt with h | ⟨h, _⟩
            · exact a1 h
            · exact h K0.out
        · have tk : ((k : Int) == 0) = false := by rw [beq_eq_false_iff_ne]; omega
          rcases ss2 (s[k].toNat = 45) (digitC s[k].toNat) with b1 | ⟨b1, b2⟩ | ⟨b1, b2⟩
          · have t1 : (((s[k].toNat : Nat) : Int) != 45) = false := by rw [b1]; rfl
            have B1 := Lib.hid b1
            clear b1
            rcases a1' with a2 | ⟨a2, a2'⟩
            all_goals
              go_wp2
              go_round
              case rel => exact ⟨k + 1, by omega, fun j hj hjk => (Nat.lt_succ_iff_lt_or_eq.1 hjk).elim (HA.out j hj) (fun hh => by subst hh; exact .inr ⟨k0, .inr B1.out⟩), by go_num⟩
              case measure => simp [intOf]; omega
          · have t1 : (((s[k].toNat : Nat) : Int) != 45) = true := by rw [bne_iff_ne]; omega
            rcases a1' with a2 | ⟨a2, a2'⟩
            all_goals
              go_wp2_with (go_at_call 60; refine (RB.yes (isDigit_any _ hc _) b2).mono ?_; rintro e w1 ⟨rfl, rfl⟩)
              go_round
              case rel => exact ⟨k + 1, by omega, fun j hj hjk => (Nat.lt_succ_iff_lt_or_eq.1 hjk).elim (HA.out j hj) (fun hh => by subst hh; exact .inr ⟨k0, .inl b2⟩), by go_num⟩
              case measure => simp [intOf]; omega
          · have t1 : (((s[k].toNat : Nat) : Int) != 45) = true := by rw [bne_iff_ne]; omega
            rcases a1' with a2 | ⟨a2, a2'⟩
            all_goals
              go_wp2_with (go_at_call 60; refine (RB.no (isDigit_any _ hc _) b2).mono ?_; rintro e w1 ⟨rfl, rfl⟩)
              go_ret
              refine RBb.mk (nott fun hh => ?_) (Below.refl _ _)
              rcases hh.2.2 k hlt with h | ⟨_, h | h⟩
              · exact a1 h
              · exact b2 h
              · exact b1 h
    · go_wp2
      go_ret
      exact RBb.mk (yest ⟨hp, by omega, fun j hj => HA.out j hj (by omega)⟩) (Below.refl _ _)
end Go.Proofs.Ytbdafliclhenlaa
