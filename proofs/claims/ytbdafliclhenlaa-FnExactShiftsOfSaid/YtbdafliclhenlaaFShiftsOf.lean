/-
  FShiftsOf: spec.ShiftsOf and impl.ShiftsOf.
-/
import Derived.Test.YtbdafliclhenlaaTPress
namespace Go.Proofs.Ytbdafliclhenlaa
open Go.RowKit
set_option linter.unusedVariables false
attribute [local go_sem ↓] Go.wp_at_zero Go.wp_at_succ
def shiftsGo : List TPress → Bool → Int → Int
  | [], last, n => if last = true then n + 1 else n
  | p :: ps, last, n => shiftsGo ps p.2 (if p.2 = last then n else n + 1)
def M_ShiftsOf (xs : List TPress) : Int × Int := if xs.length ≤ 200 then (shiftsGo xs false 0, 0) else (0, 2)
set_option maxHeartbeats 1600000 in
theorem spec_ShiftsOf_any (A : Option Addr) (c : Nat) (xs : List TPress) (hx : xs.length ≤ 1048576) (hk : ∀ x ∈ xs, KPress x) (w : World) (rx : Row w A encPress 2 xs) :
    Calls Try.prog 52 #[.slice A xs.length c] w (RI2 (M_ShiftsOf xs) w) := by
  by_cases hl : xs.length ≤ 200
  case neg =>
    have hM : M_ShiftsOf xs = (0, 2) := by unfold M_ShiftsOf; rw [if_neg hl]
    have HM := Lib.hid hM
    clear hM
    go_enter Try.func52, Try.ntmps52
    go_wp2
    go_ret2
    exact RI2.mk HM.out.symm (Below.refl _ _)
  have hM : M_ShiftsOf xs = (shiftsGo xs false 0, 0) := by unfold M_ShiftsOf; rw [if_pos hl]
  have HM := Lib.hid hM
  clear hM
  go_enter Try.func52, Try.ntmps52
  go_wp2
  go_loopw [4, 5, 6] (fun m l i wr => ∃ (k : Nat) (n : Int) (b : Bool), k ≤ xs.length ∧ 0 ≤ n ∧ n ≤ k ∧ Hid (shiftsGo (xs.drop k) b n = shiftsGo xs false 0) ∧ Below w.heap.size w wr ∧ m = .int .i64 n ∧ l = .bool b ∧ i = .int .i64 k) (fun _ _ i _ => xs.length - (intOf i).toNat)
  case atStart => exact ⟨0, 0, false, Nat.zero_le _, by omega, by omega, by simp [Hid], Below.refl _ _, rfl, rfl, rfl⟩
  case round =>
    obtain ⟨k, n, b, hk, hn0, hn1, HG, hbw, rfl, rfl, rfl⟩ := hrel
    by_cases hlt : k < xs.length
    · obtain ⟨bb, off, rfl, hb, c0, c1⟩ := (rx.below hbw).at2 (f := fun x : TPress => .int .i64 x.1) (g := fun x : TPress => .bool x.2) hlt
      have HG2 : Hid (shiftsGo (xs.drop (k + 1)) xs[k].2 (if xs[k].2 = b then n else n + 1) = shiftsGo xs false 0) := by
        rw [← HG.out, List.drop_eq_getElem_cons hlt]; rfl
      clear HG
      by_cases he : xs[k].2 = b
      · have HG3 : Hid (shiftsGo (xs.drop (k + 1)) xs[k].2 n = shiftsGo xs false 0) := by have := HG2.out; rw [if_pos he] at this; exact this
        have t1 : (!(xs[k].2 == b)) = false := by simp [he]
        have HE := Lib.hid he
        clear HG2 he
        go_wp2
        go_roundw
        case rel => exact ⟨k + 1, n, xs[k].2, by omega, hn0, by omega, HG3, hbw, rfl, rfl, by go_num⟩
        case measure => simp [intOf]; omega
      · have HG3 : Hid (shiftsGo (xs.drop (k + 1)) xs[k].2 (n + 1) = shiftsGo xs false 0) := by have := HG2.out; rw [if_neg he] at this; exact this
        have t1 : (!(xs[k].2 == b)) = true := by simp [he]
        have HE := Lib.hid he
        clear HG2 he
        go_wp2
        go_roundw
        case rel => exact ⟨k + 1, n + 1, xs[k].2, by omega, by omega, by omega, HG3, hbw, rfl, rfl, by go_num⟩
        case measure => simp [intOf]; omega
    · have hG := HG.out
      rw [List.drop_of_length_le (by omega)] at hG
      have HH := Lib.hid hG
      clear hG HG
      cases b
      · go_wp2
        go_ret2
        exact RI2.mk (by rw [HM.out, ← HH.out]; rfl) hbw
      · go_wp2
        go_ret2
        exact RI2.mk (by rw [HM.out, ← HH.out]; rfl) hbw
set_option maxHeartbeats 1600000 in
theorem impl_ShiftsOf_any (A : Option Addr) (c : Nat) (xs : List TPress) (hx : xs.length ≤ 1048576) (hk : ∀ x ∈ xs, KPress x) (w : World) (rx : Row w A encPress 2 xs) :
    Calls Try.prog 53 #[.slice A xs.length c] w (RI2 (M_ShiftsOf xs) w) := by
  by_cases hl : xs.length ≤ 200
  case neg =>
    have hM : M_ShiftsOf xs = (0, 2) := by unfold M_ShiftsOf; rw [if_neg hl]
    have HM := Lib.hid hM
    clear hM
    go_enter Try.func53, Try.ntmps53
    go_wp2
    go_ret2
    exact RI2.mk HM.out.symm (Below.refl _ _)
  have hM : M_ShiftsOf xs = (shiftsGo xs false 0, 0) := by unfold M_ShiftsOf; rw [if_pos hl]
  have HM := Lib.hid hM
  clear hM
  go_enter Try.func53, Try.ntmps53
  go_wp2
  go_loopw [4, 5, 13] (fun m l i wr => ∃ (k : Nat) (n : Int) (b : Bool), k ≤ xs.length ∧ 0 ≤ n ∧ n ≤ k ∧ Hid (shiftsGo (xs.drop k) b n = shiftsGo xs false 0) ∧ Below w.heap.size w wr ∧ m = .int .i64 n ∧ l = .bool b ∧ i = .int .i64 k) (fun _ _ i _ => xs.length - (intOf i).toNat)
  case atStart => exact ⟨0, 0, false, Nat.zero_le _, by omega, by omega, by simp [Hid], Below.refl _ _, rfl, rfl, rfl⟩
  case round =>
    obtain ⟨k, n, b, hk, hn0, hn1, HG, hbw, rfl, rfl, rfl⟩ := hrel
    by_cases hlt : k < xs.length
    · obtain ⟨bb, off, rfl, hb, c0, c1⟩ := (rx.below hbw).at2 (f := fun x : TPress => .int .i64 x.1) (g := fun x : TPress => .bool x.2) hlt
      have HG2 : Hid (shiftsGo (xs.drop (k + 1)) xs[k].2 (if xs[k].2 = b then n else n + 1) = shiftsGo xs false 0) := by
        rw [← HG.out, List.drop_eq_getElem_cons hlt]; rfl
      clear HG
      by_cases he : xs[k].2 = b
      · have HG3 : Hid (shiftsGo (xs.drop (k + 1)) xs[k].2 n = shiftsGo xs false 0) := by have := HG2.out; rw [if_pos he] at this; exact this
        have t1 : (!(xs[k].2 == b)) = false := by simp [he]
        have HE := Lib.hid he
        clear HG2 he
        go_wp2
        go_roundw
        case rel => exact ⟨k + 1, n, b, by omega, hn0, by omega, (by rw [← HE.out]; exact HG3), bal hbw _, rfl, rfl, by go_num⟩
        case measure => simp [intOf]; omega
      · have HG3 : Hid (shiftsGo (xs.drop (k + 1)) xs[k].2 (n + 1) = shiftsGo xs false 0) := by have := HG2.out; rw [if_neg he] at this; exact this
        have t1 : (!(xs[k].2 == b)) = true := by simp [he]
        have HE := Lib.hid he
        clear HG2 he
        go_wp2
        go_roundw
        case rel => exact ⟨k + 1, n + 1, xs[k].2, by omega, by omega, by omega, HG3, bal hbw _, rfl, rfl, by go_num⟩
        case measure => simp [intOf]; omega
    · have hG := HG.out
      rw [List.drop_of_length_le (by omega)] at hG
      have HH := Lib.hid hG
      clear hG HG
      cases b
      · go_wp2
        go_ret2
        exact RI2.mk (by rw [HM.out, ← HH.out]; rfl) hbw
      · go_wp2
        go_ret2
        exact RI2.mk (by rw [HM.out, ← HH.out]; rfl) hbw
end Go.Proofs.Ytbdafliclhenlaa
