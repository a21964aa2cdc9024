/-
  FHalfShifted: spec.HalfShifted and impl.HalfShifted.
-/
import Derived.Test.YtecdfmijbkdcaaaFStruck
import Derived.Test.YtecdfmijbkdcaaaFCarriage
namespace Go.Proofs.Ytecdfmijbkdcaaa
open Go.RowKit
set_option linter.unusedVariables false
attribute [local go_sem ↓] Go.wp_at_zero Go.wp_at_succ
def M_HalfShifted (x : TCarriage) (xs : List TStruck) : Bool × Int := if CarriageOk x ∧ StrucksOk xs then (xs.any (fun s => (s.1 - x.1).tmod 2 != 0), 0) else (false, 1)
set_option maxHeartbeats 1600000 in
theorem spec_HalfShifted_any (x : TCarriage) (hx : okCarriage x) (A : Option Addr) (c : Nat) (xs : List TStruck) (hxl : xs.length ≤ 1048576) (hk : ∀ x ∈ xs, KStruck x) (w : World) (rx : Row w A encStruck 2 xs) :
    Calls Try.prog 70 #[.agg #[.int .i64 x.1, .int .i64 x.2.1, .int .i64 x.2.2], .slice A xs.length c] w (RBI (M_HalfShifted x xs) w) := by
  obtain ⟨W0, hW0⟩ : ∃ W0, W0 = w.alloc (.cells #[.int .i64 x.1, .int .i64 x.2.1, .int .i64 x.2.2] 98) := ⟨_, rfl⟩
  have hB0 : Below w.heap.size w W0 := by rw [hW0]; exact bal (Below.refl _ _) _
  have k0 : AtCarriage W0 w.heap.size x := by rw [hW0]; exact AtCarriage.new w _ x
  have HW := Lib.hid hW0
  clear hW0
  rcases ff2 (CarriageOk x) (StrucksOk xs) with h | ⟨h, h2⟩ | ⟨h, h2⟩
  · have HM := Lib.hid (show M_HalfShifted x xs = (false, 1) by unfold M_HalfShifted; rw [if_neg (fun hh => h hh.1)])
    go_enter Try.func70, Try.ntmps70
    go_wp2_with fail
    rw [← HW.out]
    refine (RBb.no (l04Ok_any x hx _) h).mono ?_; rintro e w1 ⟨rfl, hb1⟩
    go_wp2_with fail
    go_ret2
    exact RBI.mk HM.out.symm (bnext hB0 hb1)
  · have HM := Lib.hid (show M_HalfShifted x xs = (false, 1) by unfold M_HalfShifted; rw [if_neg (fun hh => h2 hh.2)])
    go_enter Try.func70, Try.ntmps70
    go_wp2_with fail
    rw [← HW.out]
    refine (RBb.yes (l04Ok_any x hx _) h).mono ?_; rintro e w1 ⟨rfl, hb1⟩
    go_wp2_with fail
    refine (RBb.no (l04Struck_any _ _ xs hxl hk _ (rx.below (bnext hB0 hb1))) h2).mono ?_; rintro e w2 ⟨rfl, hb2⟩
    go_wp2_with fail
    go_ret2
    exact RBI.mk HM.out.symm (bnext (bnext hB0 hb1) hb2)
  have HM := Lib.hid (show M_HalfShifted x xs = (xs.any (fun s => (s.1 - x.1).tmod 2 != 0), 0) by unfold M_HalfShifted; rw [if_pos ⟨h, h2⟩])
  go_enter Try.func70, Try.ntmps70
  go_wp2_with fail
  rw [← HW.out]
  refine (RBb.yes (l04Ok_any x hx _) h).mono ?_; rintro e w1 ⟨rfl, hb1⟩
  go_wp2_with fail
  refine (RBb.yes (l04Struck_any _ _ xs hxl hk _ (rx.below (bnext hB0 hb1))) h2).mono ?_; rintro e w2 ⟨rfl, hb2⟩
  have k2 := (k0.next hb1).next hb2
  have hB2 := bnext (bnext hB0 hb1) hb2
  go_wp2_with fail
  go_loopg [6] xs.length (fun g i wr => ∃ k : Nat, k ≤ xs.length ∧ g = xs.length - k ∧ (∀ s ∈ xs.take k, ((s.1 - x.1).tmod 2 != 0) = false) ∧ Below w2.heap.size w2 wr ∧ i = .int .i64 k)
  case atStart => exact ⟨0, Nat.zero_le _, rfl, by simp, Below.refl _ _, rfl⟩
  case round =>
    obtain ⟨k, hkk, hg, htk, hbw, rfl⟩ := hrel
    have HG := Lib.hid hg
    have HT := Lib.hid htk
    have k3 := k2.next hbw
    clear hg htk k2 k0
    by_cases hlt : k < xs.length
    · obtain ⟨b, off, rfl, hb, c0, c1⟩ := (rx.below (bnext hB2 hbw)).at2 (f := fun x : TStruck => .int .i64 x.1) (g := fun x : TStruck => .string x.2) hlt
      have hs := (h2.2 _ (List.getElem_mem hlt)).1
      have i1 : (0 : Int) ≤ (k : Int) := by omega
      have i2 : (k : Int) < (xs.length : Int) := by omega
      have b1 : 0 ≤ xs[k].1 := hs.1
      have b2 : xs[k].1 ≤ 300 := hs.2
      have b3 : 0 ≤ x.1 := h.1
      have b4 : x.1 ≤ 300 := h.2.1
      by_cases hq : ((xs[k].1 - x.1).tmod 2 != 0) = true
      · go_wp2
        go_quiet (fail)
        go_wp2
        go_ret2
        refine RBI.mk ?_ (bnext hB2 (bdrewN hbw _))
        rw [HM.out, List.any_eq_true.2 ⟨_, List.getElem_mem hlt, hq⟩]
      · have hq2 : ((xs[k].1 - x.1).tmod 2 != 0) = false := by simpa using hq
        clear hq
        go_wp2
        go_quiet (fail)
        go_wp2
        go_roundg (xs.length - (k + 1))
        case measure => rw [HG.out]; omega
        case rel => exact ⟨k + 1, by omega, rfl, take_all_succ (P := fun s : TStruck => ((s.1 - x.1).tmod 2 != 0) = false) hlt HT.out hq2, bdrewN hbw _, by go_num⟩
    · have htk := HT.out
      rw [List.take_of_length_le (by omega)] at htk
      have HA := Lib.hid htk
      clear htk
      go_wp2
      go_ret2
      refine RBI.mk ?_ (bnext hB2 hbw)
      rw [HM.out, List.any_eq_false.2 (fun s hs => by rw [HA.out s hs]; decide)]
set_option maxHeartbeats 1600000 in
theorem impl_HalfShifted_any (x : TCarriage) (hx : okCarriage x) (A : Option Addr) (c : Nat) (xs : List TStruck) (hxl : xs.length ≤ 1048576) (hk : ∀ x ∈ xs, KStruck x) (w : World) (rx : Row w A encStruck 2 xs) :
    Calls Try.prog 72 #[.agg #[.int .i64 x.1, .int .i64 x.2.1, .int .i64 x.2.2], .slice A xs.length c] w (RBI (M_HalfShifted x xs) w) := by
  obtain ⟨W0, hW0⟩ : ∃ W0, W0 = w.alloc (.cells #[.int .i64 x.1, .int .i64 x.2.1, .int .i64 x.2.2] 98) := ⟨_, rfl⟩
  have hB0 : Below w.heap.size w W0 := by rw [hW0]; exact bal (Below.refl _ _) _
  have k0 : AtCarriage W0 w.heap.size x := by rw [hW0]; exact AtCarriage.new w _ x
  have HW := Lib.hid hW0
  clear hW0
  rcases ff2 (CarriageOk x) (StrucksOk xs) with h | ⟨h, h2⟩ | ⟨h, h2⟩
  · have HM := Lib.hid (show M_HalfShifted x xs = (false, 1) by unfold M_HalfShifted; rw [if_neg (fun hh => h hh.1)])
    go_enter Try.func72, Try.ntmps72
    go_wp2_with fail
    rw [← HW.out]
    refine (RBb.no (impl_ValidCarriage_any x hx _) h).mono ?_; rintro e w1 ⟨rfl, hb1⟩
    go_wp2_with fail
    go_ret2
    exact RBI.mk HM.out.symm (bnext hB0 hb1)
  · have HM := Lib.hid (show M_HalfShifted x xs = (false, 1) by unfold M_HalfShifted; rw [if_neg (fun hh => h2 hh.2)])
    go_enter Try.func72, Try.ntmps72
    go_wp2_with fail
    rw [← HW.out]
    refine (RBb.yes (impl_ValidCarriage_any x hx _) h).mono ?_; rintro e w1 ⟨rfl, hb1⟩
    go_wp2_with fail
    refine (RBb.no (validStruck_any _ _ xs hxl hk _ (rx.below (bnext hB0 hb1))) h2).mono ?_; rintro e w2 ⟨rfl, hb2⟩
    go_wp2_with fail
    go_ret2
    exact RBI.mk HM.out.symm (bnext (bnext hB0 hb1) hb2)
  have HM := Lib.hid (show M_HalfShifted x xs = (xs.any (fun s => (s.1 - x.1).tmod 2 != 0), 0) by unfold M_HalfShifted; rw [if_pos ⟨h, h2⟩])
  go_enter Try.func72, Try.ntmps72
  go_wp2_with fail
  rw [← HW.out]
  refine (RBb.yes (impl_ValidCarriage_any x hx _) h).mono ?_; rintro e w1 ⟨rfl, hb1⟩
  go_wp2_with fail
  refine (RBb.yes (validStruck_any _ _ xs hxl hk _ (rx.below (bnext hB0 hb1))) h2).mono ?_; rintro e w2 ⟨rfl, hb2⟩
  have k2 := (k0.next hb1).next hb2
  have hB2 := bnext (bnext hB0 hb1) hb2
  go_wp2_with fail
  go_loopg [18] xs.length (fun g i wr => ∃ k : Nat, k ≤ xs.length ∧ g = xs.length - k ∧ (∀ s ∈ xs.take k, ((s.1 - x.1).tmod 2 != 0) = false) ∧ Below w2.heap.size w2 wr ∧ i = .int .i64 k)
  case atStart => exact ⟨0, Nat.zero_le _, rfl, by simp, Below.refl _ _, rfl⟩
  case round =>
    obtain ⟨k, hkk, hg, htk, hbw, rfl⟩ := hrel
    have HG := Lib.hid hg
    have HT := Lib.hid htk
    have k3 := k2.next hbw
    clear hg htk k2 k0
    by_cases hlt : k < xs.length
    · obtain ⟨b, off, rfl, hb, c0, c1⟩ := (rx.below (bnext hB2 hbw)).at2 (f := fun x : TStruck => .int .i64 x.1) (g := fun x : TStruck => .string x.2) hlt
      have hs := (h2.2 _ (List.getElem_mem hlt)).1
      have i1 : (0 : Int) ≤ (k : Int) := by omega
      have i2 : (k : Int) < (xs.length : Int) := by omega
      have b1 : 0 ≤ xs[k].1 := hs.1
      have b2 : xs[k].1 ≤ 300 := hs.2
      have b3 : 0 ≤ x.1 := h.1
      have b4 : x.1 ≤ 300 := h.2.1
      by_cases hq : ((xs[k].1 - x.1).tmod 2 != 0) = true
      · go_wp2
        go_ret2
        refine RBI.mk ?_ (bnext hB2 (bal hbw _))
        rw [HM.out, List.any_eq_true.2 ⟨_, List.getElem_mem hlt, hq⟩]
      · have hq2 : ((xs[k].1 - x.1).tmod 2 != 0) = false := by simpa using hq
        clear hq
        go_wp2
        go_roundg (xs.length - (k + 1))
        case measure => rw [HG.out]; omega
        case rel => exact ⟨k + 1, by omega, rfl, take_all_succ (P := fun s : TStruck => ((s.1 - x.1).tmod 2 != 0) = false) hlt HT.out hq2, bal hbw _, by go_num⟩
    · have htk := HT.out
      rw [List.take_of_length_le (by omega)] at htk
      have HA := Lib.hid htk
      clear htk
      go_wp2
      go_ret2
      refine RBI.mk ?_ (bnext hB2 hbw)
      rw [HM.out, List.any_eq_false.2 (fun s hs => by rw [HA.out s hs]; decide)]
end Go.Proofs.Ytecdfmijbkdcaaa
