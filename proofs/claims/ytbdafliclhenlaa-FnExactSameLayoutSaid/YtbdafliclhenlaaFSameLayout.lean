/-
  FSameLayout: spec.SameLayout and impl.SameLayout.
-/
import Derived.Test.YtbdafliclhenlaaTLayout
namespace Go.Proofs.Ytbdafliclhenlaa
open Go.RowKit
set_option linter.unusedVariables false
attribute [local go_sem ↓] Go.wp_at_zero Go.wp_at_succ
set_option maxHeartbeats 1600000 in
theorem spec_SameLayout_any (A : Option Addr) (c : Nat) (xs : List ByteArray) (hx : xs.length ≤ 1048576) (hk : ∀ x ∈ xs, KStringS x) (C : Option Addr) (d : Nat) (ys : List ByteArray) (hy : ys.length ≤ 1048576) (hm : ∀ x ∈ ys, KStringS x) (w : World) (rx : Row w A encStr 1 xs) (ry : Row w C encStr 1 ys) :
    Calls Try.prog 46 #[.agg #[.slice A xs.length c], .agg #[.slice C ys.length d]] w (RBb (xs = ys) w) := by
  by_cases hl : xs.length = ys.length
  · have hl1 : xs.length ≤ ys.length := by omega
    have hl2 : ys.length ≤ xs.length := by omega
    have ht : ((xs.length : Int) != (ys.length : Int)) = false := by simp [hl]
    clear hl
    obtain ⟨W0, hW0⟩ : ∃ W0, W0 = (w.alloc (.cells #[.slice A xs.length c] 72)).alloc (.cells #[.slice C ys.length d] 72) := ⟨_, rfl⟩
    have hB0 : Below w.heap.size w W0 := by rw [hW0]; repeat (first | exact Below.refl _ _ | (apply bal))
    have k0 : w.heap.size + 1 < W0.heap.size ∧ W0.cell? ⟨w.heap.size, 0, none⟩ = some (.slice A xs.length c) ∧ W0.cell? ⟨w.heap.size + 1, 0, none⟩ = some (.slice C ys.length d) := by rw [hW0]; exact ⟨by simp, by simp [go_sem], by simp [go_sem]⟩
    have HW := Lib.hid hW0
    clear hW0
    obtain ⟨q0, q1, q2⟩ := k0
    have Q := Lib.hid q1
    have Q' := Lib.hid q2
    clear q1 q2
    go_enter Try.func46, Try.ntmps46
    go_wp2
    go_loopw [5] (fun i wr => ∃ k : Nat, k ≤ xs.length ∧ xs.take k = ys.take k ∧ Below W0.heap.size W0 wr ∧ i = .int .i64 k) (fun i _ => xs.length - (intOf i).toNat)
    case atStart => exact ⟨0, Nat.zero_le _, rfl, by rw [← HW.out]; exact Below.refl _ _, rfl⟩
    case round =>
      obtain ⟨k, hk, htk, hbw, rfl⟩ := hrel
      have HT := Lib.hid htk
      clear htk
      have hbw0 := bnext hB0 hbw
      have a1 := (hbw.cell (p := ⟨w.heap.size, 0, none⟩) (by show w.heap.size < _; omega)).trans Q.out
      have a2 := (hbw.cell (p := ⟨w.heap.size + 1, 0, none⟩) q0).trans Q'.out
      by_cases hlt : k < xs.length
      · obtain ⟨b, off, rfl, hb, c0⟩ := (rx.below hbw0).at1 (f := fun x : ByteArray => .string x) hlt
        have hlt' : k < ys.length := by omega
        obtain ⟨b', off', rfl, hb', c0'⟩ := (ry.below hbw0).at1 (f := fun x : ByteArray => .string x) hlt'
        have i1 : (0 : Int) ≤ (k : Int) := by omega
        have i2 : (k : Int) < (xs.length : Int) := by omega
        have i3 : (k : Int) < (ys.length : Int) := by omega
        by_cases he : xs[k] = ys[k]
        · have t1 : (!(xs[k].toList == ys[k].toList)) = false := by simp [he]
          have HE := Lib.hid he
          clear he
          go_wp2
          go_quiet (fail)
          go_wp2
          go_roundw
          case rel =>
            refine ⟨k + 1, by omega, ?_, bdrewN hbw _, by go_num⟩
            rw [List.take_succ_eq_append_getElem hlt, List.take_succ_eq_append_getElem hlt', HT.out, HE.out]
          case measure => simp [intOf]; omega
        · have t1 : (!(xs[k].toList == ys[k].toList)) = true := by simp [tl_eq, he]
          have HE := Lib.hid he
          clear he
          go_wp2
          go_quiet (fail)
          go_wp2
          go_ret
          exact RBb.mk (nott fun h => HE.out (by subst h; rfl)) (bdrewN hbw0 _)
      · go_wp2
        go_ret
        have htk := HT.out
        rw [List.take_of_length_le (by omega), List.take_of_length_le (by omega)] at htk
        exact RBb.mk (yest htk) hbw0
  · have ht : ((xs.length : Int) != (ys.length : Int)) = true := by simp [bne_iff_ne]; omega
    go_enter Try.func46, Try.ntmps46
    go_wp2
    go_ret
    exact RBb.mk (nott fun h => hl (by rw [h])) (by repeat (first | exact Below.refl _ _ | (apply bal)))
set_option maxHeartbeats 1600000 in
theorem impl_SameLayout_any (A : Option Addr) (c : Nat) (xs : List ByteArray) (hx : xs.length ≤ 1048576) (hk : ∀ x ∈ xs, KStringS x) (C : Option Addr) (d : Nat) (ys : List ByteArray) (hy : ys.length ≤ 1048576) (hm : ∀ x ∈ ys, KStringS x) (w : World) (rx : Row w A encStr 1 xs) (ry : Row w C encStr 1 ys) :
    Calls Try.prog 48 #[.agg #[.slice A xs.length c], .agg #[.slice C ys.length d]] w (RBb (xs = ys) w) := by
  by_cases hl : xs.length = ys.length
  · have hl1 : xs.length ≤ ys.length := by omega
    have hl2 : ys.length ≤ xs.length := by omega
    have ht : ((xs.length : Int) != (ys.length : Int)) = false := by simp [hl]
    clear hl
    obtain ⟨W0, hW0⟩ : ∃ W0, W0 = (w.alloc (.cells #[.slice A xs.length c] 72)).alloc (.cells #[.slice C ys.length d] 72) := ⟨_, rfl⟩
    have hB0 : Below w.heap.size w W0 := by rw [hW0]; repeat (first | exact Below.refl _ _ | (apply bal))
    have k0 : w.heap.size + 1 < W0.heap.size ∧ W0.cell? ⟨w.heap.size, 0, none⟩ = some (.slice A xs.length c) ∧ W0.cell? ⟨w.heap.size + 1, 0, none⟩ = some (.slice C ys.length d) := by rw [hW0]; exact ⟨by simp, by simp [go_sem], by simp [go_sem]⟩
    have HW := Lib.hid hW0
    clear hW0
    obtain ⟨q0, q1, q2⟩ := k0
    have Q := Lib.hid q1
    have Q' := Lib.hid q2
    clear q1 q2
    go_enter Try.func48, Try.ntmps48
    go_wp2
    go_loopw [16] (fun i wr => ∃ k : Nat, k ≤ xs.length ∧ xs.take k = ys.take k ∧ Below W0.heap.size W0 wr ∧ i = .int .i64 k) (fun i _ => xs.length - (intOf i).toNat)
    case atStart => exact ⟨0, Nat.zero_le _, rfl, by rw [← HW.out]; exact Below.refl _ _, rfl⟩
    case round =>
      obtain ⟨k, hk, htk, hbw, rfl⟩ := hrel
      have HT := Lib.hid htk
      clear htk
      have hbw0 := bnext hB0 hbw
      have a1 := (hbw.cell (p := ⟨w.heap.size, 0, none⟩) (by show w.heap.size < _; omega)).trans Q.out
      have a2 := (hbw.cell (p := ⟨w.heap.size + 1, 0, none⟩) q0).trans Q'.out
      by_cases hlt : k < xs.length
      · obtain ⟨b, off, rfl, hb, c0⟩ := (rx.below hbw0).at1 (f := fun x : ByteArray => .string x) hlt
        have hlt' : k < ys.length := by omega
        obtain ⟨b', off', rfl, hb', c0'⟩ := (ry.below hbw0).at1 (f := fun x : ByteArray => .string x) hlt'
        have i1 : (0 : Int) ≤ (k : Int) := by omega
        have i2 : (k : Int) < (xs.length : Int) := by omega
        have i3 : (k : Int) < (ys.length : Int) := by omega
        by_cases he : xs[k] = ys[k]
        · have t1 : (!(xs[k].toList == ys[k].toList)) = false := by simp [he]
          have HE := Lib.hid he
          clear he
          go_wp2
          go_quiet (fail)
          go_wp2
          go_roundw
          case rel =>
            refine ⟨k + 1, by omega, ?_, bdrewN hbw _, by go_num⟩
            rw [List.take_succ_eq_append_getElem hlt, List.take_succ_eq_append_getElem hlt', HT.out, HE.out]
          case measure => simp [intOf]; omega
        · have t1 : (!(xs[k].toList == ys[k].toList)) = true := by simp [tl_eq, he]
          have HE := Lib.hid he
          clear he
          go_wp2
          go_quiet (fail)
          go_wp2
          go_ret
          exact RBb.mk (nott fun h => HE.out (by subst h; rfl)) (bdrewN hbw0 _)
      · go_wp2
        go_ret
        have htk := HT.out
        rw [List.take_of_length_le (by omega), List.take_of_length_le (by omega)] at htk
        exact RBb.mk (yest htk) hbw0
  · have ht : ((xs.length : Int) != (ys.length : Int)) = true := by simp [bne_iff_ne]; omega
    go_enter Try.func48, Try.ntmps48
    go_wp2
    go_ret
    exact RBb.mk (nott fun h => hl (by rw [h])) (by repeat (first | exact Below.refl _ _ | (apply bal)))
end Go.Proofs.Ytbdafliclhenlaa
