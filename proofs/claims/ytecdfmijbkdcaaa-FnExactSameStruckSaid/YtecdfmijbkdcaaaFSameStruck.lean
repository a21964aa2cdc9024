/-
  FSame: spec.SamePresses and impl.SamePresses (and their like): equality of two lists of structs, read cell by cell.
-/
import Derived.Test.YtecdfmijbkdcaaaTStruck
namespace Go.Proofs.Ytecdfmijbkdcaaa
open Go.RowKit
set_option linter.unusedVariables false
attribute [local go_sem ↓] Go.wp_at_zero Go.wp_at_succ
set_option maxHeartbeats 800000 in
theorem spec_SameStruck_any (A : Option Addr) (c : Nat) (xs : List TStruck) (hx : xs.length ≤ 1048576) (hk : ∀ x ∈ xs, KStruck x) (C : Option Addr) (d : Nat) (ys : List TStruck) (hy : ys.length ≤ 1048576) (hm : ∀ x ∈ ys, KStruck x) (w : World) (rx : Row w A encStruck 2 xs) (ry : Row w C encStruck 2 ys) :
    Calls Try.prog 16 #[.slice A xs.length c, .slice C ys.length d] w fun e w' => ∃ b : Bool, e = .returned (.bool b) ∧ (b = true ↔ xs = ys) ∧ Below w.heap.size w w' := by
  by_cases hl : xs.length = ys.length
  · have hl1 : xs.length ≤ ys.length := by omega
    have hl2 : ys.length ≤ xs.length := by omega
    have ht : ((xs.length : Int) != (ys.length : Int)) = false := by simp [hl]
    clear hl
    go_enter Try.func16, Try.ntmps16
    go_wp2
    go_loopw [5] (fun i wr => ∃ k : Nat, k ≤ xs.length ∧ xs.take k = ys.take k ∧ Below w.heap.size w wr ∧ i = .int .i64 k) (fun i _ => xs.length - (intOf i).toNat)
    case atStart => exact ⟨0, Nat.zero_le _, rfl, Below.refl _ _, rfl⟩
    case round =>
      obtain ⟨k, hk, htk, hbw, rfl⟩ := hrel
      have HT := Lib.hid htk
      clear htk
      by_cases hlt : k < xs.length
      · obtain ⟨b, off, rfl, hb, c0, c1⟩ := (rx.below hbw).at2 (f := fun x : TStruck => .int .i64 x.1) (g := fun x : TStruck => .string x.2) hlt
        have hlt' : k < ys.length := by omega
        obtain ⟨b', off', rfl, hb', c0', c1'⟩ := (ry.below hbw).at2 (f := fun x : TStruck => .int .i64 x.1) (g := fun x : TStruck => .string x.2) hlt'
        have i1 : (0 : Int) ≤ (k : Int) := by omega
        have i2 : (k : Int) < (xs.length : Int) := by omega
        have i3 : (k : Int) < (ys.length : Int) := by omega
        have hg := guardStruck
        by_cases he : xs[k] = ys[k]
        · have hq : ∀ W, (binOp .neq 106 (.agg #[.int .i64 xs[k].1, .string xs[k].2]) (.agg #[.int .i64 ys[k].1, .string ys[k].2])).run Try.prog W = .ok (.bool false) W := fun W => by rw [neStruck, he]; simp
          have HE := Lib.hid he
          clear he
          go_wp2
          go_quiet (fail)
          go_wp2
          go_roundw
          case rel =>
            refine ⟨k + 1, by omega, ?_, bdrewN hbw _, by go_num⟩
            rw [List.take_succ_eq_append_getElem hlt, List.take_succ_eq_append_getElem hlt', HT.out, HE.out]
          case measure => simp [intOf]; omega
        · have hq : ∀ W, (binOp .neq 106 (.agg #[.int .i64 xs[k].1, .string xs[k].2]) (.agg #[.int .i64 ys[k].1, .string ys[k].2])).run Try.prog W = .ok (.bool true) W := fun W => by rw [neStruck]; simp [he]
          have HE := Lib.hid he
          clear he
          go_wp2
          go_quiet (fail)
          go_wp2
          go_ret
          refine ⟨false, rfl, ?_, bdrewN hbw _⟩
          constructor
          · intro h; cases h
          · intro h; exact absurd (by subst h; rfl) HE.out
      · go_wp2
        go_ret
        have htk := HT.out
        rw [List.take_of_length_le (by omega), List.take_of_length_le (by omega)] at htk
        exact ⟨true, rfl, by simp [htk], hbw⟩
  · have ht : ((xs.length : Int) != (ys.length : Int)) = true := by simp [bne_iff_ne]; omega
    go_enter Try.func16, Try.ntmps16
    go_wp2
    go_ret
    refine ⟨false, rfl, ?_, Below.refl _ _⟩
    constructor
    · intro h; cases h
    · intro h; exact absurd (by rw [h]) hl
set_option maxHeartbeats 800000 in
theorem impl_SameStruck_any (A : Option Addr) (c : Nat) (xs : List TStruck) (hx : xs.length ≤ 1048576) (hk : ∀ x ∈ xs, KStruck x) (C : Option Addr) (d : Nat) (ys : List TStruck) (hy : ys.length ≤ 1048576) (hm : ∀ x ∈ ys, KStruck x) (w : World) (rx : Row w A encStruck 2 xs) (ry : Row w C encStruck 2 ys) :
    Calls Try.prog 18 #[.slice A xs.length c, .slice C ys.length d] w fun e w' => ∃ b : Bool, e = .returned (.bool b) ∧ (b = true ↔ xs = ys) ∧ Below w.heap.size w w' := by
  by_cases hl : xs.length = ys.length
  · have hl1 : xs.length ≤ ys.length := by omega
    have hl2 : ys.length ≤ xs.length := by omega
    have ht : ((xs.length : Int) != (ys.length : Int)) = false := by simp [hl]
    clear hl
    go_enter Try.func18, Try.ntmps18
    go_wp2
    go_loopw [13] (fun i wr => ∃ k : Nat, k ≤ xs.length ∧ xs.take k = ys.take k ∧ Below w.heap.size w wr ∧ i = .int .i64 k) (fun i _ => xs.length - (intOf i).toNat)
    case atStart => exact ⟨0, Nat.zero_le _, rfl, Below.refl _ _, rfl⟩
    case round =>
      obtain ⟨k, hk, htk, hbw, rfl⟩ := hrel
      have HT := Lib.hid htk
      clear htk
      by_cases hlt : k < xs.length
      · obtain ⟨b, off, rfl, hb, c0, c1⟩ := (rx.below hbw).at2 (f := fun x : TStruck => .int .i64 x.1) (g := fun x : TStruck => .string x.2) hlt
        have hlt' : k < ys.length := by omega
        obtain ⟨b', off', rfl, hb', c0', c1'⟩ := (ry.below hbw).at2 (f := fun x : TStruck => .int .i64 x.1) (g := fun x : TStruck => .string x.2) hlt'
        have i1 : (0 : Int) ≤ (k : Int) := by omega
        have i2 : (k : Int) < (xs.length : Int) := by omega
        have i3 : (k : Int) < (ys.length : Int) := by omega
        have hg := guardStruck
        by_cases he : xs[k] = ys[k]
        · have hq : ∀ W, (binOp .neq 106 (.agg #[.int .i64 xs[k].1, .string xs[k].2]) (.agg #[.int .i64 ys[k].1, .string ys[k].2])).run Try.prog W = .ok (.bool false) W := fun W => by rw [neStruck, he]; simp
          have HE := Lib.hid he
          clear he
          go_wp2
          go_quiet (fail)
          go_wp2
          go_roundw
          case rel =>
            refine ⟨k + 1, by omega, ?_, bdrewN hbw _, by go_num⟩
            rw [List.take_succ_eq_append_getElem hlt, List.take_succ_eq_append_getElem hlt', HT.out, HE.out]
          case measure => simp [intOf]; omega
        · have hq : ∀ W, (binOp .neq 106 (.agg #[.int .i64 xs[k].1, .string xs[k].2]) (.agg #[.int .i64 ys[k].1, .string ys[k].2])).run Try.prog W = .ok (.bool true) W := fun W => by rw [neStruck]; simp [he]
          have HE := Lib.hid he
          clear he
          go_wp2
          go_quiet (fail)
          go_wp2
          go_ret
          refine ⟨false, rfl, ?_, bdrewN hbw _⟩
          constructor
          · intro h; cases h
          · intro h; exact absurd (by subst h; rfl) HE.out
      · go_wp2
        go_ret
        have htk := HT.out
        rw [List.take_of_length_le (by omega), List.take_of_length_le (by omega)] at htk
        exact ⟨true, rfl, by simp [htk], hbw⟩
  · have ht : ((xs.length : Int) != (ys.length : Int)) = true := by simp [bne_iff_ne]; omega
    go_enter Try.func18, Try.ntmps18
    go_wp2
    go_ret
    refine ⟨false, rfl, ?_, Below.refl _ _⟩
    constructor
    · intro h; cases h
    · intro h; exact absurd (by rw [h]) hl
end Go.Proofs.Ytecdfmijbkdcaaa
