/-
  TInt64S: contracts of toInt64S, szInt64S, eqInt64S. Printed by wip/gen_lists.py.
-/
import Derived.Test.YteepcnfpdmmnhaaData
namespace Go.Proofs.Yteepcnfpdmmnhaa
open Go.RowKit
set_option linter.unusedVariables false
attribute [local go_sem ↓] Go.wp_at_zero Go.wp_at_succ
set_option maxHeartbeats 400000 in
theorem szInt64S_any (A : Option Addr) (c : Nat) (xs : List Int) (l : Int) (hn : xs.length ≤ maxLen) (h0 : 0 ≤ l) (h1 : l ≤ 1048576) (w : World) :
    Calls Try.prog 104 #[.slice A xs.length c, .int .i64 l] w fun e w' => ∃ r : Int, e = .returned (.int .i64 r) ∧ (0 ≤ r → (xs.length : Int) ≤ l ∧ r ≤ l) ∧ Below w.heap.size w w' := by
  unfold maxLen at hn
  go_enter Try.func104, Try.ntmps104
  go_wp2
  all_goals go_ret
  all_goals exact ⟨_, rfl, by omega, Below.refl _ _⟩
theorem info_Int64S : (Try.prog.info? 2).map (fun i => (i.zero, i.size, i.bytes)) = some (some (.int .i64 0), 1, 8) := by kernel_rfl
set_option maxHeartbeats 800000 in
theorem toInt64S_any (A : Option Addr) (c : Nat) (xs : List Int) (hx : xs.length ≤ 1048576) (w : World) (rx : Row w A encInt 1 xs) :
    Calls Try.prog 108 #[.slice A xs.length c] w fun e w' => ∃ v, e = .returned v ∧ Own w' w.heap.size 2 encInt 1 v xs ∧ Below w.heap.size w w' := by
  obtain ⟨i0, hi, hz, hsz, hby⟩ := info_parts info_Int64S
  go_enter Try.func108, Try.ntmps108
  have hmk := fun W => run_make_rowN (P := Try.prog) 26 2 i0 _ Try.underlying26 hi hz .i64 .i64 xs.length xs.length (Nat.le_refl _) (by rw [hby]; omega) (by omega) W
  rw [hsz] at hmk
  go_wp2
  go_loopw [4] (fun i wr => ∃ (k : Nat) (ys : List Int), k ≤ xs.length ∧ ys.length = xs.length ∧ ys.take k = xs.take k ∧ Own wr w.heap.size 2 encInt 1 (.slice (some ⟨w.heap.size, 0, none⟩) xs.length xs.length) ys ∧ Below w.heap.size w wr ∧ i = .int .i64 k) (fun i _ => xs.length - (intOf i).toNat)
  case atStart =>
    have hm := Own.made (e := encInt) w (fun _ => rfl) w.heap.size 2 (0) xs.length (Nat.le_refl _) (by unfold maxLen; omega)
    exact ⟨0, List.replicate xs.length (0), Nat.zero_le _, by simp, by simp, by simpa using hm, bal (Below.refl _ _) _, rfl⟩
  case round =>
    obtain ⟨k, ys, hk, hyl, htk, hown, hbw, rfl⟩ := hrel
    have HY := Lib.hid hyl
    have HT := Lib.hid htk
    clear hyl htk
    by_cases hlt : k < xs.length
    · obtain ⟨b, off, rfl, hb, c0⟩ := (rx.below hbw).at1 (f := fun x : Int => .int .i64 x) hlt
      have hky : k < ys.length := by rw [HY.out]; exact hlt
      have d0 : wr.cell? ⟨w.heap.size, k, none⟩ = some (.int .i64 ys[k]) := by have := hown.cell (j := 0) hky rfl; simpa using this
      have z0 := hown.frozen k
      go_wp2
      go_roundw
      case rel => exact ⟨k + 1, ys.set k xs[k], by omega, by rw [List.length_set]; exact HY.out, take_set_succ HY.out HT.out hlt, hown.store1 (f := fun x : Int => .int .i64 x) hky xs[k], hbw.setCell (Nat.le_refl _) _, by go_num⟩
      case measure => simp [intOf]; omega
    · go_wp2
      go_ret
      have hk2 : k = xs.length := by omega
      have hl2 := HY.out
      have ht2 := HT.out
      rw [List.take_of_length_le (by omega), List.take_of_length_le (by omega)] at ht2
      subst ht2
      exact ⟨_, rfl, hown, hbw⟩
set_option maxHeartbeats 800000 in
theorem eqInt64S_any (A C : Option Addr) (c d : Nat) (xs ys : List Int) (hx : xs.length ≤ 1099511627776) (hy : ys.length ≤ 1099511627776) (w : World) (rx : Row w A encInt 1 xs) (ry : Row w C encInt 1 ys) :
    Calls Try.prog 18 #[.slice A xs.length c, .slice C ys.length d] w fun e w' => ∃ b : Bool, e = .returned (.bool b) ∧ (b = true ↔ xs = ys) ∧ Below w.heap.size w w' := by
  by_cases hl : xs.length = ys.length
  · have hl1 : xs.length ≤ ys.length := by omega
    have hl2 : ys.length ≤ xs.length := by omega
    have ht : ((xs.length : Int) != (ys.length : Int)) = false := by simp [hl]
    clear hl
    go_enter Try.func18, Try.ntmps18
    go_wp2
    go_loopw [5] (fun i wr => ∃ k : Nat, k ≤ xs.length ∧ xs.take k = ys.take k ∧ Below w.heap.size w wr ∧ i = .int .i64 k) (fun i _ => xs.length - (intOf i).toNat)
    case atStart => exact ⟨0, Nat.zero_le _, rfl, Below.refl _ _, rfl⟩
    case round =>
      obtain ⟨k, hk, htk, hbw, rfl⟩ := hrel
      have HT := Lib.hid htk
      clear htk
      by_cases hlt : k < xs.length
      · obtain ⟨b, off, rfl, hb, c0⟩ := (rx.below hbw).at1 (f := fun x : Int => .int .i64 x) hlt
        have hlt' : k < ys.length := by omega
        obtain ⟨b', off', rfl, hb', c0'⟩ := (ry.below hbw).at1 (f := fun x : Int => .int .i64 x) hlt'
        have i1 : (0 : Int) ≤ (k : Int) := by omega
        have i2 : (k : Int) < (xs.length : Int) := by omega
        have i3 : (k : Int) < (ys.length : Int) := by omega
        by_cases he : xs[k] = ys[k]
        · have t1 : ((xs[k] : Int) != ys[k]) = false := by simp [he]
          have HE := Lib.hid he
          clear he
          go_wp2
          go_quiet (fail)
          go_wp2
          go_roundw
          case rel =>
            refine ⟨k + 1, by omega, ?_, bdrewN hbw _, by go_num⟩
            rw [List.take_succ_eq_append_getElem hlt, List.take_succ_eq_append_getElem hlt', HT.out, HE.out]
          case measure => simp [intOf]; omega
        · have t1 : ((xs[k] : Int) != ys[k]) = true := by rw [bne_iff_ne]; exact he
          have HE := Lib.hid he
          clear he
          go_wp2
          go_quiet (fail)
          go_wp2
          go_ret
          exact ⟨false, rfl, nott fun h => HE.out (by subst h; rfl), bdrewN hbw _⟩
      · go_wp2
        go_ret
        have htk := HT.out
        rw [List.take_of_length_le (by omega), List.take_of_length_le (by omega)] at htk
        exact ⟨true, rfl, yest htk, hbw⟩
  · have ht : ((xs.length : Int) != (ys.length : Int)) = true := by simp [bne_iff_ne]; omega
    go_enter Try.func18, Try.ntmps18
    go_wp2
    go_ret
    exact ⟨false, rfl, nott fun h => hl (by rw [h]), Below.refl _ _⟩
end Go.Proofs.Yteepcnfpdmmnhaa
