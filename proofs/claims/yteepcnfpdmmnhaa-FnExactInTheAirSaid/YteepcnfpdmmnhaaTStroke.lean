/-
  TStroke: contracts of the laws helpers on Stroke: to, sz, eq and their likes on slices. Printed by wip/gen_types.py.
-/
import Derived.Test.YteepcnfpdmmnhaaData
namespace Go.Proofs.Yteepcnfpdmmnhaa
open Go.RowKit
set_option linter.unusedVariables false
attribute [local go_sem ↓] Go.wp_at_zero Go.wp_at_succ
set_option maxHeartbeats 400000 in
theorem toStroke_any (x : TStroke) (w : World) :
    Calls Try.prog 70 #[.agg #[.int .i64 x.1, .int .i64 x.2]] w fun e w' => e = .returned (.agg #[.int .i64 x.1, .int .i64 x.2]) ∧ Below w.heap.size w w' := by
  go_enter Try.func70, Try.ntmps70
  go_wp2
  exact bodyPost_ret (v := .agg #[.int .i64 x.1, .int .i64 x.2]) (by simp [results, Try.results70, go_sem]) rfl ⟨rfl, by repeat (first | exact Below.refl _ _ | (apply bal))⟩
set_option maxHeartbeats 400000 in
theorem eqStroke_any (x y : TStroke) (w : World) :
    Calls Try.prog 75 #[.agg #[.int .i64 x.1, .int .i64 x.2], .agg #[.int .i64 y.1, .int .i64 y.2]] w fun e w' => ∃ b : Bool, e = .returned (.bool b) ∧ (b = true ↔ x = y) ∧ Below w.heap.size w w' := by
  obtain ⟨x0, x1⟩ := x
  obtain ⟨y0, y1⟩ := y
  go_enter Try.func75, Try.ntmps75
  go_wp2
  all_goals go_ret
  all_goals exact ⟨_, rfl, by simp_all, by repeat (first | exact Below.refl _ _ | (apply bal))⟩
set_option maxHeartbeats 400000 in
theorem szStrokeS_any (A : Option Addr) (c : Nat) (xs : List TStroke) (l : Int) (hn : xs.length ≤ maxLen) (h0 : 0 ≤ l) (h1 : l ≤ 1048576) (w : World) :
    Calls Try.prog 13 #[.slice A xs.length c, .int .i64 l] w fun e w' => ∃ r : Int, e = .returned (.int .i64 r) ∧ (0 ≤ r → (xs.length : Int) ≤ l ∧ r ≤ l) ∧ Below w.heap.size w w' := by
  unfold maxLen at hn
  go_enter Try.func13, Try.ntmps13
  go_wp2
  all_goals go_ret
  all_goals exact ⟨_, rfl, by omega, Below.refl _ _⟩
theorem infoStroke : (Try.prog.info? 101).map (fun i => (i.zero, i.size, i.bytes)) = some (some (.agg #[.int .i64 0, .int .i64 0]), 2, 16) := by kernel_rfl
set_option maxHeartbeats 800000 in
theorem toStrokeS_any (A : Option Addr) (c : Nat) (xs : List TStroke) (hx : xs.length ≤ 1048576) (w : World) (rx : Row w A encStroke 2 xs) :
    Calls Try.prog 16 #[.slice A xs.length c] w fun e w' => ∃ v, e = .returned v ∧ Own w' w.heap.size 101 encStroke 2 v xs ∧ Below w.heap.size w w' := by
  obtain ⟨i0, hi, hz, hsz, hby⟩ := info_parts infoStroke
  go_enter Try.func16, Try.ntmps16
  have hmk := fun W => run_make_rowN (P := Try.prog) 31 101 i0 _ Try.underlying31 hi hz .i64 .i64 xs.length xs.length (Nat.le_refl _) (by rw [hby]; omega) (by omega) W
  rw [hsz] at hmk
  go_wp2
  go_loopw [4] (fun i wr => ∃ (k : Nat) (ys : List TStroke), k ≤ xs.length ∧ ys.length = xs.length ∧ ys.take k = xs.take k ∧ Own wr w.heap.size 101 encStroke 2 (.slice (some ⟨w.heap.size, 0, none⟩) xs.length xs.length) ys ∧ Below w.heap.size w wr ∧ i = .int .i64 k) (fun i _ => xs.length - (intOf i).toNat)
  case atStart => exact ⟨0, List.replicate xs.length (0, 0), Nat.zero_le _, by simp, by simp, Own.made (e := encStroke) w (fun _ => rfl) w.heap.size _ (0, 0) xs.length (Nat.le_refl _) (by unfold maxLen; omega), bal (Below.refl _ _) _, rfl⟩
  case round =>
    obtain ⟨k, ys, hk, hyl, htk, hown, hbw, rfl⟩ := hrel
    have HY := Lib.hid hyl
    have HT := Lib.hid htk
    clear hyl htk
    by_cases hlt : k < xs.length
    · obtain ⟨b, off, rfl, hb, c0, c1⟩ := (rx.below hbw).at2 (f := fun x : TStroke => .int .i64 x.1) (g := fun x : TStroke => .int .i64 x.2) hlt
      have hky : k < ys.length := by rw [HY.out]; exact hlt
      go_wp2_with (go_at_call 70; refine (toStroke_any xs[k] _).mono ?_; rintro e w3 ⟨rfl, hb3⟩; have ho3 := hown.below hb3; have d0 : w3.cell? ⟨w.heap.size, k * 2, none⟩ = some (.int .i64 ys[k].1) := ho3.cell (j := 0) hky rfl; have z0 := ho3.frozen (k * 2); have d1 : w3.cell? ⟨w.heap.size, k * 2 + 1, none⟩ = some (.int .i64 ys[k].2) := ho3.cell (j := 1) hky rfl; have z1 := ho3.frozen (k * 2 + 1))
      go_roundw
      case rel => exact ⟨k + 1, ys.set k xs[k], by omega, by rw [List.length_set]; exact HY.out, take_set_succ HY.out HT.out hlt, ho3.store2 hky xs[k], (((hbw.trans (hb3.mono hbw.size)).setCell (Nat.le_refl _) _)).setCell (Nat.le_refl _) _, by go_num⟩
      case measure => simp [intOf]; omega
    · go_wp2
      go_ret
      have hk2 : k = xs.length := by omega
      have hl2 := HY.out
      have ht2 := HT.out
      rw [List.take_of_length_le (by omega), List.take_of_length_le (by omega)] at ht2
      subst ht2
      exact ⟨_, rfl, hown, hbw⟩
set_option maxHeartbeats 800000 in
theorem eqStrokeS_any (A C : Option Addr) (c d : Nat) (xs ys : List TStroke) (hx : xs.length ≤ 1099511627776) (hy : ys.length ≤ 1099511627776) (w : World) (rx : Row w A encStroke 2 xs) (ry : Row w C encStroke 2 ys) :
    Calls Try.prog 19 #[.slice A xs.length c, .slice C ys.length d] w fun e w' => ∃ b : Bool, e = .returned (.bool b) ∧ (b = true ↔ xs = ys) ∧ Below w.heap.size w w' := by
  by_cases hl : xs.length = ys.length
  · have hl1 : xs.length ≤ ys.length := by omega
    have hl2 : ys.length ≤ xs.length := by omega
    have ht : ((xs.length : Int) != (ys.length : Int)) = false := by simp [hl]
    clear hl
    go_enter Try.func19, Try.ntmps19
    go_wp2
    go_loopw [5] (fun i wr => ∃ k : Nat, k ≤ xs.length ∧ xs.take k = ys.take k ∧ Below w.heap.size w wr ∧ i = .int .i64 k) (fun i _ => xs.length - (intOf i).toNat)
    case atStart => exact ⟨0, Nat.zero_le _, rfl, Below.refl _ _, rfl⟩
    case round =>
      obtain ⟨k, hk, htk, hbw, rfl⟩ := hrel
      have HT := Lib.hid htk
      clear htk
      by_cases hlt : k < xs.length
      · obtain ⟨b, off, rfl, hb, c0, c1⟩ := (rx.below hbw).at2 (f := fun x : TStroke => .int .i64 x.1) (g := fun x : TStroke => .int .i64 x.2) hlt
        have hlt' : k < ys.length := by omega
        obtain ⟨b', off', rfl, hb', c0', c1'⟩ := (ry.below hbw).at2 (f := fun x : TStroke => .int .i64 x.1) (g := fun x : TStroke => .int .i64 x.2) hlt'
        have i1 : (0 : Int) ≤ (k : Int) := by omega
        have i2 : (k : Int) < (xs.length : Int) := by omega
        have i3 : (k : Int) < (ys.length : Int) := by omega
        go_wp2
        go_region_held3 (fun w' => w'.cell? ⟨b, off + k * 2, none⟩ = some (.int .i64 xs[k].1) ∧ w'.cell? ⟨b, off + k * 2 + 1, none⟩ = some (.int .i64 xs[k].2) ∧ w'.cell? ⟨b', off' + k * 2, none⟩ = some (.int .i64 ys[k].1) ∧ w'.cell? ⟨b', off' + k * 2 + 1, none⟩ = some (.int .i64 ys[k].2)) (first | exact ⟨c0, c1, c0', c1'⟩ | exact ⟨(hb3.cell (p := ⟨b, _, none⟩) hb).trans c0, (hb3.cell (p := ⟨b, _, none⟩) hb).trans c1, (hb3.cell (p := ⟨b', _, none⟩) hb').trans c0', (hb3.cell (p := ⟨b', _, none⟩) hb').trans c1'⟩) (first | (go_at_call 75; refine (eqStroke_any xs[k] ys[k] _).mono ?_; rintro e w3 ⟨b3, rfl, hb3', hb3⟩))
        have hbw3 := hbw.drew.trans (hb3.mono (B' := w.heap.size) hbw.size)
        clear c0 c1 c0' c1'
        have HB := Lib.hid hb3'
        clear hb3'
        cases b3
        · go_wp2
          go_ret
          refine ⟨false, rfl, ?_, hbw3⟩
          have hne : xs[k] ≠ ys[k] := fun h => by have := HB.out.2 h; cases this
          constructor
          · intro h; cases h
          · intro h; exact absurd (by subst h; rfl) hne
        · go_wp2
          go_roundw
          case rel =>
            refine ⟨k + 1, by omega, ?_, hbw3, by go_num⟩
            rw [List.take_succ_eq_append_getElem hlt, List.take_succ_eq_append_getElem hlt', HT.out, HB.out.1 rfl]
          case measure => simp [intOf]; omega
      · go_wp2
        go_ret
        have htk := HT.out
        rw [List.take_of_length_le (by omega), List.take_of_length_le (by omega)] at htk
        exact ⟨true, rfl, by simp [htk], hbw⟩
  · have ht : ((xs.length : Int) != (ys.length : Int)) = true := by simp [bne_iff_ne]; omega
    go_enter Try.func19, Try.ntmps19
    go_wp2
    go_ret
    refine ⟨false, rfl, ?_, Below.refl _ _⟩
    constructor
    · intro h; cases h
    · intro h; exact absurd (by rw [h]) hl
end Go.Proofs.Yteepcnfpdmmnhaa
