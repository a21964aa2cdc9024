/-
  TStruck: contracts of the laws helpers on Struck: to, sz, eq and their likes on slices. Printed by wip/gen_types.py.
-/
import Derived.Test.YteepcnfpdmmnhaaData
namespace Go.Proofs.Yteepcnfpdmmnhaa
open Go.RowKit
set_option linter.unusedVariables false
attribute [local go_sem ↓] Go.wp_at_zero Go.wp_at_succ
set_option maxHeartbeats 400000 in
theorem toStruck_any (x : TStruck) (w : World) :
    Calls Try.prog 92 #[.agg #[.int .i64 x.1, .string x.2]] w fun e w' => e = .returned (.agg #[.int .i64 x.1, .string x.2]) ∧ Below w.heap.size w w' := by
  go_enter Try.func92, Try.ntmps92
  go_wp2
  exact bodyPost_ret (v := .agg #[.int .i64 x.1, .string x.2]) (by simp [results, Try.results92, go_sem]) rfl ⟨rfl, by repeat (first | exact Below.refl _ _ | (apply bal))⟩
set_option maxHeartbeats 400000 in
theorem eqStruck_any (x y : TStruck) (w : World) :
    Calls Try.prog 94 #[.agg #[.int .i64 x.1, .string x.2], .agg #[.int .i64 y.1, .string y.2]] w fun e w' => ∃ b : Bool, e = .returned (.bool b) ∧ (b = true ↔ x = y) ∧ Below w.heap.size w w' := by
  obtain ⟨x0, x1⟩ := x
  obtain ⟨y0, y1⟩ := y
  go_enter Try.func94, Try.ntmps94
  go_wp2
  all_goals go_ret
  all_goals exact ⟨_, rfl, by simp_all [tl_eq], by repeat (first | exact Below.refl _ _ | (apply bal))⟩
theorem guardStruck : Try.prog.eqGuardType Try.prog.depth 128 = false := by kernel_rfl
theorem neStruck (x y : TStruck) (w : World) : (binOp .neq 128 (.agg #[.int .i64 x.1, .string x.2]) (.agg #[.int .i64 y.1, .string y.2])).run Try.prog w = .ok (.bool (decide (x ≠ y))) w := by
  have hS : Try.prog.underlying 128 = some (.struct (Try.prog.fieldsOf 128)) := by kernel_rfl
  have hp : Try.prog.stoodInHeld 128 = false := by kernel_rfl
  have u0 := Try.underlying2
  have u1 := Try.underlying9
  have a0 := Try.isAgg2
  have a1 := Try.isAgg9
  have z0 := Try.sizeOf2
  have z1 := Try.sizeOf9
  rw [run_neq_struct, show (10000 : Nat) = 9999 + 1 from rfl, run_equalIn_agg w 9999 _ _ _ hS hp]
  obtain ⟨x0, x1⟩ := x
  obtain ⟨y0, y1⟩ := y
  simp only [Program.fieldsOf, Try.underlying128]
  go_simp
  by_cases h1 : x0 = y0 <;> by_cases h2 : x1 = y1 <;> simp [h1, h2, tl_eq]
set_option maxHeartbeats 400000 in
theorem szStruck_any (x : TStruck) (l : Int) (hs1 : x.2.size ≤ maxLen) (h0 : 0 ≤ l) (h1 : l ≤ 1048576) (w : World) :
    Calls Try.prog 90 #[.agg #[.int .i64 x.1, .string x.2], .int .i64 l] w fun e w' => ∃ r : Int, e = .returned (.int .i64 r) ∧ (0 ≤ r → (x.2.size : Int) ≤ l ∧ r ≤ l) ∧ r ≤ l ∧ -1048576 ≤ r ∧ Below w.heap.size w w' := by
  unfold maxLen at hs1
  obtain ⟨x0, x1⟩ := x
  simp only at hs1
  go_enter Try.func90, Try.ntmps90
  go_wp2
  all_goals go_ret
  all_goals exact ⟨_, rfl, by omega, by omega, by omega, by repeat (first | exact Below.refl _ _ | (apply bal))⟩
set_option maxHeartbeats 800000 in
theorem szStruckS_any (A : Option Addr) (c : Nat) (xs : List TStruck) (l : Int) (hn : xs.length ≤ maxLen) (hxs : ∀ x ∈ xs, x.2.size ≤ maxLen) (h0 : 0 ≤ l) (h1 : l ≤ 1048576) (w : World) (rx : Row w A encStruck 2 xs) :
    Calls Try.prog 37 #[.slice A xs.length c, .int .i64 l] w fun e w' => ∃ r : Int, e = .returned (.int .i64 r) ∧ (0 ≤ r → (xs.length : Int) ≤ l ∧ r ≤ l ∧ ∀ x ∈ xs, (x.2.size : Int) ≤ l) ∧ Below w.heap.size w w' := by
  unfold maxLen at hn
  by_cases hle : (xs.length : Int) ≤ l
  · have t1 : decide (l - (xs.length : Int) < 0) = false := by simp; omega
    go_enter Try.func37, Try.ntmps37
    go_wp2
    go_loopw [1, 5] (fun m i wr => ∃ (k : Nat) (r : Int), k ≤ xs.length ∧ 0 ≤ r ∧ r ≤ l - xs.length ∧ (∀ x ∈ xs.take k, (x.2.size : Int) ≤ l) ∧ Below w.heap.size w wr ∧ m = .int .i64 r ∧ i = .int .i64 k) (fun _ i _ => xs.length - (intOf i).toNat)
    case atStart => exact ⟨0, _, Nat.zero_le _, by omega, by omega, by simp, Below.refl _ _, rfl, rfl⟩
    case round =>
      obtain ⟨k, r, hk, hr0, hr1, htk, hbw, rfl, rfl⟩ := hrel
      by_cases hlt : k < xs.length
      · obtain ⟨b, off, rfl, hb, c0, c1⟩ := (rx.below hbw).at2 (f := fun x : TStruck => .int .i64 x.1) (g := fun x : TStruck => .string x.2) hlt
        have hm := hxs _ (List.getElem_mem hlt)
        have HT := Lib.hid htk
        clear htk
        go_wp2_with (go_at_call 90; refine (szStruck_any xs[k] _ hm (by omega) (by omega) _).mono ?_; rintro e w3 ⟨r2, rfl, hq1, hq2, hq3, hb3⟩)
        · go_ret
          exact ⟨_, rfl, by omega, hbw.trans (hb3.mono hbw.size)⟩
        · go_roundw
          case rel =>
            have hq := hq1 (by omega)
            refine ⟨k + 1, r2, by omega, by omega, by omega, ?_, hbw.trans (hb3.mono hbw.size), rfl, by go_num⟩
            rw [List.take_succ_eq_append_getElem hlt]
            intro x hx
            rcases List.mem_append.1 hx with hx | hx
            · exact HT.out x hx
            · simp only [List.mem_singleton] at hx
              subst hx
              omega
          case measure => simp [intOf]; omega
      · go_wp2
        go_ret
        have hk2 : k = xs.length := by omega
        rw [List.take_of_length_le (by omega)] at htk
        exact ⟨_, rfl, fun _ => ⟨by omega, by omega, htk⟩, hbw⟩
  · have t1 : decide (l - (xs.length : Int) < 0) = true := by simp; omega
    go_enter Try.func37, Try.ntmps37
    go_wp2
    go_ret
    exact ⟨_, rfl, by omega, Below.refl _ _⟩
theorem infoStruck : (Try.prog.info? 128).map (fun i => (i.zero, i.size, i.bytes)) = some (some (.agg #[.int .i64 0, .string ByteArray.empty]), 2, 24) := by kernel_rfl
set_option maxHeartbeats 800000 in
theorem toStruckS_any (A : Option Addr) (c : Nat) (xs : List TStruck) (hx : xs.length ≤ 1048576) (w : World) (rx : Row w A encStruck 2 xs) :
    Calls Try.prog 39 #[.slice A xs.length c] w fun e w' => ∃ v, e = .returned v ∧ Own w' w.heap.size 128 encStruck 2 v xs ∧ Below w.heap.size w w' := by
  obtain ⟨i0, hi, hz, hsz, hby⟩ := info_parts infoStruck
  go_enter Try.func39, Try.ntmps39
  have hmk := fun W => run_make_rowN (P := Try.prog) 61 128 i0 _ Try.underlying61 hi hz .i64 .i64 xs.length xs.length (Nat.le_refl _) (by rw [hby]; omega) (by omega) W
  rw [hsz] at hmk
  go_wp2
  go_loopw [4] (fun i wr => ∃ (k : Nat) (ys : List TStruck), k ≤ xs.length ∧ ys.length = xs.length ∧ ys.take k = xs.take k ∧ Own wr w.heap.size 128 encStruck 2 (.slice (some ⟨w.heap.size, 0, none⟩) xs.length xs.length) ys ∧ Below w.heap.size w wr ∧ i = .int .i64 k) (fun i _ => xs.length - (intOf i).toNat)
  case atStart => exact ⟨0, List.replicate xs.length (0, ByteArray.empty), Nat.zero_le _, by simp, by simp, Own.made (e := encStruck) w (fun _ => rfl) w.heap.size _ (0, ByteArray.empty) xs.length (Nat.le_refl _) (by unfold maxLen; omega), bal (Below.refl _ _) _, rfl⟩
  case round =>
    obtain ⟨k, ys, hk, hyl, htk, hown, hbw, rfl⟩ := hrel
    have HY := Lib.hid hyl
    have HT := Lib.hid htk
    clear hyl htk
    by_cases hlt : k < xs.length
    · obtain ⟨b, off, rfl, hb, c0, c1⟩ := (rx.below hbw).at2 (f := fun x : TStruck => .int .i64 x.1) (g := fun x : TStruck => .string x.2) hlt
      have hky : k < ys.length := by rw [HY.out]; exact hlt
      go_wp2_with (go_at_call 92; refine (toStruck_any xs[k] _).mono ?_; rintro e w3 ⟨rfl, hb3⟩; have ho3 := hown.below hb3; have d0 : w3.cell? ⟨w.heap.size, k * 2, none⟩ = some (.int .i64 ys[k].1) := ho3.cell (j := 0) hky rfl; have z0 := ho3.frozen (k * 2); have d1 : w3.cell? ⟨w.heap.size, k * 2 + 1, none⟩ = some (.string ys[k].2) := ho3.cell (j := 1) hky rfl; have z1 := ho3.frozen (k * 2 + 1))
      go_roundw
      case rel => exact ⟨k + 1, ys.set k xs[k], by omega, by rw [List.length_set]; exact HY.out, take_set_succ HY.out HT.out hlt, ho3.store2 hky xs[k], (((hbw.trans (hb3.mono hbw.size)).setCell (Nat.le_refl _) _)).setCell (Nat.le_refl _) _, by go_num⟩
      case measure => simp [intOf]; omega
    · go_wp2
      go_ret
      have hk2 : k = xs.length := by omega
      have hl2 := HY.out
      have ht2 := HT.out
      rw [List.take_of_length_le (by omega), List.take_of_length_le (by omega)] at ht2
      subst ht2
      exact ⟨_, rfl, hown, hbw⟩
set_option maxHeartbeats 800000 in
theorem eqStruckS_any (A C : Option Addr) (c d : Nat) (xs ys : List TStruck) (hx : xs.length ≤ 1099511627776) (hy : ys.length ≤ 1099511627776) (w : World) (rx : Row w A encStruck 2 xs) (ry : Row w C encStruck 2 ys) :
    Calls Try.prog 41 #[.slice A xs.length c, .slice C ys.length d] w fun e w' => ∃ b : Bool, e = .returned (.bool b) ∧ (b = true ↔ xs = ys) ∧ Below w.heap.size w w' := by
  by_cases hl : xs.length = ys.length
  · have hl1 : xs.length ≤ ys.length := by omega
    have hl2 : ys.length ≤ xs.length := by omega
    have ht : ((xs.length : Int) != (ys.length : Int)) = false := by simp [hl]
    clear hl
    go_enter Try.func41, Try.ntmps41
    go_wp2
    go_loopw [5] (fun i wr => ∃ k : Nat, k ≤ xs.length ∧ xs.take k = ys.take k ∧ Below w.heap.size w wr ∧ i = .int .i64 k) (fun i _ => xs.length - (intOf i).toNat)
    case atStart => exact ⟨0, Nat.zero_le _, rfl, Below.refl _ _, rfl⟩
    case round =>
      obtain ⟨k, hk, htk, hbw, rfl⟩ := hrel
      have HT := Lib.hid htk
      clear htk
      by_cases hlt : k < xs.length
      · obtain ⟨b, off, rfl, hb, c0, c1⟩ := (rx.below hbw).at2 (f := fun x : TStruck => .int .i64 x.1) (g := fun x : TStruck => .string x.2) hlt
        have hlt' : k < ys.length := by omega
        obtain ⟨b', off', rfl, hb', c0', c1'⟩ := (ry.below hbw).at2 (f := fun x : TStruck => .int .i64 x.1) (g := fun x : TStruck => .string x.2) hlt'
        have i1 : (0 : Int) ≤ (k : Int) := by omega
        have i2 : (k : Int) < (xs.length : Int) := by omega
        have i3 : (k : Int) < (ys.length : Int) := by omega
        go_wp2
        go_region_held3 (fun w' => w'.cell? ⟨b, off + k * 2, none⟩ = some (.int .i64 xs[k].1) ∧ w'.cell? ⟨b, off + k * 2 + 1, none⟩ = some (.string xs[k].2) ∧ w'.cell? ⟨b', off' + k * 2, none⟩ = some (.int .i64 ys[k].1) ∧ w'.cell? ⟨b', off' + k * 2 + 1, none⟩ = some (.string ys[k].2)) (first | exact ⟨c0, c1, c0', c1'⟩ | exact ⟨(hb3.cell (p := ⟨b, _, none⟩) hb).trans c0, (hb3.cell (p := ⟨b, _, none⟩) hb).trans c1, (hb3.cell (p := ⟨b', _, none⟩) hb').trans c0', (hb3.cell (p := ⟨b', _, none⟩) hb').trans c1'⟩) (first | (go_at_call 94; refine (eqStruck_any xs[k] ys[k] _).mono ?_; rintro e w3 ⟨b3, rfl, hb3', hb3⟩))
        have hbw3 := hbw.drew.trans (hb3.mono (B' := w.heap.size) hbw.size)
        clear c0 c1 c0' c1'
        have HB := Lib.hid hb3'
        clear hb3'
        cases b3
        · go_wp2
          go_ret
          refine ⟨false, rfl, ?_, hbw3⟩
          have hne : xs[k] ≠ ys[k] := fun h => by have := HB.out.2 h; cases this
          constructor
          · intro h; cases h
          · intro h; exact absurd (by subst h; rfl) hne
        · go_wp2
          go_roundw
          case rel =>
            refine ⟨k + 1, by omega, ?_, hbw3, by go_num⟩
            rw [List.take_succ_eq_append_getElem hlt, List.take_succ_eq_append_getElem hlt', HT.out, HB.out.1 rfl]
          case measure => simp [intOf]; omega
      · go_wp2
        go_ret
        have htk := HT.out
        rw [List.take_of_length_le (by omega), List.take_of_length_le (by omega)] at htk
        exact ⟨true, rfl, by simp [htk], hbw⟩
  · have ht : ((xs.length : Int) != (ys.length : Int)) = true := by simp [bne_iff_ne]; omega
    go_enter Try.func41, Try.ntmps41
    go_wp2
    go_ret
    refine ⟨false, rfl, ?_, Below.refl _ _⟩
    constructor
    · intro h; cases h
    · intro h; exact absurd (by rw [h]) hl
end Go.Proofs.Yteepcnfpdmmnhaa
