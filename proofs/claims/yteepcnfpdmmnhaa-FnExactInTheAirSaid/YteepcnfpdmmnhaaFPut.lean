/-
  FPut: a number put to its place among rising ones: spec.l00Put.
-/
import Derived.Test.YteepcnfpdmmnhaaFAsc
import Derived.Test.YteepcnfpdmmnhaaTInt64S
namespace Go.Proofs.Yteepcnfpdmmnhaa
open Go.RowKit
set_option linter.unusedVariables false
attribute [local go_sem ↓] Go.wp_at_zero Go.wp_at_succ
set_option linter.unusedSimpArgs false
def insI : List Int → Int → List Int
  | [], n => [n]
  | y :: ys, n => if y < n then y :: insI ys n else if y = n then y :: ys else n :: y :: ys
theorem insI_len : ∀ (xs : List Int) (n : Int), (insI xs n).length ≤ xs.length + 1
  | [], n => by simp [insI]
  | y :: ys, n => by
    unfold insI
    split
    · have := insI_len ys n; simp only [List.length_cons]; omega
    · split <;> simp
theorem insI_low : ∀ (xs ys : List Int) (n : Int), (∀ x ∈ xs, x < n) → insI (xs ++ ys) n = xs ++ insI ys n
  | [], ys, n, _ => rfl
  | x :: xs, ys, n, h => by
    rw [List.cons_append, insI, if_pos (h x (by simp)), insI_low xs ys n (fun y hy => h y (List.mem_cons_of_mem _ hy)), List.cons_append]
theorem insI_high (ys : List Int) (n : Int) (h : ∀ y ∈ ys, n < y) : insI ys n = n :: ys := by
  cases ys with
  | nil => rfl
  | cons y ys =>
    have := h y (by simp)
    rw [insI, if_neg (by omega), if_neg (by omega)]
theorem range_cutM (m c : Nat) (hc : c < m) : List.range m = List.range c ++ c :: List.range' (c + 1) (m - 1 - c) := by
  rw [List.range_eq_range', List.range_eq_range', show m = c + (m - c) by omega, ← List.range'_append_1, show m - c = (m - 1 - c) + 1 by omega, List.range'_succ]
  simp
theorem ascN_ins (f : Nat → Bool) (m c : Nat) (hc : c < m) : insI (ascN f m) (c : Int) = ascN (fun j => f j || c == j) m := by
  unfold ascN
  have hlo : (List.range c).filter (fun j => f j || c == j) = (List.range c).filter f := List.filter_congr (fun j hj => by
    have := List.mem_range.1 hj
    have : (c == j) = false := by rw [beq_eq_false_iff_ne]; omega
    rw [this, Bool.or_false])
  have hhi : (List.range' (c + 1) (m - 1 - c)).filter (fun j => f j || c == j) = (List.range' (c + 1) (m - 1 - c)).filter f := List.filter_congr (fun j hj => by
    have := (List.mem_range'_1.1 hj).1
    have : (c == j) = false := by rw [beq_eq_false_iff_ne]; omega
    rw [this, Bool.or_false])
  have h1 : ∀ x ∈ ((List.range c).filter f).map (fun n : Nat => (n : Int)), x < (c : Int) := by
    intro x hx
    obtain ⟨j, hj, rfl⟩ := List.mem_map.1 hx
    have := List.mem_range.1 (List.mem_filter.1 hj).1
    omega
  have h2 : ∀ y ∈ ((List.range' (c + 1) (m - 1 - c)).filter f).map (fun n : Nat => (n : Int)), (c : Int) < y := by
    intro x hx
    obtain ⟨j, hj, rfl⟩ := List.mem_map.1 hx
    have := (List.mem_range'_1.1 (List.mem_filter.1 hj).1).1
    omega
  rw [range_cutM m c hc, List.filter_append, List.filter_append, hlo, List.map_append, List.map_append, insI_low _ _ _ h1, List.filter_cons, List.filter_cons, hhi]
  have hself : (f c || c == c) = true := by simp
  rw [if_pos hself]
  by_cases hf : f c = true
  · rw [if_pos hf, List.map_cons, insI, if_neg (by omega), if_pos rfl]
  · rw [if_neg hf, insI_high _ _ h2, List.map_cons]
theorem ascN_congr {f g : Nat → Bool} (m : Nat) (h : ∀ j, j < m → f j = g j) : ascN f m = ascN g m := by
  unfold ascN
  rw [List.filter_congr (fun j hj => h j (List.mem_range.1 hj))]
theorem ascN_none (m : Nat) : ascN (fun _ => false) m = [] := by unfold ascN; rw [List.filter_eq_nil_iff.2 (fun _ _ => by simp)]; rfl
def putR (xs : List Int) (n : Int) (i : Nat) (out : List Int) (done : Bool) : List Int := if done = true then out ++ xs.drop i else out ++ insI (xs.drop i) n
theorem putR_done (xs : List Int) (n : Int) (i : Nat) (h : i < xs.length) (out : List Int) : putR xs n i out true = putR xs n (i + 1) (out ++ [xs[i]]) true := by
  unfold putR
  rw [if_pos rfl, if_pos rfl, List.drop_eq_getElem_cons h]; simp
theorem putR_low (xs : List Int) (n : Int) (i : Nat) (h : i < xs.length) (out : List Int) (hl : xs[i] < n) : putR xs n i out false = putR xs n (i + 1) (out ++ [xs[i]]) false := by
  unfold putR
  rw [if_neg (by simp), if_neg (by simp), List.drop_eq_getElem_cons h, insI, if_pos hl]; simp
theorem putR_same (xs : List Int) (n : Int) (i : Nat) (h : i < xs.length) (out : List Int) (hl : xs[i] = n) : putR xs n i out false = putR xs n (i + 1) (out ++ [xs[i]]) true := by
  unfold putR
  rw [if_neg (by simp), if_pos rfl, List.drop_eq_getElem_cons h, insI, if_neg (by omega), if_pos hl]; simp
theorem putR_high (xs : List Int) (n : Int) (i : Nat) (h : i < xs.length) (out : List Int) (hl : n < xs[i]) : putR xs n i out false = putR xs n (i + 1) ((out ++ [n]) ++ [xs[i]]) true := by
  unfold putR
  rw [if_neg (by simp), if_pos rfl, List.drop_eq_getElem_cons h, insI, if_neg (by omega), if_neg (by omega)]; simp
set_option maxHeartbeats 3200000 in
set_option maxRecDepth 10000 in
theorem l00Put_any (A : Option Addr) (c : Nat) (xs : List Int) (hx : xs.length ≤ 1000000) (n : Int) (w : World) (rx : Row w A encInt 1 xs) :
    Calls Try.prog 69 #[.slice A xs.length c, .int .i64 n] w fun e w' => ∃ v, e = .returned v ∧ Own w' w.heap.size 2 encInt 1 v (insI xs n) ∧ Below w.heap.size w w' := by
  obtain ⟨i0, hi0, hz, hsz, hby⟩ := info_parts info_Int64S
  obtain ⟨R, hR⟩ : ∃ R, insI xs n = R := ⟨_, rfl⟩
  rw [hR]
  have HR := Lib.hid hR
  clear hR
  have o1 := Own.lit0 (e := encInt) (s := 1) w (fun _ => rfl) w.heap.size 2 (Nat.le_refl _)
  have hBl : Below w.heap.size w (w.alloc (.cells #[] 2)) := bal (Below.refl _ _) _
  go_enter Try.func69, Try.ntmps69
  go_wp2_with fail
  go_loopg [5, 6, 7] xs.length (fun g vs ds is wr => ∃ (i : Nat) (out : List Int) (d : Bool), i ≤ xs.length ∧ g = xs.length - i ∧ out.length ≤ 2 * i ∧ putR xs n i out d = R ∧ Own wr w.heap.size 2 encInt 1 vs out ∧ Below w.heap.size w wr ∧ ds = .bool d ∧ is = .int .i64 i)
  case atStart => exact ⟨0, [], false, Nat.zero_le _, rfl, by simp, HR.out, o1, hBl, rfl, rfl⟩
  case round =>
    obtain ⟨i, out, d, hii, hg, hol, hgo, hown, hbw, rfl, rfl⟩ := hrel
    have HG := Lib.hid hg
    clear hg
    by_cases hlt : i < xs.length
    · obtain ⟨b, off, hA, hb, c0⟩ := (rx.below hbw).at1 (f := fun x : Int => .int .i64 x) (k := i) hlt
      subst hA
      have i1 : (0 : Int) ≤ (i : Int) := by omega
      have i2 : (i : Int) < (xs.length : Int) := by omega
      cases d with
      | true =>
        rw [putR_done xs n i hlt] at hgo
        have HF := Lib.hid hgo
        clear hgo
        have o2 := hown.below (bal (Below.refl _ _) (.cells #[.int .i64 xs[i]] 2))
        have hB2 := bal hbw (.cells #[.int .i64 xs[i]] 2)
        go_wp2_with (at_builtin; refine app_own rfl _ _ 26 rfl w.heap.size 2 i0 _ 1 8 Try.underlying26 hi0 hz hsz hby rfl (by decide) _ out rfl o2 ⟨_, 0, none⟩ 1 (xs[i] : Int) rfl (cell_one_new _ _ _) (by simp [Value.oneCell']) (by unfold maxLen; omega) (by omega) hB2.size ?_; intro v2 w2 hown2 hg2)
        go_roundg (xs.length - (i + 1))
        case measure => rw [HG.out]; omega
        case rel =>
          have hb7 := below_own (B := w.heap.size) o2 hg2 (Nat.le_refl _) hB2.size
          exact ⟨i + 1, out ++ [xs[i]], true, by omega, rfl, by simp; omega, HF.out, hown2, hB2.trans hb7, rfl, by go_num⟩
      | false =>
        rcases Int.lt_trichotomy xs[i] n with h1 | h1 | h1
        · rw [putR_low xs n i hlt out h1] at hgo
          have HF := Lib.hid hgo
          have t1 : decide (n ≤ xs[i]) = false := decide_eq_false (by omega)
          clear hgo h1
          have o2 := hown.below (bal (Below.refl _ _) (.cells #[.int .i64 xs[i]] 2))
          have hB2 := bal hbw (.cells #[.int .i64 xs[i]] 2)
          go_wp2_with (at_builtin; refine app_own rfl _ _ 26 rfl w.heap.size 2 i0 _ 1 8 Try.underlying26 hi0 hz hsz hby rfl (by decide) _ out rfl o2 ⟨_, 0, none⟩ 1 (xs[i] : Int) rfl (cell_one_new _ _ _) (by simp [Value.oneCell']) (by unfold maxLen; omega) (by omega) hB2.size ?_; intro v2 w2 hown2 hg2)
          go_roundg (xs.length - (i + 1))
          case measure => rw [HG.out]; omega
          case rel =>
            have hb7 := below_own (B := w.heap.size) o2 hg2 (Nat.le_refl _) hB2.size
            exact ⟨i + 1, out ++ [xs[i]], false, by omega, rfl, by simp; omega, HF.out, hown2, hB2.trans hb7, rfl, by go_num⟩
        · rw [putR_same xs n i hlt out h1] at hgo
          have HF := Lib.hid hgo
          have t1 : decide (n ≤ xs[i]) = true := decide_eq_true (by omega)
          have t2 : decide (n < xs[i]) = false := decide_eq_false (by omega)
          clear hgo h1
          have o2 := hown.below (bal (Below.refl _ _) (.cells #[.int .i64 xs[i]] 2))
          have hB2 := bal hbw (.cells #[.int .i64 xs[i]] 2)
          go_wp2_with (at_builtin; refine app_own rfl _ _ 26 rfl w.heap.size 2 i0 _ 1 8 Try.underlying26 hi0 hz hsz hby rfl (by decide) _ out rfl o2 ⟨_, 0, none⟩ 1 (xs[i] : Int) rfl (cell_one_new _ _ _) (by simp [Value.oneCell']) (by unfold maxLen; omega) (by omega) hB2.size ?_; intro v2 w2 hown2 hg2)
          go_roundg (xs.length - (i + 1))
          case measure => rw [HG.out]; omega
          case rel =>
            have hb7 := below_own (B := w.heap.size) o2 hg2 (Nat.le_refl _) hB2.size
            exact ⟨i + 1, out ++ [xs[i]], true, by omega, rfl, by simp; omega, HF.out, hown2, hB2.trans hb7, rfl, by go_num⟩
        · rw [putR_high xs n i hlt out h1] at hgo
          have HF := Lib.hid hgo
          have t1 : decide (n ≤ xs[i]) = true := decide_eq_true (by omega)
          have t2 : decide (n < xs[i]) = true := decide_eq_true (by omega)
          clear hgo h1
          have o2 := hown.below (bal (Below.refl _ _) (.cells #[.int .i64 n] 2))
          have hB2 := bal hbw (.cells #[.int .i64 n] 2)
          have hol1 : (out ++ [n]).length ≤ 2 * i + 1 := by simp; omega
          go_wp2_with (first | (at_builtin; refine app_own rfl _ _ 26 rfl w.heap.size 2 i0 _ 1 8 Try.underlying26 hi0 hz hsz hby rfl (by decide) _ (out ++ [n]) rfl o4 ⟨_, 0, none⟩ 1 (xs[i] : Int) rfl (cell_one_new _ _ _) (by simp [Value.oneCell']) (by unfold maxLen; omega) (by omega) hB4.size ?_; intro v4 w4 hown4 hg4) | (at_builtin; refine app_own rfl _ _ 26 rfl w.heap.size 2 i0 _ 1 8 Try.underlying26 hi0 hz hsz hby rfl (by decide) _ out rfl o2 ⟨_, 0, none⟩ 1 (n : Int) rfl (cell_one_new _ _ _) (by simp [Value.oneCell']) (by unfold maxLen; omega) (by omega) hB2.size ?_; intro v2 w2 hown2 hg2; have hb7 := below_own (B := w.heap.size) o2 hg2 (Nat.le_refl _) hB2.size; have hB3 := hB2.trans hb7; have c9 := rx.below hB3; obtain ⟨b9, off9, hA9, hb9, c0⟩ := c9.at1 (f := fun x : Int => .int .i64 x) (k := i) hlt; simp only [Option.some.injEq, Addr.mk.injEq, and_true] at hA9; obtain ⟨rfl, rfl⟩ := hA9; have o4 := hown2.below (bal (Below.refl _ _) (.cells #[.int .i64 xs[i]] 2)); have hB4 := bal hB3 (.cells #[.int .i64 xs[i]] 2)))
          go_roundg (xs.length - (i + 1))
          case measure => rw [HG.out]; omega
          case rel =>
            have hb8 := below_own (B := w.heap.size) o4 hg4 (Nat.le_refl _) hB4.size
            exact ⟨i + 1, _, true, by omega, rfl, by simp; omega, HF.out, hown4, hB4.trans hb8, rfl, by go_num⟩
    · have hil : i = xs.length := by omega
      unfold putR at hgo
      rw [List.drop_of_length_le (by omega)] at hgo
      cases d with
      | true =>
        rw [if_pos rfl, List.append_nil] at hgo
        subst hgo
        go_wp2_with fail
        go_ret
        exact ⟨_, rfl, hown, hbw⟩
      | false =>
        rw [if_neg (by simp)] at hgo
        have HF := Lib.hid (show out ++ [n] = R from hgo)
        have o2 := hown.below (bal (Below.refl _ _) (.cells #[.int .i64 n] 2))
        have hB2 := bal hbw (.cells #[.int .i64 n] 2)
        clear hgo
        go_wp2_with (at_builtin; refine app_own rfl _ _ 26 rfl w.heap.size 2 i0 _ 1 8 Try.underlying26 hi0 hz hsz hby rfl (by decide) _ out rfl o2 ⟨_, 0, none⟩ 1 (n : Int) rfl (cell_one_new _ _ _) (by simp [Value.oneCell']) (by unfold maxLen; omega) (by omega) hB2.size ?_; intro v2 w2 hown2 hg2)
        go_ret
        exact ⟨_, rfl, by rw [← HF.out]; exact hown2, hB2.trans (below_own (B := w.heap.size) o2 hg2 (Nat.le_refl _) hB2.size)⟩
end Go.Proofs.Yteepcnfpdmmnhaa
