/-
  TPairs: tables of numbers ([][]int64) as lists of lists: contracts of szInt64SS, toInt64SS, eqInt64SS.
-/
import Derived.Test.YteepcnfpdmmnhaaTInt64S
import Derived.Test.YteepcnfpdmmnhaaMore
namespace Go.Proofs.Yteepcnfpdmmnhaa
open Go.RowKit
set_option linter.unusedVariables false
attribute [local go_sem ↓] Go.wp_at_zero Go.wp_at_succ
abbrev xss (qs : List (Sl Int)) : List (List Int) := qs.map fun q => q.xs
/-- A slice of slices that reads as a table. -/
def RowXX (w : World) (A : Option Addr) (yss : List (List Int)) : Prop :=
  ∃ qs : List (Sl Int), xss qs = yss ∧ Row w A encSl 1 qs ∧ ∀ q ∈ qs, Row w q.A encInt 1 q.xs ∧ q.xs.length ≤ maxLen
theorem RowXX.below {w w' : World} {A : Option Addr} {yss : List (List Int)} (h : RowXX w A yss) (hb : Below w.heap.size w w') : RowXX w' A yss := by
  obtain ⟨qs, h1, h2, h3⟩ := h
  exact ⟨qs, h1, h2.below hb, fun q hq => ⟨(h3 q hq).1.below hb, (h3 q hq).2⟩⟩
theorem RowXX.drew {w : World} {A : Option Addr} {yss : List (List Int)} (h : RowXX w A yss) : RowXX w.drew A yss := h
theorem RowXX.at_ {w : World} {A : Option Addr} {yss : List (List Int)} (h : RowXX w A yss) {k : Nat} (hk : k < yss.length) :
    ∃ b off A' c', A = some ⟨b, off, none⟩ ∧ b < w.heap.size ∧ w.cell? ⟨b, off + k, none⟩ = some (.slice A' yss[k].length c') ∧ Row w A' encInt 1 yss[k] ∧ yss[k].length ≤ maxLen := by
  obtain ⟨qs, rfl, h2, h3⟩ := h
  have hk' : k < qs.length := by simpa using hk
  obtain ⟨b, off, hA, hb, c0⟩ := h2.at1 (f := fun q : Sl Int => .slice q.A q.xs.length q.c) hk'
  have h4 := h3 _ (List.getElem_mem hk')
  refine ⟨b, off, qs[k].A, qs[k].c, hA, hb, ?_, ?_, ?_⟩
  · simpa using c0
  · simpa using h4.1
  · simpa using h4.2
abbrev vSl (q : Sl Int) : Value := .slice q.A q.xs.length q.c
/-- A slice of slices of the call's own; hi is above the rows' blocks. -/
def OwnXX (w : World) (base hi : Nat) (E T : TypeId) (v : Value) (yss : List (List Int)) : Prop :=
  ∃ qs : List (Sl Int), xss qs = yss ∧ Own w base E encSl 1 v qs ∧ (∀ q ∈ qs, Own w base T encInt 1 (vSl q) q.xs ∧ q.xs.length ≤ maxLen ∧ ∀ g, (vSl q).ownBlock = some g → g < hi ∧ v.ownBlock ≠ some g) ∧
    qs.Pairwise (fun p q => ∀ g, (vSl p).ownBlock = some g → (vSl q).ownBlock ≠ some g)
theorem OwnXX.below {w w' : World} {base hi : Nat} {E T : TypeId} {v : Value} {yss : List (List Int)} (h : OwnXX w base hi E T v yss) (hb : Below w.heap.size w w') : OwnXX w' base hi E T v yss := by
  obtain ⟨qs, h1, h2, h3, h4⟩ := h
  exact ⟨qs, h1, h2.below hb, fun q hq => ⟨(h3 q hq).1.below hb, (h3 q hq).2⟩, h4⟩
theorem OwnXX.form {w : World} {base hi : Nat} {E T : TypeId} {v : Value} {yss : List (List Int)} (h : OwnXX w base hi E T v yss) : ∃ A c, v = .slice A yss.length c ∧ RowXX w A yss ∧ True := by
  obtain ⟨qs, h1, h2, h3, h4⟩ := h
  obtain ⟨A, c, hv, hr, _⟩ := h2.form
  exact ⟨A, c, by rw [hv, ← h1]; simp, ⟨qs, h1, hr, fun q hq => ⟨own_row (h3 q hq).1, (h3 q hq).2.1⟩⟩, trivial⟩
theorem mem_take_set {α : Type} {ys : List α} {k : Nat} {y q : α} (h : q ∈ (ys.set k y).take (k + 1)) : q ∈ ys.take k ∨ q = y := by
  obtain ⟨j, hj, rfl⟩ := List.getElem_of_mem h
  rw [List.length_take, List.length_set] at hj
  rw [List.getElem_take]
  rcases Nat.lt_or_ge j k with h1 | h1
  · rw [List.getElem_set_ne (by omega)]
    exact .inl (List.mem_of_getElem? (i := j) (by rw [List.getElem?_take, if_pos h1, List.getElem?_eq_getElem]))
  · have : j = k := by omega
    subst this
    rw [List.getElem_set_self]
    exact .inr rfl
theorem xss_take_set {ys : List (Sl Int)} {yss : List (List Int)} {k : Nat} {q : Sl Int} (hl : ys.length = yss.length) (h : xss (ys.take k) = yss.take k) (hk : k < yss.length) (hq : q.xs = yss[k]) : xss ((ys.set k q).take (k + 1)) = yss.take (k + 1) := by
  rw [List.take_succ_eq_append_getElem (by rw [List.length_set]; omega), List.take_succ_eq_append_getElem hk, List.take_set_of_le (Nat.le_refl _), List.getElem_set_self]
  unfold xss at h ⊢
  rw [List.map_append, h, List.map_cons, List.map_nil, hq]
set_option maxHeartbeats 800000 in
theorem szInt64SS_any (A : Option Addr) (c : Nat) (xs : List (List Int)) (l : Int) (hn : xs.length ≤ maxLen) (hxs : ∀ r ∈ xs, r.length ≤ maxLen ∧ ∀ x ∈ r, I64 x) (h0 : 0 ≤ l) (h1 : l ≤ 1048576) (w : World) (rx : RowXX w A xs) :
    Calls Try.prog 51 #[.slice A xs.length c, .int .i64 l] w fun e w' => ∃ r : Int, e = .returned (.int .i64 r) ∧ (0 ≤ r → (xs.length : Int) ≤ l ∧ r ≤ l ∧ ∀ x ∈ xs, (x.length : Int) ≤ l) ∧ Below w.heap.size w w' := by
  unfold maxLen at hn
  by_cases hle : (xs.length : Int) ≤ l
  · have t1 : decide (l - (xs.length : Int) < 0) = false := by simp; omega
    go_enter Try.func51, Try.ntmps51
    go_wp2
    go_loopw [1, 5] (fun m i wr => ∃ (k : Nat) (r : Int), k ≤ xs.length ∧ 0 ≤ r ∧ r ≤ l - xs.length ∧ (∀ x ∈ xs.take k, (x.length : Int) ≤ l) ∧ Below w.heap.size w wr ∧ m = .int .i64 r ∧ i = .int .i64 k) (fun _ i _ => xs.length - (intOf i).toNat)
    case atStart => exact ⟨0, _, Nat.zero_le _, by omega, by omega, by simp, Below.refl _ _, rfl, rfl⟩
    case round =>
      obtain ⟨k, r, hk, hr0, hr1, htk, hbw, rfl, rfl⟩ := hrel
      have HT := Lib.hid htk
      clear htk
      by_cases hlt : k < xs.length
      · obtain ⟨b, off, A', c', rfl, hb, c0, rr, hll⟩ := (rx.below hbw).at_ hlt
        go_wp2_with (go_at_call 104; refine (szInt64S_any _ _ xs[k] r hll hr0 (by omega) _).mono ?_; rintro e w5 ⟨r2, rfl, hr2, hb5⟩; have HR2 := Lib.hid hr2; clear hr2)
        · go_ret
          exact ⟨_, rfl, by omega, bnext hbw hb5⟩
        · go_roundw
          case rel =>
            have h2 := HR2.out (by omega)
            refine ⟨k + 1, _, by omega, by omega, by omega, take_all_succ hlt HT.out (by omega), bnext hbw hb5, rfl, by go_num⟩
          case measure => simp [intOf]; omega
      · go_wp2
        go_ret
        have htk := HT.out
        rw [List.take_of_length_le (by omega)] at htk
        exact ⟨_, rfl, fun _ => ⟨by omega, by omega, htk⟩, hbw⟩
  · have t1 : decide (l - (xs.length : Int) < 0) = true := by simp; omega
    go_enter Try.func51, Try.ntmps51
    go_wp2
    go_ret
    exact ⟨_, rfl, by omega, Below.refl _ _⟩
theorem info_Int64SS : (Try.prog.info? 26).map (fun i => (i.zero, i.size, i.bytes)) = some (some (.slice none 0 0), 1, 24) := by kernel_rfl
set_option maxHeartbeats 1600000 in
set_option maxRecDepth 10000 in
theorem toInt64SS_any (A : Option Addr) (c : Nat) (xs : List (List Int)) (hx : xs.length ≤ 1048576) (hu : ∀ r ∈ xs, r.length ≤ 1048576 ∧ ∀ x ∈ r, I64 x) (w : World) (rx : RowXX w A xs) :
    Calls Try.prog 53 #[.slice A xs.length c] w fun e w' => ∃ v, e = .returned v ∧ OwnXX w' w.heap.size w'.heap.size 26 2 v xs ∧ Below w.heap.size w w' := by
  obtain ⟨i0, hi, hz, hsz, hby⟩ := info_parts info_Int64SS
  go_enter Try.func53, Try.ntmps53
  have hmk := fun W => run_make_rowN (P := Try.prog) 38 26 i0 _ Try.underlying38 hi hz .i64 .i64 xs.length xs.length (Nat.le_refl _) (by rw [hby]; omega) (by omega) W
  rw [hsz] at hmk
  go_wp2
  go_loopw [4] (fun i wr => ∃ (k : Nat) (ys : List (Sl Int)), k ≤ xs.length ∧ ys.length = xs.length ∧ xss (ys.take k) = xs.take k ∧ Own wr w.heap.size 26 encSl 1 (.slice (some ⟨w.heap.size, 0, none⟩) xs.length xs.length) ys ∧
    ((∀ q ∈ ys.take k, Own wr (w.heap.size + 1) 2 encInt 1 (.slice q.A q.xs.length q.c) q.xs ∧ q.xs.length ≤ maxLen) ∧ (ys.take k).Pairwise (fun p q => ∀ g, (vSl p).ownBlock = some g → (vSl q).ownBlock ≠ some g)) ∧ w.heap.size < wr.heap.size ∧ Below w.heap.size w wr ∧ i = .int .i64 k) (fun i _ => xs.length - (intOf i).toNat)
  case atStart =>
    have hm := Own.made (e := encSl) w (fun _ => rfl) w.heap.size 26 (⟨none, 0, []⟩ : Sl Int) xs.length (Nat.le_refl _) (by unfold maxLen; omega)
    exact ⟨0, List.replicate xs.length ⟨none, 0, []⟩, Nat.zero_le _, by simp, by simp, by rw [Nat.mul_one] at hm; exact hm, ⟨fun q hq => by simp at hq, by simp⟩, by simp, bal (Below.refl _ _) _, rfl⟩
  case round =>
    obtain ⟨k, ys, hk, hyl, htk, hown, hin, hsw, hbw, rfl⟩ := hrel
    have HY := Lib.hid hyl
    have HT := Lib.hid htk
    have HIn := Lib.hid hin
    clear hyl htk hin
    by_cases hlt : k < xs.length
    · obtain ⟨b, off, A', c', rfl, hb, c0, rr, hll⟩ := (rx.below hbw).at_ hlt
      have hky : k < ys.length := by rw [HY.out]; exact hlt
      have hur := hu _ (List.getElem_mem hlt)
      obtain ⟨hur1, hur2⟩ := hur
      have HU := Lib.hid hur2
      clear hur2
      go_wp2_with (go_at_call 108; refine (toInt64S_any _ _ xs[k] hur1 _ rr).mono ?_; rintro e w5 ⟨v5, rfl, ho5, hb5⟩; obtain ⟨A5, c5, rfl, r5, hob5⟩ := ho5.form; have HO5 := Lib.hid hob5; clear hob5; have d0 : w5.cell? ⟨w.heap.size, k, none⟩ = some (encSl ys[k])[0] := (by have := (hown.below hb5).cell (j := 0) hky rfl; simpa using this); have z0 := (hown.below hb5).frozen k)
      go_roundw
      case rel =>
        refine ⟨k + 1, ys.set k ⟨A5, c5, xs[k]⟩, by omega, by rw [List.length_set]; exact HY.out, xss_take_set HY.out HT.out hlt rfl, (hown.below hb5).store1 (f := fun q : Sl Int => .slice q.A q.xs.length q.c) hky ⟨A5, c5, xs[k]⟩, ?_, by have := hb5.size; simp; omega, (bnext hbw hb5).setCell (Nat.le_refl _) _, by go_num⟩
        refine ⟨?_, ?_⟩
        · intro q hq
          rcases mem_take_set hq with h1 | h1
          · exact ⟨((HIn.out.1 q h1).1.below hb5).setBelow (Nat.lt_succ_self _) _, (HIn.out.1 q h1).2⟩
          · subst h1
            exact ⟨(ho5.mono (base' := w.heap.size + 1) hsw).setBelow (Nat.lt_succ_self _) _, by show xs[k].length ≤ maxLen; exact hll⟩
        · have e1 : (ys.set k (⟨A5, c5, xs[k]⟩ : Sl Int)).take (k + 1) = ys.take k ++ [⟨A5, c5, xs[k]⟩] := by
            rw [List.take_succ_eq_append_getElem (by rw [List.length_set]; exact hky), List.take_set_of_le (Nat.le_refl _), List.getElem_set_self]
          rw [e1, List.pairwise_append]
          refine ⟨HIn.out.2, by simp, fun p hp q hq g hg hh => ?_⟩
          simp only [List.mem_cons, List.not_mem_nil, or_false] at hq
          subst hq
          have h1 := ((HIn.out.1 p hp).1.2.lt g hg).2
          have h2 := (ho5.2.lt g hh).1
          omega
      case measure => simp [intOf]; omega
    · go_wp2
      go_ret
      have hk2 : k = xs.length := by omega
      have hl2 := HY.out
      have ht2 := HT.out
      have hi2 := HIn.out
      rw [List.take_of_length_le (by omega), List.take_of_length_le (by omega)] at ht2
      rw [List.take_of_length_le (by omega)] at hi2
      exact ⟨_, rfl, ⟨ys, ht2, hown, fun q hq => ⟨(hi2.1 q hq).1.mono (Nat.le_succ _), (hi2.1 q hq).2, fun g hg => ⟨((hi2.1 q hq).1.2.lt g hg).2, fun hh => by have h1 := ((hi2.1 q hq).1.2.lt g hg).1; have hh2 : w.heap.size = g := (by simpa [Value.ownBlock] using hh); omega⟩⟩, hi2.2⟩, hbw⟩
set_option maxHeartbeats 1600000 in
set_option maxRecDepth 10000 in
theorem eqInt64SS_any (A C : Option Addr) (c d : Nat) (xs ys : List (List Int)) (hx : xs.length ≤ 1099511627776) (hy : ys.length ≤ 1099511627776) (hu : ∀ r ∈ xs, r.length ≤ 1048576 ∧ ∀ x ∈ r, I64 x) (hu2 : ∀ r ∈ ys, r.length ≤ 1048576 ∧ ∀ x ∈ r, I64 x) (w : World) (rx : RowXX w A xs) (ry : RowXX w C ys) :
    Calls Try.prog 25 #[.slice A xs.length c, .slice C ys.length d] w fun e w' => ∃ b : Bool, e = .returned (.bool b) ∧ (b = true ↔ xs = ys) ∧ Below w.heap.size w w' := by
  by_cases hl : xs.length = ys.length
  · have hl1 : xs.length ≤ ys.length := by omega
    have hl2 : ys.length ≤ xs.length := by omega
    have ht : ((xs.length : Int) != (ys.length : Int)) = false := by simp [hl]
    clear hl
    go_enter Try.func25, Try.ntmps25
    go_wp2
    go_loopw [5] (fun i wr => ∃ k : Nat, k ≤ xs.length ∧ xs.take k = ys.take k ∧ Below w.heap.size w wr ∧ i = .int .i64 k) (fun i _ => xs.length - (intOf i).toNat)
    case atStart => exact ⟨0, Nat.zero_le _, rfl, Below.refl _ _, rfl⟩
    case round =>
      obtain ⟨k, hk, htk, hbw, rfl⟩ := hrel
      have HT := Lib.hid htk
      clear htk
      by_cases hlt : k < xs.length
      · obtain ⟨b, off, A', c', rfl, hb, c0, rr, hll⟩ := (rx.below hbw).at_ hlt
        have hlt' : k < ys.length := by omega
        obtain ⟨b', off', A'', c'', rfl, hb', c0', rr', hll'⟩ := (ry.below hbw).at_ hlt'
        have i1 : (0 : Int) ≤ (k : Int) := by omega
        have i2 : (k : Int) < (xs.length : Int) := by omega
        have i3 : (k : Int) < (ys.length : Int) := by omega
        have hll2 : xs[k].length ≤ 1099511627776 := by have := (hu _ (List.getElem_mem hlt)).1; omega
        have hll3 : ys[k].length ≤ 1099511627776 := by have := (hu2 _ (List.getElem_mem hlt')).1; omega
        go_wp2_with fail
        go_region_held3 (fun w' => w'.cell? ⟨b, off + k, none⟩ = some (.slice A' xs[k].length c') ∧ w'.cell? ⟨b', off' + k, none⟩ = some (.slice A'' ys[k].length c'')) (first | exact ⟨c0, c0'⟩ | exact ⟨(hb5.cell (p := ⟨b, _, none⟩) hb).trans c0, (hb5.cell (p := ⟨b', _, none⟩) hb').trans c0'⟩) (first | (go_at_call 18; refine (eqInt64S_any _ _ _ _ xs[k] ys[k] hll2 hll3 _ rr.drew rr'.drew).mono ?_; rintro e w5 ⟨b5, rfl, hq5, hb5⟩; have HQ := Lib.hid hq5; clear hq5; have hb6 := bundrew hb5))
        cases b5 with
        | false =>
          go_wp2_with fail
          go_ret
          exact ⟨false, rfl, nott fun h => by subst h; exact absurd (HQ.out.2 rfl) (by simp), bnext hbw hb6⟩
        | true =>
          go_wp2_with fail
          go_roundw
          case rel =>
            refine ⟨k + 1, by omega, ?_, bnext hbw hb6, by go_num⟩
            rw [List.take_succ_eq_append_getElem hlt, List.take_succ_eq_append_getElem hlt', HT.out, HQ.out.1 rfl]
          case measure => simp [intOf]; omega
      · go_wp2
        go_ret
        have htk := HT.out
        rw [List.take_of_length_le (by omega), List.take_of_length_le (by omega)] at htk
        exact ⟨true, rfl, yest htk, hbw⟩
  · have ht : ((xs.length : Int) != (ys.length : Int)) = true := by simp [bne_iff_ne]; omega
    go_enter Try.func25, Try.ntmps25
    go_wp2
    go_ret
    exact ⟨false, rfl, nott fun h => hl (by rw [h]), Below.refl _ _⟩
end Go.Proofs.Yteepcnfpdmmnhaa
