/-
  TPairs: tables of numbers ([][]int64) as lists of lists: contracts of szInt64SS, toInt64SS, eqInt64SS.
-/
import Derived.Test.YtampmnicnomknaaTInt64S
import Derived.Test.YtampmnicnomknaaMore
namespace Go.Proofs.Ytampmnicnomknaa
open Go.RowKit
set_option linter.unusedVariables false
attribute [local go_sem ↓] Go.wp_at_zero Go.wp_at_succ
abbrev xss (qs : List (Sl Int)) : List (List Int) := qs.map fun q => q.xs
/-- A slice of slices that reads as a table. -/
def RowXX (w : World) (A : Option Addr) (yss : List (List Int)) : Prop :=
  ∃ qs : List (Sl Int), xss qs = yss ∧ Row w A encSl 1 qs ∧ ∀ q ∈ qs, Row w q.A encInt 1 q.xs ∧ q.xs.length ≤ maxLen
theorem RowXX.below {w w' : World} {A : Option Addr} {yss : List (List Int)} (h : RowXX w A yss) (hb : Below w.heap.size w w') : RowXX w' A yss := by
  obtain ⟨qs, h1, h2, h3⟩ := h
  exact ⟨qs, h1, h2.below hb, fun q hq => ⟨(h3 q hq).1.below hb, (h3 q hq).2⟩⟩
theorem RowXX.drew {w : World} {A : Option Addr} {yss : List (List Int)} (h : RowXX w A yss) : RowXX w.drew A yss := h
theorem RowXX.at_ {w : World} {A : Option Addr} {yss : List (List Int)} (h : RowXX w A yss) {k : Nat} (hk : k < yss.length) :
    ∃ b off A' c', A = some ⟨b, off, none⟩ ∧ b < w.heap.size ∧ w.cell? ⟨b, off + k, none⟩ = some (.slice A' yss[k].length c') ∧ Row w A' encInt 1 yss[k] ∧ yss[k].length ≤ maxLen := by
  obtain ⟨qs, rfl, h2, h3⟩ := h
  have hk' : k < qs.length := by simpa using hk
  obtain ⟨b, off, hA, hb, c0⟩ := h2.at1 (f := fun q : Sl Int => .slice q.A q.xs.length q.c) hk'
  have h4 := h3 _ (List.getElem_mem hk')
  refine ⟨b, off, qs[k].A, qs[k].c, hA, hb, ?_, ?_, ?_⟩
  · simpa using c0
  · simpa using h4.1
  · simpa using h4.2
abbrev vSl (q : Sl Int) : Value := .slice q.A q.xs.length q.c
/-- A slice of slices of the call's own; hi is above the rows' blocks. -/
def OwnXX (w : World) (base hi : Nat) (E T : TypeId) (v : Value) (yss : List (List Int)) : Prop :=
  ∃ qs : List (Sl Int), xss qs = yss ∧ Own w base E encSl 1 v qs ∧ (∀ q ∈ qs, Own w base T encInt 1 (vSl q) q.xs ∧ q.xs.length ≤ maxLen ∧ ∀ g, (vSl q).ownBlock = some g → g < hi ∧ v.ownBlock ≠ some g) ∧
    qs.Pairwise (fun p q => ∀ g, (vSl p).ownBlock = some g → (vSl q).ownBlock ≠ some g)
theorem OwnXX.below {w w' : World} {base hi : Nat} {E T : TypeId} {v : Value} {yss : List (List Int)} (h : OwnXX w base hi E T v yss) (hb : Below w.heap.size w w') : OwnXX w' base hi E T v yss := by
  obtain ⟨qs, h1, h2, h3, h4⟩ := h
  exact ⟨qs, h1, h2.below hb, fun q hq => ⟨(h3 q hq).1.below hb, (h3 q hq).2⟩, h4⟩
theorem OwnXX.form {w : World} {base hi : Nat} {E T : TypeId} {v : Value} {yss : List (List Int)} (h : OwnXX w base hi E T v yss) : ∃ A c, v = .slice A yss.length c ∧ RowXX w A yss ∧ True := by
  obtain ⟨qs, h1, h2, h3, h4⟩ := h
  obtain ⟨A, c, hv, hr, _⟩ := h2.form
  exact ⟨A, c, by rw [hv, ← h1]; simp, ⟨qs, h1, hr, fun q hq => ⟨own_row (h3 q hq).1, (h3 q hq).2.1⟩⟩, trivial⟩
theorem mem_take_set {α : Type} {ys : List α} {k : Nat} {y q : α} (h : q ∈ (ys.set k y).take (k + 1)) : q ∈ ys.take k ∨ q = y := by
  obtain ⟨j, hj, rfl⟩ := List.getElem_of_mem h
  rw [List.length_take, List.length_set] at hj
  rw [List.getElem_take]
  rcases Nat.lt_or_ge j k with h1 | h1
  · rw [List.getElem_set_ne (by omega)]
    exact .inl (List.mem_of_getElem? (i := j) (by rw [List.getElem?_take, if_pos h1, List.getElem?_eq_getElem]))
  · have : j = k := by omega
    subst this
    rw [List.getElem_set_self]
    exact .inr rfl
theorem xss_take_set {ys : List (Sl Int)} {yss : List (List Int)} {k : Nat} {q : Sl Int} (hl : ys.length = yss.length) (h : xss (ys.take k) = yss.take k) (hk : k < yss.length) (hq : q.xs = yss[k]) : xss ((ys.set k q).take (k + 1)) = yss.take (k + 1) := by
  rw [List.take_succ_eq_append_getElem (by rw [List.length_set]; omega), List.take_succ_eq_append_getElem hk, List.take_set_of_le (Nat.le_refl _), List.getElem_set_self]
  unfold xss at h ⊢
  rw [List.map_append, h, List.map_cons, List.map_nil, hq]
theorem info_Int64SS : (Try.prog.info? 29).map (fun i => (i.zero, i.size, i.bytes)) = some (some (.slice none 0 0), 1, 24) := by kernel_rfl
set_option maxHeartbeats 1600000 in
set_option maxRecDepth 10000 in
theorem eqInt64SS_any (A C : Option Addr) (c d : Nat) (xs ys : List (List Int)) (hx : xs.length ≤ 1099511627776) (hy : ys.length ≤ 1099511627776) (hu : ∀ r ∈ xs, r.length ≤ 1048576 ∧ ∀ x ∈ r, I64 x) (hu2 : ∀ r ∈ ys, r.length ≤ 1048576 ∧ ∀ x ∈ r, I64 x) (w : World) (rx : RowXX w A xs) (ry : RowXX w C ys) :
    Calls Try.prog 6 #[.slice A xs.length c, .slice C ys.length d] w fun e w' => ∃ b : Bool, e = .returned (.bool b) ∧ (b = true ↔ xs = ys) ∧ Below w.heap.size w w' := by
  by_cases hl : xs.length = ys.length
  · have hl1 : xs.length ≤ ys.length := by omega
    have hl2 : ys.length ≤ xs.length := by omega
    have ht : ((xs.length : Int) != (ys.length : Int)) = false := by simp [hl]
    clear hl
    go_enter Try.func6, Try.ntmps6
    go_wp2
    go_loopw [5] (fun i wr => ∃ k : Nat, k ≤ xs.length ∧ xs.take k = ys.take k ∧ Below w.heap.size w wr ∧ i = .int .i64 k) (fun i _ => xs.length - (intOf i).toNat)
    case atStart => exact ⟨0, Nat.zero_le _, rfl, Below.refl _ _, rfl⟩
    case round =>
      obtain ⟨k, hk, htk, hbw, rfl⟩ := hrel
      have HT := Lib.hid htk
      clear htk
      by_cases hlt : k < xs.length
      · obtain ⟨b, off, A', c', rfl, hb, c0, rr, hll⟩ := (rx.below hbw).at_ hlt
        have hlt' : k < ys.length := by omega
        obtain ⟨b', off', A'', c'', rfl, hb', c0', rr', hll'⟩ := (ry.below hbw).at_ hlt'
        have i1 : (0 : Int) ≤ (k : Int) := by omega
        have i2 : (k : Int) < (xs.length : Int) := by omega
        have i3 : (k : Int) < (ys.length : Int) := by omega
        have hll2 : xs[k].length ≤ 1099511627776 := by have := (hu _ (List.getElem_mem hlt)).1; omega
        have hll3 : ys[k].length ≤ 1099511627776 := by have := (hu2 _ (List.getElem_mem hlt')).1; omega
        go_wp2_with fail
        go_region_held3 (fun w' => w'.cell? ⟨b, off + k, none⟩ = some (.slice A' xs[k].length c') ∧ w'.cell? ⟨b', off' + k, none⟩ = some (.slice A'' ys[k].length c'')) (first | exact ⟨c0, c0'⟩ | exact ⟨(hb5.cell (p := ⟨b, _, none⟩) hb).trans c0, (hb5.cell (p := ⟨b', _, none⟩) hb').trans c0'⟩) (first | (go_at_call 13; refine (eqInt64S_any _ _ _ _ xs[k] ys[k] hll2 hll3 _ rr.drew rr'.drew).mono ?_; rintro e w5 ⟨b5, rfl, hq5, hb5⟩; have HQ := Lib.hid hq5; clear hq5; have hb6 := bundrew hb5))
        cases b5 with
        | false =>
          go_wp2_with fail
          go_ret
          exact ⟨false, rfl, nott fun h => by subst h; exact absurd (HQ.out.2 rfl) (by simp), bnext hbw hb6⟩
        | true =>
          go_wp2_with fail
          go_roundw
          case rel =>
            refine ⟨k + 1, by omega, ?_, bnext hbw hb6, by go_num⟩
            rw [List.take_succ_eq_append_getElem hlt, List.take_succ_eq_append_getElem hlt', HT.out, HQ.out.1 rfl]
          case measure => simp [intOf]; omega
      · go_wp2
        go_ret
        have htk := HT.out
        rw [List.take_of_length_le (by omega), List.take_of_length_le (by omega)] at htk
        exact ⟨true, rfl, yest htk, hbw⟩
  · have ht : ((xs.length : Int) != (ys.length : Int)) = true := by simp [bne_iff_ne]; omega
    go_enter Try.func6, Try.ntmps6
    go_wp2
    go_ret
    exact ⟨false, rfl, nott fun h => hl (by rw [h]), Below.refl _ _⟩
end Go.Proofs.Ytampmnicnomknaa
